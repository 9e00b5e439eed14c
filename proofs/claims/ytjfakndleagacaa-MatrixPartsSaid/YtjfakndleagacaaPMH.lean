/- What functions answer (contracts). No condition. -/
import Derived.Test.YtjfakndleagacaaPSxG
import Derived.Test.YtjfakndleagacaaPSxX
import Derived.Test.YtjfakndleagacaaPPolB
import Derived.Test.YtjfakndleagacaaRows
import Derived.WalkKit
import Derived.Handy
import Derived.ProofKit
import Derived.OpenShut
import Derived.ShutString
import Derived.ChangeOld
import Derived.Below
import Derived.Lib.Hide
import Derived.WalkLawsBesides
import Derived.WalkSpells
import Derived.Deep.QuietTactic
import Derived.BigQuiet
import Derived.Deep.OwnRows
import Derived.BigRegion
set_option linter.unusedSectionVars false
set_option linter.unusedSimpArgs false
set_option linter.unusedVariables false
set_option maxHeartbeats 4000000
set_option maxRecDepth 100000
namespace Go.Proofs.Ytjfakndleagacaa
open Go.RowKit
structure LR (α : Type) where
  sz : Nat
  ea : (Nat → AV) → α → List AV
def LR.i64 : LR Int := ⟨1, fun _ x => [.v (.int .i64 x)]⟩
def LR.u8 : LR UInt8 := ⟨1, fun _ x => [.v (.int .u8 x.toNat)]⟩
def LR.boo : LR Bool := ⟨1, fun _ x => [.v (.bool x)]⟩
def LR.str : LR ByteArray := ⟨1, fun _ x => [.v (.string x)]⟩
def LR.row {α : Type} (A : LR α) : LR (Row α) := ⟨1, fun ρ r => [match r.kd with
  | .nil => .emp
  | .own => .own r.id A.sz 0 r.n
  | .lst => .lst A.sz (r.xs.map (A.ea ρ))]⟩
def LR.list {α : Type} (A : LR α) : LR (List α) := ⟨1, fun ρ xs => [.lst A.sz (xs.map (A.ea ρ))]⟩
section
variable {τ : Type} {dn : τ → Type}
structure LY (E : TE τ dn) {α : Type} (R : LR α) where
  es : α → List (SV τ dn)
  ds : List (SV τ dn) → Option α
  df : α
  es_av : ∀ (N : Nms) (x : α), (es x).map (SV.av E N) = R.ea N.ρ x
  ds_le : ∀ (N : Nms) (cs : List (SV τ dn)) (x : α), ds cs = some x → AleL (cs.map (SV.av E N)) (R.ea N.ρ x)
  em : Bool
  pu : Bool
  ds_eq : ∀ (N : Nms) (cs : List (SV τ dn)) (x : α), ds cs = some x → (em = true ∨ cs.all SV.ne = true) → cs.map (SV.av E N) = R.ea N.ρ x
  len : ∀ x, (es x).length = R.sz
  one : ∀ x, (es x).all SV.one = true
  nf : ∀ (p : Nat → Bool) x, SV.frL p (es x) = true
  pρ : ∀ (ρ ρ' : Nat → AV) (x : α), R.ea ρ x = R.ea ρ' x
  pu1 : ∀ (N : Nms) (x : α), pu = true → (R.ea N.ρ x).all AV.pu1 = true
variable {E : TE τ dn}
def dsI : List (SV τ dn) → Option Int
  | [.vi x] => some x
  | [.vn x] => some x
  | _ => none
def dsY : List (SV τ dn) → Option UInt8
  | [.vy x] => some x
  | _ => none
def dsB : List (SV τ dn) → Option Bool
  | [.vt x] => some x
  | [.vb c] => some c.den
  | _ => none
def dsZ : List (SV τ dn) → Option ByteArray
  | [.vz x] => some x
  | _ => none
theorem dsI_av {N : Nms} {cs : List (SV τ dn)} {x : Int} (h : dsI cs = some x) : cs.map (SV.av E N) = [.v (.int .i64 x)] := by
  unfold dsI at h; split at h <;> simp only [Option.some.injEq, reduceCtorEq] at h <;> subst h <;> rfl
theorem dsY_av {N : Nms} {cs : List (SV τ dn)} {x : UInt8} (h : dsY cs = some x) : cs.map (SV.av E N) = [.v (.int .u8 x.toNat)] := by
  unfold dsY at h; split at h <;> simp only [Option.some.injEq, reduceCtorEq] at h; subst h; rfl
theorem dsB_av {N : Nms} {cs : List (SV τ dn)} {x : Bool} (h : dsB cs = some x) : cs.map (SV.av E N) = [.v (.bool x)] := by
  unfold dsB at h; split at h <;> simp only [Option.some.injEq, reduceCtorEq] at h <;> subst h <;> rfl
theorem dsZ_av {N : Nms} {cs : List (SV τ dn)} {x : ByteArray} (h : dsZ cs = some x) : cs.map (SV.av E N) = [.v (.string x)] := by
  unfold dsZ at h; split at h <;> simp only [Option.some.injEq, reduceCtorEq] at h; subst h; rfl
theorem AleL.of_eq {a b : List AV} (h : a = b) : AleL a b := by
  subst h
  induction a with
  | nil => exact .nil
  | cons x r ih => exact .cons Ale.refl ih
def LY.i64 : LY E LR.i64 where
  es x := [.vi x]
  ds := dsI
  df := 0
  es_av _ _ := rfl
  ds_le _ _ _ h := .of_eq (dsI_av h)
  em := true
  pu := true
  ds_eq _ _ _ h _ := dsI_av h
  len _ := rfl
  one _ := rfl
  nf _ _ := rfl
  pρ _ _ _ := rfl
  pu1 _ _ _ := rfl
def LY.u8 : LY E LR.u8 where
  es x := [.vy x]
  ds := dsY
  df := 0
  es_av _ _ := rfl
  ds_le _ _ _ h := .of_eq (dsY_av h)
  em := true
  pu := true
  ds_eq _ _ _ h _ := dsY_av h
  len _ := rfl
  one _ := rfl
  nf _ _ := rfl
  pρ _ _ _ := rfl
  pu1 _ _ _ := rfl
def LY.boo : LY E LR.boo where
  es x := [.vb (.b x)]
  ds := dsB
  df := false
  es_av _ _ := rfl
  ds_le _ _ _ h := .of_eq (dsB_av h)
  em := true
  pu := true
  ds_eq _ _ _ h _ := dsB_av h
  len _ := rfl
  one _ := rfl
  nf _ _ := rfl
  pρ _ _ _ := rfl
  pu1 _ _ _ := rfl
def LY.str : LY E LR.str where
  es x := [.vz x]
  ds := dsZ
  df := ByteArray.empty
  es_av _ _ := rfl
  ds_le _ _ _ h := .of_eq (dsZ_av h)
  em := true
  pu := true
  ds_eq _ _ _ h _ := dsZ_av h
  len _ := rfl
  one _ := rfl
  nf _ _ := rfl
  pρ _ _ _ := rfl
  pu1 _ _ _ := rfl
def dsP {α β : Type} (n : Nat) (a : List (SV τ dn) → Option α) (b : List (SV τ dn) → Option β) (cs : List (SV τ dn)) : Option (α × β) :=
  match a (cs.take n), b (cs.drop n) with
  | some x, some y => some (x, y)
  | _, _ => none
def dsE {α : Type} (em : Bool) (ds : List (SV τ dn) → Option α) : List (List (SV τ dn)) → Option (List α)
  | [] => some []
  | cs :: r => if (em || cs.all SV.ne) = true then (match ds cs, dsE em ds r with
    | some x, some l => some (x :: l)
    | _, _ => none) else none
theorem dsE_av {t : τ} {R : LR (dn t)} (A : LY E R) (N : Nms) : ∀ {els : List (List (SV τ dn))} {xs : List (dn t)}, dsE A.em A.ds els = some xs → SV.avM E N els = xs.map (R.ea N.ρ)
  | [], xs, h => by simp only [dsE, Option.some.injEq] at h; subst h; rfl
  | cs :: r, xs, h => by
    simp only [dsE] at h
    split at h
    · rename_i hn
      split at h
      · rename_i x l h1 h2
        simp only [Option.some.injEq] at h; subst h
        simp only [SV.avM, List.map_cons, SV.avL_map, A.ds_eq N _ _ h1 (by rw [Bool.or_eq_true] at hn; exact hn), dsE_av A N h2]
      · simp at h
    · simp at h
section
variable [DecidableEq τ]
def dsL (t : τ) (sz : Nat) (em : Bool) (ds : List (SV τ dn) → Option (dn t)) : List (SV τ dn) → Option (List (dn t))
  | [.vl t' xs] => if h : t' = t then some (h ▸ xs) else none
  | [.vc k els] => if k = sz then dsE em ds els else none
  | [.emp] => some []
  | _ => none
theorem dsL_le {t : τ} {R : LR (dn t)} (A : LY E R) (hs : E.sz t = R.sz) (he : ∀ ρ, E.ea ρ t = R.ea ρ) (N : Nms) {cs : List (SV τ dn)} {xs : List (dn t)} (h : dsL t R.sz A.em A.ds cs = some xs) : AleL (cs.map (SV.av E N)) ((LR.list R).ea N.ρ xs) ∧ (cs.all SV.ne = true → cs.map (SV.av E N) = (LR.list R).ea N.ρ xs) := by
  unfold dsL at h
  split at h
  · rename_i t' ys
    split at h
    · rename_i ht
      subst ht
      simp only [Option.some.injEq] at h; subst h
      have : [SV.vl t' ys].map (SV.av E N) = (LR.list R).ea N.ρ ys := by
        simp only [List.map_cons, List.map_nil, SV.av, hs, he]; rfl
      exact ⟨.of_eq this, fun _ => this⟩
    · simp at h
  · rename_i k els
    split at h
    · rename_i hk
      subst hk
      have : [SV.vc R.sz els].map (SV.av E N) = (LR.list R).ea N.ρ xs := by
        simp only [List.map_cons, List.map_nil, SV.av, dsE_av A N h]; rfl
      exact ⟨.of_eq this, fun _ => this⟩
    · simp at h
  · simp only [Option.some.injEq] at h; subst h
    exact ⟨.cons Ale.emp .nil, fun hn => by simp [SV.ne] at hn⟩
  · simp at h
def LY.list {t : τ} {R : LR (dn t)} (A : LY E R) (hs : E.sz t = R.sz) (he : ∀ ρ, E.ea ρ t = R.ea ρ) : LY E (LR.list R) where
  es x := [.vl t x]
  ds := dsL t R.sz A.em A.ds
  df := []
  es_av N x := by simp only [List.map_cons, List.map_nil, SV.av, hs, he]; rfl
  ds_le N cs x h := (dsL_le A hs he N h).1
  em := false
  pu := true
  ds_eq N cs x h hn := (dsL_le A hs he N h).2 (hn.resolve_left (by simp))
  len _ := rfl
  one _ := rfl
  nf _ _ := rfl
  pρ ρ ρ' x := by show [AV.lst R.sz (x.map (R.ea ρ))] = [AV.lst R.sz (x.map (R.ea ρ'))]; rw [funext fun y => A.pρ ρ ρ' y]
  pu1 _ _ _ := rfl
def dsR (t : τ) (sz : Nat) (em : Bool) (ds : List (SV τ dn) → Option (dn t)) : List (SV τ dn) → Option (Row (dn t))
  | [.rw t' r] => if h : t' = t then some (h ▸ r) else none
  | [.vl t' xs] => if h : t' = t then some (Row.fix _ (h ▸ xs)) else none
  | [.vc k els] => if k = sz then (dsE em ds els).map fun xs => Row.fix _ xs else none
  | [.emp] => some (Row.no _)
  | _ => none
theorem rw_av {t : τ} {R : LR (dn t)} (hs : E.sz t = R.sz) (he : ∀ ρ, E.ea ρ t = R.ea ρ) (N : Nms) (r : Row (dn t)) : [(SV.rw t r : SV τ dn)].map (SV.av E N) = (LR.row R).ea N.ρ r := by
  simp only [List.map_cons, List.map_nil, SV.av, LR.row]
  cases r.kd <;> simp only [hs, he]
theorem dsR_av {t : τ} {R : LR (dn t)} (A : LY E R) (hs : E.sz t = R.sz) (he : ∀ ρ, E.ea ρ t = R.ea ρ) (N : Nms) {cs : List (SV τ dn)} {r : Row (dn t)} (h : dsR t R.sz A.em A.ds cs = some r) : cs.map (SV.av E N) = (LR.row R).ea N.ρ r := by
  unfold dsR at h
  split at h
  · rename_i t' q
    split at h
    · rename_i ht
      subst ht
      simp only [Option.some.injEq] at h; subst h
      exact rw_av hs he N _
    · simp at h
  · rename_i t' ys
    split at h
    · rename_i ht
      subst ht
      simp only [Option.some.injEq] at h; subst h
      simp only [List.map_cons, List.map_nil, SV.av, hs, he]; rfl
    · simp at h
  · rename_i k els
    split at h
    · rename_i hk
      subst hk
      simp only [Option.map_eq_some_iff] at h
      obtain ⟨xs, hx, rfl⟩ := h
      simp only [List.map_cons, List.map_nil, SV.av, dsE_av A N hx]; rfl
    · simp at h
  · simp only [Option.some.injEq] at h; subst h; rfl
  · simp at h
def LY.row {t : τ} {R : LR (dn t)} (A : LY E R) (hs : E.sz t = R.sz) (he : ∀ ρ, E.ea ρ t = R.ea ρ) : LY E (LR.row R) where
  es r := [.rw t r]
  ds := dsR t R.sz A.em A.ds
  df := Row.no _
  es_av N r := rw_av hs he N r
  ds_le N cs x h := .of_eq (dsR_av A hs he N h)
  em := true
  pu := false
  ds_eq N cs x h _ := dsR_av A hs he N h
  len _ := rfl
  one _ := rfl
  nf _ _ := rfl
  pρ ρ ρ' x := by
    simp only [LR.row]
    cases x.kd <;> first | rfl | (rw [funext fun y => A.pρ ρ ρ' y])
  pu1 _ _ h := by simp at h
end
def FzOk (E : TE τ dn) (ta : τ) (A : List (Nat × List (dn ta))) {α β : Type} (R : LR α) (R' : LR β) (f : α → β) (O : α → Prop) : Prop :=
  R'.sz = R.sz ∧ ∀ (N : Nms) (φ : AV → AV), (∀ a, a.pu1 = true → φ a = a) → (∀ id n, hasA A id → (lkA A id).length = n → φ (.own id (E.sz ta) 0 n) = .lst (E.sz ta) ((lkA A id).map (E.ea N.ρ ta))) → ∀ x, O x → (R.ea N.ρ x).map φ = R'.ea N.ρ (f x)
theorem FzOk.row {ta : τ} {A : List (Nat × List (dn ta))} {R : LR (dn ta)} (hs : E.sz ta = R.sz) (he : ∀ ρ, E.ea ρ ta = R.ea ρ) : FzOk E ta A (LR.row R) (LR.list R) (fun r => r.get A) (fun r => r.ok A ∧ r.kd ≠ .nil) := by
  refine ⟨rfl, fun N φ h1 h2 x hx => ?_⟩
  simp only [LR.row, LR.list, List.map_cons, List.map_nil]
  obtain ⟨hx, hn⟩ := hx
  unfold Row.ok at hx
  cases hk : x.kd with
  | nil => exact absurd hk hn
  | own =>
    rw [hk] at hx
    have := h2 x.id x.n hx.1 hx.2
    rw [hs, he] at this
    simp only [this, Row.get, hk]
  | lst => simp only [h1 (.lst R.sz (x.xs.map (R.ea N.ρ))) rfl, Row.get, hk]
abbrev FZ (τ : Type) (dn : τ → Type) : Type := (t ta : τ) → (A : List (Nat × List (dn ta))) → Option ((t' : τ) × (dn t → dn t') × (dn t → Prop))
def TE.ofL (lr : (t : τ) → LR (dn t)) : TE τ dn := ⟨fun t => (lr t).sz, fun ρ t => (lr t).ea ρ⟩
def TD.ofL {lr : (t : τ) → LR (dn t)} (ly : (t : τ) → LY (TE.ofL lr) (lr t)) (ag : τ → Bool) (hint : Nat → Nat → Option τ) (neg : Bool) (ar : Option τ := none) (hr : τ → Bool := fun _ => false) (fz : FZ τ dn := fun _ _ _ => none) : TD τ dn where
  toTE := TE.ofL lr
  df t := (ly t).df
  es t := (ly t).es
  ds t := (ly t).ds
  ag := ag
  pu t := (ly t).pu
  hint := hint
  neg := neg
  em t := (ly t).em
  ar := ar
  hr := hr
  fz := fz
theorem TD.ofL_ok {lr : (t : τ) → LR (dn t)} {ly : (t : τ) → LY (TE.ofL lr) (lr t)} {ag : τ → Bool} {hint : Nat → Nat → Option τ} {neg : Bool} {ar : Option τ} {hr : τ → Bool} {fz : FZ τ dn} (hfz : ∀ (t ta : τ) (A : List (Nat × List (dn ta))) (t' : τ) (f : dn t → dn t') (O : dn t → Prop), fz t ta A = some ⟨t', f, O⟩ → FzOk (TE.ofL lr) ta A (lr t) (lr t') f O := by intro t ta A t' f O h; simp at h) : TDok (TD.ofL ly ag hint neg ar hr fz) where
  es_av N t x := (ly t).es_av N x
  ds_le N t cs x h := (ly t).ds_le N cs x h
  ds_eq N t cs x h hn := (ly t).ds_eq N cs x h (by unfold TD.nee at hn; rw [Bool.or_eq_true] at hn; exact hn)
  len t x := (ly t).len x
  one t x := (ly t).one x
  nf p t x := (ly t).nf p x
  pρ ρ ρ' t x _ := (ly t).pρ ρ ρ' x
  pu1 N t x h := (ly t).pu1 N x h
  fz N φ t ta A t' f O h h1 h2 := ⟨(hfz t ta A t' f O h).1, fun x hx => (hfz t ta A t' f O h).2 N φ h1 h2 x hx⟩
end
open Go.RowKit
structure LG {α : Type} [GoT α] (R : LR α) where
  big : α → Prop
  sz : R.sz = GoT.size α
  av : ∀ {w : World} {cs : List Value} {x : α}, GoT.rep w w.heap.size cs x → R2 (Rep (E0 w fun b => b < w.heap.size)) cs (R.ea (fun _ => .dead) x)
  one : ∀ {w : World} {cs : List Value} {x : α}, GoT.rep w w.heap.size cs x → ∀ v, v ∈ cs → v.oneCell' = true
  pu : ∀ (x : α) c, c ∈ R.ea (fun _ => .dead) x → Pu c
  bg : ∀ {w : World} {cs : List Value} {x : α}, GoT.rep w w.heap.size cs x → big x
def LG.i64 : LG LR.i64 where
  big := I64
  sz := rfl
  av h := by obtain ⟨rfl, _⟩ := h; exact .cons (.v rfl) .nil
  one h v hv := by obtain ⟨rfl, _⟩ := h; simp at hv; subst hv; rfl
  pu x c hc := by simp [LR.i64] at hc; subst hc; exact .v
  bg h := h.2
def LG.u8 : LG LR.u8 where
  big _ := True
  sz := rfl
  av h := by cases h; exact .cons (.v rfl) .nil
  one h v hv := by cases h; simp at hv; subst hv; rfl
  pu x c hc := by simp [LR.u8] at hc; subst hc; exact .v
  bg _ := trivial
def LG.list {α : Type} [GoT α] {A : LR α} (a : LG A) : LG (LR.list A) where
  big xs := xs.length ≤ 9223372036854775807 ∧ ∀ x, x ∈ xs → a.big x
  sz := rfl
  av {w cs xs} h := by
    obtain ⟨A0, n, c, rfl, hn, hle, hc, h⟩ := h
    refine .cons ?_ .nil
    rcases h with rfl | ⟨b, off, rfl, hb, hs⟩
    · simp only [List.length_nil] at hn; subst hn; exact .lst0 hc
    · have get : ∀ (i : Nat) (cs : List AV) (j : Nat) x, (xs.map (A.ea fun _ => .dead))[i]? = some cs → cs[j]? = some x → ∃ u, w.cell? ⟨b, off + i * A.sz + j, none⟩ = some u ∧ u.oneCell' = true ∧ Pu x ∧ Rep (E0 w fun b => b < w.heap.size) u x := by
        intro i cs j x hi hj
        rw [List.getElem?_map, Option.map_eq_some_iff] at hi
        obtain ⟨y, hy, rfl⟩ := hi
        obtain ⟨vs, h1, h2⟩ := hs i y hy
        have r := a.av h1
        have hjl : j < vs.length := by rw [r.len]; exact (List.getElem?_eq_some_iff.1 hj).1
        have hv := List.getElem?_eq_getElem hjl
        refine ⟨vs[j], by rw [a.sz]; exact h2 j _ hv, a.one h1 _ (List.getElem_mem hjl), a.pu y x (List.mem_of_getElem? hj), r.get j _ x hv hj⟩
      refine .lst1 (fun i j => (w.cell? ⟨b, off + i * A.sz + j, none⟩).getD undef) (by simpa using hn) hle hc hb (fun i cs hi => ?_) (fun i cs j x hi hj => ?_) (fun i cs j x hi hj => ?_) (fun i cs j x hi hj => ?_)
      · rw [List.getElem?_map, Option.map_eq_some_iff] at hi
        obtain ⟨y, hy, rfl⟩ := hi
        obtain ⟨vs, h1, _⟩ := hs i y hy
        rw [← (a.av h1).len, GoT.len h1, a.sz]
      all_goals
        obtain ⟨u, k1, k2, k3, k4⟩ := get i cs j x hi hj
      · show w.cell? _ = _; rw [k1]; rfl
      · simp only [k1, Option.getD_some]; exact ⟨k2, k3⟩
      · simp only [k1, Option.getD_some]; exact k4
  one h v hv := by obtain ⟨A0, n, c, rfl, _⟩ := h; simp at hv; subst hv; rfl
  pu xs c hc := by simp [LR.list] at hc; subst hc; exact .lst
  bg {w cs xs} h := by
    obtain ⟨A0, n, c, rfl, hn, hle, hc, h⟩ := h
    refine ⟨by omega, fun x hx => ?_⟩
    rcases h with rfl | ⟨b, off, rfl, hb, hs⟩
    · simp at hx
    · obtain ⟨i, hi⟩ := List.mem_iff_getElem?.1 hx
      obtain ⟨vs, h1, _⟩ := hs i x hi
      exact a.bg h1
def N0 : Nms := ⟨fun _ => 0, fun _ => 0, fun _ => .dead⟩
section
variable {τ : Type} {dn : τ → Type} {D : TD τ dn}
theorem arg_one (ok : TDok D) {E : Env} {t : τ} {x : dn t} {v : Value} (ha : D.ag t = false) (h : R2 (Rep E) [v] (D.ea (fun _ => .dead) t x)) : Rep E v ((D.en t x).av D.toTE N0) := by
  have one : ∀ l : List AV, [v].length = l.length → ∃ b, l = [b] := fun l hl => by
    match l with
    | [b] => exact ⟨b, rfl⟩
    | [] => simp at hl
    | _ :: _ :: _ => simp at hl
  obtain ⟨b, hb⟩ := one _ h.len
  rw [en_one (N := N0) ok ha hb]
  have h2 : R2 (Rep E) [v] [b] := by rw [← hb]; exact h
  cases h2 with | cons h _ => exact h
end
open Go.RowKit
inductive Tc where
  | cInt
  | cU8
  | cBool
  | cStr
  | lInt
  | lU8
  | lBool
  | llU8
  | lllU8
  | rU8
def Tc.no : Tc → Nat
  | .cInt => 0
  | .cU8 => 1
  | .cBool => 2
  | .cStr => 3
  | .lInt => 4
  | .lU8 => 5
  | .lBool => 6
  | .llU8 => 7
  | .lllU8 => 8
  | .rU8 => 9
def Tc.of : Nat → Tc
  | 0 => .cInt
  | 1 => .cU8
  | 2 => .cBool
  | 3 => .cStr
  | 4 => .lInt
  | 5 => .lU8
  | 6 => .lBool
  | 7 => .llU8
  | 8 => .lllU8
  | _ => .rU8
theorem Tc.of_no (a : Tc) : Tc.of a.no = a := by cases a <;> rfl
instance : DecidableEq Tc := fun a b => match Nat.decEq a.no b.no with
  | isTrue h => isTrue (by rw [← Tc.of_no a, h, Tc.of_no])
  | isFalse h => isFalse fun e => h (by rw [e])
abbrev Tc.dn : Tc → Type
  | .cInt => Int
  | .cU8 => UInt8
  | .cBool => Bool
  | .cStr => ByteArray
  | .lInt => (List Int)
  | .lU8 => (List UInt8)
  | .lBool => (List Bool)
  | .llU8 => (List (List UInt8))
  | .lllU8 => (List (List (List UInt8)))
  | .rU8 => (Row UInt8)
def Tc.lr : (t : Tc) → LR t.dn
  | .cInt => LR.i64
  | .cU8 => LR.u8
  | .cBool => LR.boo
  | .cStr => LR.str
  | .lInt => (LR.list LR.i64)
  | .lU8 => (LR.list LR.u8)
  | .lBool => (LR.list LR.boo)
  | .llU8 => (LR.list (LR.list LR.u8))
  | .lllU8 => (LR.list (LR.list (LR.list LR.u8)))
  | .rU8 => (LR.row LR.u8)
abbrev tE : TE Tc Tc.dn := TE.ofL Tc.lr
def Tc.ly : (t : Tc) → LY tE t.lr
  | .cInt => LY.i64
  | .cU8 => LY.u8
  | .cBool => LY.boo
  | .cStr => LY.str
  | .lInt => (LY.list (t := Tc.cInt) LY.i64 rfl fun _ => rfl)
  | .lU8 => (LY.list (t := Tc.cU8) LY.u8 rfl fun _ => rfl)
  | .lBool => (LY.list (t := Tc.cBool) LY.boo rfl fun _ => rfl)
  | .llU8 => (LY.list (t := Tc.lU8) (LY.list (t := Tc.cU8) LY.u8 rfl fun _ => rfl) rfl fun _ => rfl)
  | .lllU8 => (LY.list (t := Tc.llU8) (LY.list (t := Tc.lU8) (LY.list (t := Tc.cU8) LY.u8 rfl fun _ => rfl) rfl fun _ => rfl) rfl fun _ => rfl)
  | .rU8 => (LY.row (t := Tc.cU8) LY.u8 rfl fun _ => rfl)
def Tc.ag : Tc → Bool
  | _ => false
def hintT (sz bytes : Nat) : Option Tc := bif Nat.beq sz 1 && Nat.beq bytes 1 then some .cU8 else bif Nat.beq sz 1 && Nat.beq bytes 8 then some .cInt else bif Nat.beq sz 1 && Nat.beq bytes 1001 then some .cBool else bif Nat.beq sz 1 && Nat.beq bytes 24 then some .rU8 else none
def hrT : Tc → Bool
  | .rU8 => true
  | _ => false
def fzT : FZ Tc Tc.dn := fun t ta => match t, ta with
  | .rU8, .cU8 => fun A => some ⟨.lU8, fun x => x.get A, fun x => x.ok A ∧ x.kd ≠ .nil⟩
  | _, _ => fun _ => none
theorem fzT_ok (t ta : Tc) (A : List (Nat × List ta.dn)) (t' : Tc) (f : t.dn → t'.dn) (O : t.dn → Prop) (h : fzT t ta A = some ⟨t', f, O⟩) : FzOk tE ta A t.lr t'.lr f O := by
  unfold fzT at h
  split at h
  · cases h; exact FzOk.row rfl fun _ => rfl
  · simp at h
def tD : TD Tc Tc.dn := TD.ofL Tc.ly Tc.ag hintT false (some .cU8) hrT fzT
theorem tD_ok : TDok tD := TD.ofL_ok fzT_ok
theorem opens_u8 : Opens Try.prog 5 UInt8 := GoT_u8 Try.underlying5 (by kernel_rfl)
theorem opens_Lu8 : Opens Try.prog 39 (List UInt8) := opens_slice Try.underlying39 (by kernel_rfl) opens_u8 (by decide)
theorem opens_LLu8 : Opens Try.prog 22 (List (List UInt8)) := opens_slice Try.underlying22 (by kernel_rfl) opens_Lu8 (by decide)
open Go.ChangeShapes Go.WideShapes Go.ChangeAt Go.RowKit
open Go.ChangeMaps (open_string shut_string)
theorem shl1 (a : UInt8) : ((a.toNat : Int) * (2 : Int) % (256 : Int)) = ((a <<< 1).toNat : Int) := by
  have h : (a <<< 1).toNat = a.toNat * 2 % 256 := by
    have := all8 (fun a => (a <<< 1).toNat == a.toNat * 2 % 256) (by decide +kernel) a
    simpa using this
  rw [h]; omega
theorem shr1 (a : UInt8) : ((a.toNat : Int) / (2 : Int)) = ((a >>> 1).toNat : Int) := by
  have h : (a >>> 1).toNat = a.toNat / 2 := by
    have := all8 (fun a => (a >>> 1).toNat == a.toNat / 2) (by decide +kernel) a
    simpa using this
  rw [h]; omega
theorem and1 (a : UInt8) : bits .and .u8 (a.toNat : Int) 1 = ((a &&& 1).toNat : Int) := B_and a 1
theorem xor29 (a : UInt8) : bits .xor .u8 (a.toNat : Int) 29 = ((a ^^^ 29).toNat : Int) := B_xor a 29
theorem xt_hi (a : UInt8) (h : 127 < (a.toNat : Int)) : bits .xor .u8 ((a.toNat : Int) * (2 : Int) % (256 : Int)) 29 = ((xt a).toNat : Int) := by
  rw [shl1, xor29, xt, if_pos (by rw [gt_iff_lt, UInt8.lt_iff_toNat_lt]; show 127 < _; omega)]
theorem xt_lo (a : UInt8) (h : (a.toNat : Int) ≤ 127) : ((a.toNat : Int) * (2 : Int) % (256 : Int)) = ((xt a).toNat : Int) := by
  rw [shl1, xt, if_neg (by rw [gt_iff_lt, UInt8.lt_iff_toNat_lt]; simp; omega)]
theorem gm_done (n : Nat) (a b o : UInt8) (h : ((b.toNat : Int) != 0) = false) : gm n a b o = o := by
  have : b = 0 := by
    apply UInt8.toNat_inj.1
    simpa using h
  subst this; exact gm_zero n a o
theorem bit_yes (b : UInt8) (h : (bits BinOp.and IntKind.u8 (b.toNat : Int) 1 != 0) = true) : ¬ b &&& 1 = 0 := by
  intro h2; rw [and1, h2] at h; exact absurd h (by decide)
theorem bit_no (b : UInt8) (h : (bits BinOp.and IntKind.u8 (b.toNat : Int) 1 != 0) = false) : b &&& 1 = 0 := by
  rw [and1] at h
  have h2 : ((b &&& 1).toNat : Int) = 0 := by simpa only [bne_eq_false_iff_eq] using h
  apply UInt8.toNat_inj.1
  show _ = 0
  omega
set_option maxRecDepth 100000 in
set_option maxHeartbeats 400000 in
theorem mul_any (a b : UInt8) (w : World) :
    Calls Try.prog 58 #[B a, B b] w fun e w' => e = .returned (B (gmul a b)) ∧ w = w' := by
  go_enter Try.func58, Try.ntmps58
  go_wp2
  go_loop [0, 1, 5] (fun x y o => ∃ (n : Nat) (a' b' o' : UInt8), x = B a' ∧ y = B b' ∧ o = B o' ∧ b'.toNat < 2^n ∧ gm n a' b' o' = gmul a b) (fun _ y _ => (intOf y).toNat)
  case atStart => exact ⟨8, a, b, 0, rfl, rfl, rfl, b.toNat_lt, rfl⟩
  case round =>
    obtain ⟨n, a', b', o', rfl, rfl, rfl, hb, hg⟩ := hrel
    have Hg := Lib.hid hg
    clear hg
    by_cases h0 : b' = 0
    · subst h0
      go_wp2
      go_ret
      rw [gm_done _ _ _ _ rfl] at Hg
      have hg := Hg.out
      subst hg
      exact ⟨rfl, rfl⟩
    · have hb0 : 0 < b'.toNat := by
        rcases Nat.eq_zero_or_pos b'.toNat with h | h
        · exact absurd (UInt8.toNat_inj.1 h) h0
        · exact h
      obtain ⟨m, rfl⟩ : ∃ m, n = m + 1 := by
        cases n with
        | zero => simp at hb; omega
        | succ m => exact ⟨m, rfl⟩
      have hs : (b' >>> 1).toNat < 2 ^ m := by
        have := shr1 b'
        have h2 : 2 ^ (m + 1) = 2 ^ m * 2 := Nat.pow_succ ..
        omega
      have Hs := Lib.hid hs
      clear hb
      have e1 := shr1 b'
      have E1 := Lib.hid e1
      clear e1
      go_wp2
      all_goals
        go_round
        case rel =>
          refine ⟨m, xt a', b' >>> 1, if b' &&& 1 = 0 then o' else o' ^^^ a', ?_, by rw [E1.out], ?_, Hs.out, Hg.out⟩
          · first | rw [xt_hi _ (by assumption)] | rw [xt_lo _ (by assumption)]
          · first | rw [if_neg (bit_yes _ (by assumption)), B_xor] | rw [if_pos (bit_no _ (by assumption))]
        case measure => simp [intOf]; omega
def tab0 : Array Value := Array.replicate 510 (.int .u8 0) ++ Array.replicate 256 (.int .i64 0)
theorem run_tab (w : World) : (zeroValue 73).run Try.prog w = .ok (.agg tab0) w := by kernel_rfl
def tabAt (k i : Nat) : Value :=
  if i < 255 then (if i < k then B (pw i) else B 0) else if i < 510 then (if i < k + 255 then B (pw (i - 255)) else B 0) else .int .i64 (lgTo k (UInt8.ofNat (i - 510)))
theorem tab_start (i : Nat) (h : i < 766) : tab0[i]? = some (tabAt 0 i) := by
  unfold tab0 tabAt
  rw [Array.getElem?_append]
  simp only [Array.size_replicate, Array.getElem?_replicate, lgTo]
  by_cases h1 : i < 255
  · simp [h1, show i < 510 by omega]
  · by_cases h2 : i < 510
    · simp [h1, h2]
    · simp [h1, h2]; omega
theorem tab_row (w : World) : (w.alloc (.cells tab0 73)).rowIs w.heap.size 73 766 (tabAt 0) := by
  have h := World.rowIs_alloc w tab0 73 (tabAt 0) (fun i hi => tab_start i (by rw [show tab0.size = 766 by simp [tab0]] at hi; exact hi))
  rwa [show tab0.size = 766 by simp [tab0]] at h
attribute [irreducible] tab0
theorem dbl_nat (p : UInt8) : (127 < p.toNat → (p.toNat * 2) ^^^ 285 = (xt p).toNat) ∧ (p.toNat ≤ 127 → p.toNat * 2 = (xt p).toNat) := by
  have := all8 (fun p => decide ((127 < p.toNat → (p.toNat * 2) ^^^ 285 = (xt p).toNat) ∧ (p.toNat ≤ 127 → p.toNat * 2 = (xt p).toNat))) (by decide +kernel) p
  exact of_decide_eq_true this
theorem dbl_hi (p : UInt8) (h : (255 : Int) < (p.toNat : Int) * 2) : I (bits .xor .i64 ((p.toNat : Int) * 2) 285) = I (xt p).toNat := by
  have h1 := (dbl_nat p).1 (by omega)
  have h2 := i64_xor_nat (p.toNat * 2) 285 (by have := p.toNat_lt; omega) (by omega)
  rw [h1] at h2
  rw [← h2]; rfl
theorem dbl_lo (p : UInt8) (h : (p.toNat : Int) * 2 ≤ 255) : I ((p.toNat : Int) * 2) = I (xt p).toNat := by
  have h1 := (dbl_nat p).2 (by omega)
  rw [← h1]; rfl
theorem tab_next (k : Nat) (hk : k < 255) (w : World) (b : Nat) (h : w.rowIs b 73 766 (tabAt k)) :
    (((w.setCell ⟨b, k, none⟩ (B (pw k))).setCell ⟨b, k + 255, none⟩ (B (pw k))).setCell ⟨b, 510 + (pw k).toNat, none⟩ (I k)).rowIs b 73 766 (tabAt (k + 1)) := by
  refine (((h.set k _).set (k + 255) _).set _ _).congr fun i hi => ?_
  have hp := (pw k).toNat_lt
  unfold tabAt
  by_cases h1 : i = 510 + (pw k).toNat
  · subst h1
    rw [if_pos rfl, if_neg (by omega), if_neg (by omega), show 510 + (pw k).toNat - 510 = (pw k).toNat by omega, UInt8.ofNat_toNat, lgTo, if_pos rfl]
  · rw [if_neg h1]
    by_cases h2 : i = k + 255
    · subst h2
      rw [if_pos rfl, if_neg (by omega), if_pos (by omega), if_pos (by omega), show k + 255 - 255 = k by omega]
    · rw [if_neg h2]
      by_cases h3 : i = k
      · subst h3
        rw [if_pos rfl, if_pos (by omega), if_pos (by omega)]
      · rw [if_neg h3]
        by_cases h4 : i < 255
        · rw [if_pos h4, if_pos h4]
          by_cases h5 : i < k
          · rw [if_pos h5, if_pos (by omega)]
          · rw [if_neg h5, if_neg (by omega)]
        · rw [if_neg h4, if_neg h4]
          by_cases h6 : i < 510
          · rw [if_pos h6, if_pos h6]
            by_cases h5 : i < k + 255
            · rw [if_pos h5, if_pos (by omega)]
            · rw [if_neg h5, if_neg (by omega)]
          · rw [if_neg h6, if_neg h6, lgTo, if_neg]
            intro he
            apply h1
            rw [he, UInt8.toNat_ofNat']
            omega
set_option maxRecDepth 10000 in
set_option maxHeartbeats 400000 in
theorem made_any (w : World) :
    Calls Try.prog 59 #[] w fun e w' => e = .returned (.pointer (some ⟨w.heap.size, 0, none⟩)) ∧ w'.rowIs w.heap.size 73 766 (tabAt 255) ∧ Below w.heap.size w w' := by
  have hnew := run_tab
  go_enter Try.func59, Try.ntmps59
  go_wp2
  go_loopw [2, 5] (fun x i wr => ∃ k : Nat, k ≤ 255 ∧ i = I k ∧ x = I (pw k).toNat ∧ wr.rowIs w.heap.size 73 766 (tabAt k) ∧ Below w.heap.size w wr) (fun _ i _ => (255 - intOf i).toNat)
  case atStart => exact ⟨0, by omega, rfl, rfl, tab_row w, (Below.refl _ _).alloc (Nat.le_refl _) _⟩
  case round =>
    obtain ⟨k, hk, rfl, rfl, hrow, hb⟩ := hrel
    by_cases hlt : k < 255
    · have c1 := hrow.cell (i := k) (by omega)
      have c2 := hrow.cell (i := k + 255) (by omega)
      have c3 := hrow.cell (i := 510 + (pw k).toNat) (by have := (pw k).toNat_lt; omega)
      have f1 := hrow.frozen k
      have f2 := hrow.frozen (k + 255)
      have f3 := hrow.frozen (510 + (pw k).toNat)
      have Hrow := Lib.hid (tab_next k hlt _ _ hrow)
      have Hb := Lib.hid hb
      clear hrow hb
      generalize tabAt k k = v1 at c1
      generalize tabAt k (k + 255) = v2 at c2
      generalize tabAt k (510 + (pw k).toNat) = v3 at c3
      obtain ⟨p, hp⟩ : ∃ p, p = pw k := ⟨_, rfl⟩
      rw [← hp] at c3 f3 Hrow ⊢
      have Hp := Lib.hid hp
      have p1 := B_lt p
      clear hp
      have e1 : ((p.toNat : Int) % 256) = (p.toNat : Int) := by omega
      go_wp2
      go_region
      go_wp2
      all_goals
        go_roundw
        case rel =>
          refine ⟨k + 1, by omega, by go_num, ?_, Hrow.out, (((Hb.out.setCell (Nat.le_refl _) _).setCell (Nat.le_refl _) _).drew).setCell (Nat.le_refl _) _⟩
          rw [show pw (k + 1) = xt (pw k) from rfl, ← Hp.out]
          first | exact dbl_hi p (by assumption) | exact dbl_lo p (by assumption)
        case measure => simp [intOf]; omega
    · obtain rfl : k = 255 := by omega
      have Hrow := Lib.hid hrow
      have Hb := Lib.hid hb
      clear hrow hb
      generalize (pw 255).toNat = q
      go_wp2
      go_ret
      exact ⟨rfl, Hrow.out, Hb.out⟩
theorem tmod_bd (n : Int) : -254 ≤ n.tmod 255 ∧ n.tmod 255 ≤ 254 := by
  have h1 := Int.tmod_lt_of_pos n (show (0 : Int) < 255 by omega)
  have h2 := Int.tmod_lt_of_pos (-n) (show (0 : Int) < 255 by omega)
  rw [Int.neg_tmod] at h2
  omega
theorem tmod_emod (n : Int) : n.tmod 255 % 255 = n % 255 := by
  have h := Int.tmod_add_mul_tdiv n 255
  omega
set_option maxRecDepth 10000 in
set_option maxHeartbeats 400000 in
theorem power_any (n : Int) (w : World) :
    Calls Try.prog 56 #[I n] w fun e w' => e = .returned (B (powI n)) ∧ Below w.heap.size w w' := by
  have h1 := tmod_bd n
  have h2 : tabAt 255 (n.tmod 255 % 255).toNat = B (powI n) := by
    have := tmod_emod n
    rw [this, tabAt, if_pos (by omega), if_pos (by omega)]; rfl
  have H2 := Lib.hid h2
  clear h2
  go_enter Try.func56, Try.ntmps56
  go_wp2_with (go_at_call 59; refine (made_any _).mono ?_; rintro e w' ⟨rfl, hrow, hb⟩; have hc := hrow.cell (i := (n.tmod 255 % 255).toNat) (by omega); rw [H2.out] at hc; have Hrow := Lib.hid hrow; clear hrow)
  go_ret
  exact ⟨rfl, hb⟩
theorem log_zero (w : World) : Calls Try.prog 55 #[B 0] w fun e w' => e = .returned (.tuple #[I 0, I 5]) ∧ Below w.heap.size w w' := by
  go_enter Try.func55, Try.ntmps55
  go_wp2
  go_ret2
  exact ⟨rfl, Below.refl _ _⟩
set_option maxRecDepth 10000 in
set_option maxHeartbeats 400000 in
theorem log_some (a : UInt8) (ha : a ≠ 0) (w : World) :
    Calls Try.prog 55 #[B a] w fun e w' => e = .returned (.tuple #[I (lg a), I 0]) ∧ Below w.heap.size w w' := by
  have hz : (((a.toNat : Int)) == 0) = false := by rw [B_zero]; simpa using ha
  have p1 := B_lt a
  have h2 : tabAt 255 (510 + a.toNat) = I (lg a) := by
    rw [tabAt, if_neg (by omega), if_neg (by omega), show 510 + a.toNat - 510 = a.toNat by omega, UInt8.ofNat_toNat]; rfl
  have H2 := Lib.hid h2
  clear h2
  go_enter Try.func55, Try.ntmps55
  go_wp2_with (go_at_call 59; refine (made_any _).mono ?_; rintro e w' ⟨rfl, hrow, hb⟩; have hc := hrow.cell (i := 510 + a.toNat) (by omega); rw [H2.out] at hc; have Hrow := Lib.hid hrow; clear hrow)
  go_ret2
  exact ⟨rfl, hb⟩
theorem inverse_zero (w : World) : Calls Try.prog 43 #[B 0] w fun e w' => e = .returned (.tuple #[B 0, I 5]) ∧ Below w.heap.size w w' := by
  go_enter Try.func43, Try.ntmps43
  go_wp2_with (go_at_call 55; refine (log_zero _).mono ?_; rintro e w' ⟨rfl, hb⟩)
  go_ret2
  exact ⟨rfl, hb⟩
theorem inverse_some (a : UInt8) (ha : a ≠ 0) (w : World) :
    Calls Try.prog 43 #[B a] w fun e w' => e = .returned (.tuple #[B (ginv a), I 0]) ∧ Below w.heap.size w w' := by
  have hl := lg_lt a
  go_enter Try.func43, Try.ntmps43
  go_wp2_with (first | (go_at_call 55; refine (log_some a ha _).mono ?_; rintro e w' ⟨rfl, hb⟩) | (go_at_call 56; refine (power_any _ _).mono ?_; rintro e w'' ⟨rfl, hb2⟩))
  go_ret2
  exact ⟨rfl, hb.trans (hb2.mono hb.size)⟩
theorem two_pow_nat (i : Nat) : ((2 ^ i : Nat) : Int) = (2 : Int) ^ i := by simp
theorem two_pow_le (i k : Nat) (h : i ≤ k) : (0 : Int) ≤ (2 : Int) ^ i ∧ (2 : Int) ^ i ≤ ((2 ^ k : Nat) : Int) := by
  have h1 : 2 ^ i ≤ 2 ^ k := Nat.pow_le_pow_right (by omega) h
  rw [← two_pow_nat i]
  exact ⟨Int.natCast_nonneg _, Int.ofNat_le.2 h1⟩
theorem bitT (a n : Nat) : ((a : Int) / (2 : Int) ^ n).tmod (2 : Int) = ((a / 2 ^ n % 2 : Nat) : Int) := by
  have h1 := two_pow_nat n
  rw [← h1, ← Int.natCast_ediv]
  rw [Int.tmod_eq_emod_of_nonneg (Int.natCast_nonneg _)]; rfl
theorem xorI (p i k : Nat) (hp : p < 32768) (h : i ≤ k) (hk : k ≤ 40) : bits .xor .i64 (p : Int) ((2 : Int) ^ i) = ((p ^^^ 2 ^ i : Nat) : Int) := by
  have h1 : 2 ^ i ≤ 2 ^ k := Nat.pow_le_pow_right (by omega) h
  have h4 : 2 ^ k ≤ 2 ^ 40 := Nat.pow_le_pow_right (by omega) hk
  have h3 := i64_xor_nat p (2 ^ i) (by omega) (by omega)
  rw [← h3, two_pow_nat]
theorem row_yes (a b n p m : Nat) (h1 : ((a : Int) / (2 : Int) ^ n).tmod (2 : Int) = 1) (h2 : (((b : Int) / (2 : Int) ^ m).tmod (2 : Int) == 1) = true) : rowTo a b n p (m + 1) = rowTo a b n p m ^^^ 2 ^ (n + m) := by
  rw [bitT] at h1 h2
  rw [rowTo, if_pos ⟨by omega, by simp only [beq_iff_eq] at h2; omega⟩]
theorem row_no1 (a b n p m : Nat) (h1 : ¬ ((a : Int) / (2 : Int) ^ n).tmod (2 : Int) = 1) : rowTo a b n p (m + 1) = rowTo a b n p m := by
  rw [bitT] at h1
  rw [rowTo, if_neg (fun h => h1 (by omega))]
theorem row_no2 (a b n p m : Nat) (h2 : (((b : Int) / (2 : Int) ^ m).tmod (2 : Int) == 1) = false) : rowTo a b n p (m + 1) = rowTo a b n p m := by
  rw [bitT] at h2
  rw [rowTo, if_neg (fun h => by simp only [beq_eq_false_iff_ne] at h2; omega)]
theorem red_yes (p m : Nat) (h : (((p : Int) / (2 : Int) ^ (14 - m)).tmod (2 : Int) == 1) = true) (hp : p < 32768) (hm : m < 7) :
    bits BinOp.xor IntKind.i64 (p : Int) ((285 : Int) * (2 : Int) ^ (14 - m - 8)) = ((redStep p (14 - m) : Nat) : Int) := by
  rw [bitT] at h
  have h1 : 2 ^ (14 - m - 8) ≤ 2 ^ 6 := Nat.pow_le_pow_right (by omega) (by omega)
  have h3 := i64_xor_nat p (285 * 2 ^ (14 - m - 8)) (by omega) (by omega)
  rw [redStep, if_pos (by simp only [beq_iff_eq] at h; omega), ← h3]
  simp
theorem red_no (p m : Nat) (h : (((p : Int) / (2 : Int) ^ (14 - m)).tmod (2 : Int) == 1) = false) : redStep p (14 - m) = p := by
  rw [bitT] at h
  rw [redStep, if_neg (fun h2 => by simp only [beq_eq_false_iff_ne] at h; omega)]
theorem red_end (a b : UInt8) : Value.int .u8 ((redTo (clTo a.toNat b.toNat 8) 7 : Int) % (256 : Int)) = B (gmul a b) := by
  rw [mulOf_eq]
  have := B_lt (gmul a b)
  rw [Int.emod_eq_of_lt (by omega) (by omega)]
set_option maxRecDepth 100000 in
set_option maxHeartbeats 400000 in
theorem mulOf_any (a b : UInt8) (w : World) :
    Calls Try.prog 37 #[B a, B b] w fun e w' => e = .returned (B (gmul a b)) ∧ w = w' := by
  have pa := B_lt a
  have pb := B_lt b
  go_enter Try.func37, Try.ntmps37
  go_wp2
  go_loop [5, 6, 7] (fun p i _ => ∃ n : Nat, n ≤ 8 ∧ i = I n ∧ p = I (clTo a.toNat b.toNat n)) (fun _ i _ => (8 - intOf i).toNat)
  case atStart => exact ⟨0, by omega, rfl, rfl⟩
  case round =>
    obtain ⟨n, hn, rfl, rfl⟩ := hrel
    by_cases hlt : n < 8
    · go_wp2
      go_loop [5, 7] (fun p k => ∃ m : Nat, m ≤ 8 ∧ k = I m ∧ p = I (rowTo a.toNat b.toNat n (clTo a.toNat b.toNat n) m)) (fun _ i => (8 - intOf i).toNat)
      case atStart => exact ⟨0, by omega, rfl, rfl⟩
      case round =>
        obtain ⟨m, hm, rfl, rfl⟩ := hrel
        have hp := rowTo_lt a.toNat b.toNat n _ hlt (clTo_lt a.toNat b.toNat n hn) m hm
        by_cases hlt2 : m < 8
        · have h2 := two_pow_le (n + m) 14 (by omega)
          go_wp2
          all_goals
            go_round
            case rel =>
              refine ⟨m + 1, by omega, by go_num, ?_⟩
              first
                | rw [row_yes _ _ _ _ _ (by assumption) (by assumption), xorI _ _ 14 (by assumption) (by omega) (by omega)]
                | rw [row_no2 _ _ _ _ _ (by assumption)]
                | rw [row_no1 _ _ _ _ _ (by assumption)]
            case measure => simp [intOf]; omega
        · obtain rfl : m = 8 := by omega
          go_wp2
          go_round
          case rel => exact ⟨n + 1, by omega, by go_num, rfl⟩
          case measure => simp [intOf]; omega
    · obtain rfl : n = 8 := by omega
      have hc := clTo_lt a.toNat b.toNat 8 (by omega)
      go_wp2
      go_loop [5, 8] (fun p k => ∃ m : Nat, m ≤ 7 ∧ k = I ((14 : Int) - m) ∧ p = I (redTo (clTo a.toNat b.toNat 8) m)) (fun _ i => (intOf i).toNat)
      case atStart => exact ⟨0, by omega, rfl, rfl⟩
      case round =>
        obtain ⟨m, hm, rfl, rfl⟩ := hrel
        have hp := redTo_lt _ hc m hm
        by_cases hlt2 : m < 7
        · have h2 := two_pow_le (14 - m - 8) 6 (by omega)
          go_wp2
          all_goals
            go_round
            case rel =>
              refine ⟨m + 1, by omega, by go_num, ?_⟩
              rw [redTo]
              first
                | rw [red_yes _ _ (by assumption) (by assumption) (by assumption)]
                | rw [red_no _ _ (by assumption)]
            case measure => simp [intOf]; omega
        · obtain rfl : m = 7 := by omega
          go_wp2
          go_ret
          exact ⟨by rw [← red_end a b]; rfl, rfl⟩
theorem beq_no (p a : UInt8) (h : p ≠ a) : ((p.toNat : Int) == (a.toNat : Int)) = false := by
  rw [beq_eq_false_iff_ne]; intro h2; exact h (B_inj.1 h2)
set_option maxRecDepth 100000 in
set_option maxHeartbeats 400000 in
theorem B_ofNat (k : Nat) (hk : k < 256) : Value.int .u8 (k : Int) = B (UInt8.ofNat k) := by
  rw [B, UInt8.toNat_ofNat', Nat.mod_eq_of_lt (by omega)]
theorem mulOf_nat (k : Nat) (hk : k < 256) (b : UInt8) (w : World) : Calls Try.prog 37 #[.int .u8 (k : Int), B b] w fun e w' => e = .returned (B (gmul (UInt8.ofNat k) b)) ∧ w = w' := by
  rw [B_ofNat k hk]; exact mulOf_any _ b w
set_option maxRecDepth 100000 in
set_option maxHeartbeats 400000 in
theorem quot_zero (a : UInt8) (w : World) : Calls Try.prog 39 #[B a, B 0] w fun e w' => e = .returned (.tuple #[B 0, I 5]) ∧ w = w' := by
  go_enter Try.func39, Try.ntmps39
  go_wp2
  go_ret2
  exact ⟨rfl, rfl⟩
set_option maxRecDepth 100000 in
set_option maxHeartbeats 400000 in
theorem quot_some (a b : UInt8) (hb : b ≠ 0) (w : World) :
    Calls Try.prog 39 #[B a, B b] w fun e w' => e = .returned (.tuple #[B (gmul a (ginv b)), I 0]) ∧ w = w' := by
  have hz := beq_no b 0 hb
  have hz' : ((b.toNat : Int) == 0) = false := hz
  have hq : gmul (gmul a (ginv b)) b = a := by rw [gmul_assoc, ginv_mul b hb, gmul_one]
  generalize gmul a (ginv b) = q at hq
  have hl := q.toNat_lt
  have Hq := Lib.hid hq
  clear hq hz
  go_enter Try.func39, Try.ntmps39
  go_wp2
  go_loop [6] (fun i => ∃ k : Nat, k ≤ q.toNat ∧ i = I k) (fun i => (256 - intOf i).toNat)
  case atStart => exact ⟨0, by omega, rfl⟩
  case round =>
    obtain ⟨k, hk, rfl⟩ := hrel
    have e2 : k < q.toNat → ¬ gmul (UInt8.ofNat k) b = a := fun hlt h => by
      have h2 := gmul_cancel b _ _ hb (by rw [gmul_comm b, gmul_comm b, h, Hq.out] : gmul b (UInt8.ofNat k) = gmul b q)
      rw [← h2, UInt8.toNat_ofNat', Nat.mod_eq_of_lt (by omega)] at hlt
      omega
    by_cases hlt : k < q.toNat
    · have hne := beq_no (gmul (UInt8.ofNat k) b) a (e2 hlt)
      clear e2
      go_wp2_with (go_at_call 37; refine (mulOf_nat _ (by omega) _ _).mono ?_; rintro e w' ⟨rfl, rfl⟩)
      go_round
      case rel => exact ⟨k + 1, by omega, by go_num⟩
      case measure => simp [intOf]; omega
    · clear e2
      obtain rfl : k = q.toNat := by omega
      go_wp2_with (go_at_call 37; refine (mulOf_any _ _ _).mono ?_; rintro e w' ⟨rfl, rfl⟩; rw [Hq.out])
      go_ret2
      exact ⟨rfl, rfl⟩
def errZ (a : UInt8) : Int := if a = 0 then 5 else 0
def invN (a : UInt8) : UInt8 := if a = 0 then 0 else ginv a
def divN (a b : UInt8) : UInt8 := if b = 0 then 0 else gmul a (ginv b)
theorem inverse_any (a : UInt8) (w : World) : Calls Try.prog 43 #[B a] w fun e w' => e = .returned (.tuple #[B (invN a), I (errZ a)]) ∧ Below w.heap.size w w' := by
  unfold invN errZ
  by_cases ha : a = 0
  · subst ha; exact inverse_zero w
  · rw [if_neg ha, if_neg ha]; exact inverse_some a ha w
theorem quot_any (a b : UInt8) (w : World) : Calls Try.prog 39 #[B a, B b] w fun e w' => e = .returned (.tuple #[B (divN a b), I (errZ b)]) ∧ w = w' := by
  unfold divN errZ
  by_cases ha : b = 0
  · subst ha; exact quot_zero a w
  · rw [if_neg ha, if_neg ha]; exact quot_some a b ha w
open Go.RowKit
def CloneF (sz by_ : Nat) (zs : List AV) : AFn := ⟨8, [.tmp 2],
  .seq (.reg [⟨some 2, .mov (.c .emp), none⟩] none)
  (.seq (.seq (.reg [⟨some 3, .mov (.s 0), none⟩, ⟨some 4, .isn .sl false (.s 3), none⟩] none)
  (.cond (.s 4)
    (.seq (.reg [⟨some 2, .mov (.c .emp), none⟩] none)
    (.ret))
    (.skip)))
  (.seq (.reg [⟨some 5, .bsl sz 0 zs [], none⟩, ⟨some 6, .mov (.s 0), none⟩, ⟨some 7, .app sz by_ (.s 5) (.s 6), none⟩, ⟨some 2, .mov (.s 7), none⟩] none)
  (.ret)))⟩
theorem clone_fo {P : Program} {f : FuncId} {sz by_ : Nat} {zs : List AV} (hF : cFunc P f = some (CloneF sz by_ zs)) {α : Type} (fe : α → List AV) (hp : ∀ y, (fe y).all AV.pu1 = true) (hz : sz ≠ 0) (hzs : zs.length = sz) (xs : List α) (hx : ((xs.length : Nat) : Int) * by_ ≤ 140737488355328) : Fo P f [.lst sz (xs.map fe)] sz (xs.map fe) := by
  refine fo_of ?_
  rw [List.length_map]
  refine fV (m := []) (m' := [some ⟨sz, (xs.map fe)⟩]) hF (of_decide_eq_true (by kernel_rfl)) ?_
  refine srl 1 [0] ⟨[(0, .lst sz (xs.map fe))], []⟩ ?_
  refine EL.seqG [0] (fun y => (y = ⟨[(0, .lst sz (xs.map fe))], []⟩ ∧ ((List.isEmpty xs = true) ∨ (List.isEmpty xs = false)))) ?_ ?_
  · intro IHJ1 HJ1
    refine srr 1 ⟨[(3, .lst sz (xs.map fe)), (0, .lst sz (xs.map fe))], []⟩ ?_
    cases h2 : (List.isEmpty xs)
    · refine ow2 ⟨[(4, .v (.bool false)), (3, .lst sz (xs.map fe)), (0, .lst sz (xs.map fe))], []⟩ (opE_isn_ne fe xs (.s 3) sz false (by kernel_rfl) (by kernel_rfl) (.inl rfl) h2) ?_
      refine owl 0 [0, 4] ⟨[(4, .v (.bool false)), (0, .lst sz (xs.map fe))], []⟩ ?_
      refine cnF ?_
      refine EL.skip ?_
      exact tN (HJ1.get ⟨by kernel_rfl, (Or.inr h2)⟩)
    · refine ow2 ⟨[(4, .anyb), (3, .lst sz (xs.map fe)), (0, .lst sz (xs.map fe))], []⟩ (opE_isn_any fe xs (.s 3) sz false (by kernel_rfl) (by kernel_rfl) (.inl rfl) h2) ?_
      refine owl 0 [0, 4] ⟨[(4, .anyb), (0, .lst sz (xs.map fe))], []⟩ ?_
      refine EL.condAny (by kernel_rfl) ?_ ?_
      · refine srl 1 [2] ⟨[(2, .emp)], []⟩ ?_
        refine rtr ?_
        refine ⟨.inr rfl, ⟨[(2, .own 0 sz 0 (List.length xs))], [some ⟨sz, (xs.map fe)⟩]⟩, norm_le (live := [2]) (src := [.new sz]) (es := [(2, 0)]) (by rw [List.isEmpty_iff.1 h2]; cases sz with | zero => exact absurd rfl hz | succ n => kernel_rfl) trivial, by kernel_rfl, rfl⟩
      · refine EL.skip ?_
        exact tN (HJ1.get ⟨by kernel_rfl, (Or.inl h2)⟩)
  rintro _ (⟨rfl, hD3⟩)
  refine srr 2 ⟨[(6, .lst sz (xs.map fe)), (5, .own 0 sz 0 0), (0, .lst sz (xs.map fe))], [some ⟨sz, []⟩]⟩ ?_
  refine ow2 ⟨(7, .own 1 sz 0 (List.length xs)) :: [(6, .lst sz (xs.map fe)), (5, .own 0 sz 0 0), (0, .lst sz (xs.map fe))], [none, some ⟨sz, (xs.map fe)⟩]⟩ (oap fe ([] : List α) xs (.s 5) (.s 6) sz by_ 0 (.lst sz (xs.map fe)) .lst (by simp; omega)) ?_
  refine owl 1 [2] ⟨[(2, .own 1 sz 0 (List.length xs))], [none, some ⟨sz, (xs.map fe)⟩]⟩ ?_
  refine EL.ret ?_
  exact fne [2] [ut 1] ⟨[(2, .own 0 sz 0 (List.length xs))], [some ⟨sz, (xs.map fe)⟩]⟩ ⟨pq sz fe xs (by kernel_rfl) hp, trivial⟩
open Go.RowKit
theorem rc_plain {E : Env} : ∀ {vs : List Value} {ws : Array Value}, RC E ws (vs.map AV.v) → ws = vs.toArray := by
  intro vs ws h
  apply Array.ext
  · simpa using h.1
  · intro i h1 h2
    have h3 : i < vs.length := by simpa using h2
    have := h.2 i ws[i] (.v vs[i]) (Array.getElem?_eq_getElem h1) (by rw [List.getElem?_map, List.getElem?_eq_getElem h3]; rfl)
    generalize hq : ws[i] = q at this
    generalize hp : vs[i] = p at this
    have e : q = p := by cases this with | v h => rfl
    rw [e, ← hp]; simp
theorem fn_plain {P : Program} {f : FuncId} {vs : List Value} {u : Value} {r : AV} (hr : ∀ E : Env, Rep E u r) (h : ∀ w, Calls P f vs.toArray w fun e w' => e = .returned u ∧ Below w.heap.size w w') : Fn P f (vs.map AV.v) r := by
  intro w J ws hJ hG hrc
  rw [rc_plain hrc]
  exact (h w).mono fun e w' ⟨h1, h2⟩ => ⟨u, h1, hr _, h2⟩
theorem rep_two {E : Env} {a b : Value} (ha : plainV a = true) (hb : plainV b = true) : Rep E (.tuple #[a, b]) (.tup [.v a, .v b]) := by
  refine .tup rfl fun i v c hv hc => ?_
  match i with
  | 0 => simp at hv hc; subst hv; subst hc; exact .v ha
  | 1 => simp at hv hc; subst hv; subst hc; exact .v hb
  | i + 2 => simp at hc
def k_58 : Con Tc Tc.dn := ⟨58, [.ty .cU8, .ty .cU8], fun _ => True, [.cU8], fun x => gmul x.1 x.2.1⟩
theorem k_58_ok : k_58.Ok Try.prog tD := ⟨F58_call, fun x N _ => fn_plain (vs := [B x.1, B x.2.1]) (u := B (gmul x.1 x.2.1)) (fun _ => .v rfl) fun w => (mul_any x.1 x.2.1 w).mono fun e w' ⟨h1, h2⟩ => ⟨h1, by subst h2; exact Below.refl _ _⟩⟩
def k_43 : Con Tc Tc.dn := ⟨43, [.ty .cU8], fun _ => True, [.cU8, .cInt], fun x => (invN x.1, errZ x.1)⟩
theorem k_43_ok : k_43.Ok Try.prog tD := ⟨F43_call, fun x N _ => fn_plain (vs := [B x.1]) (u := .tuple #[B (invN x.1), I (errZ x.1)]) (fun _ => rep_two rfl rfl) fun w => inverse_any x.1 w⟩
def k_37 : Con Tc Tc.dn := ⟨37, [.ty .cU8, .ty .cU8], fun _ => True, [.cU8], fun x => gmul x.1 x.2.1⟩
theorem k_37_ok : k_37.Ok Try.prog tD := ⟨F37_call, fun x N _ => fn_plain (vs := [B x.1, B x.2.1]) (u := B (gmul x.1 x.2.1)) (fun _ => .v rfl) fun w => (mulOf_any x.1 x.2.1 w).mono fun e w' ⟨h1, h2⟩ => ⟨h1, by subst h2; exact Below.refl _ _⟩⟩
def k_39 : Con Tc Tc.dn := ⟨39, [.ty .cU8, .ty .cU8], fun _ => True, [.cU8, .cInt], fun x => (divN x.1 x.2.1, errZ x.2.1)⟩
theorem k_39_ok : k_39.Ok Try.prog tD := ⟨F39_call, fun x N _ => fn_plain (vs := [B x.1, B x.2.1]) (u := .tuple #[B (divN x.1 x.2.1), I (errZ x.2.1)]) (fun _ => rep_two rfl rfl) fun w => (quot_any x.1 x.2.1 w).mono fun e w' ⟨h1, h2⟩ => ⟨h1, by subst h2; exact Below.refl _ _⟩⟩
open Go.RowKit
theorem drop_gd {α : Type} (d : α) (xs : List α) (i : Int) (h0 : 0 ≤ i) (h : i < xs.length) : xs.drop i.toNat = gd d xs i.toNat :: xs.drop (i + 1).toNat := by
  rw [show (i + 1).toNat = i.toNat + 1 by omega]; exact gd_drop d (by omega)
theorem drop_end {α : Type} (xs : List α) (i : Int) (h : xs.length ≤ i) : xs.drop i.toNat = [] := List.drop_eq_nil_of_le (by omega)
def mchkGo (n : Int) : List (List UInt8) → Int
  | [] => 0
  | r :: l => if 16 < (r.length : Int) then 2 else if r.length = 0 ∨ (r.length : Int) ≠ n then 1 else mchkGo n l
def mchk (a : List (List UInt8)) : Int := if 16 < a.length then 2 else if a.length = 0 then 1 else mchkGo (gd [] a 0).length a
def dotGo : List UInt8 → List UInt8 → UInt8 → UInt8
  | [], _, o => o
  | x :: l, b, o => dotGo l (b.drop 1) (o ^^^ gmul x (gd 0 b 0))
theorem dot_step (a b : List UInt8) (i : Int) (o : UInt8) (h0 : 0 ≤ i) (h : i < a.length) : dotGo (a.drop i.toNat) (b.drop i.toNat) o = dotGo (a.drop (i + 1).toNat) (b.drop (i + 1).toNat) (o ^^^ gmul (gd 0 a i.toNat) (gd 0 b i.toNat)) := by
  rw [drop_gd 0 a i h0 h]
  simp only [dotGo, List.drop_drop]
  rw [show (i + 1).toNat = i.toNat + 1 by omega]
  have : gd 0 (b.drop i.toNat) 0 = gd 0 b i.toNat := by simp [gd]
  rw [this]
def fillL (m n : Int) (f : Nat → Nat → UInt8) : List (List UInt8) := (List.range m.toNat).map fun i => (List.range n.toNat).map fun k => f i k
def i_21_0 (a : (List (List UInt8))) (i : Int) : Prop := 0 ≤ i ∧ i ≤ a.length ∧ 0 < a.length ∧ a.length ≤ 16 ∧ mchkGo (gd [] a 0).length (a.drop i.toNat) = mchkGo (gd [] a 0).length a
def k_21 : Con Tc Tc.dn := ⟨21, [.ty .llU8], fun x => (fun (a : (List (List UInt8))) => True) x.1, [.cInt], fun x => (fun (a : (List (List UInt8))) => mchk a) x.1⟩
theorem k_21_v (a : (List (List UInt8))) : ((16 : Int) < (↑a.length : Int) → (2 : Int) = mchk a) ∧ ((↑a.length : Int) ≤ (16 : Int) → ((↑a.length : Int) = (0 : Int) → (1 : Int) = mchk a) ∧ (¬(↑a.length : Int) = (0 : Int) → i_21_0 a (0 : Int) ∧ ∀ (x : Int), i_21_0 a x → (x < (↑a.length : Int) → ((0 : Int) ≤ x ∧ x < (↑a.length : Int)) ∧ ((16 : Int) < (↑(gd [] a x.toNat).length : Int) → (2 : Int) = mchk a) ∧ ((↑(gd [] a x.toNat).length : Int) ≤ (16 : Int) → (¬(↑(gd [] a x.toNat).length : Int) = (0 : Int) → (0 : Int) ≤ (0 : Int) ∧ (0 : Int) < (↑a.length : Int)) ∧ ((↑(gd [] a x.toNat).length : Int) = (0 : Int) ∧ (↑(gd [] a x.toNat).length : Int) = (0 : Int) ∨ ¬(↑(gd [] a x.toNat).length : Int) = (0 : Int) ∧ ¬(↑(gd [] a x.toNat).length : Int) = (↑(gd [] a (Int.toNat (0 : Int))).length : Int) → (1 : Int) = mchk a) ∧ ((¬(↑(gd [] a x.toNat).length : Int) = (0 : Int) ∨ ¬(↑(gd [] a x.toNat).length : Int) = (0 : Int)) ∧ ((↑(gd [] a x.toNat).length : Int) = (0 : Int) ∨ (↑(gd [] a x.toNat).length : Int) = (↑(gd [] a (Int.toNat (0 : Int))).length : Int)) → I64 (x + (1 : Int)) ∧ i_21_0 a (x + (1 : Int)) ∧ ((↑a.length : Int) - (x + (1 : Int))).toNat < ((↑a.length : Int) - x).toNat))) ∧ ((↑a.length : Int) ≤ x → (0 : Int) = mchk a))) := by
  (repeat' (first | apply And.intro | intro _)) <;> first | assumption | trivial | omega | (grind [mchk, mchkGo, drop_gd, drop_end, I64, i_21_0]) | trace_state
theorem k_21_ok : k_21.Ok Try.prog tD := con_ok tD_ok (Δ := []) trivial (Ω := []) trivial k_21 F21_ok F21_call (fun _ => []) (fun _ => trivial) 0 (fun x => (fun (a : (List (List UInt8))) => (fun k => bif Nat.beq k 0 then some (.inv [.sl 15 .cInt] (fun zo zv => (fun (i : Int) => i_21_0 a i) zv.1) (fun zo zv => (fun (i : Int) => ((a.length : Int) - i).toNat) zv.1)) else none)) x.1) fun x hp => Eq.mp (by kernel_rfl) (k_21_v x.1)
def k_29 : Con Tc Tc.dn := ⟨29, [.ty .cInt], fun x => (fun (n : Int) => True) x.1, [.cBool], fun x => (fun (n : Int) => decide (1 ≤ n ∧ n ≤ 16)) x.1⟩
theorem k_29_v (n : Int) : ((1 : Int) ≤ n → (1 : Int) ≤ n) ∧ ((1 : Int) ≤ n → (1 : Int) ≤ n) ∧ (decide ((1 : Int) ≤ n) && decide (n ≤ (16 : Int))) = decide ((1 : Int) ≤ n ∧ n ≤ (16 : Int)) := by
  (repeat' (first | apply And.intro | intro _)) <;> first | assumption | trivial | omega | (grind []) | trace_state
theorem k_29_ok : k_29.Ok Try.prog tD := con_ok tD_ok (Δ := []) trivial (Ω := []) trivial k_29 F29_ok F29_call (fun _ => []) (fun _ => trivial) 0 (fun x => (fun (n : Int) => (fun _ => none)) x.1) fun x hp => Eq.mp (by kernel_rfl) (k_29_v x.1)
def k_46 : Con Tc Tc.dn := ⟨46, [.ty .cInt, .ty .cInt], fun x => (fun (i : Int) (k : Int) => True) x.1 x.2.1, [.cU8], fun x => (fun (i : Int) (k : Int) => if i = k then 1 else 0) x.1 x.2.1⟩
theorem k_46_v (i : Int) (k : Int) : (i = k → UInt8.ofNat (Int.toNat (1 : Int)) = if i = k then (1 : RD Tc.dn [Tc.cU8]) else (0 : RD Tc.dn [Tc.cU8])) ∧ (¬i = k → UInt8.ofNat (Int.toNat (0 : Int)) = if i = k then (1 : RD Tc.dn [Tc.cU8]) else (0 : RD Tc.dn [Tc.cU8])) := by
  (repeat' (first | apply And.intro | intro _)) <;> first | assumption | trivial | omega | (grind []) | trace_state
theorem k_46_ok : k_46.Ok Try.prog tD := con_ok tD_ok (Δ := []) trivial (Ω := []) trivial k_46 F46_ok F46_call (fun _ => []) (fun _ => trivial) 0 (fun x => (fun (i : Int) (k : Int) => (fun _ => none)) x.1 x.2.1) fun x hp => Eq.mp (by kernel_rfl) (k_46_v x.1 x.2.1)
def k_57 : Con Tc Tc.dn := ⟨57, [.ty .cInt, .ty .cInt, .ptr .llU8], fun x => (fun (i : Int) (k : Int) (a : (List (List UInt8))) => 0 ≤ k ∧ k < a.length ∧ 0 ≤ i ∧ i < (gd [] a k.toNat).length) x.1 x.2.1 x.2.2.1, [.cU8], fun x => (fun (i : Int) (k : Int) (a : (List (List UInt8))) => gd 0 (gd [] a k.toNat) i.toNat) x.1 x.2.1 x.2.2.1⟩
theorem k_57_v (i : Int) (k : Int) (a : (List (List UInt8))) (hp : 0 ≤ k ∧ k < a.length ∧ 0 ≤ i ∧ i < (gd [] a k.toNat).length) : ((0 : Int) ≤ k ∧ k < (↑a.length : Int)) ∧ ((0 : Int) ≤ i ∧ i < (↑(gd [] a k.toNat).length : Int)) ∧ gd (0 : UInt8) (gd [] a k.toNat) i.toNat = gd (0 : UInt8) (gd [] a k.toNat) i.toNat := by
  (repeat' (first | apply And.intro | intro _)) <;> first | assumption | trivial | omega | (grind []) | trace_state
theorem k_57_ok : k_57.Ok Try.prog tD := con_ok tD_ok (Δ := []) trivial (Ω := []) trivial k_57 F57_ok F57_call (fun _ => []) (fun _ => trivial) 0 (fun x => (fun (i : Int) (k : Int) (a : (List (List UInt8))) => (fun _ => none)) x.1 x.2.1 x.2.2.1) fun x hp => Eq.mp (by kernel_rfl) (k_57_v x.1 x.2.1 x.2.2.1 hp)
def i_49_0 (a : (List UInt8)) (b : (List UInt8)) (i : Int) (o : UInt8) : Prop := 0 ≤ i ∧ i ≤ a.length ∧ a.length ≤ b.length ∧ a.length ≤ 1000 ∧ dotGo (a.drop i.toNat) (b.drop i.toNat) o = dotGo a b 0
def k_49 : Con Tc Tc.dn := ⟨49, [.ty .lU8, .ty .lU8], fun x => (fun (a : (List UInt8)) (b : (List UInt8)) => a.length ≤ b.length ∧ a.length ≤ 1000) x.1 x.2.1, [.cU8], fun x => (fun (a : (List UInt8)) (b : (List UInt8)) => dotGo a b 0) x.1 x.2.1⟩
theorem k_49_v (a : (List UInt8)) (b : (List UInt8)) (hp : a.length ≤ b.length ∧ a.length ≤ 1000) : i_49_0 a b (0 : Int) (UInt8.ofNat (Int.toNat (0 : Int))) ∧ ∀ (x : Int) (x_1 : UInt8), i_49_0 a b x x_1 → (x < (↑a.length : Int) → ((0 : Int) ≤ x ∧ x < (↑a.length : Int)) ∧ ((0 : Int) ≤ x ∧ x < (↑b.length : Int)) ∧ True ∧ I64 (x + (1 : Int)) ∧ i_49_0 a b (x + (1 : Int)) (x_1 ^^^ gmul (gd (0 : UInt8) a x.toNat) (gd (0 : UInt8) b x.toNat)) ∧ ((↑a.length : Int) - (x + (1 : Int))).toNat < ((↑a.length : Int) - x).toNat) ∧ ((↑a.length : Int) ≤ x → x_1 = dotGo a b (0 : UInt8)) := by
  have hd := @dot_step a b
  (repeat' (first | apply And.intro | intro _)) <;> first | assumption | trivial | omega | (grind [dotGo, drop_gd, drop_end, I64, i_49_0]) | trace_state
theorem k_49_ok : k_49.Ok Try.prog tD := con_ok tD_ok (Δ := [k_58]) ⟨k_58_ok, trivial⟩ (Ω := []) trivial k_49 F49_ok F49_call (fun _ => []) (fun _ => trivial) 0 (fun x => (fun (a : (List UInt8)) (b : (List UInt8)) => (fun k => bif Nat.beq k 0 then some (.inv [.sl 9 .cInt, .sl 4 .cU8] (fun zo zv => (fun (i : Int) (o : UInt8) => i_49_0 a b i o) zv.1 zv.2.1) (fun zo zv => (fun (i : Int) (o : UInt8) => ((a.length : Int) - i).toNat) zv.1 zv.2.1)) else none)) x.1 x.2.1) fun x hp => Eq.mp (by kernel_rfl) (k_49_v x.1 x.2.1 hp)
open Go.RowKit
structure FillI (A : List (Nat × List UInt8)) (K : List (Row UInt8)) (i m n : Int) (f : Nat → Nat → UInt8) : Prop where
  len : (K.length : Int) = m
  row : ∀ j, j < i.toNat → (gd (Row.no UInt8) K j).mine A ∧ (gd (Row.no UInt8) K j).n = n.toNat ∧ lkA A (gd (Row.no UInt8) K j).id = (List.range n.toNat).map (f j)
  inj : ∀ j k, j < i.toNat → k < i.toNat → (gd (Row.no UInt8) K j).id = (gd (Row.no UInt8) K k).id → j = k
structure FillR (A0 A : List (Nat × List UInt8)) (r : Row UInt8) (k n : Int) (f : Nat → UInt8) : Prop where
  mine : r.mine A
  n : r.n = n.toNat
  get : ∀ t, t < k.toNat → gd 0 (lkA A r.id) t = f t
  has : ∀ id, id ≠ r.id → (hasA A id ↔ hasA A0 id)
  lk : ∀ id, id ≠ r.id → lkA A id = lkA A0 id
theorem gd_set1 {α : Type} {d : α} {l : List α} {i j : Nat} {x : α} : gd d (l.set i x) j = if i = j ∧ i < l.length then x else gd d l j := by
  unfold gd
  rw [List.getElem?_set]
  by_cases h : i = j
  · subst h
    by_cases h2 : i < l.length
    · simp [h2]
    · simp [h2, List.getElem?_eq_none (Nat.le_of_not_lt h2)]
  · simp [h]
theorem Row.mine.get {A : List (Nat × List UInt8)} {r : Row UInt8} (h : r.mine A) : r.get A = lkA A r.id ∧ (lkA A r.id).length = r.n := by
  unfold Row.get; rw [h.1]; exact ⟨rfl, h.2.2⟩
theorem FillI.start {m n : Int} {f : Nat → Nat → UInt8} (hm : 0 ≤ m) : FillI [] (List.replicate m.toNat (Row.no UInt8)) 0 m n f := by
  refine ⟨by simp; omega, fun j hj => by simp at hj, fun j k hj => by simp at hj⟩
theorem at_mine {A : List (Nat × List UInt8)} {id n : Nat} {zs : List UInt8} (h : zs.length = n) : (Row.at UInt8 id n).mine ((id, zs) :: A) := by
  refine ⟨rfl, hasA_cons.2 (.inl rfl), ?_⟩
  show (lkA ((id, zs) :: A) id).length = n
  rw [lkA_cons, if_pos rfl]; exact h
theorem FillR.start {A : List (Nat × List UInt8)} {id : Nat} {n : Int} {zs : List UInt8} {f : Nat → UInt8} (h : zs.length = n.toNat) : FillR ((id, zs) :: A) ((id, zs) :: A) (Row.at UInt8 id n.toNat) 0 n f :=
  ⟨at_mine h, rfl, fun t ht => by simp at ht, fun _ _ => Iff.rfl, fun _ _ => rfl⟩
theorem mine_put {A : List (Nat × List UInt8)} {r : Row UInt8} {xs : List UInt8} (h : r.mine A) (hl : xs.length = r.n) : r.mine ((r.id, xs) :: A) := by
  refine ⟨h.1, hasA_cons.2 (.inl rfl), ?_⟩
  rw [lkA_cons, if_pos rfl]; exact hl
theorem FillR.step {A0 A : List (Nat × List UInt8)} {r : Row UInt8} {k n : Int} {f : Nat → UInt8} (h : FillR A0 A r k n f) (h0 : 0 ≤ k) (hk : k < n) : FillR A0 ((r.id, (r.get A).set k.toNat (f k.toNat)) :: A) r (k + 1) n f := by
  obtain ⟨g1, g2⟩ := h.mine.get
  have hn := h.n
  refine ⟨mine_put h.mine (by rw [List.length_set, g1, g2]), h.n, fun t ht => ?_, fun id hid => ?_, fun id hid => ?_⟩
  · rw [lkA_cons, if_pos rfl, g1, gd_set1]
    by_cases he : k.toNat = t
    · rw [if_pos ⟨he, by rw [g2, hn]; omega⟩, he]
    · rw [if_neg (fun hh => he hh.1)]; exact h.get t (by omega)
  · rw [hasA_cons, ← h.has id hid]; exact ⟨fun hh => hh.resolve_left hid, .inr⟩
  · rw [lkA_cons, if_neg hid]; exact h.lk id hid
theorem FillI.next {A A' : List (Nat × List UInt8)} {K : List (Row UInt8)} {i m n k : Int} {f : Nat → Nat → UInt8} {id : Nat} {zs : List UInt8} (h : FillI A K i m n f) (hi : 0 ≤ i) (him : i < m) (hid : ¬ hasA A id) (hn : 0 ≤ n) (hk : n ≤ k) (hr : FillR ((id, zs) :: A) A' (Row.at UInt8 id n.toNat) k n (f i.toNat)) : FillI A' (K.set i.toNat (Row.at UInt8 id n.toNat)) (i + 1) m n f := by
  have hl := h.len
  have hil : i.toNat < K.length := by omega
  have old : ∀ j, j < i.toNat → (gd (Row.no UInt8) K j).id ≠ id := fun j hj e => hid (e ▸ (h.row j hj).1.2.1)
  have keep : ∀ j, j < i.toNat → hasA A' (gd (Row.no UInt8) K j).id ∧ lkA A' (gd (Row.no UInt8) K j).id = lkA A (gd (Row.no UInt8) K j).id := fun j hj => by
    have hne := old j hj
    refine ⟨(hr.has _ hne).2 (hasA_cons.2 (.inr (h.row j hj).1.2.1)), ?_⟩
    rw [hr.lk _ hne, lkA_cons, if_neg hne]
  have new : lkA A' id = (List.range n.toNat).map (f i.toNat) := by
    have hm := hr.mine.2.2
    have hg := hr.get
    rw [hr.n] at hm
    simp only [Row.at_id] at hm hg
    refine List.ext_getElem (by rw [hm, List.length_map, List.length_range]) fun t h1 h2 => ?_
    rw [hm] at h1
    have := hg t (by omega)
    unfold gd at this
    rw [List.getElem?_eq_getElem (by rw [hm]; exact h1)] at this
    simpa using this
  refine ⟨by rw [List.length_set]; exact hl, fun j hj => ?_, fun j q hj hq he => ?_⟩
  · rw [gd_set1]
    by_cases hj2 : i.toNat = j
    · rw [if_pos ⟨hj2, hil⟩, ← hj2]
      exact ⟨hr.mine, rfl, new⟩
    · rw [if_neg (fun hh => hj2 hh.1)]
      have hj3 : j < i.toNat := by omega
      obtain ⟨r1, r2, r3⟩ := h.row j hj3
      obtain ⟨k1, k2⟩ := keep j hj3
      exact ⟨⟨r1.1, k1, by rw [k2]; exact r1.2.2⟩, r2, by rw [k2]; exact r3⟩
  · rw [gd_set1, gd_set1] at he
    by_cases h1 : i.toNat = j <;> by_cases h2 : i.toNat = q
    · omega
    · rw [if_pos ⟨h1, hil⟩, if_neg (fun hh => h2 hh.1)] at he
      exact absurd he.symm (old q (by omega))
    · rw [if_neg (fun hh => h1 hh.1), if_pos ⟨h2, hil⟩] at he
      exact absurd he (old j (by omega))
    · rw [if_neg (fun hh => h1 hh.1), if_neg (fun hh => h2 hh.1)] at he
      exact h.inj j q (by omega) (by omega) he
theorem gd_all {α : Type} {d : α} {l : List α} {P : α → Prop} (h : ∀ j, j < l.length → P (gd d l j)) : ∀ x, x ∈ l → P x := fun x hx => by
  obtain ⟨i, hi, rfl⟩ := List.getElem_of_mem hx
  have := h i hi
  unfold gd at this
  rw [List.getElem?_eq_getElem hi] at this
  exact this
theorem FillI.fin {A : List (Nat × List UInt8)} {K : List (Row UInt8)} {i m n : Int} {f : Nat → Nat → UInt8} (h : FillI A K i m n f) (hi : m ≤ i) (hm : 0 ≤ m) : (∀ x : Row UInt8, x ∈ K → x.ok A ∧ x.kd ≠ RK.nil) ∧ List.map (fun x => x.get A) K = fillL m n f := by
  have hl := h.len
  refine ⟨gd_all (d := Row.no UInt8) fun j hj => ?_, ?_⟩
  · obtain ⟨r1, _, _⟩ := h.row j (by omega)
    exact ⟨r1.ok, by rw [r1.1]; simp⟩
  · unfold fillL
    refine List.ext_getElem (by simp; omega) fun j h1 h2 => ?_
    rw [List.length_map] at h1
    obtain ⟨r1, _, r3⟩ := h.row j (by omega)
    have e : gd (Row.no UInt8) K j = K[j] := by unfold gd; rw [List.getElem?_eq_getElem h1]; rfl
    rw [e] at r1 r3
    simp only [List.getElem_map, List.getElem_range]
    rw [r1.get.1, r3]
theorem filled_vc (m n : Int) (f : Nat → Nat → UInt8) (V : Int → Int → UInt8) (P : Int → Int → Prop) (Q : List (Row UInt8) → List (Nat × List UInt8) → Prop) (hm : 0 ≤ m ∧ m ≤ 64 ∧ 0 ≤ n ∧ n ≤ 64) (hP : ∀ i k, 0 ≤ i → i < m → 0 ≤ k → k < n → P i k ∧ V i k = f i.toNat k.toNat) (hQ : ∀ K A i, m ≤ i → FillI A K i m n f → Q K A) :
  ((0 : Int) ≤ m ∧ m ≤ m ∧ m * (↑(24 : Nat) : Int) ≤ (140737488355328 : Int)) ∧ (0 ≤ (0 : Int) ∧ (0 : Int) ≤ m ∧ FillI [] (List.replicate m.toNat (Row.no UInt8)) 0 m n f) ∧ ∀ (x : Int) (x_1 : List (Row UInt8)) (x_2 : List (Nat × List UInt8)), (0 ≤ x ∧ x ≤ m ∧ FillI x_2 x_1 x m n f) →
   (x < (↑(List.replicate m.toNat (Row.no UInt8)).length : Int) → ((0 : Int) ≤ n ∧ n ≤ n ∧ n * (↑(1 : Nat) : Int) ≤ (140737488355328 : Int)) ∧ ((0 : Int) ≤ x ∧ x < (↑x_1.length : Int)) ∧ ∀ (id : Nat), ¬hasA x_2 id → x.toNat < x_1.length ∧ ((0 : Int) ≤ x ∧ x < (↑(x_1.set x.toNat (Row.at UInt8 id (List.replicate n.toNat (UInt8.ofNat (Int.toNat (0 : Int)))).length)).length : Int)) ∧ x.toNat < (x_1.set x.toNat (Row.at UInt8 id (List.replicate n.toNat (UInt8.ofNat (Int.toNat (0 : Int)))).length)).length ∧ (gd (Row.no UInt8) (x_1.set x.toNat (Row.at UInt8 id (List.replicate n.toNat (UInt8.ofNat (Int.toNat (0 : Int)))).length)) x.toNat).ok ((id, List.replicate n.toNat (UInt8.ofNat (Int.toNat (0 : Int)))) :: x_2) ∧
     (0 ≤ (0 : Int) ∧ (0 : Int) ≤ n ∧ (x_1.set x.toNat (Row.at UInt8 id (List.replicate n.toNat (UInt8.ofNat (Int.toNat (0 : Int)))).length)) = (x_1.set x.toNat (Row.at UInt8 id (List.replicate n.toNat (UInt8.ofNat (Int.toNat (0 : Int)))).length)) ∧ x = x ∧ FillR ((id, List.replicate n.toNat (UInt8.ofNat (Int.toNat (0 : Int)))) :: x_2) ((id, List.replicate n.toNat (UInt8.ofNat (Int.toNat (0 : Int)))) :: x_2) (gd (Row.no UInt8) (x_1.set x.toNat (Row.at UInt8 id (List.replicate n.toNat (UInt8.ofNat (Int.toNat (0 : Int)))).length)) x.toNat) 0 n (f x.toNat)) ∧
     ∀ (x_3 x_4 : Int) (x_5 : List (Row UInt8)) (x_6 : List (Nat × List UInt8)), (0 ≤ x_3 ∧ x_3 ≤ n ∧ x_5 = (x_1.set x.toNat (Row.at UInt8 id (List.replicate n.toNat (UInt8.ofNat (Int.toNat (0 : Int)))).length)) ∧ x_4 = x ∧ FillR ((id, List.replicate n.toNat (UInt8.ofNat (Int.toNat (0 : Int)))) :: x_2) x_6 (gd (Row.no UInt8) x_5 x_4.toNat) x_3 n (f x_4.toNat)) →
      (x_3 < (↑((gd (Row.no UInt8) (x_1.set x.toNat (Row.at UInt8 id (List.replicate n.toNat (UInt8.ofNat (Int.toNat (0 : Int)))).length)) x.toNat).get ((id, List.replicate n.toNat (UInt8.ofNat (Int.toNat (0 : Int)))) :: x_2)).length : Int) → ((0 : Int) ≤ x_4 ∧ x_4 < (↑x_5.length : Int)) ∧ x_4.toNat < x_5.length ∧ P x_4 x_3 ∧ (gd (Row.no UInt8) x_5 x_4.toNat).ok x_6 ∧ ((0 : Int) ≤ x_3 ∧ x_3 < (↑((gd (Row.no UInt8) x_5 x_4.toNat).get x_6).length : Int)) ∧ (gd (Row.no UInt8) x_5 x_4.toNat).mine x_6 ∧ x_3.toNat < ((gd (Row.no UInt8) x_5 x_4.toNat).get x_6).length ∧ I64 (x_3 + (1 : Int)) ∧
        (0 ≤ x_3 + 1 ∧ x_3 + 1 ≤ n ∧ x_5 = (x_1.set x.toNat (Row.at UInt8 id (List.replicate n.toNat (UInt8.ofNat (Int.toNat (0 : Int)))).length)) ∧ x_4 = x ∧ FillR ((id, List.replicate n.toNat (UInt8.ofNat (Int.toNat (0 : Int)))) :: x_2) (((gd (Row.no UInt8) x_5 x_4.toNat).id, ((gd (Row.no UInt8) x_5 x_4.toNat).get x_6).set x_3.toNat (V x_4 x_3)) :: x_6) (gd (Row.no UInt8) x_5 x_4.toNat) (x_3 + 1) n (f x_4.toNat)) ∧ (n - (x_3 + (1 : Int))).toNat < (n - x_3).toNat) ∧
      ((↑((gd (Row.no UInt8) (x_1.set x.toNat (Row.at UInt8 id (List.replicate n.toNat (UInt8.ofNat (Int.toNat (0 : Int)))).length)) x.toNat).get ((id, List.replicate n.toNat (UInt8.ofNat (Int.toNat (0 : Int)))) :: x_2)).length : Int) ≤ x_3 → I64 (x + (1 : Int)) ∧ (0 ≤ x + 1 ∧ x + 1 ≤ m ∧ FillI x_6 x_5 (x + 1) m n f) ∧ (m - (x + (1 : Int))).toNat < (m - x).toNat)) ∧
   ((↑(List.replicate m.toNat (Row.no UInt8)).length : Int) ≤ x → Q x_1 x_2) := by
  obtain ⟨h1, h2, h3, h4⟩ := hm
  have hrep : ∀ k : Nat, (List.replicate k (UInt8.ofNat (Int.toNat (0 : Int)))).length = k := fun k => by simp
  refine ⟨⟨h1, Int.le_refl _, by omega⟩, ⟨Int.le_refl _, h1, FillI.start h1⟩, fun x K A ⟨i0, i1, hI⟩ => ⟨fun hx => ?_, fun hx => ?_⟩⟩
  · rw [List.length_replicate] at hx
    have hl := hI.len
    have hxl : x.toNat < K.length := by omega
    refine ⟨⟨h3, Int.le_refl _, by omega⟩, ⟨i0, by omega⟩, fun id hid => ?_⟩
    simp only [hrep]
    generalize hzs : List.replicate n.toNat (UInt8.ofNat (Int.toNat (0 : Int))) = zs
    have hz : zs.length = n.toNat := by rw [← hzs]; simp
    have hgd : gd (Row.no UInt8) (K.set x.toNat (Row.at UInt8 id n.toNat)) x.toNat = Row.at UInt8 id n.toNat := by rw [gd_set1, if_pos ⟨rfl, hxl⟩]
    have hm0 : (Row.at UInt8 id n.toNat).mine ((id, zs) :: A) := at_mine hz
    have hget : ((Row.at UInt8 id n.toNat).get ((id, zs) :: A)).length = n.toNat := by rw [hm0.get.1, hm0.get.2]; rfl
    refine ⟨hxl, ⟨i0, by rw [List.length_set]; omega⟩, by rw [List.length_set]; exact hxl, by rw [hgd]; exact hm0.ok, ⟨Int.le_refl _, h3, (by trivial), (by trivial), by rw [hgd]; exact FillR.start hz⟩, fun y x4 K5 A6 ⟨j0, j1, hK, hx4, hR⟩ => ?_⟩
    subst hK; subst hx4
    rw [hgd] at hR ⊢
    rw [hget]
    refine ⟨fun hy => ?_, fun hy => ⟨⟨by omega, by omega⟩, ⟨by omega, by omega, hI.next i0 (by omega) hid h3 (by omega) hR⟩, by omega⟩⟩
    have hg := hR.mine.get
    have hn := hR.n
    have hlen : ((Row.at UInt8 id n.toNat).get A6).length = n.toNat := by rw [hg.1, hg.2]; rfl
    rw [hlen]
    exact ⟨⟨i0, by rw [List.length_set]; omega⟩, by rw [List.length_set]; exact hxl, (hP _ _ i0 (by omega) j0 (by omega)).1, hR.mine.ok, ⟨j0, by omega⟩, hR.mine, by omega, ⟨by omega, by omega⟩, ⟨by omega, by omega, rfl, rfl, by rw [(hP _ _ i0 (by omega) j0 (by omega)).2]; exact hR.step j0 (by omega)⟩, by omega⟩
  · rw [List.length_replicate] at hx
    exact hQ K A x (by omega) hI
def fT (a : List (List UInt8)) (i k : Nat) : UInt8 := gd 0 (gd [] a k) i
def i_32_57_1 (n : Int) (a : (List (List UInt8))) (k0 : Int) (i0 : Int) (K0 : (List (Row UInt8))) (A0 : (List (Nat × List UInt8))) (k : Int) (i : Int) (K : (List (Row UInt8))) (A : (List (Nat × List UInt8))) : Prop := 0 ≤ k ∧ k ≤ n ∧ K = K0 ∧ i = i0 ∧ FillR A0 A (gd (Row.no UInt8) K i.toNat) k n (fT a i.toNat)
def i_32_57_0 (m : Int) (n : Int) (a : (List (List UInt8))) (i : Int) (K : (List (Row UInt8))) (A : (List (Nat × List UInt8))) : Prop := 0 ≤ i ∧ i ≤ m ∧ FillI A K i m n (fT a)
def k_32_57 : Con Tc Tc.dn := ⟨32, [.ty .cInt, .ty .cInt, .fnc 57 [(true, .llU8)]], fun x => (fun (m : Int) (n : Int) (a : (List (List UInt8))) => 0 ≤ m ∧ m ≤ 64 ∧ 0 ≤ n ∧ n ≤ 64 ∧ n ≤ a.length ∧ ∀ r, r ∈ a → m ≤ r.length) x.1 x.2.1 x.2.2.1.1, [.llU8], fun x => (fun (m : Int) (n : Int) (a : (List (List UInt8))) => fillL m n (fT a)) x.1 x.2.1 x.2.2.1.1⟩
abbrev z32_57_0 (n : Int) := (List.replicate n.toNat (UInt8.ofNat (Int.toNat (0 : Int))))
theorem k_32_57_v (m : Int) (n : Int) (a : (List (List UInt8))) (hp : 0 ≤ m ∧ m ≤ 64 ∧ 0 ≤ n ∧ n ≤ 64 ∧ n ≤ a.length ∧ ∀ r, r ∈ a → m ≤ r.length) : ((0 : Int) ≤ m ∧ m ≤ m ∧ m * (↑(24 : Nat) : Int) ≤ (140737488355328 : Int)) ∧ i_32_57_0 m n a (0 : Int) (List.replicate m.toNat (Row.no UInt8)) [] ∧ ∀ (x : Int) (x_1 : List (Row UInt8)) (x_2 : List (Nat × List UInt8)), i_32_57_0 m n a x x_1 x_2 → (x < (↑(List.replicate m.toNat (Row.no UInt8)).length : Int) → ((0 : Int) ≤ n ∧ n ≤ n ∧ n * (↑(1 : Nat) : Int) ≤ (140737488355328 : Int)) ∧ ((0 : Int) ≤ x ∧ x < (↑x_1.length : Int)) ∧ ∀ (id : Nat), ¬hasA x_2 id → x.toNat < x_1.length ∧ ((0 : Int) ≤ x ∧ x < (↑(x_1.set x.toNat (Row.at UInt8 id (z32_57_0 n).length)).length : Int)) ∧ x.toNat < (x_1.set x.toNat (Row.at UInt8 id (z32_57_0 n).length)).length ∧ (gd (Row.no UInt8) (x_1.set x.toNat (Row.at UInt8 id (z32_57_0 n).length)) x.toNat).ok ((id, List.replicate n.toNat (UInt8.ofNat (Int.toNat (0 : Int)))) :: x_2) ∧ i_32_57_1 n a (0 : Int) x (x_1.set x.toNat (Row.at UInt8 id (z32_57_0 n).length)) ((id, List.replicate n.toNat (UInt8.ofNat (Int.toNat (0 : Int)))) :: x_2) (0 : Int) x (x_1.set x.toNat (Row.at UInt8 id (z32_57_0 n).length)) ((id, List.replicate n.toNat (UInt8.ofNat (Int.toNat (0 : Int)))) :: x_2) ∧ ∀ (x_3 x_4 : Int) (x_5 : List (Row UInt8)) (x_6 : List (Nat × List UInt8)), i_32_57_1 n a (0 : Int) x (x_1.set x.toNat (Row.at UInt8 id (z32_57_0 n).length)) ((id, List.replicate n.toNat (UInt8.ofNat (Int.toNat (0 : Int)))) :: x_2) x_3 x_4 x_5 x_6 → (x_3 < (↑((gd (Row.no UInt8) (x_1.set x.toNat (Row.at UInt8 id (z32_57_0 n).length)) x.toNat).get ((id, List.replicate n.toNat (UInt8.ofNat (Int.toNat (0 : Int)))) :: x_2)).length : Int) → ((0 : Int) ≤ x_4 ∧ x_4 < (↑x_5.length : Int)) ∧ x_4.toNat < x_5.length ∧ ((0 : Int) ≤ x_3 ∧ x_3 < (↑a.length : Int) ∧ (0 : Int) ≤ x_4 ∧ x_4 < (↑(gd [] a x_3.toNat).length : Int)) ∧ (gd (Row.no UInt8) x_5 x_4.toNat).ok x_6 ∧ ((0 : Int) ≤ x_3 ∧ x_3 < (↑((gd (Row.no UInt8) x_5 x_4.toNat).get x_6).length : Int)) ∧ (gd (Row.no UInt8) x_5 x_4.toNat).mine x_6 ∧ x_3.toNat < ((gd (Row.no UInt8) x_5 x_4.toNat).get x_6).length ∧ I64 (x_3 + (1 : Int)) ∧ i_32_57_1 n a (0 : Int) x (x_1.set x.toNat (Row.at UInt8 id (z32_57_0 n).length)) ((id, List.replicate n.toNat (UInt8.ofNat (Int.toNat (0 : Int)))) :: x_2) (x_3 + (1 : Int)) x_4 x_5 (((gd (Row.no UInt8) x_5 x_4.toNat).id, ((gd (Row.no UInt8) x_5 x_4.toNat).get x_6).set x_3.toNat (gd (0 : UInt8) (gd [] a x_3.toNat) x_4.toNat)) :: x_6) ∧ (n - (x_3 + (1 : Int))).toNat < (n - x_3).toNat) ∧ ((↑((gd (Row.no UInt8) (x_1.set x.toNat (Row.at UInt8 id (z32_57_0 n).length)) x.toNat).get ((id, List.replicate n.toNat (UInt8.ofNat (Int.toNat (0 : Int)))) :: x_2)).length : Int) ≤ x_3 → I64 (x + (1 : Int)) ∧ i_32_57_0 m n a (x + (1 : Int)) x_5 x_6 ∧ (m - (x + (1 : Int))).toNat < (m - x).toNat)) ∧ ((↑(List.replicate m.toNat (Row.no UInt8)).length : Int) ≤ x → (∀ (x : Row UInt8), x ∈ x_1 → x.ok x_2 ∧ x.kd ≠ RK.nil) ∧ List.map (fun x => x.get x_2) x_1 = fillL m n (fT a)) := by
  delta z32_57_0
  exact filled_vc m n (fT a) (fun i k => gd 0 (gd [] a k.toNat) i.toNat) (fun i k => (0 : Int) ≤ k ∧ k < (↑a.length : Int) ∧ (0 : Int) ≤ i ∧ i < (↑(gd [] a k.toNat).length : Int)) _ ⟨hp.1, hp.2.1, hp.2.2.1, hp.2.2.2.1⟩ (fun i k h1 h2 h3 h4 => ⟨⟨h3, by omega, h1, by have := hp.2.2.2.2.2 _ (gd_mem (d := []) (xs := a) (i := k.toNat) (by omega)); omega⟩, rfl⟩) fun K A i hi h => h.fin hi hp.1
theorem k_32_57_ok : k_32_57.Ok Try.prog tD := con_ok tD_ok (Δ := [k_57]) ⟨k_57_ok, trivial⟩ (Ω := []) trivial k_32_57 F32_ok F32_call (fun _ => []) (fun _ => trivial) 0 (fun x => (fun (m : Int) (n : Int) (a : (List (List UInt8))) => (fun k => bif Nat.beq k 0 then some (.inv [.sl 14 .cInt, .bl 1 .rU8, .ar .cU8] (fun zo zv => (fun (i : Int) (K : (List (Row UInt8))) (A : (List (Nat × List UInt8))) => i_32_57_0 m n a i K A) zv.1 zv.2.1 zv.2.2.1) (fun zo zv => (fun (i : Int) (K : (List (Row UInt8))) (A : (List (Nat × List UInt8))) => (m - i).toNat) zv.1 zv.2.1 zv.2.2.1)) else bif Nat.beq k 1 then some (.inv [.sl 27 .cInt, .sl 8 .cInt, .bl 1 .rU8, .ar .cU8] (fun zo zv => (fun (k0 : Int) (i0 : Int) (K0 : (List (Row UInt8))) (A0 : (List (Nat × List UInt8))) (k : Int) (i : Int) (K : (List (Row UInt8))) (A : (List (Nat × List UInt8))) => i_32_57_1 n a k0 i0 K0 A0 k i K A) zo.1 zo.2.1 zo.2.2.1 zo.2.2.2.1 zv.1 zv.2.1 zv.2.2.1 zv.2.2.2.1) (fun zo zv => (fun (k0 : Int) (i0 : Int) (K0 : (List (Row UInt8))) (A0 : (List (Nat × List UInt8))) (k : Int) (i : Int) (K : (List (Row UInt8))) (A : (List (Nat × List UInt8))) => (n - k).toNat) zo.1 zo.2.1 zo.2.2.1 zo.2.2.2.1 zv.1 zv.2.1 zv.2.2.1 zv.2.2.2.1)) else none)) x.1 x.2.1 x.2.2.1.1) fun x hp => Eq.mp (by kernel_rfl) (k_32_57_v x.1 x.2.1 x.2.2.1.1 hp)
open Go.RowKit
def fU (i k : Nat) : UInt8 := if i = k then 1 else 0
def fR (a t : List (List UInt8)) (i k : Nat) : UInt8 := dotGo (gd [] a i) (gd [] t k) 0
def fC (many : Int) (i k : Nat) : UInt8 := invN (UInt8.ofNat (i ^^^ (many.toNat + k)))
def mrect (n m : Nat) (a : List (List UInt8)) : Prop := a.length = n ∧ ∀ r, r ∈ a → r.length = m
def turnL (a : List (List UInt8)) : List (List UInt8) := fillL (gd [] a 0).length a.length (fT a)
def rawL (a b : List (List UInt8)) : List (List UInt8) := fillL a.length (turnL b).length (fR a (turnL b))
theorem mchkGo_ok {n : Int} : ∀ {a : List (List UInt8)}, mchkGo n a = 0 → ∀ r, r ∈ a → (r.length : Int) = n ∧ r.length ≤ 16 ∧ 0 < r.length
  | [], _, r, hr => by simp at hr
  | q :: l, h, r, hr => by
    simp only [mchkGo] at h
    by_cases h1 : 16 < (q.length : Int)
    · rw [if_pos h1] at h; simp at h
    · rw [if_neg h1] at h
      by_cases h2 : q.length = 0 ∨ (q.length : Int) ≠ n
      · rw [if_pos h2] at h; simp at h
      · rw [if_neg h2] at h
        rcases List.mem_cons.1 hr with rfl | hr
        · omega
        · exact mchkGo_ok h r hr
theorem mchk_ok {a : List (List UInt8)} (h : mchk a = 0) : 0 < a.length ∧ a.length ≤ 16 ∧ 0 < (gd [] a 0).length ∧ (gd [] a 0).length ≤ 16 ∧ mrect a.length (gd [] a 0).length a := by
  unfold mchk at h
  by_cases h1 : 16 < a.length
  · rw [if_pos h1] at h; simp at h
  · rw [if_neg h1] at h
    by_cases h2 : a.length = 0
    · rw [if_pos h2] at h; simp at h
    · rw [if_neg h2] at h
      have hk := mchkGo_ok h
      have := hk _ (gd_mem (d := []) (xs := a) (i := 0) (by omega))
      exact ⟨by omega, by omega, by omega, by omega, rfl, fun r hr => by have := (hk r hr).1; omega⟩
theorem fill_len {m n : Int} {f : Nat → Nat → UInt8} : (fillL m n f).length = m.toNat := by simp [fillL]
theorem fill_rect {m n : Int} {f : Nat → Nat → UInt8} : mrect m.toNat n.toNat (fillL m n f) := by
  refine ⟨fill_len, fun r hr => ?_⟩
  unfold fillL at hr
  simp only [List.mem_map, List.mem_range] at hr
  obtain ⟨i, _, rfl⟩ := hr
  simp
theorem fill_row {m n : Int} {f : Nat → Nat → UInt8} {i : Nat} (h : (i : Int) < m) : gd [] (fillL m n f) i = (List.range n.toNat).map (f i) := by
  have hi : i < m.toNat := by omega
  unfold gd fillL
  simp [hi]
theorem mrect.row {n m : Nat} {a : List (List UInt8)} (h : mrect n m a) {i : Nat} (hi : i < n) : (gd [] a i).length = m := h.2 _ (gd_mem (by rw [h.1]; exact hi))
def i_32_46_1 (n : Int) (k0 : Int) (i0 : Int) (K0 : (List (Row UInt8))) (A0 : (List (Nat × List UInt8))) (k : Int) (i : Int) (K : (List (Row UInt8))) (A : (List (Nat × List UInt8))) : Prop := 0 ≤ k ∧ k ≤ n ∧ K = K0 ∧ i = i0 ∧ FillR A0 A (gd (Row.no UInt8) K i.toNat) k n (fU i.toNat)
def i_32_46_0 (m : Int) (n : Int) (i : Int) (K : (List (Row UInt8))) (A : (List (Nat × List UInt8))) : Prop := 0 ≤ i ∧ i ≤ m ∧ FillI A K i m n (fU)
def k_32_46 : Con Tc Tc.dn := ⟨32, [.ty .cInt, .ty .cInt, .fnc 46 []], fun x => (fun (m : Int) (n : Int) => 0 ≤ m ∧ m ≤ 64 ∧ 0 ≤ n ∧ n ≤ 64) x.1 x.2.1, [.llU8], fun x => (fun (m : Int) (n : Int) => fillL m n fU) x.1 x.2.1⟩
abbrev z32_46_0 (n : Int) := (List.replicate n.toNat (UInt8.ofNat (Int.toNat (0 : Int))))
theorem k_32_46_v (m : Int) (n : Int) (hp : 0 ≤ m ∧ m ≤ 64 ∧ 0 ≤ n ∧ n ≤ 64) : ((0 : Int) ≤ m ∧ m ≤ m ∧ m * (↑(24 : Nat) : Int) ≤ (140737488355328 : Int)) ∧ i_32_46_0 m n (0 : Int) (List.replicate m.toNat (Row.no UInt8)) [] ∧ ∀ (x : Int) (x_1 : List (Row UInt8)) (x_2 : List (Nat × List UInt8)), i_32_46_0 m n x x_1 x_2 → (x < (↑(List.replicate m.toNat (Row.no UInt8)).length : Int) → ((0 : Int) ≤ n ∧ n ≤ n ∧ n * (↑(1 : Nat) : Int) ≤ (140737488355328 : Int)) ∧ ((0 : Int) ≤ x ∧ x < (↑x_1.length : Int)) ∧ ∀ (id : Nat), ¬hasA x_2 id → x.toNat < x_1.length ∧ ((0 : Int) ≤ x ∧ x < (↑(x_1.set x.toNat (Row.at UInt8 id (z32_46_0 n).length)).length : Int)) ∧ x.toNat < (x_1.set x.toNat (Row.at UInt8 id (z32_46_0 n).length)).length ∧ (gd (Row.no UInt8) (x_1.set x.toNat (Row.at UInt8 id (z32_46_0 n).length)) x.toNat).ok ((id, List.replicate n.toNat (UInt8.ofNat (Int.toNat (0 : Int)))) :: x_2) ∧ i_32_46_1 n (0 : Int) x (x_1.set x.toNat (Row.at UInt8 id (z32_46_0 n).length)) ((id, List.replicate n.toNat (UInt8.ofNat (Int.toNat (0 : Int)))) :: x_2) (0 : Int) x (x_1.set x.toNat (Row.at UInt8 id (z32_46_0 n).length)) ((id, List.replicate n.toNat (UInt8.ofNat (Int.toNat (0 : Int)))) :: x_2) ∧ ∀ (x_3 x_4 : Int) (x_5 : List (Row UInt8)) (x_6 : List (Nat × List UInt8)), i_32_46_1 n (0 : Int) x (x_1.set x.toNat (Row.at UInt8 id (z32_46_0 n).length)) ((id, List.replicate n.toNat (UInt8.ofNat (Int.toNat (0 : Int)))) :: x_2) x_3 x_4 x_5 x_6 → (x_3 < (↑((gd (Row.no UInt8) (x_1.set x.toNat (Row.at UInt8 id (z32_46_0 n).length)) x.toNat).get ((id, List.replicate n.toNat (UInt8.ofNat (Int.toNat (0 : Int)))) :: x_2)).length : Int) → ((0 : Int) ≤ x_4 ∧ x_4 < (↑x_5.length : Int)) ∧ x_4.toNat < x_5.length ∧ True ∧ (gd (Row.no UInt8) x_5 x_4.toNat).ok x_6 ∧ ((0 : Int) ≤ x_3 ∧ x_3 < (↑((gd (Row.no UInt8) x_5 x_4.toNat).get x_6).length : Int)) ∧ (gd (Row.no UInt8) x_5 x_4.toNat).mine x_6 ∧ x_3.toNat < ((gd (Row.no UInt8) x_5 x_4.toNat).get x_6).length ∧ I64 (x_3 + (1 : Int)) ∧ i_32_46_1 n (0 : Int) x (x_1.set x.toNat (Row.at UInt8 id (z32_46_0 n).length)) ((id, List.replicate n.toNat (UInt8.ofNat (Int.toNat (0 : Int)))) :: x_2) (x_3 + (1 : Int)) x_4 x_5 (((gd (Row.no UInt8) x_5 x_4.toNat).id, ((gd (Row.no UInt8) x_5 x_4.toNat).get x_6).set x_3.toNat (if x_4 = x_3 then (1 : RD Tc.dn [Tc.cU8]) else (0 : RD Tc.dn [Tc.cU8]))) :: x_6) ∧ (n - (x_3 + (1 : Int))).toNat < (n - x_3).toNat) ∧ ((↑((gd (Row.no UInt8) (x_1.set x.toNat (Row.at UInt8 id (z32_46_0 n).length)) x.toNat).get ((id, List.replicate n.toNat (UInt8.ofNat (Int.toNat (0 : Int)))) :: x_2)).length : Int) ≤ x_3 → I64 (x + (1 : Int)) ∧ i_32_46_0 m n (x + (1 : Int)) x_5 x_6 ∧ (m - (x + (1 : Int))).toNat < (m - x).toNat)) ∧ ((↑(List.replicate m.toNat (Row.no UInt8)).length : Int) ≤ x → (∀ (x : Row UInt8), x ∈ x_1 → x.ok x_2 ∧ x.kd ≠ RK.nil) ∧ List.map (fun x => x.get x_2) x_1 = fillL m n fU) := by
  delta z32_46_0
  exact filled_vc m n fU (fun i k => if i = k then 1 else 0) (fun i k => True) _ hp (fun i k h1 h2 h3 h4 => ⟨trivial, by unfold fU; by_cases h : i = k <;> simp [h]; omega⟩) fun K A i hi h => h.fin hi hp.1
theorem k_32_46_ok : k_32_46.Ok Try.prog tD := con_ok tD_ok (Δ := [k_46]) ⟨k_46_ok, trivial⟩ (Ω := []) trivial k_32_46 F32_ok F32_call (fun _ => []) (fun _ => trivial) 0 (fun x => (fun (m : Int) (n : Int) => (fun k => bif Nat.beq k 0 then some (.inv [.sl 14 .cInt, .bl 1 .rU8, .ar .cU8] (fun zo zv => (fun (i : Int) (K : (List (Row UInt8))) (A : (List (Nat × List UInt8))) => i_32_46_0 m n i K A) zv.1 zv.2.1 zv.2.2.1) (fun zo zv => (fun (i : Int) (K : (List (Row UInt8))) (A : (List (Nat × List UInt8))) => (m - i).toNat) zv.1 zv.2.1 zv.2.2.1)) else bif Nat.beq k 1 then some (.inv [.sl 27 .cInt, .sl 8 .cInt, .bl 1 .rU8, .ar .cU8] (fun zo zv => (fun (k0 : Int) (i0 : Int) (K0 : (List (Row UInt8))) (A0 : (List (Nat × List UInt8))) (k : Int) (i : Int) (K : (List (Row UInt8))) (A : (List (Nat × List UInt8))) => i_32_46_1 n k0 i0 K0 A0 k i K A) zo.1 zo.2.1 zo.2.2.1 zo.2.2.2.1 zv.1 zv.2.1 zv.2.2.1 zv.2.2.2.1) (fun zo zv => (fun (k0 : Int) (i0 : Int) (K0 : (List (Row UInt8))) (A0 : (List (Nat × List UInt8))) (k : Int) (i : Int) (K : (List (Row UInt8))) (A : (List (Nat × List UInt8))) => (n - k).toNat) zo.1 zo.2.1 zo.2.2.1 zo.2.2.2.1 zv.1 zv.2.1 zv.2.2.1 zv.2.2.2.1)) else none)) x.1 x.2.1) fun x hp => Eq.mp (by kernel_rfl) (k_32_46_v x.1 x.2.1 hp)
def k_30 : Con Tc Tc.dn := ⟨30, [.ty .cInt], fun x => (fun (n : Int) => 0 ≤ n ∧ n ≤ 64) x.1, [.llU8], fun x => (fun (n : Int) => fillL n n fU) x.1⟩
theorem k_30_v (n : Int) (hp : 0 ≤ n ∧ n ≤ 64) : ((0 : Int) ≤ n ∧ n ≤ (64 : Int) ∧ (0 : Int) ≤ n ∧ n ≤ (64 : Int)) ∧ fillL n n fU = fillL n n fU := by
  (repeat' (first | apply And.intro | intro _)) <;> first | assumption | trivial | omega | (grind []) | trace_state
theorem k_30_ok : k_30.Ok Try.prog tD := con_ok tD_ok (Δ := [k_32_46]) ⟨k_32_46_ok, trivial⟩ (Ω := []) trivial k_30 F30_ok F30_call (fun _ => []) (fun _ => trivial) 0 (fun x => (fun (n : Int) => (fun _ => none)) x.1) fun x hp => Eq.mp (by kernel_rfl) (k_30_v x.1 hp)
def unitL (n : Int) : List (List UInt8) × Int := if 1 ≤ n ∧ n ≤ 16 then (fillL n n fU, 0) else ([], 3)
def mulL (a b : List (List UInt8)) : List (List UInt8) × Int := if mchk a ≠ 0 then ([], mchk a) else if mchk b ≠ 0 then ([], mchk b) else if (gd [] a 0).length ≠ b.length then ([], 1) else (rawL a b, 0)
def cauL (m n : Int) : List (List UInt8) × Int := if 1 ≤ m ∧ m ≤ 16 ∧ 1 ≤ n ∧ n ≤ 16 then (fillL m n (fC m), 0) else ([], 3)
def k_11 : Con Tc Tc.dn := ⟨11, [.ty .cInt], fun x => (fun (n : Int) => True) x.1, [.llU8, .cInt], fun x => (fun (n : Int) => unitL n) x.1⟩
theorem k_11_v (n : Int) : True ∧ (decide ((1 : Int) ≤ n ∧ n ≤ (16 : Int)) = !true → ([], (3 : Int)) = unitL n) ∧ (decide ((1 : Int) ≤ n ∧ n ≤ (16 : Int)) = !false → ((0 : Int) ≤ n ∧ n ≤ (64 : Int)) ∧ (fillL n n fU, (0 : Int)) = unitL n) := by
  unfold unitL
  (repeat' (first | apply And.intro | intro _)) <;> first | assumption | trivial | omega | (grind []) | trace_state
theorem k_11_ok : k_11.Ok Try.prog tD := con_ok tD_ok (Δ := [k_29, k_30]) ⟨k_29_ok, k_30_ok, trivial⟩ (Ω := []) trivial k_11 F11_ok F11_call (fun _ => []) (fun _ => trivial) 0 (fun x => (fun (n : Int) => (fun _ => none)) x.1) fun x hp => Eq.mp (by kernel_rfl) (k_11_v x.1)
def k_47 : Con Tc Tc.dn := ⟨47, [.ty .llU8], fun x => (fun (a : (List (List UInt8))) => 0 < a.length ∧ a.length ≤ 16 ∧ (gd [] a 0).length ≤ 16 ∧ mrect a.length (gd [] a 0).length a) x.1, [.llU8], fun x => (fun (a : (List (List UInt8))) => turnL a) x.1⟩
theorem k_47_v (a : (List (List UInt8))) (hp : 0 < a.length ∧ a.length ≤ 16 ∧ (gd [] a 0).length ≤ 16 ∧ mrect a.length (gd [] a 0).length a) : ((0 : Int) ≤ (0 : Int) ∧ (0 : Int) < (↑a.length : Int)) ∧ ((0 : Int) ≤ (↑(gd [] a (Int.toNat (0 : Int))).length : Int) ∧ (↑(gd [] a (Int.toNat (0 : Int))).length : Int) ≤ (64 : Int) ∧ (0 : Int) ≤ (↑a.length : Int) ∧ (↑a.length : Int) ≤ (64 : Int) ∧ (↑a.length : Int) ≤ (↑a.length : Int) ∧ ∀ (r : List UInt8), r ∈ a → (↑(gd [] a (Int.toNat (0 : Int))).length : Int) ≤ (↑r.length : Int)) ∧ fillL (↑(gd [] a (Int.toNat (0 : Int))).length : Int) (↑a.length : Int) (fT a) = turnL a := by
  have hr := hp.2.2.2.2
  unfold turnL
  (repeat' (first | apply And.intro | intro _)) <;> first | assumption | trivial | omega | (grind []) | trace_state
theorem k_47_ok : k_47.Ok Try.prog tD := con_ok tD_ok (Δ := [k_32_57]) ⟨k_32_57_ok, trivial⟩ (Ω := []) trivial k_47 F47_ok F47_call (fun _ => []) (fun _ => trivial) 0 (fun x => (fun (a : (List (List UInt8))) => (fun _ => none)) x.1) fun x hp => Eq.mp (by kernel_rfl) (k_47_v x.1 hp)
def k_48 : Con Tc Tc.dn := ⟨48, [.ty .cInt, .ty .cInt, .ptr .llU8, .ptr .llU8], fun x => (fun (i : Int) (k : Int) (a : (List (List UInt8))) (t : (List (List UInt8))) => 0 ≤ i ∧ i < a.length ∧ 0 ≤ k ∧ k < t.length ∧ (gd [] a i.toNat).length ≤ (gd [] t k.toNat).length ∧ (gd [] a i.toNat).length ≤ 1000) x.1 x.2.1 x.2.2.1 x.2.2.2.1, [.cU8], fun x => (fun (i : Int) (k : Int) (a : (List (List UInt8))) (t : (List (List UInt8))) => dotGo (gd [] a i.toNat) (gd [] t k.toNat) 0) x.1 x.2.1 x.2.2.1 x.2.2.2.1⟩
theorem k_48_v (i : Int) (k : Int) (a : (List (List UInt8))) (t : (List (List UInt8))) (hp : 0 ≤ i ∧ i < a.length ∧ 0 ≤ k ∧ k < t.length ∧ (gd [] a i.toNat).length ≤ (gd [] t k.toNat).length ∧ (gd [] a i.toNat).length ≤ 1000) : ((0 : Int) ≤ i ∧ i < (↑a.length : Int)) ∧ ((0 : Int) ≤ k ∧ k < (↑t.length : Int)) ∧ ((gd [] a i.toNat).length ≤ (gd [] t k.toNat).length ∧ (gd [] a i.toNat).length ≤ (1000 : Nat)) ∧ dotGo (gd [] a i.toNat) (gd [] t k.toNat) (0 : UInt8) = dotGo (gd [] a i.toNat) (gd [] t k.toNat) (0 : UInt8) := by
  (repeat' (first | apply And.intro | intro _)) <;> first | assumption | trivial | omega | (grind []) | trace_state
theorem k_48_ok : k_48.Ok Try.prog tD := con_ok tD_ok (Δ := [k_49]) ⟨k_49_ok, trivial⟩ (Ω := []) trivial k_48 F48_ok F48_call (fun _ => []) (fun _ => trivial) 0 (fun x => (fun (i : Int) (k : Int) (a : (List (List UInt8))) (t : (List (List UInt8))) => (fun _ => none)) x.1 x.2.1 x.2.2.1 x.2.2.2.1) fun x hp => Eq.mp (by kernel_rfl) (k_48_v x.1 x.2.1 x.2.2.1 x.2.2.2.1 hp)
def i_32_48_1 (n : Int) (a : (List (List UInt8))) (t : (List (List UInt8))) (k0 : Int) (i0 : Int) (K0 : (List (Row UInt8))) (A0 : (List (Nat × List UInt8))) (k : Int) (i : Int) (K : (List (Row UInt8))) (A : (List (Nat × List UInt8))) : Prop := 0 ≤ k ∧ k ≤ n ∧ K = K0 ∧ i = i0 ∧ FillR A0 A (gd (Row.no UInt8) K i.toNat) k n (fR a t i.toNat)
def i_32_48_0 (m : Int) (n : Int) (a : (List (List UInt8))) (t : (List (List UInt8))) (i : Int) (K : (List (Row UInt8))) (A : (List (Nat × List UInt8))) : Prop := 0 ≤ i ∧ i ≤ m ∧ FillI A K i m n (fR a t)
def k_32_48 : Con Tc Tc.dn := ⟨32, [.ty .cInt, .ty .cInt, .fnc 48 [(true, .llU8), (true, .llU8)]], fun x => (fun (m : Int) (n : Int) (a : (List (List UInt8))) (t : (List (List UInt8))) => 0 ≤ m ∧ m ≤ 64 ∧ 0 ≤ n ∧ n ≤ 64 ∧ m ≤ a.length ∧ n ≤ t.length ∧ ∀ r, r ∈ a → ∀ q, q ∈ t → r.length ≤ q.length ∧ r.length ≤ 1000) x.1 x.2.1 x.2.2.1.1 x.2.2.1.2.1, [.llU8], fun x => (fun (m : Int) (n : Int) (a : (List (List UInt8))) (t : (List (List UInt8))) => fillL m n (fR a t)) x.1 x.2.1 x.2.2.1.1 x.2.2.1.2.1⟩
abbrev z32_48_0 (n : Int) := (List.replicate n.toNat (UInt8.ofNat (Int.toNat (0 : Int))))
theorem k_32_48_v (m : Int) (n : Int) (a : (List (List UInt8))) (t : (List (List UInt8))) (hp : 0 ≤ m ∧ m ≤ 64 ∧ 0 ≤ n ∧ n ≤ 64 ∧ m ≤ a.length ∧ n ≤ t.length ∧ ∀ r, r ∈ a → ∀ q, q ∈ t → r.length ≤ q.length ∧ r.length ≤ 1000) : ((0 : Int) ≤ m ∧ m ≤ m ∧ m * (↑(24 : Nat) : Int) ≤ (140737488355328 : Int)) ∧ i_32_48_0 m n a t (0 : Int) (List.replicate m.toNat (Row.no UInt8)) [] ∧ ∀ (x : Int) (x_1 : List (Row UInt8)) (x_2 : List (Nat × List UInt8)), i_32_48_0 m n a t x x_1 x_2 → (x < (↑(List.replicate m.toNat (Row.no UInt8)).length : Int) → ((0 : Int) ≤ n ∧ n ≤ n ∧ n * (↑(1 : Nat) : Int) ≤ (140737488355328 : Int)) ∧ ((0 : Int) ≤ x ∧ x < (↑x_1.length : Int)) ∧ ∀ (id : Nat), ¬hasA x_2 id → x.toNat < x_1.length ∧ ((0 : Int) ≤ x ∧ x < (↑(x_1.set x.toNat (Row.at UInt8 id (z32_48_0 n).length)).length : Int)) ∧ x.toNat < (x_1.set x.toNat (Row.at UInt8 id (z32_48_0 n).length)).length ∧ (gd (Row.no UInt8) (x_1.set x.toNat (Row.at UInt8 id (z32_48_0 n).length)) x.toNat).ok ((id, List.replicate n.toNat (UInt8.ofNat (Int.toNat (0 : Int)))) :: x_2) ∧ i_32_48_1 n a t (0 : Int) x (x_1.set x.toNat (Row.at UInt8 id (z32_48_0 n).length)) ((id, List.replicate n.toNat (UInt8.ofNat (Int.toNat (0 : Int)))) :: x_2) (0 : Int) x (x_1.set x.toNat (Row.at UInt8 id (z32_48_0 n).length)) ((id, List.replicate n.toNat (UInt8.ofNat (Int.toNat (0 : Int)))) :: x_2) ∧ ∀ (x_3 x_4 : Int) (x_5 : List (Row UInt8)) (x_6 : List (Nat × List UInt8)), i_32_48_1 n a t (0 : Int) x (x_1.set x.toNat (Row.at UInt8 id (z32_48_0 n).length)) ((id, List.replicate n.toNat (UInt8.ofNat (Int.toNat (0 : Int)))) :: x_2) x_3 x_4 x_5 x_6 → (x_3 < (↑((gd (Row.no UInt8) (x_1.set x.toNat (Row.at UInt8 id (z32_48_0 n).length)) x.toNat).get ((id, List.replicate n.toNat (UInt8.ofNat (Int.toNat (0 : Int)))) :: x_2)).length : Int) → ((0 : Int) ≤ x_4 ∧ x_4 < (↑x_5.length : Int)) ∧ x_4.toNat < x_5.length ∧ ((0 : Int) ≤ x_4 ∧ x_4 < (↑a.length : Int) ∧ (0 : Int) ≤ x_3 ∧ x_3 < (↑t.length : Int) ∧ (gd [] a x_4.toNat).length ≤ (gd [] t x_3.toNat).length ∧ (gd [] a x_4.toNat).length ≤ (1000 : Nat)) ∧ (gd (Row.no UInt8) x_5 x_4.toNat).ok x_6 ∧ ((0 : Int) ≤ x_3 ∧ x_3 < (↑((gd (Row.no UInt8) x_5 x_4.toNat).get x_6).length : Int)) ∧ (gd (Row.no UInt8) x_5 x_4.toNat).mine x_6 ∧ x_3.toNat < ((gd (Row.no UInt8) x_5 x_4.toNat).get x_6).length ∧ I64 (x_3 + (1 : Int)) ∧ i_32_48_1 n a t (0 : Int) x (x_1.set x.toNat (Row.at UInt8 id (z32_48_0 n).length)) ((id, List.replicate n.toNat (UInt8.ofNat (Int.toNat (0 : Int)))) :: x_2) (x_3 + (1 : Int)) x_4 x_5 (((gd (Row.no UInt8) x_5 x_4.toNat).id, ((gd (Row.no UInt8) x_5 x_4.toNat).get x_6).set x_3.toNat (dotGo (gd [] a x_4.toNat) (gd [] t x_3.toNat) (0 : UInt8))) :: x_6) ∧ (n - (x_3 + (1 : Int))).toNat < (n - x_3).toNat) ∧ ((↑((gd (Row.no UInt8) (x_1.set x.toNat (Row.at UInt8 id (z32_48_0 n).length)) x.toNat).get ((id, List.replicate n.toNat (UInt8.ofNat (Int.toNat (0 : Int)))) :: x_2)).length : Int) ≤ x_3 → I64 (x + (1 : Int)) ∧ i_32_48_0 m n a t (x + (1 : Int)) x_5 x_6 ∧ (m - (x + (1 : Int))).toNat < (m - x).toNat)) ∧ ((↑(List.replicate m.toNat (Row.no UInt8)).length : Int) ≤ x → (∀ (x : Row UInt8), x ∈ x_1 → x.ok x_2 ∧ x.kd ≠ RK.nil) ∧ List.map (fun x => x.get x_2) x_1 = fillL m n (fR a t)) := by
  delta z32_48_0
  exact filled_vc m n (fR a t) (fun i k => dotGo (gd [] a i.toNat) (gd [] t k.toNat) 0) (fun i k => (0 : Int) ≤ i ∧ i < (↑a.length : Int) ∧ (0 : Int) ≤ k ∧ k < (↑t.length : Int) ∧ (gd [] a i.toNat).length ≤ (gd [] t k.toNat).length ∧ (gd [] a i.toNat).length ≤ 1000) _ ⟨hp.1, hp.2.1, hp.2.2.1, hp.2.2.2.1⟩ (fun i k h1 h2 h3 h4 => ⟨⟨h1, by omega, h3, by omega, hp.2.2.2.2.2.2 _ (gd_mem (by omega)) _ (gd_mem (by omega))⟩, rfl⟩) fun K A i hi h => h.fin hi hp.1
theorem k_32_48_ok : k_32_48.Ok Try.prog tD := con_ok tD_ok (Δ := [k_48]) ⟨k_48_ok, trivial⟩ (Ω := []) trivial k_32_48 F32_ok F32_call (fun _ => []) (fun _ => trivial) 0 (fun x => (fun (m : Int) (n : Int) (a : (List (List UInt8))) (t : (List (List UInt8))) => (fun k => bif Nat.beq k 0 then some (.inv [.sl 14 .cInt, .bl 1 .rU8, .ar .cU8] (fun zo zv => (fun (i : Int) (K : (List (Row UInt8))) (A : (List (Nat × List UInt8))) => i_32_48_0 m n a t i K A) zv.1 zv.2.1 zv.2.2.1) (fun zo zv => (fun (i : Int) (K : (List (Row UInt8))) (A : (List (Nat × List UInt8))) => (m - i).toNat) zv.1 zv.2.1 zv.2.2.1)) else bif Nat.beq k 1 then some (.inv [.sl 27 .cInt, .sl 8 .cInt, .bl 1 .rU8, .ar .cU8] (fun zo zv => (fun (k0 : Int) (i0 : Int) (K0 : (List (Row UInt8))) (A0 : (List (Nat × List UInt8))) (k : Int) (i : Int) (K : (List (Row UInt8))) (A : (List (Nat × List UInt8))) => i_32_48_1 n a t k0 i0 K0 A0 k i K A) zo.1 zo.2.1 zo.2.2.1 zo.2.2.2.1 zv.1 zv.2.1 zv.2.2.1 zv.2.2.2.1) (fun zo zv => (fun (k0 : Int) (i0 : Int) (K0 : (List (Row UInt8))) (A0 : (List (Nat × List UInt8))) (k : Int) (i : Int) (K : (List (Row UInt8))) (A : (List (Nat × List UInt8))) => (n - k).toNat) zo.1 zo.2.1 zo.2.2.1 zo.2.2.2.1 zv.1 zv.2.1 zv.2.2.1 zv.2.2.2.1)) else none)) x.1 x.2.1 x.2.2.1.1 x.2.2.1.2.1) fun x hp => Eq.mp (by kernel_rfl) (k_32_48_v x.1 x.2.1 x.2.2.1.1 x.2.2.1.2.1 hp)
def k_31 : Con Tc Tc.dn := ⟨31, [.ty .llU8, .ty .llU8], fun x => (fun (a : (List (List UInt8))) (b : (List (List UInt8))) => a.length ≤ 16 ∧ (∀ r, r ∈ a → r.length = b.length) ∧ 0 < b.length ∧ b.length ≤ 16 ∧ (gd [] b 0).length ≤ 16 ∧ mrect b.length (gd [] b 0).length b) x.1 x.2.1, [.llU8], fun x => (fun (a : (List (List UInt8))) (b : (List (List UInt8))) => rawL a b) x.1 x.2.1⟩
theorem k_31_v (a : (List (List UInt8))) (b : (List (List UInt8))) (hp : a.length ≤ 16 ∧ (∀ r, r ∈ a → r.length = b.length) ∧ 0 < b.length ∧ b.length ≤ 16 ∧ (gd [] b 0).length ≤ 16 ∧ mrect b.length (gd [] b 0).length b) : ((0 : Nat) < b.length ∧ b.length ≤ (16 : Nat) ∧ (gd [] b (0 : Nat)).length ≤ (16 : Nat) ∧ mrect b.length (gd [] b (0 : Nat)).length b) ∧ ((0 : Int) ≤ (↑a.length : Int) ∧ (↑a.length : Int) ≤ (64 : Int) ∧ (0 : Int) ≤ (↑(turnL b).length : Int) ∧ (↑(turnL b).length : Int) ≤ (64 : Int) ∧ (↑a.length : Int) ≤ (↑a.length : Int) ∧ (↑(turnL b).length : Int) ≤ (↑(turnL b).length : Int) ∧ ∀ (r : List UInt8), r ∈ a → ∀ (q : List UInt8), q ∈ turnL b → r.length ≤ q.length ∧ r.length ≤ (1000 : Nat)) ∧ fillL (↑a.length : Int) (↑(turnL b).length : Int) (fR a (turnL b)) = rawL a b := by
  have ht : mrect (gd [] b 0).length b.length (turnL b) := by have := fill_rect (m := (gd [] b 0).length) (n := b.length) (f := fT b); simpa [turnL] using this
  have h1 := ht.1
  have h2 := ht.2
  unfold rawL
  (repeat' (first | apply And.intro | intro _)) <;> first | assumption | trivial | omega | (grind [mrect]) | trace_state
theorem k_31_ok : k_31.Ok Try.prog tD := con_ok tD_ok (Δ := [k_47, k_32_48]) ⟨k_47_ok, k_32_48_ok, trivial⟩ (Ω := []) trivial k_31 F31_ok F31_call (fun _ => []) (fun _ => trivial) 0 (fun x => (fun (a : (List (List UInt8))) (b : (List (List UInt8))) => (fun _ => none)) x.1 x.2.1) fun x hp => Eq.mp (by kernel_rfl) (k_31_v x.1 x.2.1 hp)
def k_12 : Con Tc Tc.dn := ⟨12, [.ty .llU8, .ty .llU8], fun x => (fun (a : (List (List UInt8))) (b : (List (List UInt8))) => True) x.1 x.2.1, [.llU8, .cInt], fun x => (fun (a : (List (List UInt8))) (b : (List (List UInt8))) => mulL a b) x.1 x.2.1⟩
theorem k_12_v (a : (List (List UInt8))) (b : (List (List UInt8))) : True ∧ (¬mchk a = (0 : Int) → ([], mchk a) = mulL a b) ∧ (mchk a = (0 : Int) → True ∧ (¬mchk b = (0 : Int) → ([], mchk b) = mulL a b) ∧ (mchk b = (0 : Int) → ((0 : Int) ≤ (0 : Int) ∧ (0 : Int) < (↑a.length : Int)) ∧ (¬(↑(gd [] a (Int.toNat (0 : Int))).length : Int) = (↑b.length : Int) → ([], (1 : Int)) = mulL a b) ∧ ((↑(gd [] a (Int.toNat (0 : Int))).length : Int) = (↑b.length : Int) → (a.length ≤ (16 : Nat) ∧ (∀ (r : List UInt8), r ∈ a → r.length = b.length) ∧ (0 : Nat) < b.length ∧ b.length ≤ (16 : Nat) ∧ (gd [] b (0 : Nat)).length ≤ (16 : Nat) ∧ mrect b.length (gd [] b (0 : Nat)).length b) ∧ (rawL a b, (0 : Int)) = mulL a b))) := by
  unfold mulL
  have ha := @mchk_ok a
  have hb := @mchk_ok b
  (repeat' (first | apply And.intro | intro _)) <;> first | assumption | trivial | omega | (grind [mrect]) | trace_state
theorem k_12_ok : k_12.Ok Try.prog tD := con_ok tD_ok (Δ := [k_21, k_31]) ⟨k_21_ok, k_31_ok, trivial⟩ (Ω := []) trivial k_12 F12_ok F12_call (fun _ => []) (fun _ => trivial) 0 (fun x => (fun (a : (List (List UInt8))) (b : (List (List UInt8))) => (fun k => bif Nat.beq k 0 then some (.unr 3) else none)) x.1 x.2.1) fun x hp => Eq.mp (by kernel_rfl) (k_12_v x.1 x.2.1)
def k_42 : Con Tc Tc.dn := ⟨42, [.ty .cInt, .ty .cInt, .ptr .cInt], fun x => (fun (i : Int) (k : Int) (many : Int) => 0 ≤ i ∧ i ≤ 1000 ∧ 0 ≤ k ∧ k ≤ 1000 ∧ 0 ≤ many ∧ many ≤ 1000) x.1 x.2.1 x.2.2.1, [.cU8], fun x => (fun (i : Int) (k : Int) (many : Int) => invN (UInt8.ofNat (i.toNat ^^^ (many + k).toNat))) x.1 x.2.1 x.2.2.1⟩
theorem k_42_v (i : Int) (k : Int) (many : Int) (hp : 0 ≤ i ∧ i ≤ 1000 ∧ 0 ≤ k ∧ k ≤ 1000 ∧ 0 ≤ many ∧ many ≤ 1000) : I64 (many + k) ∧ ((0 : Int) ≤ i ∧ (0 : Int) ≤ many + k ∧ I64 i ∧ I64 (many + k)) ∧ (0 : Int) ≤ (↑(i.toNat ^^^ (many + k).toNat) : Int) ∧ True ∧ invN (UInt8.ofNat (↑(i.toNat ^^^ (many + k).toNat) : Int).toNat) = invN (UInt8.ofNat (i.toNat ^^^ (many + k).toNat)) := by
  (repeat' (first | apply And.intro | intro _)) <;> first | assumption | trivial | omega | (grind [I64]) | trace_state
theorem k_42_ok : k_42.Ok Try.prog tD := con_ok tD_ok (Δ := [k_43]) ⟨k_43_ok, trivial⟩ (Ω := []) trivial k_42 F42_ok F42_call (fun _ => []) (fun _ => trivial) 0 (fun x => (fun (i : Int) (k : Int) (many : Int) => (fun _ => none)) x.1 x.2.1 x.2.2.1) fun x hp => Eq.mp (by kernel_rfl) (k_42_v x.1 x.2.1 x.2.2.1 hp)
def i_32_42_1 (n : Int) (many : Int) (k0 : Int) (i0 : Int) (K0 : (List (Row UInt8))) (A0 : (List (Nat × List UInt8))) (k : Int) (i : Int) (K : (List (Row UInt8))) (A : (List (Nat × List UInt8))) : Prop := 0 ≤ k ∧ k ≤ n ∧ K = K0 ∧ i = i0 ∧ FillR A0 A (gd (Row.no UInt8) K i.toNat) k n (fC many i.toNat)
def i_32_42_0 (m : Int) (n : Int) (many : Int) (i : Int) (K : (List (Row UInt8))) (A : (List (Nat × List UInt8))) : Prop := 0 ≤ i ∧ i ≤ m ∧ FillI A K i m n (fC many)
def k_32_42 : Con Tc Tc.dn := ⟨32, [.ty .cInt, .ty .cInt, .fnc 42 [(true, .cInt)]], fun x => (fun (m : Int) (n : Int) (many : Int) => 0 ≤ m ∧ m ≤ 64 ∧ 0 ≤ n ∧ n ≤ 64 ∧ 0 ≤ many ∧ many ≤ 1000) x.1 x.2.1 x.2.2.1.1, [.llU8], fun x => (fun (m : Int) (n : Int) (many : Int) => fillL m n (fC many)) x.1 x.2.1 x.2.2.1.1⟩
abbrev z32_42_0 (n : Int) := (List.replicate n.toNat (UInt8.ofNat (Int.toNat (0 : Int))))
theorem k_32_42_v (m : Int) (n : Int) (many : Int) (hp : 0 ≤ m ∧ m ≤ 64 ∧ 0 ≤ n ∧ n ≤ 64 ∧ 0 ≤ many ∧ many ≤ 1000) : ((0 : Int) ≤ m ∧ m ≤ m ∧ m * (↑(24 : Nat) : Int) ≤ (140737488355328 : Int)) ∧ i_32_42_0 m n many (0 : Int) (List.replicate m.toNat (Row.no UInt8)) [] ∧ ∀ (x : Int) (x_1 : List (Row UInt8)) (x_2 : List (Nat × List UInt8)), i_32_42_0 m n many x x_1 x_2 → (x < (↑(List.replicate m.toNat (Row.no UInt8)).length : Int) → ((0 : Int) ≤ n ∧ n ≤ n ∧ n * (↑(1 : Nat) : Int) ≤ (140737488355328 : Int)) ∧ ((0 : Int) ≤ x ∧ x < (↑x_1.length : Int)) ∧ ∀ (id : Nat), ¬hasA x_2 id → x.toNat < x_1.length ∧ ((0 : Int) ≤ x ∧ x < (↑(x_1.set x.toNat (Row.at UInt8 id (z32_42_0 n).length)).length : Int)) ∧ x.toNat < (x_1.set x.toNat (Row.at UInt8 id (z32_42_0 n).length)).length ∧ (gd (Row.no UInt8) (x_1.set x.toNat (Row.at UInt8 id (z32_42_0 n).length)) x.toNat).ok ((id, List.replicate n.toNat (UInt8.ofNat (Int.toNat (0 : Int)))) :: x_2) ∧ i_32_42_1 n many (0 : Int) x (x_1.set x.toNat (Row.at UInt8 id (z32_42_0 n).length)) ((id, List.replicate n.toNat (UInt8.ofNat (Int.toNat (0 : Int)))) :: x_2) (0 : Int) x (x_1.set x.toNat (Row.at UInt8 id (z32_42_0 n).length)) ((id, List.replicate n.toNat (UInt8.ofNat (Int.toNat (0 : Int)))) :: x_2) ∧ ∀ (x_3 x_4 : Int) (x_5 : List (Row UInt8)) (x_6 : List (Nat × List UInt8)), i_32_42_1 n many (0 : Int) x (x_1.set x.toNat (Row.at UInt8 id (z32_42_0 n).length)) ((id, List.replicate n.toNat (UInt8.ofNat (Int.toNat (0 : Int)))) :: x_2) x_3 x_4 x_5 x_6 → (x_3 < (↑((gd (Row.no UInt8) (x_1.set x.toNat (Row.at UInt8 id (z32_42_0 n).length)) x.toNat).get ((id, List.replicate n.toNat (UInt8.ofNat (Int.toNat (0 : Int)))) :: x_2)).length : Int) → ((0 : Int) ≤ x_4 ∧ x_4 < (↑x_5.length : Int)) ∧ x_4.toNat < x_5.length ∧ ((0 : Int) ≤ x_4 ∧ x_4 ≤ (1000 : Int) ∧ (0 : Int) ≤ x_3 ∧ x_3 ≤ (1000 : Int) ∧ (0 : Int) ≤ many ∧ many ≤ (1000 : Int)) ∧ (gd (Row.no UInt8) x_5 x_4.toNat).ok x_6 ∧ ((0 : Int) ≤ x_3 ∧ x_3 < (↑((gd (Row.no UInt8) x_5 x_4.toNat).get x_6).length : Int)) ∧ (gd (Row.no UInt8) x_5 x_4.toNat).mine x_6 ∧ x_3.toNat < ((gd (Row.no UInt8) x_5 x_4.toNat).get x_6).length ∧ I64 (x_3 + (1 : Int)) ∧ i_32_42_1 n many (0 : Int) x (x_1.set x.toNat (Row.at UInt8 id (z32_42_0 n).length)) ((id, List.replicate n.toNat (UInt8.ofNat (Int.toNat (0 : Int)))) :: x_2) (x_3 + (1 : Int)) x_4 x_5 (((gd (Row.no UInt8) x_5 x_4.toNat).id, ((gd (Row.no UInt8) x_5 x_4.toNat).get x_6).set x_3.toNat (invN (UInt8.ofNat (x_4.toNat ^^^ (many + x_3).toNat)))) :: x_6) ∧ (n - (x_3 + (1 : Int))).toNat < (n - x_3).toNat) ∧ ((↑((gd (Row.no UInt8) (x_1.set x.toNat (Row.at UInt8 id (z32_42_0 n).length)) x.toNat).get ((id, List.replicate n.toNat (UInt8.ofNat (Int.toNat (0 : Int)))) :: x_2)).length : Int) ≤ x_3 → I64 (x + (1 : Int)) ∧ i_32_42_0 m n many (x + (1 : Int)) x_5 x_6 ∧ (m - (x + (1 : Int))).toNat < (m - x).toNat)) ∧ ((↑(List.replicate m.toNat (Row.no UInt8)).length : Int) ≤ x → (∀ (x : Row UInt8), x ∈ x_1 → x.ok x_2 ∧ x.kd ≠ RK.nil) ∧ List.map (fun x => x.get x_2) x_1 = fillL m n (fC many)) := by
  delta z32_42_0
  exact filled_vc m n (fC many) (fun i k => invN (UInt8.ofNat (i.toNat ^^^ (many + k).toNat))) (fun i k => (0 : Int) ≤ i ∧ i ≤ (1000 : Int) ∧ (0 : Int) ≤ k ∧ k ≤ (1000 : Int) ∧ (0 : Int) ≤ many ∧ many ≤ (1000 : Int)) _ ⟨hp.1, hp.2.1, hp.2.2.1, hp.2.2.2.1⟩ (fun i k h1 h2 h3 h4 => ⟨⟨h1, by omega, h3, by omega, hp.2.2.2.2.1, hp.2.2.2.2.2⟩, by unfold fC; rw [show (many + k).toNat = many.toNat + k.toNat by omega]⟩) fun K A i hi h => h.fin hi hp.1
theorem k_32_42_ok : k_32_42.Ok Try.prog tD := con_ok tD_ok (Δ := [k_42]) ⟨k_42_ok, trivial⟩ (Ω := []) trivial k_32_42 F32_ok F32_call (fun _ => []) (fun _ => trivial) 0 (fun x => (fun (m : Int) (n : Int) (many : Int) => (fun k => bif Nat.beq k 0 then some (.inv [.sl 14 .cInt, .bl 1 .rU8, .ar .cU8] (fun zo zv => (fun (i : Int) (K : (List (Row UInt8))) (A : (List (Nat × List UInt8))) => i_32_42_0 m n many i K A) zv.1 zv.2.1 zv.2.2.1) (fun zo zv => (fun (i : Int) (K : (List (Row UInt8))) (A : (List (Nat × List UInt8))) => (m - i).toNat) zv.1 zv.2.1 zv.2.2.1)) else bif Nat.beq k 1 then some (.inv [.sl 27 .cInt, .sl 8 .cInt, .bl 1 .rU8, .ar .cU8] (fun zo zv => (fun (k0 : Int) (i0 : Int) (K0 : (List (Row UInt8))) (A0 : (List (Nat × List UInt8))) (k : Int) (i : Int) (K : (List (Row UInt8))) (A : (List (Nat × List UInt8))) => i_32_42_1 n many k0 i0 K0 A0 k i K A) zo.1 zo.2.1 zo.2.2.1 zo.2.2.2.1 zv.1 zv.2.1 zv.2.2.1 zv.2.2.2.1) (fun zo zv => (fun (k0 : Int) (i0 : Int) (K0 : (List (Row UInt8))) (A0 : (List (Nat × List UInt8))) (k : Int) (i : Int) (K : (List (Row UInt8))) (A : (List (Nat × List UInt8))) => (n - k).toNat) zo.1 zo.2.1 zo.2.2.1 zo.2.2.2.1 zv.1 zv.2.1 zv.2.2.1 zv.2.2.2.1)) else none)) x.1 x.2.1 x.2.2.1.1) fun x hp => Eq.mp (by kernel_rfl) (k_32_42_v x.1 x.2.1 x.2.2.1.1 hp)
def k_23 : Con Tc Tc.dn := ⟨23, [.ty .cInt, .ty .cInt], fun x => (fun (m : Int) (n : Int) => True) x.1 x.2.1, [.llU8, .cInt], fun x => (fun (m : Int) (n : Int) => cauL m n) x.1 x.2.1⟩
theorem k_23_v (m : Int) (n : Int) : True ∧ (decide ((1 : Int) ≤ m ∧ m ≤ (16 : Int)) = !!true → decide ((1 : Int) ≤ m ∧ m ≤ (16 : Int)) = !!true) ∧ (decide ((1 : Int) ≤ m ∧ m ≤ (16 : Int)) = !!true → True) ∧ (decide ((1 : Int) ≤ m ∧ m ≤ (16 : Int)) = !!true → decide ((1 : Int) ≤ m ∧ m ≤ (16 : Int)) = !!true) ∧ (decide ((1 : Int) ≤ m ∧ m ≤ (16 : Int)) = !false → decide ((1 : Int) ≤ m ∧ m ≤ (16 : Int)) = !!true) ∧ (decide ((1 : Int) ≤ m ∧ m ≤ (16 : Int)) = !true ∨ decide ((1 : Int) ≤ n ∧ n ≤ (16 : Int)) = !true → ([], (3 : Int)) = cauL m n) ∧ (decide ((1 : Int) ≤ m ∧ m ≤ (16 : Int)) = !false ∧ decide ((1 : Int) ≤ n ∧ n ≤ (16 : Int)) = !false → ((0 : Int) ≤ m ∧ m ≤ (64 : Int) ∧ (0 : Int) ≤ n ∧ n ≤ (64 : Int) ∧ (0 : Int) ≤ m ∧ m ≤ (1000 : Int)) ∧ (fillL m n (fC m), (0 : Int)) = cauL m n) := by
  unfold cauL
  (repeat' (first | apply And.intro | intro _)) <;> first | assumption | trivial | omega | (grind []) | trace_state
theorem k_23_ok : k_23.Ok Try.prog tD := con_ok tD_ok (Δ := [k_29, k_32_42]) ⟨k_29_ok, k_32_42_ok, trivial⟩ (Ω := []) trivial k_23 F23_ok F23_call (fun _ => []) (fun _ => trivial) 0 (fun x => (fun (m : Int) (n : Int) => (fun _ => none)) x.1 x.2.1) fun x hp => Eq.mp (by kernel_rfl) (k_23_v x.1 x.2.1)
def mxL (M : List (List UInt8)) : Mx := fun i j => gd 0 (gd [] M i) j
def Rect (n m : Nat) (M : List (List UInt8)) : Prop := M.length = n ∧ ∀ r, r ∈ M → r.length = m
theorem Rect.row {n m : Nat} {M : List (List UInt8)} (h : Rect n m M) {i : Nat} (hi : i < n) : (gd [] M i).length = m ∧ gd [] M i ∈ M := by
  have hm := List.mem_of_getElem? (gd_get (d := ([] : List UInt8)) (xs := M) (i := i) (by rw [h.1]; exact hi))
  exact ⟨h.2 _ hm, hm⟩
theorem gd_map {f : UInt8 → UInt8} (h0 : f 0 = 0) (r : List UInt8) (j : Nat) : gd 0 (r.map f) j = f (gd 0 r j) := by
  unfold gd; rw [List.getElem?_map]
  cases r[j]? with
  | none => exact h0.symm
  | some x => rfl
def scaleL (r : List UInt8) (f : UInt8) : List UInt8 := r.map fun x => gmul x f
def addL (r q : List UInt8) (f : UInt8) : List UInt8 := List.zipWith (fun x y => x ^^^ gmul f y) r q
theorem addL_get {r q : List UInt8} (h : r.length = q.length) (f : UInt8) (j : Nat) : gd 0 (addL r q f) j = gd 0 r j ^^^ gmul f (gd 0 q j) := by
  unfold addL gd
  rw [List.getElem?_zipWith]
  rcases Nat.lt_or_ge j r.length with hj | hj
  · rw [List.getElem?_eq_getElem hj, List.getElem?_eq_getElem (show j < q.length by omega)]; rfl
  · rw [List.getElem?_eq_none hj, List.getElem?_eq_none (by omega)]
    show (0 : UInt8) = 0 ^^^ gmul f 0
    rw [gmul_zero]; rfl
theorem addL_len {r q : List UInt8} (h : r.length = q.length) (f : UInt8) : (addL r q f).length = r.length := by
  unfold addL; rw [List.length_zipWith]; omega
def swapL (M : List (List UInt8)) (d i0 : Nat) : List (List UInt8) := (M.set d (gd [] M i0)).set i0 (gd [] M d)
theorem gd_set2 {α : Type} {z : α} {l : List α} {i j : Nat} {x : α} (hi : i < l.length) : gd z (l.set i x) j = if i = j then x else gd z l j := by
  unfold gd
  by_cases h : i = j
  · subst h; rw [List.getElem?_set_self hi, if_pos rfl]; rfl
  · rw [List.getElem?_set_ne h, if_neg h]
theorem swapL_row {n m : Nat} {M : List (List UInt8)} (h : Rect n m M) {d i0 : Nat} (hd : d < n) (hi : i0 < n) (i : Nat) : gd [] (swapL M d i0) i = if i = d then gd [] M i0 else if i = i0 then gd [] M d else gd [] M i := by
  have hl := h.1
  unfold swapL
  rw [gd_set2 (by rw [List.length_set]; omega), gd_set2 (by omega)]
  by_cases h1 : i0 = i
  · subst h1
    rw [if_pos rfl]
    by_cases h2 : i0 = d
    · subst h2; rw [if_pos rfl]
    · rw [if_neg h2, if_pos rfl]
  · rw [if_neg h1]
    by_cases h2 : d = i
    · subst h2; rw [if_pos rfl, if_pos rfl]
    · rw [if_neg h2, if_neg (fun hh => h2 hh.symm), if_neg (fun hh => h1 hh.symm)]
theorem swapL_rect {n m : Nat} {M : List (List UInt8)} (h : Rect n m M) {d i0 : Nat} (hd : d < n) (hi : i0 < n) : Rect n m (swapL M d i0) := by
  refine ⟨by unfold swapL; simp; exact h.1, fun r hr => ?_⟩
  unfold swapL at hr
  rcases List.mem_or_eq_of_mem_set hr with hr | rfl
  · rcases List.mem_or_eq_of_mem_set hr with hr | rfl
    · exact h.2 r hr
    · exact (h.row hi).1
  · exact (h.row hd).1
def oneL (M : List (List UInt8)) (c d : Nat) : List (List UInt8) := M.set d (scaleL (gd [] M d) (ginv (gd 0 (gd [] M d) c)))
theorem oneL_rect {n m : Nat} {M : List (List UInt8)} (h : Rect n m M) {c d : Nat} (hd : d < n) : Rect n m (oneL M c d) := by
  refine ⟨by unfold oneL; simp; exact h.1, fun r hr => ?_⟩
  rcases List.mem_or_eq_of_mem_set hr with hr | rfl
  · exact h.2 r hr
  · unfold scaleL; rw [List.length_map]; exact (h.row hd).1
def offL (M : List (List UInt8)) (c d : Nat) : List (List UInt8) := (List.range M.length).map fun i => if i = d then gd [] M d else addL (gd [] M i) (gd [] M d) (gd 0 (gd [] M i) c)
theorem offL_row {n m : Nat} {M : List (List UInt8)} (h : Rect n m M) {c d i : Nat} (hi : i < n) : gd [] (offL M c d) i = if i = d then gd [] M d else addL (gd [] M i) (gd [] M d) (gd 0 (gd [] M i) c) := by
  unfold offL
  show ((List.map _ _)[i]?).getD [] = _
  rw [List.getElem?_map, List.getElem?_range (by rw [h.1]; exact hi)]; rfl
theorem offL_rect {n m : Nat} {M : List (List UInt8)} (h : Rect n m M) {c d : Nat} (hd : d < n) : Rect n m (offL M c d) := by
  refine ⟨by unfold offL; simp; exact h.1, fun r hr => ?_⟩
  unfold offL at hr
  obtain ⟨i, hi, rfl⟩ := List.mem_map.1 hr
  have hi' : i < n := by rw [← h.1]; simpa using hi
  split
  · exact (h.row hd).1
  · rw [addL_len (by rw [(h.row hi').1, (h.row hd).1])]; exact (h.row hi').1
def pivL (M : List (List UInt8)) (c d i0 : Nat) : List (List UInt8) := offL (oneL (swapL M d i0) c d) c d
theorem pivL_rect {n m : Nat} {M : List (List UInt8)} (h : Rect n m M) {c d i0 : Nat} (hd : d < n) (hi : i0 < n) : Rect n m (pivL M c d i0) := offL_rect (oneL_rect (swapL_rect h hd hi) hd) hd
theorem swapL_mx {n m : Nat} {M : List (List UInt8)} (h : Rect n m M) {d i0 : Nat} (hd : d < n) (hi : i0 < n) (i j : Nat) : mxL (swapL M d i0) i j = swapM (mxL M) d i0 i j := by
  unfold mxL swapM
  rw [swapL_row h hd hi]
  by_cases h1 : i = d
  · rw [if_pos h1, if_pos h1]
  · rw [if_neg h1, if_neg h1]
    by_cases h2 : i = i0
    · rw [if_pos h2, if_pos h2]
    · rw [if_neg h2, if_neg h2]
theorem oneL_mx {n m : Nat} {M : List (List UInt8)} (h : Rect n m M) {c d : Nat} (hd : d < n) (i j : Nat) : mxL (oneL M c d) i j = scaleM (mxL M) d (ginv (mxL M d c)) i j := by
  unfold mxL oneL scaleM
  rw [gd_set2 (by rw [h.1]; exact hd)]
  by_cases h1 : d = i
  · subst h1; rw [if_pos rfl, if_pos rfl]; unfold scaleL; exact gd_map (f := fun x => gmul x (ginv (gd 0 (gd [] M d) c))) (zero_gmul _) _ _
  · rw [if_neg h1, if_neg (fun hh => h1 hh.symm)]
theorem offL_mx {n m : Nat} {M : List (List UInt8)} (h : Rect n m M) {c d : Nat} (hd : d < n) {i : Nat} (hi : i < n) (j : Nat) : mxL (offL M c d) i j = elimM (fun i => mxL M i c) d (mxL M) i j := by
  unfold mxL elimM
  rw [offL_row h hi]
  by_cases h1 : i = d
  · rw [if_pos h1, if_pos h1]
  · rw [if_neg h1, if_neg h1, addL_get (by rw [(h.row hi).1, (h.row hd).1])]
theorem pivL_mx {n m : Nat} {M : List (List UInt8)} (h : Rect n m M) {c d i0 : Nat} (hd : d < n) (h0 : i0 < n) {i : Nat} (hi : i < n) (j : Nat) : mxL (pivL M c d i0) i j = pivM (mxL M) c d i0 i j := by
  have hs := swapL_rect h hd h0
  have ho := oneL_rect (c := c) hs hd
  have e1 : ∀ i j, mxL (oneL (swapL M d i0) c d) i j = scaleM (swapM (mxL M) d i0) d (ginv (swapM (mxL M) d i0 d c)) i j := fun i j => by
    rw [oneL_mx hs hd, swapL_mx h hd h0]
    unfold scaleM
    simp only [swapL_mx h hd h0]
  unfold pivL pivM
  rw [offL_mx ho hd hi]
  unfold elimM
  simp only [e1]
def findR (M : List (List UInt8)) (c d : Nat) : Nat → Option Nat
  | 0 => none
  | f + 1 => if gd 0 (gd [] M d) c ≠ 0 then some d else findR M c (d + 1) f
theorem findR_some {M : List (List UInt8)} {c : Nat} : ∀ {f d i : Nat}, findR M c d f = some i → d ≤ i ∧ i < d + f ∧ mxL M i c ≠ 0
  | 0, d, i, h => by simp [findR] at h
  | f + 1, d, i, h => by
    unfold findR at h
    split at h
    · rename_i h1; simp at h; subst h; exact ⟨Nat.le_refl _, by omega, h1⟩
    · have := findR_some h; exact ⟨by omega, by omega, this.2.2⟩
theorem findR_none {M : List (List UInt8)} {c : Nat} : ∀ {f d : Nat}, findR M c d f = none → ∀ i, d ≤ i → i < d + f → mxL M i c = 0
  | 0, d, _, i, h1, h2 => by omega
  | f + 1, d, h, i, h1, h2 => by
    unfold findR at h
    split at h
    · simp at h
    · rename_i hz
      by_cases hi : i = d
      · subst hi; exact Classical.not_not.1 hz
      · exact findR_none h i (by omega) (by omega)
def clrL : Nat → List (List UInt8) → Nat → Nat → List (List UInt8) × Nat
  | 0, M, _, d => (M, d)
  | f + 1, M, c, d => match findR M c d (M.length - d) with
    | none => clrL f M (c + 1) d
    | some i0 => if d + 1 = M.length then (pivL M c d i0, d + 1) else clrL f (pivL M c d i0) (c + 1) (d + 1)
theorem clr_law {n m : Nat} {A : Mx} : ∀ (f : Nat) (M : List (List UInt8)) (c d : Nat) (p : Nat → Nat), Rect n m M → RE n A (mxL M) → Ech n (mxL M) c d p → d < n →
    Rect n m (clrL f M c d).1 ∧ RE n A (mxL (clrL f M c d).1) ∧ ∃ c' p', c' ≤ c + f ∧ Ech n (mxL (clrL f M c d).1) c' (clrL f M c d).2 p' ∧ (c' = c + f ∨ (clrL f M c d).2 = n)
  | 0, M, c, d, p, h1, h2, h3, _ => ⟨h1, h2, c, p, Nat.le_refl _, h3, .inl rfl⟩
  | f + 1, M, c, d, p, h1, h2, h3, hd => by
    have hl := h1.1
    unfold clrL
    cases hf : findR M c d (M.length - d) with
    | none =>
      have hz := findR_none hf
      simp only
      obtain ⟨k1, k2, c', p', k3, k4, k5⟩ := clr_law f M (c + 1) d p h1 h2 (ech_none h3 fun i hi hin => hz i hi (by omega)) hd
      exact ⟨k1, k2, c', p', by omega, k4, by omega⟩
    | some i0 =>
      obtain ⟨q1, q2, q3⟩ := findR_some hf
      have hi0 : i0 < n := by omega
      have e : ∀ i j, i < n → mxL (pivL M c d i0) i j = pivM (mxL M) c d i0 i j := fun i j hi => pivL_mx h1 hd hi0 hi j
      have r1 := pivL_rect (c := c) h1 hd hi0
      have r2 := (piv_re (c := c) h2 hd hi0).congr e
      have s3 := ech_some h3 q1 hi0 q3
      have r3 : Ech n (mxL (pivL M c d i0)) (c + 1) (d + 1) fun t => if t < d then p t else c :=
        ⟨s3.dn, s3.pc, s3.up, fun t i ht hi => by rw [e i _ hi]; exact s3.one t i ht hi, fun i j hdi hi hj => by rw [e i j hi]; exact s3.zero i j hdi hi hj⟩
      simp only
      by_cases hn : d + 1 = M.length
      · rw [if_pos hn]
        exact ⟨r1, r2, c + 1, _, by omega, r3, .inr (by omega)⟩
      · rw [if_neg hn]
        obtain ⟨k1, k2, c', p', k3, k4, k5⟩ := clr_law f _ (c + 1) (d + 1) _ r1 r2 r3 (by omega)
        exact ⟨k1, k2, c', p', by omega, k4, by omega⟩
theorem clr_rank {n m : Nat} {M : List (List UInt8)} (h : Rect n m M) (hn : 0 < n) : RankIs n m (mxL M) (clrL m M 0 0).2 := by
  obtain ⟨_, k2, c', p', k3, k4, k5⟩ := clr_law m M 0 0 _ h (RE.refl n (mxL M)) (ech_start n (mxL M)) hn
  exact ech_rank k2 k4 (by omega) (by omega)
open Go.RowKit
def fA (a : List (List UInt8)) (i k : Nat) : UInt8 := gd 0 (gd [] a i) k
structure Mt (A : List (Nat × List UInt8)) (K : List (Row UInt8)) (n m : Nat) : Prop where
  len : K.length = n
  row : ∀ j, j < n → (gd (Row.no UInt8) K j).mine A ∧ (lkA A (gd (Row.no UInt8) K j).id).length = m
  inj : ∀ j k, j < n → k < n → (gd (Row.no UInt8) K j).id = (gd (Row.no UInt8) K k).id → j = k
def vw (A : List (Nat × List UInt8)) (K : List (Row UInt8)) : List (List UInt8) := K.map fun r => r.get A
structure RowR (A0 A : List (Nat × List UInt8)) (r : Row UInt8) (xs : List UInt8) : Prop where
  mine : r.mine A
  get : lkA A r.id = xs
  has : ∀ id, id ≠ r.id → (hasA A id ↔ hasA A0 id)
  lk : ∀ id, id ≠ r.id → lkA A id = lkA A0 id
def scTo (r : List UInt8) (f : UInt8) (k : Nat) : List UInt8 := (r.take k).map (fun x => gmul x f) ++ r.drop k
def adTo (r q : List UInt8) (f : UInt8) (k : Nat) : List UInt8 := List.zipWith (fun x y => x ^^^ gmul f y) (r.take k) (q.take k) ++ r.drop k
def offTo (M : List (List UInt8)) (c d k : Nat) : List (List UInt8) := (List.range M.length).map fun i => if i ≠ d ∧ i < k then addL (gd [] M i) (gd [] M d) (gd 0 (gd [] M i) c) else gd [] M i
abbrev RwL : Type := List (Row UInt8)
abbrev ArL : Type := List (Nat × List UInt8)
abbrev rAt (K : RwL) (i : Int) : Row UInt8 := gd (Row.no UInt8) K i.toNat
def IxI (k0 : Int) (s0 : Nat × Nat) (c0 : Int) (K0 : RwL) (A0 : ArL) (k : Int) (s : Nat × Nat) (c : Int) (K : RwL) (A : ArL) : Prop := 0 ≤ k ∧ k ≤ s.2 ∧ s = s0 ∧ c = c0 ∧ K = K0 ∧ A = A0 ∧ ∀ j, j < k.toNat → gd 0 ((gd (Row.no UInt8) K (s.1 + j)).get A) c.toNat = 0
def ScI (k0 i0 : Int) (f0 : UInt8) (K0 : RwL) (A0 : ArL) (k i : Int) (f : UInt8) (K : RwL) (A : ArL) : Prop := 0 ≤ k ∧ i = i0 ∧ f = f0 ∧ K = K0 ∧ 0 ≤ i ∧ i < K.length ∧ RowR A0 A (rAt K i) (scTo (lkA A0 (rAt K i).id) f k.toNat) ∧ k ≤ (lkA A0 (rAt K i).id).length
def AdI (k0 t0 s0 : Int) (f0 : UInt8) (K0 : RwL) (A0 : ArL) (k t s : Int) (f : UInt8) (K : RwL) (A : ArL) : Prop := 0 ≤ k ∧ t = t0 ∧ s = s0 ∧ f = f0 ∧ K = K0 ∧ 0 ≤ t ∧ t < K.length ∧ 0 ≤ s ∧ s < K.length ∧ (rAt K s).id ≠ (rAt K t).id ∧ (rAt K s).mine A0 ∧ (lkA A0 (rAt K s).id).length = (lkA A0 (rAt K t).id).length ∧ RowR A0 A (rAt K t) (adTo (lkA A0 (rAt K t).id) (lkA A0 (rAt K s).id) f k.toNat) ∧ k ≤ (lkA A0 (rAt K s).id).length
def ClI (c0 d0 cols0 : Int) (K0 : RwL) (A0 : ArL) (c d cols : Int) (K : RwL) (A : ArL) : Prop := 0 ≤ c ∧ c ≤ cols ∧ cols = cols0 ∧ cols ≤ 1000 ∧ 0 ≤ d ∧ d < K.length ∧ K.length = K0.length ∧ K.length ≤ 1000 ∧ (∃ m : Nat, Mt A K K.length m ∧ cols ≤ m ∧ m ≤ 1000) ∧ clrL (cols - c).toNat (vw A K) c.toNat d.toNat = clrL cols.toNat (vw A0 K0) 0 0
def OfI (k0 c0 d0 : Int) (K0 : RwL) (A0 : ArL) (k c d : Int) (K : RwL) (A : ArL) : Prop := 0 ≤ k ∧ k ≤ K.length ∧ c = c0 ∧ d = d0 ∧ K = K0 ∧ (∃ m : Nat, Mt A0 K K.length m ∧ Mt A K K.length m ∧ c < m ∧ m ≤ 1000) ∧ vw A K = offTo (vw A0 K0) c.toNat d.toNat k.toNat
theorem ext_gd {α : Type} {d : α} {l l' : List α} (h : l.length = l'.length) (k : ∀ i, i < l.length → gd d l i = gd d l' i) : l = l' := by
  refine List.ext_getElem h fun i h1 h2 => ?_
  have := k i h1
  unfold gd at this
  rw [List.getElem?_eq_getElem h1, List.getElem?_eq_getElem h2] at this
  exact this
theorem vw_len {A : ArL} {K : RwL} : (vw A K).length = K.length := by simp [vw]
theorem vw_gd {A : ArL} {K : RwL} {n m j : Nat} (h : Mt A K n m) (hj : j < n) : gd [] (vw A K) j = lkA A (gd (Row.no UInt8) K j).id := by
  have hl : j < K.length := by rw [h.len]; exact hj
  have hm := (h.row j hj).1
  have e : gd (Row.no UInt8) K j = K[j] := by unfold gd; rw [List.getElem?_eq_getElem hl]; rfl
  rw [← hm.get.1, e]
  unfold gd vw
  rw [List.getElem?_map, List.getElem?_eq_getElem hl]; rfl
theorem Mt.rect {A : ArL} {K : RwL} {n m : Nat} (h : Mt A K n m) : Rect n m (vw A K) := by
  refine ⟨by rw [vw_len, h.len], gd_all (d := []) fun j hj => ?_⟩
  rw [vw_len, h.len] at hj
  rw [vw_gd h hj]; exact (h.row j hj).2
theorem Mt.at {A : ArL} {K : RwL} {n m : Nat} (h : Mt A K n m) {i : Nat} (hi : i < n) : (gd (Row.no UInt8) K i).mine A ∧ (gd (Row.no UInt8) K i).ok A ∧ (gd (Row.no UInt8) K i).get A = gd [] (vw A K) i ∧ ((gd (Row.no UInt8) K i).get A).length = m ∧ (gd (Row.no UInt8) K i).kd ≠ RK.nil := by
  have hm := (h.row i hi).1
  refine ⟨hm, hm.ok, by rw [vw_gd h hi, hm.get.1], by rw [hm.get.1]; exact (h.row i hi).2, by rw [hm.1]; simp⟩
theorem Mt.put {A A' : ArL} {K : RwL} {n m j : Nat} {xs : List UInt8} (h : Mt A K n m) (hj : j < n) (hr : RowR A A' (gd (Row.no UInt8) K j) xs) (hl : xs.length = m) : Mt A' K n m ∧ vw A' K = (vw A K).set j xs := by
  have hM : Mt A' K n m := by
    refine ⟨h.len, fun i hi => ?_, h.inj⟩
    by_cases he : i = j
    · subst he; exact ⟨hr.mine, by rw [hr.get]; exact hl⟩
    · have hne : (gd (Row.no UInt8) K i).id ≠ (gd (Row.no UInt8) K j).id := fun e => he (h.inj i j hi hj e)
      obtain ⟨⟨q1, q2, q3⟩, q4⟩ := h.row i hi
      rw [hr.lk _ hne]
      exact ⟨⟨q1, (hr.has _ hne).2 q2, by rw [hr.lk _ hne]; exact q3⟩, q4⟩
  refine ⟨hM, ext_gd (d := []) (by simp [vw_len]) fun i hi => ?_⟩
  rw [vw_len, h.len] at hi
  rw [vw_gd hM hi, gd_set1]
  by_cases he : j = i
  · subst he; rw [if_pos ⟨rfl, by rw [vw_len, h.len]; exact hj⟩, hr.get]
  · rw [if_neg (fun hh => he hh.1), vw_gd h hi]
    exact hr.lk _ fun e => he (h.inj i j hi hj e).symm
theorem Mt.swap {A : ArL} {K : RwL} {n m d i : Nat} (h : Mt A K n m) (hd : d < n) (hi : i < n) : Mt A ((K.set d (gd (Row.no UInt8) K i)).set i (gd (Row.no UInt8) K d)) n m ∧ vw A ((K.set d (gd (Row.no UInt8) K i)).set i (gd (Row.no UInt8) K d)) = swapL (vw A K) d i := by
  have hl := h.len
  have hg : ∀ j, gd (Row.no UInt8) ((K.set d (gd (Row.no UInt8) K i)).set i (gd (Row.no UInt8) K d)) j = gd (Row.no UInt8) K (if i = j then d else if d = j then i else j) := fun j => by
    rw [gd_set1, gd_set1, List.length_set]
    by_cases h1 : i = j
    · rw [if_pos ⟨h1, by omega⟩, if_pos h1]
    · rw [if_neg (fun hh => h1 hh.1), if_neg h1]
      by_cases h2 : d = j
      · rw [if_pos ⟨h2, by omega⟩, if_pos h2]
      · rw [if_neg (fun hh => h2 hh.1), if_neg h2]
  have hs : ∀ j, j < n → (if i = j then d else if d = j then i else j) < n := fun j hj => by (repeat' split) <;> omega
  have hM : Mt A ((K.set d (gd (Row.no UInt8) K i)).set i (gd (Row.no UInt8) K d)) n m := by
    refine ⟨by simp [hl], fun j hj => by rw [hg]; exact h.row _ (hs j hj), fun j k hj hk e => ?_⟩
    rw [hg, hg] at e
    have := h.inj _ _ (hs j hj) (hs k hk) e
    revert this
    (repeat' split) <;> omega
  refine ⟨hM, ext_gd (d := []) (by simp [vw_len, swapL]) fun j hj => ?_⟩
  have hj' : j < n := by rw [vw_len] at hj; simp at hj; omega
  rw [vw_gd hM hj', hg, swapL_row h.rect hd hi]
  by_cases h1 : i = j
  · rw [if_pos h1]
    by_cases h2 : j = d
    · rw [if_pos h2, vw_gd h hi]; congr 2; rw [h1, h2]
    · rw [if_neg h2, if_pos h1.symm, vw_gd h hd]
  · rw [if_neg h1]
    by_cases h2 : d = j
    · rw [if_pos h2, if_pos h2.symm, vw_gd h hi]
    · rw [if_neg h2, if_neg (fun e => h2 e.symm), if_neg (fun e => h1 e.symm), vw_gd h hj']
theorem RowR.start {A : ArL} {r : Row UInt8} (h : r.mine A) : RowR A A r (lkA A r.id) := ⟨h, rfl, fun _ _ => Iff.rfl, fun _ _ => rfl⟩
theorem RowR.put {A0 A : ArL} {r : Row UInt8} {xs ys : List UInt8} (h : RowR A0 A r xs) (hl : ys.length = xs.length) : RowR A0 ((r.id, ys) :: A) r ys := by
  have hg := h.mine.get.2
  rw [h.get] at hg
  refine ⟨mine_put h.mine (by omega), by rw [lkA_cons, if_pos rfl], fun id hid => ?_, fun id hid => ?_⟩
  · rw [hasA_cons, ← h.has id hid]; exact ⟨fun hh => hh.resolve_left hid, .inr⟩
  · rw [lkA_cons, if_neg hid]; exact h.lk id hid
theorem scTo_len {r : List UInt8} {f : UInt8} {k : Nat} : (scTo r f k).length = r.length := by simp [scTo]; omega
theorem scTo_gd {r : List UInt8} {f : UInt8} {k j : Nat} (hj : j < r.length) : gd 0 (scTo r f k) j = if j < k then gmul (gd 0 r j) f else gd 0 r j := by
  unfold scTo gd
  by_cases h : j < k
  · rw [if_pos h, List.getElem?_append_left (by simp; omega), List.getElem?_map, List.getElem?_take_of_lt h, List.getElem?_eq_getElem hj]; rfl
  · rw [if_neg h, List.getElem?_append_right (by simp; omega)]
    simp only [List.length_map, List.length_take, List.getElem?_drop]
    congr 2; omega
theorem scTo_zero {r : List UInt8} {f : UInt8} : scTo r f 0 = r := by simp [scTo]
theorem scTo_step {r : List UInt8} {f : UInt8} {k : Nat} (hk : k < r.length) : (scTo r f k).set k (gmul (gd 0 (scTo r f k) k) f) = scTo r f (k + 1) := by
  refine ext_gd (d := 0) (by simp [scTo_len]) fun j hj => ?_
  rw [List.length_set, scTo_len] at hj
  rw [gd_set1, scTo_len, scTo_gd hk, if_neg (Nat.lt_irrefl k), scTo_gd hj, scTo_gd hj]
  by_cases h : k = j
  · subst h; rw [if_pos ⟨rfl, hk⟩, if_pos (by omega)]
  · rw [if_neg (fun hh => h hh.1)]
    by_cases h2 : j < k
    · rw [if_pos h2, if_pos (by omega)]
    · rw [if_neg h2, if_neg (by omega)]
theorem scTo_end {r : List UInt8} {f : UInt8} {k : Nat} (hk : r.length ≤ k) : scTo r f k = scaleL r f := by
  unfold scTo scaleL; rw [List.take_of_length_le hk, List.drop_eq_nil_of_le hk, List.append_nil]
theorem adTo_len {r q : List UInt8} {f : UInt8} {k : Nat} (h : q.length = r.length) : (adTo r q f k).length = r.length := by simp [adTo]; omega
theorem adTo_gd {r q : List UInt8} {f : UInt8} {k j : Nat} (h : q.length = r.length) (hj : j < r.length) : gd 0 (adTo r q f k) j = if j < k then gd 0 r j ^^^ gmul f (gd 0 q j) else gd 0 r j := by
  unfold adTo gd
  by_cases hk : j < k
  · rw [if_pos hk, List.getElem?_append_left (by simp; omega), List.getElem?_zipWith, List.getElem?_take_of_lt hk, List.getElem?_take_of_lt hk, List.getElem?_eq_getElem hj, List.getElem?_eq_getElem (by rw [h]; exact hj)]; rfl
  · rw [if_neg hk, List.getElem?_append_right (by simp; omega)]
    simp only [List.length_zipWith, List.length_take, List.getElem?_drop]
    congr 2; omega
theorem adTo_zero {r q : List UInt8} {f : UInt8} : adTo r q f 0 = r := by simp [adTo]
theorem adTo_step {r q : List UInt8} {f : UInt8} {k : Nat} (h : q.length = r.length) (hk : k < r.length) : (adTo r q f k).set k (gd 0 (adTo r q f k) k ^^^ gmul f (gd 0 q k)) = adTo r q f (k + 1) := by
  refine ext_gd (d := 0) (by simp [adTo_len h]) fun j hj => ?_
  rw [List.length_set, adTo_len h] at hj
  rw [gd_set1, adTo_len h, adTo_gd h hk, if_neg (Nat.lt_irrefl k), adTo_gd h hj, adTo_gd h hj]
  by_cases h1 : k = j
  · subst h1; rw [if_pos ⟨rfl, hk⟩, if_pos (by omega)]
  · rw [if_neg (fun hh => h1 hh.1)]
    by_cases h2 : j < k
    · rw [if_pos h2, if_pos (by omega)]
    · rw [if_neg h2, if_neg (by omega)]
theorem adTo_end {r q : List UInt8} {f : UInt8} {k : Nat} (h : q.length = r.length) (hk : r.length ≤ k) : adTo r q f k = addL r q f := by
  unfold adTo addL; rw [List.take_of_length_le hk, List.take_of_length_le (by omega), List.drop_eq_nil_of_le hk, List.append_nil]
theorem offTo_gd {M : List (List UInt8)} {c d k i : Nat} (hi : i < M.length) : gd [] (offTo M c d k) i = if i ≠ d ∧ i < k then addL (gd [] M i) (gd [] M d) (gd 0 (gd [] M i) c) else gd [] M i := by
  unfold offTo
  show ((List.map _ _)[i]?).getD [] = _
  rw [List.getElem?_map, List.getElem?_range hi]; rfl
theorem offTo_len {M : List (List UInt8)} {c d k : Nat} : (offTo M c d k).length = M.length := by simp [offTo]
theorem offTo_zero {M : List (List UInt8)} {c d : Nat} : offTo M c d 0 = M := ext_gd (d := []) offTo_len fun i hi => by rw [offTo_len] at hi; rw [offTo_gd hi, if_neg (by omega)]
theorem offTo_same {M : List (List UInt8)} {c d : Nat} : offTo M c d (d + 1) = offTo M c d d := ext_gd (d := []) (by rw [offTo_len, offTo_len]) fun i hi => by
  rw [offTo_len] at hi
  rw [offTo_gd hi, offTo_gd hi]
  by_cases h : i ≠ d ∧ i < d
  · rw [if_pos h, if_pos (by omega)]
  · rw [if_neg h, if_neg (by omega)]
theorem offTo_step {M : List (List UInt8)} {c d k : Nat} (hk : k < M.length) (hd : k ≠ d) : (offTo M c d k).set k (addL (gd [] M k) (gd [] M d) (gd 0 (gd [] M k) c)) = offTo M c d (k + 1) := ext_gd (d := []) (by simp [offTo_len]) fun i hi => by
  rw [List.length_set, offTo_len] at hi
  rw [gd_set1, offTo_len, offTo_gd hi, offTo_gd hi]
  by_cases h : k = i
  · subst h; rw [if_pos ⟨rfl, hk⟩, if_pos (by omega)]
  · rw [if_neg (fun hh => h hh.1)]
    by_cases h2 : i ≠ d ∧ i < k
    · rw [if_pos h2, if_pos (by omega)]
    · rw [if_neg h2, if_neg (by omega)]
theorem offTo_end {M : List (List UInt8)} {c d k : Nat} (hk : M.length ≤ k) : offTo M c d k = offL M c d := by
  refine ext_gd (d := []) (by simp [offTo_len, offL]) fun i hi => ?_
  rw [offTo_len] at hi
  rw [offTo_gd hi]
  unfold offL
  show _ = ((List.map _ _)[i]?).getD []
  rw [List.getElem?_map, List.getElem?_range hi]
  show _ = if i = d then _ else _
  by_cases h : i = d
  · rw [if_pos h, if_neg (by omega), h]
  · rw [if_neg h, if_pos (by omega)]
theorem findR_at {M : List (List UInt8)} {c : Nat} : ∀ {f d x : Nat}, (∀ j, j < x → gd 0 (gd [] M (d + j)) c = 0) → gd 0 (gd [] M (d + x)) c ≠ 0 → x < f → findR M c d f = some (d + x)
  | 0, d, x, _, _, h => by omega
  | f + 1, d, 0, _, h2, _ => by unfold findR; rw [if_pos (by simpa using h2)]; rfl
  | f + 1, d, x + 1, h1, h2, h3 => by
    unfold findR
    rw [if_neg (by have := h1 0 (by omega); simpa using this), findR_at (x := x) (fun j hj => by have := h1 (j + 1) (by omega); rw [show d + 1 + j = d + (j + 1) by omega]; exact this) (by rw [show d + 1 + x = d + (x + 1) by omega]; exact h2) (by omega)]
    congr 1; omega
theorem findR_no {M : List (List UInt8)} {c : Nat} : ∀ {f d : Nat}, (∀ j, j < f → gd 0 (gd [] M (d + j)) c = 0) → findR M c d f = none
  | 0, d, _ => rfl
  | f + 1, d, h => by
    unfold findR
    rw [if_neg (by have := h 0 (by omega); simpa using this)]
    exact findR_no fun j hj => by have := h (j + 1) (by omega); rw [show d + 1 + j = d + (j + 1) by omega]; exact this
theorem invN_ne {x : UInt8} (h : x ≠ 0) : invN x = ginv x := by unfold invN; rw [if_neg h]
def k_51 : Con Tc Tc.dn := ⟨51, [.ty .lU8, .ptr .cInt], fun x => (fun (r : (List UInt8)) (c : Int) => 0 ≤ c ∧ c < r.length) x.1 x.2.1, [.cBool], fun x => (fun (r : (List UInt8)) (c : Int) => decide (gd 0 r c.toNat ≠ 0)) x.1 x.2.1⟩
theorem k_51_v (r : (List UInt8)) (c : Int) (hp : 0 ≤ c ∧ c < r.length) : ((0 : Int) ≤ c ∧ c < (↑r.length : Int)) ∧ (!gd (0 : UInt8) r c.toNat == UInt8.ofNat (Int.toNat (0 : Int))) = decide (gd (0 : UInt8) r c.toNat ≠ (0 : UInt8)) := by
  (repeat' (first | apply And.intro | intro _)) <;> first | assumption | trivial | omega | (grind []) | trace_state
theorem k_51_ok : k_51.Ok Try.prog tD := con_ok tD_ok (Δ := []) trivial (Ω := []) trivial k_51 F51_ok F51_call (fun _ => []) (fun _ => trivial) 0 (fun x => (fun (r : (List UInt8)) (c : Int) => (fun _ => none)) x.1 x.2.1) fun x hp => Eq.mp (by kernel_rfl) (k_51_v x.1 x.2.1 hp)
def k_36 : Con Tc Tc.dn := ⟨36, [.ty .cInt, .ty .cInt, .ptr .llU8], fun x => (fun (i : Int) (k : Int) (a : (List (List UInt8))) => 0 ≤ i ∧ i < a.length ∧ 0 ≤ k ∧ k < (gd [] a i.toNat).length) x.1 x.2.1 x.2.2.1, [.cU8], fun x => (fun (i : Int) (k : Int) (a : (List (List UInt8))) => gd 0 (gd [] a i.toNat) k.toNat) x.1 x.2.1 x.2.2.1⟩
theorem k_36_v (i : Int) (k : Int) (a : (List (List UInt8))) (hp : 0 ≤ i ∧ i < a.length ∧ 0 ≤ k ∧ k < (gd [] a i.toNat).length) : ((0 : Int) ≤ i ∧ i < (↑a.length : Int)) ∧ ((0 : Int) ≤ k ∧ k < (↑(gd [] a i.toNat).length : Int)) ∧ gd (0 : UInt8) (gd [] a i.toNat) k.toNat = gd (0 : UInt8) (gd [] a i.toNat) k.toNat := by
  (repeat' (first | apply And.intro | intro _)) <;> first | assumption | trivial | omega | (grind []) | trace_state
theorem k_36_ok : k_36.Ok Try.prog tD := con_ok tD_ok (Δ := []) trivial (Ω := []) trivial k_36 F36_ok F36_call (fun _ => []) (fun _ => trivial) 0 (fun x => (fun (i : Int) (k : Int) (a : (List (List UInt8))) => (fun _ => none)) x.1 x.2.1 x.2.2.1) fun x hp => Eq.mp (by kernel_rfl) (k_36_v x.1 x.2.1 x.2.2.1 hp)
open Go.RowKit
theorem clear_vc (cols : Int) (KI : RwL) (AI : ArL) (Q : Int → RwL → ArL → Prop) (h0 : ClI 0 0 cols KI AI 0 0 cols KI AI) (hQ : ∀ d K A, 0 ≤ d → (∃ m : Nat, Mt A K KI.length m ∧ cols ≤ m) → clrL cols.toNat (vw AI KI) 0 0 = (vw A K, d.toNat) → Q d K A) :
  ClI (0 : Int) (0 : Int) cols KI AI (0 : Int) (0 : Int) cols KI AI ∧ ∀ (x x_3 x_4 : Int) (x_5 : List (Row UInt8)) (x_6 : List (Nat × List UInt8)), ClI (0 : Int) (0 : Int) cols KI AI x x_3 x_4 x_5 x_6 → (x < cols → ((0 : Int) ≤ x_3 ∧ x_3 ≤ (↑x_5.length : Int)) ∧ IxI (0 : Int) (x_3.toNat, (↑x_5.length : Int).toNat - x_3.toNat) x x_5 x_6 (0 : Int) (x_3.toNat, (↑x_5.length : Int).toNat - x_3.toNat) x x_5 x_6 ∧ ∀ (x_7 : Int) (x_8 : Nat × Nat) (x_9 : Int) (x_10 : List (Row UInt8)) (x_11 : List (Nat × List UInt8)), IxI (0 : Int) (x_3.toNat, (↑x_5.length : Int).toNat - x_3.toNat) x x_5 x_6 x_7 x_8 x_9 x_10 x_11 → (x_7 < (↑((↑x_5.length : Int).toNat - x_3.toNat) : Int) → ((0 : Int) ≤ x_7 ∧ x_7 < (↑x_8.snd : Int)) ∧ x_8.fst + x_7.toNat < x_10.length ∧ (gd (Row.no UInt8) x_10 (x_8.fst + x_7.toNat)).ok x_11 ∧ (gd (Row.no UInt8) x_10 (x_8.fst + x_7.toNat)).kd ≠ RK.nil ∧ ((0 : Int) ≤ x_9 ∧ x_9 < (↑((gd (Row.no UInt8) x_10 (x_8.fst + x_7.toNat)).get x_11).length : Int)) ∧ (decide (gd (0 : UInt8) ((gd (Row.no UInt8) x_10 (x_8.fst + x_7.toNat)).get x_11) x_9.toNat ≠ (0 : UInt8)) = true → (x_7 < (0 : Int) → I64 (x + (1 : Int)) ∧ ClI (0 : Int) (0 : Int) cols KI AI (x + (1 : Int)) x_3 x_4 x_10 x_11 ∧ (x_4 - (x + (1 : Int))).toNat < (x_4 - x).toNat) ∧ ((0 : Int) ≤ x_7 → I64 (x_3 + x_7) ∧ I64 (x_3 + x_7) ∧ ((0 : Int) ≤ x_3 + x_7 ∧ x_3 + x_7 < (↑x_10.length : Int)) ∧ (x_3 + x_7).toNat < x_10.length ∧ ((0 : Int) ≤ x_3 ∧ x_3 < (↑x_10.length : Int)) ∧ x_3.toNat < x_10.length ∧ ((0 : Int) ≤ x_3 ∧ x_3 < (↑x_10.length : Int)) ∧ x_3.toNat < x_10.length ∧ ((0 : Int) ≤ x_3 + x_7 ∧ x_3 + x_7 < (↑(x_10.set x_3.toNat (gd (Row.no UInt8) x_10 (x_3 + x_7).toNat)).length : Int)) ∧ (x_3 + x_7).toNat < (x_10.set x_3.toNat (gd (Row.no UInt8) x_10 (x_3 + x_7).toNat)).length ∧ ((0 : Int) ≤ x_3 ∧ x_3 < (↑((x_10.set x_3.toNat (gd (Row.no UInt8) x_10 (x_3 + x_7).toNat)).set (x_3 + x_7).toNat (gd (Row.no UInt8) x_10 x_3.toNat)).length : Int)) ∧ x_3.toNat < ((x_10.set x_3.toNat (gd (Row.no UInt8) x_10 (x_3 + x_7).toNat)).set (x_3 + x_7).toNat (gd (Row.no UInt8) x_10 x_3.toNat)).length ∧ (gd (Row.no UInt8) ((x_10.set x_3.toNat (gd (Row.no UInt8) x_10 (x_3 + x_7).toNat)).set (x_3 + x_7).toNat (gd (Row.no UInt8) x_10 x_3.toNat)) x_3.toNat).ok x_11 ∧ ((0 : Int) ≤ x_9 ∧ x_9 < (↑((gd (Row.no UInt8) ((x_10.set x_3.toNat (gd (Row.no UInt8) x_10 (x_3 + x_7).toNat)).set (x_3 + x_7).toNat (gd (Row.no UInt8) x_10 x_3.toNat)) x_3.toNat).get x_11).length : Int)) ∧ (gd (Row.no UInt8) ((x_10.set x_3.toNat (gd (Row.no UInt8) x_10 (x_3 + x_7).toNat)).set (x_3 + x_7).toNat (gd (Row.no UInt8) x_10 x_3.toNat)) x_3.toNat).ok x_11 ∧ x_9.toNat < ((gd (Row.no UInt8) ((x_10.set x_3.toNat (gd (Row.no UInt8) x_10 (x_3 + x_7).toNat)).set (x_3 + x_7).toNat (gd (Row.no UInt8) x_10 x_3.toNat)) x_3.toNat).get x_11).length ∧ True ∧ ((0 : Int) ≤ x_3 ∧ x_3 < (↑((x_10.set x_3.toNat (gd (Row.no UInt8) x_10 (x_3 + x_7).toNat)).set (x_3 + x_7).toNat (gd (Row.no UInt8) x_10 x_3.toNat)).length : Int)) ∧ x_3.toNat < ((x_10.set x_3.toNat (gd (Row.no UInt8) x_10 (x_3 + x_7).toNat)).set (x_3 + x_7).toNat (gd (Row.no UInt8) x_10 x_3.toNat)).length ∧ (gd (Row.no UInt8) ((x_10.set x_3.toNat (gd (Row.no UInt8) x_10 (x_3 + x_7).toNat)).set (x_3 + x_7).toNat (gd (Row.no UInt8) x_10 x_3.toNat)) x_3.toNat).ok x_11 ∧ ScI (0 : Int) x_3 (invN (gd (0 : UInt8) ((gd (Row.no UInt8) ((x_10.set x_3.toNat (gd (Row.no UInt8) x_10 (x_3 + x_7).toNat)).set (x_3 + x_7).toNat (gd (Row.no UInt8) x_10 x_3.toNat)) x_3.toNat).get x_11) x_9.toNat)) ((x_10.set x_3.toNat (gd (Row.no UInt8) x_10 (x_3 + x_7).toNat)).set (x_3 + x_7).toNat (gd (Row.no UInt8) x_10 x_3.toNat)) x_11 (0 : Int) x_3 (invN (gd (0 : UInt8) ((gd (Row.no UInt8) ((x_10.set x_3.toNat (gd (Row.no UInt8) x_10 (x_3 + x_7).toNat)).set (x_3 + x_7).toNat (gd (Row.no UInt8) x_10 x_3.toNat)) x_3.toNat).get x_11) x_9.toNat)) ((x_10.set x_3.toNat (gd (Row.no UInt8) x_10 (x_3 + x_7).toNat)).set (x_3 + x_7).toNat (gd (Row.no UInt8) x_10 x_3.toNat)) x_11 ∧ ∀ (x_12 x_13 : Int) (x_14 : UInt8) (x_15 : List (Row UInt8)) (x_16 : List (Nat × List UInt8)), ScI (0 : Int) x_3 (invN (gd (0 : UInt8) ((gd (Row.no UInt8) ((x_10.set x_3.toNat (gd (Row.no UInt8) x_10 (x_3 + x_7).toNat)).set (x_3 + x_7).toNat (gd (Row.no UInt8) x_10 x_3.toNat)) x_3.toNat).get x_11) x_9.toNat)) ((x_10.set x_3.toNat (gd (Row.no UInt8) x_10 (x_3 + x_7).toNat)).set (x_3 + x_7).toNat (gd (Row.no UInt8) x_10 x_3.toNat)) x_11 x_12 x_13 x_14 x_15 x_16 → (x_12 < (↑((gd (Row.no UInt8) ((x_10.set x_3.toNat (gd (Row.no UInt8) x_10 (x_3 + x_7).toNat)).set (x_3 + x_7).toNat (gd (Row.no UInt8) x_10 x_3.toNat)) x_3.toNat).get x_11).length : Int) → ((0 : Int) ≤ x_13 ∧ x_13 < (↑x_15.length : Int)) ∧ x_13.toNat < x_15.length ∧ ((0 : Int) ≤ x_13 ∧ x_13 < (↑x_15.length : Int)) ∧ x_13.toNat < x_15.length ∧ (gd (Row.no UInt8) x_15 x_13.toNat).ok x_16 ∧ ((0 : Int) ≤ x_12 ∧ x_12 < (↑((gd (Row.no UInt8) x_15 x_13.toNat).get x_16).length : Int)) ∧ (gd (Row.no UInt8) x_15 x_13.toNat).ok x_16 ∧ x_12.toNat < ((gd (Row.no UInt8) x_15 x_13.toNat).get x_16).length ∧ True ∧ (gd (Row.no UInt8) x_15 x_13.toNat).ok x_16 ∧ ((0 : Int) ≤ x_12 ∧ x_12 < (↑((gd (Row.no UInt8) x_15 x_13.toNat).get x_16).length : Int)) ∧ (gd (Row.no UInt8) x_15 x_13.toNat).mine x_16 ∧ x_12.toNat < ((gd (Row.no UInt8) x_15 x_13.toNat).get x_16).length ∧ I64 (x_12 + (1 : Int)) ∧ ScI (0 : Int) x_3 (invN (gd (0 : UInt8) ((gd (Row.no UInt8) ((x_10.set x_3.toNat (gd (Row.no UInt8) x_10 (x_3 + x_7).toNat)).set (x_3 + x_7).toNat (gd (Row.no UInt8) x_10 x_3.toNat)) x_3.toNat).get x_11) x_9.toNat)) ((x_10.set x_3.toNat (gd (Row.no UInt8) x_10 (x_3 + x_7).toNat)).set (x_3 + x_7).toNat (gd (Row.no UInt8) x_10 x_3.toNat)) x_11 (x_12 + (1 : Int)) x_13 x_14 x_15 (((gd (Row.no UInt8) x_15 x_13.toNat).id, ((gd (Row.no UInt8) x_15 x_13.toNat).get x_16).set x_12.toNat (gmul (gd (0 : UInt8) ((gd (Row.no UInt8) x_15 x_13.toNat).get x_16) x_12.toNat) x_14)) :: x_16) ∧ ((↑(lkA x_11 (rAt x_15 x_13).id).length : Int) - (x_12 + (1 : Int))).toNat < ((↑(lkA x_11 (rAt x_15 x_13).id).length : Int) - x_12).toNat) ∧ ((↑((gd (Row.no UInt8) ((x_10.set x_3.toNat (gd (Row.no UInt8) x_10 (x_3 + x_7).toNat)).set (x_3 + x_7).toNat (gd (Row.no UInt8) x_10 x_3.toNat)) x_3.toNat).get x_11).length : Int) ≤ x_12 → OfI (0 : Int) x x_3 x_15 x_16 (0 : Int) x x_3 x_15 x_16 ∧ ∀ (x_17 x_18 x_19 : Int) (x_20 : List (Row UInt8)) (x_21 : List (Nat × List UInt8)), OfI (0 : Int) x x_3 x_15 x_16 x_17 x_18 x_19 x_20 x_21 → (x_17 < (↑x_15.length : Int) → (¬x_17 = x_19 → ((0 : Int) ≤ x_17 ∧ x_17 < (↑x_20.length : Int)) ∧ x_17.toNat < x_20.length ∧ (gd (Row.no UInt8) x_20 x_17.toNat).ok x_21 ∧ ((0 : Int) ≤ x_9 ∧ x_9 < (↑((gd (Row.no UInt8) x_20 x_17.toNat).get x_21).length : Int)) ∧ (gd (Row.no UInt8) x_20 x_17.toNat).ok x_21 ∧ x_9.toNat < ((gd (Row.no UInt8) x_20 x_17.toNat).get x_21).length ∧ ((0 : Int) ≤ x_19 ∧ x_19 < (↑x_20.length : Int)) ∧ x_19.toNat < x_20.length ∧ (gd (Row.no UInt8) x_20 x_19.toNat).ok x_21 ∧ AdI (0 : Int) x_17 x_19 (gd (0 : UInt8) ((gd (Row.no UInt8) x_20 x_17.toNat).get x_21) x_9.toNat) x_20 x_21 (0 : Int) x_17 x_19 (gd (0 : UInt8) ((gd (Row.no UInt8) x_20 x_17.toNat).get x_21) x_9.toNat) x_20 x_21 ∧ ∀ (x_22 x_23 x_24 : Int) (x_25 : UInt8) (x_26 : List (Row UInt8)) (x_27 : List (Nat × List UInt8)), AdI (0 : Int) x_17 x_19 (gd (0 : UInt8) ((gd (Row.no UInt8) x_20 x_17.toNat).get x_21) x_9.toNat) x_20 x_21 x_22 x_23 x_24 x_25 x_26 x_27 → (x_22 < (↑((gd (Row.no UInt8) x_20 x_19.toNat).get x_21).length : Int) → (gd (Row.no UInt8) x_20 x_19.toNat).ok x_27 ∧ ((0 : Int) ≤ x_22 ∧ x_22 < (↑((gd (Row.no UInt8) x_20 x_19.toNat).get x_27).length : Int)) ∧ (gd (Row.no UInt8) x_20 x_19.toNat).ok x_27 ∧ x_22.toNat < ((gd (Row.no UInt8) x_20 x_19.toNat).get x_27).length ∧ ((0 : Int) ≤ x_23 ∧ x_23 < (↑x_26.length : Int)) ∧ x_23.toNat < x_26.length ∧ (gd (Row.no UInt8) x_26 x_23.toNat).ok x_27 ∧ ((0 : Int) ≤ x_22 ∧ x_22 < (↑((gd (Row.no UInt8) x_26 x_23.toNat).get x_27).length : Int)) ∧ (gd (Row.no UInt8) x_26 x_23.toNat).ok x_27 ∧ x_22.toNat < ((gd (Row.no UInt8) x_26 x_23.toNat).get x_27).length ∧ True ∧ (gd (Row.no UInt8) x_26 x_23.toNat).ok x_27 ∧ ((0 : Int) ≤ x_22 ∧ x_22 < (↑((gd (Row.no UInt8) x_26 x_23.toNat).get x_27).length : Int)) ∧ (gd (Row.no UInt8) x_26 x_23.toNat).mine x_27 ∧ x_22.toNat < ((gd (Row.no UInt8) x_26 x_23.toNat).get x_27).length ∧ I64 (x_22 + (1 : Int)) ∧ AdI (0 : Int) x_17 x_19 (gd (0 : UInt8) ((gd (Row.no UInt8) x_20 x_17.toNat).get x_21) x_9.toNat) x_20 x_21 (x_22 + (1 : Int)) x_23 x_24 x_25 x_26 (((gd (Row.no UInt8) x_26 x_23.toNat).id, ((gd (Row.no UInt8) x_26 x_23.toNat).get x_27).set x_22.toNat (gd (0 : UInt8) ((gd (Row.no UInt8) x_26 x_23.toNat).get x_27) x_22.toNat ^^^ gmul x_25 (gd (0 : UInt8) ((gd (Row.no UInt8) x_20 x_19.toNat).get x_27) x_22.toNat))) :: x_27) ∧ ((↑(lkA x_21 (rAt x_26 x_24).id).length : Int) - (x_22 + (1 : Int))).toNat < ((↑(lkA x_21 (rAt x_26 x_24).id).length : Int) - x_22).toNat) ∧ ((↑((gd (Row.no UInt8) x_20 x_19.toNat).get x_21).length : Int) ≤ x_22 → I64 (x_17 + (1 : Int)) ∧ OfI (0 : Int) x x_3 x_15 x_16 (x_17 + (1 : Int)) x_18 x_19 x_26 x_27 ∧ ((↑x_26.length : Int) - (x_17 + (1 : Int))).toNat < ((↑x_20.length : Int) - x_17).toNat)) ∧ (x_17 = x_19 → I64 (x_17 + (1 : Int)) ∧ OfI (0 : Int) x x_3 x_15 x_16 (x_17 + (1 : Int)) x_18 x_19 x_20 x_21 ∧ ((↑x_20.length : Int) - (x_17 + (1 : Int))).toNat < ((↑x_20.length : Int) - x_17).toNat)) ∧ ((↑x_15.length : Int) ≤ x_17 → I64 (x_19 + (1 : Int)) ∧ (x_19 + (1 : Int) = (↑x_20.length : Int) → Q (x_19 + (1 : Int)) x_20 x_21) ∧ (¬x_19 + (1 : Int) = (↑x_20.length : Int) → I64 (x_18 + (1 : Int)) ∧ ClI (0 : Int) (0 : Int) cols KI AI (x_18 + (1 : Int)) (x_19 + (1 : Int)) x_4 x_20 x_21 ∧ (x_4 - (x_18 + (1 : Int))).toNat < (x_4 - x).toNat))))) ∧ (decide (gd (0 : UInt8) ((gd (Row.no UInt8) x_10 (x_8.fst + x_7.toNat)).get x_11) x_9.toNat ≠ (0 : UInt8)) = false → I64 (x_7 + (1 : Int)) ∧ IxI (0 : Int) (x_3.toNat, (↑x_5.length : Int).toNat - x_3.toNat) x x_5 x_6 (x_7 + (1 : Int)) x_8 x_9 x_10 x_11 ∧ ((↑x_8.snd : Int) - (x_7 + (1 : Int))).toNat < ((↑x_8.snd : Int) - x_7).toNat)) ∧ ((↑((↑x_5.length : Int).toNat - x_3.toNat) : Int) ≤ x_7 → I64 (x + (1 : Int)) ∧ ClI (0 : Int) (0 : Int) cols KI AI (x + (1 : Int)) x_3 x_4 x_10 x_11 ∧ (x_4 - (x + (1 : Int))).toNat < (x_4 - x).toNat)) ∧ (cols ≤ x → Q (x_3) x_5 x_6) := by
  refine ⟨h0, fun c d cols' K A hI => ?_⟩
  obtain ⟨c0, c1, ec, hcb, d0, d1, el, elb, ⟨m, hM, hm, hmb⟩, hclr⟩ := hI
  subst ec
  refine ⟨fun hc => ?_, fun hc => ?_⟩
  case refine_2 =>
    refine hQ d K A d0 ⟨m, by rw [← el]; exact hM, hm⟩ ?_
    rw [← hclr, show (cols' - c).toNat = 0 by omega]; rfl
  have hML : (vw A K).length = K.length := vw_len
  have hstep : (cols' - c).toNat = (cols' - (c + 1)).toNat + 1 := by omega
  have hc1 : (c + 1).toNat = c.toNat + 1 := by omega
  have hd1 : (d + 1).toNat = d.toNat + 1 := by omega
  refine ⟨⟨d0, by omega⟩, ⟨Int.le_refl _, by simp, rfl, rfl, rfl, rfl, fun j hj => by simp at hj⟩, fun k s cc K' A' hX => ?_⟩
  obtain ⟨k0, k1, es, ecc, eK, eA, hz⟩ := hX
  subst es; subst ecc; subst eK; subst eA
  have hz2 : ∀ j, j < k.toNat → gd 0 (gd [] (vw A' K') (d.toNat + j)) cc.toNat = 0 := fun j hj => by
    have := hz j hj
    simp only at this k1
    rw [(hM.at (i := d.toNat + j) (by omega)).2.2.1] at this
    exact this
  simp only at k1 hz
  refine ⟨fun hk => ?_, fun hk => ?_⟩
  case refine_2 =>
    refine ⟨⟨by omega, by omega⟩, ⟨by omega, by omega, rfl, hcb, d0, d1, el, elb, ⟨m, hM, hm, hmb⟩, ?_⟩, by omega⟩
    rw [← hclr, hstep, hc1]
    show _ = (match findR (vw A' K') cc.toNat d.toNat ((vw A' K').length - d.toNat) with
      | none => _
      | some i0 => _)
    rw [findR_no (fun j hj => hz2 j (by rw [hML] at hj; omega))]
  have hi : d.toNat + k.toNat < K'.length := by omega
  have hik : (d + k).toNat = d.toNat + k.toNat := by omega
  obtain ⟨a1, a2, a3, a4, a5⟩ := hM.at hi
  refine ⟨⟨k0, by omega⟩, hi, a2, a5, ⟨c0, by rw [a4]; omega⟩, fun hne => ⟨fun hneg => absurd k0 (by omega), fun _ => ?_⟩, fun hne => ?_⟩
  case refine_2 =>
    refine ⟨⟨by omega, by omega⟩, ⟨by omega, by simp only; omega, rfl, rfl, rfl, rfl, fun j hj => ?_⟩, by simp only; omega⟩
    by_cases hjk : j < k.toNat
    · exact hz j hjk
    · have : j = k.toNat := by omega
      subst this
      have := of_decide_eq_false hne
      exact Classical.not_not.1 this
  have hne := of_decide_eq_true hne
  rw [a3] at hne
  have hfind : findR (vw A' K') cc.toNat d.toNat ((vw A' K').length - d.toNat) = some (d.toNat + k.toNat) := findR_at hz2 hne (by rw [hML]; omega)
  obtain ⟨hMs, hvs⟩ := hM.swap (d := d.toNat) (i := (d + k).toNat) (by omega) (by omega)
  generalize hZ : (K'.set d.toNat (gd (Row.no UInt8) K' (d + k).toNat)).set (d + k).toNat (gd (Row.no UInt8) K' d.toNat) = Z at hMs hvs ⊢
  have hZl : Z.length = K'.length := by rw [← hZ]; simp
  have hdz : d.toNat < K'.length := by omega
  obtain ⟨b1, b2, b3, b4, b5⟩ := hMs.at hdz
  have hbz : (d.toNat : Int) < (Z.length : Int) := by omega
  refine ⟨⟨by omega, by omega⟩, ⟨by omega, by omega⟩, ⟨by omega, by omega⟩, by omega, ⟨d0, by omega⟩, hdz, ⟨d0, by omega⟩, hdz, ⟨by omega, by rw [List.length_set]; omega⟩, by rw [List.length_set]; omega, ⟨d0, by omega⟩, by omega, b2, ⟨c0, by rw [b4]; omega⟩, b2, by rw [b4]; omega, trivial, ⟨d0, by omega⟩, by omega, b2, ⟨Int.le_refl _, rfl, rfl, rfl, d0, by omega, ?_, by omega⟩, fun k2 i f K3 A3 hS => ?_⟩
  · show RowR A' A' (gd (Row.no UInt8) Z d.toNat) (scTo _ _ 0)
    rw [scTo_zero]; exact RowR.start b1
  obtain ⟨q0, eqi, eqf, eqK, q1, q2, hR, q3⟩ := hS
  subst eqi; subst eqK
  have hR : RowR A' A3 (gd (Row.no UInt8) K3 i.toNat) (scTo (lkA A' (gd (Row.no UInt8) K3 i.toNat).id) f k2.toNat) := hR
  have q3 : k2 ≤ ((lkA A' (gd (Row.no UInt8) K3 i.toNat).id).length : Int) := q3
  have hrl := b1.get.1
  rw [hrl] at b3 b4
  rw [b4] at q3
  have hg3 := hR.mine.get
  rw [hR.get] at hg3
  have hl3 : ((gd (Row.no UInt8) K3 i.toNat).get A3).length = m := by rw [hg3.1, scTo_len, b4]
  have hfe : f = invN (gd 0 (lkA A' (gd (Row.no UInt8) K3 i.toNat).id) cc.toNat) := by rw [eqf, hrl]
  rw [← eqf, hrl, b4, hl3, hg3.1]
  refine ⟨fun hk2 => ?_, fun hk2 => ?_⟩
  · refine ⟨⟨q1, by omega⟩, by omega, ⟨q1, by omega⟩, by omega, hR.mine.ok, ⟨q0, by omega⟩, hR.mine.ok, by omega, trivial, hR.mine.ok, ⟨q0, by omega⟩, hR.mine, by omega, ⟨by omega, by omega⟩, ⟨by omega, rfl, rfl, rfl, q1, q2, ?_, by show k2 + 1 ≤ ((lkA A' (gd (Row.no UInt8) K3 i.toNat).id).length : Int); omega⟩, by omega⟩
    rw [scTo_step (by omega), show k2.toNat + 1 = (k2 + 1).toNat by omega]
    exact hR.put (by rw [scTo_len, scTo_len])
  rw [scTo_end (by omega)] at hR
  obtain ⟨hM3, hv3⟩ := hMs.put hdz hR (by simp [scaleL, b4])
  have hrow : gd [] (swapL (vw A' K') i.toNat (i.toNat + k.toNat)) i.toNat = lkA A' (gd (Row.no UInt8) K3 i.toNat).id := by rw [← vw_gd hMs hdz, hvs, hik]
  have hent : gd 0 (lkA A' (gd (Row.no UInt8) K3 i.toNat).id) cc.toNat ≠ 0 := by
    rw [← hrow, swapL_row hM.rect hdz hi, if_pos rfl]; exact hne
  have hone : vw A3 K3 = oneL (swapL (vw A' K') i.toNat (i.toNat + k.toNat)) cc.toNat i.toNat := by
    unfold oneL
    rw [hv3, hfe, invN_ne hent, hrow, hvs, hik]
  refine ⟨⟨Int.le_refl _, by omega, rfl, rfl, rfl, ⟨m, by rw [hZl]; exact hM3, by rw [hZl]; exact hM3, by omega, hmb⟩, offTo_zero.symm⟩, fun k3 c2 d2 K4 A4 hO => ?_⟩
  obtain ⟨p0, p1, ec2, ed2, eK4, ⟨m', hMa, hMb, hcm, hmb'⟩, hv4⟩ := hO
  subst ec2; subst ed2; subst eK4
  have hl4 : K4.length = K'.length := hZl
  rw [hl4] at hMa hMb p1
  have hM3l : (vw A3 K4).length = K'.length := by rw [vw_len, hl4]
  rw [hl4]
  refine ⟨fun hk3 => ⟨fun hkd => ?_, fun hkd => ?_⟩, fun hk3 => ?_⟩
  · have hkt : k3.toNat < K'.length := by omega
    have hkn : k3.toNat ≠ d2.toNat := fun e => hkd (by omega)
    obtain ⟨e1, e2, e3, e4, e5⟩ := hMb.at hkt
    obtain ⟨g1, g2, g3, g4, g5⟩ := hMb.at hdz
    have el1 := (hMb.row _ hkt).2
    have el2 := (hMb.row _ hdz).2
    refine ⟨⟨p0, by omega⟩, by omega, e2, ⟨c0, by rw [e4]; omega⟩, e2, by rw [e4]; omega, ⟨d0, by omega⟩, by omega, g2, ⟨Int.le_refl _, rfl, rfl, rfl, rfl, p0, by omega, d0, by omega, fun e => hkn (hMb.inj _ _ hdz hkt e).symm, g1, by show (lkA A4 (gd (Row.no UInt8) K4 d2.toNat).id).length = (lkA A4 (gd (Row.no UInt8) K4 k3.toNat).id).length; rw [el1, el2], ?_, by omega⟩, fun k5 t s f5 K5 A5 hA => ?_⟩
    · show RowR A4 A4 (gd (Row.no UInt8) K4 k3.toNat) (adTo _ _ _ 0)
      rw [adTo_zero]; exact RowR.start e1
    obtain ⟨r0, et, es, ef, eK5, t0, t1, s0, s1, hidn, hsm, hsl, hR5, r3⟩ := hA
    subst et; subst es; subst eK5
    have hidn : (gd (Row.no UInt8) K5 s.toNat).id ≠ (gd (Row.no UInt8) K5 t.toNat).id := hidn
    have hR5 : RowR A4 A5 (gd (Row.no UInt8) K5 t.toNat) (adTo (lkA A4 (gd (Row.no UInt8) K5 t.toNat).id) (lkA A4 (gd (Row.no UInt8) K5 s.toNat).id) f5 k5.toNat) := hR5
    have r3 : k5 ≤ ((lkA A4 (gd (Row.no UInt8) K5 s.toNat).id).length : Int) := r3
    have hql : (lkA A4 (gd (Row.no UInt8) K5 s.toNat).id).length = (lkA A4 (gd (Row.no UInt8) K5 t.toNat).id).length := by rw [el1, el2]
    have hq : lkA A5 (gd (Row.no UInt8) K5 s.toNat).id = lkA A4 (gd (Row.no UInt8) K5 s.toNat).id := hR5.lk _ hidn
    have hs5 : (gd (Row.no UInt8) K5 s.toNat).mine A5 := ⟨g1.1, (hR5.has _ hidn).2 g1.2.1, by rw [hq]; exact g1.2.2⟩
    have hgs := hs5.get.1
    rw [hq] at hgs
    have hgt := hR5.mine.get
    rw [hR5.get] at hgt
    have hlt5 : ((gd (Row.no UInt8) K5 t.toNat).get A5).length = m' := by rw [hgt.1, adTo_len hql, el1]
    have hls5 : ((gd (Row.no UInt8) K5 s.toNat).get A5).length = m' := by rw [hgs, el2]
    rw [el2] at r3
    rw [g4, hlt5, hls5, hgt.1, hgs]
    refine ⟨fun hk5 => ?_, fun hk5 => ?_⟩
    · refine ⟨hs5.ok, ⟨r0, hk5⟩, hs5.ok, by omega, ⟨t0, t1⟩, by omega, hR5.mine.ok, ⟨r0, hk5⟩, hR5.mine.ok, by omega, trivial, hR5.mine.ok, ⟨r0, hk5⟩, hR5.mine, by omega, ⟨by omega, by omega⟩, ⟨by omega, rfl, rfl, ef, rfl, t0, t1, s0, s1, hidn, g1, hql, ?_, ?_⟩, ?_⟩
      · rw [adTo_step hql (by omega), show k5.toNat + 1 = (k5 + 1).toNat by omega]
        exact hR5.put (by rw [adTo_len hql, adTo_len hql])
      · show k5 + 1 ≤ ((lkA A4 (gd (Row.no UInt8) K5 s.toNat).id).length : Int)
        omega
      · show (((lkA A4 (gd (Row.no UInt8) K5 s.toNat).id).length : Int) - (k5 + 1)).toNat < (((lkA A4 (gd (Row.no UInt8) K5 s.toNat).id).length : Int) - k5).toNat
        omega
    · rw [adTo_end hql (by omega)] at hR5
      obtain ⟨hM5, hv5⟩ := hMb.put hkt hR5 (by rw [addL_len hql.symm]; exact el1)
      refine ⟨⟨by omega, by omega⟩, ⟨by omega, by omega, rfl, rfl, rfl, ⟨m', hl4 ▸ hMa, hl4 ▸ hM5, hcm, hmb'⟩, ?_⟩, by omega⟩
      have et1 : lkA A4 (gd (Row.no UInt8) K5 t.toNat).id = gd [] (vw A3 K5) t.toNat := by rw [← vw_gd hMb hkt, hv4, offTo_gd (by omega), if_neg (by omega)]
      have es1 : lkA A4 (gd (Row.no UInt8) K5 s.toNat).id = gd [] (vw A3 K5) s.toNat := by rw [← vw_gd hMb hdz, hv4, offTo_gd (by omega), if_neg (by omega)]
      rw [hv5, hv4, ef, e1.get.1, et1, es1, offTo_step (by omega) hkn, show t.toNat + 1 = (t + 1).toNat by omega]
  · refine ⟨⟨by omega, by omega⟩, ⟨by omega, by omega, rfl, rfl, rfl, ⟨m', hl4 ▸ hMa, hl4 ▸ hMb, hcm, hmb'⟩, ?_⟩, by omega⟩
    rw [hv4, hkd, hd1, offTo_same]
  · have hend : vw A4 K4 = pivL (vw A' K') c2.toNat d2.toNat (d2.toNat + k.toNat) := by
      unfold pivL
      rw [hv4, offTo_end (by omega), hone]
    have hun : clrL (cols' - c2).toNat (vw A' K') c2.toNat d2.toNat = if d2.toNat + 1 = (vw A' K').length then (vw A4 K4, d2.toNat + 1) else clrL (cols' - (c2 + 1)).toNat (vw A4 K4) (c2 + 1).toNat (d2 + 1).toNat := by
      rw [hstep, hc1, hd1, hend]
      show (match findR (vw A' K') c2.toNat d2.toNat ((vw A' K').length - d2.toNat) with
        | none => _
        | some i0 => _) = _
      rw [hfind]
    refine ⟨⟨by omega, by omega⟩, fun hq => ?_, fun hq => ⟨⟨by omega, by omega⟩, ⟨by omega, by omega, rfl, hcb, by omega, by omega, by omega, by omega, ⟨m', by rw [hl4]; exact hMb, ?_, hmb'⟩, ?_⟩, by omega⟩⟩
    · refine hQ _ _ _ (by omega) ⟨m', by rw [← el]; exact hMb, ?_⟩ ?_
      · have q1 := (hM3.row _ hdz).2
        have q2 := (hMa.row _ hdz).2
        omega
      · rw [← hclr, hun, if_pos (by rw [hML]; omega), hd1]
    · have q1 := (hM3.row _ hdz).2
      have q2 := (hMa.row _ hdz).2
      omega
    · rw [← hclr, hun, if_neg (by rw [hML]; omega)]
open Go.RowKit
theorem FillI.mt {A : ArL} {K : RwL} {i m n : Int} {f : Nat → Nat → UInt8} (h : FillI A K i m n f) (hi : m ≤ i) (hm : 0 ≤ m) : Mt A K K.length n.toNat := by
  have hl := h.len
  refine ⟨rfl, fun j hj => ?_, fun j k hj hk e => h.inj j k (by omega) (by omega) e⟩
  obtain ⟨q1, q2, q3⟩ := h.row j (by omega)
  exact ⟨q1, by rw [q3]; simp⟩
theorem FillI.vw {A : ArL} {K : RwL} {i m n : Int} {f : Nat → Nat → UInt8} (h : FillI A K i m n f) (hi : m ≤ i) (hm : 0 ≤ m) : Proofs.Ytjfakndleagacaa.vw A K = fillL m n f := (h.fin hi hm).2
theorem ClI.start {A : ArL} {K : RwL} {i m n cols : Int} {f : Nat → Nat → UInt8} (h : FillI A K i m n f) (hi : m ≤ i) (hm : 0 < m ∧ m ≤ 1000) (hn : 0 ≤ cols ∧ cols ≤ n ∧ n ≤ 1000) : ClI 0 0 cols K A 0 0 cols K A := by
  have hl := h.len
  exact ⟨Int.le_refl _, hn.1, rfl, by omega, Int.le_refl _, by omega, rfl, by omega, ⟨n.toNat, h.mt hi (by omega), by omega, by omega⟩, by rw [Int.sub_zero]; rfl⟩
def rankL (a : List (List UInt8)) : Int × Int := if mchk a ≠ 0 then (0, mchk a) else (((clrL (gd [] a 0).length (fillL a.length (gd [] a 0).length (fA a)) 0 0).2 : Int), 0)
def i_14_32_36_1 (a : (List (List UInt8))) (k0 : Int) (i0 : Int) (K0 : (List (Row UInt8))) (A0 : (List (Nat × List UInt8))) (k : Int) (i : Int) (K : (List (Row UInt8))) (A : (List (Nat × List UInt8))) : Prop := 0 ≤ k ∧ k ≤ ((gd [] a 0).length : Int) ∧ K = K0 ∧ i = i0 ∧ FillR A0 A (gd (Row.no UInt8) K i.toNat) k ((gd [] a 0).length : Int) (fA a i.toNat)
def i_14_32_36_0 (a : (List (List UInt8))) (i : Int) (K : (List (Row UInt8))) (A : (List (Nat × List UInt8))) : Prop := 0 ≤ i ∧ i ≤ (a.length : Int) ∧ FillI A K i (a.length : Int) ((gd [] a 0).length : Int) (fA a)
def i_14_50_0 (k0 : Int) (s0 : (Nat × Nat)) (c0 : Int) (K0 : (List (Row UInt8))) (A0 : (List (Nat × List UInt8))) (k : Int) (s : (Nat × Nat)) (c : Int) (K : (List (Row UInt8))) (A : (List (Nat × List UInt8))) : Prop := IxI k0 s0 c0 K0 A0 k s c K A
def i_14_52_0 (k0 : Int) (i0 : Int) (f0 : UInt8) (K0 : (List (Row UInt8))) (A0 : (List (Nat × List UInt8))) (k : Int) (i : Int) (f : UInt8) (K : (List (Row UInt8))) (A : (List (Nat × List UInt8))) : Prop := ScI k0 i0 f0 K0 A0 k i f K A
def i_14_53_0 (k0 : Int) (t0 : Int) (s0 : Int) (f0 : UInt8) (K0 : (List (Row UInt8))) (A0 : (List (Nat × List UInt8))) (k : Int) (t : Int) (s : Int) (f : UInt8) (K : (List (Row UInt8))) (A : (List (Nat × List UInt8))) : Prop := AdI k0 t0 s0 f0 K0 A0 k t s f K A
def i_14_34_1 (k0 : Int) (c0 : Int) (d0 : Int) (K0 : (List (Row UInt8))) (A0 : (List (Nat × List UInt8))) (k : Int) (c : Int) (d : Int) (K : (List (Row UInt8))) (A : (List (Nat × List UInt8))) : Prop := OfI k0 c0 d0 K0 A0 k c d K A
def i_14_34_0 (c0 : Int) (d0 : Int) (cols0 : Int) (K0 : (List (Row UInt8))) (A0 : (List (Nat × List UInt8))) (c : Int) (d : Int) (cols : Int) (K : (List (Row UInt8))) (A : (List (Nat × List UInt8))) : Prop := ClI c0 d0 cols0 K0 A0 c d cols K A
def k_14 : Con Tc Tc.dn := ⟨14, [.ty .llU8], fun x => (fun (a : (List (List UInt8))) => True) x.1, [.cInt, .cInt], fun x => (fun (a : (List (List UInt8))) => rankL a) x.1⟩
abbrev z14_0 (a : (List (List UInt8))) := (↑(gd [] a (Int.toNat (0 : Int))).length : Int)
abbrev z14_1 (a : (List (List UInt8))) := (List.replicate (z14_0 a).toNat (UInt8.ofNat (Int.toNat (0 : Int))))
theorem k_14_v (a : (List (List UInt8))) : True ∧ (¬mchk a = (0 : Int) → ((0 : Int), mchk a) = rankL a) ∧ (mchk a = (0 : Int) → ((0 : Int) ≤ (0 : Int) ∧ (0 : Int) < (↑a.length : Int)) ∧ ((0 : Int) ≤ (↑a.length : Int) ∧ (↑a.length : Int) ≤ (↑a.length : Int) ∧ (↑a.length : Int) * (↑(24 : Nat) : Int) ≤ (140737488355328 : Int)) ∧ i_14_32_36_0 a (0 : Int) (List.replicate (↑a.length : Int).toNat (Row.no UInt8)) [] ∧ ∀ (x : Int) (x_1 : List (Row UInt8)) (x_2 : List (Nat × List UInt8)), i_14_32_36_0 a x x_1 x_2 → (x < (↑(List.replicate (↑a.length : Int).toNat (Row.no UInt8)).length : Int) → ((0 : Int) ≤ (z14_0 a) ∧ (z14_0 a) ≤ (z14_0 a) ∧ (z14_0 a) * (↑(1 : Nat) : Int) ≤ (140737488355328 : Int)) ∧ ((0 : Int) ≤ x ∧ x < (↑x_1.length : Int)) ∧ ∀ (id : Nat), ¬hasA x_2 id → x.toNat < x_1.length ∧ ((0 : Int) ≤ x ∧ x < (↑(x_1.set x.toNat (Row.at UInt8 id (z14_1 a).length)).length : Int)) ∧ x.toNat < (x_1.set x.toNat (Row.at UInt8 id (z14_1 a).length)).length ∧ (gd (Row.no UInt8) (x_1.set x.toNat (Row.at UInt8 id (z14_1 a).length)) x.toNat).ok ((id, List.replicate (z14_0 a).toNat (UInt8.ofNat (Int.toNat (0 : Int)))) :: x_2) ∧ i_14_32_36_1 a (0 : Int) x (x_1.set x.toNat (Row.at UInt8 id (z14_1 a).length)) ((id, List.replicate (z14_0 a).toNat (UInt8.ofNat (Int.toNat (0 : Int)))) :: x_2) (0 : Int) x (x_1.set x.toNat (Row.at UInt8 id (z14_1 a).length)) ((id, List.replicate (z14_0 a).toNat (UInt8.ofNat (Int.toNat (0 : Int)))) :: x_2) ∧ ∀ (x_3 x_4 : Int) (x_5 : List (Row UInt8)) (x_6 : List (Nat × List UInt8)), i_14_32_36_1 a (0 : Int) x (x_1.set x.toNat (Row.at UInt8 id (z14_1 a).length)) ((id, List.replicate (z14_0 a).toNat (UInt8.ofNat (Int.toNat (0 : Int)))) :: x_2) x_3 x_4 x_5 x_6 → (x_3 < (↑((gd (Row.no UInt8) (x_1.set x.toNat (Row.at UInt8 id (z14_1 a).length)) x.toNat).get ((id, List.replicate (z14_0 a).toNat (UInt8.ofNat (Int.toNat (0 : Int)))) :: x_2)).length : Int) → ((0 : Int) ≤ x_4 ∧ x_4 < (↑x_5.length : Int)) ∧ x_4.toNat < x_5.length ∧ ((0 : Int) ≤ x_4 ∧ x_4 < (↑a.length : Int) ∧ (0 : Int) ≤ x_3 ∧ x_3 < (↑(gd [] a x_4.toNat).length : Int)) ∧ (gd (Row.no UInt8) x_5 x_4.toNat).ok x_6 ∧ ((0 : Int) ≤ x_3 ∧ x_3 < (↑((gd (Row.no UInt8) x_5 x_4.toNat).get x_6).length : Int)) ∧ (gd (Row.no UInt8) x_5 x_4.toNat).mine x_6 ∧ x_3.toNat < ((gd (Row.no UInt8) x_5 x_4.toNat).get x_6).length ∧ I64 (x_3 + (1 : Int)) ∧ i_14_32_36_1 a (0 : Int) x (x_1.set x.toNat (Row.at UInt8 id (z14_1 a).length)) ((id, List.replicate (z14_0 a).toNat (UInt8.ofNat (Int.toNat (0 : Int)))) :: x_2) (x_3 + (1 : Int)) x_4 x_5 (((gd (Row.no UInt8) x_5 x_4.toNat).id, ((gd (Row.no UInt8) x_5 x_4.toNat).get x_6).set x_3.toNat (gd (0 : UInt8) (gd [] a x_4.toNat) x_3.toNat)) :: x_6) ∧ ((↑(gd [] a (0 : Nat)).length : Int) - (x_3 + (1 : Int))).toNat < ((↑(gd [] a (0 : Nat)).length : Int) - x_3).toNat) ∧ ((↑((gd (Row.no UInt8) (x_1.set x.toNat (Row.at UInt8 id (z14_1 a).length)) x.toNat).get ((id, List.replicate (z14_0 a).toNat (UInt8.ofNat (Int.toNat (0 : Int)))) :: x_2)).length : Int) ≤ x_3 → I64 (x + (1 : Int)) ∧ i_14_32_36_0 a (x + (1 : Int)) x_5 x_6 ∧ ((↑a.length : Int) - (x + (1 : Int))).toNat < ((↑a.length : Int) - x).toNat)) ∧ ((↑(List.replicate (↑a.length : Int).toNat (Row.no UInt8)).length : Int) ≤ x → ((0 : Int) ≤ (0 : Int) ∧ (0 : Int) < (↑a.length : Int)) ∧ i_14_34_0 (0 : Int) (0 : Int) (z14_0 a) x_1 x_2 (0 : Int) (0 : Int) (z14_0 a) x_1 x_2 ∧ ∀ (x x_3 x_4 : Int) (x_5 : List (Row UInt8)) (x_6 : List (Nat × List UInt8)), i_14_34_0 (0 : Int) (0 : Int) (z14_0 a) x_1 x_2 x x_3 x_4 x_5 x_6 → (x < (z14_0 a) → ((0 : Int) ≤ x_3 ∧ x_3 ≤ (↑x_5.length : Int)) ∧ i_14_50_0 (0 : Int) (x_3.toNat, (↑x_5.length : Int).toNat - x_3.toNat) x x_5 x_6 (0 : Int) (x_3.toNat, (↑x_5.length : Int).toNat - x_3.toNat) x x_5 x_6 ∧ ∀ (x_7 : Int) (x_8 : Nat × Nat) (x_9 : Int) (x_10 : List (Row UInt8)) (x_11 : List (Nat × List UInt8)), i_14_50_0 (0 : Int) (x_3.toNat, (↑x_5.length : Int).toNat - x_3.toNat) x x_5 x_6 x_7 x_8 x_9 x_10 x_11 → (x_7 < (↑((↑x_5.length : Int).toNat - x_3.toNat) : Int) → ((0 : Int) ≤ x_7 ∧ x_7 < (↑x_8.snd : Int)) ∧ x_8.fst + x_7.toNat < x_10.length ∧ (gd (Row.no UInt8) x_10 (x_8.fst + x_7.toNat)).ok x_11 ∧ (gd (Row.no UInt8) x_10 (x_8.fst + x_7.toNat)).kd ≠ RK.nil ∧ ((0 : Int) ≤ x_9 ∧ x_9 < (↑((gd (Row.no UInt8) x_10 (x_8.fst + x_7.toNat)).get x_11).length : Int)) ∧ (decide (gd (0 : UInt8) ((gd (Row.no UInt8) x_10 (x_8.fst + x_7.toNat)).get x_11) x_9.toNat ≠ (0 : UInt8)) = true → (x_7 < (0 : Int) → I64 (x + (1 : Int)) ∧ i_14_34_0 (0 : Int) (0 : Int) (z14_0 a) x_1 x_2 (x + (1 : Int)) x_3 x_4 x_10 x_11 ∧ (x_4 - (x + (1 : Int))).toNat < (x_4 - x).toNat) ∧ ((0 : Int) ≤ x_7 → I64 (x_3 + x_7) ∧ I64 (x_3 + x_7) ∧ ((0 : Int) ≤ x_3 + x_7 ∧ x_3 + x_7 < (↑x_10.length : Int)) ∧ (x_3 + x_7).toNat < x_10.length ∧ ((0 : Int) ≤ x_3 ∧ x_3 < (↑x_10.length : Int)) ∧ x_3.toNat < x_10.length ∧ ((0 : Int) ≤ x_3 ∧ x_3 < (↑x_10.length : Int)) ∧ x_3.toNat < x_10.length ∧ ((0 : Int) ≤ x_3 + x_7 ∧ x_3 + x_7 < (↑(x_10.set x_3.toNat (gd (Row.no UInt8) x_10 (x_3 + x_7).toNat)).length : Int)) ∧ (x_3 + x_7).toNat < (x_10.set x_3.toNat (gd (Row.no UInt8) x_10 (x_3 + x_7).toNat)).length ∧ ((0 : Int) ≤ x_3 ∧ x_3 < (↑((x_10.set x_3.toNat (gd (Row.no UInt8) x_10 (x_3 + x_7).toNat)).set (x_3 + x_7).toNat (gd (Row.no UInt8) x_10 x_3.toNat)).length : Int)) ∧ x_3.toNat < ((x_10.set x_3.toNat (gd (Row.no UInt8) x_10 (x_3 + x_7).toNat)).set (x_3 + x_7).toNat (gd (Row.no UInt8) x_10 x_3.toNat)).length ∧ (gd (Row.no UInt8) ((x_10.set x_3.toNat (gd (Row.no UInt8) x_10 (x_3 + x_7).toNat)).set (x_3 + x_7).toNat (gd (Row.no UInt8) x_10 x_3.toNat)) x_3.toNat).ok x_11 ∧ ((0 : Int) ≤ x_9 ∧ x_9 < (↑((gd (Row.no UInt8) ((x_10.set x_3.toNat (gd (Row.no UInt8) x_10 (x_3 + x_7).toNat)).set (x_3 + x_7).toNat (gd (Row.no UInt8) x_10 x_3.toNat)) x_3.toNat).get x_11).length : Int)) ∧ (gd (Row.no UInt8) ((x_10.set x_3.toNat (gd (Row.no UInt8) x_10 (x_3 + x_7).toNat)).set (x_3 + x_7).toNat (gd (Row.no UInt8) x_10 x_3.toNat)) x_3.toNat).ok x_11 ∧ x_9.toNat < ((gd (Row.no UInt8) ((x_10.set x_3.toNat (gd (Row.no UInt8) x_10 (x_3 + x_7).toNat)).set (x_3 + x_7).toNat (gd (Row.no UInt8) x_10 x_3.toNat)) x_3.toNat).get x_11).length ∧ True ∧ ((0 : Int) ≤ x_3 ∧ x_3 < (↑((x_10.set x_3.toNat (gd (Row.no UInt8) x_10 (x_3 + x_7).toNat)).set (x_3 + x_7).toNat (gd (Row.no UInt8) x_10 x_3.toNat)).length : Int)) ∧ x_3.toNat < ((x_10.set x_3.toNat (gd (Row.no UInt8) x_10 (x_3 + x_7).toNat)).set (x_3 + x_7).toNat (gd (Row.no UInt8) x_10 x_3.toNat)).length ∧ (gd (Row.no UInt8) ((x_10.set x_3.toNat (gd (Row.no UInt8) x_10 (x_3 + x_7).toNat)).set (x_3 + x_7).toNat (gd (Row.no UInt8) x_10 x_3.toNat)) x_3.toNat).ok x_11 ∧ i_14_52_0 (0 : Int) x_3 (invN (gd (0 : UInt8) ((gd (Row.no UInt8) ((x_10.set x_3.toNat (gd (Row.no UInt8) x_10 (x_3 + x_7).toNat)).set (x_3 + x_7).toNat (gd (Row.no UInt8) x_10 x_3.toNat)) x_3.toNat).get x_11) x_9.toNat)) ((x_10.set x_3.toNat (gd (Row.no UInt8) x_10 (x_3 + x_7).toNat)).set (x_3 + x_7).toNat (gd (Row.no UInt8) x_10 x_3.toNat)) x_11 (0 : Int) x_3 (invN (gd (0 : UInt8) ((gd (Row.no UInt8) ((x_10.set x_3.toNat (gd (Row.no UInt8) x_10 (x_3 + x_7).toNat)).set (x_3 + x_7).toNat (gd (Row.no UInt8) x_10 x_3.toNat)) x_3.toNat).get x_11) x_9.toNat)) ((x_10.set x_3.toNat (gd (Row.no UInt8) x_10 (x_3 + x_7).toNat)).set (x_3 + x_7).toNat (gd (Row.no UInt8) x_10 x_3.toNat)) x_11 ∧ ∀ (x_12 x_13 : Int) (x_14 : UInt8) (x_15 : List (Row UInt8)) (x_16 : List (Nat × List UInt8)), i_14_52_0 (0 : Int) x_3 (invN (gd (0 : UInt8) ((gd (Row.no UInt8) ((x_10.set x_3.toNat (gd (Row.no UInt8) x_10 (x_3 + x_7).toNat)).set (x_3 + x_7).toNat (gd (Row.no UInt8) x_10 x_3.toNat)) x_3.toNat).get x_11) x_9.toNat)) ((x_10.set x_3.toNat (gd (Row.no UInt8) x_10 (x_3 + x_7).toNat)).set (x_3 + x_7).toNat (gd (Row.no UInt8) x_10 x_3.toNat)) x_11 x_12 x_13 x_14 x_15 x_16 → (x_12 < (↑((gd (Row.no UInt8) ((x_10.set x_3.toNat (gd (Row.no UInt8) x_10 (x_3 + x_7).toNat)).set (x_3 + x_7).toNat (gd (Row.no UInt8) x_10 x_3.toNat)) x_3.toNat).get x_11).length : Int) → ((0 : Int) ≤ x_13 ∧ x_13 < (↑x_15.length : Int)) ∧ x_13.toNat < x_15.length ∧ ((0 : Int) ≤ x_13 ∧ x_13 < (↑x_15.length : Int)) ∧ x_13.toNat < x_15.length ∧ (gd (Row.no UInt8) x_15 x_13.toNat).ok x_16 ∧ ((0 : Int) ≤ x_12 ∧ x_12 < (↑((gd (Row.no UInt8) x_15 x_13.toNat).get x_16).length : Int)) ∧ (gd (Row.no UInt8) x_15 x_13.toNat).ok x_16 ∧ x_12.toNat < ((gd (Row.no UInt8) x_15 x_13.toNat).get x_16).length ∧ True ∧ (gd (Row.no UInt8) x_15 x_13.toNat).ok x_16 ∧ ((0 : Int) ≤ x_12 ∧ x_12 < (↑((gd (Row.no UInt8) x_15 x_13.toNat).get x_16).length : Int)) ∧ (gd (Row.no UInt8) x_15 x_13.toNat).mine x_16 ∧ x_12.toNat < ((gd (Row.no UInt8) x_15 x_13.toNat).get x_16).length ∧ I64 (x_12 + (1 : Int)) ∧ i_14_52_0 (0 : Int) x_3 (invN (gd (0 : UInt8) ((gd (Row.no UInt8) ((x_10.set x_3.toNat (gd (Row.no UInt8) x_10 (x_3 + x_7).toNat)).set (x_3 + x_7).toNat (gd (Row.no UInt8) x_10 x_3.toNat)) x_3.toNat).get x_11) x_9.toNat)) ((x_10.set x_3.toNat (gd (Row.no UInt8) x_10 (x_3 + x_7).toNat)).set (x_3 + x_7).toNat (gd (Row.no UInt8) x_10 x_3.toNat)) x_11 (x_12 + (1 : Int)) x_13 x_14 x_15 (((gd (Row.no UInt8) x_15 x_13.toNat).id, ((gd (Row.no UInt8) x_15 x_13.toNat).get x_16).set x_12.toNat (gmul (gd (0 : UInt8) ((gd (Row.no UInt8) x_15 x_13.toNat).get x_16) x_12.toNat) x_14)) :: x_16) ∧ ((↑(lkA x_11 (rAt x_15 x_13).id).length : Int) - (x_12 + (1 : Int))).toNat < ((↑(lkA x_11 (rAt x_15 x_13).id).length : Int) - x_12).toNat) ∧ ((↑((gd (Row.no UInt8) ((x_10.set x_3.toNat (gd (Row.no UInt8) x_10 (x_3 + x_7).toNat)).set (x_3 + x_7).toNat (gd (Row.no UInt8) x_10 x_3.toNat)) x_3.toNat).get x_11).length : Int) ≤ x_12 → i_14_34_1 (0 : Int) x x_3 x_15 x_16 (0 : Int) x x_3 x_15 x_16 ∧ ∀ (x_17 x_18 x_19 : Int) (x_20 : List (Row UInt8)) (x_21 : List (Nat × List UInt8)), i_14_34_1 (0 : Int) x x_3 x_15 x_16 x_17 x_18 x_19 x_20 x_21 → (x_17 < (↑x_15.length : Int) → (¬x_17 = x_19 → ((0 : Int) ≤ x_17 ∧ x_17 < (↑x_20.length : Int)) ∧ x_17.toNat < x_20.length ∧ (gd (Row.no UInt8) x_20 x_17.toNat).ok x_21 ∧ ((0 : Int) ≤ x_9 ∧ x_9 < (↑((gd (Row.no UInt8) x_20 x_17.toNat).get x_21).length : Int)) ∧ (gd (Row.no UInt8) x_20 x_17.toNat).ok x_21 ∧ x_9.toNat < ((gd (Row.no UInt8) x_20 x_17.toNat).get x_21).length ∧ ((0 : Int) ≤ x_19 ∧ x_19 < (↑x_20.length : Int)) ∧ x_19.toNat < x_20.length ∧ (gd (Row.no UInt8) x_20 x_19.toNat).ok x_21 ∧ i_14_53_0 (0 : Int) x_17 x_19 (gd (0 : UInt8) ((gd (Row.no UInt8) x_20 x_17.toNat).get x_21) x_9.toNat) x_20 x_21 (0 : Int) x_17 x_19 (gd (0 : UInt8) ((gd (Row.no UInt8) x_20 x_17.toNat).get x_21) x_9.toNat) x_20 x_21 ∧ ∀ (x_22 x_23 x_24 : Int) (x_25 : UInt8) (x_26 : List (Row UInt8)) (x_27 : List (Nat × List UInt8)), i_14_53_0 (0 : Int) x_17 x_19 (gd (0 : UInt8) ((gd (Row.no UInt8) x_20 x_17.toNat).get x_21) x_9.toNat) x_20 x_21 x_22 x_23 x_24 x_25 x_26 x_27 → (x_22 < (↑((gd (Row.no UInt8) x_20 x_19.toNat).get x_21).length : Int) → (gd (Row.no UInt8) x_20 x_19.toNat).ok x_27 ∧ ((0 : Int) ≤ x_22 ∧ x_22 < (↑((gd (Row.no UInt8) x_20 x_19.toNat).get x_27).length : Int)) ∧ (gd (Row.no UInt8) x_20 x_19.toNat).ok x_27 ∧ x_22.toNat < ((gd (Row.no UInt8) x_20 x_19.toNat).get x_27).length ∧ ((0 : Int) ≤ x_23 ∧ x_23 < (↑x_26.length : Int)) ∧ x_23.toNat < x_26.length ∧ (gd (Row.no UInt8) x_26 x_23.toNat).ok x_27 ∧ ((0 : Int) ≤ x_22 ∧ x_22 < (↑((gd (Row.no UInt8) x_26 x_23.toNat).get x_27).length : Int)) ∧ (gd (Row.no UInt8) x_26 x_23.toNat).ok x_27 ∧ x_22.toNat < ((gd (Row.no UInt8) x_26 x_23.toNat).get x_27).length ∧ True ∧ (gd (Row.no UInt8) x_26 x_23.toNat).ok x_27 ∧ ((0 : Int) ≤ x_22 ∧ x_22 < (↑((gd (Row.no UInt8) x_26 x_23.toNat).get x_27).length : Int)) ∧ (gd (Row.no UInt8) x_26 x_23.toNat).mine x_27 ∧ x_22.toNat < ((gd (Row.no UInt8) x_26 x_23.toNat).get x_27).length ∧ I64 (x_22 + (1 : Int)) ∧ i_14_53_0 (0 : Int) x_17 x_19 (gd (0 : UInt8) ((gd (Row.no UInt8) x_20 x_17.toNat).get x_21) x_9.toNat) x_20 x_21 (x_22 + (1 : Int)) x_23 x_24 x_25 x_26 (((gd (Row.no UInt8) x_26 x_23.toNat).id, ((gd (Row.no UInt8) x_26 x_23.toNat).get x_27).set x_22.toNat (gd (0 : UInt8) ((gd (Row.no UInt8) x_26 x_23.toNat).get x_27) x_22.toNat ^^^ gmul x_25 (gd (0 : UInt8) ((gd (Row.no UInt8) x_20 x_19.toNat).get x_27) x_22.toNat))) :: x_27) ∧ ((↑(lkA x_21 (rAt x_26 x_24).id).length : Int) - (x_22 + (1 : Int))).toNat < ((↑(lkA x_21 (rAt x_26 x_24).id).length : Int) - x_22).toNat) ∧ ((↑((gd (Row.no UInt8) x_20 x_19.toNat).get x_21).length : Int) ≤ x_22 → I64 (x_17 + (1 : Int)) ∧ i_14_34_1 (0 : Int) x x_3 x_15 x_16 (x_17 + (1 : Int)) x_18 x_19 x_26 x_27 ∧ ((↑x_26.length : Int) - (x_17 + (1 : Int))).toNat < ((↑x_20.length : Int) - x_17).toNat)) ∧ (x_17 = x_19 → I64 (x_17 + (1 : Int)) ∧ i_14_34_1 (0 : Int) x x_3 x_15 x_16 (x_17 + (1 : Int)) x_18 x_19 x_20 x_21 ∧ ((↑x_20.length : Int) - (x_17 + (1 : Int))).toNat < ((↑x_20.length : Int) - x_17).toNat)) ∧ ((↑x_15.length : Int) ≤ x_17 → I64 (x_19 + (1 : Int)) ∧ (x_19 + (1 : Int) = (↑x_20.length : Int) → (x_19 + (1 : Int), (0 : Int)) = rankL a) ∧ (¬x_19 + (1 : Int) = (↑x_20.length : Int) → I64 (x_18 + (1 : Int)) ∧ i_14_34_0 (0 : Int) (0 : Int) (z14_0 a) x_1 x_2 (x_18 + (1 : Int)) (x_19 + (1 : Int)) x_4 x_20 x_21 ∧ (x_4 - (x_18 + (1 : Int))).toNat < (x_4 - x).toNat))))) ∧ (decide (gd (0 : UInt8) ((gd (Row.no UInt8) x_10 (x_8.fst + x_7.toNat)).get x_11) x_9.toNat ≠ (0 : UInt8)) = false → I64 (x_7 + (1 : Int)) ∧ i_14_50_0 (0 : Int) (x_3.toNat, (↑x_5.length : Int).toNat - x_3.toNat) x x_5 x_6 (x_7 + (1 : Int)) x_8 x_9 x_10 x_11 ∧ ((↑x_8.snd : Int) - (x_7 + (1 : Int))).toNat < ((↑x_8.snd : Int) - x_7).toNat)) ∧ ((↑((↑x_5.length : Int).toNat - x_3.toNat) : Int) ≤ x_7 → I64 (x + (1 : Int)) ∧ i_14_34_0 (0 : Int) (0 : Int) (z14_0 a) x_1 x_2 (x + (1 : Int)) x_3 x_4 x_10 x_11 ∧ (x_4 - (x + (1 : Int))).toNat < (x_4 - x).toNat)) ∧ ((z14_0 a) ≤ x → (x_3, (0 : Int)) = rankL a))) := by
  delta z14_1 z14_0
  unfold rankL
  refine ⟨trivial, fun h => by rw [if_pos h], fun h => ?_⟩
  obtain ⟨h1, h2, h3, h4, h5, h6⟩ := mchk_ok h
  rw [if_neg (by rw [h]; simp)]
  refine ⟨⟨Int.le_refl _, by omega⟩, filled_vc (a.length : Int) ((gd [] a 0).length : Int) (fA a) (fun i k => gd 0 (gd [] a i.toNat) k.toNat) (fun i k => (0 : Int) ≤ i ∧ i < (↑a.length : Int) ∧ (0 : Int) ≤ k ∧ k < (↑(gd [] a i.toNat).length : Int)) _ ⟨by omega, by omega, by omega, by omega⟩ (fun i k q1 q2 q3 q4 => ⟨⟨q1, q2, q3, by have := h6 _ (gd_mem (d := []) (xs := a) (i := i.toNat) (by omega)); omega⟩, rfl⟩) fun K A i hi hF => ⟨⟨Int.le_refl _, by omega⟩, clear_vc ((gd [] a 0).length : Int) K A (fun d _ _ => (d, (0 : Int)) = (((clrL (gd [] a 0).length (fillL a.length (gd [] a 0).length (fA a)) 0 0).2 : Int), 0)) (ClI.start hF hi ⟨by omega, by omega⟩ ⟨by omega, Int.le_refl _, by omega⟩) fun d K2 A2 hd _ he => ?_⟩⟩
  rw [hF.vw hi (by omega), Int.toNat_natCast] at he
  rw [he]
  show (d, (0 : Int)) = ((d.toNat : Int), 0)
  rw [Int.toNat_of_nonneg hd]
def l_14 : PD Tc.dn k_14.ps → List (IL Tc Tc.dn) := fun x => (fun (a : (List (List UInt8))) => ([⟨32, .fn F32 (fun k => bif Nat.beq k 0 then some (.inv [.sl 14 .cInt, .bl 2 .rU8, .ar .cU8] (fun zo zv => (fun (i : Int) (K : (List (Row UInt8))) (A : (List (Nat × List UInt8))) => i_14_32_36_0 a i K A) zv.1 zv.2.1 zv.2.2.1) (fun zo zv => (fun (i : Int) (K : (List (Row UInt8))) (A : (List (Nat × List UInt8))) => ((a.length : Int) - i).toNat) zv.1 zv.2.1 zv.2.2.1)) else bif Nat.beq k 1 then some (.inv [.sl 27 .cInt, .sl 8 .cInt, .bl 2 .rU8, .ar .cU8] (fun zo zv => (fun (k0 : Int) (i0 : Int) (K0 : (List (Row UInt8))) (A0 : (List (Nat × List UInt8))) (k : Int) (i : Int) (K : (List (Row UInt8))) (A : (List (Nat × List UInt8))) => i_14_32_36_1 a k0 i0 K0 A0 k i K A) zo.1 zo.2.1 zo.2.2.1 zo.2.2.2.1 zv.1 zv.2.1 zv.2.2.1 zv.2.2.2.1) (fun zo zv => (fun (k0 : Int) (i0 : Int) (K0 : (List (Row UInt8))) (A0 : (List (Nat × List UInt8))) (k : Int) (i : Int) (K : (List (Row UInt8))) (A : (List (Nat × List UInt8))) => (((gd [] a 0).length : Int) - k).toNat) zo.1 zo.2.1 zo.2.2.1 zo.2.2.2.1 zv.1 zv.2.1 zv.2.2.1 zv.2.2.2.1)) else none), some 36⟩, ⟨50, .fn F50 (fun k => bif Nat.beq k 0 then some (.inv [.sl 8 .cInt, .pt 0 2 1, .ce 3 .cInt, .bl 2 .rU8, .ar .cU8] (fun zo zv => (fun (k0 : Int) (s0 : (Nat × Nat)) (c0 : Int) (K0 : (List (Row UInt8))) (A0 : (List (Nat × List UInt8))) (k : Int) (s : (Nat × Nat)) (c : Int) (K : (List (Row UInt8))) (A : (List (Nat × List UInt8))) => i_14_50_0 k0 s0 c0 K0 A0 k s c K A) zo.1 zo.2.1 zo.2.2.1 zo.2.2.2.1 zo.2.2.2.2.1 zv.1 zv.2.1 zv.2.2.1 zv.2.2.2.1 zv.2.2.2.2.1) (fun zo zv => (fun (k0 : Int) (s0 : (Nat × Nat)) (c0 : Int) (K0 : (List (Row UInt8))) (A0 : (List (Nat × List UInt8))) (k : Int) (s : (Nat × Nat)) (c : Int) (K : (List (Row UInt8))) (A : (List (Nat × List UInt8))) => ((s.2 : Int) - k).toNat) zo.1 zo.2.1 zo.2.2.1 zo.2.2.2.1 zo.2.2.2.2.1 zv.1 zv.2.1 zv.2.2.1 zv.2.2.2.1 zv.2.2.2.2.1)) else none), none⟩, ⟨52, .fn F52 (fun k => bif Nat.beq k 0 then some (.inv [.sl 12 .cInt, .sl 1 .cInt, .sl 2 .cU8, .bl 2 .rU8, .ar .cU8] (fun zo zv => (fun (k0 : Int) (i0 : Int) (f0 : UInt8) (K0 : (List (Row UInt8))) (A0 : (List (Nat × List UInt8))) (k : Int) (i : Int) (f : UInt8) (K : (List (Row UInt8))) (A : (List (Nat × List UInt8))) => i_14_52_0 k0 i0 f0 K0 A0 k i f K A) zo.1 zo.2.1 zo.2.2.1 zo.2.2.2.1 zo.2.2.2.2.1 zv.1 zv.2.1 zv.2.2.1 zv.2.2.2.1 zv.2.2.2.2.1) (fun zo zv => (fun (k0 : Int) (i0 : Int) (f0 : UInt8) (K0 : (List (Row UInt8))) (A0 : (List (Nat × List UInt8))) (k : Int) (i : Int) (f : UInt8) (K : (List (Row UInt8))) (A : (List (Nat × List UInt8))) => ((lkA A0 (rAt K i).id).length - k).toNat) zo.1 zo.2.1 zo.2.2.1 zo.2.2.2.1 zo.2.2.2.2.1 zv.1 zv.2.1 zv.2.2.1 zv.2.2.2.1 zv.2.2.2.2.1)) else none), none⟩, ⟨53, .fn F53 (fun k => bif Nat.beq k 0 then some (.inv [.sl 15 .cInt, .sl 1 .cInt, .sl 2 .cInt, .sl 3 .cU8, .bl 2 .rU8, .ar .cU8] (fun zo zv => (fun (k0 : Int) (t0 : Int) (s0 : Int) (f0 : UInt8) (K0 : (List (Row UInt8))) (A0 : (List (Nat × List UInt8))) (k : Int) (t : Int) (s : Int) (f : UInt8) (K : (List (Row UInt8))) (A : (List (Nat × List UInt8))) => i_14_53_0 k0 t0 s0 f0 K0 A0 k t s f K A) zo.1 zo.2.1 zo.2.2.1 zo.2.2.2.1 zo.2.2.2.2.1 zo.2.2.2.2.2.1 zv.1 zv.2.1 zv.2.2.1 zv.2.2.2.1 zv.2.2.2.2.1 zv.2.2.2.2.2.1) (fun zo zv => (fun (k0 : Int) (t0 : Int) (s0 : Int) (f0 : UInt8) (K0 : (List (Row UInt8))) (A0 : (List (Nat × List UInt8))) (k : Int) (t : Int) (s : Int) (f : UInt8) (K : (List (Row UInt8))) (A : (List (Nat × List UInt8))) => ((lkA A0 (rAt K s).id).length - k).toNat) zo.1 zo.2.1 zo.2.2.1 zo.2.2.2.1 zo.2.2.2.2.1 zo.2.2.2.2.2.1 zv.1 zv.2.1 zv.2.2.1 zv.2.2.2.1 zv.2.2.2.2.1 zv.2.2.2.2.2.1)) else none), none⟩, ⟨34, .fn F34 (fun k => bif Nat.beq k 0 then some (.inv [.sl 12 .cInt, .sl 5 .cInt, .sl 1 .cInt, .bl 2 .rU8, .ar .cU8] (fun zo zv => (fun (c0 : Int) (d0 : Int) (cols0 : Int) (K0 : (List (Row UInt8))) (A0 : (List (Nat × List UInt8))) (c : Int) (d : Int) (cols : Int) (K : (List (Row UInt8))) (A : (List (Nat × List UInt8))) => i_14_34_0 c0 d0 cols0 K0 A0 c d cols K A) zo.1 zo.2.1 zo.2.2.1 zo.2.2.2.1 zo.2.2.2.2.1 zv.1 zv.2.1 zv.2.2.1 zv.2.2.2.1 zv.2.2.2.2.1) (fun zo zv => (fun (c0 : Int) (d0 : Int) (cols0 : Int) (K0 : (List (Row UInt8))) (A0 : (List (Nat × List UInt8))) (c : Int) (d : Int) (cols : Int) (K : (List (Row UInt8))) (A : (List (Nat × List UInt8))) => (cols - c).toNat) zo.1 zo.2.1 zo.2.2.1 zo.2.2.2.1 zo.2.2.2.2.1 zv.1 zv.2.1 zv.2.2.1 zv.2.2.2.1 zv.2.2.2.2.1)) else bif Nat.beq k 1 then some (.inv [.sl 57 .cInt, .sl 12 .cInt, .sl 5 .cInt, .bl 2 .rU8, .ar .cU8] (fun zo zv => (fun (k0 : Int) (c0 : Int) (d0 : Int) (K0 : (List (Row UInt8))) (A0 : (List (Nat × List UInt8))) (k : Int) (c : Int) (d : Int) (K : (List (Row UInt8))) (A : (List (Nat × List UInt8))) => i_14_34_1 k0 c0 d0 K0 A0 k c d K A) zo.1 zo.2.1 zo.2.2.1 zo.2.2.2.1 zo.2.2.2.2.1 zv.1 zv.2.1 zv.2.2.1 zv.2.2.2.1 zv.2.2.2.2.1) (fun zo zv => (fun (k0 : Int) (c0 : Int) (d0 : Int) (K0 : (List (Row UInt8))) (A0 : (List (Nat × List UInt8))) (k : Int) (c : Int) (d : Int) (K : (List (Row UInt8))) (A : (List (Nat × List UInt8))) => ((K.length : Int) - k).toNat) zo.1 zo.2.1 zo.2.2.1 zo.2.2.2.1 zo.2.2.2.2.1 zv.1 zv.2.1 zv.2.2.1 zv.2.2.2.1 zv.2.2.2.2.1)) else none), none⟩])) x.1
theorem l_14_ok : ∀ x, ILs Try.prog tD (l_14 x) := fun _ => ⟨⟨F32_ok, F32_call⟩, ⟨F50_ok, F50_call⟩, ⟨F52_ok, F52_call⟩, ⟨F53_ok, F53_call⟩, ⟨F34_ok, F34_call⟩, trivial⟩
theorem k_14_ok : k_14.Ok Try.prog tD := con_ok tD_ok (Δ := [k_21, k_36, k_43, k_58, k_51]) ⟨k_21_ok, k_36_ok, k_43_ok, k_58_ok, k_51_ok, trivial⟩ (Ω := []) trivial k_14 F14_ok F14_call (l_14) (l_14_ok) 3 (fun x => (fun (a : (List (List UInt8))) => (fun _ => none)) x.1) fun x hp => Eq.mp (by kernel_rfl) (k_14_v x.1)
open Go.RowKit
def fB (a : List (List UInt8)) (n i k : Nat) : UInt8 := if k < n then gd 0 (gd [] a i) k else if k - n = i then 1 else 0
def fI (b : List (List UInt8)) (n i k : Nat) : UInt8 := gd 0 (gd [] b i) (n + k)
def clI (a : List (List UInt8)) : List (List UInt8) × Nat := clrL a.length (fillL a.length (2 * (a.length : Int)) (fB a a.length)) 0 0
def invL (a : List (List UInt8)) : List (List UInt8) × Int :=
  if mchk a ≠ 0 then ([], mchk a) else if a.length ≠ (gd [] a 0).length then ([], 1) else if (clI a).2 < a.length then ([], 5) else (fillL a.length a.length (fI (clI a).1 a.length), 0)
theorem clI_rect {a : List (List UInt8)} (h : 0 < a.length) : Rect a.length (2 * (a.length : Int)).toNat (clI a).1 := by
  have hr : Rect a.length (2 * (a.length : Int)).toNat (fillL a.length (2 * (a.length : Int)) (fB a a.length)) := by
    have := fill_rect (m := (a.length : Int)) (n := 2 * (a.length : Int)) (f := fB a a.length)
    rw [Int.toNat_natCast] at this
    exact this
  exact (clr_law a.length _ 0 0 _ hr (RE.refl a.length _) (ech_start a.length _) h).1
theorem fB_v {a : List (List UInt8)} {i k : Int} (hi : 0 ≤ i) (hk : 0 ≤ k) : ((if k < (a.length : Int) then gd 0 (gd [] a i.toNat) k.toNat else if k - (a.length : Int) = i then 1 else 0) : UInt8) = fB a a.length i.toNat k.toNat := by
  unfold fB
  by_cases h : k < ((a.length : Nat) : Int)
  · have h2 : k.toNat < a.length := by omega
    rw [if_pos h, if_pos h2]
  · have h2 : ¬k.toNat < a.length := by omega
    rw [if_neg h, if_neg h2]
    by_cases h3 : k - (a.length : Int) = i
    · have h4 : k.toNat - a.length = i.toNat := by omega
      rw [if_pos h3, if_pos h4]
    · have h4 : ¬k.toNat - a.length = i.toNat := by omega
      rw [if_neg h3, if_neg h4]
theorem Mt.frz {A : ArL} {K : RwL} {n m : Nat} (h : Mt A K n m) : ∀ r, r ∈ K → r.ok A ∧ r.kd ≠ RK.nil := by
  intro r hr
  obtain ⟨i, hi, rfl⟩ := List.mem_iff_getElem.1 hr
  have e : gd (Row.no UInt8) K i = K[i] := by unfold gd; rw [List.getElem?_eq_getElem hi]; rfl
  have hm := (h.row i (by rw [← h.len]; exact hi)).1
  rw [e] at hm
  exact ⟨Row.mine.ok hm, by rw [hm.1]; intro e; cases e⟩
def k_33 : Con Tc Tc.dn := ⟨33, [.ty .cInt, .ty .cInt, .ptr .cInt, .ptr .llU8], fun x => (fun (i : Int) (k : Int) (n : Int) (a : (List (List UInt8))) => 0 ≤ i ∧ i < a.length ∧ 0 ≤ k ∧ 0 ≤ n ∧ n ≤ 1000 ∧ k ≤ 2000 ∧ n ≤ (gd [] a i.toNat).length) x.1 x.2.1 x.2.2.1 x.2.2.2.1, [.cU8], fun x => (fun (i : Int) (k : Int) (n : Int) (a : (List (List UInt8))) => if k < n then gd 0 (gd [] a i.toNat) k.toNat else if k - n = i then 1 else 0) x.1 x.2.1 x.2.2.1 x.2.2.2.1⟩
theorem k_33_v (i : Int) (k : Int) (n : Int) (a : (List (List UInt8))) (hp : 0 ≤ i ∧ i < a.length ∧ 0 ≤ k ∧ 0 ≤ n ∧ n ≤ 1000 ∧ k ≤ 2000 ∧ n ≤ (gd [] a i.toNat).length) : (k < n → ((0 : Int) ≤ i ∧ i < (↑a.length : Int)) ∧ ((0 : Int) ≤ k ∧ k < (↑(gd [] a i.toNat).length : Int)) ∧ gd (0 : UInt8) (gd [] a i.toNat) k.toNat = if k < n then gd (0 : UInt8) (gd [] a i.toNat) k.toNat else if k - n = i then (1 : UInt8) else (0 : UInt8)) ∧ (n ≤ k → I64 (k - n) ∧ (k - n = i → UInt8.ofNat (Int.toNat (1 : Int)) = if k < n then gd (0 : UInt8) (gd [] a i.toNat) k.toNat else if k - n = i then (1 : UInt8) else (0 : UInt8)) ∧ (¬k - n = i → UInt8.ofNat (Int.toNat (0 : Int)) = if k < n then gd (0 : UInt8) (gd [] a i.toNat) k.toNat else if k - n = i then (1 : UInt8) else (0 : UInt8))) := by
  (repeat' (first | apply And.intro | intro _)) <;> first | assumption | trivial | omega | (grind [I64]) | trace_state
theorem k_33_ok : k_33.Ok Try.prog tD := con_ok tD_ok (Δ := []) trivial (Ω := []) trivial k_33 F33_ok F33_call (fun _ => []) (fun _ => trivial) 0 (fun x => (fun (i : Int) (k : Int) (n : Int) (a : (List (List UInt8))) => (fun _ => none)) x.1 x.2.1 x.2.2.1 x.2.2.2.1) fun x hp => Eq.mp (by kernel_rfl) (k_33_v x.1 x.2.1 x.2.2.1 x.2.2.2.1 hp)
def k_35 : Con Tc Tc.dn := ⟨35, [.ty .cInt, .ty .cInt, .ptr .llU8, .ptr .cInt], fun x => (fun (i : Int) (k : Int) (b : (List (List UInt8))) (n : Int) => 0 ≤ i ∧ i < b.length ∧ 0 ≤ k ∧ 0 ≤ n ∧ n ≤ 1000 ∧ n + k < (gd [] b i.toNat).length ∧ k ≤ 1000) x.1 x.2.1 x.2.2.1 x.2.2.2.1, [.cU8], fun x => (fun (i : Int) (k : Int) (b : (List (List UInt8))) (n : Int) => gd 0 (gd [] b i.toNat) (n + k).toNat) x.1 x.2.1 x.2.2.1 x.2.2.2.1⟩
theorem k_35_v (i : Int) (k : Int) (b : (List (List UInt8))) (n : Int) (hp : 0 ≤ i ∧ i < b.length ∧ 0 ≤ k ∧ 0 ≤ n ∧ n ≤ 1000 ∧ n + k < (gd [] b i.toNat).length ∧ k ≤ 1000) : ((0 : Int) ≤ i ∧ i < (↑b.length : Int)) ∧ I64 (n + k) ∧ ((0 : Int) ≤ n + k ∧ n + k < (↑(gd [] b i.toNat).length : Int)) ∧ gd (0 : UInt8) (gd [] b i.toNat) (n + k).toNat = gd (0 : UInt8) (gd [] b i.toNat) (n + k).toNat := by
  (repeat' (first | apply And.intro | intro _)) <;> first | assumption | trivial | omega | (grind [I64]) | trace_state
theorem k_35_ok : k_35.Ok Try.prog tD := con_ok tD_ok (Δ := []) trivial (Ω := []) trivial k_35 F35_ok F35_call (fun _ => []) (fun _ => trivial) 0 (fun x => (fun (i : Int) (k : Int) (b : (List (List UInt8))) (n : Int) => (fun _ => none)) x.1 x.2.1 x.2.2.1 x.2.2.2.1) fun x hp => Eq.mp (by kernel_rfl) (k_35_v x.1 x.2.1 x.2.2.1 x.2.2.2.1 hp)
def i_32_35_1 (n : Int) (b : (List (List UInt8))) (q : Int) (k0 : Int) (i0 : Int) (K0 : (List (Row UInt8))) (A0 : (List (Nat × List UInt8))) (k : Int) (i : Int) (K : (List (Row UInt8))) (A : (List (Nat × List UInt8))) : Prop := 0 ≤ k ∧ k ≤ n ∧ K = K0 ∧ i = i0 ∧ FillR A0 A (gd (Row.no UInt8) K i.toNat) k n (fI b q.toNat i.toNat)
def i_32_35_0 (m : Int) (n : Int) (b : (List (List UInt8))) (q : Int) (i : Int) (K : (List (Row UInt8))) (A : (List (Nat × List UInt8))) : Prop := 0 ≤ i ∧ i ≤ m ∧ FillI A K i m n (fI b q.toNat)
def k_32_35 : Con Tc Tc.dn := ⟨32, [.ty .cInt, .ty .cInt, .fnc 35 [(true, .llU8), (true, .cInt)]], fun x => (fun (m : Int) (n : Int) (b : (List (List UInt8))) (q : Int) => 0 ≤ m ∧ m ≤ 64 ∧ 0 ≤ n ∧ n ≤ 64 ∧ 0 ≤ q ∧ q ≤ 64 ∧ m ≤ b.length ∧ ∀ r, r ∈ b → q + n ≤ r.length) x.1 x.2.1 x.2.2.1.1 x.2.2.1.2.1, [.llU8], fun x => (fun (m : Int) (n : Int) (b : (List (List UInt8))) (q : Int) => fillL m n (fI b q.toNat)) x.1 x.2.1 x.2.2.1.1 x.2.2.1.2.1⟩
abbrev z32_35_0 (n : Int) := (List.replicate n.toNat (UInt8.ofNat (Int.toNat (0 : Int))))
theorem k_32_35_v (m : Int) (n : Int) (b : (List (List UInt8))) (q : Int) (hp : 0 ≤ m ∧ m ≤ 64 ∧ 0 ≤ n ∧ n ≤ 64 ∧ 0 ≤ q ∧ q ≤ 64 ∧ m ≤ b.length ∧ ∀ r, r ∈ b → q + n ≤ r.length) : ((0 : Int) ≤ m ∧ m ≤ m ∧ m * (↑(24 : Nat) : Int) ≤ (140737488355328 : Int)) ∧ i_32_35_0 m n b q (0 : Int) (List.replicate m.toNat (Row.no UInt8)) [] ∧ ∀ (x : Int) (x_1 : List (Row UInt8)) (x_2 : List (Nat × List UInt8)), i_32_35_0 m n b q x x_1 x_2 → (x < (↑(List.replicate m.toNat (Row.no UInt8)).length : Int) → ((0 : Int) ≤ n ∧ n ≤ n ∧ n * (↑(1 : Nat) : Int) ≤ (140737488355328 : Int)) ∧ ((0 : Int) ≤ x ∧ x < (↑x_1.length : Int)) ∧ ∀ (id : Nat), ¬hasA x_2 id → x.toNat < x_1.length ∧ ((0 : Int) ≤ x ∧ x < (↑(x_1.set x.toNat (Row.at UInt8 id (z32_35_0 n).length)).length : Int)) ∧ x.toNat < (x_1.set x.toNat (Row.at UInt8 id (z32_35_0 n).length)).length ∧ (gd (Row.no UInt8) (x_1.set x.toNat (Row.at UInt8 id (z32_35_0 n).length)) x.toNat).ok ((id, List.replicate n.toNat (UInt8.ofNat (Int.toNat (0 : Int)))) :: x_2) ∧ i_32_35_1 n b q (0 : Int) x (x_1.set x.toNat (Row.at UInt8 id (z32_35_0 n).length)) ((id, List.replicate n.toNat (UInt8.ofNat (Int.toNat (0 : Int)))) :: x_2) (0 : Int) x (x_1.set x.toNat (Row.at UInt8 id (z32_35_0 n).length)) ((id, List.replicate n.toNat (UInt8.ofNat (Int.toNat (0 : Int)))) :: x_2) ∧ ∀ (x_3 x_4 : Int) (x_5 : List (Row UInt8)) (x_6 : List (Nat × List UInt8)), i_32_35_1 n b q (0 : Int) x (x_1.set x.toNat (Row.at UInt8 id (z32_35_0 n).length)) ((id, List.replicate n.toNat (UInt8.ofNat (Int.toNat (0 : Int)))) :: x_2) x_3 x_4 x_5 x_6 → (x_3 < (↑((gd (Row.no UInt8) (x_1.set x.toNat (Row.at UInt8 id (z32_35_0 n).length)) x.toNat).get ((id, List.replicate n.toNat (UInt8.ofNat (Int.toNat (0 : Int)))) :: x_2)).length : Int) → ((0 : Int) ≤ x_4 ∧ x_4 < (↑x_5.length : Int)) ∧ x_4.toNat < x_5.length ∧ ((0 : Int) ≤ x_4 ∧ x_4 < (↑b.length : Int) ∧ (0 : Int) ≤ x_3 ∧ (0 : Int) ≤ q ∧ q ≤ (1000 : Int) ∧ q + x_3 < (↑(gd [] b x_4.toNat).length : Int) ∧ x_3 ≤ (1000 : Int)) ∧ (gd (Row.no UInt8) x_5 x_4.toNat).ok x_6 ∧ ((0 : Int) ≤ x_3 ∧ x_3 < (↑((gd (Row.no UInt8) x_5 x_4.toNat).get x_6).length : Int)) ∧ (gd (Row.no UInt8) x_5 x_4.toNat).mine x_6 ∧ x_3.toNat < ((gd (Row.no UInt8) x_5 x_4.toNat).get x_6).length ∧ I64 (x_3 + (1 : Int)) ∧ i_32_35_1 n b q (0 : Int) x (x_1.set x.toNat (Row.at UInt8 id (z32_35_0 n).length)) ((id, List.replicate n.toNat (UInt8.ofNat (Int.toNat (0 : Int)))) :: x_2) (x_3 + (1 : Int)) x_4 x_5 (((gd (Row.no UInt8) x_5 x_4.toNat).id, ((gd (Row.no UInt8) x_5 x_4.toNat).get x_6).set x_3.toNat (gd (0 : UInt8) (gd [] b x_4.toNat) (q + x_3).toNat)) :: x_6) ∧ (n - (x_3 + (1 : Int))).toNat < (n - x_3).toNat) ∧ ((↑((gd (Row.no UInt8) (x_1.set x.toNat (Row.at UInt8 id (z32_35_0 n).length)) x.toNat).get ((id, List.replicate n.toNat (UInt8.ofNat (Int.toNat (0 : Int)))) :: x_2)).length : Int) ≤ x_3 → I64 (x + (1 : Int)) ∧ i_32_35_0 m n b q (x + (1 : Int)) x_5 x_6 ∧ (m - (x + (1 : Int))).toNat < (m - x).toNat)) ∧ ((↑(List.replicate m.toNat (Row.no UInt8)).length : Int) ≤ x → (∀ (x : Row UInt8), x ∈ x_1 → x.ok x_2 ∧ x.kd ≠ RK.nil) ∧ List.map (fun x => x.get x_2) x_1 = fillL m n (fI b q.toNat)) := by
  delta z32_35_0
  exact filled_vc m n (fI b q.toNat) (fun i k => gd 0 (gd [] b i.toNat) (q + k).toNat) (fun i k => (0 : Int) ≤ i ∧ i < (↑b.length : Int) ∧ (0 : Int) ≤ k ∧ (0 : Int) ≤ q ∧ q ≤ (1000 : Int) ∧ q + k < (↑(gd [] b i.toNat).length : Int) ∧ k ≤ (1000 : Int)) _ ⟨hp.1, hp.2.1, hp.2.2.1, hp.2.2.2.1⟩ (fun i k h1 h2 h3 h4 => ⟨⟨h1, by omega, h3, by omega, by omega, by have := hp.2.2.2.2.2.2.2 _ (gd_mem (d := []) (xs := b) (i := i.toNat) (by omega)); omega, by omega⟩, by unfold fI; rw [show (q + k).toNat = q.toNat + k.toNat by omega]⟩) fun K A i hi h => h.fin hi hp.1
theorem k_32_35_ok : k_32_35.Ok Try.prog tD := con_ok tD_ok (Δ := [k_35]) ⟨k_35_ok, trivial⟩ (Ω := []) trivial k_32_35 F32_ok F32_call (fun _ => []) (fun _ => trivial) 0 (fun x => (fun (m : Int) (n : Int) (b : (List (List UInt8))) (q : Int) => (fun k => bif Nat.beq k 0 then some (.inv [.sl 14 .cInt, .bl 1 .rU8, .ar .cU8] (fun zo zv => (fun (i : Int) (K : (List (Row UInt8))) (A : (List (Nat × List UInt8))) => i_32_35_0 m n b q i K A) zv.1 zv.2.1 zv.2.2.1) (fun zo zv => (fun (i : Int) (K : (List (Row UInt8))) (A : (List (Nat × List UInt8))) => (m - i).toNat) zv.1 zv.2.1 zv.2.2.1)) else bif Nat.beq k 1 then some (.inv [.sl 27 .cInt, .sl 8 .cInt, .bl 1 .rU8, .ar .cU8] (fun zo zv => (fun (k0 : Int) (i0 : Int) (K0 : (List (Row UInt8))) (A0 : (List (Nat × List UInt8))) (k : Int) (i : Int) (K : (List (Row UInt8))) (A : (List (Nat × List UInt8))) => i_32_35_1 n b q k0 i0 K0 A0 k i K A) zo.1 zo.2.1 zo.2.2.1 zo.2.2.2.1 zv.1 zv.2.1 zv.2.2.1 zv.2.2.2.1) (fun zo zv => (fun (k0 : Int) (i0 : Int) (K0 : (List (Row UInt8))) (A0 : (List (Nat × List UInt8))) (k : Int) (i : Int) (K : (List (Row UInt8))) (A : (List (Nat × List UInt8))) => (n - k).toNat) zo.1 zo.2.1 zo.2.2.1 zo.2.2.2.1 zv.1 zv.2.1 zv.2.2.1 zv.2.2.2.1)) else none)) x.1 x.2.1 x.2.2.1.1 x.2.2.1.2.1) fun x hp => Eq.mp (by kernel_rfl) (k_32_35_v x.1 x.2.1 x.2.2.1.1 x.2.2.1.2.1 hp)
def i_13_32_33_1 (a : (List (List UInt8))) (k0 : Int) (i0 : Int) (K0 : (List (Row UInt8))) (A0 : (List (Nat × List UInt8))) (k : Int) (i : Int) (K : (List (Row UInt8))) (A : (List (Nat × List UInt8))) : Prop := 0 ≤ k ∧ k ≤ (2 * (a.length : Int)) ∧ K = K0 ∧ i = i0 ∧ FillR A0 A (gd (Row.no UInt8) K i.toNat) k (2 * (a.length : Int)) (fB a a.length i.toNat)
def i_13_32_33_0 (a : (List (List UInt8))) (i : Int) (K : (List (Row UInt8))) (A : (List (Nat × List UInt8))) : Prop := 0 ≤ i ∧ i ≤ (a.length : Int) ∧ FillI A K i (a.length : Int) (2 * (a.length : Int)) (fB a a.length)
def i_13_50_0 (k0 : Int) (s0 : (Nat × Nat)) (c0 : Int) (K0 : (List (Row UInt8))) (A0 : (List (Nat × List UInt8))) (k : Int) (s : (Nat × Nat)) (c : Int) (K : (List (Row UInt8))) (A : (List (Nat × List UInt8))) : Prop := IxI k0 s0 c0 K0 A0 k s c K A
def i_13_52_0 (k0 : Int) (i0 : Int) (f0 : UInt8) (K0 : (List (Row UInt8))) (A0 : (List (Nat × List UInt8))) (k : Int) (i : Int) (f : UInt8) (K : (List (Row UInt8))) (A : (List (Nat × List UInt8))) : Prop := ScI k0 i0 f0 K0 A0 k i f K A
def i_13_53_0 (k0 : Int) (t0 : Int) (s0 : Int) (f0 : UInt8) (K0 : (List (Row UInt8))) (A0 : (List (Nat × List UInt8))) (k : Int) (t : Int) (s : Int) (f : UInt8) (K : (List (Row UInt8))) (A : (List (Nat × List UInt8))) : Prop := AdI k0 t0 s0 f0 K0 A0 k t s f K A
def i_13_34_1 (k0 : Int) (c0 : Int) (d0 : Int) (K0 : (List (Row UInt8))) (A0 : (List (Nat × List UInt8))) (k : Int) (c : Int) (d : Int) (K : (List (Row UInt8))) (A : (List (Nat × List UInt8))) : Prop := OfI k0 c0 d0 K0 A0 k c d K A
def i_13_34_0 (c0 : Int) (d0 : Int) (cols0 : Int) (K0 : (List (Row UInt8))) (A0 : (List (Nat × List UInt8))) (c : Int) (d : Int) (cols : Int) (K : (List (Row UInt8))) (A : (List (Nat × List UInt8))) : Prop := ClI c0 d0 cols0 K0 A0 c d cols K A
def k_13 : Con Tc Tc.dn := ⟨13, [.ty .llU8], fun x => (fun (a : (List (List UInt8))) => True) x.1, [.llU8, .cInt], fun x => (fun (a : (List (List UInt8))) => invL a) x.1⟩
abbrev z13_0 (a : (List (List UInt8))) := (List.replicate ((2 : Int) * (↑a.length : Int)).toNat (UInt8.ofNat (Int.toNat (0 : Int))))
theorem k_13_v (a : (List (List UInt8))) : True ∧ (¬mchk a = (0 : Int) → ([], mchk a) = invL a) ∧ (mchk a = (0 : Int) → ((0 : Int) ≤ (0 : Int) ∧ (0 : Int) < (↑a.length : Int)) ∧ (¬(↑a.length : Int) = (↑(gd [] a (Int.toNat (0 : Int))).length : Int) → ([], (1 : Int)) = invL a) ∧ ((↑a.length : Int) = (↑(gd [] a (Int.toNat (0 : Int))).length : Int) → I64 ((2 : Int) * (↑a.length : Int)) ∧ ((0 : Int) ≤ (↑a.length : Int) ∧ (↑a.length : Int) ≤ (↑a.length : Int) ∧ (↑a.length : Int) * (↑(24 : Nat) : Int) ≤ (140737488355328 : Int)) ∧ i_13_32_33_0 a (0 : Int) (List.replicate (↑a.length : Int).toNat (Row.no UInt8)) [] ∧ ∀ (x : Int) (x_1 : List (Row UInt8)) (x_2 : List (Nat × List UInt8)), i_13_32_33_0 a x x_1 x_2 → (x < (↑(List.replicate (↑a.length : Int).toNat (Row.no UInt8)).length : Int) → ((0 : Int) ≤ (2 : Int) * (↑a.length : Int) ∧ (2 : Int) * (↑a.length : Int) ≤ (2 : Int) * (↑a.length : Int) ∧ (2 : Int) * (↑a.length : Int) * (↑(1 : Nat) : Int) ≤ (140737488355328 : Int)) ∧ ((0 : Int) ≤ x ∧ x < (↑x_1.length : Int)) ∧ ∀ (id : Nat), ¬hasA x_2 id → x.toNat < x_1.length ∧ ((0 : Int) ≤ x ∧ x < (↑(x_1.set x.toNat (Row.at UInt8 id (z13_0 a).length)).length : Int)) ∧ x.toNat < (x_1.set x.toNat (Row.at UInt8 id (z13_0 a).length)).length ∧ (gd (Row.no UInt8) (x_1.set x.toNat (Row.at UInt8 id (z13_0 a).length)) x.toNat).ok ((id, List.replicate ((2 : Int) * (↑a.length : Int)).toNat (UInt8.ofNat (Int.toNat (0 : Int)))) :: x_2) ∧ i_13_32_33_1 a (0 : Int) x (x_1.set x.toNat (Row.at UInt8 id (z13_0 a).length)) ((id, List.replicate ((2 : Int) * (↑a.length : Int)).toNat (UInt8.ofNat (Int.toNat (0 : Int)))) :: x_2) (0 : Int) x (x_1.set x.toNat (Row.at UInt8 id (z13_0 a).length)) ((id, List.replicate ((2 : Int) * (↑a.length : Int)).toNat (UInt8.ofNat (Int.toNat (0 : Int)))) :: x_2) ∧ ∀ (x_3 x_4 : Int) (x_5 : List (Row UInt8)) (x_6 : List (Nat × List UInt8)), i_13_32_33_1 a (0 : Int) x (x_1.set x.toNat (Row.at UInt8 id (z13_0 a).length)) ((id, List.replicate ((2 : Int) * (↑a.length : Int)).toNat (UInt8.ofNat (Int.toNat (0 : Int)))) :: x_2) x_3 x_4 x_5 x_6 → (x_3 < (↑((gd (Row.no UInt8) (x_1.set x.toNat (Row.at UInt8 id (z13_0 a).length)) x.toNat).get ((id, List.replicate ((2 : Int) * (↑a.length : Int)).toNat (UInt8.ofNat (Int.toNat (0 : Int)))) :: x_2)).length : Int) → ((0 : Int) ≤ x_4 ∧ x_4 < (↑x_5.length : Int)) ∧ x_4.toNat < x_5.length ∧ ((0 : Int) ≤ x_4 ∧ x_4 < (↑a.length : Int) ∧ (0 : Int) ≤ x_3 ∧ (0 : Int) ≤ (↑a.length : Int) ∧ (↑a.length : Int) ≤ (1000 : Int) ∧ x_3 ≤ (2000 : Int) ∧ (↑a.length : Int) ≤ (↑(gd [] a x_4.toNat).length : Int)) ∧ (gd (Row.no UInt8) x_5 x_4.toNat).ok x_6 ∧ ((0 : Int) ≤ x_3 ∧ x_3 < (↑((gd (Row.no UInt8) x_5 x_4.toNat).get x_6).length : Int)) ∧ (gd (Row.no UInt8) x_5 x_4.toNat).mine x_6 ∧ x_3.toNat < ((gd (Row.no UInt8) x_5 x_4.toNat).get x_6).length ∧ I64 (x_3 + (1 : Int)) ∧ i_13_32_33_1 a (0 : Int) x (x_1.set x.toNat (Row.at UInt8 id (z13_0 a).length)) ((id, List.replicate ((2 : Int) * (↑a.length : Int)).toNat (UInt8.ofNat (Int.toNat (0 : Int)))) :: x_2) (x_3 + (1 : Int)) x_4 x_5 (((gd (Row.no UInt8) x_5 x_4.toNat).id, ((gd (Row.no UInt8) x_5 x_4.toNat).get x_6).set x_3.toNat (if x_3 < (↑a.length : Int) then gd (0 : UInt8) (gd [] a x_4.toNat) x_3.toNat else if x_3 - (↑a.length : Int) = x_4 then (1 : UInt8) else (0 : UInt8))) :: x_6) ∧ ((2 : Int) * (↑a.length : Int) - (x_3 + (1 : Int))).toNat < ((2 : Int) * (↑a.length : Int) - x_3).toNat) ∧ ((↑((gd (Row.no UInt8) (x_1.set x.toNat (Row.at UInt8 id (z13_0 a).length)) x.toNat).get ((id, List.replicate ((2 : Int) * (↑a.length : Int)).toNat (UInt8.ofNat (Int.toNat (0 : Int)))) :: x_2)).length : Int) ≤ x_3 → I64 (x + (1 : Int)) ∧ i_13_32_33_0 a (x + (1 : Int)) x_5 x_6 ∧ ((↑a.length : Int) - (x + (1 : Int))).toNat < ((↑a.length : Int) - x).toNat)) ∧ ((↑(List.replicate (↑a.length : Int).toNat (Row.no UInt8)).length : Int) ≤ x → i_13_34_0 (0 : Int) (0 : Int) (↑a.length : Int) x_1 x_2 (0 : Int) (0 : Int) (↑a.length : Int) x_1 x_2 ∧ ∀ (x x_3 x_4 : Int) (x_5 : List (Row UInt8)) (x_6 : List (Nat × List UInt8)), i_13_34_0 (0 : Int) (0 : Int) (↑a.length : Int) x_1 x_2 x x_3 x_4 x_5 x_6 → (x < (↑a.length : Int) → ((0 : Int) ≤ x_3 ∧ x_3 ≤ (↑x_5.length : Int)) ∧ i_13_50_0 (0 : Int) (x_3.toNat, (↑x_5.length : Int).toNat - x_3.toNat) x x_5 x_6 (0 : Int) (x_3.toNat, (↑x_5.length : Int).toNat - x_3.toNat) x x_5 x_6 ∧ ∀ (x_7 : Int) (x_8 : Nat × Nat) (x_9 : Int) (x_10 : List (Row UInt8)) (x_11 : List (Nat × List UInt8)), i_13_50_0 (0 : Int) (x_3.toNat, (↑x_5.length : Int).toNat - x_3.toNat) x x_5 x_6 x_7 x_8 x_9 x_10 x_11 → (x_7 < (↑((↑x_5.length : Int).toNat - x_3.toNat) : Int) → ((0 : Int) ≤ x_7 ∧ x_7 < (↑x_8.snd : Int)) ∧ x_8.fst + x_7.toNat < x_10.length ∧ (gd (Row.no UInt8) x_10 (x_8.fst + x_7.toNat)).ok x_11 ∧ (gd (Row.no UInt8) x_10 (x_8.fst + x_7.toNat)).kd ≠ RK.nil ∧ ((0 : Int) ≤ x_9 ∧ x_9 < (↑((gd (Row.no UInt8) x_10 (x_8.fst + x_7.toNat)).get x_11).length : Int)) ∧ (decide (gd (0 : UInt8) ((gd (Row.no UInt8) x_10 (x_8.fst + x_7.toNat)).get x_11) x_9.toNat ≠ (0 : UInt8)) = true → (x_7 < (0 : Int) → I64 (x + (1 : Int)) ∧ i_13_34_0 (0 : Int) (0 : Int) (↑a.length : Int) x_1 x_2 (x + (1 : Int)) x_3 x_4 x_10 x_11 ∧ (x_4 - (x + (1 : Int))).toNat < (x_4 - x).toNat) ∧ ((0 : Int) ≤ x_7 → I64 (x_3 + x_7) ∧ I64 (x_3 + x_7) ∧ ((0 : Int) ≤ x_3 + x_7 ∧ x_3 + x_7 < (↑x_10.length : Int)) ∧ (x_3 + x_7).toNat < x_10.length ∧ ((0 : Int) ≤ x_3 ∧ x_3 < (↑x_10.length : Int)) ∧ x_3.toNat < x_10.length ∧ ((0 : Int) ≤ x_3 ∧ x_3 < (↑x_10.length : Int)) ∧ x_3.toNat < x_10.length ∧ ((0 : Int) ≤ x_3 + x_7 ∧ x_3 + x_7 < (↑(x_10.set x_3.toNat (gd (Row.no UInt8) x_10 (x_3 + x_7).toNat)).length : Int)) ∧ (x_3 + x_7).toNat < (x_10.set x_3.toNat (gd (Row.no UInt8) x_10 (x_3 + x_7).toNat)).length ∧ ((0 : Int) ≤ x_3 ∧ x_3 < (↑((x_10.set x_3.toNat (gd (Row.no UInt8) x_10 (x_3 + x_7).toNat)).set (x_3 + x_7).toNat (gd (Row.no UInt8) x_10 x_3.toNat)).length : Int)) ∧ x_3.toNat < ((x_10.set x_3.toNat (gd (Row.no UInt8) x_10 (x_3 + x_7).toNat)).set (x_3 + x_7).toNat (gd (Row.no UInt8) x_10 x_3.toNat)).length ∧ (gd (Row.no UInt8) ((x_10.set x_3.toNat (gd (Row.no UInt8) x_10 (x_3 + x_7).toNat)).set (x_3 + x_7).toNat (gd (Row.no UInt8) x_10 x_3.toNat)) x_3.toNat).ok x_11 ∧ ((0 : Int) ≤ x_9 ∧ x_9 < (↑((gd (Row.no UInt8) ((x_10.set x_3.toNat (gd (Row.no UInt8) x_10 (x_3 + x_7).toNat)).set (x_3 + x_7).toNat (gd (Row.no UInt8) x_10 x_3.toNat)) x_3.toNat).get x_11).length : Int)) ∧ (gd (Row.no UInt8) ((x_10.set x_3.toNat (gd (Row.no UInt8) x_10 (x_3 + x_7).toNat)).set (x_3 + x_7).toNat (gd (Row.no UInt8) x_10 x_3.toNat)) x_3.toNat).ok x_11 ∧ x_9.toNat < ((gd (Row.no UInt8) ((x_10.set x_3.toNat (gd (Row.no UInt8) x_10 (x_3 + x_7).toNat)).set (x_3 + x_7).toNat (gd (Row.no UInt8) x_10 x_3.toNat)) x_3.toNat).get x_11).length ∧ True ∧ ((0 : Int) ≤ x_3 ∧ x_3 < (↑((x_10.set x_3.toNat (gd (Row.no UInt8) x_10 (x_3 + x_7).toNat)).set (x_3 + x_7).toNat (gd (Row.no UInt8) x_10 x_3.toNat)).length : Int)) ∧ x_3.toNat < ((x_10.set x_3.toNat (gd (Row.no UInt8) x_10 (x_3 + x_7).toNat)).set (x_3 + x_7).toNat (gd (Row.no UInt8) x_10 x_3.toNat)).length ∧ (gd (Row.no UInt8) ((x_10.set x_3.toNat (gd (Row.no UInt8) x_10 (x_3 + x_7).toNat)).set (x_3 + x_7).toNat (gd (Row.no UInt8) x_10 x_3.toNat)) x_3.toNat).ok x_11 ∧ i_13_52_0 (0 : Int) x_3 (invN (gd (0 : UInt8) ((gd (Row.no UInt8) ((x_10.set x_3.toNat (gd (Row.no UInt8) x_10 (x_3 + x_7).toNat)).set (x_3 + x_7).toNat (gd (Row.no UInt8) x_10 x_3.toNat)) x_3.toNat).get x_11) x_9.toNat)) ((x_10.set x_3.toNat (gd (Row.no UInt8) x_10 (x_3 + x_7).toNat)).set (x_3 + x_7).toNat (gd (Row.no UInt8) x_10 x_3.toNat)) x_11 (0 : Int) x_3 (invN (gd (0 : UInt8) ((gd (Row.no UInt8) ((x_10.set x_3.toNat (gd (Row.no UInt8) x_10 (x_3 + x_7).toNat)).set (x_3 + x_7).toNat (gd (Row.no UInt8) x_10 x_3.toNat)) x_3.toNat).get x_11) x_9.toNat)) ((x_10.set x_3.toNat (gd (Row.no UInt8) x_10 (x_3 + x_7).toNat)).set (x_3 + x_7).toNat (gd (Row.no UInt8) x_10 x_3.toNat)) x_11 ∧ ∀ (x_12 x_13 : Int) (x_14 : UInt8) (x_15 : List (Row UInt8)) (x_16 : List (Nat × List UInt8)), i_13_52_0 (0 : Int) x_3 (invN (gd (0 : UInt8) ((gd (Row.no UInt8) ((x_10.set x_3.toNat (gd (Row.no UInt8) x_10 (x_3 + x_7).toNat)).set (x_3 + x_7).toNat (gd (Row.no UInt8) x_10 x_3.toNat)) x_3.toNat).get x_11) x_9.toNat)) ((x_10.set x_3.toNat (gd (Row.no UInt8) x_10 (x_3 + x_7).toNat)).set (x_3 + x_7).toNat (gd (Row.no UInt8) x_10 x_3.toNat)) x_11 x_12 x_13 x_14 x_15 x_16 → (x_12 < (↑((gd (Row.no UInt8) ((x_10.set x_3.toNat (gd (Row.no UInt8) x_10 (x_3 + x_7).toNat)).set (x_3 + x_7).toNat (gd (Row.no UInt8) x_10 x_3.toNat)) x_3.toNat).get x_11).length : Int) → ((0 : Int) ≤ x_13 ∧ x_13 < (↑x_15.length : Int)) ∧ x_13.toNat < x_15.length ∧ ((0 : Int) ≤ x_13 ∧ x_13 < (↑x_15.length : Int)) ∧ x_13.toNat < x_15.length ∧ (gd (Row.no UInt8) x_15 x_13.toNat).ok x_16 ∧ ((0 : Int) ≤ x_12 ∧ x_12 < (↑((gd (Row.no UInt8) x_15 x_13.toNat).get x_16).length : Int)) ∧ (gd (Row.no UInt8) x_15 x_13.toNat).ok x_16 ∧ x_12.toNat < ((gd (Row.no UInt8) x_15 x_13.toNat).get x_16).length ∧ True ∧ (gd (Row.no UInt8) x_15 x_13.toNat).ok x_16 ∧ ((0 : Int) ≤ x_12 ∧ x_12 < (↑((gd (Row.no UInt8) x_15 x_13.toNat).get x_16).length : Int)) ∧ (gd (Row.no UInt8) x_15 x_13.toNat).mine x_16 ∧ x_12.toNat < ((gd (Row.no UInt8) x_15 x_13.toNat).get x_16).length ∧ I64 (x_12 + (1 : Int)) ∧ i_13_52_0 (0 : Int) x_3 (invN (gd (0 : UInt8) ((gd (Row.no UInt8) ((x_10.set x_3.toNat (gd (Row.no UInt8) x_10 (x_3 + x_7).toNat)).set (x_3 + x_7).toNat (gd (Row.no UInt8) x_10 x_3.toNat)) x_3.toNat).get x_11) x_9.toNat)) ((x_10.set x_3.toNat (gd (Row.no UInt8) x_10 (x_3 + x_7).toNat)).set (x_3 + x_7).toNat (gd (Row.no UInt8) x_10 x_3.toNat)) x_11 (x_12 + (1 : Int)) x_13 x_14 x_15 (((gd (Row.no UInt8) x_15 x_13.toNat).id, ((gd (Row.no UInt8) x_15 x_13.toNat).get x_16).set x_12.toNat (gmul (gd (0 : UInt8) ((gd (Row.no UInt8) x_15 x_13.toNat).get x_16) x_12.toNat) x_14)) :: x_16) ∧ ((↑(lkA x_11 (rAt x_15 x_13).id).length : Int) - (x_12 + (1 : Int))).toNat < ((↑(lkA x_11 (rAt x_15 x_13).id).length : Int) - x_12).toNat) ∧ ((↑((gd (Row.no UInt8) ((x_10.set x_3.toNat (gd (Row.no UInt8) x_10 (x_3 + x_7).toNat)).set (x_3 + x_7).toNat (gd (Row.no UInt8) x_10 x_3.toNat)) x_3.toNat).get x_11).length : Int) ≤ x_12 → i_13_34_1 (0 : Int) x x_3 x_15 x_16 (0 : Int) x x_3 x_15 x_16 ∧ ∀ (x_17 x_18 x_19 : Int) (x_20 : List (Row UInt8)) (x_21 : List (Nat × List UInt8)), i_13_34_1 (0 : Int) x x_3 x_15 x_16 x_17 x_18 x_19 x_20 x_21 → (x_17 < (↑x_15.length : Int) → (¬x_17 = x_19 → ((0 : Int) ≤ x_17 ∧ x_17 < (↑x_20.length : Int)) ∧ x_17.toNat < x_20.length ∧ (gd (Row.no UInt8) x_20 x_17.toNat).ok x_21 ∧ ((0 : Int) ≤ x_9 ∧ x_9 < (↑((gd (Row.no UInt8) x_20 x_17.toNat).get x_21).length : Int)) ∧ (gd (Row.no UInt8) x_20 x_17.toNat).ok x_21 ∧ x_9.toNat < ((gd (Row.no UInt8) x_20 x_17.toNat).get x_21).length ∧ ((0 : Int) ≤ x_19 ∧ x_19 < (↑x_20.length : Int)) ∧ x_19.toNat < x_20.length ∧ (gd (Row.no UInt8) x_20 x_19.toNat).ok x_21 ∧ i_13_53_0 (0 : Int) x_17 x_19 (gd (0 : UInt8) ((gd (Row.no UInt8) x_20 x_17.toNat).get x_21) x_9.toNat) x_20 x_21 (0 : Int) x_17 x_19 (gd (0 : UInt8) ((gd (Row.no UInt8) x_20 x_17.toNat).get x_21) x_9.toNat) x_20 x_21 ∧ ∀ (x_22 x_23 x_24 : Int) (x_25 : UInt8) (x_26 : List (Row UInt8)) (x_27 : List (Nat × List UInt8)), i_13_53_0 (0 : Int) x_17 x_19 (gd (0 : UInt8) ((gd (Row.no UInt8) x_20 x_17.toNat).get x_21) x_9.toNat) x_20 x_21 x_22 x_23 x_24 x_25 x_26 x_27 → (x_22 < (↑((gd (Row.no UInt8) x_20 x_19.toNat).get x_21).length : Int) → (gd (Row.no UInt8) x_20 x_19.toNat).ok x_27 ∧ ((0 : Int) ≤ x_22 ∧ x_22 < (↑((gd (Row.no UInt8) x_20 x_19.toNat).get x_27).length : Int)) ∧ (gd (Row.no UInt8) x_20 x_19.toNat).ok x_27 ∧ x_22.toNat < ((gd (Row.no UInt8) x_20 x_19.toNat).get x_27).length ∧ ((0 : Int) ≤ x_23 ∧ x_23 < (↑x_26.length : Int)) ∧ x_23.toNat < x_26.length ∧ (gd (Row.no UInt8) x_26 x_23.toNat).ok x_27 ∧ ((0 : Int) ≤ x_22 ∧ x_22 < (↑((gd (Row.no UInt8) x_26 x_23.toNat).get x_27).length : Int)) ∧ (gd (Row.no UInt8) x_26 x_23.toNat).ok x_27 ∧ x_22.toNat < ((gd (Row.no UInt8) x_26 x_23.toNat).get x_27).length ∧ True ∧ (gd (Row.no UInt8) x_26 x_23.toNat).ok x_27 ∧ ((0 : Int) ≤ x_22 ∧ x_22 < (↑((gd (Row.no UInt8) x_26 x_23.toNat).get x_27).length : Int)) ∧ (gd (Row.no UInt8) x_26 x_23.toNat).mine x_27 ∧ x_22.toNat < ((gd (Row.no UInt8) x_26 x_23.toNat).get x_27).length ∧ I64 (x_22 + (1 : Int)) ∧ i_13_53_0 (0 : Int) x_17 x_19 (gd (0 : UInt8) ((gd (Row.no UInt8) x_20 x_17.toNat).get x_21) x_9.toNat) x_20 x_21 (x_22 + (1 : Int)) x_23 x_24 x_25 x_26 (((gd (Row.no UInt8) x_26 x_23.toNat).id, ((gd (Row.no UInt8) x_26 x_23.toNat).get x_27).set x_22.toNat (gd (0 : UInt8) ((gd (Row.no UInt8) x_26 x_23.toNat).get x_27) x_22.toNat ^^^ gmul x_25 (gd (0 : UInt8) ((gd (Row.no UInt8) x_20 x_19.toNat).get x_27) x_22.toNat))) :: x_27) ∧ ((↑(lkA x_21 (rAt x_26 x_24).id).length : Int) - (x_22 + (1 : Int))).toNat < ((↑(lkA x_21 (rAt x_26 x_24).id).length : Int) - x_22).toNat) ∧ ((↑((gd (Row.no UInt8) x_20 x_19.toNat).get x_21).length : Int) ≤ x_22 → I64 (x_17 + (1 : Int)) ∧ i_13_34_1 (0 : Int) x x_3 x_15 x_16 (x_17 + (1 : Int)) x_18 x_19 x_26 x_27 ∧ ((↑x_26.length : Int) - (x_17 + (1 : Int))).toNat < ((↑x_20.length : Int) - x_17).toNat)) ∧ (x_17 = x_19 → I64 (x_17 + (1 : Int)) ∧ i_13_34_1 (0 : Int) x x_3 x_15 x_16 (x_17 + (1 : Int)) x_18 x_19 x_20 x_21 ∧ ((↑x_20.length : Int) - (x_17 + (1 : Int))).toNat < ((↑x_20.length : Int) - x_17).toNat)) ∧ ((↑x_15.length : Int) ≤ x_17 → I64 (x_19 + (1 : Int)) ∧ (x_19 + (1 : Int) = (↑x_20.length : Int) → (x_19 + (1 : Int) < (↑a.length : Int) → ([], (5 : Int)) = invL a) ∧ ((↑a.length : Int) ≤ x_19 + (1 : Int) → (∀ (x : Row UInt8), x ∈ x_20 → x.ok x_21 ∧ x.kd ≠ RK.nil) ∧ ((0 : Int) ≤ (↑a.length : Int) ∧ (↑a.length : Int) ≤ (64 : Int) ∧ (0 : Int) ≤ (↑a.length : Int) ∧ (↑a.length : Int) ≤ (64 : Int) ∧ (0 : Int) ≤ (↑a.length : Int) ∧ (↑a.length : Int) ≤ (64 : Int) ∧ (↑a.length : Int) ≤ (↑(List.map (fun x => x.get x_21) x_20).length : Int) ∧ ∀ (r : List UInt8), r ∈ List.map (fun x => x.get x_21) x_20 → (↑a.length : Int) + (↑a.length : Int) ≤ (↑r.length : Int)) ∧ (fillL (↑a.length : Int) (↑a.length : Int) (fI (List.map (fun x => x.get x_21) x_20) (↑a.length : Int).toNat), (0 : Int)) = invL a)) ∧ (¬x_19 + (1 : Int) = (↑x_20.length : Int) → I64 (x_18 + (1 : Int)) ∧ i_13_34_0 (0 : Int) (0 : Int) (↑a.length : Int) x_1 x_2 (x_18 + (1 : Int)) (x_19 + (1 : Int)) x_4 x_20 x_21 ∧ (x_4 - (x_18 + (1 : Int))).toNat < (x_4 - x).toNat))))) ∧ (decide (gd (0 : UInt8) ((gd (Row.no UInt8) x_10 (x_8.fst + x_7.toNat)).get x_11) x_9.toNat ≠ (0 : UInt8)) = false → I64 (x_7 + (1 : Int)) ∧ i_13_50_0 (0 : Int) (x_3.toNat, (↑x_5.length : Int).toNat - x_3.toNat) x x_5 x_6 (x_7 + (1 : Int)) x_8 x_9 x_10 x_11 ∧ ((↑x_8.snd : Int) - (x_7 + (1 : Int))).toNat < ((↑x_8.snd : Int) - x_7).toNat)) ∧ ((↑((↑x_5.length : Int).toNat - x_3.toNat) : Int) ≤ x_7 → I64 (x + (1 : Int)) ∧ i_13_34_0 (0 : Int) (0 : Int) (↑a.length : Int) x_1 x_2 (x + (1 : Int)) x_3 x_4 x_10 x_11 ∧ (x_4 - (x + (1 : Int))).toNat < (x_4 - x).toNat)) ∧ ((↑a.length : Int) ≤ x → (x_3 < (↑a.length : Int) → ([], (5 : Int)) = invL a) ∧ ((↑a.length : Int) ≤ x_3 → (∀ (x : Row UInt8), x ∈ x_5 → x.ok x_6 ∧ x.kd ≠ RK.nil) ∧ ((0 : Int) ≤ (↑a.length : Int) ∧ (↑a.length : Int) ≤ (64 : Int) ∧ (0 : Int) ≤ (↑a.length : Int) ∧ (↑a.length : Int) ≤ (64 : Int) ∧ (0 : Int) ≤ (↑a.length : Int) ∧ (↑a.length : Int) ≤ (64 : Int) ∧ (↑a.length : Int) ≤ (↑(List.map (fun x => x.get x_6) x_5).length : Int) ∧ ∀ (r : List UInt8), r ∈ List.map (fun x => x.get x_6) x_5 → (↑a.length : Int) + (↑a.length : Int) ≤ (↑r.length : Int)) ∧ (fillL (↑a.length : Int) (↑a.length : Int) (fI (List.map (fun x => x.get x_6) x_5) (↑a.length : Int).toNat), (0 : Int)) = invL a))))) := by
  delta z13_0
  refine ⟨trivial, fun h => by unfold invL; rw [if_pos h], fun h => ?_⟩
  obtain ⟨h1, h2, h3, h4, h5, h6⟩ := mchk_ok h
  have h00 : (gd [] a (Int.toNat 0)) = gd [] a 0 := rfl
  refine ⟨⟨Int.le_refl _, by omega⟩, fun hne => by unfold invL; rw [if_neg (by rw [h]; simp), if_pos (by rw [h00] at hne; omega)], fun he => ⟨by unfold I64; omega, ?_⟩⟩
  rw [h00] at he
  have hE : a.length = (gd [] a 0).length := by omega
  refine filled_vc (a.length : Int) (2 * (a.length : Int)) (fB a a.length) (fun i k => if k < (a.length : Int) then gd 0 (gd [] a i.toNat) k.toNat else if k - (a.length : Int) = i then 1 else 0) (fun i k => (0 : Int) ≤ i ∧ i < (↑a.length : Int) ∧ (0 : Int) ≤ k ∧ (0 : Int) ≤ (↑a.length : Int) ∧ (↑a.length : Int) ≤ 1000 ∧ k ≤ 2000 ∧ (↑a.length : Int) ≤ (↑(gd [] a i.toNat).length : Int)) _ ⟨by omega, by omega, by omega, by omega⟩ (fun i k q1 q2 q3 q4 => ⟨⟨q1, q2, q3, by omega, by omega, by omega, by have := h6 _ (gd_mem (d := []) (xs := a) (i := i.toNat) (by omega)); omega⟩, fB_v q1 q3⟩) fun K A i hi hF => ?_
  refine clear_vc (a.length : Int) K A (fun d K A => (d < (a.length : Int) → (([] : List (List UInt8)), (5 : Int)) = invL a) ∧ ((a.length : Int) ≤ d → (∀ x : Row UInt8, x ∈ K → x.ok A ∧ x.kd ≠ RK.nil) ∧ (0 ≤ (a.length : Int) ∧ (a.length : Int) ≤ 64 ∧ 0 ≤ (a.length : Int) ∧ (a.length : Int) ≤ 64 ∧ 0 ≤ (a.length : Int) ∧ (a.length : Int) ≤ 64 ∧ (a.length : Int) ≤ ((List.map (fun x => x.get A) K).length : Int) ∧ ∀ r, r ∈ List.map (fun x => x.get A) K → (a.length : Int) + (a.length : Int) ≤ (r.length : Int)) ∧ (fillL (a.length : Int) (a.length : Int) (fI (List.map (fun x => x.get A) K) (a.length : Int).toNat), (0 : Int)) = invL a)) (ClI.start hF hi ⟨by omega, by omega⟩ ⟨by omega, by omega, by omega⟩) fun d K2 A2 hd hm he2 => ?_
  obtain ⟨m, hM, hcm⟩ := hm
  rw [hF.vw hi (by omega), Int.toNat_natCast] at he2
  have e1 : vw A2 K2 = (clI a).1 := by unfold clI; rw [he2]
  have e2 : d.toNat = (clI a).2 := by unfold clI; rw [he2]
  have hR := clI_rect (a := a) (by omega)
  have hinv : invL a = if (clI a).2 < a.length then ([], 5) else (fillL a.length a.length (fI (clI a).1 a.length), 0) := by
    unfold invL; rw [if_neg (by rw [h]; simp), if_neg (by omega)]
  refine ⟨fun hlt => by rw [hinv, if_pos (by omega)], fun hge => ⟨hM.frz, ?_, ?_⟩⟩
  · show _ ∧ _ ∧ _ ∧ _ ∧ _ ∧ _ ∧ (a.length : Int) ≤ ((vw A2 K2).length : Int) ∧ ∀ r, r ∈ vw A2 K2 → (a.length : Int) + (a.length : Int) ≤ (r.length : Int)
    rw [e1]
    refine ⟨by omega, by omega, by omega, by omega, by omega, by omega, by rw [hR.1]; omega, fun r hr => by rw [hR.2 r hr]; omega⟩
  · show (fillL (a.length : Int) (a.length : Int) (fI (vw A2 K2) (a.length : Int).toNat), (0 : Int)) = invL a
    rw [hinv, if_neg (by omega), e1, Int.toNat_natCast]
def l_13 : PD Tc.dn k_13.ps → List (IL Tc Tc.dn) := fun x => (fun (a : (List (List UInt8))) => ([⟨32, .fn F32 (fun k => bif Nat.beq k 0 then some (.inv [.sl 14 .cInt, .bl 3 .rU8, .ar .cU8] (fun zo zv => (fun (i : Int) (K : (List (Row UInt8))) (A : (List (Nat × List UInt8))) => i_13_32_33_0 a i K A) zv.1 zv.2.1 zv.2.2.1) (fun zo zv => (fun (i : Int) (K : (List (Row UInt8))) (A : (List (Nat × List UInt8))) => ((a.length : Int) - i).toNat) zv.1 zv.2.1 zv.2.2.1)) else bif Nat.beq k 1 then some (.inv [.sl 27 .cInt, .sl 8 .cInt, .bl 3 .rU8, .ar .cU8] (fun zo zv => (fun (k0 : Int) (i0 : Int) (K0 : (List (Row UInt8))) (A0 : (List (Nat × List UInt8))) (k : Int) (i : Int) (K : (List (Row UInt8))) (A : (List (Nat × List UInt8))) => i_13_32_33_1 a k0 i0 K0 A0 k i K A) zo.1 zo.2.1 zo.2.2.1 zo.2.2.2.1 zv.1 zv.2.1 zv.2.2.1 zv.2.2.2.1) (fun zo zv => (fun (k0 : Int) (i0 : Int) (K0 : (List (Row UInt8))) (A0 : (List (Nat × List UInt8))) (k : Int) (i : Int) (K : (List (Row UInt8))) (A : (List (Nat × List UInt8))) => ((2 * (a.length : Int)) - k).toNat) zo.1 zo.2.1 zo.2.2.1 zo.2.2.2.1 zv.1 zv.2.1 zv.2.2.1 zv.2.2.2.1)) else none), some 33⟩, ⟨50, .fn F50 (fun k => bif Nat.beq k 0 then some (.inv [.sl 8 .cInt, .pt 0 3 1, .ce 5 .cInt, .bl 3 .rU8, .ar .cU8] (fun zo zv => (fun (k0 : Int) (s0 : (Nat × Nat)) (c0 : Int) (K0 : (List (Row UInt8))) (A0 : (List (Nat × List UInt8))) (k : Int) (s : (Nat × Nat)) (c : Int) (K : (List (Row UInt8))) (A : (List (Nat × List UInt8))) => i_13_50_0 k0 s0 c0 K0 A0 k s c K A) zo.1 zo.2.1 zo.2.2.1 zo.2.2.2.1 zo.2.2.2.2.1 zv.1 zv.2.1 zv.2.2.1 zv.2.2.2.1 zv.2.2.2.2.1) (fun zo zv => (fun (k0 : Int) (s0 : (Nat × Nat)) (c0 : Int) (K0 : (List (Row UInt8))) (A0 : (List (Nat × List UInt8))) (k : Int) (s : (Nat × Nat)) (c : Int) (K : (List (Row UInt8))) (A : (List (Nat × List UInt8))) => ((s.2 : Int) - k).toNat) zo.1 zo.2.1 zo.2.2.1 zo.2.2.2.1 zo.2.2.2.2.1 zv.1 zv.2.1 zv.2.2.1 zv.2.2.2.1 zv.2.2.2.2.1)) else none), none⟩, ⟨52, .fn F52 (fun k => bif Nat.beq k 0 then some (.inv [.sl 12 .cInt, .sl 1 .cInt, .sl 2 .cU8, .bl 3 .rU8, .ar .cU8] (fun zo zv => (fun (k0 : Int) (i0 : Int) (f0 : UInt8) (K0 : (List (Row UInt8))) (A0 : (List (Nat × List UInt8))) (k : Int) (i : Int) (f : UInt8) (K : (List (Row UInt8))) (A : (List (Nat × List UInt8))) => i_13_52_0 k0 i0 f0 K0 A0 k i f K A) zo.1 zo.2.1 zo.2.2.1 zo.2.2.2.1 zo.2.2.2.2.1 zv.1 zv.2.1 zv.2.2.1 zv.2.2.2.1 zv.2.2.2.2.1) (fun zo zv => (fun (k0 : Int) (i0 : Int) (f0 : UInt8) (K0 : (List (Row UInt8))) (A0 : (List (Nat × List UInt8))) (k : Int) (i : Int) (f : UInt8) (K : (List (Row UInt8))) (A : (List (Nat × List UInt8))) => ((lkA A0 (rAt K i).id).length - k).toNat) zo.1 zo.2.1 zo.2.2.1 zo.2.2.2.1 zo.2.2.2.2.1 zv.1 zv.2.1 zv.2.2.1 zv.2.2.2.1 zv.2.2.2.2.1)) else none), none⟩, ⟨53, .fn F53 (fun k => bif Nat.beq k 0 then some (.inv [.sl 15 .cInt, .sl 1 .cInt, .sl 2 .cInt, .sl 3 .cU8, .bl 3 .rU8, .ar .cU8] (fun zo zv => (fun (k0 : Int) (t0 : Int) (s0 : Int) (f0 : UInt8) (K0 : (List (Row UInt8))) (A0 : (List (Nat × List UInt8))) (k : Int) (t : Int) (s : Int) (f : UInt8) (K : (List (Row UInt8))) (A : (List (Nat × List UInt8))) => i_13_53_0 k0 t0 s0 f0 K0 A0 k t s f K A) zo.1 zo.2.1 zo.2.2.1 zo.2.2.2.1 zo.2.2.2.2.1 zo.2.2.2.2.2.1 zv.1 zv.2.1 zv.2.2.1 zv.2.2.2.1 zv.2.2.2.2.1 zv.2.2.2.2.2.1) (fun zo zv => (fun (k0 : Int) (t0 : Int) (s0 : Int) (f0 : UInt8) (K0 : (List (Row UInt8))) (A0 : (List (Nat × List UInt8))) (k : Int) (t : Int) (s : Int) (f : UInt8) (K : (List (Row UInt8))) (A : (List (Nat × List UInt8))) => ((lkA A0 (rAt K s).id).length - k).toNat) zo.1 zo.2.1 zo.2.2.1 zo.2.2.2.1 zo.2.2.2.2.1 zo.2.2.2.2.2.1 zv.1 zv.2.1 zv.2.2.1 zv.2.2.2.1 zv.2.2.2.2.1 zv.2.2.2.2.2.1)) else none), none⟩, ⟨34, .fn F34 (fun k => bif Nat.beq k 0 then some (.inv [.sl 12 .cInt, .sl 5 .cInt, .sl 1 .cInt, .bl 3 .rU8, .ar .cU8] (fun zo zv => (fun (c0 : Int) (d0 : Int) (cols0 : Int) (K0 : (List (Row UInt8))) (A0 : (List (Nat × List UInt8))) (c : Int) (d : Int) (cols : Int) (K : (List (Row UInt8))) (A : (List (Nat × List UInt8))) => i_13_34_0 c0 d0 cols0 K0 A0 c d cols K A) zo.1 zo.2.1 zo.2.2.1 zo.2.2.2.1 zo.2.2.2.2.1 zv.1 zv.2.1 zv.2.2.1 zv.2.2.2.1 zv.2.2.2.2.1) (fun zo zv => (fun (c0 : Int) (d0 : Int) (cols0 : Int) (K0 : (List (Row UInt8))) (A0 : (List (Nat × List UInt8))) (c : Int) (d : Int) (cols : Int) (K : (List (Row UInt8))) (A : (List (Nat × List UInt8))) => (cols - c).toNat) zo.1 zo.2.1 zo.2.2.1 zo.2.2.2.1 zo.2.2.2.2.1 zv.1 zv.2.1 zv.2.2.1 zv.2.2.2.1 zv.2.2.2.2.1)) else bif Nat.beq k 1 then some (.inv [.sl 57 .cInt, .sl 12 .cInt, .sl 5 .cInt, .bl 3 .rU8, .ar .cU8] (fun zo zv => (fun (k0 : Int) (c0 : Int) (d0 : Int) (K0 : (List (Row UInt8))) (A0 : (List (Nat × List UInt8))) (k : Int) (c : Int) (d : Int) (K : (List (Row UInt8))) (A : (List (Nat × List UInt8))) => i_13_34_1 k0 c0 d0 K0 A0 k c d K A) zo.1 zo.2.1 zo.2.2.1 zo.2.2.2.1 zo.2.2.2.2.1 zv.1 zv.2.1 zv.2.2.1 zv.2.2.2.1 zv.2.2.2.2.1) (fun zo zv => (fun (k0 : Int) (c0 : Int) (d0 : Int) (K0 : (List (Row UInt8))) (A0 : (List (Nat × List UInt8))) (k : Int) (c : Int) (d : Int) (K : (List (Row UInt8))) (A : (List (Nat × List UInt8))) => ((K.length : Int) - k).toNat) zo.1 zo.2.1 zo.2.2.1 zo.2.2.2.1 zo.2.2.2.2.1 zv.1 zv.2.1 zv.2.2.1 zv.2.2.2.1 zv.2.2.2.2.1)) else none), none⟩])) x.1
theorem l_13_ok : ∀ x, ILs Try.prog tD (l_13 x) := fun _ => ⟨⟨F32_ok, F32_call⟩, ⟨F50_ok, F50_call⟩, ⟨F52_ok, F52_call⟩, ⟨F53_ok, F53_call⟩, ⟨F34_ok, F34_call⟩, trivial⟩
theorem k_13_ok : k_13.Ok Try.prog tD := con_ok tD_ok (Δ := [k_21, k_33, k_32_35, k_43, k_58, k_51]) ⟨k_21_ok, k_33_ok, k_32_35_ok, k_43_ok, k_58_ok, k_51_ok, trivial⟩ (Ω := []) trivial k_13 F13_ok F13_call (l_13) (l_13_ok) 3 (fun x => (fun (a : (List (List UInt8))) => (fun k => bif Nat.beq k 1029 then some (.frz [5]) else bif Nat.beq k 1033 then some (.frz [6]) else none)) x.1) fun x hp => Eq.mp (by kernel_rfl) (k_13_v x.1)
open Go.RowKit
def o_44 : ConO Tc Tc.dn := ⟨44, [.ty .lU8], fun x => ((x.1.length : Nat) : Int) * 1 ≤ 140737488355328, .cU8, fun x => x.1⟩
theorem o_44_ok : o_44.Ok Try.prog tD := ⟨⟨F44_call, fun _ => rfl⟩, fun x N hp => clone_fo (sz := 1) (by_ := 1) F44_ok (tD.ea N.ρ .cU8) (fun y => tD_ok.pu1 N .cU8 y rfl) (by decide) rfl x.1 hp⟩
def rowsL (a : List (List UInt8)) (at_ : List Int) : List (List UInt8) × Int :=
  if mchk a ≠ 0 then ([], mchk a) else if 16 < at_.length then ([], 2) else if at_.length = 0 then ([], 1) else if ∀ i, i ∈ at_ → 0 ≤ i ∧ i < a.length then (at_.map fun i => gd [] a i.toNat, 0) else ([], 3)
structure RowsI (a : List (List UInt8)) (at_ : List Int) (i : Int) (K : RwL) (A : ArL) : Prop where
  chk : mchk a = 0
  pos : 0 < at_.length
  few : at_.length ≤ 16
  lo : 0 ≤ i
  hi : i ≤ at_.length
  len : (K.length : Int) = i
  rng : ∀ j, j < i.toNat → 0 ≤ gd 0 at_ j ∧ gd 0 at_ j < a.length
  row : ∀ j, j < i.toNat → (gd (Row.no UInt8) K j).mine A ∧ lkA A (gd (Row.no UInt8) K j).id = gd [] a (gd 0 at_ j).toNat
theorem RowsI.start {a : List (List UInt8)} {at_ : List Int} (h1 : mchk a = 0) (h2 : (at_.length : Int) ≤ 16) (h3 : ¬(at_.length : Int) = 0) : RowsI a at_ 0 [] [] :=
  ⟨h1, by omega, by omega, by omega, by omega, rfl, fun j hj => by omega, fun j hj => by omega⟩
theorem RowsI.bad {a : List (List UInt8)} {at_ : List Int} {i : Int} {K : RwL} {A : ArL} (h : RowsI a at_ i K A) (hi : i < at_.length) (hb : gd 0 at_ i.toNat < 0 ∨ (a.length : Int) ≤ gd 0 at_ i.toNat) : ([], 3) = rowsL a at_ := by
  have h1 := h.pos
  have h2 := h.few
  have h3 := h.lo
  unfold rowsL
  rw [if_neg (by rw [h.chk]; simp), if_neg (by omega), if_neg (by omega), if_neg]
  intro hall
  have := hall _ (gd_mem (d := 0) (xs := at_) (i := i.toNat) (by omega))
  omega
theorem RowsI.wid {a : List (List UInt8)} {at_ : List Int} {i : Int} {K : RwL} {A : ArL} (h : RowsI a at_ i K A) (hi : i < at_.length) (hb : 0 ≤ gd 0 at_ i.toNat ∧ gd 0 at_ i.toNat < (a.length : Int)) : (gd [] a (gd 0 at_ i.toNat).toNat).length ≤ 16 := by
  obtain ⟨h1, h2, h3, h4, h5, h6⟩ := mchk_ok h.chk
  have := h6 _ (gd_mem (d := []) (xs := a) (i := (gd 0 at_ i.toNat).toNat) (by omega))
  omega
theorem gd_app {α : Type} {d : α} {l : List α} {x : α} {j : Nat} : gd d (l ++ [x]) j = if j = l.length then x else gd d l j := by
  unfold gd
  rcases Nat.lt_trichotomy j l.length with h | h | h
  · rw [List.getElem?_append_left h, if_neg (by omega)]
  · subst h; rw [if_pos rfl, List.getElem?_concat_length]; rfl
  · rw [if_neg (by omega), List.getElem?_eq_none (by simp; omega), List.getElem?_eq_none (by omega)]
theorem RowsI.step {a : List (List UInt8)} {at_ : List Int} {i : Int} {K : RwL} {A : ArL} (h : RowsI a at_ i K A) (hi : i < at_.length) (hb : 0 ≤ gd 0 at_ i.toNat ∧ gd 0 at_ i.toNat < (a.length : Int)) {id : Nat} (hid : ¬ hasA A id) : RowsI a at_ (i + 1) (K ++ [Row.at UInt8 id (gd [] a (gd 0 at_ i.toNat).toNat).length]) ((id, gd [] a (gd 0 at_ i.toNat).toNat) :: A) := by
  have h0 := h.lo
  have hl := h.len
  refine ⟨h.chk, h.pos, h.few, by omega, by omega, by simp; omega, fun j hj => ?_, fun j hj => ?_⟩
  · by_cases e : j = i.toNat
    · subst e; exact hb
    · exact h.rng j (by omega)
  · rw [gd_app]
    by_cases e : j = K.length
    · rw [if_pos e]
      have e2 : j = i.toNat := by omega
      subst e2
      exact ⟨at_mine rfl, by rw [Row.at_id, lkA_cons, if_pos rfl]⟩
    · rw [if_neg e]
      obtain ⟨q1, q2⟩ := h.row j (by omega)
      have hne : (gd (Row.no UInt8) K j).id ≠ id := fun e => hid (e ▸ q1.2.1)
      exact ⟨⟨q1.1, hasA_cons.2 (.inr q1.2.1), by rw [lkA_cons, if_neg hne]; exact q1.2.2⟩, by rw [lkA_cons, if_neg hne]; exact q2⟩
theorem RowsI.fin {a : List (List UInt8)} {at_ : List Int} {i : Int} {K : RwL} {A : ArL} (h : RowsI a at_ i K A) (hi : at_.length ≤ i) : (∀ x : Row UInt8, x ∈ K → x.ok A ∧ x.kd ≠ RK.nil) ∧ (List.map (fun x => x.get A) K, (0 : Int)) = rowsL a at_ := by
  have h0 := h.lo
  have hl := h.len
  have h1 := h.hi
  have h2 := h.few
  have h3 := h.pos
  refine ⟨gd_all (d := Row.no UInt8) fun j hj => ⟨Row.mine.ok (h.row j (by omega)).1, by rw [(h.row j (by omega)).1.1]; intro e; cases e⟩, ?_⟩
  unfold rowsL
  rw [if_neg (by rw [h.chk]; simp), if_neg (by omega), if_neg (by omega), if_pos]
  · congr 1
    apply List.ext_getElem
    · simp; omega
    · intro j q1 q2
      simp only [List.length_map] at q1 q2
      obtain ⟨p1, p2⟩ := h.row j (by omega)
      have e1 : gd (Row.no UInt8) K j = K[j] := by unfold gd; rw [List.getElem?_eq_getElem q1]; rfl
      have e2 : gd 0 at_ j = at_[j] := by unfold gd; rw [List.getElem?_eq_getElem q2]; rfl
      rw [e1] at p1 p2
      rw [e2] at p2
      rw [List.getElem_map, List.getElem_map, (Row.mine.get p1).1, p2]
  · intro x hx
    obtain ⟨j, hj, rfl⟩ := List.mem_iff_getElem.1 hx
    have e2 : gd 0 at_ j = at_[j] := by unfold gd; rw [List.getElem?_eq_getElem hj]; rfl
    rw [← e2]
    exact h.rng j (by omega)
def i_24_0 (a : (List (List UInt8))) (at_ : (List Int)) (i : Int) (K : (List (Row UInt8))) (A : (List (Nat × List UInt8))) : Prop := RowsI a at_ i K A
def k_24 : Con Tc Tc.dn := ⟨24, [.ty .llU8, .ty .lInt], fun x => (fun (a : (List (List UInt8))) (at_ : (List Int)) => True) x.1 x.2.1, [.llU8, .cInt], fun x => (fun (a : (List (List UInt8))) (at_ : (List Int)) => rowsL a at_) x.1 x.2.1⟩
theorem k_24_v (a : (List (List UInt8))) (at_ : (List Int)) : True ∧ (¬mchk a = (0 : Int) → ([], mchk a) = rowsL a at_) ∧ (mchk a = (0 : Int) → ((16 : Int) < (↑at_.length : Int) → ([], (2 : Int)) = rowsL a at_) ∧ ((↑at_.length : Int) ≤ (16 : Int) → ((↑at_.length : Int) = (0 : Int) → ([], (1 : Int)) = rowsL a at_) ∧ (¬(↑at_.length : Int) = (0 : Int) → i_24_0 a at_ (0 : Int) [] [] ∧ ∀ (x : Int) (x_1 : List (Row UInt8)) (x_2 : List (Nat × List UInt8)), i_24_0 a at_ x x_1 x_2 → (x < (↑at_.length : Int) → ((0 : Int) ≤ x ∧ x < (↑at_.length : Int)) ∧ ((0 : Int) ≤ gd (0 : Int) at_ x.toNat → (0 : Int) ≤ gd (0 : Int) at_ x.toNat) ∧ ((0 : Int) ≤ gd (0 : Int) at_ x.toNat → (0 : Int) ≤ gd (0 : Int) at_ x.toNat) ∧ ((0 : Int) ≤ gd (0 : Int) at_ x.toNat → (0 : Int) ≤ gd (0 : Int) at_ x.toNat) ∧ ((0 : Int) ≤ gd (0 : Int) at_ x.toNat → (0 : Int) ≤ gd (0 : Int) at_ x.toNat) ∧ (gd (0 : Int) at_ x.toNat < (0 : Int) ∨ (↑a.length : Int) ≤ gd (0 : Int) at_ x.toNat → ([], (3 : Int)) = rowsL a at_) ∧ ((0 : Int) ≤ gd (0 : Int) at_ x.toNat ∧ gd (0 : Int) at_ x.toNat < (↑a.length : Int) → ((0 : Int) ≤ gd (0 : Int) at_ x.toNat ∧ gd (0 : Int) at_ x.toNat < (↑a.length : Int)) ∧ (↑(gd [] a (gd (0 : Int) at_ x.toNat).toNat).length : Int) * (1 : Int) ≤ (140737488355328 : Int) ∧ ∀ (id : Nat), ¬hasA x_2 id → (x_1.length + (1 : Nat)) * (24 : Nat) ≤ (140737488355328 : Nat) ∧ I64 (x + (1 : Int)) ∧ i_24_0 a at_ (x + (1 : Int)) (x_1 ++ [Row.at UInt8 id (gd [] a (gd (0 : Int) at_ x.toNat).toNat).length]) ((id, gd [] a (gd (0 : Int) at_ x.toNat).toNat) :: x_2) ∧ ((↑at_.length : Int) - (x + (1 : Int))).toNat < ((↑at_.length : Int) - x).toNat)) ∧ ((↑at_.length : Int) ≤ x → (∀ (x : Row UInt8), x ∈ x_1 → x.ok x_2 ∧ x.kd ≠ RK.nil) ∧ (List.map (fun x => x.get x_2) x_1, (0 : Int)) = rowsL a at_)))) := by
  refine ⟨trivial, fun h => by unfold rowsL; rw [if_pos h], fun h => ⟨fun h1 => by unfold rowsL; rw [if_neg (by rw [h]; simp), if_pos (by omega)], fun h1 => ⟨fun h2 => by unfold rowsL; rw [if_neg (by rw [h]; simp), if_neg (by omega), if_pos (by omega)], fun h2 => ⟨RowsI.start h h1 h2, fun x K A hI => ⟨fun hx => ?_, fun hx => ?_⟩⟩⟩⟩⟩
  · have h0 := RowsI.lo hI
    have hl := RowsI.len hI
    have hf := RowsI.few hI
    refine ⟨⟨h0, hx⟩, fun h => h, fun h => h, fun h => h, fun h => h, fun hb => RowsI.bad hI hx hb, fun hb => ?_⟩
    have hw := RowsI.wid hI hx hb
    have hs := fun id hid => RowsI.step hI hx hb (id := id) hid
    (repeat' (first | apply And.intro | intro _)) <;> first | assumption | trivial | omega | (exact hs _ (by assumption)) | (unfold I64; omega) | (grind) | trace_state
  · exact RowsI.fin hI hx
theorem k_24_ok : k_24.Ok Try.prog tD := con_ok tD_ok (Δ := [k_21]) ⟨k_21_ok, trivial⟩ (Ω := [o_44]) ⟨o_44_ok, trivial⟩ k_24 F24_ok F24_call (fun _ => []) (fun _ => trivial) 0 (fun x => (fun (a : (List (List UInt8))) (at_ : (List Int)) => (fun k => bif Nat.beq k 0 then some (.inv [.sl 26 .cInt, .ow 7 .rU8, .ar .cU8] (fun zo zv => (fun (i : Int) (K : (List (Row UInt8))) (A : (List (Nat × List UInt8))) => i_24_0 a at_ i K A) zv.1 zv.2.1 zv.2.2.1) (fun zo zv => (fun (i : Int) (K : (List (Row UInt8))) (A : (List (Nat × List UInt8))) => ((at_.length : Int) - i).toNat) zv.1 zv.2.1 zv.2.2.1)) else none)) x.1 x.2.1) fun x hp => Eq.mp (by kernel_rfl) (k_24_v x.1 x.2.1)
end Go.Proofs.Ytjfakndleagacaa
