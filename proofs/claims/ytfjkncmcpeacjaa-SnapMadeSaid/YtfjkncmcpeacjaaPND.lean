/- What functions answer (contracts). No condition. -/
import Derived.Test.YtfjkncmcpeacjaaPSxF
import Derived.Test.YtfjkncmcpeacjaaPAvAbc
import Derived.Test.YtfjkncmcpeacjaaPSxX
set_option linter.unusedSectionVars false
set_option linter.unusedSimpArgs false
set_option linter.unusedVariables false
set_option maxHeartbeats 4000000
set_option maxRecDepth 100000
namespace Go.Proofs.Ytfjkncmcpeacjaa
open Go.RowKit
section
variable {τ : Type} {dn : τ → Type} {D : TD τ dn}
theorem encC_fr (ok : TDok D) {p : Nat → Bool} : ∀ (cs : List (Bool × τ)) (x : CD dn cs), SV.frL p (encC D cs x) = true
  | [], _ => rfl
  | (false, t) :: r, x => by simp only [encC, SV.frL, en_fr ok, encC_fr ok r x.2, Bool.and_self]
  | (true, t) :: r, x => by simp only [encC, SV.frL, SV.fr, ok.nf, encC_fr ok r x.2, Bool.and_self]
theorem encP_fr (ok : TDok D) {p : Nat → Bool} : ∀ (ps : List (Pt τ)) (x : PD dn ps), SV.frL p (encP D ps x) = true
  | [], _ => rfl
  | .ty t :: r, x => by simp only [encP, Pt.enc, SV.frL, en_fr ok, encP_fr ok r x.2, Bool.and_self]
  | .ptr t :: r, x => by simp only [encP, Pt.enc, SV.frL, SV.fr, ok.nf, encP_fr ok r x.2, Bool.and_self]
  | .fnc f cs :: r, x => by simp only [encP, Pt.enc, SV.frL, SV.fr, encC_fr ok, encP_fr ok r x.2, Bool.and_self]
inductive IK (τ : Type) (dn : τ → Type) where
  | fn (F : AFn) (an : Nat → Option (LA τ dn))
  | del (t : τ) (by_ : Nat) (zs : List AV)
structure IL (τ : Type) (dn : τ → Type) where
  f : FuncId
  k : IK τ dn
  cl : Option FuncId := none
def hasF (g : FuncId) : List (SV τ dn) → Bool
  | [] => false
  | .fn f _ :: r => Nat.beq f g || hasF g r
  | _ :: r => hasF g r
def findI : List (IL τ dn) → FuncId → List (SV τ dn) → Option (IL τ dn)
  | [], _, _ => none
  | i :: r, f, vs => bif Nat.beq i.f f && (match i.cl with | none => true | some g => hasF g vs) then some i else findI r f vs
def Cons (P : Program) (D : TD τ dn) : List (Con τ dn) → Prop
  | [] => True
  | c :: r => c.Ok P D ∧ Cons P D r
def ConsO (P : Program) (D : TD τ dn) : List (ConO τ dn) → Prop
  | [] => True
  | c :: r => c.Ok P D ∧ ConsO P D r
def IK.Ok (P : Program) (D : TD τ dn) (f : FuncId) : IK τ dn → Prop
  | .fn F _ => cFunc P f = some F ∧ callable P f = true
  | .del t by_ zs => cFunc P f = some (DelF (D.sz t) by_ zs) ∧ callable P f = true ∧ zs.length = D.sz t
def ILs (P : Program) (D : TD τ dn) : List (IL τ dn) → Prop
  | [] => True
  | i :: r => i.k.Ok P D i.f ∧ ILs P D r
theorem cons_mem {P : Program} : ∀ {Δ : List (Con τ dn)}, Cons P D Δ → ∀ c, c ∈ Δ → c.Ok P D
  | [], _, c, hc => by simp at hc
  | d :: r, h, c, hc => by
    rcases List.mem_cons.1 hc with rfl | hc
    · exact h.1
    · exact cons_mem h.2 c hc
theorem consO_mem {P : Program} : ∀ {Ω : List (ConO τ dn)}, ConsO P D Ω → ∀ c, c ∈ Ω → c.Ok P D
  | [], _, c, hc => by simp at hc
  | d :: r, h, c, hc => by
    rcases List.mem_cons.1 hc with rfl | hc
    · exact h.1
    · exact consO_mem h.2 c hc
theorem findI_ok {P : Program} : ∀ {il : List (IL τ dn)}, ILs P D il → ∀ {f vs i}, findI il f vs = some i → i.k.Ok P D f
  | [], _, f, vs, i, h => by simp [findI] at h
  | j :: r, h, f, vs, i, hi => by
    simp only [findI] at hi
    cases hb : (Nat.beq j.f f && (match j.cl with | none => true | some g => hasF g vs)) with
    | false => rw [hb, cond_false] at hi; exact findI_ok h.2 hi
    | true =>
      rw [hb, cond_true, Option.some.injEq] at hi
      subst hi
      rw [Bool.and_eq_true] at hb
      rw [← Nat.eq_of_beq_eq_true hb.1]; exact h.1
theorem fi_look {P : Program} {f : FuncId} {as_ : List AV} {g g' : Nat → Option Bk} {k k' : Nat} {r : AV} (h : ∀ m : List (Option Bk), m.length = k → look m = g → Fi P f as_ (look m) m.length r g' k') : Fi P f as_ g k r g' k' := by
  intro E J base vs hG hm hkn hrc
  have hg : look ((List.range k).map g) = g := by
    funext id
    unfold look
    rcases Nat.lt_or_ge id k with h1 | h1
    · simp [h1]
    · rw [List.getElem?_eq_none (by simpa using h1)]
      cases hq : g id with
      | none => rfl
      | some B => exact absurd (hkn id ((hm.live id).2 ⟨B, hq⟩).1) (by omega)
  have := h _ (by simp) hg
  rw [hg, List.length_map, List.length_range] at this
  exact this E J base vs hG hm hkn hrc
variable [DecidableEq τ]
def inlW (C : Cfg τ dn) (F : AFn) (an : Nat → Option (LA τ dn)) (vs : List (SV τ dn)) (st : SS τ dn) (K : SV τ dn → SS τ dn → Prop) : Prop :=
  bif Nat.ble vs.length F.n then wpC C F.n an F.code 0 ⟨[], st.rm, startS vs 0, st.m, st.nx⟩ fun e st' => match e with
    | .exit _ => False
    | _ => match resS C.D st' F.res with
      | some (O, l) => obl O (K (oneS l) st')
      | none => False
  else False
theorem inlW_ok {C : Cfg τ dn} (hC : C.Ok) {f : FuncId} {F : AFn} (hF : cFunc C.P f = some F) (hc : callable C.P f = true) {an : Nat → Option (LA τ dn)} {vs : List (SV τ dn)} {st : SS τ dn} {K : SV τ dn → SS τ dn → Prop} {N : Nms} {s : S3} (R : Rel C.D N st s) (hfl : C.fl = st.nx)
    (ha : ∀ N', N.agree st.nx N' → vs.map (SV.av C.D.toTE N') = vs.map (SV.av C.D.toTE N)) (h : inlW C F an vs st K) : JOut C.P C.D f vs st K N s := by
  unfold inlW at h
  cases hb : Nat.ble vs.length F.n with
  | false => rw [hb] at h; exact h.elim
  | true =>
  rw [hb, cond_true] at h
  have R0 : Rel C.D N ⟨[], st.rm, startS vs 0, st.m, st.nx⟩ ⟨σ0 (vs.map (SV.av C.D.toTE N)), s.g, s.k⟩ := by
    refine ⟨fun N' hN => ⟨fun i v hv => ?_, fun i v hv => by simp [getS] at hv, (R.at_ N' hN).bl, (R.at_ N' hN).rb, (R.at_ N' hN).ar⟩, R.inj, R.lt, R.ml, R.rl, R.sp⟩
    obtain ⟨_, h2⟩ := startS_get hv
    rw [Nat.sub_zero] at h2
    show σ0 _ i = _
    unfold σ0
    rw [← ha N' hN, List.getElem?_map, h2]; rfl
  obtain ⟨e, s', N', st', e1, R1, _, r2, r3, hk⟩ := wpC_ok hC (n := F.n) (k0 := s.k) F.code 0 R0 (Nat.le_of_eq hfl) h
  have fin : (match resS C.D st' F.res with
      | some (O, l) => obl O (K (oneS l) st')
      | none => False) → ∃ v, (resR s'.σ F.res).run s'.g = some (v.av C.D.toTE N') ∧ (∀ N'', N'.agree st'.nx N'' → v.av C.D.toTE N'' = v.av C.D.toTE N') ∧ K v st' := fun hk => by
    split at hk
    case h_2 => exact hk.elim
    rename_i O l hr
    rw [obl_iff] at hk
    obtain ⟨hO, hk⟩ := hk
    have q : ∀ N'', N'.agree st'.nx N'' → (resR s'.σ F.res).run s'.g = some ((oneS l).av C.D.toTE N'') := fun N'' hN => by
      rw [oneS_av]
      unfold resR
      rw [run_bindS (resS_ok hC.ok (R1.at_ N'' hN) hr hO)]; rfl
    refine ⟨_, q N' (N'.agree_refl _), fun N'' hN => ?_, hk⟩
    have := (q N'' hN).symm.trans (q N' (N'.agree_refl _))
    simpa using this
  have go : ∀ {x : Ex}, (x = .normal ∨ x = .ret) → e = x → (∃ v, (resR s'.σ F.res).run s'.g = some (v.av C.D.toTE N') ∧ (∀ N'', N'.agree st'.nx N'' → v.av C.D.toTE N'' = v.av C.D.toTE N') ∧ K v st') → JOut C.P C.D f vs st K N s := fun {x} hx he hv => by
    obtain ⟨v, v1, v2, v3⟩ := hv
    refine ⟨hc, s'.g, s'.k, N', v, st', ?_, v2, ?_, ?_, ?_, v3⟩
    · refine fi_ofW hF (by rw [List.length_map]; exact Nat.le_of_ble_eq_true hb) (EW.conseq e1 fun y t ht => ?_)
      obtain ⟨rfl, rfl⟩ := ht
      exact ⟨by rw [he]; exact hx, t, S3.Le.refl', v1, rfl, rfl⟩
    · rw [← hfl]; exact r3.1
    · rw [← hfl]; exact r3.2
    · have r2' : st'.rm = st.rm := r2
      have halv : ∀ a X, (⟨[], st.rm, [], st'.m, st'.nx⟩ : SS τ dn).alv a X → st'.alv a X := fun a X hX => hX.imp id fun h => by rw [r2']; exact h
      refine ⟨fun N'' hN => ⟨fun i v hv => by simp [getS] at hv, fun i v hv => by simp [getS] at hv, (R1.at_ N'' hN).bl, fun nm B hB => (R1.at_ N'' hN).rb nm B (by rw [r2']; exact hB), fun t A h id hid => (R1.at_ N'' hN).ar t A (halv 0 _ h) id hid⟩, R1.inj, R1.lt, R1.ml, fun nm B hB => R1.rl nm B (by rw [r2']; exact hB), fun t A h id hid => ⟨(R1.sp t A (halv 0 _ h) id hid).1, fun nm B hB => (R1.sp t A (halv 0 _ h) id hid).2 nm B (halv nm B hB)⟩⟩
  cases e with
  | normal => exact go (.inl rfl) rfl (fin hk)
  | ret => exact go (.inr rfl) rfl (fin hk)
  | exit i => exact hk.elim
def delW (D : TD τ dn) (t : τ) (vs : List (SV τ dn)) (st : SS τ dn) (K : SV τ dn → SS τ dn → Prop) : Prop :=
  match vs with
  | [.own nm sz, a, b] => match st.gm nm, a.int, b.int with
    | some (.bl t' xs), some (x, _), some (y, _) => if h : t' = t then (bif st.rw nm && Nat.beq sz (D.sz t) then 0 ≤ x ∧ x < xs.length ∧ y = x + 1 ∧ xs.length ≤ 1000000 ∧ K (.own st.nx sz) ⟨st.rt, st.rm, st.t, (st.nx, some (.bl t ((h ▸ xs : List (dn t)).eraseIdx x.toNat))) :: (nm, none) :: st.m, st.nx + 1⟩ else False) else False
    | _, _, _ => False
  | _ => False
theorem delW_ok {P : Program} {f : FuncId} {t : τ} {by_ : Nat} {zs : List AV} (hk : IK.Ok P D f (.del t by_ zs : IK τ dn)) {vs : List (SV τ dn)} {st : SS τ dn} {K : SV τ dn → SS τ dn → Prop} {N : Nms} {s : S3} (R : Rel D N st s) (h : delW D t vs st K) : JOut P D f vs st K N s := by
  obtain ⟨hF, hc, hz⟩ := hk
  unfold delW at h
  split at h
  case h_2 => exact h.elim
  rename_i nm sz a b
  split at h
  case h_2 => exact h.elim
  rename_i t' xs x bx y by1 h1 h2 h3
  split at h
  case isFalse => exact h.elim
  rename_i ht
  subst ht
  cases hb : st.rw nm && Nat.beq sz (D.sz t') with
  | false => rw [hb] at h; exact h.elim
  | true =>
  rw [hb, cond_true] at h
  rw [Bool.and_eq_true] at hb
  obtain ⟨hrw, hs⟩ := hb
  have hs := Nat.eq_of_beq_eq_true hs
  subst hs
  obtain ⟨q1, q2, q3, q4, hK⟩ := h
  unfold SS.rw at hrw
  rw [Bool.and_eq_true] at hrw
  obtain ⟨w1, w2⟩ := hrw
  have hm : getS st.m nm = some (some (.bl t' xs)) := by
    unfold SS.gm at h1
    cases hg : getS st.m nm with
    | none => rw [hg] at w1; simp at w1
    | some B => rw [hg] at h1; simp only at h1; rw [h1]
  have hb0 := R.here.bl nm _ hm
  have R1 : Rel D N st ⟨s.σ, s.g, s.k + 1⟩ := ⟨R.at_, R.inj, fun a ha => Nat.lt_succ_of_lt (R.lt a ha), R.ml, R.rl, fun t A h id hid => ⟨Nat.lt_succ_of_lt (R.sp t A h id hid).1, (R.sp t A h id hid).2⟩⟩
  have hgo := R1.go (n := 0) (d := none) (r := .mov [] (.vo undef) nm (.bl t' (xs.eraseIdx x.toNat))) rfl ⟨⟨_, hm⟩, by simpa using w2, rfl⟩ (val := .v undef) (ups := [(N.ι nm, none), (s.k + 1, some ⟨D.sz t', (xs.eraseIdx x.toNat).map (D.ea N.ρ t')⟩)]) (fun _ _ => rfl) (fun N' hN => by
    have e := hN.1 nm (Nat.lt_succ_of_lt (R.ml nm _ hm))
    have e2 := hN.2
    simp only [SR.up, Nms.upd] at e e2
    have hne : ¬ nm = st.nx := fun e => by have := R.ml nm _ hm; omega
    rw [if_neg hne, if_neg hne] at e
    simp only [SR.ups, SB.av, e.1, e2])
  have hid : N.ι nm < s.k := R.lt nm (R.ml nm _ hm)
  refine ⟨hc, gput s.g [(N.ι nm, none), (s.k + 1, some ⟨D.sz t', (xs.eraseIdx x.toNat).map (D.ea N.ρ t')⟩)], s.k + 2, N.upd st.nx (s.k + 1) (xs.eraseIdx x.toNat).length, .own st.nx (D.sz t'), _, ?_, fun N'' hN => ?_, N.upd_agree _ _ _, Nat.le_succ _, ?_, hK⟩
  · refine fi_look fun m hml hmg => ?_
    have hB : look m (N.ι nm) = some ⟨D.sz t', xs.map (D.ea N.ρ t')⟩ := by rw [hmg]; exact hb0.1
    have := delete_map (P := P) (f := f) (m := m) hF hz hB q1 q2 q4
    rw [q3] at h3
    have hln : N.ln nm = xs.length := hb0.2
    have e1 : [SV.own nm (D.sz t'), a, b].map (SV.av D.toTE N) = [.own (N.ι nm) (D.sz t') 0 xs.length, VI x, VI (x + 1)] := by
      simp only [List.map_cons, List.map_nil, SV.av, hln, int_av h2, int_av h3]
    have e2 : (SV.own st.nx (D.sz t') : SV τ dn).av D.toTE (N.upd st.nx (s.k + 1) (xs.eraseIdx x.toNat).length) = .own (m.length + 1) (D.sz t') 0 (xs.eraseIdx x.toNat).length := by
      simp only [SV.av, Nms.upd, if_true, hml]
    rw [e1, e2]
    have e3 : look (delM m (N.ι nm) ⟨D.sz t', (xs.eraseIdx x.toNat).map (D.ea N.ρ t')⟩) = gput s.g [(N.ι nm, none), (s.k + 1, some ⟨D.sz t', (xs.eraseIdx x.toNat).map (D.ea N.ρ t')⟩)] := by
      rw [← hmg, ← hml]
      rw [← hml] at hid
      funext id
      unfold look delM
      simp only [gput]
      rcases Nat.lt_or_ge id m.length with hl | hl
      · rw [List.getElem?_append_left (by simpa using hl)]
        rw [if_neg (by omega)]
        by_cases hi : id = N.ι nm
        · subst hi; simp [hid]
        · rw [if_neg hi, List.getElem?_set_ne (fun e => hi e.symm)]
      · rw [List.getElem?_append_right (by simpa using hl), List.length_set]
        rcases Nat.lt_trichotomy id (m.length + 1) with h5 | h5 | h5
        · have : id = m.length := by omega
          subst this
          rw [if_neg (by omega), if_neg (by omega)]; simp
        · subst h5
          rw [if_pos rfl]; simp
        · rw [if_neg (by omega), if_neg (by omega), List.getElem?_eq_none (by simp; omega), List.getElem?_eq_none (by omega)]
    have e4 : (delM m (N.ι nm) ⟨D.sz t', (xs.eraseIdx x.toNat).map (D.ea N.ρ t')⟩).length = s.k + 2 := by simp [delM, hml]
    rw [e3, e4] at this
    exact this
  · have := hN.1 st.nx (Nat.lt_succ_self _)
    simp only [SV.av, this.1, this.2]
  · exact ⟨fun N'' hN => ⟨fun i v hv => by simp [getS] at hv, fun i v hv => by simp [getS] at hv, (hgo.at_ N'' hN).bl, (hgo.at_ N'' hN).rb, (hgo.at_ N'' hN).ar⟩, hgo.inj, hgo.lt, hgo.ml, hgo.rl, hgo.sp⟩
def mkJ (P : Program) (D : TD τ dn) (Δ : List (Con τ dn)) (Ω : List (ConO τ dn)) (il : List (IL τ dn)) : Nat → JW τ dn
  | 0, _, _, _, _ => False
  | d + 1, f, vs, st, K => match findI il f vs with
    | some ⟨_, .fn F an, _⟩ => inlW ⟨P, D, Δ, Ω, st.nx, mkJ P D Δ Ω il d⟩ F an vs st K
    | some ⟨_, .del t _ _, _⟩ => delW D t vs st K
    | none => False
theorem mkJ_ok {P : Program} (ok : TDok D) {Δ : List (Con τ dn)} (hΔ : Cons P D Δ) {Ω : List (ConO τ dn)} (hΩ : ConsO P D Ω) {il : List (IL τ dn)} (hil : ILs P D il) : ∀ (d fl : Nat), (⟨P, D, Δ, Ω, fl, mkJ P D Δ Ω il d⟩ : Cfg τ dn).Ok
  | 0, fl => ⟨ok, cons_mem hΔ, consO_mem hΩ, fun _ _ h => h.elim⟩
  | d + 1, fl => ⟨ok, cons_mem hΔ, consO_mem hΩ, fun {f vs st K N s} R ha h => by
    simp only [mkJ] at h
    split at h
    · rename_i F an hi
      obtain ⟨h1, h2⟩ := findI_ok hil hi
      exact inlW_ok (mkJ_ok ok hΔ hΩ hil d st.nx) h1 h2 R rfl ha h
    · rename_i hi
      exact delW_ok (findI_ok hil hi) R h
    · exact h.elim⟩
theorem con_ok {P : Program} (ok : TDok D) {Δ : List (Con τ dn)} (hΔ : Cons P D Δ) {Ω : List (ConO τ dn)} (hΩ : ConsO P D Ω) {F : AFn} (c : Con τ dn) (hF : cFunc P c.f = some F) (hc : callable P c.f = true) (il : PD dn c.ps → List (IL τ dn)) (hil : ∀ x, ILs P D (il x)) (d : Nat) (an : PD dn c.ps → Nat → Option (LA τ dn)) (h : ∀ x, c.pre x → wpF ⟨P, D, Δ, Ω, 0, mkJ P D Δ Ω (il x) d⟩ F (an x) (encP D c.ps x) c.rs (c.res x)) : c.Ok P D :=
  ⟨hc, fun x N hp => wpF_ok (mkJ_ok ok hΔ hΩ (hil x) d 0) hF N (encP_fr ok c.ps x) (h x hp)⟩
end
open Go.RowKit
structure LR (α : Type) where
  sz : Nat
  ea : (Nat → AV) → α → List AV
def LR.i64 : LR Int := ⟨1, fun _ x => [.v (.int .i64 x)]⟩
def LR.u8 : LR UInt8 := ⟨1, fun _ x => [.v (.int .u8 x.toNat)]⟩
def LR.boo : LR Bool := ⟨1, fun _ x => [.v (.bool x)]⟩
def LR.str : LR ByteArray := ⟨1, fun _ x => [.v (.string x)]⟩
def LR.prod {α β : Type} (A : LR α) (B : LR β) : LR (α × β) := ⟨A.sz + B.sz, fun ρ x => A.ea ρ x.1 ++ B.ea ρ x.2⟩
def LR.via {α β : Type} (f : α → β) (B : LR β) : LR α := ⟨B.sz, fun ρ x => B.ea ρ (f x)⟩
def LR.row {α : Type} (A : LR α) : LR (Row α) := ⟨1, fun ρ r => [match r.kd with
  | .nil => .emp
  | .own => .own r.id A.sz 0 r.n
  | .lst => .lst A.sz (r.xs.map (A.ea ρ))]⟩
def LR.list {α : Type} (A : LR α) : LR (List α) := ⟨1, fun ρ xs => [.lst A.sz (xs.map (A.ea ρ))]⟩
section
variable {τ : Type} {dn : τ → Type}
theorem AleL.app {a b c d : List AV} (h : AleL a b) (k : AleL c d) : AleL (a ++ c) (b ++ d) := by
  induction h with
  | nil => exact k
  | cons h t ih => exact .cons h ih
theorem frL_app {p : Nat → Bool} : ∀ {a b : List (SV τ dn)}, SV.frL p (a ++ b) = (SV.frL p a && SV.frL p b)
  | [], b => by simp [SV.frL]
  | v :: a, b => by simp only [List.cons_append, SV.frL, frL_app, Bool.and_assoc]
structure LY (E : TE τ dn) {α : Type} (R : LR α) where
  es : α → List (SV τ dn)
  ds : List (SV τ dn) → Option α
  df : α
  es_av : ∀ (N : Nms) (x : α), (es x).map (SV.av E N) = R.ea N.ρ x
  ds_le : ∀ (N : Nms) (cs : List (SV τ dn)) (x : α), ds cs = some x → AleL (cs.map (SV.av E N)) (R.ea N.ρ x)
  em : Bool
  pu : Bool
  ds_eq : ∀ (N : Nms) (cs : List (SV τ dn)) (x : α), ds cs = some x → (em = true ∨ cs.all SV.ne = true) → cs.map (SV.av E N) = R.ea N.ρ x
  len : ∀ x, (es x).length = R.sz
  one : ∀ x, (es x).all SV.one = true
  nf : ∀ (p : Nat → Bool) x, SV.frL p (es x) = true
  pρ : ∀ (ρ ρ' : Nat → AV) (x : α), R.ea ρ x = R.ea ρ' x
  pu1 : ∀ (N : Nms) (x : α), pu = true → (R.ea N.ρ x).all AV.pu1 = true
variable {E : TE τ dn}
def dsI : List (SV τ dn) → Option Int
  | [.vi x] => some x
  | [.vn x] => some x
  | _ => none
def dsY : List (SV τ dn) → Option UInt8
  | [.vy x] => some x
  | _ => none
def dsB : List (SV τ dn) → Option Bool
  | [.vt x] => some x
  | [.vb c] => some c.den
  | _ => none
def dsZ : List (SV τ dn) → Option ByteArray
  | [.vz x] => some x
  | _ => none
theorem dsI_av {N : Nms} {cs : List (SV τ dn)} {x : Int} (h : dsI cs = some x) : cs.map (SV.av E N) = [.v (.int .i64 x)] := by
  unfold dsI at h; split at h <;> simp only [Option.some.injEq, reduceCtorEq] at h <;> subst h <;> rfl
theorem dsY_av {N : Nms} {cs : List (SV τ dn)} {x : UInt8} (h : dsY cs = some x) : cs.map (SV.av E N) = [.v (.int .u8 x.toNat)] := by
  unfold dsY at h; split at h <;> simp only [Option.some.injEq, reduceCtorEq] at h; subst h; rfl
theorem dsB_av {N : Nms} {cs : List (SV τ dn)} {x : Bool} (h : dsB cs = some x) : cs.map (SV.av E N) = [.v (.bool x)] := by
  unfold dsB at h; split at h <;> simp only [Option.some.injEq, reduceCtorEq] at h <;> subst h <;> rfl
theorem dsZ_av {N : Nms} {cs : List (SV τ dn)} {x : ByteArray} (h : dsZ cs = some x) : cs.map (SV.av E N) = [.v (.string x)] := by
  unfold dsZ at h; split at h <;> simp only [Option.some.injEq, reduceCtorEq] at h; subst h; rfl
theorem AleL.of_eq {a b : List AV} (h : a = b) : AleL a b := by
  subst h
  induction a with
  | nil => exact .nil
  | cons x r ih => exact .cons Ale.refl ih
def LY.i64 : LY E LR.i64 where
  es x := [.vi x]
  ds := dsI
  df := 0
  es_av _ _ := rfl
  ds_le _ _ _ h := .of_eq (dsI_av h)
  em := true
  pu := true
  ds_eq _ _ _ h _ := dsI_av h
  len _ := rfl
  one _ := rfl
  nf _ _ := rfl
  pρ _ _ _ := rfl
  pu1 _ _ _ := rfl
def LY.u8 : LY E LR.u8 where
  es x := [.vy x]
  ds := dsY
  df := 0
  es_av _ _ := rfl
  ds_le _ _ _ h := .of_eq (dsY_av h)
  em := true
  pu := true
  ds_eq _ _ _ h _ := dsY_av h
  len _ := rfl
  one _ := rfl
  nf _ _ := rfl
  pρ _ _ _ := rfl
  pu1 _ _ _ := rfl
def LY.boo : LY E LR.boo where
  es x := [.vb (.b x)]
  ds := dsB
  df := false
  es_av _ _ := rfl
  ds_le _ _ _ h := .of_eq (dsB_av h)
  em := true
  pu := true
  ds_eq _ _ _ h _ := dsB_av h
  len _ := rfl
  one _ := rfl
  nf _ _ := rfl
  pρ _ _ _ := rfl
  pu1 _ _ _ := rfl
def LY.str : LY E LR.str where
  es x := [.vz x]
  ds := dsZ
  df := ByteArray.empty
  es_av _ _ := rfl
  ds_le _ _ _ h := .of_eq (dsZ_av h)
  em := true
  pu := true
  ds_eq _ _ _ h _ := dsZ_av h
  len _ := rfl
  one _ := rfl
  nf _ _ := rfl
  pρ _ _ _ := rfl
  pu1 _ _ _ := rfl
def dsP {α β : Type} (n : Nat) (a : List (SV τ dn) → Option α) (b : List (SV τ dn) → Option β) (cs : List (SV τ dn)) : Option (α × β) :=
  match a (cs.take n), b (cs.drop n) with
  | some x, some y => some (x, y)
  | _, _ => none
theorem dsP_some {α β : Type} {n : Nat} {a : List (SV τ dn) → Option α} {b : List (SV τ dn) → Option β} {cs : List (SV τ dn)} {z : α × β} (h : dsP n a b cs = some z) : a (cs.take n) = some z.1 ∧ b (cs.drop n) = some z.2 := by
  unfold dsP at h
  split at h
  · rename_i x y h1 h2
    simp only [Option.some.injEq] at h; subst h; exact ⟨h1, h2⟩
  · simp at h
def LY.prod {α β : Type} {A : LR α} {B : LR β} (a : LY E A) (b : LY E B) : LY E (A.prod B) where
  es x := a.es x.1 ++ b.es x.2
  ds := dsP A.sz a.ds b.ds
  df := (a.df, b.df)
  es_av N x := by rw [List.map_append, a.es_av, b.es_av]; rfl
  ds_le N cs x h := by
    obtain ⟨h1, h2⟩ := dsP_some h
    have := AleL.app (a.ds_le N _ _ h1) (b.ds_le N _ _ h2)
    rw [← List.map_append, List.take_append_drop] at this
    exact this
  em := a.em && b.em
  pu := a.pu && b.pu
  ds_eq N cs x h hn := by
    obtain ⟨h1, h2⟩ := dsP_some h
    have hn1 : a.em = true ∨ (cs.take A.sz).all SV.ne = true := hn.elim (fun h => .inl (by rw [Bool.and_eq_true] at h; exact h.1)) fun hn => .inr (List.all_eq_true.2 fun v hv => List.all_eq_true.1 hn v (List.mem_of_mem_take hv))
    have hn2 : b.em = true ∨ (cs.drop A.sz).all SV.ne = true := hn.elim (fun h => .inl (by rw [Bool.and_eq_true] at h; exact h.2)) fun hn => .inr (List.all_eq_true.2 fun v hv => List.all_eq_true.1 hn v (List.mem_of_mem_drop hv))
    show _ = A.ea N.ρ x.1 ++ B.ea N.ρ x.2
    rw [← a.ds_eq N _ _ h1 hn1, ← b.ds_eq N _ _ h2 hn2, ← List.map_append, List.take_append_drop]
  len x := by rw [List.length_append, a.len, b.len]; rfl
  one x := by rw [List.all_append, a.one, b.one]; rfl
  nf p x := by rw [frL_app, a.nf, b.nf]; rfl
  pρ ρ ρ' x := by show A.ea ρ x.1 ++ B.ea ρ x.2 = _; rw [a.pρ ρ ρ', b.pρ ρ ρ']; rfl
  pu1 N x h := by
    rw [Bool.and_eq_true] at h
    show (A.ea N.ρ x.1 ++ B.ea N.ρ x.2).all _ = true; rw [List.all_append, a.pu1 _ _ h.1, b.pu1 _ _ h.2]; rfl
def LY.via {α β : Type} {f : α → β} {B : LR β} (g : β → α) (hfg : ∀ y, f (g y) = y) (b : LY E B) : LY E (LR.via f B) where
  es x := b.es (f x)
  ds cs := match b.ds cs with
    | some y => some (g y)
    | none => none
  df := g b.df
  es_av N x := b.es_av N (f x)
  ds_le N cs x h := by
    split at h
    · rename_i y hy
      simp only [Option.some.injEq] at h; subst h
      show AleL _ (B.ea N.ρ (f (g y)))
      rw [hfg]; exact b.ds_le N _ _ hy
    · simp at h
  em := b.em
  pu := b.pu
  ds_eq N cs x h hn := by
    split at h
    · rename_i y hy
      simp only [Option.some.injEq] at h; subst h
      show _ = (B.ea N.ρ (f (g y)))
      rw [hfg]; exact b.ds_eq N _ _ hy hn
    · simp at h
  len x := b.len (f x)
  one x := b.one (f x)
  nf p x := b.nf p (f x)
  pρ ρ ρ' x := b.pρ ρ ρ' (f x)
  pu1 N x h := b.pu1 N (f x) h
def dsE {α : Type} (em : Bool) (ds : List (SV τ dn) → Option α) : List (List (SV τ dn)) → Option (List α)
  | [] => some []
  | cs :: r => if (em || cs.all SV.ne) = true then (match ds cs, dsE em ds r with
    | some x, some l => some (x :: l)
    | _, _ => none) else none
theorem dsE_av {t : τ} {R : LR (dn t)} (A : LY E R) (N : Nms) : ∀ {els : List (List (SV τ dn))} {xs : List (dn t)}, dsE A.em A.ds els = some xs → SV.avM E N els = xs.map (R.ea N.ρ)
  | [], xs, h => by simp only [dsE, Option.some.injEq] at h; subst h; rfl
  | cs :: r, xs, h => by
    simp only [dsE] at h
    split at h
    · rename_i hn
      split at h
      · rename_i x l h1 h2
        simp only [Option.some.injEq] at h; subst h
        simp only [SV.avM, List.map_cons, SV.avL_map, A.ds_eq N _ _ h1 (by rw [Bool.or_eq_true] at hn; exact hn), dsE_av A N h2]
      · simp at h
    · simp at h
section
variable [DecidableEq τ]
def dsL (t : τ) (sz : Nat) (em : Bool) (ds : List (SV τ dn) → Option (dn t)) : List (SV τ dn) → Option (List (dn t))
  | [.vl t' xs] => if h : t' = t then some (h ▸ xs) else none
  | [.vc k els] => if k = sz then dsE em ds els else none
  | [.emp] => some []
  | _ => none
theorem dsL_le {t : τ} {R : LR (dn t)} (A : LY E R) (hs : E.sz t = R.sz) (he : ∀ ρ, E.ea ρ t = R.ea ρ) (N : Nms) {cs : List (SV τ dn)} {xs : List (dn t)} (h : dsL t R.sz A.em A.ds cs = some xs) : AleL (cs.map (SV.av E N)) ((LR.list R).ea N.ρ xs) ∧ (cs.all SV.ne = true → cs.map (SV.av E N) = (LR.list R).ea N.ρ xs) := by
  unfold dsL at h
  split at h
  · rename_i t' ys
    split at h
    · rename_i ht
      subst ht
      simp only [Option.some.injEq] at h; subst h
      have : [SV.vl t' ys].map (SV.av E N) = (LR.list R).ea N.ρ ys := by
        simp only [List.map_cons, List.map_nil, SV.av, hs, he]; rfl
      exact ⟨.of_eq this, fun _ => this⟩
    · simp at h
  · rename_i k els
    split at h
    · rename_i hk
      subst hk
      have : [SV.vc R.sz els].map (SV.av E N) = (LR.list R).ea N.ρ xs := by
        simp only [List.map_cons, List.map_nil, SV.av, dsE_av A N h]; rfl
      exact ⟨.of_eq this, fun _ => this⟩
    · simp at h
  · simp only [Option.some.injEq] at h; subst h
    exact ⟨.cons Ale.emp .nil, fun hn => by simp [SV.ne] at hn⟩
  · simp at h
def LY.list {t : τ} {R : LR (dn t)} (A : LY E R) (hs : E.sz t = R.sz) (he : ∀ ρ, E.ea ρ t = R.ea ρ) : LY E (LR.list R) where
  es x := [.vl t x]
  ds := dsL t R.sz A.em A.ds
  df := []
  es_av N x := by simp only [List.map_cons, List.map_nil, SV.av, hs, he]; rfl
  ds_le N cs x h := (dsL_le A hs he N h).1
  em := false
  pu := true
  ds_eq N cs x h hn := (dsL_le A hs he N h).2 (hn.resolve_left (by simp))
  len _ := rfl
  one _ := rfl
  nf _ _ := rfl
  pρ ρ ρ' x := by show [AV.lst R.sz (x.map (R.ea ρ))] = [AV.lst R.sz (x.map (R.ea ρ'))]; rw [funext fun y => A.pρ ρ ρ' y]
  pu1 _ _ _ := rfl
def dsR (t : τ) (sz : Nat) (em : Bool) (ds : List (SV τ dn) → Option (dn t)) : List (SV τ dn) → Option (Row (dn t))
  | [.rw t' r] => if h : t' = t then some (h ▸ r) else none
  | [.vl t' xs] => if h : t' = t then some (Row.fix _ (h ▸ xs)) else none
  | [.vc k els] => if k = sz then (dsE em ds els).map fun xs => Row.fix _ xs else none
  | [.emp] => some (Row.no _)
  | _ => none
theorem rw_av {t : τ} {R : LR (dn t)} (hs : E.sz t = R.sz) (he : ∀ ρ, E.ea ρ t = R.ea ρ) (N : Nms) (r : Row (dn t)) : [(SV.rw t r : SV τ dn)].map (SV.av E N) = (LR.row R).ea N.ρ r := by
  simp only [List.map_cons, List.map_nil, SV.av, LR.row]
  cases r.kd <;> simp only [hs, he]
theorem dsR_av {t : τ} {R : LR (dn t)} (A : LY E R) (hs : E.sz t = R.sz) (he : ∀ ρ, E.ea ρ t = R.ea ρ) (N : Nms) {cs : List (SV τ dn)} {r : Row (dn t)} (h : dsR t R.sz A.em A.ds cs = some r) : cs.map (SV.av E N) = (LR.row R).ea N.ρ r := by
  unfold dsR at h
  split at h
  · rename_i t' q
    split at h
    · rename_i ht
      subst ht
      simp only [Option.some.injEq] at h; subst h
      exact rw_av hs he N _
    · simp at h
  · rename_i t' ys
    split at h
    · rename_i ht
      subst ht
      simp only [Option.some.injEq] at h; subst h
      simp only [List.map_cons, List.map_nil, SV.av, hs, he]; rfl
    · simp at h
  · rename_i k els
    split at h
    · rename_i hk
      subst hk
      simp only [Option.map_eq_some_iff] at h
      obtain ⟨xs, hx, rfl⟩ := h
      simp only [List.map_cons, List.map_nil, SV.av, dsE_av A N hx]; rfl
    · simp at h
  · simp only [Option.some.injEq] at h; subst h; rfl
  · simp at h
def LY.row {t : τ} {R : LR (dn t)} (A : LY E R) (hs : E.sz t = R.sz) (he : ∀ ρ, E.ea ρ t = R.ea ρ) : LY E (LR.row R) where
  es r := [.rw t r]
  ds := dsR t R.sz A.em A.ds
  df := Row.no _
  es_av N r := rw_av hs he N r
  ds_le N cs x h := .of_eq (dsR_av A hs he N h)
  em := true
  pu := false
  ds_eq N cs x h _ := dsR_av A hs he N h
  len _ := rfl
  one _ := rfl
  nf _ _ := rfl
  pρ ρ ρ' x := by
    simp only [LR.row]
    cases x.kd <;> first | rfl | (rw [funext fun y => A.pρ ρ ρ' y])
  pu1 _ _ h := by simp at h
end
def FzOk (E : TE τ dn) (ta : τ) (A : List (Nat × List (dn ta))) {α β : Type} (R : LR α) (R' : LR β) (f : α → β) (O : α → Prop) : Prop :=
  R'.sz = R.sz ∧ ∀ (N : Nms) (φ : AV → AV), (∀ a, a.pu1 = true → φ a = a) → (∀ id n, hasA A id → (lkA A id).length = n → φ (.own id (E.sz ta) 0 n) = .lst (E.sz ta) ((lkA A id).map (E.ea N.ρ ta))) → ∀ x, O x → (R.ea N.ρ x).map φ = R'.ea N.ρ (f x)
theorem FzOk.row {ta : τ} {A : List (Nat × List (dn ta))} {R : LR (dn ta)} (hs : E.sz ta = R.sz) (he : ∀ ρ, E.ea ρ ta = R.ea ρ) : FzOk E ta A (LR.row R) (LR.list R) (fun r => r.get A) (fun r => r.ok A ∧ r.kd ≠ .nil) := by
  refine ⟨rfl, fun N φ h1 h2 x hx => ?_⟩
  simp only [LR.row, LR.list, List.map_cons, List.map_nil]
  obtain ⟨hx, hn⟩ := hx
  unfold Row.ok at hx
  cases hk : x.kd with
  | nil => exact absurd hk hn
  | own =>
    rw [hk] at hx
    have := h2 x.id x.n hx.1 hx.2
    rw [hs, he] at this
    simp only [this, Row.get, hk]
  | lst => simp only [h1 (.lst R.sz (x.xs.map (R.ea N.ρ))) rfl, Row.get, hk]
abbrev FZ (τ : Type) (dn : τ → Type) : Type := (t ta : τ) → (A : List (Nat × List (dn ta))) → Option ((t' : τ) × (dn t → dn t') × (dn t → Prop))
def TE.ofL (lr : (t : τ) → LR (dn t)) : TE τ dn := ⟨fun t => (lr t).sz, fun ρ t => (lr t).ea ρ⟩
def TD.ofL {lr : (t : τ) → LR (dn t)} (ly : (t : τ) → LY (TE.ofL lr) (lr t)) (ag : τ → Bool) (hint : Nat → Nat → Option τ) (neg : Bool) (ar : Option τ := none) (hr : τ → Bool := fun _ => false) (fz : FZ τ dn := fun _ _ _ => none) : TD τ dn where
  toTE := TE.ofL lr
  df t := (ly t).df
  es t := (ly t).es
  ds t := (ly t).ds
  ag := ag
  pu t := (ly t).pu
  hint := hint
  neg := neg
  em t := (ly t).em
  ar := ar
  hr := hr
  fz := fz
theorem TD.ofL_ok {lr : (t : τ) → LR (dn t)} {ly : (t : τ) → LY (TE.ofL lr) (lr t)} {ag : τ → Bool} {hint : Nat → Nat → Option τ} {neg : Bool} {ar : Option τ} {hr : τ → Bool} {fz : FZ τ dn} (hfz : ∀ (t ta : τ) (A : List (Nat × List (dn ta))) (t' : τ) (f : dn t → dn t') (O : dn t → Prop), fz t ta A = some ⟨t', f, O⟩ → FzOk (TE.ofL lr) ta A (lr t) (lr t') f O := by intro t ta A t' f O h; simp at h) : TDok (TD.ofL ly ag hint neg ar hr fz) where
  es_av N t x := (ly t).es_av N x
  ds_le N t cs x h := (ly t).ds_le N cs x h
  ds_eq N t cs x h hn := (ly t).ds_eq N cs x h (by unfold TD.nee at hn; rw [Bool.or_eq_true] at hn; exact hn)
  len t x := (ly t).len x
  one t x := (ly t).one x
  nf p t x := (ly t).nf p x
  pρ ρ ρ' t x _ := (ly t).pρ ρ ρ' x
  pu1 N t x h := (ly t).pu1 N x h
  fz N φ t ta A t' f O h h1 h2 := ⟨(hfz t ta A t' f O h).1, fun x hx => (hfz t ta A t' f O h).2 N φ h1 h2 x hx⟩
end
open Go.RowKit
structure LG {α : Type} [GoT α] (R : LR α) where
  big : α → Prop
  sz : R.sz = GoT.size α
  av : ∀ {w : World} {cs : List Value} {x : α}, GoT.rep w w.heap.size cs x → R2 (Rep (E0 w fun b => b < w.heap.size)) cs (R.ea (fun _ => .dead) x)
  one : ∀ {w : World} {cs : List Value} {x : α}, GoT.rep w w.heap.size cs x → ∀ v, v ∈ cs → v.oneCell' = true
  pu : ∀ (x : α) c, c ∈ R.ea (fun _ => .dead) x → Pu c
  bg : ∀ {w : World} {cs : List Value} {x : α}, GoT.rep w w.heap.size cs x → big x
theorem R2.app {R : Value → AV → Prop} {vs vs' : List Value} {as_ as' : List AV} (h : R2 R vs as_) (k : R2 R vs' as') : R2 R (vs ++ vs') (as_ ++ as') := by
  induction h with
  | nil => exact k
  | cons h t ih => exact .cons h ih
def LG.i64 : LG LR.i64 where
  big := I64
  sz := rfl
  av h := by obtain ⟨rfl, _⟩ := h; exact .cons (.v rfl) .nil
  one h v hv := by obtain ⟨rfl, _⟩ := h; simp at hv; subst hv; rfl
  pu x c hc := by simp [LR.i64] at hc; subst hc; exact .v
  bg h := h.2
def LG.str : LG LR.str where
  big x := x.size ≤ 9223372036854775807
  sz := rfl
  av h := by obtain ⟨rfl, _⟩ := h; exact .cons (.v rfl) .nil
  one h v hv := by obtain ⟨rfl, _⟩ := h; simp at hv; subst hv; rfl
  pu x c hc := by simp [LR.str] at hc; subst hc; exact .v
  bg h := h.2
def LG.prod {α β : Type} [GoT α] [GoT β] {A : LR α} {B : LR β} (a : LG A) (b : LG B) : LG (A.prod B) where
  big x := a.big x.1 ∧ b.big x.2
  sz := by show A.sz + B.sz = GoT.size α + GoT.size β; rw [a.sz, b.sz]
  av h := by obtain ⟨c0, c1, rfl, h0, h1⟩ := h; exact (a.av h0).app (b.av h1)
  one h v hv := by
    obtain ⟨c0, c1, rfl, h0, h1⟩ := h
    rcases List.mem_append.1 hv with hv | hv
    · exact a.one h0 v hv
    · exact b.one h1 v hv
  pu x c hc := by
    rcases List.mem_append.1 hc with hc | hc
    · exact a.pu _ c hc
    · exact b.pu _ c hc
  bg h := by obtain ⟨c0, c1, rfl, h0, h1⟩ := h; exact ⟨a.bg h0, b.bg h1⟩
def LG.list {α : Type} [GoT α] {A : LR α} (a : LG A) : LG (LR.list A) where
  big xs := xs.length ≤ 9223372036854775807 ∧ ∀ x, x ∈ xs → a.big x
  sz := rfl
  av {w cs xs} h := by
    obtain ⟨A0, n, c, rfl, hn, hle, hc, h⟩ := h
    refine .cons ?_ .nil
    rcases h with rfl | ⟨b, off, rfl, hb, hs⟩
    · simp only [List.length_nil] at hn; subst hn; exact .lst0 hc
    · have get : ∀ (i : Nat) (cs : List AV) (j : Nat) x, (xs.map (A.ea fun _ => .dead))[i]? = some cs → cs[j]? = some x → ∃ u, w.cell? ⟨b, off + i * A.sz + j, none⟩ = some u ∧ u.oneCell' = true ∧ Pu x ∧ Rep (E0 w fun b => b < w.heap.size) u x := by
        intro i cs j x hi hj
        rw [List.getElem?_map, Option.map_eq_some_iff] at hi
        obtain ⟨y, hy, rfl⟩ := hi
        obtain ⟨vs, h1, h2⟩ := hs i y hy
        have r := a.av h1
        have hjl : j < vs.length := by rw [r.len]; exact (List.getElem?_eq_some_iff.1 hj).1
        have hv := List.getElem?_eq_getElem hjl
        refine ⟨vs[j], by rw [a.sz]; exact h2 j _ hv, a.one h1 _ (List.getElem_mem hjl), a.pu y x (List.mem_of_getElem? hj), r.get j _ x hv hj⟩
      refine .lst1 (fun i j => (w.cell? ⟨b, off + i * A.sz + j, none⟩).getD undef) (by simpa using hn) hle hc hb (fun i cs hi => ?_) (fun i cs j x hi hj => ?_) (fun i cs j x hi hj => ?_) (fun i cs j x hi hj => ?_)
      · rw [List.getElem?_map, Option.map_eq_some_iff] at hi
        obtain ⟨y, hy, rfl⟩ := hi
        obtain ⟨vs, h1, _⟩ := hs i y hy
        rw [← (a.av h1).len, GoT.len h1, a.sz]
      all_goals
        obtain ⟨u, k1, k2, k3, k4⟩ := get i cs j x hi hj
      · show w.cell? _ = _; rw [k1]; rfl
      · simp only [k1, Option.getD_some]; exact ⟨k2, k3⟩
      · simp only [k1, Option.getD_some]; exact k4
  one h v hv := by obtain ⟨A0, n, c, rfl, _⟩ := h; simp at hv; subst hv; rfl
  pu xs c hc := by simp [LR.list] at hc; subst hc; exact .lst
  bg {w cs xs} h := by
    obtain ⟨A0, n, c, rfl, hn, hle, hc, h⟩ := h
    refine ⟨by omega, fun x hx => ?_⟩
    rcases h with rfl | ⟨b, off, rfl, hb, hs⟩
    · simp at hx
    · obtain ⟨i, hi⟩ := List.mem_iff_getElem?.1 hx
      obtain ⟨vs, h1, _⟩ := hs i x hi
      exact a.bg h1
def LG.via {α β : Type} [GoT β] {f : α → β} {B : LR β} (b : LG B) : @LG α (GoT.via f) (LR.via f B) :=
  @LG.mk α (GoT.via f) (LR.via f B) (fun x => b.big (f x)) b.sz (fun h => b.av h) (fun h => b.one h) (fun x => b.pu (f x)) fun h => b.bg h
def N0 : Nms := ⟨fun _ => 0, fun _ => 0, fun _ => .dead⟩
section
variable {τ : Type} {dn : τ → Type} {D : TD τ dn}
theorem arg_ag (ok : TDok D) {E : Env} {t : τ} {x : dn t} {cs : List Value} (ha : D.ag t = true) (h : R2 (Rep E) cs (D.ea (fun _ => .dead) t x)) : Rep E (.agg cs.toArray) ((D.en t x).av D.toTE N0) := by
  rw [en_ag ha, SV.av, SV.avL_map, ok.es_av]; exact h.agg
theorem arg_one (ok : TDok D) {E : Env} {t : τ} {x : dn t} {v : Value} (ha : D.ag t = false) (h : R2 (Rep E) [v] (D.ea (fun _ => .dead) t x)) : Rep E v ((D.en t x).av D.toTE N0) := by
  have one : ∀ l : List AV, [v].length = l.length → ∃ b, l = [b] := fun l hl => by
    match l with
    | [b] => exact ⟨b, rfl⟩
    | [] => simp at hl
    | _ :: _ :: _ => simp at hl
  obtain ⟨b, hb⟩ := one _ h.len
  rw [en_one (N := N0) ok ha hb]
  have h2 : R2 (Rep E) [v] [b] := by rw [← hb]; exact h
  cases h2 with | cons h _ => exact h
end
open Go.RowKit
@[ext] structure Cell where
  data : ByteArray
  refs : Int
instance : GoT Cell := GoT.via (fun x => (x.data, x.refs))
@[go_sem, simp] theorem Cell.eta (x : Cell) : (⟨x.data, x.refs⟩ : Cell) = x := rfl
@[ext] structure Store where
  cells : (List Cell)
  maps : (List (List Int))
instance : GoT Store := GoT.via (fun x => (x.cells, x.maps))
@[go_sem, simp] theorem Store.eta (x : Store) : (⟨x.cells, x.maps⟩ : Store) = x := rfl
inductive Tc where
  | cInt
  | cU8
  | cBool
  | cStr
  | cCell
  | cStore
  | cAct
  | lInt
  | lCell
  | lStr
  | lAct
  | llInt
  | llStr
  | lBool
  | rInt
  | rStr
def Tc.no : Tc → Nat
  | .cInt => 0
  | .cU8 => 1
  | .cBool => 2
  | .cStr => 3
  | .cCell => 4
  | .cStore => 5
  | .cAct => 6
  | .lInt => 7
  | .lCell => 8
  | .lStr => 9
  | .lAct => 10
  | .llInt => 11
  | .llStr => 12
  | .lBool => 13
  | .rInt => 14
  | .rStr => 15
def Tc.of : Nat → Tc
  | 0 => .cInt
  | 1 => .cU8
  | 2 => .cBool
  | 3 => .cStr
  | 4 => .cCell
  | 5 => .cStore
  | 6 => .cAct
  | 7 => .lInt
  | 8 => .lCell
  | 9 => .lStr
  | 10 => .lAct
  | 11 => .llInt
  | 12 => .llStr
  | 13 => .lBool
  | 14 => .rInt
  | _ => .rStr
theorem Tc.of_no (a : Tc) : Tc.of a.no = a := by cases a <;> rfl
instance : DecidableEq Tc := fun a b => match Nat.decEq a.no b.no with
  | isTrue h => isTrue (by rw [← Tc.of_no a, h, Tc.of_no])
  | isFalse h => isFalse fun e => h (by rw [e])
abbrev Tc.dn : Tc → Type
  | .cInt => Int
  | .cU8 => UInt8
  | .cBool => Bool
  | .cStr => ByteArray
  | .cCell => Cell
  | .cStore => Store
  | .cAct => Act
  | .lInt => (List Int)
  | .lCell => (List Cell)
  | .lStr => (List ByteArray)
  | .lAct => (List Act)
  | .llInt => (List (List Int))
  | .llStr => (List (List ByteArray))
  | .lBool => (List Bool)
  | .rInt => (Row Int)
  | .rStr => (Row ByteArray)
def lrCell : LR Cell := .via (fun x => (x.data, x.refs)) (.prod LR.str LR.i64)
def lrStore : LR Store := .via (fun x => (x.cells, x.maps)) (.prod (LR.list lrCell) (LR.list (LR.list LR.i64)))
def lrAct : LR Act := .via (fun x => (x.kind, x.n, x.data)) (.prod LR.i64 (.prod LR.i64 LR.str))
def Tc.lr : (t : Tc) → LR t.dn
  | .cInt => LR.i64
  | .cU8 => LR.u8
  | .cBool => LR.boo
  | .cStr => LR.str
  | .cCell => lrCell
  | .cStore => lrStore
  | .cAct => lrAct
  | .lInt => (LR.list LR.i64)
  | .lCell => (LR.list lrCell)
  | .lStr => (LR.list LR.str)
  | .lAct => (LR.list lrAct)
  | .llInt => (LR.list (LR.list LR.i64))
  | .llStr => (LR.list (LR.list LR.str))
  | .lBool => (LR.list LR.boo)
  | .rInt => (LR.row LR.i64)
  | .rStr => (LR.row LR.str)
abbrev tE : TE Tc Tc.dn := TE.ofL Tc.lr
def lyCell : LY tE lrCell := .via (fun y => ⟨y.1, y.2⟩) (fun _ => rfl) (.prod LY.str LY.i64)
def lyStore : LY tE lrStore := .via (fun y => ⟨y.1, y.2⟩) (fun _ => rfl) (.prod (LY.list (t := Tc.cCell) lyCell rfl fun _ => rfl) (LY.list (t := Tc.lInt) (LY.list (t := Tc.cInt) LY.i64 rfl fun _ => rfl) rfl fun _ => rfl))
def lyAct : LY tE lrAct := .via (fun y => ⟨y.1, y.2.1, y.2.2⟩) (fun _ => rfl) (.prod LY.i64 (.prod LY.i64 LY.str))
def Tc.ly : (t : Tc) → LY tE t.lr
  | .cInt => LY.i64
  | .cU8 => LY.u8
  | .cBool => LY.boo
  | .cStr => LY.str
  | .cCell => lyCell
  | .cStore => lyStore
  | .cAct => lyAct
  | .lInt => (LY.list (t := Tc.cInt) LY.i64 rfl fun _ => rfl)
  | .lCell => (LY.list (t := Tc.cCell) lyCell rfl fun _ => rfl)
  | .lStr => (LY.list (t := Tc.cStr) LY.str rfl fun _ => rfl)
  | .lAct => (LY.list (t := Tc.cAct) lyAct rfl fun _ => rfl)
  | .llInt => (LY.list (t := Tc.lInt) (LY.list (t := Tc.cInt) LY.i64 rfl fun _ => rfl) rfl fun _ => rfl)
  | .llStr => (LY.list (t := Tc.lStr) (LY.list (t := Tc.cStr) LY.str rfl fun _ => rfl) rfl fun _ => rfl)
  | .lBool => (LY.list (t := Tc.cBool) LY.boo rfl fun _ => rfl)
  | .rInt => (LY.row (t := Tc.cInt) LY.i64 rfl fun _ => rfl)
  | .rStr => (LY.row (t := Tc.cStr) LY.str rfl fun _ => rfl)
def Tc.ag : Tc → Bool
  | .cCell | .cStore | .cAct => true
  | _ => false
def hintT (sz bytes : Nat) : Option Tc := bif Nat.beq sz 1 && Nat.beq bytes 8 then some .cInt else bif Nat.beq sz 1 && Nat.beq bytes 1001 then some .cBool else bif Nat.beq sz 1 && Nat.beq bytes 24 then some .rInt else bif Nat.beq sz 1 && Nat.beq bytes 16 then some .cStr else bif Nat.beq sz 2 && Nat.beq bytes 24 then some .cCell else none
def hrT : Tc → Bool
  | .rInt | .rStr => true
  | _ => false
def fzT : FZ Tc Tc.dn := fun t ta => match t, ta with
  | .rInt, .cInt => fun A => some ⟨.lInt, fun x => x.get A, fun x => x.ok A ∧ x.kd ≠ .nil⟩
  | _, _ => fun _ => none
theorem fzT_ok (t ta : Tc) (A : List (Nat × List ta.dn)) (t' : Tc) (f : t.dn → t'.dn) (O : t.dn → Prop) (h : fzT t ta A = some ⟨t', f, O⟩) : FzOk tE ta A t.lr t'.lr f O := by
  unfold fzT at h
  split at h
  · cases h; exact FzOk.row rfl fun _ => rfl
  · simp at h
def tD : TD Tc Tc.dn := TD.ofL Tc.ly Tc.ag hintT false (some .cInt) hrT fzT
theorem tD_ok : TDok tD := TD.ofL_ok fzT_ok
def lgCell : LG lrCell := LG.via (LG.prod LG.str LG.i64)
def lgStore : LG lrStore := LG.via (LG.prod (LG.list lgCell) (LG.list (LG.list LG.i64)))
theorem opens_i64 : Opens Try.prog 3 Int := GoT_i64 Try.underlying3 (by kernel_rfl)
theorem opens_str : Opens Try.prog 9 ByteArray := GoT_str Try.underlying9 (by kernel_rfl)
theorem opens_Cell : Opens Try.prog 33 Cell := Opens.via (opens_struct Try.underlying33 rfl (by kernel_rfl) (opens_cons opens_str rfl (opens_last opens_i64 rfl))) _ (fun p => ⟨p.1, p.2⟩) (fun _ => rfl)
theorem opens_LCell : Opens Try.prog 22 (List Cell) := opens_slice Try.underlying22 (by kernel_rfl) opens_Cell (by decide)
theorem opens_Li64 : Opens Try.prog 34 (List Int) := opens_slice Try.underlying34 (by kernel_rfl) opens_i64 (by decide)
theorem opens_LLi64 : Opens Try.prog 23 (List (List Int)) := opens_slice Try.underlying23 (by kernel_rfl) opens_Li64 (by decide)
theorem opens_Store : Opens Try.prog 25 Store := Opens.via (opens_struct Try.underlying25 rfl (by kernel_rfl) (opens_cons opens_LCell rfl (opens_last opens_LLi64 rfl))) _ (fun p => ⟨p.1, p.2⟩) (fun _ => rfl)
def cnt : List (List Int) → Int → Nat
  | [], _ => 0
  | r :: rs, c => r.count c + cnt rs c
theorem cnt_app : ∀ (a b : List (List Int)) (c : Int), cnt (a ++ b) c = cnt a c + cnt b c
  | [], b, c => by simp [cnt]
  | r :: rs, b, c => by simp only [List.cons_append, cnt, cnt_app rs b c]; omega
theorem count_set1 : ∀ (r : List Int) (i : Nat) (x y c : Int), r[i]? = some x → (r.set i y).count c + (if x = c then 1 else 0) = r.count c + (if y = c then 1 else 0)
  | [], i, x, y, c, h => by simp at h
  | a :: r, 0, x, y, c, h => by
    simp at h; subst h
    simp only [List.set_cons_zero, List.count_cons, beq_iff_eq]; omega
  | a :: r, i + 1, x, y, c, h => by
    have ih := count_set1 r i x y c (by simpa using h)
    simp only [List.set_cons_succ, List.count_cons]; omega
theorem cnt_set : ∀ (maps : List (List Int)) (m : Nat) (r q : List Int) (c : Int), maps[m]? = some r → cnt (maps.set m q) c + r.count c = cnt maps c + q.count c
  | [], m, r, q, c, h => by simp at h
  | a :: rs, 0, r, q, c, h => by simp at h; subst h; simp only [List.set_cons_zero, cnt]; omega
  | a :: rs, m + 1, r, q, c, h => by
    have ih := cnt_set rs m r q c (by simpa using h)
    simp only [List.set_cons_succ, cnt]; omega
theorem cnt_erase : ∀ (maps : List (List Int)) (m : Nat) (r : List Int) (c : Int), maps[m]? = some r → cnt (maps.eraseIdx m) c + r.count c = cnt maps c
  | [], m, r, c, h => by simp at h
  | a :: rs, 0, r, c, h => by simp at h; subst h; simp only [List.eraseIdx_cons_zero, cnt]; omega
  | a :: rs, m + 1, r, c, h => by
    have ih := cnt_erase rs m r c (by simpa using h)
    simp only [List.eraseIdx_cons_succ, cnt]; omega
theorem cnt_set2 {maps : List (List Int)} {m b : Nat} {r : List Int} {x y c : Int} (hr : maps[m]? = some r) (hx : r[b]? = some x) : cnt (maps.set m (r.set b y)) c + (if x = c then 1 else 0) = cnt maps c + (if y = c then 1 else 0) := by
  have h1 := cnt_set maps m r (r.set b y) c hr
  have h2 := count_set1 r b x y c hx
  omega
theorem cnt_pos : ∀ {maps : List (List Int)} {m b : Nat} {r : List Int} {x : Int}, maps[m]? = some r → r[b]? = some x → 1 ≤ cnt maps x
  | [], m, b, r, x, h, _ => by simp at h
  | a :: rs, 0, b, r, x, h, hx => by
    simp at h; subst h
    have := List.count_pos_iff.2 (List.mem_of_getElem? hx)
    simp only [cnt]; omega
  | a :: rs, m + 1, b, r, x, h, hx => by
    have := cnt_pos (maps := rs) (m := m) (by simpa using h) hx
    simp only [cnt]; omega
theorem cnt_two {maps : List (List Int)} {m b m' b' : Nat} {r r' : List Int} {x : Int} (hr : maps[m]? = some r) (hx : r[b]? = some x) (hr' : maps[m']? = some r') (hx' : r'[b']? = some x) (hne : ¬ (m = m' ∧ b = b')) : 2 ≤ cnt maps x := by
  have h1 := cnt_set2 (y := x + 1) (c := x) hr hx
  rw [if_pos rfl, if_neg (by omega)] at h1
  have h2 : 1 ≤ cnt (maps.set m (r.set b (x + 1))) x := by
    by_cases hm : m = m'
    · subst hm
      rw [hr] at hr'; simp only [Option.some.injEq] at hr'; subst hr'
      refine cnt_pos (m := m) (b := b') (r := r.set b (x + 1)) ?_ ?_
      · rw [List.getElem?_set_self (List.getElem?_eq_some_iff.1 hr).1]
      · rw [List.getElem?_set_ne (fun h => hne ⟨rfl, h⟩)]; exact hx'
    · exact cnt_pos (m := m') (b := b') (by rw [List.getElem?_set_ne hm]; exact hr') hx'
  omega
def setC (maps : List (List Int)) : List Cell → Int → List Cell
  | [], _ => []
  | c :: r, i => (if cnt maps i = 0 then ⟨⟨#[]⟩, 0⟩ else ⟨c.data, (cnt maps i : Int)⟩) :: setC maps r (i + 1)
def setl (cells : List Cell) (maps : List (List Int)) : Store := ⟨setC maps cells 0, maps⟩
theorem setC_len (maps : List (List Int)) : ∀ (l : List Cell) (i : Int), (setC maps l i).length = l.length
  | [], i => rfl
  | c :: r, i => by simp only [setC, List.length_cons, setC_len maps r (i + 1)]
theorem setC_get (maps : List (List Int)) : ∀ (l : List Cell) (i : Int) (j : Nat) (c : Cell), l[j]? = some c → (setC maps l i)[j]? = some (if cnt maps (i + j) = 0 then ⟨⟨#[]⟩, 0⟩ else ⟨c.data, (cnt maps (i + j) : Int)⟩)
  | [], i, j, c, h => by simp at h
  | a :: r, i, 0, c, h => by simp at h; subst h; simp [setC]
  | a :: r, i, j + 1, c, h => by
    have ih := setC_get maps r (i + 1) j c (by simpa using h)
    simp only [setC, List.getElem?_cons_succ]
    rw [ih, show i + 1 + (j : Int) = i + ((j + 1 : Nat) : Int) by omega]
abbrev Cell.nil : Cell := ⟨ByteArray.empty, 0⟩
structure Store.Ok (s : Store) : Prop where
  cl : s.cells.length ≤ 200
  ml : 1 ≤ s.maps.length ∧ s.maps.length ≤ 12
  w : ∀ r, r ∈ s.maps → r.length = (gd [] s.maps 0).length
  w0 : 1 ≤ (gd [] s.maps 0).length ∧ (gd [] s.maps 0).length ≤ 32
  inn : ∀ r, r ∈ s.maps → ∀ c, c ∈ r → 0 ≤ c ∧ c < s.cells.length
  sz : ∀ c, c ∈ s.cells → c.data.size ≤ 64
  st : setl s.cells s.maps = s
def rdS (s : Store) (m b : Nat) : ByteArray := (gd Cell.nil s.cells (gd 0 (gd [] s.maps m) b).toNat).data
theorem rd_setl {cells : List Cell} {maps : List (List Int)} {m b : Nat} {r : List Int} {x : Int} (hr : maps[m]? = some r) (hx : r[b]? = some x) (h0 : 0 ≤ x) (hl : x < cells.length) : rdS (setl cells maps) m b = (gd Cell.nil cells x.toNat).data := by
  have e1 : gd [] maps m = r := by unfold gd; rw [hr]; rfl
  have e2 : gd 0 r b = x := by unfold gd; rw [hx]; rfl
  unfold rdS setl
  simp only [e1, e2]
  have hc := gd_get (d := Cell.nil) (xs := cells) (i := x.toNat) (by omega)
  have h := setC_get maps cells 0 x.toNat _ hc
  rw [show (0 : Int) + (x.toNat : Int) = x by omega, if_neg (by have := cnt_pos hr hx; omega)] at h
  unfold gd at h ⊢
  rw [h]; rfl
theorem setl_ok {cells : List Cell} {maps : List (List Int)} (cl : cells.length ≤ 200) (ml : 1 ≤ maps.length ∧ maps.length ≤ 12) (w : ∀ r, r ∈ maps → r.length = (gd [] maps 0).length) (w0 : 1 ≤ (gd [] maps 0).length ∧ (gd [] maps 0).length ≤ 32) (inn : ∀ r, r ∈ maps → ∀ c, c ∈ r → 0 ≤ c ∧ c < cells.length) (sz : ∀ c, c ∈ cells → c.data.size ≤ 64) : (setl cells maps).Ok := by
  have twice : ∀ (l : List Cell) (i : Int), setC maps (setC maps l i) i = setC maps l i := by
    intro l
    induction l with
    | nil => intro i; rfl
    | cons c r ih =>
      intro i
      simp only [setC, ih (i + 1)]
      congr 1
      by_cases h : cnt maps i = 0
      · rw [if_pos h, if_pos h]
      · rw [if_neg h, if_neg h]
  have small : ∀ (l : List Cell) (i : Int), (∀ c, c ∈ l → c.data.size ≤ 64) → ∀ c, c ∈ setC maps l i → c.data.size ≤ 64 := by
    intro l
    induction l with
    | nil => intro i _ c hc; simp [setC] at hc
    | cons a r ih =>
      intro i hs c hc
      simp only [setC, List.mem_cons] at hc
      rcases hc with rfl | hc
      · split
        · decide
        · exact hs a (by simp)
      · exact ih (i + 1) (fun c hc => hs c (by simp [hc])) c hc
  refine ⟨by simp only [setl, setC_len]; exact cl, ml, w, w0, by simp only [setl, setC_len]; exact inn, small cells 0 sz, ?_⟩
  unfold setl; simp only [twice]
theorem Store.Ok.at {s : Store} (h : s.Ok) {m b : Nat} (hm : m < s.maps.length) (hb : b < (gd [] s.maps 0).length) : ∃ r x, s.maps[m]? = some r ∧ r[b]? = some x ∧ gd [] s.maps m = r ∧ gd 0 r b = x ∧ 0 ≤ x ∧ x < s.cells.length ∧ r ∈ s.maps ∧ r.length = (gd [] s.maps 0).length := by
  have hr := gd_get (d := ([] : List Int)) hm
  have hmem := List.mem_of_getElem? hr
  have hw := h.w _ hmem
  have hx := gd_get (d := (0 : Int)) (xs := gd [] s.maps m) (i := b) (by omega)
  have hi := h.inn _ hmem _ (List.mem_of_getElem? hx)
  exact ⟨_, _, hr, hx, rfl, rfl, hi.1, hi.2, hmem, hw⟩
theorem rdS_at {s : Store} {m b : Nat} {r : List Int} {x : Int} (hr : s.maps[m]? = some r) (hx : r[b]? = some x) : rdS s m b = (gd Cell.nil s.cells x.toNat).data := by
  have e1 : gd [] s.maps m = r := by unfold gd; rw [hr]; rfl
  have e2 : gd 0 r b = x := by unfold gd; rw [hx]; rfl
  unfold rdS; simp only [e1, e2]
def freeI (maps : List (List Int)) (n : Nat) : Nat := ((List.range n).find? fun (c : Nat) => decide (cnt maps (c : Int) = 0)).getD n
theorem freeI_is {maps : List (List Int)} {n : Nat} : freeI maps n = n ∨ (freeI maps n < n ∧ cnt maps (freeI maps n : Nat) = 0) := by
  unfold freeI
  cases h : (List.range n).find? fun (c : Nat) => decide (cnt maps (c : Int) = 0) with
  | none => exact .inl rfl
  | some c =>
    right
    have h1 := List.find?_some h
    have h2 := List.mem_of_find?_eq_some h
    exact ⟨by simpa using h2, by simpa using h1⟩
def Store.zero : Store := ⟨[], []⟩
def writeS (s : Store) (b : Nat) (d : ByteArray) : Store × Int :=
  if cnt s.maps (gd 0 (gd [] s.maps 0) b) ≤ 1 then (setl (s.cells.set (gd 0 (gd [] s.maps 0) b).toNat ⟨d, 0⟩) s.maps, 0)
  else if freeI s.maps s.cells.length = 200 then (Store.zero, 2)
  else (setl ((if freeI s.maps s.cells.length = s.cells.length then s.cells ++ [Cell.nil] else s.cells).set (freeI s.maps s.cells.length) ⟨d, 0⟩) (s.maps.set 0 ((gd [] s.maps 0).set b (freeI s.maps s.cells.length : Nat))), 0)
def snapS (s : Store) : Store := setl s.cells (s.maps ++ [gd [] s.maps 0])
def dropS (s : Store) (m : Nat) : Store := setl s.cells (s.maps.eraseIdx m)
def backS (s : Store) (m : Nat) : Store := setl s.cells (s.maps.set 0 (gd [] s.maps m))
theorem write_law {s : Store} (h : s.Ok) {b : Nat} (hb : b < (gd [] s.maps 0).length) {d : ByteArray} (hd : d.size ≤ 64) (he : (writeS s b d).2 = 0) :
    (writeS s b d).1.Ok ∧ (writeS s b d).1.maps.length = s.maps.length ∧ (gd [] (writeS s b d).1.maps 0).length = (gd [] s.maps 0).length ∧
    rdS (writeS s b d).1 0 b = d ∧ ∀ m b', m < s.maps.length → b' < (gd [] s.maps 0).length → ¬ (m = 0 ∧ b' = b) → rdS (writeS s b d).1 m b' = rdS s m b' := by
  obtain ⟨r, x, hr, hx, er, ex, x0, x1, hmem, hw⟩ := h.at (m := 0) (by have := h.ml; omega) hb
  have h0 : 0 < s.maps.length := by have := h.ml; omega
  unfold writeS at he ⊢
  rw [er] at he hw ⊢
  rw [ex] at he ⊢
  by_cases hc : cnt s.maps x ≤ 1
  · rw [if_pos hc]
    have hset : ∀ y : Int, y ≠ x → 0 ≤ y → gd Cell.nil (s.cells.set x.toNat ⟨d, 0⟩) y.toNat = gd Cell.nil s.cells y.toNat := fun y hy hy0 => by unfold gd; rw [List.getElem?_set_ne (by omega)]
    have hself : gd Cell.nil (s.cells.set x.toNat ⟨d, 0⟩) x.toNat = ⟨d, 0⟩ := by unfold gd; rw [List.getElem?_set_self (by omega)]; rfl
    have hl : (s.cells.set x.toNat ⟨d, 0⟩).length = s.cells.length := by simp
    refine ⟨setl_ok (by rw [hl]; exact h.cl) h.ml h.w h.w0 (by rw [hl]; exact h.inn) (fun c hc' => ?_), rfl, by simp only [setl]; rw [er], ?_, fun m b' hm hb' hne => ?_⟩
    · rcases List.mem_or_eq_of_mem_set hc' with hc' | rfl
      · exact h.sz c hc'
      · exact hd
    · rw [rd_setl hr hx x0 (by rw [hl]; exact x1), hself]
    · obtain ⟨r', x', hr', hx', _, _, x0', x1', _⟩ := h.at hm (b := b') (by rw [er]; exact hb')
      rw [rd_setl hr' hx' x0' (by rw [hl]; exact x1'), rdS_at hr' hx', hset x' (fun hxx => ?_) x0']
      subst hxx
      have := cnt_two hr hx hr' hx' (fun hh => hne ⟨hh.1.symm, hh.2.symm⟩)
      omega
  · rw [if_neg hc] at he ⊢
    have hf := freeI_is (maps := s.maps) (n := s.cells.length)
    generalize freeI s.maps s.cells.length = c at he hf ⊢
    by_cases h2 : c = 200
    · rw [if_pos h2] at he; simp at he
    rw [if_neg h2]
    have hcl := h.cl
    generalize hC : (if c = s.cells.length then s.cells ++ [Cell.nil] else s.cells) = C
    have hCl : s.cells.length ≤ C.length ∧ c < C.length ∧ C.length ≤ 200 := by
      rw [← hC]; split
      · simp only [List.length_append, List.length_singleton]; omega
      · omega
    have hCg : ∀ y : Nat, y < s.cells.length → gd Cell.nil C y = gd Cell.nil s.cells y := fun y hy => by
      rw [← hC]; split
      · unfold gd; rw [List.getElem?_append_left hy]
      · rfl
    have hCs : ∀ q, q ∈ C → q.data.size ≤ 64 := fun q hq => by
      rw [← hC] at hq; split at hq
      · rcases List.mem_append.1 hq with hq | hq
        · exact h.sz q hq
        · simp at hq; subst hq; decide
      · exact h.sz q hq
    have hcx : (c : Int) ≠ x := fun e => by
      rcases hf with hf | ⟨_, hf⟩
      · omega
      · rw [e] at hf; omega
    have hl : (C.set c ⟨d, 0⟩).length = C.length := by simp
    have hm0 : (s.maps.set 0 (r.set b (c : Int)))[0]? = some (r.set b (c : Int)) := List.getElem?_set_self h0
    have eg0 : gd [] (s.maps.set 0 (r.set b (c : Int))) 0 = r.set b (c : Int) := by unfold gd; rw [hm0]; rfl
    have hrb : b < r.length := (List.getElem?_eq_some_iff.1 hx).1
    have hself : gd Cell.nil (C.set c ⟨d, 0⟩) c = ⟨d, 0⟩ := by unfold gd; rw [List.getElem?_set_self hCl.2.1]; rfl
    have hset : ∀ y : Nat, y ≠ c → gd Cell.nil (C.set c ⟨d, 0⟩) y = gd Cell.nil C y := fun y hy => by unfold gd; rw [List.getElem?_set_ne (fun hh => hy hh.symm)]
    refine ⟨setl_ok (by rw [hl]; exact hCl.2.2) (by simp only [List.length_set]; exact h.ml) (fun q hq => ?_) (by rw [eg0, List.length_set, ← er]; exact h.w0) (fun q hq y hy => ?_) (fun q hq => ?_), by simp [setl], by simp only [setl]; rw [eg0, List.length_set], ?_, fun m b' hm hb' hne => ?_⟩
    · rw [eg0, List.length_set]
      rcases List.mem_or_eq_of_mem_set hq with hq | rfl
      · rw [h.w q hq, er]
      · rw [List.length_set]
    · rw [hl]
      have old : ∀ q, q ∈ s.maps → ∀ y, y ∈ q → 0 ≤ y ∧ y < C.length := fun q hq y hy => by have := h.inn q hq y hy; omega
      rcases List.mem_or_eq_of_mem_set hq with hq | rfl
      · exact old q hq y hy
      · rcases List.mem_or_eq_of_mem_set hy with hy | rfl
        · exact old r hmem y hy
        · omega
    · rcases List.mem_or_eq_of_mem_set hq with hq | rfl
      · exact hCs q hq
      · exact hd
    · rw [rd_setl hm0 (List.getElem?_set_self hrb) (by omega) (by rw [hl]; omega), Int.toNat_natCast, hself]
    · obtain ⟨r', x', hr', hx', _, _, x0', x1', _⟩ := h.at hm (b := b') (by rw [er]; exact hb')
      have hcx' : c ≠ x'.toNat := fun e => by
        rcases hf with hf | ⟨_, hf⟩
        · omega
        · have := cnt_pos hr' hx'
          rw [show (c : Int) = x' by omega] at hf; omega
      have hget : ∃ r2, (s.maps.set 0 (r.set b (c : Int)))[m]? = some r2 ∧ r2[b']? = some x' := by
        by_cases hm' : m = 0
        · subst hm'
          rw [hr] at hr'; simp only [Option.some.injEq] at hr'; subst hr'
          exact ⟨_, hm0, by rw [List.getElem?_set_ne (fun hh => hne ⟨rfl, hh.symm⟩)]; exact hx'⟩
        · exact ⟨r', by rw [List.getElem?_set_ne (fun hh => hm' hh.symm)]; exact hr', hx'⟩
      obtain ⟨r2, g1, g2⟩ := hget
      rw [rd_setl g1 g2 x0' (by rw [hl]; omega), rdS_at hr' hx', hset _ (fun hh => hcx' hh.symm), hCg _ (by omega)]
theorem remap_law {s : Store} (h : s.Ok) {maps : List (List Int)} (ml : 1 ≤ maps.length ∧ maps.length ≤ 12) (hsub : ∀ r, r ∈ maps → r ∈ s.maps) : (setl s.cells maps).Ok ∧ (gd [] maps 0).length = (gd [] s.maps 0).length ∧
    ∀ m k b, gd [] maps m = gd [] s.maps k → m < maps.length → k < s.maps.length → b < (gd [] s.maps 0).length → rdS (setl s.cells maps) m b = rdS s k b := by
  have hg0 := List.mem_of_getElem? (gd_get (d := ([] : List Int)) (xs := maps) (i := 0) (by omega))
  have e0 := h.w _ (hsub _ hg0)
  refine ⟨setl_ok h.cl ml (fun r hr => by rw [e0]; exact h.w r (hsub r hr)) (by rw [e0]; exact h.w0) (fun r hr => h.inn r (hsub r hr)) h.sz, e0, fun m k b hmk hm hk hb => ?_⟩
  obtain ⟨r', x', hr', hx', e1, e2, x0', x1', _⟩ := h.at hk hb
  have hr := gd_get (d := ([] : List Int)) hm
  rw [hmk, e1] at hr
  rw [rd_setl hr hx' x0' x1', rdS_at hr' hx']
theorem snap_law {s : Store} (h : s.Ok) (hm : s.maps.length < 12) : (snapS s).Ok ∧ (snapS s).maps.length = s.maps.length + 1 ∧ (gd [] (snapS s).maps 0).length = (gd [] s.maps 0).length ∧
    (∀ m b, m < s.maps.length → b < (gd [] s.maps 0).length → rdS (snapS s) m b = rdS s m b) ∧ ∀ b, b < (gd [] s.maps 0).length → rdS (snapS s) s.maps.length b = rdS s 0 b := by
  have h0 : 0 < s.maps.length := by have := h.ml; omega
  have hg0 := List.mem_of_getElem? (gd_get (d := ([] : List Int)) h0)
  have R := remap_law h (maps := s.maps ++ [gd [] s.maps 0]) (by simp; omega) (fun r hr => by
    rcases List.mem_append.1 hr with hr | hr
    · exact hr
    · simp at hr; subst hr; exact hg0)
  refine ⟨R.1, by simp [snapS, setl], R.2.1, fun m b hm' hb => R.2.2 m m b ?_ (by simp; omega) hm' hb, fun b hb => R.2.2 s.maps.length 0 b ?_ (by simp) h0 hb⟩
  · unfold gd; rw [List.getElem?_append_left hm']
  · unfold gd; simp
theorem back_law {s : Store} (h : s.Ok) {m : Nat} (hm : m < s.maps.length) : (backS s m).Ok ∧ (backS s m).maps.length = s.maps.length ∧ (gd [] (backS s m).maps 0).length = (gd [] s.maps 0).length ∧
    (∀ b, b < (gd [] s.maps 0).length → rdS (backS s m) 0 b = rdS s m b) ∧ ∀ k b, 1 ≤ k → k < s.maps.length → b < (gd [] s.maps 0).length → rdS (backS s m) k b = rdS s k b := by
  have h0 : 0 < s.maps.length := by omega
  have hgm := List.mem_of_getElem? (gd_get (d := ([] : List Int)) hm)
  have R := remap_law h (maps := s.maps.set 0 (gd [] s.maps m)) (by rw [List.length_set]; exact h.ml) (fun r hr => by
    rcases List.mem_or_eq_of_mem_set hr with hr | rfl
    · exact hr
    · exact hgm)
  refine ⟨R.1, by simp [backS, setl], R.2.1, fun b hb => R.2.2 0 m b ?_ (by rw [List.length_set]; exact h0) hm hb, fun k b hk hk2 hb => R.2.2 k k b ?_ (by rw [List.length_set]; exact hk2) hk2 hb⟩
  · generalize gd [] s.maps m = q
    unfold gd; rw [List.getElem?_set_self h0]; rfl
  · generalize gd [] s.maps m = q
    unfold gd; rw [List.getElem?_set_ne (by omega)]
theorem setC_less {maps maps' : List (List Int)} (hm : ∀ c : Int, cnt maps c ≠ 0 → cnt maps' c ≠ 0) : ∀ (l : List Cell) (i : Int), setC maps (setC maps' l i) i = setC maps l i
  | [], i => rfl
  | c :: r, i => by
    simp only [setC, setC_less hm r (i + 1)]
    congr 1
    by_cases h : cnt maps i = 0
    · rw [if_pos h, if_pos h]
    · rw [if_neg h, if_neg h, if_neg (hm i h)]
theorem twice_law {s : Store} (h : s.Ok) (hm : s.maps.length < 12) : dropS (snapS s) s.maps.length = s ∧ backS (snapS s) s.maps.length = snapS s := by
  have h0 : 0 < s.maps.length := by have := h.ml; omega
  have hS := (snap_law h hm).1
  constructor
  · have e1 : (snapS s).maps.eraseIdx s.maps.length = s.maps := by
      show (s.maps ++ [gd [] s.maps 0]).eraseIdx s.maps.length = s.maps
      rw [List.eraseIdx_append_of_length_le (Nat.le_refl _)]; simp
    unfold dropS
    rw [e1]
    have e2 : setl (snapS s).cells s.maps = setl s.cells s.maps := by
      unfold snapS setl
      simp only
      rw [setC_less fun c hc => by rw [cnt_app]; omega]
    rw [e2, h.st]
  · unfold backS
    have e1 : (snapS s).maps.set 0 (gd [] (snapS s).maps s.maps.length) = (snapS s).maps := by
      have e2 : gd [] (snapS s).maps s.maps.length = gd [] s.maps 0 := by
        show gd [] (s.maps ++ [gd [] s.maps 0]) s.maps.length = _
        generalize gd [] s.maps 0 = q
        unfold gd; simp
      rw [e2]
      show (s.maps ++ [gd [] s.maps 0]).set 0 (gd [] s.maps 0) = s.maps ++ [gd [] s.maps 0]
      cases hh : s.maps with
      | nil => rw [hh] at h0; simp at h0
      | cons a r => rfl
    rw [e1, hS.st]
def named : List Cell → Nat
  | [] => 0
  | c :: r => (if c.refs > 0 then 1 else 0) + named r
def cellsB (maps : List (List Int)) : List Cell → Int → Bool
  | [], _ => true
  | c :: r, i => decide (c.refs = (cnt maps i : Int)) && decide (c.refs = 0 → c.data.size = 0) && cellsB maps r (i + 1)
theorem cellsB_iff {maps : List (List Int)} : ∀ {l : List Cell} {i : Int}, cellsB maps l i = true ↔ setC maps l i = l
  | [], i => by simp [cellsB, setC]
  | c :: r, i => by
    simp only [cellsB, setC, Bool.and_eq_true, decide_eq_true_eq, List.cons.injEq, cellsB_iff (l := r) (i := i + 1)]
    refine and_congr_left fun _ => ?_
    obtain ⟨d, n⟩ := c
    simp only
    by_cases h : cnt maps i = 0
    · rw [if_pos h, Cell.mk.injEq, h]
      constructor
      · rintro ⟨rfl, h2⟩
        refine ⟨?_, rfl⟩
        apply ByteArray.ext
        have := h2 rfl
        exact (Array.eq_empty_of_size_eq_zero this).symm
      · rintro ⟨rfl, rfl⟩; exact ⟨rfl, fun _ => rfl⟩
    · rw [if_neg h, Cell.mk.injEq]
      constructor
      · rintro ⟨rfl, h2⟩; exact ⟨rfl, rfl⟩
      · rintro ⟨_, rfl⟩; exact ⟨rfl, fun h3 => by omega⟩
def Store.checkE (s : Store) : Int :=
  if s.cells.length > 200 ∨ s.maps.length > 12 then 2 else if s.maps.length = 0 ∨ (gd [] s.maps 0).length = 0 then 8
  else if ¬ ∀ r, r ∈ s.maps → r.length = (gd [] s.maps 0).length then 1 else if (gd [] s.maps 0).length > 32 then 2
  else if ¬ ∀ r, r ∈ s.maps → ∀ c, c ∈ r → 0 ≤ c ∧ c < s.cells.length then 3 else if ¬ ∀ c, c ∈ s.cells → c.data.size ≤ 64 then 2
  else if ¬ cellsB s.maps s.cells 0 = true then 4 else 0
theorem Store.ok_iff {s : Store} : s.checkE = 0 ↔ s.Ok := by
  unfold Store.checkE
  constructor
  · intro h
    repeat' split at h
    all_goals first
      | (exfalso; simp at h; done)
      | skip
    rename_i h1 h2 h3 h4 h5 h6 h7
    refine ⟨by omega, by omega, Classical.not_not.1 h3, by omega, Classical.not_not.1 h5, Classical.not_not.1 h6, ?_⟩
    have := cellsB_iff.1 (Classical.not_not.1 h7)
    unfold setl; rw [this]
  · intro h
    have e : setC s.maps s.cells 0 = s.cells := congrArg Store.cells h.st
    have h1 := h.cl; have h2 := h.ml; have h3 := h.w0
    rw [if_neg (by omega), if_neg (by omega), if_neg (fun hh => hh h.w), if_neg (by omega), if_neg (fun hh => hh h.inn), if_neg (fun hh => hh h.sz), if_neg (fun hh => hh (cellsB_iff.2 e))]
def newS (n : Nat) : Store := ⟨[⟨⟨#[]⟩, n⟩], [List.replicate n 0]⟩
open Go.RowKit
theorem gd_all {α : Type} {d : α} {l : List α} {P : α → Prop} (h : ∀ j, j < l.length → P (gd d l j)) : ∀ x, x ∈ l → P x := fun x hx => by
  obtain ⟨j, hj, rfl⟩ := List.getElem_of_mem hx
  have := h j hj
  unfold gd at this
  rw [List.getElem?_eq_getElem hj] at this
  exact this
def ixGo {α : Type} (p : α → Bool) : List α → Int → Int
  | [], _ => -1
  | a :: r, k => if p a = true then k else ixGo p r (k + 1)
theorem ixGo_neg {α : Type} {p : α → Bool} : ∀ {l : List α} {k : Int}, 0 ≤ k → (ixGo p l k < 0 ↔ ∀ a, a ∈ l → p a = false)
  | [], k, h => by simp [ixGo]
  | a :: r, k, h => by
    unfold ixGo
    by_cases hp : p a = true
    · rw [if_pos hp]
      exact ⟨fun hh => by omega, fun hh => by have := hh a (List.mem_cons_self ..); rw [hp] at this; simp at this⟩
    · rw [if_neg hp, ixGo_neg (by omega)]
      exact ⟨fun hh b hb => by rcases List.mem_cons.1 hb with e | e; rw [e]; simpa using hp; exact hh b e, fun hh b hb => hh b (List.mem_cons_of_mem _ hb)⟩
theorem ixGo_any {α : Type} {p : α → Bool} {l : List α} : decide (0 ≤ ixGo p l 0) = l.any p := by
  have h := ixGo_neg (p := p) (l := l) (k := 0) (Int.le_refl _)
  by_cases hh : ixGo p l 0 < 0
  · rw [decide_eq_false (by omega)]
    have := h.1 hh
    symm
    rw [List.any_eq_false]
    intro x hx; rw [this x hx]; simp
  · rw [decide_eq_true (by omega)]
    symm
    rw [List.any_eq_true]
    exact Classical.byContradiction fun hn => hh (h.2 fun a ha => by
      cases hq : p a with
      | false => rfl
      | true => exact absurd ⟨a, ha, hq⟩ hn)
theorem ixGo_at {α : Type} {p : α → Bool} {d : α} : ∀ {l : List α} {k : Int}, 0 ≤ k → ¬ ixGo p l k < 0 → k ≤ ixGo p l k ∧ ixGo p l k < k + l.length ∧ p (gd d l (ixGo p l k - k).toNat) = true ∧ ∀ j, j < (ixGo p l k - k).toNat → p (gd d l j) = false
  | [], k, h, hn => by simp [ixGo] at hn
  | a :: r, k, h, hn => by
    unfold ixGo at hn ⊢
    by_cases hp : p a = true
    · rw [if_pos hp]
      refine ⟨Int.le_refl _, by simp; omega, ?_, fun j hj => by omega⟩
      rw [show (k - k).toNat = 0 by omega]; exact hp
    · rw [if_neg hp] at hn ⊢
      obtain ⟨h1, h2, h3, h4⟩ := ixGo_at (d := d) (l := r) (k := k + 1) (by omega) hn
      refine ⟨by omega, by simp; omega, ?_, fun j hj => ?_⟩
      · rw [show (ixGo p r (k + 1) - k).toNat = (ixGo p r (k + 1) - (k + 1)).toNat + 1 by omega]; exact h3
      · cases j with
        | zero => simpa [gd] using hp
        | succ j => exact h4 j (by omega)
structure IxI {α : Type} (p : α → Bool) (xs : List α) (k : Int) : Prop where
  lo : 0 ≤ k
  hi : k ≤ xs.length
  few : xs.length ≤ 1000000
  eq : ixGo p (xs.drop k.toNat) k = ixGo p xs 0
theorem IxI.start {α : Type} {p : α → Bool} {xs : List α} (h : xs.length ≤ 1000000) : IxI p xs 0 := ⟨by omega, by omega, h, rfl⟩
theorem IxI.no {α : Type} {p : α → Bool} {d : α} {xs : List α} {k : Int} (h : IxI p xs k) (hk : k < xs.length) (hp : ¬ p (gd d xs k.toNat) = true) : IxI p xs (k + 1) := by
  have h0 := h.lo
  refine ⟨by omega, by omega, h.few, ?_⟩
  rw [← h.eq, gd_drop d (xs := xs) (i := k.toNat) (by omega), ixGo, if_neg hp, show (k + 1).toNat = k.toNat + 1 by omega]
theorem IxI.yes {α : Type} {p : α → Bool} {d : α} {xs : List α} {k : Int} (h : IxI p xs k) (hk : k < xs.length) (hp : p (gd d xs k.toNat) = true) : k = ixGo p xs 0 := by
  have h0 := h.lo
  rw [← h.eq, gd_drop d (xs := xs) (i := k.toNat) (by omega), ixGo, if_pos hp]
theorem IxI.fin {α : Type} {p : α → Bool} {xs : List α} {k : Int} (h : IxI p xs k) (hk : xs.length ≤ k) : -1 = ixGo p xs 0 := by
  rw [← h.eq, List.drop_eq_nil_of_le (by omega)]; rfl
def pW (s : Store) (r : List Int) : Bool := decide (¬ (r.length : Int) = ((gd [] s.maps 0).length : Int))
def pL (c : Cell) : Bool := decide ((64 : Int) < c.data.size)
def pZ (c : Cell) : Bool := decide (c.refs = 0)
def k_33 : Con Tc Tc.dn := ⟨33, [.ty .cCell], fun x => (fun (c : Cell) => True) x.1, [.cBool], fun x => (fun (c : Cell) => pL c) x.1⟩
theorem k_33_v (c : Cell) : decide ((64 : Int) < (↑c.data.size : Int)) = pL c := by
  (repeat' (first | apply And.intro | intro _)) <;> first | assumption | trivial | omega | (grind [pL]) | trace_state
theorem k_33_ok : k_33.Ok Try.prog tD := con_ok tD_ok (Δ := []) trivial (Ω := []) trivial k_33 F33_ok F33_call (fun _ => []) (fun _ => trivial) 0 (fun x => (fun (c : Cell) => (fun _ => none)) x.1) fun x hp => Eq.mp (by kernel_rfl) (k_33_v x.1)
def k_31 : Con Tc Tc.dn := ⟨31, [.ty .lInt, .ptr .cStore], fun x => (fun (r : (List Int)) (s : Store) => 0 < s.maps.length) x.1 x.2.1, [.cBool], fun x => (fun (r : (List Int)) (s : Store) => pW s r) x.1 x.2.1⟩
theorem k_31_v (r : (List Int)) (s : Store) (hp : 0 < s.maps.length) : ((0 : Int) ≤ (0 : Int) ∧ (0 : Int) < (↑s.maps.length : Int)) ∧ (!(↑r.length : Int) == (↑(gd [] s.maps (Int.toNat (0 : Int))).length : Int)) = pW s r := by
  (repeat' (first | apply And.intro | intro _)) <;> first | assumption | trivial | omega | (grind [pW]) | trace_state
theorem k_31_ok : k_31.Ok Try.prog tD := con_ok tD_ok (Δ := []) trivial (Ω := []) trivial k_31 F31_ok F31_call (fun _ => []) (fun _ => trivial) 0 (fun x => (fun (r : (List Int)) (s : Store) => (fun _ => none)) x.1 x.2.1) fun x hp => Eq.mp (by kernel_rfl) (k_31_v x.1 x.2.1 hp)
def k_49 : Con Tc Tc.dn := ⟨49, [.ty .cCell], fun x => (fun (c : Cell) => True) x.1, [.cBool], fun x => (fun (c : Cell) => pZ c) x.1⟩
theorem k_49_v (c : Cell) : (c.refs == (0 : Int)) = pZ c := by
  (repeat' (first | apply And.intro | intro _)) <;> first | assumption | trivial | omega | (grind [pZ]) | trace_state
theorem k_49_ok : k_49.Ok Try.prog tD := con_ok tD_ok (Δ := []) trivial (Ω := []) trivial k_49 F49_ok F49_call (fun _ => []) (fun _ => trivial) 0 (fun x => (fun (c : Cell) => (fun _ => none)) x.1) fun x hp => Eq.mp (by kernel_rfl) (k_49_v x.1)
def i_46_0 (xs : (List (List Int))) (s : Store) (k : Int) : Prop := IxI (pW s) xs k
def k_46 : Con Tc Tc.dn := ⟨46, [.ty .llInt, .fnc 31 [(true, .cStore)]], fun x => (fun (xs : (List (List Int))) (s : Store) => xs.length ≤ 1000000 ∧ 0 < s.maps.length) x.1 x.2.1.1, [.cInt], fun x => (fun (xs : (List (List Int))) (s : Store) => ixGo (pW s) xs 0) x.1 x.2.1.1⟩
theorem k_46_v (xs : (List (List Int))) (s : Store) (hp : xs.length ≤ 1000000 ∧ 0 < s.maps.length) : i_46_0 xs s (0 : Int) ∧ ∀ (x : Int), i_46_0 xs s x → (x < (↑xs.length : Int) → ((0 : Int) ≤ x ∧ x < (↑xs.length : Int)) ∧ (0 : Nat) < s.maps.length ∧ (pW s (gd [] xs x.toNat) = true → x = ixGo (pW s) xs (0 : Int)) ∧ (pW s (gd [] xs x.toNat) = false → I64 (x + (1 : Int)) ∧ i_46_0 xs s (x + (1 : Int)) ∧ ((↑xs.length : Int) - (x + (1 : Int))).toNat < ((↑xs.length : Int) - x).toNat)) ∧ ((↑xs.length : Int) ≤ x → (-1 : Int) = ixGo (pW s) xs (0 : Int)) := by
  have h1 := @IxI.start (List Int) (pW s) xs
  have h2 := @IxI.no (List Int) (pW s) [] xs
  have h3 := @IxI.yes (List Int) (pW s) [] xs
  have h4 := @IxI.fin (List Int) (pW s) xs
  have h5 := @IxI.lo (List Int) (pW s) xs
  have h6 := @IxI.few (List Int) (pW s) xs
  (repeat' (first | apply And.intro | intro _)) <;> first | assumption | trivial | omega | (grind [i_46_0, I64, pW, pL, pZ]) | trace_state
theorem k_46_ok : k_46.Ok Try.prog tD := con_ok tD_ok (Δ := [k_31]) ⟨k_31_ok, trivial⟩ (Ω := []) trivial k_46 F46_ok F46_call (fun _ => []) (fun _ => trivial) 0 (fun x => (fun (xs : (List (List Int))) (s : Store) => (fun k => bif Nat.beq k 0 then some (.inv [.sl 8 .cInt] (fun zo zv => (fun (k : Int) => i_46_0 xs s k) zv.1) (fun zo zv => (fun (k : Int) => ((xs.length : Int) - k).toNat) zv.1)) else none)) x.1 x.2.1.1) fun x hp => Eq.mp (by kernel_rfl) (k_46_v x.1 x.2.1.1 hp)
def i_47_0 (xs : (List Cell)) (k : Int) : Prop := IxI (pL) xs k
def k_47 : Con Tc Tc.dn := ⟨47, [.ty .lCell, .fnc 33 []], fun x => (fun (xs : (List Cell)) => xs.length ≤ 1000000) x.1, [.cInt], fun x => (fun (xs : (List Cell)) => ixGo (pL) xs 0) x.1⟩
theorem k_47_v (xs : (List Cell)) (hp : xs.length ≤ 1000000) : i_47_0 xs (0 : Int) ∧ ∀ (x : Int), i_47_0 xs x → (x < (↑xs.length : Int) → ((0 : Int) ≤ x ∧ x < (↑xs.length : Int)) ∧ True ∧ (pL (gd (Cell.mk ByteArray.empty (0 : Int)) xs x.toNat) = true → x = ixGo pL xs (0 : Int)) ∧ (pL (gd (Cell.mk ByteArray.empty (0 : Int)) xs x.toNat) = false → I64 (x + (1 : Int)) ∧ i_47_0 xs (x + (1 : Int)) ∧ ((↑xs.length : Int) - (x + (1 : Int))).toNat < ((↑xs.length : Int) - x).toNat)) ∧ ((↑xs.length : Int) ≤ x → (-1 : Int) = ixGo pL xs (0 : Int)) := by
  have h1 := @IxI.start Cell (pL) xs
  have h2 := @IxI.no Cell (pL) Cell.nil xs
  have h3 := @IxI.yes Cell (pL) Cell.nil xs
  have h4 := @IxI.fin Cell (pL) xs
  have h5 := @IxI.lo Cell (pL) xs
  have h6 := @IxI.few Cell (pL) xs
  (repeat' (first | apply And.intro | intro _)) <;> first | assumption | trivial | omega | (grind [i_47_0, I64, pW, pL, pZ]) | trace_state
theorem k_47_ok : k_47.Ok Try.prog tD := con_ok tD_ok (Δ := [k_33]) ⟨k_33_ok, trivial⟩ (Ω := []) trivial k_47 F47_ok F47_call (fun _ => []) (fun _ => trivial) 0 (fun x => (fun (xs : (List Cell)) => (fun k => bif Nat.beq k 0 then some (.inv [.sl 8 .cInt] (fun zo zv => (fun (k : Int) => i_47_0 xs k) zv.1) (fun zo zv => (fun (k : Int) => ((xs.length : Int) - k).toNat) zv.1)) else none)) x.1) fun x hp => Eq.mp (by kernel_rfl) (k_47_v x.1 hp)
def k_30 : Con Tc Tc.dn := ⟨30, [.ty .llInt, .fnc 31 [(true, .cStore)]], fun x => (fun (xs : (List (List Int))) (s : Store) => xs.length ≤ 1000000 ∧ 0 < s.maps.length) x.1 x.2.1.1, [.cBool], fun x => (fun (xs : (List (List Int))) (s : Store) => xs.any (pW s)) x.1 x.2.1.1⟩
theorem k_30_v (xs : (List (List Int))) (s : Store) (hp : xs.length ≤ 1000000 ∧ 0 < s.maps.length) : (xs.length ≤ (1000000 : Nat) ∧ (0 : Nat) < s.maps.length) ∧ decide ((0 : Int) ≤ ixGo (pW s) xs (0 : Int)) = xs.any (pW s) := by
  have h1 := @ixGo_any (List Int) (pW s) xs
  (repeat' (first | apply And.intro | intro _)) <;> first | assumption | trivial | omega | (grind []) | trace_state
theorem k_30_ok : k_30.Ok Try.prog tD := con_ok tD_ok (Δ := [k_46]) ⟨k_46_ok, trivial⟩ (Ω := []) trivial k_30 F30_ok F30_call (fun _ => []) (fun _ => trivial) 0 (fun x => (fun (xs : (List (List Int))) (s : Store) => (fun _ => none)) x.1 x.2.1.1) fun x hp => Eq.mp (by kernel_rfl) (k_30_v x.1 x.2.1.1 hp)
def k_32 : Con Tc Tc.dn := ⟨32, [.ty .lCell, .fnc 33 []], fun x => (fun (xs : (List Cell)) => xs.length ≤ 1000000) x.1, [.cBool], fun x => (fun (xs : (List Cell)) => xs.any pL) x.1⟩
theorem k_32_v (xs : (List Cell)) (hp : xs.length ≤ 1000000) : xs.length ≤ (1000000 : Nat) ∧ decide ((0 : Int) ≤ ixGo pL xs (0 : Int)) = xs.any pL := by
  have h1 := @ixGo_any Cell pL xs
  (repeat' (first | apply And.intro | intro _)) <;> first | assumption | trivial | omega | (grind []) | trace_state
theorem k_32_ok : k_32.Ok Try.prog tD := con_ok tD_ok (Δ := [k_47]) ⟨k_47_ok, trivial⟩ (Ω := []) trivial k_32 F32_ok F32_call (fun _ => []) (fun _ => trivial) 0 (fun x => (fun (xs : (List Cell)) => (fun _ => none)) x.1) fun x hp => Eq.mp (by kernel_rfl) (k_32_v x.1 hp)
def k_28 : Con Tc Tc.dn := ⟨28, [.ty .lInt, .ty .cInt], fun x => (fun (l : (List Int)) (i : Int) => True) x.1 x.2.1, [.cBool], fun x => (fun (l : (List Int)) (i : Int) => decide (0 ≤ i ∧ i < l.length)) x.1 x.2.1⟩
theorem k_28_v (l : (List Int)) (i : Int) : ((0 : Int) ≤ i → (0 : Int) ≤ i) ∧ ((0 : Int) ≤ i → (0 : Int) ≤ i) ∧ ((0 : Int) ≤ i → (0 : Int) ≤ i) ∧ ((0 : Int) ≤ i → (0 : Int) ≤ i) ∧ (decide ((0 : Int) ≤ i) && decide (i < (↑l.length : Int))) = decide ((0 : Int) ≤ i ∧ i < (↑l.length : Int)) := by
  (repeat' (first | apply And.intro | intro _)) <;> first | assumption | trivial | omega | (grind []) | trace_state
theorem k_28_ok : k_28.Ok Try.prog tD := con_ok tD_ok (Δ := []) trivial (Ω := []) trivial k_28 F28_ok F28_call (fun _ => []) (fun _ => trivial) 0 (fun x => (fun (l : (List Int)) (i : Int) => (fun _ => none)) x.1 x.2.1) fun x hp => Eq.mp (by kernel_rfl) (k_28_v x.1 x.2.1)
def k_27 : Con Tc Tc.dn := ⟨27, [.ty .llInt, .ty .cInt], fun x => (fun (l : (List (List Int))) (i : Int) => True) x.1 x.2.1, [.cBool], fun x => (fun (l : (List (List Int))) (i : Int) => decide (0 ≤ i ∧ i < l.length)) x.1 x.2.1⟩
theorem k_27_v (l : (List (List Int))) (i : Int) : ((0 : Int) ≤ i → (0 : Int) ≤ i) ∧ ((0 : Int) ≤ i → (0 : Int) ≤ i) ∧ ((0 : Int) ≤ i → (0 : Int) ≤ i) ∧ ((0 : Int) ≤ i → (0 : Int) ≤ i) ∧ (decide ((0 : Int) ≤ i) && decide (i < (↑l.length : Int))) = decide ((0 : Int) ≤ i ∧ i < (↑l.length : Int)) := by
  (repeat' (first | apply And.intro | intro _)) <;> first | assumption | trivial | omega | (grind []) | trace_state
theorem k_27_ok : k_27.Ok Try.prog tD := con_ok tD_ok (Δ := []) trivial (Ω := []) trivial k_27 F27_ok F27_call (fun _ => []) (fun _ => trivial) 0 (fun x => (fun (l : (List (List Int))) (i : Int) => (fun _ => none)) x.1 x.2.1) fun x hp => Eq.mp (by kernel_rfl) (k_27_v x.1 x.2.1)
open Go.RowKit
theorem size_nil {b : ByteArray} : b.size = 0 ↔ b = ⟨#[]⟩ := by
  constructor
  · intro h
    cases b with
    | mk a => congr 1; exact Array.eq_empty_of_size_eq_zero h
  · intro h; subst h; rfl
structure CkP (s : Store) : Prop where
  cl : s.cells.length ≤ 200
  ml : 1 ≤ s.maps.length ∧ s.maps.length ≤ 12
  w0 : 1 ≤ (gd [] s.maps 0).length ∧ (gd [] s.maps 0).length ≤ 32
  w : ∀ r, r ∈ s.maps → r.length = (gd [] s.maps 0).length
theorem CkP.mk' {s : Store} (h1 : ¬ (200 : Int) < s.cells.length) (h2 : ¬ (12 : Int) < s.maps.length) (h3 : ¬ (s.maps.length : Int) = 0) (h4 : ¬ ((gd [] s.maps 0).length : Int) = 0) (h5 : s.maps.any (pW s) = false) (h6 : ¬ (32 : Int) < (gd [] s.maps 0).length) : CkP s := by
  refine ⟨by omega, by omega, by omega, fun r hr => ?_⟩
  rw [List.any_eq_false] at h5
  have := h5 r hr
  unfold pW at this
  simp at this
  omega
theorem chk_many {s : Store} (h : (200 : Int) < s.cells.length ∨ (12 : Int) < s.maps.length) : (2 : Int) = s.checkE := by unfold Store.checkE; rw [if_pos (by omega)]
theorem chk_few {s : Store} (h1 : ¬ (200 : Int) < s.cells.length) (h2 : ¬ (12 : Int) < s.maps.length) (h : (s.maps.length : Int) = 0 ∨ ((gd [] s.maps 0).length : Int) = 0) : (8 : Int) = s.checkE := by
  unfold Store.checkE; rw [if_neg (by omega), if_pos (by omega)]
theorem chk_form {s : Store} (h1 : ¬ (200 : Int) < s.cells.length) (h2 : ¬ (12 : Int) < s.maps.length) (h3 : ¬ (s.maps.length : Int) = 0) (h4 : ¬ ((gd [] s.maps 0).length : Int) = 0) (h : s.maps.any (pW s) = true) : (1 : Int) = s.checkE := by
  unfold Store.checkE; rw [if_neg (by omega), if_neg (by omega), if_pos]
  intro hh
  rw [List.any_eq_true] at h
  obtain ⟨r, hr, hp⟩ := h
  have := hh r hr
  unfold pW at hp
  simp at hp; omega
theorem chk_wide {s : Store} (h1 : ¬ (200 : Int) < s.cells.length) (h2 : ¬ (12 : Int) < s.maps.length) (h3 : ¬ (s.maps.length : Int) = 0) (h4 : ¬ ((gd [] s.maps 0).length : Int) = 0) (h5 : s.maps.any (pW s) = false) (h6 : (32 : Int) < (gd [] s.maps 0).length) : (2 : Int) = s.checkE := by
  unfold Store.checkE; rw [if_neg (by omega), if_neg (by omega), if_neg, if_pos (by omega)]
  refine Classical.not_not.2 fun r hr => ?_
  rw [List.any_eq_false] at h5
  have := h5 r hr
  unfold pW at this
  simp at this
  omega
structure CkI (s : Store) (i : Int) (R : List Int) : Prop where
  p : CkP s
  lo : 0 ≤ i
  hi : i ≤ s.maps.length
  len : R.length = s.cells.length
  inn : ∀ r, r ∈ s.maps.take i.toNat → ∀ c, c ∈ r → 0 ≤ c ∧ c < s.cells.length
  eq : ∀ c : Nat, c < s.cells.length → gd 0 R c = cnt (s.maps.take i.toNat) c
structure CjI (s : Store) (i j : Int) (R : List Int) : Prop where
  p : CkP s
  ilo : 0 ≤ i
  ihi : i < s.maps.length
  lo : 0 ≤ j
  hi : j ≤ (gd [] s.maps i.toNat).length
  len : R.length = s.cells.length
  inn : ∀ r, r ∈ s.maps.take i.toNat → ∀ c, c ∈ r → 0 ≤ c ∧ c < s.cells.length
  inj : ∀ c, c ∈ (gd [] s.maps i.toNat).take j.toNat → 0 ≤ c ∧ c < s.cells.length
  eq : ∀ c : Nat, c < s.cells.length → gd 0 R c = cnt (s.maps.take i.toNat) c + ((gd [] s.maps i.toNat).take j.toNat).count (c : Int)
theorem cnt_le {n w : Nat} : ∀ {maps : List (List Int)} {c : Int}, maps.length ≤ n → (∀ r, r ∈ maps → r.length ≤ w) → cnt maps c ≤ n * w
  | [], c, _, _ => by simp [cnt]
  | r :: rs, c, h, hw => by
    have h1 := cnt_le (n := n - 1) (w := w) (maps := rs) (c := c) (by simp at h; omega) fun r hr => hw r (List.mem_cons_of_mem _ hr)
    have h2 := List.count_le_length (a := c) (l := r)
    have h3 := hw r (List.mem_cons_self ..)
    have : n = n - 1 + 1 := by simp at h; omega
    rw [this, Nat.succ_mul]
    unfold cnt; omega
theorem CkP.cnt {s : Store} (h : CkP s) {k : Nat} (c : Int) : cnt (s.maps.take k) c ≤ 12 * 32 := by
  refine cnt_le (by rw [List.length_take]; have := h.ml; omega) fun r hr => ?_
  rw [h.w r (List.mem_of_mem_take hr)]; exact h.w0.2
theorem CkP.row {s : Store} (h : CkP s) {i : Int} (h0 : 0 ≤ i) (hi : i < s.maps.length) : (gd [] s.maps i.toNat).length = (gd [] s.maps 0).length ∧ (gd [] s.maps i.toNat).length ≤ 32 := by
  have := h.w _ (gd_mem (d := []) (xs := s.maps) (i := i.toNat) (by omega))
  have := h.w0
  exact ⟨by assumption, by omega⟩
theorem CkI.start {s : Store} (h : CkP s) : CkI s 0 (List.replicate s.cells.length 0) := ⟨h, by omega, by omega, by simp, fun r hr => by simp at hr, fun c hc => by
  unfold gd; rw [List.getElem?_replicate, if_pos hc]; rfl⟩
theorem CkI.row {s : Store} {i : Int} {R : List Int} (h : CkI s i R) (hi : i < s.maps.length) : CjI s i 0 R := ⟨h.p, h.lo, hi, by omega, by omega, h.len, h.inn, fun c hc => by simp at hc, fun c hc => by rw [h.eq c hc]; simp⟩
theorem take_gd {α : Type} (d : α) {l : List α} {i : Int} (h0 : 0 ≤ i) (h : i < l.length) : l.take (i + 1).toNat = l.take i.toNat ++ [gd d l i.toNat] := by
  rw [show (i + 1).toNat = i.toNat + 1 by omega, List.take_add_one, gd_get (d := d) (by omega)]; rfl
theorem CjI.end_ {s : Store} {i j : Int} {R : List Int} (h : CjI s i j R) (hj : (gd [] s.maps i.toNat).length ≤ j) : CkI s (i + 1) R := by
  have h0 := h.ilo
  have h1 := h.ihi
  have h2 := h.lo
  have e : (gd [] s.maps i.toNat).take j.toNat = gd [] s.maps i.toNat := List.take_of_length_le (by omega)
  refine ⟨h.p, by omega, by omega, h.len, fun r hr => ?_, fun c hc => ?_⟩
  · rw [take_gd [] h0 h1, List.mem_append, List.mem_singleton] at hr
    rcases hr with hr | rfl
    · exact h.inn r hr
    · intro c hc; rw [← e] at hc; exact h.inj c hc
  · rw [h.eq c hc, take_gd [] h0 h1, cnt_app, e]
    simp [_root_.id, Go.Proofs.Ytfjkncmcpeacjaa.cnt]
theorem CjI.step {s : Store} {i j : Int} {R : List Int} (h : CjI s i j R) (hj : j < (gd [] s.maps i.toNat).length) (h0 : 0 ≤ gd 0 (gd [] s.maps i.toNat) j.toNat) (h1 : gd 0 (gd [] s.maps i.toNat) j.toNat < s.cells.length) : CjI s i (j + 1) (R.set (gd 0 (gd [] s.maps i.toNat) j.toNat).toNat (gd 0 R (gd 0 (gd [] s.maps i.toNat) j.toNat).toNat + 1)) := by
  have hlo := h.lo
  refine ⟨h.p, h.ilo, h.ihi, by omega, by omega, by rw [List.length_set]; exact h.len, h.inn, fun c hc => ?_, fun c hc => ?_⟩
  · rw [take_gd 0 hlo hj, List.mem_append, List.mem_singleton] at hc
    rcases hc with hc | rfl
    · exact h.inj c hc
    · exact ⟨h0, h1⟩
  · rw [take_gd 0 hlo hj, List.count_append, List.count_singleton]
    have e : gd 0 (R.set (gd 0 (gd [] s.maps i.toNat) j.toNat).toNat (gd 0 R (gd 0 (gd [] s.maps i.toNat) j.toNat).toNat + 1)) c = if (gd 0 (gd [] s.maps i.toNat) j.toNat).toNat = c then gd 0 R c + 1 else gd 0 R c := by
      unfold gd
      rw [List.getElem?_set]
      by_cases hq : (gd 0 (gd [] s.maps i.toNat) j.toNat).toNat = c
      · unfold gd at hq
        rw [if_pos hq, if_pos hq, hq, if_pos (by rw [h.len]; exact hc)]; rfl
      · unfold gd at hq
        rw [if_neg hq, if_neg hq]
    rw [e, h.eq c hc]
    by_cases hq : (gd 0 (gd [] s.maps i.toNat) j.toNat).toNat = c
    · rw [if_pos hq, if_pos (by rw [beq_iff_eq]; omega)]; omega
    · rw [if_neg hq, if_neg (by rw [beq_iff_eq]; omega)]; omega
theorem CjI.few {s : Store} {i j : Int} {R : List Int} (h : CjI s i j R) {c : Int} (h0 : 0 ≤ c) (h1 : c < s.cells.length) : 0 ≤ gd 0 R c.toNat ∧ gd 0 R c.toNat ≤ 10000 := by
  rw [h.eq _ (by omega)]
  have := h.p.cnt (k := i.toNat) ((c.toNat : Nat) : Int)
  have q := List.count_le_length (a := ((c.toNat : Nat) : Int)) (l := (gd [] s.maps i.toNat).take j.toNat)
  have q2 := h.p.row h.ilo h.ihi
  rw [List.length_take] at q
  omega
theorem CjI.bad {s : Store} {i j : Int} {R : List Int} (h : CjI s i j R) (hj : j < (gd [] s.maps i.toNat).length) (hb : gd 0 (gd [] s.maps i.toNat) j.toNat < 0 ∨ (s.cells.length : Int) ≤ gd 0 (gd [] s.maps i.toNat) j.toNat) : (3 : Int) = s.checkE := by
  have hp := h.p
  have h1 := hp.cl; have h2 := hp.ml; have h3 := hp.w0
  have h4 := h.ilo; have h5 := h.ihi; have h6 := h.lo
  unfold Store.checkE
  rw [if_neg (by omega), if_neg (by omega), if_neg (Classical.not_not.2 hp.w), if_neg (by omega), if_pos]
  intro hh
  have := hh _ (gd_mem (d := []) (xs := s.maps) (i := i.toNat) (by omega)) _ (gd_mem (d := 0) (xs := gd [] s.maps i.toNat) (i := j.toNat) (by omega))
  omega
theorem CkI.long {s : Store} {i : Int} {R : List Int} (h : CkI s i R) (hi : s.maps.length ≤ i) (hl : s.cells.any pL = true) : (2 : Int) = s.checkE := by
  have hp := h.p
  have h1 := hp.cl; have h2 := hp.ml; have h3 := hp.w0
  unfold Store.checkE
  have hin : ∀ r, r ∈ s.maps → ∀ c, c ∈ r → 0 ≤ c ∧ c < s.cells.length := by
    have := h.inn
    rwa [List.take_of_length_le (by omega)] at this
  rw [if_neg (by omega), if_neg (by omega), if_neg (Classical.not_not.2 hp.w), if_neg (by omega), if_neg (Classical.not_not.2 hin), if_pos]
  intro hh
  rw [List.any_eq_true] at hl
  obtain ⟨c, hc, hq⟩ := hl
  have := hh c hc
  unfold pL at hq
  simp at hq; omega
structure CcI (s : Store) (k : Int) : Prop where
  lo : 0 ≤ k
  hi : k ≤ s.cells.length
  ok : ∀ c : Nat, c < k.toNat → (gd Cell.nil s.cells c).refs = cnt s.maps c ∧ ((gd Cell.nil s.cells c).refs = 0 → (gd Cell.nil s.cells c).data.size = 0)
theorem CcI.start {s : Store} : CcI s 0 := ⟨by omega, by omega, fun c hc => by simp at hc⟩
theorem CcI.step {s : Store} {k : Int} (h : CcI s k) (hk : k < s.cells.length) (h1 : (gd Cell.nil s.cells k.toNat).refs = cnt s.maps (k.toNat : Nat)) (h2 : (gd Cell.nil s.cells k.toNat).refs = 0 → (gd Cell.nil s.cells k.toNat).data.size = 0) : CcI s (k + 1) := by
  have h0 := h.lo
  refine ⟨by omega, by omega, fun c hc => ?_⟩
  by_cases e : c = k.toNat
  · subst e; exact ⟨h1, h2⟩
  · exact h.ok c (by omega)
theorem cells_iff {maps : List (List Int)} : ∀ {l : List Cell} {i : Int}, cellsB maps l i = true ↔ ∀ c : Nat, c < l.length → (gd Cell.nil l c).refs = cnt maps (i + c) ∧ ((gd Cell.nil l c).refs = 0 → (gd Cell.nil l c).data.size = 0)
  | [], i => by simp [cellsB]
  | a :: r, i => by
    unfold cellsB
    rw [Bool.and_eq_true, Bool.and_eq_true, decide_eq_true_eq, decide_eq_true_eq, cells_iff]
    constructor
    · rintro ⟨⟨h1, h2⟩, h3⟩ c hc
      cases c with
      | zero => exact ⟨by simpa [gd] using h1, h2⟩
      | succ c =>
        have := h3 c (by simpa using hc)
        rw [show i + 1 + (c : Int) = i + ((c + 1 : Nat) : Int) by omega] at this
        exact this
    · intro h
      refine ⟨⟨by have := (h 0 (by simp)).1; simpa [gd] using this, fun h0 => (h 0 (by simp)).2 h0⟩, fun c hc => ?_⟩
      have := h (c + 1) (by simpa using hc)
      rw [show i + ((c + 1 : Nat) : Int) = i + 1 + (c : Int) by omega] at this
      exact this
theorem CkI.pre {s : Store} {i : Int} {R : List Int} (h : CkI s i R) (hi : s.maps.length ≤ i) (hl : s.cells.any pL = false) : s.checkE = if cellsB s.maps s.cells 0 = true then 0 else 4 := by
  have hp := h.p
  have h1 := hp.cl; have h2 := hp.ml; have h3 := hp.w0
  unfold Store.checkE
  have hin : ∀ r, r ∈ s.maps → ∀ c, c ∈ r → 0 ≤ c ∧ c < s.cells.length := by
    have := h.inn
    rwa [List.take_of_length_le (by omega)] at this
  have hsz : ∀ c, c ∈ s.cells → c.data.size ≤ 64 := fun c hc => by
    rw [List.any_eq_false] at hl
    have := hl c hc
    unfold pL at this
    simp at this; omega
  rw [if_neg (by omega), if_neg (by omega), if_neg (Classical.not_not.2 hp.w), if_neg (by omega), if_neg (Classical.not_not.2 hin), if_neg (Classical.not_not.2 hsz)]
  by_cases hc : cellsB s.maps s.cells 0 = true
  · rw [if_pos hc, if_neg (Classical.not_not.2 hc)]
  · rw [if_neg hc, if_pos hc]
theorem CkI.all {s : Store} {i : Int} {R : List Int} (h : CkI s i R) (hi : s.maps.length ≤ i) {c : Int} (h0 : 0 ≤ c) (h1 : c < s.cells.length) : gd 0 R c.toNat = cnt s.maps (c.toNat : Nat) := by
  have := h.eq c.toNat (by omega)
  rwa [List.take_of_length_le (by omega)] at this
theorem CcI.bad {s : Store} {i k : Int} {R : List Int} (h : CkI s i R) (hi : s.maps.length ≤ i) (hl : s.cells.any pL = false) (hk : 0 ≤ k) (hk2 : k < s.cells.length) (hb : ¬ ((gd Cell.nil s.cells k.toNat).refs = cnt s.maps (k.toNat : Nat)) ∨ ((gd Cell.nil s.cells k.toNat).refs = 0 ∧ ¬ (gd Cell.nil s.cells k.toNat).data.size = 0)) : (4 : Int) = s.checkE := by
  rw [h.pre hi hl, if_neg]
  intro hh
  have := cells_iff.1 hh k.toNat (by omega)
  rw [Int.zero_add] at this
  rcases hb with hb | ⟨hb, hb2⟩
  · exact hb this.1
  · exact hb2 (this.2 hb)
theorem CcI.fin {s : Store} {i k : Int} {R : List Int} (h : CkI s i R) (hi : s.maps.length ≤ i) (hl : s.cells.any pL = false) (hc : CcI s k) (hk : s.cells.length ≤ k) : (0 : Int) = s.checkE := by
  rw [h.pre hi hl, if_pos (cells_iff.2 fun c hc' => by rw [Int.zero_add]; exact hc.ok c (by omega))]
def i_15_2 (s : Store) (k : Int) : Prop := CcI s k
def i_15_1 (s : Store) (j0 : Int) (i0 : Int) (R0 : (List Int)) (j : Int) (i : Int) (R : (List Int)) : Prop := i0 = i ∧ CjI s i j R
def i_15_0 (s : Store) (i : Int) (R : (List Int)) : Prop := CkI s i R
def k_15 : Con Tc Tc.dn := ⟨15, [.ty .cStore], fun x => (fun (s : Store) => True) x.1, [.cInt], fun x => (fun (s : Store) => s.checkE) x.1⟩
theorem k_15_v (s : Store) : ((200 : Int) < (↑s.cells.length : Int) ∧ (200 : Int) < (↑s.cells.length : Int) ∨ (↑s.cells.length : Int) ≤ (200 : Int) ∧ (12 : Int) < (↑s.maps.length : Int) → (2 : Int) = s.checkE) ∧ (((↑s.cells.length : Int) ≤ (200 : Int) ∨ (↑s.cells.length : Int) ≤ (200 : Int)) ∧ ((200 : Int) < (↑s.cells.length : Int) ∨ (↑s.maps.length : Int) ≤ (12 : Int)) → (¬(↑s.maps.length : Int) = (0 : Int) → (0 : Int) ≤ (0 : Int) ∧ (0 : Int) < (↑s.maps.length : Int)) ∧ ((↑s.maps.length : Int) = (0 : Int) ∧ (↑s.maps.length : Int) = (0 : Int) ∨ ¬(↑s.maps.length : Int) = (0 : Int) ∧ (↑(gd [] s.maps (Int.toNat (0 : Int))).length : Int) = (0 : Int) → (8 : Int) = s.checkE) ∧ ((¬(↑s.maps.length : Int) = (0 : Int) ∨ ¬(↑s.maps.length : Int) = (0 : Int)) ∧ ((↑s.maps.length : Int) = (0 : Int) ∨ ¬(↑(gd [] s.maps (Int.toNat (0 : Int))).length : Int) = (0 : Int)) → (s.maps.length ≤ (1000000 : Nat) ∧ (0 : Nat) < s.maps.length) ∧ (s.maps.any (pW s) = true → (1 : Int) = s.checkE) ∧ (s.maps.any (pW s) = false → ((0 : Int) ≤ (0 : Int) ∧ (0 : Int) < (↑s.maps.length : Int)) ∧ ((32 : Int) < (↑(gd [] s.maps (Int.toNat (0 : Int))).length : Int) → (2 : Int) = s.checkE) ∧ ((↑(gd [] s.maps (Int.toNat (0 : Int))).length : Int) ≤ (32 : Int) → ((0 : Int) ≤ (↑s.cells.length : Int) ∧ (↑s.cells.length : Int) ≤ (↑s.cells.length : Int) ∧ (↑s.cells.length : Int) * (↑(8 : Nat) : Int) ≤ (140737488355328 : Int)) ∧ i_15_0 s (0 : Int) (List.replicate (↑s.cells.length : Int).toNat (0 : Int)) ∧ ∀ (x : Int) (x_1 : List Int), i_15_0 s x x_1 → (x < (↑s.maps.length : Int) → ((0 : Int) ≤ x ∧ x < (↑s.maps.length : Int)) ∧ i_15_1 s (0 : Int) x x_1 (0 : Int) x x_1 ∧ ∀ (x_2 x_3 : Int) (x_4 : List Int), i_15_1 s (0 : Int) x x_1 x_2 x_3 x_4 → (x_2 < (↑(gd [] s.maps x.toNat).length : Int) → ((0 : Int) ≤ x_2 ∧ x_2 < (↑(gd [] s.maps x.toNat).length : Int)) ∧ ((0 : Int) ≤ gd (0 : Int) (gd [] s.maps x.toNat) x_2.toNat → (0 : Int) ≤ gd (0 : Int) (gd [] s.maps x.toNat) x_2.toNat) ∧ ((0 : Int) ≤ gd (0 : Int) (gd [] s.maps x.toNat) x_2.toNat → (0 : Int) ≤ gd (0 : Int) (gd [] s.maps x.toNat) x_2.toNat) ∧ ((0 : Int) ≤ gd (0 : Int) (gd [] s.maps x.toNat) x_2.toNat → (0 : Int) ≤ gd (0 : Int) (gd [] s.maps x.toNat) x_2.toNat) ∧ ((0 : Int) ≤ gd (0 : Int) (gd [] s.maps x.toNat) x_2.toNat → (0 : Int) ≤ gd (0 : Int) (gd [] s.maps x.toNat) x_2.toNat) ∧ (gd (0 : Int) (gd [] s.maps x.toNat) x_2.toNat < (0 : Int) ∨ (↑x_4.length : Int) ≤ gd (0 : Int) (gd [] s.maps x.toNat) x_2.toNat → (3 : Int) = s.checkE) ∧ ((0 : Int) ≤ gd (0 : Int) (gd [] s.maps x.toNat) x_2.toNat ∧ gd (0 : Int) (gd [] s.maps x.toNat) x_2.toNat < (↑x_4.length : Int) → ((0 : Int) ≤ gd (0 : Int) (gd [] s.maps x.toNat) x_2.toNat ∧ gd (0 : Int) (gd [] s.maps x.toNat) x_2.toNat < (↑x_4.length : Int)) ∧ (gd (0 : Int) (gd [] s.maps x.toNat) x_2.toNat).toNat < x_4.length ∧ I64 (gd (0 : Int) x_4 (gd (0 : Int) (gd [] s.maps x.toNat) x_2.toNat).toNat + (1 : Int)) ∧ ((0 : Int) ≤ gd (0 : Int) (gd [] s.maps x.toNat) x_2.toNat ∧ gd (0 : Int) (gd [] s.maps x.toNat) x_2.toNat < (↑x_4.length : Int)) ∧ (gd (0 : Int) (gd [] s.maps x.toNat) x_2.toNat).toNat < x_4.length ∧ I64 (x_2 + (1 : Int)) ∧ i_15_1 s (0 : Int) x x_1 (x_2 + (1 : Int)) x_3 (x_4.set (gd (0 : Int) (gd [] s.maps x.toNat) x_2.toNat).toNat (gd (0 : Int) x_4 (gd (0 : Int) (gd [] s.maps x.toNat) x_2.toNat).toNat + (1 : Int))) ∧ ((↑(gd [] s.maps x_3.toNat).length : Int) - (x_2 + (1 : Int))).toNat < ((↑(gd [] s.maps x_3.toNat).length : Int) - x_2).toNat)) ∧ ((↑(gd [] s.maps x.toNat).length : Int) ≤ x_2 → I64 (x_3 + (1 : Int)) ∧ i_15_0 s (x_3 + (1 : Int)) x_4 ∧ ((↑s.maps.length : Int) - (x_3 + (1 : Int))).toNat < ((↑s.maps.length : Int) - x).toNat)) ∧ ((↑s.maps.length : Int) ≤ x → s.cells.length ≤ (1000000 : Nat) ∧ (s.cells.any pL = true → (2 : Int) = s.checkE) ∧ (s.cells.any pL = false → i_15_2 s (0 : Int) ∧ ∀ (x : Int), i_15_2 s x → (x < (↑s.cells.length : Int) → ((0 : Int) ≤ x ∧ x < (↑s.cells.length : Int)) ∧ ((0 : Int) ≤ x ∧ x < (↑x_1.length : Int)) ∧ x.toNat < x_1.length ∧ ((gd (Cell.mk ByteArray.empty (0 : Int)) s.cells x.toNat).refs = gd (0 : Int) x_1 x.toNat → (gd (Cell.mk ByteArray.empty (0 : Int)) s.cells x.toNat).refs = gd (0 : Int) x_1 x.toNat) ∧ ((gd (Cell.mk ByteArray.empty (0 : Int)) s.cells x.toNat).refs = gd (0 : Int) x_1 x.toNat → (gd (Cell.mk ByteArray.empty (0 : Int)) s.cells x.toNat).refs = gd (0 : Int) x_1 x.toNat) ∧ ((gd (Cell.mk ByteArray.empty (0 : Int)) s.cells x.toNat).refs = gd (0 : Int) x_1 x.toNat → (gd (Cell.mk ByteArray.empty (0 : Int)) s.cells x.toNat).refs = gd (0 : Int) x_1 x.toNat) ∧ ((gd (Cell.mk ByteArray.empty (0 : Int)) s.cells x.toNat).refs = gd (0 : Int) x_1 x.toNat ∧ (gd (Cell.mk ByteArray.empty (0 : Int)) s.cells x.toNat).refs = (0 : Int) → (gd (Cell.mk ByteArray.empty (0 : Int)) s.cells x.toNat).refs = gd (0 : Int) x_1 x.toNat ∧ (gd (Cell.mk ByteArray.empty (0 : Int)) s.cells x.toNat).refs = (0 : Int)) ∧ ((gd (Cell.mk ByteArray.empty (0 : Int)) s.cells x.toNat).refs = gd (0 : Int) x_1 x.toNat ∧ (gd (Cell.mk ByteArray.empty (0 : Int)) s.cells x.toNat).refs = (0 : Int) → (gd (Cell.mk ByteArray.empty (0 : Int)) s.cells x.toNat).refs = gd (0 : Int) x_1 x.toNat ∧ (gd (Cell.mk ByteArray.empty (0 : Int)) s.cells x.toNat).refs = (0 : Int)) ∧ ((gd (Cell.mk ByteArray.empty (0 : Int)) s.cells x.toNat).refs = gd (0 : Int) x_1 x.toNat → (gd (Cell.mk ByteArray.empty (0 : Int)) s.cells x.toNat).refs = gd (0 : Int) x_1 x.toNat) ∧ ((gd (Cell.mk ByteArray.empty (0 : Int)) s.cells x.toNat).refs = gd (0 : Int) x_1 x.toNat → (gd (Cell.mk ByteArray.empty (0 : Int)) s.cells x.toNat).refs = (0 : Int) → (gd (Cell.mk ByteArray.empty (0 : Int)) s.cells x.toNat).refs = gd (0 : Int) x_1 x.toNat ∧ (gd (Cell.mk ByteArray.empty (0 : Int)) s.cells x.toNat).refs = (0 : Int)) ∧ ((gd (Cell.mk ByteArray.empty (0 : Int)) s.cells x.toNat).refs = gd (0 : Int) x_1 x.toNat → (gd (Cell.mk ByteArray.empty (0 : Int)) s.cells x.toNat).refs = gd (0 : Int) x_1 x.toNat) ∧ (¬(gd (Cell.mk ByteArray.empty (0 : Int)) s.cells x.toNat).refs = gd (0 : Int) x_1 x.toNat ∨ (gd (Cell.mk ByteArray.empty (0 : Int)) s.cells x.toNat).refs = (0 : Int) ∧ ¬(gd (Cell.mk ByteArray.empty (0 : Int)) s.cells x.toNat).data = ByteArray.mk #[] → (4 : Int) = s.checkE) ∧ ((gd (Cell.mk ByteArray.empty (0 : Int)) s.cells x.toNat).refs = gd (0 : Int) x_1 x.toNat ∧ (¬(gd (Cell.mk ByteArray.empty (0 : Int)) s.cells x.toNat).refs = (0 : Int) ∨ (gd (Cell.mk ByteArray.empty (0 : Int)) s.cells x.toNat).data = ByteArray.mk #[]) → I64 (x + (1 : Int)) ∧ i_15_2 s (x + (1 : Int)) ∧ ((↑s.cells.length : Int) - (x + (1 : Int))).toNat < ((↑s.cells.length : Int) - x).toNat)) ∧ ((↑s.cells.length : Int) ≤ x → (0 : Int) = s.checkE))))))) := by
  simp only [show Int.toNat 0 = 0 from rfl, Int.toNat_natCast, i_15_2, i_15_1, i_15_0, I64]
  refine ⟨fun h => chk_many (by omega), fun h0 => ?_⟩
  have a1 : ¬ (200 : Int) < s.cells.length := by omega
  have a2 : ¬ (12 : Int) < s.maps.length := by omega
  refine ⟨by omega, fun h => chk_few a1 a2 (by omega), fun h1 => ?_⟩
  have a3 : ¬ (s.maps.length : Int) = 0 := by omega
  have a4 : ¬ ((gd [] s.maps 0).length : Int) = 0 := by omega
  refine ⟨by omega, fun h => chk_form a1 a2 a3 a4 h, fun a5 => ?_⟩
  refine ⟨by omega, fun h => chk_wide a1 a2 a3 a4 a5 h, fun h6 => ?_⟩
  have hP := CkP.mk' a1 a2 a3 a4 a5 (by omega)
  refine ⟨by omega, CkI.start hP, fun i R hI => ?_⟩
  have i0 := hI.lo
  have rl := hI.len
  refine ⟨fun hlt => ⟨by omega, ⟨by trivial, hI.row hlt⟩, fun j i2 R2 hJ => ?_⟩, fun hge => ?_⟩
  focus
    obtain ⟨e, hJ⟩ := hJ
    subst e
    have j0 := hJ.lo
    have rl2 := hJ.len
    have jf := @CjI.few _ _ _ _ hJ
    have hr := hP.row i0 hlt
    refine ⟨fun hj => ?_, fun hj => ⟨by omega, hJ.end_ hj, by omega⟩⟩
    refine ⟨by omega, fun h => h, fun h => h, fun h => h, fun h => h, fun h => hJ.bad hj (by omega), fun h => ?_⟩
    have := jf h.1 (by omega)
    exact ⟨h, by omega, by omega, h, by omega, by omega, ⟨by trivial, hJ.step hj h.1 (by omega)⟩, by omega⟩
  refine ⟨by omega, fun h => hI.long hge h, fun hl => ⟨CcI.start, fun k hC => ?_⟩⟩
  have k0 := hC.lo
  have kr := fun h => @CkI.all _ _ _ hI hge k k0 h
  refine ⟨fun hk => ?_, fun hk => CcI.fin hI hge hl hC hk⟩
  have e := kr hk
  refine ⟨by omega, by omega, by omega, fun h => h, fun h => h, fun h => h, fun h => h, fun h => h, fun h => h, fun h h2 => ⟨h, h2⟩, fun h => h, fun h => CcI.bad hI hge hl k0 hk ?_, fun h => ⟨by omega, hC.step hk ?_ ?_, by omega⟩⟩
  focus
    rw [← e, size_nil]; exact h
  focus
    rw [← e]; exact h.1
  intro h2
  rw [size_nil]
  exact h.2.resolve_left fun hh => hh h2
theorem k_15_ok : k_15.Ok Try.prog tD := con_ok tD_ok (Δ := [k_30, k_32, k_31, k_33]) ⟨k_30_ok, k_32_ok, k_31_ok, k_33_ok, trivial⟩ (Ω := []) trivial k_15 F15_ok F15_call (fun _ => []) (fun _ => trivial) 0 (fun x => (fun (s : Store) => (fun k => bif Nat.beq k 0 then some (.inv [.sl 49 .cInt, .bl 2 .cInt] (fun zo zv => (fun (i : Int) (R : (List Int)) => i_15_0 s i R) zv.1 zv.2.1) (fun zo zv => (fun (i : Int) (R : (List Int)) => ((s.maps.length : Int) - i).toNat) zv.1 zv.2.1)) else bif Nat.beq k 1 then some (.inv [.sl 55 .cInt, .sl 49 .cInt, .bl 2 .cInt] (fun zo zv => (fun (j0 : Int) (i0 : Int) (R0 : (List Int)) (j : Int) (i : Int) (R : (List Int)) => i_15_1 s j0 i0 R0 j i R) zo.1 zo.2.1 zo.2.2.1 zv.1 zv.2.1 zv.2.2.1) (fun zo zv => (fun (j0 : Int) (i0 : Int) (R0 : (List Int)) (j : Int) (i : Int) (R : (List Int)) => (((gd [] s.maps i.toNat).length : Int) - j).toNat) zo.1 zo.2.1 zo.2.2.1 zv.1 zv.2.1 zv.2.2.1)) else bif Nat.beq k 2 then some (.inv [.sl 81 .cInt] (fun zo zv => (fun (k : Int) => i_15_2 s k) zv.1) (fun zo zv => (fun (k : Int) => ((s.cells.length : Int) - k).toNat) zv.1)) else none)) x.1) fun x hp => Eq.mp (by kernel_rfl) (k_15_v x.1)
open Go.RowKit
instance : DecidableEq ByteArray := fun a b => decidable_of_iff (strEq a b = true) sxEq_iff
theorem cell_ext {a b : Cell} : a.data = b.data ∧ a.refs = b.refs ↔ a = b := by
  cases a; cases b; simp
instance : DecidableEq Cell := fun a b => decidable_of_iff (a.data = b.data ∧ a.refs = b.refs) cell_ext
theorem store_ext {a b : Store} : a.cells = b.cells ∧ a.maps = b.maps ↔ a = b := by
  cases a; cases b; simp
instance : DecidableEq Store := fun a b => decidable_of_iff (a.cells = b.cells ∧ a.maps = b.maps) store_ext
theorem gd_iff {α : Type} {d : α} {a b : List α} (h : a.length = b.length) (k : ∀ i, i < a.length → gd d a i = gd d b i) : a = b := by
  refine List.ext_getElem h fun i h1 h2 => ?_
  have := k i h1
  unfold gd at this
  rw [List.getElem?_eq_getElem h1, List.getElem?_eq_getElem h2] at this
  simpa using this
structure EqI {α : Type} (d : α) (a b : List α) (i : Int) : Prop where
  lo : 0 ≤ i
  hi : i ≤ a.length
  len : (a.length : Int) = b.length
  eq : ∀ j, j < i.toNat → gd d a j = gd d b j
theorem EqI.start {α : Type} {d : α} {a b : List α} (h : (a.length : Int) = b.length) : EqI d a b 0 := ⟨by omega, by omega, h, fun j hj => by omega⟩
theorem EqI.step {α : Type} {d : α} {a b : List α} {i : Int} (h : EqI d a b i) (hi : i < a.length) (he : gd d a i.toNat = gd d b i.toNat) : EqI d a b (i + 1) := ⟨by have := h.lo; omega, by omega, h.len, fun j hj => by
  by_cases e : j = i.toNat
  · subst e; exact he
  · exact h.eq j (by have := h.lo; omega)⟩
theorem EqI.fin {α : Type} {d : α} {a b : List α} {i : Int} (h : EqI d a b i) (hi : a.length ≤ i) : a = b := gd_iff (d := d) (by have := h.len; omega) fun j hj => h.eq j (by omega)
theorem gd_ne {α : Type} {d : α} {a b : List α} {i : Nat} (h : gd d a i ≠ gd d b i) : a ≠ b := fun e => h (e ▸ rfl)
theorem len_ne {α : Type} {a b : List α} (h : (a.length : Int) ≠ b.length) : a ≠ b := fun e => h (e ▸ rfl)
structure RgJ (s : Store) (i j : Int) : Prop where
  p : CkP s
  ilo : 0 ≤ i
  ihi : i < s.maps.length
  lo : 0 ≤ j
  hi : j ≤ (gd [] s.maps i.toNat).length
  inn : ∀ r, r ∈ s.maps.take i.toNat → ∀ c, c ∈ r → 0 ≤ c ∧ c < s.cells.length
  inj : ∀ c, c ∈ (gd [] s.maps i.toNat).take j.toNat → 0 ≤ c ∧ c < s.cells.length
theorem RgJ.bad {s : Store} {i j : Int} (h : RgJ s i j) (hj : j < (gd [] s.maps i.toNat).length) (hb : gd 0 (gd [] s.maps i.toNat) j.toNat < 0 ∨ (s.cells.length : Int) ≤ gd 0 (gd [] s.maps i.toNat) j.toNat) : (3 : Int) = s.checkE := by
  have hp := h.p
  have h1 := hp.cl; have h2 := hp.ml; have h3 := hp.w0
  have h4 := h.ilo; have h5 := h.ihi; have h6 := h.lo
  unfold Store.checkE
  rw [if_neg (by omega), if_neg (by omega), if_neg (Classical.not_not.2 hp.w), if_neg (by omega), if_pos]
  intro hh
  have := hh _ (gd_mem (d := []) (xs := s.maps) (i := i.toNat) (by omega)) _ (gd_mem (d := 0) (xs := gd [] s.maps i.toNat) (i := j.toNat) (by omega))
  omega
def readS (s : Store) (m b : Int) : ByteArray × Int := if s.checkE ≠ 0 then (⟨#[]⟩, s.checkE) else if 0 ≤ m ∧ m < s.maps.length ∧ 0 ≤ b ∧ b < (gd [] s.maps 0).length then (rdS s m.toNat b.toNat, 0) else (⟨#[]⟩, 3)
def newA (n : Int) : Store × Int := if n < 1 ∨ 32 < n then (Store.zero, 3) else (newS n.toNat, 0)
theorem ok_at {s : Store} (h : s.checkE = 0) {m b : Int} (h1 : 0 ≤ m) (h2 : m < s.maps.length) (h3 : 0 ≤ b) (h4 : b < (gd [] s.maps 0).length) : 0 < s.maps.length ∧ b < (gd [] s.maps m.toNat).length ∧ 0 ≤ gd 0 (gd [] s.maps m.toNat) b.toNat ∧ gd 0 (gd [] s.maps m.toNat) b.toNat < s.cells.length ∧ (gd Cell.nil s.cells (gd 0 (gd [] s.maps m.toNat) b.toNat).toNat).data = rdS s m.toNat b.toNat := by
  have hk := Store.ok_iff.1 h
  obtain ⟨r, x, e1, e2, e3, e4, e5, e6, e7⟩ := hk.at (m := m.toNat) (b := b.toNat) (by omega) (by omega)
  have := e7.2
  rw [e3, e4]
  exact ⟨by omega, by omega, e5, e6, by unfold rdS; rw [e3, e4]⟩
theorem ok_maps {s : Store} (h : s.checkE = 0) : 0 < s.maps.length := by have := (Store.ok_iff.1 h).ml; omega
def i_29_0 (a : (List Int)) (b : (List Int)) (i : Int) : Prop := EqI 0 a b i
def k_29 : Con Tc Tc.dn := ⟨29, [.ty .lInt, .ty .lInt], fun x => (fun (a : (List Int)) (b : (List Int)) => a.length ≤ 1000000) x.1 x.2.1, [.cBool], fun x => (fun (a : (List Int)) (b : (List Int)) => decide (a = b)) x.1 x.2.1⟩
theorem k_29_v (a : (List Int)) (b : (List Int)) (hp : a.length ≤ 1000000) : (¬(↑a.length : Int) = (↑b.length : Int) → false = decide (a = b)) ∧ ((↑a.length : Int) = (↑b.length : Int) → i_29_0 a b (0 : Int) ∧ ∀ (x : Int), i_29_0 a b x → (x < (↑a.length : Int) → ((0 : Int) ≤ x ∧ x < (↑a.length : Int)) ∧ ((0 : Int) ≤ x ∧ x < (↑b.length : Int)) ∧ (¬gd (0 : Int) a x.toNat = gd (0 : Int) b x.toNat → false = decide (a = b)) ∧ (gd (0 : Int) a x.toNat = gd (0 : Int) b x.toNat → I64 (x + (1 : Int)) ∧ i_29_0 a b (x + (1 : Int)) ∧ ((↑a.length : Int) - (x + (1 : Int))).toNat < ((↑a.length : Int) - x).toNat)) ∧ ((↑a.length : Int) ≤ x → true = decide (a = b))) := by
  have h1 := @EqI.start Int 0 a b
  have h2 := @EqI.step Int 0 a b
  have h3 := @EqI.fin Int 0 a b
  have h4 := @gd_ne Int 0 a b
  have h5 := @len_ne Int a b
  have h6 := @EqI.lo Int 0 a b
  have h7 := @EqI.len Int 0 a b
  (repeat' (first | apply And.intro | intro _)) <;> first | assumption | trivial | omega | (grind [i_29_0, I64]) | trace_state
theorem k_29_ok : k_29.Ok Try.prog tD := con_ok tD_ok (Δ := []) trivial (Ω := []) trivial k_29 F29_ok F29_call (fun _ => []) (fun _ => trivial) 0 (fun x => (fun (a : (List Int)) (b : (List Int)) => (fun k => bif Nat.beq k 0 then some (.inv [.sl 5 .cInt] (fun zo zv => (fun (i : Int) => i_29_0 a b i) zv.1) (fun zo zv => (fun (i : Int) => ((a.length : Int) - i).toNat) zv.1)) else none)) x.1 x.2.1) fun x hp => Eq.mp (by kernel_rfl) (k_29_v x.1 x.2.1 hp)
def i_13_1 (a : Store) (b : Store) (i : Int) : Prop := EqI [] a.maps b.maps i ∧ a.cells = b.cells
def i_13_0 (a : Store) (b : Store) (i : Int) : Prop := EqI Cell.nil a.cells b.cells i ∧ (a.maps.length : Int) = b.maps.length
def k_13 : Con Tc Tc.dn := ⟨13, [.ty .cStore, .ty .cStore], fun x => (fun (a : Store) (b : Store) => a.cells.length ≤ 1000000 ∧ a.maps.length ≤ 1000000 ∧ ∀ r, r ∈ a.maps → r.length ≤ 1000000) x.1 x.2.1, [.cBool], fun x => (fun (a : Store) (b : Store) => decide (a = b)) x.1 x.2.1⟩
theorem k_13_v (a : Store) (b : Store) (hp : a.cells.length ≤ 1000000 ∧ a.maps.length ≤ 1000000 ∧ ∀ r, r ∈ a.maps → r.length ≤ 1000000) : ((↑a.cells.length : Int) = (↑b.cells.length : Int) → (↑a.cells.length : Int) = (↑b.cells.length : Int)) ∧ ((↑a.cells.length : Int) = (↑b.cells.length : Int) → (↑a.cells.length : Int) = (↑b.cells.length : Int)) ∧ ((↑a.cells.length : Int) = (↑b.cells.length : Int) → (↑a.cells.length : Int) = (↑b.cells.length : Int)) ∧ ((↑a.cells.length : Int) = (↑b.cells.length : Int) → (↑a.cells.length : Int) = (↑b.cells.length : Int)) ∧ ((↑a.cells.length : Int) = (↑b.cells.length : Int) → (↑a.cells.length : Int) = (↑b.cells.length : Int)) ∧ ((↑a.cells.length : Int) = (↑b.cells.length : Int) → (↑a.cells.length : Int) = (↑b.cells.length : Int)) ∧ ((↑a.cells.length : Int) = (↑b.cells.length : Int) → (↑a.cells.length : Int) = (↑b.cells.length : Int)) ∧ (¬(↑a.cells.length : Int) = (↑b.cells.length : Int) ∨ ¬(↑a.maps.length : Int) = (↑b.maps.length : Int) → false = decide (a = b)) ∧ ((↑a.cells.length : Int) = (↑b.cells.length : Int) ∧ (↑a.maps.length : Int) = (↑b.maps.length : Int) → i_13_0 a b (0 : Int) ∧ ∀ (x : Int), i_13_0 a b x → (x < (↑a.cells.length : Int) → ((0 : Int) ≤ x ∧ x < (↑a.cells.length : Int)) ∧ ((0 : Int) ≤ x ∧ x < (↑b.cells.length : Int)) ∧ (¬(gd (Cell.mk ByteArray.empty (0 : Int)) a.cells x.toNat).data = (gd (Cell.mk ByteArray.empty (0 : Int)) b.cells x.toNat).data ∨ ¬(gd (Cell.mk ByteArray.empty (0 : Int)) a.cells x.toNat).refs = (gd (Cell.mk ByteArray.empty (0 : Int)) b.cells x.toNat).refs → false = decide (a = b)) ∧ ((gd (Cell.mk ByteArray.empty (0 : Int)) a.cells x.toNat).data = (gd (Cell.mk ByteArray.empty (0 : Int)) b.cells x.toNat).data ∧ (gd (Cell.mk ByteArray.empty (0 : Int)) a.cells x.toNat).refs = (gd (Cell.mk ByteArray.empty (0 : Int)) b.cells x.toNat).refs → I64 (x + (1 : Int)) ∧ i_13_0 a b (x + (1 : Int)) ∧ ((↑a.cells.length : Int) - (x + (1 : Int))).toNat < ((↑a.cells.length : Int) - x).toNat)) ∧ ((↑a.cells.length : Int) ≤ x → i_13_1 a b (0 : Int) ∧ ∀ (x : Int), i_13_1 a b x → (x < (↑a.maps.length : Int) → ((0 : Int) ≤ x ∧ x < (↑a.maps.length : Int)) ∧ ((0 : Int) ≤ x ∧ x < (↑b.maps.length : Int)) ∧ (gd [] a.maps x.toNat).length ≤ (1000000 : Nat) ∧ (decide (gd [] a.maps x.toNat = gd [] b.maps x.toNat) = !true → false = decide (a = b)) ∧ (decide (gd [] a.maps x.toNat = gd [] b.maps x.toNat) = !false → I64 (x + (1 : Int)) ∧ i_13_1 a b (x + (1 : Int)) ∧ ((↑a.maps.length : Int) - (x + (1 : Int))).toNat < ((↑a.maps.length : Int) - x).toNat)) ∧ ((↑a.maps.length : Int) ≤ x → true = decide (a = b)))) := by
  have h1 := @EqI.start Cell Cell.nil a.cells b.cells
  have h2 := @EqI.step Cell Cell.nil a.cells b.cells
  have h3 := @EqI.fin Cell Cell.nil a.cells b.cells
  have h4 := @EqI.lo Cell Cell.nil a.cells b.cells
  have h5 := @EqI.len Cell Cell.nil a.cells b.cells
  have k1 := @EqI.start (List Int) [] a.maps b.maps
  have k2 := @EqI.step (List Int) [] a.maps b.maps
  have k3 := @EqI.fin (List Int) [] a.maps b.maps
  have k4 := @EqI.lo (List Int) [] a.maps b.maps
  have k5 := @EqI.len (List Int) [] a.maps b.maps
  have k8 : ∀ i : Int, 0 ≤ i → i < (a.maps.length : Int) → (gd [] a.maps i.toNat).length ≤ 1000000 := fun i q1 q2 => hp.2.2 _ (gd_mem (by omega))
  have e1 := @store_ext a b
  have e2 := @cell_ext
  obtain ⟨p1, p2, p3⟩ := hp
  unfold Cell.nil at *
  (repeat' (first | apply And.intro | intro _)) <;> first | assumption | trivial | omega | (grind [i_13_1, i_13_0, I64]) | trace_state
theorem k_13_ok : k_13.Ok Try.prog tD := con_ok tD_ok (Δ := [k_29]) ⟨k_29_ok, trivial⟩ (Ω := []) trivial k_13 F13_ok F13_call (fun _ => []) (fun _ => trivial) 0 (fun x => (fun (a : Store) (b : Store) => (fun k => bif Nat.beq k 0 then some (.inv [.sl 5 .cInt] (fun zo zv => (fun (i : Int) => i_13_0 a b i) zv.1) (fun zo zv => (fun (i : Int) => ((a.cells.length : Int) - i).toNat) zv.1)) else bif Nat.beq k 1 then some (.inv [.sl 6 .cInt] (fun zo zv => (fun (i : Int) => i_13_1 a b i) zv.1) (fun zo zv => (fun (i : Int) => ((a.maps.length : Int) - i).toNat) zv.1)) else none)) x.1 x.2.1) fun x hp => Eq.mp (by kernel_rfl) (k_13_v x.1 x.2.1 hp)
abbrev z12_0 (s : Store) (m : Int) (b : Int) := (s.checkE = (0 : Int) ∧ ((0 : Int) ≤ m ∧ m < (↑s.maps.length : Int)) ∧ (0 : Int) ≤ b → s.checkE = (0 : Int) ∧ ((0 : Int) ≤ m ∧ m < (↑s.maps.length : Int)) ∧ (0 : Int) ≤ b)
theorem k_12_v (s : Store) (m : Int) (b : Int) : True ∧ (s.checkE = (0 : Int) → s.checkE = (0 : Int)) ∧ (s.checkE = (0 : Int) → s.checkE = (0 : Int)) ∧ (s.checkE = (0 : Int) ∧ (0 : Int) ≤ m → s.checkE = (0 : Int) ∧ (0 : Int) ≤ m) ∧ (s.checkE = (0 : Int) ∧ (0 : Int) ≤ m → s.checkE = (0 : Int) ∧ (0 : Int) ≤ m) ∧ (s.checkE = (0 : Int) ∧ (0 : Int) ≤ m → s.checkE = (0 : Int) ∧ (0 : Int) ≤ m) ∧ (s.checkE = (0 : Int) ∧ (0 : Int) ≤ m → s.checkE = (0 : Int) ∧ (0 : Int) ≤ m) ∧ (s.checkE = (0 : Int) → s.checkE = (0 : Int)) ∧ (s.checkE = (0 : Int) → (0 : Int) ≤ m → s.checkE = (0 : Int) ∧ (0 : Int) ≤ m) ∧ (s.checkE = (0 : Int) → s.checkE = (0 : Int)) ∧ (s.checkE = (0 : Int) ∧ (0 : Int) ≤ m ∧ m < (↑s.maps.length : Int) → s.checkE = (0 : Int) ∧ (0 : Int) ≤ m ∧ m < (↑s.maps.length : Int)) ∧ (s.checkE = (0 : Int) → s.checkE = (0 : Int)) ∧ (s.checkE = (0 : Int) → (0 : Int) ≤ m ∧ m < (↑s.maps.length : Int) → s.checkE = (0 : Int) ∧ (0 : Int) ≤ m ∧ m < (↑s.maps.length : Int)) ∧ (s.checkE = (0 : Int) → s.checkE = (0 : Int)) ∧ (z12_0 s m b) ∧ (z12_0 s m b) ∧ (s.checkE = (0 : Int) ∧ ((0 : Int) ≤ m ∧ m < (↑s.maps.length : Int)) ∧ (0 : Int) ≤ b → (0 : Int) ≤ (0 : Int) ∧ (0 : Int) < (↑s.maps.length : Int)) ∧ (z12_0 s m b) ∧ (z12_0 s m b) ∧ (z12_0 s m b) ∧ (z12_0 s m b) ∧ (s.checkE = (0 : Int) → s.checkE = (0 : Int)) ∧ (s.checkE = (0 : Int) → ((0 : Int) ≤ m ∧ m < (↑s.maps.length : Int)) ∧ (0 : Int) ≤ b → s.checkE = (0 : Int) ∧ ((0 : Int) ≤ m ∧ m < (↑s.maps.length : Int)) ∧ (0 : Int) ≤ b) ∧ (s.checkE = (0 : Int) → s.checkE = (0 : Int)) ∧ (s.checkE = (0 : Int) ∧ (((m < (0 : Int) ∨ (↑s.maps.length : Int) ≤ m) ∨ b < (0 : Int)) ∨ (↑(gd [] s.maps (Int.toNat (0 : Int))).length : Int) ≤ b) → (ByteArray.mk #[], (3 : Int)) = readS s m b) ∧ (¬s.checkE = (0 : Int) ∨ (((0 : Int) ≤ m ∧ m < (↑s.maps.length : Int)) ∧ (0 : Int) ≤ b) ∧ b < (↑(gd [] s.maps (Int.toNat (0 : Int))).length : Int) → (¬s.checkE = (0 : Int) → (ByteArray.mk #[], s.checkE) = readS s m b) ∧ (s.checkE = (0 : Int) → ((0 : Int) ≤ m ∧ m < (↑s.maps.length : Int)) ∧ ((0 : Int) ≤ b ∧ b < (↑(gd [] s.maps m.toNat).length : Int)) ∧ ((0 : Int) ≤ gd (0 : Int) (gd [] s.maps m.toNat) b.toNat ∧ gd (0 : Int) (gd [] s.maps m.toNat) b.toNat < (↑s.cells.length : Int)) ∧ ((gd (Cell.mk ByteArray.empty (0 : Int)) s.cells (gd (0 : Int) (gd [] s.maps m.toNat) b.toNat).toNat).data, (0 : Int)) = readS s m b)) := by
  delta z12_0
  have h1 := @ok_at s
  have h2 := @ok_maps s
  try simp only [show Int.toNat 0 = 0 from rfl]
  unfold readS
  unfold Cell.nil at *
  (repeat' (first | apply And.intro | intro _)) <;> first | assumption | trivial | omega | (grind []) | trace_state
def k_26 : Con Tc Tc.dn := ⟨26, [.ptr .cStore, .ptr .cInt, .ptr .cInt], fun x => (fun (s : Store) (m : Int) (b : Int) => 0 < s.maps.length) x.1 x.2.1 x.2.2.1, [.cBool], fun x => (fun (s : Store) (m : Int) (b : Int) => decide (0 ≤ m ∧ m < s.maps.length ∧ 0 ≤ b ∧ b < (gd [] s.maps 0).length)) x.1 x.2.1 x.2.2.1⟩
theorem k_26_v (s : Store) (m : Int) (b : Int) (hp : 0 < s.maps.length) : True ∧ (decide ((0 : Int) ≤ m ∧ m < (↑s.maps.length : Int)) = true → decide ((0 : Int) ≤ m ∧ m < (↑s.maps.length : Int)) = true) ∧ (decide ((0 : Int) ≤ m ∧ m < (↑s.maps.length : Int)) = true → decide ((0 : Int) ≤ m ∧ m < (↑s.maps.length : Int)) = true) ∧ (decide ((0 : Int) ≤ m ∧ m < (↑s.maps.length : Int)) = true → (0 : Int) ≤ (0 : Int) ∧ (0 : Int) < (↑s.maps.length : Int)) ∧ (decide ((0 : Int) ≤ m ∧ m < (↑s.maps.length : Int)) = true → decide ((0 : Int) ≤ m ∧ m < (↑s.maps.length : Int)) = true) ∧ (decide ((0 : Int) ≤ m ∧ m < (↑s.maps.length : Int)) = true → decide ((0 : Int) ≤ m ∧ m < (↑s.maps.length : Int)) = true) ∧ (decide ((0 : Int) ≤ m ∧ m < (↑s.maps.length : Int)) = true → decide ((0 : Int) ≤ m ∧ m < (↑s.maps.length : Int)) = true) ∧ (decide ((0 : Int) ≤ m ∧ m < (↑s.maps.length : Int)) = true → True) ∧ (decide ((0 : Int) ≤ m ∧ m < (↑s.maps.length : Int)) = true → decide ((0 : Int) ≤ m ∧ m < (↑s.maps.length : Int)) = true) ∧ (decide ((0 : Int) ≤ m ∧ m < (↑s.maps.length : Int)) && decide ((0 : Int) ≤ b ∧ b < (↑(gd [] s.maps (Int.toNat (0 : Int))).length : Int))) = decide ((0 : Int) ≤ m ∧ m < (↑s.maps.length : Int) ∧ (0 : Int) ≤ b ∧ b < (↑(gd [] s.maps (0 : Nat)).length : Int)) := by
  (repeat' (first | apply And.intro | intro _)) <;> first | assumption | trivial | omega | (grind []) | trace_state
theorem k_26_ok : k_26.Ok Try.prog tD := con_ok tD_ok (Δ := [k_28, k_27]) ⟨k_28_ok, k_27_ok, trivial⟩ (Ω := []) trivial k_26 F26_ok F26_call (fun _ => []) (fun _ => trivial) 0 (fun x => (fun (s : Store) (m : Int) (b : Int) => (fun _ => none)) x.1 x.2.1 x.2.2.1) fun x hp => Eq.mp (by kernel_rfl) (k_26_v x.1 x.2.1 x.2.2.1 hp)
def k_11 : Con Tc Tc.dn := ⟨11, [.ty .cStore, .ty .cInt, .ty .cInt], fun x => (fun (s : Store) (m : Int) (b : Int) => True) x.1 x.2.1 x.2.2.1, [.cStr, .cInt], fun x => (fun (s : Store) (m : Int) (b : Int) => readS s m b) x.1 x.2.1 x.2.2.1⟩
theorem k_11_v (s : Store) (m : Int) (b : Int) : True ∧ (s.checkE = (0 : Int) → s.checkE = (0 : Int)) ∧ (s.checkE = (0 : Int) → (0 : Nat) < s.maps.length) ∧ (s.checkE = (0 : Int) → s.checkE = (0 : Int)) ∧ (s.checkE = (0 : Int) → s.checkE = (0 : Int)) ∧ (s.checkE = (0 : Int) ∧ decide ((0 : Int) ≤ m ∧ m < (↑s.maps.length : Int) ∧ (0 : Int) ≤ b ∧ b < (↑(gd [] s.maps (0 : Nat)).length : Int)) = !true → (ByteArray.mk #[], (3 : Int)) = readS s m b) ∧ (¬s.checkE = (0 : Int) ∨ decide ((0 : Int) ≤ m ∧ m < (↑s.maps.length : Int) ∧ (0 : Int) ≤ b ∧ b < (↑(gd [] s.maps (0 : Nat)).length : Int)) = !false → (¬s.checkE = (0 : Int) → (ByteArray.mk #[], s.checkE) = readS s m b) ∧ (s.checkE = (0 : Int) → ((0 : Int) ≤ m ∧ m < (↑s.maps.length : Int)) ∧ ((0 : Int) ≤ b ∧ b < (↑(gd [] s.maps m.toNat).length : Int)) ∧ ((0 : Int) ≤ gd (0 : Int) (gd [] s.maps m.toNat) b.toNat ∧ gd (0 : Int) (gd [] s.maps m.toNat) b.toNat < (↑s.cells.length : Int)) ∧ ((gd (Cell.mk ByteArray.empty (0 : Int)) s.cells (gd (0 : Int) (gd [] s.maps m.toNat) b.toNat).toNat).data, (0 : Int)) = readS s m b)) := by
  have h1 := @ok_at s
  have h2 := @ok_maps s
  try simp only [show Int.toNat 0 = 0 from rfl]
  unfold readS
  unfold Cell.nil at *
  (repeat' (first | apply And.intro | intro _)) <;> first | assumption | trivial | omega | (grind []) | trace_state
def l_11 : PD Tc.dn k_11.ps → List (IL Tc Tc.dn) := fun x => (fun (s : Store) (m : Int) (b : Int) => ([⟨25, .fn F25 (fun _ => none), none⟩])) x.1 x.2.1 x.2.2.1
theorem l_11_ok : ∀ x, ILs Try.prog tD (l_11 x) := fun _ => ⟨⟨F25_ok, F25_call⟩, trivial⟩
theorem k_11_ok : k_11.Ok Try.prog tD := con_ok tD_ok (Δ := [k_15, k_26]) ⟨k_15_ok, k_26_ok, trivial⟩ (Ω := []) trivial k_11 F11_ok F11_call (l_11) (l_11_ok) 1 (fun x => (fun (s : Store) (m : Int) (b : Int) => (fun _ => none)) x.1 x.2.1 x.2.2.1) fun x hp => Eq.mp (by kernel_rfl) (k_11_v x.1 x.2.1 x.2.2.1)
def k_10 : Con Tc Tc.dn := ⟨10, [.ty .cInt], fun x => (fun (n : Int) => True) x.1, [.cStore, .cInt], fun x => (fun (n : Int) => newA n) x.1⟩
theorem k_10_v (n : Int) : ((1 : Int) ≤ n → (1 : Int) ≤ n) ∧ ((1 : Int) ≤ n → (1 : Int) ≤ n) ∧ (n < (1 : Int) ∨ (32 : Int) < n → (Store.mk [] [], (3 : Int)) = newA n) ∧ ((1 : Int) ≤ n ∧ n ≤ (32 : Int) → ((0 : Int) ≤ n ∧ n ≤ n ∧ n * (↑(8 : Nat) : Int) ≤ (140737488355328 : Int)) ∧ (Store.mk [Cell.mk (ByteArray.mk #[]) n] [List.replicate n.toNat (0 : Int)], (0 : Int)) = newA n) := by
  (repeat' (first | apply And.intro | intro _)) <;> first | assumption | trivial | omega | (grind [newA, newS, Store.zero]) | trace_state
theorem k_10_ok : k_10.Ok Try.prog tD := con_ok tD_ok (Δ := []) trivial (Ω := []) trivial k_10 F10_ok F10_call (fun _ => []) (fun _ => trivial) 0 (fun x => (fun (n : Int) => (fun _ => none)) x.1) fun x hp => Eq.mp (by kernel_rfl) (k_10_v x.1)
open Go.RowKit
def CloneF (sz by_ : Nat) (zs : List AV) : AFn := ⟨8, [.tmp 2],
  .seq (.reg [⟨some 2, .mov (.c .emp), none⟩] none)
  (.seq (.seq (.reg [⟨some 3, .mov (.s 0), none⟩, ⟨some 4, .isn .sl false (.s 3), none⟩] none)
  (.cond (.s 4)
    (.seq (.reg [⟨some 2, .mov (.c .emp), none⟩] none)
    (.ret))
    (.skip)))
  (.seq (.reg [⟨some 5, .bsl sz 0 zs [], none⟩, ⟨some 6, .mov (.s 0), none⟩, ⟨some 7, .app sz by_ (.s 5) (.s 6), none⟩, ⟨some 2, .mov (.s 7), none⟩] none)
  (.ret)))⟩
theorem clone_fo {P : Program} {f : FuncId} {sz by_ : Nat} {zs : List AV} (hF : cFunc P f = some (CloneF sz by_ zs)) {α : Type} (fe : α → List AV) (hp : ∀ y, (fe y).all AV.pu1 = true) (hz : sz ≠ 0) (hzs : zs.length = sz) (xs : List α) (hx : ((xs.length : Nat) : Int) * by_ ≤ 140737488355328) : Fo P f [.lst sz (xs.map fe)] sz (xs.map fe) := by
  refine fo_of ?_
  rw [List.length_map]
  refine fV (m := []) (m' := [some ⟨sz, (xs.map fe)⟩]) hF (of_decide_eq_true (by kernel_rfl)) ?_
  refine srl 1 [0] ⟨[(0, .lst sz (xs.map fe))], []⟩ ?_
  refine EL.seqG [0] (fun y => (y = ⟨[(0, .lst sz (xs.map fe))], []⟩ ∧ ((List.isEmpty xs = true) ∨ (List.isEmpty xs = false)))) ?_ ?_
  · intro IHJ1 HJ1
    refine srr 1 ⟨[(3, .lst sz (xs.map fe)), (0, .lst sz (xs.map fe))], []⟩ ?_
    cases h2 : (List.isEmpty xs)
    · refine ow2 ⟨[(4, .v (.bool false)), (3, .lst sz (xs.map fe)), (0, .lst sz (xs.map fe))], []⟩ (opE_isn_ne fe xs (.s 3) sz false (by kernel_rfl) (by kernel_rfl) (.inl rfl) h2) ?_
      refine owl 0 [0, 4] ⟨[(4, .v (.bool false)), (0, .lst sz (xs.map fe))], []⟩ ?_
      refine cnF ?_
      refine EL.skip ?_
      exact tN (HJ1.get ⟨by kernel_rfl, (Or.inr h2)⟩)
    · refine ow2 ⟨[(4, .anyb), (3, .lst sz (xs.map fe)), (0, .lst sz (xs.map fe))], []⟩ (opE_isn_any fe xs (.s 3) sz false (by kernel_rfl) (by kernel_rfl) (.inl rfl) h2) ?_
      refine owl 0 [0, 4] ⟨[(4, .anyb), (0, .lst sz (xs.map fe))], []⟩ ?_
      refine EL.condAny (by kernel_rfl) ?_ ?_
      · refine srl 1 [2] ⟨[(2, .emp)], []⟩ ?_
        refine rtr ?_
        refine ⟨.inr rfl, ⟨[(2, .own 0 sz 0 (List.length xs))], [some ⟨sz, (xs.map fe)⟩]⟩, norm_le (live := [2]) (src := [.new sz]) (es := [(2, 0)]) (by rw [List.isEmpty_iff.1 h2]; cases sz with | zero => exact absurd rfl hz | succ n => kernel_rfl) trivial, by kernel_rfl, rfl⟩
      · refine EL.skip ?_
        exact tN (HJ1.get ⟨by kernel_rfl, (Or.inl h2)⟩)
  rintro _ (⟨rfl, hD3⟩)
  refine srr 2 ⟨[(6, .lst sz (xs.map fe)), (5, .own 0 sz 0 0), (0, .lst sz (xs.map fe))], [some ⟨sz, []⟩]⟩ ?_
  refine ow2 ⟨(7, .own 1 sz 0 (List.length xs)) :: [(6, .lst sz (xs.map fe)), (5, .own 0 sz 0 0), (0, .lst sz (xs.map fe))], [none, some ⟨sz, (xs.map fe)⟩]⟩ (oap fe ([] : List α) xs (.s 5) (.s 6) sz by_ 0 (.lst sz (xs.map fe)) .lst (by simp; omega)) ?_
  refine owl 1 [2] ⟨[(2, .own 1 sz 0 (List.length xs))], [none, some ⟨sz, (xs.map fe)⟩]⟩ ?_
  refine EL.ret ?_
  exact fne [2] [ut 1] ⟨[(2, .own 0 sz 0 (List.length xs))], [some ⟨sz, (xs.map fe)⟩]⟩ ⟨pq sz fe xs (by kernel_rfl) hp, trivial⟩
open Go.RowKit
def o_39 : ConO Tc Tc.dn := ⟨39, [.ty .lInt], fun x => ((x.1.length : Nat) : Int) * 8 ≤ 140737488355328, .cInt, fun x => x.1⟩
theorem o_39_ok : o_39.Ok Try.prog tD := ⟨⟨F39_call, fun _ => rfl⟩, fun x N hp => clone_fo (sz := 1) (by_ := 8) F39_ok (tD.ea N.ρ .cInt) (fun y => tD_ok.pu1 N .cInt y rfl) (by decide) rfl x.1 hp⟩
def o_48 : ConO Tc Tc.dn := ⟨48, [.ty .lCell], fun x => ((x.1.length : Nat) : Int) * 24 ≤ 140737488355328, .cCell, fun x => x.1⟩
theorem o_48_ok : o_48.Ok Try.prog tD := ⟨⟨F48_call, fun _ => rfl⟩, fun x N hp => clone_fo (sz := 2) (by_ := 24) F48_ok (tD.ea N.ρ .cCell) (fun y => tD_ok.pu1 N .cCell y rfl) (by decide) rfl x.1 hp⟩
abbrev RoL : Type := List (Row Int)
abbrev ArI : Type := List (Nat × List Int)
abbrev LLI : Type := List (List Int)
theorem Row.mine.get {A : ArI} {r : Row Int} (h : r.mine A) : r.get A = lkA A r.id ∧ (lkA A r.id).length = r.n := by
  unfold Row.get; rw [h.1]; exact ⟨rfl, h.2.2⟩
theorem at_mine {A : ArI} {id n : Nat} {zs : List Int} (h : zs.length = n) : (Row.at Int id n).mine ((id, zs) :: A) := by
  refine ⟨rfl, hasA_cons.2 (.inl rfl), ?_⟩
  show (lkA ((id, zs) :: A) id).length = n
  rw [lkA_cons, if_pos rfl]; exact h
theorem mine_put {A : ArI} {r : Row Int} {xs : List Int} (h : r.mine A) (hl : xs.length = r.n) : r.mine ((r.id, xs) :: A) := by
  refine ⟨h.1, hasA_cons.2 (.inl rfl), ?_⟩
  rw [lkA_cons, if_pos rfl]; exact hl
theorem gd_set1 {α : Type} {d : α} {l : List α} {i j : Nat} {x : α} : gd d (l.set i x) j = if i = j ∧ i < l.length then x else gd d l j := by
  unfold gd
  rw [List.getElem?_set]
  by_cases h : i = j
  · subst h
    by_cases h2 : i < l.length
    · simp [h2]
    · simp [h2, List.getElem?_eq_none (Nat.le_of_not_lt h2)]
  · simp [h]
theorem gd_app {α : Type} {d : α} {l : List α} {x : α} {j : Nat} : gd d (l ++ [x]) j = if j = l.length then x else gd d l j := by
  unfold gd
  by_cases h : j < l.length
  · rw [if_neg (by omega), List.getElem?_append_left h]
  · rw [List.getElem?_append_right (by omega)]
    by_cases e : j = l.length
    · rw [if_pos e, e]; simp
    · rw [if_neg e, List.getElem?_eq_none (by simp; omega), List.getElem?_eq_none (by omega)]
structure StR (K : RoL) (A : ArI) (L : LLI) : Prop where
  len : K.length = L.length
  row : ∀ j, j < L.length → (gd (Row.no Int) K j).mine A ∧ lkA A (gd (Row.no Int) K j).id = gd [] L j
  inj : ∀ j k, j < L.length → k < L.length → (gd (Row.no Int) K j).id = (gd (Row.no Int) K k).id → j = k
theorem StR.fin {K : RoL} {A : ArI} {L : LLI} (h : StR K A L) : (∀ x : Row Int, x ∈ K → x.ok A ∧ x.kd ≠ RK.nil) ∧ List.map (fun x => x.get A) K = L := by
  have hl := h.len
  refine ⟨gd_all (d := Row.no Int) fun j hj => ⟨Row.mine.ok (h.row j (by omega)).1, by rw [(h.row j (by omega)).1.1]; intro e; cases e⟩, ?_⟩
  refine gd_iff (d := []) (by simp [hl]) fun j hj => ?_
  simp only [List.length_map] at hj
  obtain ⟨p1, p2⟩ := h.row j (by omega)
  have e1 : gd (Row.no Int) K j = K[j] := by unfold gd; rw [List.getElem?_eq_getElem hj]; rfl
  rw [e1] at p1 p2
  rw [← p2, ← (Row.mine.get p1).1]
  unfold gd
  rw [List.getElem?_map, List.getElem?_eq_getElem hj]; rfl
theorem StR.at {K : RoL} {A : ArI} {L : LLI} (h : StR K A L) {j : Nat} (hj : j < L.length) : (gd (Row.no Int) K j).mine A ∧ (gd (Row.no Int) K j).ok A ∧ (gd (Row.no Int) K j).get A = gd [] L j ∧ (gd (Row.no Int) K j).kd ≠ RK.nil ∧ (gd (Row.no Int) K j).n = (gd [] L j).length ∧ hasA A (gd (Row.no Int) K j).id ∧ j < K.length := by
  obtain ⟨p1, p2⟩ := h.row j hj
  have g := Row.mine.get p1
  have e5 : (gd (Row.no Int) K j).n = (gd [] L j).length := by rw [← p2]; exact g.2.symm
  refine ⟨p1, Row.mine.ok p1, by rw [g.1, p2], fun e => ?_, e5, p1.2.1, by rw [h.len]; exact hj⟩
  rw [p1.1] at e; cases e
theorem StR.put {K : RoL} {A : ArI} {L : LLI} (h : StR K A L) {j : Nat} (hj : j < L.length) {xs : List Int} (hx : xs.length = (gd [] L j).length) : StR K (((gd (Row.no Int) K j).id, xs) :: A) (L.set j xs) := by
  refine ⟨by rw [h.len, List.length_set], fun i hi => ?_, fun i k hi hk => ?_⟩
  · rw [List.length_set] at hi
    rw [gd_set1]
    by_cases e : j = i
    · subst e
      rw [if_pos ⟨rfl, hj⟩]
      exact ⟨mine_put (h.row j hj).1 (by rw [hx, (h.at hj).2.2.2.2.1]), by rw [lkA_cons, if_pos rfl]⟩
    · rw [if_neg (fun hh => e hh.1)]
      obtain ⟨⟨q1, q2, q3⟩, q4⟩ := h.row i hi
      have hne : (gd (Row.no Int) K i).id ≠ (gd (Row.no Int) K j).id := fun hh => e (h.inj i j hi hj hh).symm
      refine ⟨⟨q1, hasA_cons.2 (.inr q2), by rw [lkA_cons, if_neg hne]; exact q3⟩, by rw [lkA_cons, if_neg hne]; exact q4⟩
  · rw [List.length_set] at hi hk
    exact h.inj i k hi hk
theorem StR.snoc {K : RoL} {A : ArI} {L : LLI} {id n : Nat} {xs : List Int} (h : StR K A L) (hid : ¬ hasA A id) (hn : xs.length = n) : StR (K ++ [Row.at Int id n]) ((id, xs) :: A) (L ++ [xs]) := by
  have hl := h.len
  have old : ∀ j, j < L.length → (gd (Row.no Int) K j).id ≠ id := fun j hj e => hid (e ▸ (h.row j hj).1.2.1)
  refine ⟨by simp [hl], fun j hj => ?_, fun i k hi hk => ?_⟩
  · simp only [List.length_append, List.length_singleton] at hj
    rw [gd_app, gd_app]
    by_cases e : j = L.length
    · rw [if_pos (by omega), if_pos e]
      exact ⟨at_mine hn, by show lkA _ id = _; rw [lkA_cons, if_pos rfl]⟩
    · rw [if_neg (by omega), if_neg e]
      obtain ⟨⟨q1, q2, q3⟩, q4⟩ := h.row j (by omega)
      have hne := old j (by omega)
      exact ⟨⟨q1, hasA_cons.2 (.inr q2), by rw [lkA_cons, if_neg hne]; exact q3⟩, by rw [lkA_cons, if_neg hne]; exact q4⟩
  · simp only [List.length_append, List.length_singleton] at hi hk
    rw [gd_app, gd_app]
    intro e
    by_cases e1 : i = L.length <;> by_cases e2 : k = L.length
    · omega
    · rw [if_pos (by omega), if_neg (by omega)] at e
      exact absurd e.symm (old k (by omega))
    · rw [if_neg (by omega), if_pos (by omega)] at e
      exact absurd e (old i (by omega))
    · rw [if_neg (by omega), if_neg (by omega)] at e
      exact h.inj i k (by omega) (by omega) e
structure OwI (L : LLI) (i : Int) (K : RoL) (A : ArI) : Prop where
  lo : 0 ≤ i
  hi : i ≤ L.length
  len : K.length = L.length
  row : ∀ j, j < i.toNat → (gd (Row.no Int) K j).mine A ∧ lkA A (gd (Row.no Int) K j).id = gd [] L j
  inj : ∀ j k, j < i.toNat → k < i.toNat → (gd (Row.no Int) K j).id = (gd (Row.no Int) K k).id → j = k
theorem OwI.start {L : LLI} {A : ArI} : OwI L 0 (List.replicate L.length (Row.no Int)) A := ⟨by omega, by omega, by simp, fun j hj => by simp at hj, fun j k hj => by simp at hj⟩
theorem OwI.step {L : LLI} {i : Int} {K : RoL} {A : ArI} (h : OwI L i K A) (hi : i < L.length) {id : Nat} (hid : ¬ hasA A id) : OwI L (i + 1) (K.set i.toNat (Row.at Int id (gd [] L i.toNat).length)) ((id, gd [] L i.toNat) :: A) := by
  have h0 := h.lo
  have hl := h.len
  have old : ∀ j, j < i.toNat → (gd (Row.no Int) K j).id ≠ id := fun j hj e => hid (e ▸ (h.row j hj).1.2.1)
  refine ⟨by omega, by omega, by rw [List.length_set]; exact hl, fun j hj => ?_, fun j k hj hk => ?_⟩
  · rw [gd_set1]
    by_cases e : i.toNat = j
    · subst e
      rw [if_pos ⟨rfl, by omega⟩]
      exact ⟨at_mine rfl, by show lkA _ id = _; rw [lkA_cons, if_pos rfl]⟩
    · rw [if_neg (fun hh => e hh.1)]
      obtain ⟨⟨q1, q2, q3⟩, q4⟩ := h.row j (by omega)
      have hne := old j (by omega)
      exact ⟨⟨q1, hasA_cons.2 (.inr q2), by rw [lkA_cons, if_neg hne]; exact q3⟩, by rw [lkA_cons, if_neg hne]; exact q4⟩
  · rw [gd_set1, gd_set1]
    intro e
    by_cases e1 : i.toNat = j <;> by_cases e2 : i.toNat = k
    · omega
    · rw [if_pos ⟨e1, by omega⟩, if_neg (fun hh => e2 hh.1)] at e
      exact absurd e.symm (old k (by omega))
    · rw [if_neg (fun hh => e1 hh.1), if_pos ⟨e2, by omega⟩] at e
      exact absurd e (old j (by omega))
    · rw [if_neg (fun hh => e1 hh.1), if_neg (fun hh => e2 hh.1)] at e
      exact h.inj j k (by omega) (by omega) e
theorem OwI.fin {L : LLI} {i : Int} {K : RoL} {A : ArI} (h : OwI L i K A) (hi : L.length ≤ i) : StR K A L := ⟨h.len, fun j hj => h.row j (by omega), fun j k hj hk => h.inj j k (by omega) (by omega)⟩
def nameC (X : List Cell) (c t : Int) : List Cell := X.set c.toNat ⟨if (gd Cell.nil X c.toNat).refs + t = 0 then ⟨#[]⟩ else (gd Cell.nil X c.toNat).data, (gd Cell.nil X c.toNat).refs + t⟩
def namedL : List Cell → List Int → Int → List Cell
  | X, [], _ => X
  | X, c :: r, t => namedL (nameC X c t) r t
theorem nameC_len {X : List Cell} {c t : Int} : (nameC X c t).length = X.length := by simp [nameC]
theorem namedL_len : ∀ {r : List Int} {X : List Cell} {t : Int}, (namedL X r t).length = X.length
  | [], X, t => rfl
  | c :: r, X, t => by rw [namedL, namedL_len, nameC_len]
theorem namedL_snoc : ∀ {r : List Int} {X : List Cell} {c t : Int}, namedL X (r ++ [c]) t = nameC (namedL X r t) c t
  | [], X, c, t => rfl
  | a :: r, X, c, t => by rw [List.cons_append, namedL, namedL, namedL_snoc]
theorem nameC_gd {X : List Cell} {c t : Int} {k : Nat} (hk : k < X.length) : gd Cell.nil (nameC X c t) k = if c.toNat = k then ⟨if (gd Cell.nil X k).refs + t = 0 then ⟨#[]⟩ else (gd Cell.nil X k).data, (gd Cell.nil X k).refs + t⟩ else gd Cell.nil X k := by
  unfold nameC
  rw [gd_set1]
  by_cases e : c.toNat = k
  · rw [if_pos ⟨e, by omega⟩, if_pos e, e]
  · rw [if_neg (fun hh => e hh.1), if_neg e]
structure NmG (X : List Cell) (r : List Int) (t : Int) : Prop where
  inn : ∀ c, c ∈ r → 0 ≤ c ∧ c < X.length
  bd : ∀ k, k < X.length → 0 ≤ (gd Cell.nil X k).refs ∧ (gd Cell.nil X k).refs ≤ 1000
  few : r.length ≤ 32
  ts : t = 1 ∨ (t = -1 ∧ ∀ k, k < X.length → (r.count (k : Int) : Int) ≤ (gd Cell.nil X k).refs)
theorem namedL_refs : ∀ {r : List Int} {X : List Cell} {t : Int}, (∀ c, c ∈ r → 0 ≤ c) → ∀ k, k < X.length → (gd Cell.nil (namedL X r t) k).refs = (gd Cell.nil X k).refs + t * (r.count (k : Int) : Int)
  | [], X, t, _, k, hk => by simp [namedL]
  | c :: r, X, t, hr, k, hk => by
    rw [namedL, namedL_refs (fun a ha => hr a (List.mem_cons_of_mem _ ha)) k (by rw [nameC_len]; exact hk), nameC_gd hk, List.count_cons]
    have h0 := hr c (List.mem_cons_self ..)
    by_cases e : c.toNat = k
    · have e2 : (c == (k : Int)) = true := by rw [beq_iff_eq]; omega
      rw [if_pos e, if_pos e2]
      show (gd Cell.nil X k).refs + t + t * _ = _
      rw [Int.natCast_add, Int.mul_add]; simp only [Int.natCast_one, Int.mul_one]; omega
    · have e2 : ¬ (c == (k : Int)) = true := by rw [beq_iff_eq]; omega
      rw [if_neg e, if_neg e2]; simp
def ZcO (X : List Cell) : Prop := ∀ k, k < X.length → (gd Cell.nil X k).refs = 0 → (gd Cell.nil X k).data = ⟨#[]⟩
theorem namedL_up : ∀ {r : List Int} {X : List Cell}, (∀ k, k < X.length → 0 ≤ (gd Cell.nil X k).refs) → (∀ c, c ∈ r → 0 ≤ c) → ∀ k, k < X.length → gd Cell.nil (namedL X r 1) k = ⟨(gd Cell.nil X k).data, (gd Cell.nil X k).refs + (r.count (k : Int) : Int)⟩
  | [], X, _, _, k, hk => by simp [namedL]
  | c :: r, X, hp, hr, k, hk => by
    have h0 := hr c (List.mem_cons_self ..)
    have hX : ∀ k, k < X.length → gd Cell.nil (nameC X c 1) k = if c.toNat = k then ⟨(gd Cell.nil X k).data, (gd Cell.nil X k).refs + 1⟩ else gd Cell.nil X k := fun k hk => by
      have := hp k hk
      rw [nameC_gd hk, if_neg (show ¬ (gd Cell.nil X k).refs + 1 = 0 by omega)]
    rw [namedL, namedL_up (fun j hj => by
      rw [nameC_len] at hj
      have := hp j hj
      rw [hX j hj]
      split
      · show 0 ≤ (gd Cell.nil X j).refs + 1; omega
      · exact this) (fun a ha => hr a (List.mem_cons_of_mem _ ha)) k (by rw [nameC_len]; exact hk), hX k hk, List.count_cons]
    by_cases e : c.toNat = k
    · rw [if_pos e, if_pos (by rw [beq_iff_eq]; omega)]
      simp only [Cell.mk.injEq, true_and]; omega
    · rw [if_neg e, if_neg (by rw [beq_iff_eq]; omega)]; simp
theorem namedL_dn : ∀ {r : List Int} {X : List Cell}, ZcO X → (∀ c, c ∈ r → 0 ≤ c) → (∀ k, k < X.length → (r.count (k : Int) : Int) ≤ (gd Cell.nil X k).refs) → ∀ k, k < X.length → gd Cell.nil (namedL X r (-1)) k = ⟨if (gd Cell.nil X k).refs - (r.count (k : Int) : Int) = 0 then ⟨#[]⟩ else (gd Cell.nil X k).data, (gd Cell.nil X k).refs - (r.count (k : Int) : Int)⟩
  | [], X, hz, _, _, k, hk => by
    show gd Cell.nil X k = _
    rw [List.count_nil]
    by_cases e : (gd Cell.nil X k).refs = 0
    · rw [if_pos (by omega), ← hz k hk e]; cases gd Cell.nil X k; simp
    · rw [if_neg (by omega)]; cases gd Cell.nil X k; simp
  | c :: r, X, hz, hr, hm, k, hk => by
    have h0 := hr c (List.mem_cons_self ..)
    have cc : ∀ k : Nat, ((c :: r).count (k : Int) : Int) = (r.count (k : Int) : Int) + if c.toNat = k then 1 else 0 := fun k => by
      rw [List.count_cons]
      by_cases e : c.toNat = k
      · rw [if_pos (by rw [beq_iff_eq]; omega), if_pos e]; simp
      · rw [if_neg (by rw [beq_iff_eq]; omega), if_neg e]; simp
    rw [namedL, namedL_dn (fun j hj h => by
      rw [nameC_len] at hj
      rw [nameC_gd hj] at h ⊢
      by_cases e : c.toNat = j
      · rw [if_pos e] at h ⊢; exact if_pos h
      · rw [if_neg e] at h ⊢; exact hz j hj h) (fun a ha => hr a (List.mem_cons_of_mem _ ha)) (fun j hj => by
      rw [nameC_len] at hj
      have := hm j hj
      rw [cc j] at this
      rw [nameC_gd hj]
      by_cases e : c.toNat = j
      · rw [if_pos e] at this ⊢; show _ ≤ (gd Cell.nil X j).refs + -1; omega
      · rw [if_neg e] at this ⊢; omega) k (by rw [nameC_len]; exact hk), nameC_gd hk, cc k]
    have hmk := hm k hk
    rw [cc k] at hmk
    by_cases e : c.toNat = k
    · rw [if_pos e] at hmk ⊢
      rw [if_pos e]
      simp only [Cell.mk.injEq]
      refine ⟨?_, by omega⟩
      by_cases e2 : (gd Cell.nil X k).refs + -1 - (r.count (k : Int) : Int) = 0
      · rw [if_pos e2, if_pos (by omega)]
      · rw [if_neg e2, if_neg (by omega), if_neg (by omega)]
    · rw [if_neg e, if_neg e]; simp
theorem namedL_gd {r : List Int} {X : List Cell} {t : Int} (h : NmG X r t) (hz : ZcO X) {k : Nat} (hk : k < X.length) : gd Cell.nil (namedL X r t) k = if (gd Cell.nil X k).refs + t * (r.count (k : Int) : Int) = 0 then Cell.nil else ⟨(gd Cell.nil X k).data, (gd Cell.nil X k).refs + t * (r.count (k : Int) : Int)⟩ := by
  have h0 : ∀ c, c ∈ r → 0 ≤ c := fun c hc => (h.inn c hc).1
  rcases h.ts with e | ⟨e, hm⟩
  · subst e
    rw [namedL_up (fun k hk => (h.bd k hk).1) h0 k hk, Int.one_mul]
    have := (h.bd k hk).1
    by_cases e : (gd Cell.nil X k).refs + (r.count (k : Int) : Int) = 0
    · rw [if_pos e, hz k hk (by omega), e]; rfl
    · rw [if_neg e]
  · subst e
    rw [namedL_dn hz h0 hm k hk, show (gd Cell.nil X k).refs + -1 * (r.count (k : Int) : Int) = (gd Cell.nil X k).refs - (r.count (k : Int) : Int) by omega]
    by_cases e : (gd Cell.nil X k).refs - (r.count (k : Int) : Int) = 0
    · rw [if_pos e, if_pos e, e]; rfl
    · rw [if_neg e, if_neg e]
structure NmI (X0 : List Cell) (r : List Int) (t i : Int) (X : List Cell) : Prop where
  g : NmG X0 r t
  lo : 0 ≤ i
  hi : i ≤ r.length
  eq : X = namedL X0 (r.take i.toNat) t
theorem NmI.start {X : List Cell} {r : List Int} {t : Int} (h : NmG X r t) : NmI X r t 0 X := ⟨h, by omega, by omega, rfl⟩
theorem NmI.step {X0 X : List Cell} {r : List Int} {t i : Int} (h : NmI X0 r t i X) (hi : i < r.length) : NmI X0 r t (i + 1) (nameC X (gd 0 r i.toNat) t) := by
  have h0 := h.lo
  refine ⟨h.g, by omega, by omega, ?_⟩
  rw [take_gd 0 h0 hi, namedL_snoc, ← h.eq]
theorem NmI.fin {X0 X : List Cell} {r : List Int} {t i : Int} (h : NmI X0 r t i X) (hi : r.length ≤ i) : X = namedL X0 r t := by
  rw [h.eq, List.take_of_length_le (by omega)]
theorem NmI.bd {X0 X : List Cell} {r : List Int} {t i : Int} (h : NmI X0 r t i X) (hi : i < r.length) : X.length = X0.length ∧ 0 ≤ gd 0 r i.toNat ∧ gd 0 r i.toNat < X.length ∧ -100 ≤ (gd Cell.nil X (gd 0 r i.toNat).toNat).refs ∧ (gd Cell.nil X (gd 0 r i.toNat).toNat).refs ≤ 2000 ∧ (t = 1 ∨ t = -1) := by
  have h0 := h.lo
  have hl : X.length = X0.length := by rw [h.eq, namedL_len]
  obtain ⟨c0, c1⟩ := h.g.inn _ (gd_mem (d := 0) (xs := r) (i := i.toNat) (by omega))
  have hr := namedL_refs (X := X0) (t := t) (r := r.take i.toNat) (fun c hc => (h.g.inn c (List.mem_of_mem_take hc)).1) (gd 0 r i.toNat).toNat (by omega)
  rw [← h.eq] at hr
  have hb := h.g.bd (gd 0 r i.toNat).toNat (by omega)
  have hc := List.count_le_length (a := (((gd 0 r i.toNat).toNat : Nat) : Int)) (l := r.take i.toNat)
  rw [List.length_take] at hc
  have hf := h.g.few
  have ht : t = 1 ∨ t = -1 := h.g.ts.imp _root_.id fun h => h.1
  refine ⟨hl, c0, by omega, ?_, ?_, ht⟩ <;> rcases ht with e | e <;> rw [hr, e] <;> omega
theorem nameC_zero {X : List Cell} {c t : Int} (hc : c.toNat < X.length) (h : (gd Cell.nil (X.set c.toNat ⟨(gd Cell.nil X c.toNat).data, (gd Cell.nil X c.toNat).refs + t⟩) c.toNat).refs = 0) : (X.set c.toNat ⟨(gd Cell.nil X c.toNat).data, (gd Cell.nil X c.toNat).refs + t⟩).set c.toNat ⟨⟨#[]⟩, (gd Cell.nil (X.set c.toNat ⟨(gd Cell.nil X c.toNat).data, (gd Cell.nil X c.toNat).refs + t⟩) c.toNat).refs⟩ = nameC X c t := by
  rw [gd_set1, if_pos ⟨rfl, hc⟩] at h ⊢
  have h' : (gd Cell.nil X c.toNat).refs + t = 0 := h
  unfold nameC
  rw [List.set_set, if_pos h']
theorem nameC_pos {X : List Cell} {c t : Int} (hc : c.toNat < X.length) (h : ¬ (gd Cell.nil (X.set c.toNat ⟨(gd Cell.nil X c.toNat).data, (gd Cell.nil X c.toNat).refs + t⟩) c.toNat).refs = 0) : X.set c.toNat ⟨(gd Cell.nil X c.toNat).data, (gd Cell.nil X c.toNat).refs + t⟩ = nameC X c t := by
  rw [gd_set1, if_pos ⟨rfl, hc⟩] at h
  have h' : ¬ (gd Cell.nil X c.toNat).refs + t = 0 := h
  unfold nameC
  rw [if_neg h']
theorem name_vc {X : List Cell} {c t : Int} {P : List Cell → Prop} (h0 : 0 ≤ c) (h1 : c < X.length) (h2 : I64 ((gd Cell.nil X c.toNat).refs + t)) (hP : P (nameC X c t)) :
    (0 ≤ c ∧ c < X.length) ∧ c.toNat < X.length ∧ I64 ((gd Cell.nil X c.toNat).refs + t) ∧ c.toNat < X.length ∧ c.toNat < (X.set c.toNat ⟨(gd Cell.nil X c.toNat).data, (gd Cell.nil X c.toNat).refs + t⟩).length ∧
    ((gd Cell.nil (X.set c.toNat ⟨(gd Cell.nil X c.toNat).data, (gd Cell.nil X c.toNat).refs + t⟩) c.toNat).refs = 0 → c.toNat < (X.set c.toNat ⟨(gd Cell.nil X c.toNat).data, (gd Cell.nil X c.toNat).refs + t⟩).length ∧ P ((X.set c.toNat ⟨(gd Cell.nil X c.toNat).data, (gd Cell.nil X c.toNat).refs + t⟩).set c.toNat ⟨⟨#[]⟩, (gd Cell.nil (X.set c.toNat ⟨(gd Cell.nil X c.toNat).data, (gd Cell.nil X c.toNat).refs + t⟩) c.toNat).refs⟩)) ∧
    (¬ (gd Cell.nil (X.set c.toNat ⟨(gd Cell.nil X c.toNat).data, (gd Cell.nil X c.toNat).refs + t⟩) c.toNat).refs = 0 → P (X.set c.toNat ⟨(gd Cell.nil X c.toNat).data, (gd Cell.nil X c.toNat).refs + t⟩)) := by
  have hc : c.toNat < X.length := by omega
  refine ⟨⟨h0, h1⟩, hc, h2, hc, by rw [List.length_set]; exact hc, fun h => ⟨by rw [List.length_set]; exact hc, ?_⟩, fun h => ?_⟩
  · rw [nameC_zero hc h]; exact hP
  · rw [nameC_pos hc h]; exact hP
theorem named_round {X0 : List Cell} {r : Row Int} {A : ArI} {t i : Int} {X : List Cell} {J : Int → List Cell → Prop} (h : NmI X0 (r.get A) t i X) (hok : r.ok A) (hi : i < (r.get A).length) (hJ : ∀ X', NmI X0 (r.get A) t (i + 1) X' → J (i + 1) X') :
    r.ok A ∧ (0 ≤ i ∧ i < (r.get A).length) ∧ r.ok A ∧ i.toNat < (r.get A).length ∧ (0 ≤ gd 0 (r.get A) i.toNat ∧ gd 0 (r.get A) i.toNat < X.length) ∧ (gd 0 (r.get A) i.toNat).toNat < X.length ∧ I64 ((gd Cell.nil X (gd 0 (r.get A) i.toNat).toNat).refs + t) ∧ (gd 0 (r.get A) i.toNat).toNat < X.length ∧ (gd 0 (r.get A) i.toNat).toNat < (X.set (gd 0 (r.get A) i.toNat).toNat ⟨(gd Cell.nil X (gd 0 (r.get A) i.toNat).toNat).data, (gd Cell.nil X (gd 0 (r.get A) i.toNat).toNat).refs + t⟩).length ∧
    ((gd Cell.nil (X.set (gd 0 (r.get A) i.toNat).toNat ⟨(gd Cell.nil X (gd 0 (r.get A) i.toNat).toNat).data, (gd Cell.nil X (gd 0 (r.get A) i.toNat).toNat).refs + t⟩) (gd 0 (r.get A) i.toNat).toNat).refs = 0 → (gd 0 (r.get A) i.toNat).toNat < (X.set (gd 0 (r.get A) i.toNat).toNat ⟨(gd Cell.nil X (gd 0 (r.get A) i.toNat).toNat).data, (gd Cell.nil X (gd 0 (r.get A) i.toNat).toNat).refs + t⟩).length ∧ I64 (i + 1) ∧ J (i + 1) ((X.set (gd 0 (r.get A) i.toNat).toNat ⟨(gd Cell.nil X (gd 0 (r.get A) i.toNat).toNat).data, (gd Cell.nil X (gd 0 (r.get A) i.toNat).toNat).refs + t⟩).set (gd 0 (r.get A) i.toNat).toNat ⟨⟨#[]⟩, (gd Cell.nil (X.set (gd 0 (r.get A) i.toNat).toNat ⟨(gd Cell.nil X (gd 0 (r.get A) i.toNat).toNat).data, (gd Cell.nil X (gd 0 (r.get A) i.toNat).toNat).refs + t⟩) (gd 0 (r.get A) i.toNat).toNat).refs⟩) ∧ (((r.get A).length : Int) - (i + 1)).toNat < (((r.get A).length : Int) - i).toNat) ∧
    (¬ (gd Cell.nil (X.set (gd 0 (r.get A) i.toNat).toNat ⟨(gd Cell.nil X (gd 0 (r.get A) i.toNat).toNat).data, (gd Cell.nil X (gd 0 (r.get A) i.toNat).toNat).refs + t⟩) (gd 0 (r.get A) i.toNat).toNat).refs = 0 → I64 (i + 1) ∧ J (i + 1) (X.set (gd 0 (r.get A) i.toNat).toNat ⟨(gd Cell.nil X (gd 0 (r.get A) i.toNat).toNat).data, (gd Cell.nil X (gd 0 (r.get A) i.toNat).toNat).refs + t⟩) ∧ (((r.get A).length : Int) - (i + 1)).toNat < (((r.get A).length : Int) - i).toNat) := by
  obtain ⟨b1, b2, b3, b4, b5, b6⟩ := h.bd hi
  have h0 := h.lo
  have hf := h.g.few
  have i64 : I64 (i + 1) := by unfold I64; omega
  have ms : (((r.get A).length : Int) - (i + 1)).toNat < (((r.get A).length : Int) - i).toNat := by omega
  exact ⟨hok, ⟨h0, hi⟩, hok, by omega, name_vc (P := fun X' => I64 (i + 1) ∧ J (i + 1) X' ∧ (((r.get A).length : Int) - (i + 1)).toNat < (((r.get A).length : Int) - i).toNat) b2 b3 (by unfold I64; rcases b6 with e | e <;> rw [e] <;> omega) ⟨i64, hJ _ (h.step hi), ms⟩⟩
theorem setC_gd {maps : LLI} {l : List Cell} {k : Nat} (hk : k < l.length) : gd Cell.nil (setC maps l 0) k = if cnt maps k = 0 then Cell.nil else ⟨(gd Cell.nil l k).data, (cnt maps k : Int)⟩ := by
  have := setC_get maps l 0 k _ (gd_get (d := Cell.nil) hk)
  unfold gd at this ⊢
  rw [this, Int.zero_add]; rfl
theorem ok_refs {s : Store} (h : s.Ok) {k : Nat} (hk : k < s.cells.length) : (gd Cell.nil s.cells k).refs = cnt s.maps k := by
  have e : setC s.maps s.cells 0 = s.cells := congrArg Store.cells h.st
  have := setC_gd (maps := s.maps) hk
  rw [e] at this
  rw [this]
  split
  · rename_i h; rw [h]; rfl
  · rfl
theorem ok_zc {s : Store} (h : s.Ok) : ZcO s.cells := fun k hk h0 => by
  have e : setC s.maps s.cells 0 = s.cells := congrArg Store.cells h.st
  have := setC_gd (maps := s.maps) hk
  rw [e] at this
  rw [ok_refs h hk] at h0
  rw [this, if_pos (by omega)]; rfl
theorem ok_row {s : Store} (h : s.Ok) {m : Nat} (hm : m < s.maps.length) : gd [] s.maps m ∈ s.maps ∧ (gd [] s.maps m).length ≤ 32 ∧ (gd [] s.maps m).length = (gd [] s.maps 0).length := by
  have := gd_mem (d := []) (xs := s.maps) (i := m) hm
  exact ⟨this, by rw [h.w _ this]; exact h.w0.2, h.w _ this⟩
theorem ok_cnt {s : Store} (h : s.Ok) (c : Int) : cnt s.maps c ≤ 12 * 32 := cnt_le h.ml.2 fun r hr => by rw [h.w r hr]; exact h.w0.2
theorem ok_up {s : Store} (h : s.Ok) {m : Nat} (hm : m < s.maps.length) : NmG s.cells (gd [] s.maps m) 1 := by
  obtain ⟨h1, h2, h3⟩ := ok_row h hm
  exact ⟨h.inn _ h1, fun k hk => by rw [ok_refs h hk]; have := ok_cnt h k; omega, h2, .inl rfl⟩
theorem cnt_mem : ∀ {maps : LLI} {r : List Int} {c : Int}, r ∈ maps → r.count c ≤ cnt maps c
  | [], r, c, h => by simp at h
  | a :: l, r, c, h => by
    unfold cnt
    rcases List.mem_cons.1 h with e | e
    · subst e; omega
    · have := cnt_mem (c := c) e; omega
theorem ok_dn {s : Store} (h : s.Ok) {m : Nat} (hm : m < s.maps.length) : NmG s.cells (gd [] s.maps m) (-1) := by
  obtain ⟨h1, h2, h3⟩ := ok_row h hm
  refine ⟨h.inn _ h1, fun k hk => by rw [ok_refs h hk]; have := ok_cnt h k; omega, h2, .inr ⟨rfl, fun k hk => ?_⟩⟩
  rw [ok_refs h hk]
  have := cnt_mem (c := (k : Int)) h1
  omega
theorem setl_of {s : Store} {maps : LLI} {X : List Cell} (hl : X.length = s.cells.length) (hX : ∀ k, k < s.cells.length → gd Cell.nil X k = if (cnt maps k : Int) = 0 then Cell.nil else ⟨(gd Cell.nil s.cells k).data, (cnt maps k : Int)⟩) : (⟨X, maps⟩ : Store) = setl s.cells maps := by
  unfold setl
  congr 1
  refine gd_iff (d := Cell.nil) (by rw [setC_len, hl]) fun k hk => ?_
  rw [hX k (by omega), setC_gd (by omega)]
  by_cases e : cnt maps k = 0
  · rw [if_pos e, if_pos (by omega)]
  · rw [if_neg e, if_neg (by omega)]
theorem snap_eq {s : Store} (h : s.Ok) : (⟨namedL s.cells (gd [] s.maps 0) 1, s.maps ++ [gd [] s.maps 0]⟩ : Store) = snapS s := by
  have hm : 0 < s.maps.length := by have := h.ml; omega
  refine setl_of namedL_len fun k hk => ?_
  rw [namedL_gd (ok_up h hm) (ok_zc h) hk, ok_refs h hk, cnt_app]
  have e : cnt [gd [] s.maps 0] (k : Int) = (gd [] s.maps 0).count (k : Int) := by simp [cnt]
  rw [e, Int.one_mul]; simp only [Int.natCast_add]
theorem drop_eq {s : Store} (h : s.Ok) {m : Nat} (hm : m < s.maps.length) : (⟨namedL s.cells (gd [] s.maps m) (-1), s.maps.eraseIdx m⟩ : Store) = dropS s m := by
  refine setl_of namedL_len fun k hk => ?_
  have e := cnt_erase s.maps m _ (k : Int) (gd_get (d := []) hm)
  rw [namedL_gd (ok_dn h hm) (ok_zc h) hk, ok_refs h hk]
  rw [show (cnt s.maps k : Int) + -1 * ((gd [] s.maps m).count (k : Int) : Int) = (cnt (s.maps.eraseIdx m) k : Int) by omega]
theorem ok_back {s : Store} (h : s.Ok) {m : Nat} (hm : m < s.maps.length) : NmG (namedL s.cells (gd [] s.maps m) 1) (gd [] s.maps 0) (-1) := by
  have h0 : 0 < s.maps.length := by omega
  obtain ⟨h1, h2, h3⟩ := ok_row h h0
  have hr := ok_row h hm
  refine ⟨fun c hc => by rw [namedL_len]; exact h.inn _ h1 c hc, fun k hk => ?_, h2, .inr ⟨rfl, fun k hk => ?_⟩⟩ <;> rw [namedL_len] at hk <;> rw [namedL_refs (fun c hc => (h.inn _ hr.1 c hc).1) k hk, ok_refs h hk, Int.one_mul]
  · have := ok_cnt h k
    have := List.count_le_length (a := (k : Int)) (l := gd [] s.maps m)
    omega
  · have := cnt_mem (c := (k : Int)) h1
    omega
theorem back_eq {s : Store} (h : s.Ok) {m : Nat} (hm : m < s.maps.length) : (⟨namedL (namedL s.cells (gd [] s.maps m) 1) (gd [] s.maps 0) (-1), s.maps.set 0 (gd [] s.maps m)⟩ : Store) = backS s m := by
  have h0 : 0 < s.maps.length := by omega
  refine setl_of (by rw [namedL_len, namedL_len]) fun k hk => ?_
  have e := cnt_set s.maps 0 _ (gd [] s.maps m) (k : Int) (gd_get (d := []) h0)
  have hz : ZcO (namedL s.cells (gd [] s.maps m) 1) := fun j hj hh => by
    rw [namedL_len] at hj
    rw [namedL_gd (ok_up h hm) (ok_zc h) hj] at hh ⊢
    split at hh
    · rename_i q; rw [if_pos q]; rfl
    · rename_i q; exact absurd hh q
  rw [namedL_gd (ok_back h hm) hz (by rw [namedL_len]; exact hk), namedL_gd (ok_up h hm) (ok_zc h) hk, ok_refs h hk, Int.one_mul]
  by_cases e2 : (cnt s.maps k : Int) + ((gd [] s.maps m).count (k : Int) : Int) = 0
  · have q1 := cnt_mem (c := (k : Int)) (ok_row h h0).1
    rw [if_pos e2, if_pos (by show (0 : Int) + -1 * _ = 0; omega), if_pos (by omega)]
  · rw [if_neg e2]
    show (if (cnt s.maps k : Int) + ((gd [] s.maps m).count (k : Int) : Int) + -1 * ((gd [] s.maps 0).count (k : Int) : Int) = 0 then _ else Cell.mk _ _) = _
    rw [show (cnt s.maps k : Int) + ((gd [] s.maps m).count (k : Int) : Int) + -1 * ((gd [] s.maps 0).count (k : Int) : Int) = (cnt (s.maps.set 0 (gd [] s.maps m)) k : Int) by omega]
def snpA (s : Store) : Store × Int := if s.checkE ≠ 0 then (Store.zero, s.checkE) else if s.maps.length = 12 then (Store.zero, 2) else (snapS s, 0)
def drpA (s : Store) (m : Int) : Store × Int := if s.checkE ≠ 0 then (Store.zero, s.checkE) else if 0 < m ∧ m < s.maps.length then (dropS s m.toNat, 0) else (Store.zero, 3)
def bckA (s : Store) (m : Int) : Store × Int := if s.checkE ≠ 0 then (Store.zero, s.checkE) else if 0 < m ∧ m < s.maps.length then (backS s m.toNat, 0) else (Store.zero, 3)
def i_18_36_0 (s : Store) (i : Int) (K : (List (Row Int))) (A : (List (Nat × List Int))) : Prop := OwI s.maps i K A
def i_18_40_0 (i0 : Int) (r0 : (Row Int)) (t0 : Int) (X0 : (List Cell)) (A0 : (List (Nat × List Int))) (i : Int) (r : (Row Int)) (t : Int) (X : (List Cell)) (A : (List (Nat × List Int))) : Prop := (r0 = r ∧ t0 = t ∧ A0 = A) ∧ NmI X0 (r.get A) t i X
def k_18 : Con Tc Tc.dn := ⟨18, [.ty .cStore], fun x => (fun (s : Store) => True) x.1, [.cStore, .cInt], fun x => (fun (s : Store) => snpA s) x.1⟩
theorem k_18_v (s : Store) : True ∧ (s.checkE = (0 : Int) → s.checkE = (0 : Int)) ∧ (s.checkE = (0 : Int) → s.checkE = (0 : Int)) ∧ (s.checkE = (0 : Int) → s.checkE = (0 : Int)) ∧ (s.checkE = (0 : Int) → s.checkE = (0 : Int)) ∧ (s.checkE = (0 : Int) ∧ (↑s.maps.length : Int) = (12 : Int) → (Store.mk [] [], (2 : Int)) = snpA s) ∧ (¬s.checkE = (0 : Int) ∨ ¬(↑s.maps.length : Int) = (12 : Int) → (¬s.checkE = (0 : Int) → (Store.mk [] [], s.checkE) = snpA s) ∧ (s.checkE = (0 : Int) → (↑s.cells.length : Int) * (24 : Int) ≤ (140737488355328 : Int) ∧ ((0 : Int) ≤ (↑s.maps.length : Int) ∧ (↑s.maps.length : Int) ≤ (↑s.maps.length : Int) ∧ (↑s.maps.length : Int) * (↑(24 : Nat) : Int) ≤ (140737488355328 : Int)) ∧ i_18_36_0 s (0 : Int) (List.replicate (↑s.maps.length : Int).toNat (Row.no Int)) [] ∧ ∀ (x : Int) (x_1 : List (Row Int)) (x_2 : List (Nat × List Int)), i_18_36_0 s x x_1 x_2 → (x < (↑s.maps.length : Int) → ((0 : Int) ≤ x ∧ x < (↑s.maps.length : Int)) ∧ (↑(gd [] s.maps x.toNat).length : Int) * (8 : Int) ≤ (140737488355328 : Int) ∧ ((0 : Int) ≤ x ∧ x < (↑x_1.length : Int)) ∧ ∀ (id : Nat), ¬hasA x_2 id → x.toNat < x_1.length ∧ I64 (x + (1 : Int)) ∧ i_18_36_0 s (x + (1 : Int)) (x_1.set x.toNat (Row.at Int id (gd [] s.maps x.toNat).length)) ((id, gd [] s.maps x.toNat) :: x_2) ∧ ((↑s.maps.length : Int) - (x + (1 : Int))).toNat < ((↑s.maps.length : Int) - x).toNat) ∧ ((↑s.maps.length : Int) ≤ x → ((0 : Int) ≤ (0 : Int) ∧ (0 : Int) < (↑x_1.length : Int)) ∧ nat_lit 0 < x_1.length ∧ (gd (Row.no Int) x_1 (nat_lit 0)).ok x_2 ∧ (gd (Row.no Int) x_1 (nat_lit 0)).kd ≠ RK.nil ∧ (↑((gd (Row.no Int) x_1 (nat_lit 0)).get x_2).length : Int) * (8 : Int) ≤ (140737488355328 : Int) ∧ ∀ (id : Nat), ¬hasA x_2 id → (x_1.length + (1 : Nat)) * (24 : Nat) ≤ (140737488355328 : Nat) ∧ ((0 : Int) ≤ (0 : Int) ∧ (0 : Int) < (↑(x_1 ++ [Row.at Int id ((gd (Row.no Int) x_1 (nat_lit 0)).get x_2).length]).length : Int)) ∧ nat_lit 0 < (x_1 ++ [Row.at Int id ((gd (Row.no Int) x_1 (nat_lit 0)).get x_2).length]).length ∧ (gd (Row.no Int) (x_1 ++ [Row.at Int id ((gd (Row.no Int) x_1 (nat_lit 0)).get x_2).length]) (nat_lit 0)).ok ((id, (gd (Row.no Int) x_1 (nat_lit 0)).get x_2) :: x_2) ∧ i_18_40_0 (0 : Int) (gd (Row.no Int) (x_1 ++ [Row.at Int id ((gd (Row.no Int) x_1 (nat_lit 0)).get x_2).length]) (nat_lit 0)) (1 : Int) s.cells ((id, (gd (Row.no Int) x_1 (nat_lit 0)).get x_2) :: x_2) (0 : Int) (gd (Row.no Int) (x_1 ++ [Row.at Int id ((gd (Row.no Int) x_1 (nat_lit 0)).get x_2).length]) (nat_lit 0)) (1 : Int) s.cells ((id, (gd (Row.no Int) x_1 (nat_lit 0)).get x_2) :: x_2) ∧ ∀ (x : Int) (x_3 : Row Int) (x_4 : Int) (x_5 : List Cell) (x_6 : List (Nat × List Int)), i_18_40_0 (0 : Int) (gd (Row.no Int) (x_1 ++ [Row.at Int id ((gd (Row.no Int) x_1 (nat_lit 0)).get x_2).length]) (nat_lit 0)) (1 : Int) s.cells ((id, (gd (Row.no Int) x_1 (nat_lit 0)).get x_2) :: x_2) x x_3 x_4 x_5 x_6 → (x < (↑((gd (Row.no Int) (x_1 ++ [Row.at Int id ((gd (Row.no Int) x_1 (nat_lit 0)).get x_2).length]) (nat_lit 0)).get ((id, (gd (Row.no Int) x_1 (nat_lit 0)).get x_2) :: x_2)).length : Int) → x_3.ok x_6 ∧ ((0 : Int) ≤ x ∧ x < (↑(x_3.get x_6).length : Int)) ∧ x_3.ok x_6 ∧ x.toNat < (x_3.get x_6).length ∧ ((0 : Int) ≤ gd (0 : Int) (x_3.get x_6) x.toNat ∧ gd (0 : Int) (x_3.get x_6) x.toNat < (↑x_5.length : Int)) ∧ (gd (0 : Int) (x_3.get x_6) x.toNat).toNat < x_5.length ∧ I64 ((gd (Cell.mk ByteArray.empty (0 : Int)) x_5 (gd (0 : Int) (x_3.get x_6) x.toNat).toNat).refs + x_4) ∧ (gd (0 : Int) (x_3.get x_6) x.toNat).toNat < x_5.length ∧ (gd (0 : Int) (x_3.get x_6) x.toNat).toNat < (x_5.set (gd (0 : Int) (x_3.get x_6) x.toNat).toNat (Cell.mk (gd (Cell.mk ByteArray.empty (0 : Int)) x_5 (gd (0 : Int) (x_3.get x_6) x.toNat).toNat).data ((gd (Cell.mk ByteArray.empty (0 : Int)) x_5 (gd (0 : Int) (x_3.get x_6) x.toNat).toNat).refs + x_4))).length ∧ ((gd (Cell.mk ByteArray.empty (0 : Int)) (x_5.set (gd (0 : Int) (x_3.get x_6) x.toNat).toNat (Cell.mk (gd (Cell.mk ByteArray.empty (0 : Int)) x_5 (gd (0 : Int) (x_3.get x_6) x.toNat).toNat).data ((gd (Cell.mk ByteArray.empty (0 : Int)) x_5 (gd (0 : Int) (x_3.get x_6) x.toNat).toNat).refs + x_4))) (gd (0 : Int) (x_3.get x_6) x.toNat).toNat).refs = (0 : Int) → (gd (0 : Int) (x_3.get x_6) x.toNat).toNat < (x_5.set (gd (0 : Int) (x_3.get x_6) x.toNat).toNat (Cell.mk (gd (Cell.mk ByteArray.empty (0 : Int)) x_5 (gd (0 : Int) (x_3.get x_6) x.toNat).toNat).data ((gd (Cell.mk ByteArray.empty (0 : Int)) x_5 (gd (0 : Int) (x_3.get x_6) x.toNat).toNat).refs + x_4))).length ∧ I64 (x + (1 : Int)) ∧ i_18_40_0 (0 : Int) (gd (Row.no Int) (x_1 ++ [Row.at Int id ((gd (Row.no Int) x_1 (nat_lit 0)).get x_2).length]) (nat_lit 0)) (1 : Int) s.cells ((id, (gd (Row.no Int) x_1 (nat_lit 0)).get x_2) :: x_2) (x + (1 : Int)) x_3 x_4 ((x_5.set (gd (0 : Int) (x_3.get x_6) x.toNat).toNat (Cell.mk (gd (Cell.mk ByteArray.empty (0 : Int)) x_5 (gd (0 : Int) (x_3.get x_6) x.toNat).toNat).data ((gd (Cell.mk ByteArray.empty (0 : Int)) x_5 (gd (0 : Int) (x_3.get x_6) x.toNat).toNat).refs + x_4))).set (gd (0 : Int) (x_3.get x_6) x.toNat).toNat (Cell.mk (ByteArray.mk #[]) (gd (Cell.mk ByteArray.empty (0 : Int)) (x_5.set (gd (0 : Int) (x_3.get x_6) x.toNat).toNat (Cell.mk (gd (Cell.mk ByteArray.empty (0 : Int)) x_5 (gd (0 : Int) (x_3.get x_6) x.toNat).toNat).data ((gd (Cell.mk ByteArray.empty (0 : Int)) x_5 (gd (0 : Int) (x_3.get x_6) x.toNat).toNat).refs + x_4))) (gd (0 : Int) (x_3.get x_6) x.toNat).toNat).refs)) x_6 ∧ ((↑(x_3.get x_6).length : Int) - (x + (1 : Int))).toNat < ((↑(x_3.get x_6).length : Int) - x).toNat) ∧ (¬(gd (Cell.mk ByteArray.empty (0 : Int)) (x_5.set (gd (0 : Int) (x_3.get x_6) x.toNat).toNat (Cell.mk (gd (Cell.mk ByteArray.empty (0 : Int)) x_5 (gd (0 : Int) (x_3.get x_6) x.toNat).toNat).data ((gd (Cell.mk ByteArray.empty (0 : Int)) x_5 (gd (0 : Int) (x_3.get x_6) x.toNat).toNat).refs + x_4))) (gd (0 : Int) (x_3.get x_6) x.toNat).toNat).refs = (0 : Int) → I64 (x + (1 : Int)) ∧ i_18_40_0 (0 : Int) (gd (Row.no Int) (x_1 ++ [Row.at Int id ((gd (Row.no Int) x_1 (nat_lit 0)).get x_2).length]) (nat_lit 0)) (1 : Int) s.cells ((id, (gd (Row.no Int) x_1 (nat_lit 0)).get x_2) :: x_2) (x + (1 : Int)) x_3 x_4 (x_5.set (gd (0 : Int) (x_3.get x_6) x.toNat).toNat (Cell.mk (gd (Cell.mk ByteArray.empty (0 : Int)) x_5 (gd (0 : Int) (x_3.get x_6) x.toNat).toNat).data ((gd (Cell.mk ByteArray.empty (0 : Int)) x_5 (gd (0 : Int) (x_3.get x_6) x.toNat).toNat).refs + x_4))) x_6 ∧ ((↑(x_3.get x_6).length : Int) - (x + (1 : Int))).toNat < ((↑(x_3.get x_6).length : Int) - x).toNat)) ∧ ((↑((gd (Row.no Int) (x_1 ++ [Row.at Int id ((gd (Row.no Int) x_1 (nat_lit 0)).get x_2).length]) (nat_lit 0)).get ((id, (gd (Row.no Int) x_1 (nat_lit 0)).get x_2) :: x_2)).length : Int) ≤ x → (∀ (x : Row Int), x ∈ x_1 ++ [Row.at Int id ((gd (Row.no Int) x_1 (nat_lit 0)).get x_2).length] → x.ok x_6 ∧ x.kd ≠ RK.nil) ∧ (Store.mk x_5 (List.map (fun x => x.get x_6) (x_1 ++ [Row.at Int id ((gd (Row.no Int) x_1 (nat_lit 0)).get x_2).length])), (0 : Int)) = snpA s)))) := by
  simp only [show Int.toNat 0 = 0 from rfl, Int.toNat_natCast]
  refine ⟨trivial, fun h => h, fun h => h, fun h => h, fun h => h, fun h => ?_, fun h0 => ⟨fun h => ?_, fun h => ?_⟩⟩
  focus
    unfold snpA
    rw [if_neg (by rw [h.1]; simp), if_pos (by have := h.2; omega)]; rfl
  focus
    unfold snpA
    rw [if_pos h]; rfl
  have hk := Store.ok_iff.1 h
  have q1 := hk.cl
  have q2 := hk.ml
  have h12 : ¬ s.maps.length = 12 := by rcases h0 with h0 | h0; exact absurd h h0; omega
  refine ⟨by omega, by omega, OwI.start, fun i K A hI => ⟨fun hi => ?_, fun hge => ?_⟩⟩
  focus
    have i0 := hI.lo
    have il := hI.len
    have hr := (ok_row hk (m := i.toNat) (by omega)).2.1
    exact ⟨⟨i0, hi⟩, by omega, by omega, fun id hid => ⟨by omega, by unfold I64; omega, hI.step hi hid, by omega⟩⟩
  have hS := hI.fin hge
  have hl := hS.len
  obtain ⟨a1, a2, a3, a4, a5, a6, a7⟩ := hS.at (j := 0) (by omega)
  have hr := (ok_row hk (m := 0) (by omega)).2.1
  rw [a3]
  refine ⟨by omega, a7, a2, a4, by omega, fun id hid => ?_⟩
  have hS2 := hS.snoc hid (xs := gd [] s.maps 0) rfl
  obtain ⟨c1, c2, c3, c4, c5, c6, c7⟩ := hS2.at (j := 0) (by simp)
  have e0 : gd [] (s.maps ++ [gd [] s.maps 0]) 0 = gd [] s.maps 0 := by rw [gd_app, if_neg (by omega)]
  rw [e0] at c3 c5
  refine ⟨by omega, by omega, c7, c2, ⟨⟨rfl, rfl, rfl⟩, NmI.start (by rw [c3]; exact ok_up hk (by omega))⟩, fun i r t X A' hN => ?_⟩
  obtain ⟨⟨e1, e2, e3⟩, hN⟩ := hN
  subst e1; subst e2; subst e3
  refine ⟨fun hi => named_round (J := fun i X => i_18_40_0 _ _ _ _ _ i _ _ X _) hN c2 hi fun X' hX => ⟨⟨rfl, rfl, rfl⟩, hX⟩, fun hge2 => ?_⟩
  have hX := hN.fin hge2
  obtain ⟨f1, f2⟩ := hS2.fin
  refine ⟨f1, ?_⟩
  rw [f2, hX, c3]
  unfold snpA
  rw [if_neg (by rw [h]; simp), if_neg h12, ← snap_eq hk]
def l_18 : PD Tc.dn k_18.ps → List (IL Tc Tc.dn) := fun x => (fun (s : Store) => ([⟨36, .fn F36 (fun k => bif Nat.beq k 0 then some (.inv [.sl 17 .cInt, .bl 6 .rInt, .ar .cInt] (fun zo zv => (fun (i : Int) (K : (List (Row Int))) (A : (List (Nat × List Int))) => i_18_36_0 s i K A) zv.1 zv.2.1 zv.2.2.1) (fun zo zv => (fun (i : Int) (K : (List (Row Int))) (A : (List (Nat × List Int))) => ((s.maps.length : Int) - i).toNat) zv.1 zv.2.1 zv.2.2.1)) else none), none⟩, ⟨40, .fn F40 (fun k => bif Nat.beq k 0 then some (.inv [.sl 10 .cInt, .sl 8 .rInt, .sl 2 .cInt, .bl 5 .cCell, .ar .cInt] (fun zo zv => (fun (i0 : Int) (r0 : (Row Int)) (t0 : Int) (X0 : (List Cell)) (A0 : (List (Nat × List Int))) (i : Int) (r : (Row Int)) (t : Int) (X : (List Cell)) (A : (List (Nat × List Int))) => i_18_40_0 i0 r0 t0 X0 A0 i r t X A) zo.1 zo.2.1 zo.2.2.1 zo.2.2.2.1 zo.2.2.2.2.1 zv.1 zv.2.1 zv.2.2.1 zv.2.2.2.1 zv.2.2.2.2.1) (fun zo zv => (fun (i0 : Int) (r0 : (Row Int)) (t0 : Int) (X0 : (List Cell)) (A0 : (List (Nat × List Int))) (i : Int) (r : (Row Int)) (t : Int) (X : (List Cell)) (A : (List (Nat × List Int))) => (((r.get A).length : Int) - i).toNat) zo.1 zo.2.1 zo.2.2.1 zo.2.2.2.1 zo.2.2.2.2.1 zv.1 zv.2.1 zv.2.2.1 zv.2.2.2.1 zv.2.2.2.2.1)) else none), none⟩, ⟨37, .fn F37 (fun _ => none), none⟩])) x.1
theorem l_18_ok : ∀ x, ILs Try.prog tD (l_18 x) := fun _ => ⟨⟨F36_ok, F36_call⟩, ⟨F40_ok, F40_call⟩, ⟨F37_ok, F37_call⟩, trivial⟩
theorem k_18_ok : k_18.Ok Try.prog tD := con_ok tD_ok (Δ := [k_15]) ⟨k_15_ok, trivial⟩ (Ω := [o_39, o_48]) ⟨o_39_ok, o_48_ok, trivial⟩ k_18 F18_ok F18_call (l_18) (l_18_ok) 4 (fun x => (fun (s : Store) => (fun _ => none)) x.1) fun x hp => Eq.mp (by kernel_rfl) (k_18_v x.1)
end Go.Proofs.Ytfjkncmcpeacjaa
