/- Appending to a list that the call owns: one law for one element and for a whole list of flat elements. No condition. -/
import Derived.Test.YtnfffbgnjobkfaaRows
import Derived.Test.YtnfffbgnjobkfaaGoT
import Derived.WalkKit
import Derived.Handy
import Derived.ProofKit
import Derived.OpenShut
import Derived.ShutString
import Derived.ChangeOld
import Derived.Below
import Derived.Lib.Hide
import Derived.WalkLawsBesides
import Derived.WalkSpells
import Derived.Deep.QuietTactic
import Derived.BigQuiet
import Derived.Maps.AppendAt
import Derived.Laws.OwnMore
namespace Go.Proofs.Ytnfffbgnjobkfaa
set_option linter.unusedSimpArgs false
set_option linter.unusedVariables false
open Go.ChangeShapes Go.WideShapes Go.ChangeAt Go.RowKit
open Go.ChangeMaps (open_string shut_string)
/-- The elements of a type are flat: each is written out by 'enc', each of its cells is one cell. -/
structure Flat (α : Type) [GoT α] where
  enc : α → List Value
  len : ∀ x, (enc x).length = GoT.size α
  pos : 0 < GoT.size α
  one : ∀ x u, u ∈ enc x → u.oneCell' = true
theorem flat_get {α : Type} [GoT α] (F : Flat α) : ∀ (l : List α) (j : Nat) (u : Value), (l.flatMap F.enc)[j]? = some u → ∃ i, ∃ hi : i < l.length, ∃ j', j = i * GoT.size α + j' ∧ (F.enc l[i])[j']? = some u
  | [], j, u, h => by simp at h
  | a :: l, j, u, h => by
    rw [List.flatMap_cons] at h
    by_cases hj : j < GoT.size α
    · rw [List.getElem?_append_left (by rw [F.len]; exact hj)] at h
      exact ⟨0, by simp, j, by omega, h⟩
    · rw [List.getElem?_append_right (by rw [F.len]; omega), F.len] at h
      obtain ⟨i, hi, j', h1, h2⟩ := flat_get F l _ u h
      refine ⟨i + 1, by simpa using hi, j', ?_, h2⟩
      rw [Nat.add_mul]; omega
/-- What a slice of flat elements that lies in memory yields to append. -/
def SrcAt {α : Type} [GoT α] (F : Flat α) (w : World) (A : Option Addr) (n : Nat) (ys : List α) : Prop :=
  n = ys.length ∧ (A = none → ys = []) ∧ ∀ ad, A = some ad → ∀ j u, (ys.flatMap F.enc)[j]? = some u → w.cell? (ad.add j) = some u
theorem src_of {α : Type} [GoT α] (F : Flat α) {w : World} {A : Option Addr} {n : Nat} {ys : List α} (hn : n = ys.length)
    (h : ys = [] ∨ ∃ b off, A = some ⟨b, off, none⟩ ∧ ∀ i (hi : i < ys.length) j u, (F.enc ys[i])[j]? = some u → w.cell? ⟨b, off + i * GoT.size α + j, none⟩ = some u) : SrcAt F w A n ys := by
  refine ⟨hn, fun hA => ?_, fun ad hA j u hj => ?_⟩
  · rcases h with rfl | ⟨b, off, hA2, h⟩
    · rfl
    · rw [hA2] at hA; cases hA
  rcases h with rfl | ⟨b, off, hA2, h⟩
  · simp at hj
  · rw [hA2] at hA
    injection hA with hA
    subst hA
    obtain ⟨i, hi, j', rfl, h2⟩ := flat_get F ys j u hj
    rw [addr_add, ← Nat.add_assoc]
    exact h i hi j' u h2
theorem run_append_none_any {P : Program} {w : World} (base : Nat) (t ty e : TypeId) (i : TypeInfo) (size : Nat) (ht : P.underlying t = some (.slice e)) (hi : P.info? e = some i)
    (v : Value) (n : Nat) (xs : List Value) (c : Nat) (hown : w.ownsRow base e size v n xs) :
    (Builtin.append_ #[t, t] ty #[v, .slice none 0 c]).run P w = .ok v w := by
  rcases hown.2 with ⟨rfl, rfl⟩ | ⟨g, cap, cur, rfl, _, _, hnc, _⟩
  · simp [Builtin.append_, run_underlying ht, sizeOf, typeInfo, hi, Builtin.lenOf, Builtin.firstCells]
  · simp [Builtin.append_, run_underlying ht, sizeOf, typeInfo, hi, Builtin.lenOf, Builtin.firstCells, hnc, storeCells]
theorem own_base {w : World} {base : Nat} {e : TypeId} {size : Nat} {v : Value} {n : Nat} {xs : List Value} (h : w.ownsRow base e size v n xs) : ∀ k, v.ownBlock = some k → base ≤ k := by
  intro k hk
  rcases h.2 with ⟨rfl, _⟩ | ⟨g, cap, cur, rfl, hb, _⟩
  · cases hk
  · cases hk; exact hb
theorem know_q {Q : Act → World → Prop} {a : Act} {w0 w : World} {L : List (Nat × List Value)} (h : Known w L) (hb : Below w0.heap.size w0 w) (k : Known w L → Below w0.heap.size w0 w → Q a w) : Q a w := k h hb
theorem blt {W w1 : World} (hb : Below W.heap.size W w1) : (∀ n, n < W.heap.size → n < w1.heap.size) ∧ (∀ n, n < W.heap.size → n ≤ w1.heap.size) := ⟨fun _ h => Nat.lt_of_lt_of_le h hb.size, fun _ h => Nat.le_trans (Nat.le_of_lt h) hb.size⟩
theorem below_chain {w a b : World} (h1 : Below w.heap.size w a) (h2 : Below a.heap.size a b) : Below w.heap.size w a ∧ Below w.heap.size w b := ⟨h1, bt h1 h2⟩
theorem Known.app {W0 w' : World} {L : List (Nat × List Value)} {o : Obj} {row : Option Nat} (hg : (W0.alloc o).grownBy w' row) (hr : ∀ k, row = some k → W0.heap.size ≤ k) (h : Known W0 L) :
    Known W0 L ∧ Known w' L ∧ Below W0.heap.size W0 w' := by
  have hb : Below W0.heap.size W0 w' := bgr (ba (Below.refl _ _) o) hg hr
  exact ⟨h, h.step hb, hb⟩
/-- append of a whole list. -/
theorem wpList_append_list {α : Type} [GoT α] (F : Flat α) {P : Program} {w : World} {ops : Array Oper} {rest : List Oper} {o : Oper} {a : Act} {Q : Exit → Act → World → Prop} (hgd : o.guard = none) (s x : Operand) (t : TypeId)
    (ho : o.op = .call { callee := .builtin .append, args := #[s, x], argTypes := #[t, t] })
    (base : Nat) (e : TypeId) (ht : P.underlying t = some (.slice e)) (bytes : Nat) (hinfo : ∃ i z, P.info? e = some i ∧ i.zero = some z ∧ i.size = GoT.size α ∧ i.bytes = bytes ∧ z.cells.size = GoT.size α)
    (v : Value) (xs ys : List α) (hs : a.eval s = v) (hown : w.ownsRow base e (GoT.size α) v xs.length (xs.flatMap F.enc))
    (A : Option Addr) (n c : Nat) (hx : a.eval x = .slice A n c) (hsrc : SrcAt F w A n ys)
    (hsz : (xs.length + ys.length) * bytes ≤ 140737488355328) (hby : 0 < bytes) (hbase : base ≤ w.heap.size)
    (h : ∀ v' w', w'.ownsRow base e (GoT.size α) v' (xs ++ ys).length ((xs ++ ys).flatMap F.enc) → w.grownBy w' v.ownBlock → wpList P ops Q rest (a.put o.dst v') w') : wpList P ops Q (o :: rest) a w := by
  obtain ⟨i, z, hi, hz, hsize, hbytes, hzs⟩ := hinfo
  obtain ⟨rfl, hnone, hcell⟩ := hsrc
  have hnn : xs.length + ys.length ≤ (xs.length + ys.length) * bytes := Nat.le_mul_of_pos_right _ hby
  cases A with
  | none =>
    refine wpList_plain hgd fun K hK => ?_
    by_cases hy : ys = []
    · subst hy
      have hrun := run_append_none_any (P := P) (w := w) base t o.type e i (GoT.size α) ht hi v _ _ c hown
      unfold Oper.wp
      simp only [List.length_nil] at hx
      simp [execOp, ho, resolve, invoke, builtin, hs, hx, hrun, Result.andThen]
      exact hK _ _ (h v w (by simpa using hown) ⟨rfl, rfl, rfl, Nat.le_refl _, fun _ _ _ => rfl⟩)
    · exact absurd (hnone rfl) hy
  | some ad =>
    refine wpList_append_own_at w hgd s x t ho base e i z (GoT.size α) bytes ht hi hz hsize hbytes hzs F.pos v _ _ hs hown ad ys.length c (ys.flatMap F.enc) hx ?_ (hcell ad rfl) ?_ (by unfold maxLen; omega) (by omega) hbase ?_
    · have : ∀ l : List α, (l.flatMap F.enc).length = l.length * GoT.size α := by
        intro l
        induction l with
        | nil => simp
        | cons b l ih => rw [List.flatMap_cons, List.length_append, ih, F.len, List.length_cons, Nat.add_mul]; omega
      exact this ys
    · intro u hu
      obtain ⟨y, _, hy⟩ := List.mem_flatMap.1 hu
      exact F.one y u hy
    · intro v' w' h1 h2 _ _
      exact h v' w' (by rw [List.length_append, List.flatMap_append]; exact h1) h2
theorem lit_here {P : Program} {ops : Array Oper} {rest : List Oper} {a : Act} {Q : Exit → Act → World → Prop} {W : World} {e : TypeId} (size : Nat)
    (k : (W.alloc (.cells #[] e)).ownsRow W.heap.size e size (.slice (some ⟨W.heap.size, 0, none⟩) 0 0) 0 [] → wpList P ops Q rest a (W.alloc (.cells #[] e))) : wpList P ops Q rest a (W.alloc (.cells #[] e)) :=
  k (World.ownsRow_lit W #[] 0 (Nat.le_refl _) (by decide) (by simp))
theorem Known.app0 {W0 w' : World} {L : List (Nat × List Value)} {o : Obj} (hg : (W0.alloc o).grownBy w' (some W0.heap.size)) (h : Known W0 L) : Known W0 L ∧ Known w' L ∧ Below W0.heap.size W0 w' :=
  Known.app hg (fun k hk => by cases hk; exact Nat.le_refl _) h
theorem flat_len {α : Type} [GoT α] (F : Flat α) (ys : List α) : (ys.flatMap F.enc).length = ys.length * GoT.size α := by
  induction ys with
  | nil => simp
  | cons b l ih => rw [List.flatMap_cons, List.length_append, ih, F.len, List.length_cons, Nat.add_mul]; omega
/-- A slice literal in its new block. -/
theorem lit_rep {α : Type} [GoT α] (F : Flat α) {w : World} (e : TypeId) (xs : List α) (hr : ∀ x, x ∈ xs → ∀ (w : World) (B : Nat), GoT.rep w B (F.enc x) x) (hl : xs.length ≤ 1000) :
    GoT.rep (w.alloc (.cells (xs.flatMap F.enc).toArray e)) (w.heap.size + 1) [.slice (some ⟨w.heap.size, 0, none⟩) xs.length xs.length] xs := by
  have h := World.ownsRow_lit (e := e) (size := GoT.size α) w (xs.flatMap F.enc).toArray xs.length (Nat.le_refl _) (by unfold maxLen; omega) (by simpa using flat_len F xs)
  obtain ⟨A, c, h1, h2⟩ := owns_rep F.enc (by simpa using h) F.len hr
  cases h1
  rwa [World.size_alloc] at h2
/-- A known block that holds just the cells of a list is the list. -/
theorem rep_known {α : Type} [GoT α] (F : Flat α) {w : World} {b : Nat} {vs : List Value} {L : List (Nat × List Value)} (xs : List α) (h : Known w ((b, vs) :: L)) (hv : vs = xs.flatMap F.enc) (hr : ∀ x, x ∈ xs → ∀ (w : World) (B : Nat), GoT.rep w B (F.enc x) x) (hl : xs.length ≤ 1000) :
    GoT.rep w w.heap.size [.slice (some ⟨b, 0, none⟩) xs.length xs.length] xs := by
  obtain ⟨⟨h1, h2, h3⟩, _, _⟩ := h
  refine list_mk F.enc rfl (Nat.le_refl _) (by omega) (fun x hx => hr x hx _ _) (.inr ⟨b, 0, rfl, h1, fun i hi j u hu => ?_⟩)
  rw [h2, hv]
  have hj : j < GoT.size α := by have := (List.getElem?_eq_some_iff.1 hu).1; rwa [F.len] at this
  clear h2 hv hr hl h1 h3
  induction xs generalizing i with
  | nil => simp at hi
  | cons a l ih =>
    cases i with
    | zero => rw [List.flatMap_cons, Nat.zero_mul, Nat.zero_add, List.getElem?_append_left (by rw [F.len]; exact hj)]; exact hu
    | succ i =>
      rw [List.flatMap_cons, List.getElem?_append_right (by rw [F.len, Nat.succ_mul]; omega), F.len, show 0 + (i + 1) * GoT.size α + j - GoT.size α = 0 + i * GoT.size α + j by rw [Nat.succ_mul]; omega]
      exact ih i (by simpa using hi) (by simpa using hu)
/-- The ways through a region that makes one variable come to one: the variable's block alone differs. -/
theorem held_join {P : Program} {id : Nat} {ops : Array Oper} {Q : Exit → Act → World → Prop} {a : Act} {w : World} (F : Nat → Act) (R : World → Nat → Prop)
    (h1 : (Code.region id ops true).wp P (fun e a' w' => e = .normal ∧ ∃ B, a' = F B ∧ R w' B) a w) (h2 : ∀ W B, R W B → Q .normal (F B) W) : (Code.region id ops true).wp P Q a w :=
  Code.wp_mono (fun e a' w' ⟨he, B, ha, hr⟩ => by subst he; subst ha; exact h2 _ _ hr) h1
theorem ex_gen {p : Nat → Prop} {t : Nat} (h : ∀ B, B = t → p B) : ∃ B, p B := ⟨t, h t rfl⟩
end Go.Proofs.Ytnfffbgnjobkfaa
