/- Appending to a list that the call owns: one law for one element and for a whole list of flat elements. No condition. -/
import Derived.Test.YtplgjcgebacjnaaRows
import Derived.Test.YtplgjcgebacjnaaGoT
import Derived.WalkKit
import Derived.Handy
import Derived.ProofKit
import Derived.OpenShut
import Derived.ShutString
import Derived.ChangeOld
import Derived.Below
import Derived.Lib.Hide
import Derived.WalkLawsBesides
import Derived.WalkSpells
import Derived.Deep.QuietTactic
import Derived.BigQuiet
import Derived.Maps.AppendAt
import Derived.Laws.OwnMore
namespace Go.Proofs.Ytplgjcgebacjnaa
set_option linter.unusedSimpArgs false
set_option linter.unusedVariables false
open Go.ChangeShapes Go.WideShapes Go.ChangeAt Go.RowKit
open Go.ChangeMaps (open_string shut_string)
/-- The elements of a type are flat: each is written out by 'enc', each of its cells is one cell. -/
structure Flat (α : Type) [GoT α] where
  enc : α → List Value
  len : ∀ x, (enc x).length = GoT.size α
  pos : 0 < GoT.size α
  one : ∀ x u, u ∈ enc x → u.oneCell' = true
theorem flat_get {α : Type} [GoT α] (F : Flat α) : ∀ (l : List α) (j : Nat) (u : Value), (l.flatMap F.enc)[j]? = some u → ∃ i, ∃ hi : i < l.length, ∃ j', j = i * GoT.size α + j' ∧ (F.enc l[i])[j']? = some u
  | [], j, u, h => by simp at h
  | a :: l, j, u, h => by
    rw [List.flatMap_cons] at h
    by_cases hj : j < GoT.size α
    · rw [List.getElem?_append_left (by rw [F.len]; exact hj)] at h
      exact ⟨0, by simp, j, by omega, h⟩
    · rw [List.getElem?_append_right (by rw [F.len]; omega), F.len] at h
      obtain ⟨i, hi, j', h1, h2⟩ := flat_get F l _ u h
      refine ⟨i + 1, by simpa using hi, j', ?_, h2⟩
      rw [Nat.add_mul]; omega
/-- What a slice of flat elements that lies in memory yields to append. -/
def SrcAt {α : Type} [GoT α] (F : Flat α) (w : World) (A : Option Addr) (n : Nat) (ys : List α) : Prop :=
  n = ys.length ∧ (A = none → ys = []) ∧ ∀ ad, A = some ad → ∀ j u, (ys.flatMap F.enc)[j]? = some u → w.cell? (ad.add j) = some u
theorem src_of {α : Type} [GoT α] (F : Flat α) {w : World} {A : Option Addr} {n : Nat} {ys : List α} (hn : n = ys.length)
    (h : ys = [] ∨ ∃ b off, A = some ⟨b, off, none⟩ ∧ ∀ i (hi : i < ys.length) j u, (F.enc ys[i])[j]? = some u → w.cell? ⟨b, off + i * GoT.size α + j, none⟩ = some u) : SrcAt F w A n ys := by
  refine ⟨hn, fun hA => ?_, fun ad hA j u hj => ?_⟩
  · rcases h with rfl | ⟨b, off, hA2, h⟩
    · rfl
    · rw [hA2] at hA; cases hA
  rcases h with rfl | ⟨b, off, hA2, h⟩
  · simp at hj
  · rw [hA2] at hA
    injection hA with hA
    subst hA
    obtain ⟨i, hi, j', rfl, h2⟩ := flat_get F ys j u hj
    rw [addr_add, ← Nat.add_assoc]
    exact h i hi j' u h2
theorem run_append_none_any {P : Program} {w : World} (base : Nat) (t ty e : TypeId) (i : TypeInfo) (size : Nat) (ht : P.underlying t = some (.slice e)) (hi : P.info? e = some i)
    (v : Value) (n : Nat) (xs : List Value) (c : Nat) (hown : w.ownsRow base e size v n xs) :
    (Builtin.append_ #[t, t] ty #[v, .slice none 0 c]).run P w = .ok v w := by
  rcases hown.2 with ⟨rfl, rfl⟩ | ⟨g, cap, cur, rfl, _, _, hnc, _⟩
  · simp [Builtin.append_, run_underlying ht, sizeOf, typeInfo, hi, Builtin.lenOf, Builtin.firstCells]
  · simp [Builtin.append_, run_underlying ht, sizeOf, typeInfo, hi, Builtin.lenOf, Builtin.firstCells, hnc, storeCells]
theorem own_base {w : World} {base : Nat} {e : TypeId} {size : Nat} {v : Value} {n : Nat} {xs : List Value} (h : w.ownsRow base e size v n xs) : ∀ k, v.ownBlock = some k → base ≤ k := by
  intro k hk
  rcases h.2 with ⟨rfl, _⟩ | ⟨g, cap, cur, rfl, hb, _⟩
  · cases hk
  · cases hk; exact hb
/-- append of a whole list. -/
theorem wpList_append_list {α : Type} [GoT α] (F : Flat α) {P : Program} {w : World} {ops : Array Oper} {rest : List Oper} {o : Oper} {a : Act} {Q : Exit → Act → World → Prop} (hgd : o.guard = none) (s x : Operand) (t : TypeId)
    (ho : o.op = .call { callee := .builtin .append, args := #[s, x], argTypes := #[t, t] })
    (base : Nat) (e : TypeId) (ht : P.underlying t = some (.slice e)) (bytes : Nat) (hinfo : ∃ i z, P.info? e = some i ∧ i.zero = some z ∧ i.size = GoT.size α ∧ i.bytes = bytes ∧ z.cells.size = GoT.size α)
    (v : Value) (xs ys : List α) (hs : a.eval s = v) (hown : w.ownsRow base e (GoT.size α) v xs.length (xs.flatMap F.enc))
    (A : Option Addr) (n c : Nat) (hx : a.eval x = .slice A n c) (hsrc : SrcAt F w A n ys)
    (hsz : xs.length + ys.length ≤ 1000000) (hby : bytes ≤ 1000) (hbase : base ≤ w.heap.size)
    (h : ∀ v' w', w'.ownsRow base e (GoT.size α) v' (xs ++ ys).length ((xs ++ ys).flatMap F.enc) → w.grownBy w' v.ownBlock → wpList P ops Q rest (a.put o.dst v') w') : wpList P ops Q (o :: rest) a w := by
  obtain ⟨i, z, hi, hz, hsize, hbytes, hzs⟩ := hinfo
  obtain ⟨rfl, hnone, hcell⟩ := hsrc
  have hbb : (xs.length + ys.length) * bytes ≤ 1000000 * 1000 := Nat.mul_le_mul hsz hby
  cases A with
  | none =>
    refine wpList_plain hgd fun K hK => ?_
    by_cases hy : ys = []
    · subst hy
      have hrun := run_append_none_any (P := P) (w := w) base t o.type e i (GoT.size α) ht hi v _ _ c hown
      unfold Oper.wp
      simp only [List.length_nil] at hx
      simp [execOp, ho, resolve, invoke, builtin, hs, hx, hrun, Result.andThen]
      exact hK _ _ (h v w (by simpa using hown) ⟨rfl, rfl, rfl, Nat.le_refl _, fun _ _ _ => rfl⟩)
    · exact absurd (hnone rfl) hy
  | some ad =>
    refine wpList_append_own_at w hgd s x t ho base e i z (GoT.size α) bytes ht hi hz hsize hbytes hzs F.pos v _ _ hs hown ad ys.length c (ys.flatMap F.enc) hx ?_ (hcell ad rfl) ?_ (by unfold maxLen; omega) (by omega) hbase ?_
    · have : ∀ l : List α, (l.flatMap F.enc).length = l.length * GoT.size α := by
        intro l
        induction l with
        | nil => simp
        | cons b l ih => rw [List.flatMap_cons, List.length_append, ih, F.len, List.length_cons, Nat.add_mul]; omega
      exact this ys
    · intro u hu
      obtain ⟨y, _, hy⟩ := List.mem_flatMap.1 hu
      exact F.one y u hy
    · intro v' w' h1 h2 _ _
      exact h v' w' (by rw [List.length_append, List.flatMap_append]; exact h1) h2
end Go.Proofs.Ytplgjcgebacjnaa
