/- The bulk of what was read bounds the length of each list. No condition. -/
import Derived.Test.YtnfffbgnjobkfaaRows
import Derived.Test.YtnfffbgnjobkfaaGoT
import Derived.WalkKit
import Derived.Handy
import Derived.ProofKit
import Derived.OpenShut
import Derived.ShutString
import Derived.ChangeOld
import Derived.Below
import Derived.Lib.Hide
import Derived.WalkLawsBesides
import Derived.WalkSpells
import Derived.Deep.QuietTactic
import Derived.BigQuiet
namespace Go.Proofs.Ytnfffbgnjobkfaa
set_option linter.unusedSimpArgs false
set_option linter.unusedVariables false
open Go.ChangeShapes Go.WideShapes Go.ChangeAt Go.RowKit
open Go.ChangeMaps (open_string shut_string)
open Go.Deep
theorem bulk_pos {H : Type} (d : DataW H) : 1 ≤ Rows.uptoBulk d := by
  cases d with
  | lit l => cases l <;> simp [Rows.uptoBulk]
  | _ => simp [Rows.uptoBulk]
theorem bulk_len {H : Type} : ∀ l : List (DataW H), l.length ≤ Rows.uptoBulkAll l
  | [] => Nat.zero_le _
  | d :: r => by
    have h1 := bulk_len r
    have h2 := bulk_pos d
    simp only [Rows.uptoBulkAll, List.length_cons]
    omega
theorem bulk_list {H : Type} {enc : TypeId × Value → H} {P : Program} {W : World} {base : Nat} {sp : Nat → Bool} {held : Bool} {d : DataW H} {p : List MemPlace} {t e : TypeId} {A : Option Addr} {n c : Nat}
    (hu : P.underlying t = some (.slice e)) (htr : DataW.Trod enc P W base sp held t (.slice A n c) d p) : n ≤ Rows.uptoBulk d := by
  obtain ⟨fuel, hf⟩ := htr
  rcases open_slice hu hf with ⟨hcs, _⟩ | ⟨a, len, cap, m, n', D, Pl, hcs, _, hl, _, hm, hx, _⟩
  · cases hcs
    exact Nat.zero_le _
  · cases hcs
    have hd2 : d = _ := (Prod.ext_iff.1 hx).1
    subst hd2
    simp only [Rows.uptoBulk]
    refine Nat.le_trans ?_ (Nat.le_trans (Nat.add_le_add_right (Nat.le_add_right _ _) 1 |> fun h => Nat.le_trans (Nat.le_succ _) h) (Nat.le_refl _))
    refine Nat.le_trans ?_ (bulk_len _)
    simp
theorem bulk_1 {H : Type} {a : DataW H} (h : Rows.uptoSmall H ([a] ++ []) = true) : Rows.uptoBulk a ≤ 1048576 := by
  simp only [Rows.uptoSmall, decide_eq_true_eq, List.append_nil, Rows.uptoBulkAll] at h
  omega
theorem bulk_2 {H : Type} {a b : DataW H} (h : Rows.uptoSmall H ([a, b] ++ []) = true) : Rows.uptoBulk a + Rows.uptoBulk b ≤ 1048576 := by
  simp only [Rows.uptoSmall, decide_eq_true_eq, List.append_nil, Rows.uptoBulkAll] at h
  omega
theorem bulk_3 {H : Type} {a b c : DataW H} (h : Rows.uptoSmall H ([a, b, c] ++ []) = true) : Rows.uptoBulk a + Rows.uptoBulk b + Rows.uptoBulk c ≤ 1048576 := by
  simp only [Rows.uptoSmall, decide_eq_true_eq, List.append_nil, Rows.uptoBulkAll] at h
  omega
theorem bulk_4 {H : Type} {a b c d : DataW H} (h : Rows.uptoSmall H ([a, b, c, d] ++ []) = true) : Rows.uptoBulk a + Rows.uptoBulk b + Rows.uptoBulk c + Rows.uptoBulk d ≤ 1048576 := by
  simp only [Rows.uptoSmall, decide_eq_true_eq, List.append_nil, Rows.uptoBulkAll] at h
  omega
end Go.Proofs.Ytnfffbgnjobkfaa
