/- Sums over sets of nodes: the heaviest nodes are the fewest. Plain. No condition. -/
import Derived.Test.YtfgjfghljhldfaaDoorPLowM
namespace Go.Proofs.YtfgjfghljhldfaaDoor
set_option linter.unusedSimpArgs false
set_option linter.unusedVariables false
def lsum : List Int → Int
  | [] => 0
  | a :: r => a + lsum r
theorem lsum_perm {a b : List Int} (h : a.Perm b) : lsum a = lsum b := by
  induction h with
  | nil => rfl
  | cons x _ ih => simp only [lsum, ih]
  | swap x y l => simp only [lsum]; omega
  | trans _ _ h1 h2 => exact h1.trans h2
/-- Insertion into a list that stands the other way round. -/
def insR (x : Int) : List Int → List Int
  | [] => [x]
  | a :: r => if a < x then a :: insR x r else x :: a :: r
def srtGo : List Int → List Int → List Int
  | acc, [] => acc
  | acc, x :: r => srtGo (insR x acc) r
/-- The weights from the heaviest on. -/
def srtD (ws : List Int) : List Int := (srtGo [] ws).reverse
theorem insR_perm (x : Int) : ∀ l, (insR x l).Perm (x :: l)
  | [] => .refl _
  | a :: r => by
    unfold insR
    split
    · exact ((insR_perm x r).cons a).trans (List.Perm.swap x a r)
    · exact .refl _
theorem srtGo_perm : ∀ (ws acc : List Int), (srtGo acc ws).Perm (acc ++ ws)
  | [], acc => by simp [srtGo]
  | x :: r, acc => by
    refine (srtGo_perm r (insR x acc)).trans ?_
    refine ((insR_perm x acc).append_right r).trans ?_
    rw [List.cons_append]
    exact List.perm_middle.symm
theorem srtD_perm (ws : List Int) : (srtD ws).Perm ws := (List.reverse_perm _).trans (by simpa using srtGo_perm ws [])
theorem srtD_len (ws : List Int) : (srtD ws).length = ws.length := (srtD_perm ws).length_eq
/-- How many of a list's first ones are together at least so much. -/
def hvG : List Int → Int → Nat
  | [], _ => 0
  | a :: r, n => if n ≤ 0 then 0 else hvG r (n - a) + 1
def heavyP (ws : List Int) (need : Int) : Nat := hvG (srtD ws) need
theorem hvG_le : ∀ (l : List Int) (n : Int), hvG l n ≤ l.length
  | [], _ => by simp [hvG]
  | a :: r, n => by
    unfold hvG; split
    · simp
    · have := hvG_le r (n - a); simp only [List.length_cons]; omega
end Go.Proofs.YtfgjfghljhldfaaDoor
