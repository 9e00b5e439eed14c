/- Copies of a block in plain Lean: what the document says of them. No condition. -/
import Derived.Test.YtnfffbgnjobkfaaStampM
namespace Go.Proofs.Ytnfffbgnjobkfaa
set_option linter.unusedSimpArgs false
set_option linter.unusedVariables false
theorem Stamp.check_v (s : Stamp) : s.checkE = 0 ∨ s.checkE = 3 := by unfold Stamp.checkE; split <;> simp
namespace Copy
def zero : Copy := ⟨⟨0, 0⟩, ByteArray.empty⟩
def copyE (c : Copy) : Int := if c.at_.checkE = 0 then (if 64 < c.data.size then 2 else 0) else 3
def raw (c o : Copy) : Copy := if Stamp.lessB c.at_ o.at_ = true then o else c
def storeP (c o : Copy) : Copy × Int := if c.copyE = 0 then (if o.copyE = 0 then (c.raw o, 0) else (⟨⟨0, 0⟩, ByteArray.empty⟩, o.copyE)) else (⟨⟨0, 0⟩, ByteArray.empty⟩, c.copyE)
def enc (c : Copy) : List Value := [I c.at_.time, I c.at_.who, .string c.data]
def rightE : List Copy → Int
  | [] => 0
  | c :: l => if c.copyE = 0 then rightE l else c.copyE
/-- What the program's loop comes to. -/
def mgo : Nat → List Copy → Copy → Copy
  | _, [], out => out
  | k, c :: l, out => mgo (k + 1) l ((if k = 0 then c else out).raw c)
def mergeL (l : List Copy) : Copy := mgo 0 l ⟨⟨0, 0⟩, ByteArray.empty⟩
def mergeP (l : List Copy) : Copy × Int := if 12 < l.length then (⟨⟨0, 0⟩, ByteArray.empty⟩, 2) else if rightE l = 0 then (mergeL l, 0) else (⟨⟨0, 0⟩, ByteArray.empty⟩, rightE l)
/-- Is one above it? -/
def aboveB (s : Stamp) : List Copy → Bool → Bool
  | [], b => b
  | c :: l, b => aboveB s l (b || Stamp.lessB s c.at_)
/-- The first one above which none is. -/
def first (all : List Copy) : List Copy → Copy
  | [] => ⟨⟨0, 0⟩, ByteArray.empty⟩
  | c :: l => if aboveB c.at_ all false = true then first all l else c
def staleGo (top : Stamp) : Nat → List Copy → Nat → Nat
  | _, [], s => s
  | k, c :: l, s => staleGo top (k + 1) l (if c.at_.time = top.time ∧ c.at_.who = top.who then s else s ||| 2 ^ k)
def rstaleGo (top : Stamp) : Nat → List Copy → Nat → Nat
  | _, [], s => s
  | k, c :: l, s => rstaleGo top (k + 1) l (if Stamp.lessB c.at_ top = true then s + 2 ^ k else s)
def staleP (l : List Copy) : Nat × Int := if (mergeP l).2 = 0 then (staleGo (mergeP l).1.at_ 0 l 0, 0) else (0, (mergeP l).2)
theorem mergeP_len {l : List Copy} (h : (mergeP l).2 = 0) : l.length ≤ 12 := by
  unfold mergeP at h
  split at h
  · simp at h
  · omega
def rmergeP (l : List Copy) : Copy × Int := if 12 < l.length then (⟨⟨0, 0⟩, ByteArray.empty⟩, 2) else if rightE l = 0 then (first l l, 0) else (⟨⟨0, 0⟩, ByteArray.empty⟩, rightE l)
theorem rmergeP_len {l : List Copy} (h : (rmergeP l).2 = 0) : l.length ≤ 12 := by
  unfold rmergeP at h
  split at h
  · simp at h
  · omega
theorem rmerge_bad {l : List Copy} {e : Int} (h : l.length ≤ 12) (h1 : rightE l = e) (h2 : ¬ e = 0) : rmergeP l = (⟨⟨0, 0⟩, ByteArray.empty⟩, e) := by
  subst h1; unfold rmergeP; rw [if_neg (by omega), if_neg h2]
theorem rmerge_good {l : List Copy} (h : l.length ≤ 12) (h1 : rightE l = 0) : rmergeP l = (first l l, 0) := by
  unfold rmergeP; rw [if_neg (by omega), if_pos h1]
def rstaleP (l : List Copy) : Nat × Int := if (rmergeP l).2 = 0 then (rstaleGo (rmergeP l).1.at_ 0 l 0, 0) else (0, (rmergeP l).2)
end Copy
end Go.Proofs.Ytnfffbgnjobkfaa
