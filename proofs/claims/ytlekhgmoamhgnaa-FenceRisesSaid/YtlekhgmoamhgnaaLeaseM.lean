/- Leases and fences in plain Lean: what the document says of them. No condition. -/
import Derived.Test.YtlekhgmoamhgnaaApi
namespace Go.Proofs.Ytlekhgmoamhgnaa
set_option linter.unusedSimpArgs false
set_option linter.unusedVariables false
def tm (n : Int) : Bool := wi n 0 1000000
theorem tm_bd {n : Int} (h : tm n = true) : 0 ≤ n ∧ n ≤ 1000000 := wi_bd h
namespace Lease
def checkE (l : Lease) : Int := if wi l.holder 0 1000 = true ∧ tm l.till = true ∧ tm l.token = true then 0 else 3
def held (l : Lease) (now : Int) : Int := if now < l.till then l.holder else 0
def heldP (l : Lease) (now : Int) : Int × Int := if l.checkE = 0 then (if tm now = true then (l.held now, 0) else (0, 3)) else (0, 3)
def till2 (now term : Int) : Int := min 1000000 (now + term)
abbrev okTake (l : Lease) (who now term : Int) : Prop := l.checkE = 0 ∧ tm now = true ∧ wi who 1 1000 = true ∧ wi term 1 10000 = true
def take (l : Lease) (who now term : Int) : Lease × Int :=
  if l.okTake who now term then
    (if l.held now = who then (⟨l.holder, max l.till (till2 now term), l.token⟩, 0)
     else if l.held now = 0 then (if l.token = 1000000 then (⟨0, 0, 0⟩, 2) else (⟨who, till2 now term, l.token + 1⟩, 0)) else (⟨0, 0, 0⟩, 4))
  else (⟨0, 0, 0⟩, 3)
def give (l : Lease) (who token now : Int) : Lease × Int :=
  if l.checkE = 0 ∧ tm now = true then (if who = 0 ∨ l.held now ≠ who ∨ token ≠ l.token then (⟨0, 0, 0⟩, 4) else (⟨0, now, l.token⟩, 0)) else (⟨0, 0, 0⟩, 3)
theorem check_3 {l : Lease} (h0 : ¬ l.checkE = 0) : l.checkE = 3 := by
  unfold checkE at *
  split at h0
  · simp at h0
  · rename_i h; rw [if_neg h]
theorem good {l : Lease} (h : l.checkE = 0) : (0 ≤ l.holder ∧ l.holder ≤ 1000) ∧ (0 ≤ l.till ∧ l.till ≤ 1000000) ∧ (0 ≤ l.token ∧ l.token ≤ 1000000) := by
  unfold checkE at h
  split at h
  · rename_i h1; exact ⟨wi_bd h1.1, wi_bd h1.2.1, wi_bd h1.2.2⟩
  · simp at h
theorem held_bd {l : Lease} (h : l.checkE = 0) (now : Int) : 0 ≤ l.held now ∧ l.held now ≤ 1000 := by
  have := good h
  unfold held; split <;> omega
end Lease
def passP (f : Fence) (t : Int) : Fence × Int := if tm f.seen = true ∧ tm t = true then (if t < f.seen then (⟨0⟩, 4) else (⟨t⟩, 0)) else (⟨0⟩, 3)
end Go.Proofs.Ytlekhgmoamhgnaa
