/- What the functions of package ship answer: what the document says of a step, of a run, of a log. No condition. -/
import Derived.Test.YthdcanpbgaaneaaPShipD
set_option maxRecDepth 100000
set_option maxHeartbeats 4000000
set_option linter.unusedVariables false
set_option linter.unusedSimpArgs false
namespace Go.Proofs.Ythdcanpbgaaneaa
def replay (b : List ByteArray) : List Record → List ByteArray
  | [] => b
  | r :: l => replay (if 0 ≤ r.block ∧ r.block < b.length then b.set r.block.toNat r.data else b) l
abbrev seq51 (k : Int) (n : Int) (d : ByteArray) : LS := [(6, .ref 0 3 0 0), (0, VI k), (1, VI n), (2, .v (.string d))]
theorem act_fn (k : Int) (n : Int) (d : ByteArray) : Fn Try.prog 24 [VI k, VI n, .v (.string d)] (.agg [VI ((⟨k, n, d⟩ : Act).kind), VI ((⟨k, n, d⟩ : Act).n), .v (.string ((⟨k, n, d⟩ : Act).data))]) := by
  refine fn_walkW F24_ok (of_decide_eq_true (by kernel_rfl)) ?_
  refine EL.sreg ?_
  refine OW.last 1 [0, 1, 2, 6] (x' := ⟨(seq51 k n d), [some ⟨3, [[VI 0, VI 0, .v (.string (⟨#[]⟩))]]⟩]⟩) (by kernel_rfl) (by kernel_rfl) ?_
  refine EL.sreg ?_
  refine OW.last 5 [6] (x' := ⟨[(6, .ref 0 3 0 0)], [some ⟨3, [[VI k, VI n, .v (.string d)]]⟩]⟩) (by kernel_rfl) (by kernel_rfl) ?_
  refine EL.ret ?_
  refine ⟨.inr rfl, .agg [VI k, VI n, .v (.string d)], by kernel_rfl, Ale.of_eq ?_⟩
  focus (rfl)
/-- Acts without a turn. -/
def noTurn (l : List Act) : List Act := l.filter (fun a => !(a.kind == 8))
def Ship.sailP (n : Int) (l : List Act) : Ship × Bool :=
  if (Ship.newP n).2 = 0 then (((Ship.newP n).1.runP (noTurn l)).1, ((Ship.newP n).1.runP (noTurn l)).2.2 == 0) else ((Ship.newP n).1, false)
end Go.Proofs.Ythdcanpbgaaneaa
