/- What the functions of package seat answer: bids. No condition. -/
import Derived.Test.YtejilglnpdjepaaDoorPSeatB
set_option maxRecDepth 100000
set_option maxHeartbeats 4000000
set_option linter.unusedVariables false
set_option linter.unusedSimpArgs false
namespace Go.Proofs.YtejilglnpdjepaaDoor
/-- A vote for each of so many nodes. -/
def toAllP (n : Nat) (m : Vote) : List Vote := (List.range n).map fun (i : Nat) => (⟨m.kind, m.bid, (i : Int), m.copy⟩ : Vote)
def Bid.zero : Bid := ⟨0, 0, ⟨#[]⟩, ⟨#[]⟩, ⟨⟨0, 0⟩, ⟨#[]⟩⟩, ⟨0, by decide⟩⟩
def Bid.new (time : Int) (own : ByteArray) : Bid := ⟨time, 1, own, ⟨#[]⟩, ⟨⟨0, 0⟩, ⟨#[]⟩⟩, ⟨0, by decide⟩⟩
def beginP (v : Voters) (no time : Int) (own : ByteArray) : Bid × List Vote × Int :=
  if ¬ (0 ≤ no ∧ no ≤ 30) then (Bid.zero, [], 3)
  else if (Bid.new time own).checkE v.weights v.need ≠ 0 then (Bid.zero, [], (Bid.new time own).checkE v.weights v.need)
  else (Bid.new time own, toAllP v.weights.length ⟨1, no, 0, ⟨⟨time, no⟩, ⟨#[]⟩⟩⟩, 0)
theorem bid_len {v : Voters} {b : Bid} (h : b.checkE v.weights v.need = 0) : v.weights.length ≤ 12 := by
  unfold Bid.checkE at h
  by_cases hq : qcheckP v.weights v.need = 0
  · have h0 : (nodesP v.weights).2 = 0 := by
      by_cases hn : (nodesP v.weights).2 = 0
      · exact hn
      · unfold qcheckP at hq; rw [if_pos hn] at hq; exact absurd hq hn
    exact (nodes_bd h0).2.2.2.1
  · rw [if_pos hq] at h; exact absurd h hq
abbrev scq0 (m : Vote) : OB := some ⟨6, [[VI m.kind, VI m.bid, VI m.node, VI m.copy.at_.time, VI m.copy.at_.who, .v (.string m.copy.data)]]⟩
abbrev scq1 (v : Voters) (m : Vote) : LB := [some ⟨2, [[.lst 1 (v.weights.map cI), VI v.need]]⟩, (scq0 m)]
abbrev scq2 : LS := [(4, .emp), (3, .ref 1 6 0 0), (2, .ref 0 2 0 0)]
abbrev scq3 (v : Voters) : LS := (6, .lst 1 (v.weights.map cI)) :: (5, .ref 0 2 0 0) :: scq2
abbrev scq4 (v : Voters) : LS := [(8, VI 0), (7, VI (List.length v.weights : Int)), (4, .emp), (3, .ref 1 6 0 0)]
abbrev scq5 (p : Vote) : OB := some ⟨6, [[VI p.kind, VI p.bid, VI p.node, VI p.copy.at_.time, VI p.copy.at_.who, .v (.string p.copy.data)]]⟩
abbrev scq6 (out : List Vote) (v : Voters) (k : Nat) : LS := [(3, .ref 1 6 0 0), (4, .own 0 6 0 (List.length out)), (7, VI (List.length v.weights : Int)), (8, VI (k : Int))]
abbrev scq7 (p : Vote) (k : Nat) : OB := some ⟨6, [[VI p.kind, VI p.bid, VI (k : Int), VI p.copy.at_.time, VI p.copy.at_.who, .v (.string p.copy.data)]]⟩
abbrev scq8 (p : Vote) (k : Nat) : AV := .agg [VI p.kind, VI p.bid, VI (k : Int), VI p.copy.at_.time, VI p.copy.at_.who, .v (.string p.copy.data)]
abbrev scq9 (p : Vote) (k : Nat) (out : List Vote) (v : Voters) : LS := (14, .own 2 6 0 1) :: (13, (scq8 p k)) :: (12, .own 0 6 0 (List.length out)) :: (scq6 out v k)
abbrev scq10 (out : List Vote) (p : Vote) (k : Nat) : OB := some ⟨6, ((out ++ ([(⟨p.kind, p.bid, (k : Int), p.copy⟩ : Vote)])).map Vote.cs)⟩
abbrev scq11 (out : List Vote) (p : Vote) (k : Nat) (v : Voters) : LS := (15, .own 3 6 0 (List.length (out ++ ([(⟨p.kind, p.bid, (k : Int), p.copy⟩ : Vote)])))) :: (scq9 p k out v)
abbrev scq12 (out : List Vote) (p : Vote) (k : Nat) (v : Voters) : LS := [(4, .own 3 6 0 (List.length (out ++ ([(⟨p.kind, p.bid, (k : Int), p.copy⟩ : Vote)])))), (15, .own 3 6 0 (List.length (out ++ ([(⟨p.kind, p.bid, (k : Int), p.copy⟩ : Vote)])))), (14, .own 2 6 0 1), (13, (scq8 p k)), (12, .own 0 6 0 (List.length out)), (3, .ref 1 6 0 0), (7, VI (List.length v.weights : Int)), (8, VI (k : Int))]
abbrev scq13 (out : List Vote) (p : Vote) (k : Nat) (v : Voters) : LS := [(4, .own 3 6 0 (List.length (out ++ ([(⟨p.kind, p.bid, (k : Int), p.copy⟩ : Vote)])))), (15, .own 3 6 0 (List.length (out ++ ([(⟨p.kind, p.bid, (k : Int), p.copy⟩ : Vote)])))), (14, .own 2 6 0 1), (13, (scq8 p k)), (12, .own 0 6 0 (List.length out)), (3, .ref 1 6 0 0), (7, VI (List.length v.weights : Int))]
abbrev scq14 (k : Nat) (out : List Vote) (p : Vote) (v : Voters) : LS := (8, VI ((k : Int) + 1)) :: (16, VI ((k : Int) + 1)) :: (scq13 out p k v)
theorem toAll_fn (v : Voters) (m : Vote) (hx : v.weights.length ≤ 12) : Fn Tryd.prog 38 [.agg [.lst 1 (v.weights.map cI), VI v.need], .agg [VI m.kind, VI m.bid, VI m.node, VI m.copy.at_.time, VI m.copy.at_.who, .v (.string m.copy.data)]] (.lst 6 ((toAllP v.weights.length m).map Vote.cs)) := by
  refine fn_walkW F38_ok (of_decide_eq_true (by kernel_rfl)) ?_
  refine EL.sreg ?_
  refine OW.last 3 [2, 3, 4] (x' := ⟨scq2, (scq1 v m)⟩) (by kernel_rfl) (by kernel_rfl) ?_
  refine EL.seq ?_
  refine EL.sreg ?_
  refine OW.run 2 (x' := ⟨(scq3 v), (scq1 v m)⟩) (by kernel_rfl) ?_
  refine OW.ope (v := VI (List.length v.weights : Int)) (u := []) (acc := []) (x' := ⟨(7, VI (List.length v.weights : Int)) :: (scq3 v), (scq1 v m)⟩) (by kernel_rfl) (opE_len cI v.weights (.s 6) 1 (by kernel_rfl) (by kernel_rfl) (.inl rfl)) (by kernel_rfl) ?_
  refine OW.last 1 [3, 4, 7, 8] (x' := ⟨(scq4 v), (scq1 v m)⟩) (by kernel_rfl) (by kernel_rfl) ?_
  refine EL.block ?_
  refine EL.loopN (fun mM xX => ∃ (k : Nat) (p : Vote) (out : List Vote), mM = v.weights.length - k ∧ (k ≤ v.weights.length ∧ (p.kind = m.kind ∧ p.bid = m.bid ∧ p.copy = m.copy) ∧ out = toAllP k m) ∧ xX = ⟨(scq6 out v k), [some ⟨6, (out.map Vote.cs)⟩, (scq5 p)]⟩) (y := (fun (k : Nat) (p : Vote) (out : List Vote) => (⟨(scq6 out v k), [some ⟨6, (out.map Vote.cs)⟩, (scq5 p)]⟩ : L3)) 0 m []) [3, 4, 7, 8] [.new 6, .old 1 false] [(4, 0)] (by kernel_rfl) trivial ⟨0, m, [], rfl, by exact ⟨by omega, ⟨rfl, rfl, rfl⟩, rfl⟩, rfl⟩ ?_
  rintro _ _ ⟨k, p, out, rfl, hI1, rfl⟩
  obtain ⟨hk, ⟨e1', e2', e3'⟩, ho⟩ := hI1
  have hol : out.length = k := by rw [ho]; simp [toAllP]
  refine EL.sreg ?_
  refine OW.last 1 [3, 4, 7, 8, 9] (x' := ⟨(9, .v (.bool (decide ((k : Int) < (List.length v.weights : Int))))) :: (scq6 out v k), [some ⟨6, (out.map Vote.cs)⟩, (scq5 p)]⟩) (by kernel_rfl) (by kernel_rfl) ?_
  refine EL.seq ?_
  rcases Bool.eq_false_or_eq_true (decide ((k : Int) < (List.length v.weights : Int))) with h2 | h2
  rw [h2]
  have g2 : ((k : Int) < (List.length v.weights : Int)) := of_decide_eq_true h2
  have n2 : ((k) < (List.length v.weights)) := by omega
  refine EL.condT (by kernel_rfl) ?_
  refine EL.skip ?_
  refine thenL_norm ?_
  refine EL.seq ?_
  refine EL.block ?_
  refine EL.sreg ?_
  refine OW.last 3 [3, 4, 7, 8] (x' := ⟨(scq6 out v k), [some ⟨6, (out.map Vote.cs)⟩, (scq7 p k)]⟩) (by kernel_rfl) (by kernel_rfl) ?_
  refine EL.reg0 ?_
  refine OW.run 3 (x' := ⟨(scq9 p k out v), [some ⟨6, (out.map Vote.cs)⟩, (scq7 p k), (scq7 p k)]⟩) (by kernel_rfl) ?_
  refine OW.ope (v := .own 3 6 0 (List.length (out ++ ([(⟨p.kind, p.bid, (k : Int), p.copy⟩ : Vote)])))) (u := [(0, none), (3, some ⟨6, ((out ++ ([(⟨p.kind, p.bid, (k : Int), p.copy⟩ : Vote)])).map Vote.cs)⟩)]) (acc := [2, 0]) (x' := ⟨(scq11 out p k v), [none, (scq7 p k), (scq7 p k), (scq10 out p k)]⟩) (by kernel_rfl) (opE_appO Vote.cs out ([(⟨p.kind, p.bid, (k : Int), p.copy⟩ : Vote)]) (.s 12) (.s 14) 6 56 0 (.own 2 6 0 1) _ (by kernel_rfl) (by kernel_rfl) rfl (by kernel_rfl) rfl (.own (els := [[VI p.kind, VI p.bid, VI (k : Int), VI p.copy.at_.time, VI p.copy.at_.who, .v (.string p.copy.data)]]) (by kernel_rfl) (by kernel_rfl) (of_decide_eq_true (by kernel_rfl))) (by simp; omega)) (by kernel_rfl) ?_
  refine OW.end 1 (x' := ⟨(scq12 out p k v), [none, (scq7 p k), (scq7 p k), (scq10 out p k)]⟩) (by kernel_rfl) (by kernel_rfl) ?_
  refine inBlk_norm ?_
  refine thenL_norm ?_
  refine EL.reg0 ?_
  refine OW.run 2 (x' := ⟨(8, VI (IntKind.i64.wrap ((k : Int) + 1))) :: (16, VI (IntKind.i64.wrap ((k : Int) + 1))) :: (scq13 out p k v), [none, (scq7 p k), (scq7 p k), (scq10 out p k)]⟩) (by kernel_rfl) ?_
  have e3 : IntKind.i64.wrap ((k : Int) + 1) = (k : Int) + 1 := wr64 (by omega)
  rw [e3]
  refine OW.end 0 (x' := ⟨(scq14 k out p v), [none, (scq7 p k), (scq7 p k), (scq10 out p k)]⟩) (by kernel_rfl) (by kernel_rfl) ?_
  refine thenL_norm ?_
  refine round_end (live := [3, 4, 7, 8]) (src := [.old 3 true, .old 1 false]) (es := []) (y := (fun (k : Nat) (p : Vote) (out : List Vote) => (⟨(scq6 out v k), [some ⟨6, (out.map Vote.cs)⟩, (scq5 p)]⟩ : L3)) (k + 1) (⟨p.kind, p.bid, (k : Int), p.copy⟩ : Vote) (out ++ ([(⟨p.kind, p.bid, (k : Int), p.copy⟩ : Vote)]))) ?_ ⟨pu 6 Vote.cs (out ++ ([(⟨p.kind, p.bid, (k : Int), p.copy⟩ : Vote)])) (by kernel_rfl) (by intro y; kernel_rfl), trivial⟩ ?_ ⟨(k + 1), (⟨p.kind, p.bid, (k : Int), p.copy⟩ : Vote), (out ++ ([(⟨p.kind, p.bid, (k : Int), p.copy⟩ : Vote)])), rfl, ?_, rfl⟩
  kernel_rfl
  omega
  focus ((refine ⟨by omega, ⟨e1', e2', e3'⟩, ?_⟩; rw [ho, e1', e2', e3']; simp [toAllP, List.range_succ]))
  rw [h2]
  have g2 : ¬ ((k : Int) < (List.length v.weights : Int)) := of_decide_eq_false h2
  have n2 : ¬ ((k) < (List.length v.weights)) := by omega
  refine EL.condF (by kernel_rfl) ?_
  refine EL.exit ?_
  refine thenL_exit ?_
  refine thenL_exit ?_
  refine inBlk_hit ?_
  refine thenL_norm ?_
  refine EL.sreg ?_
  refine OW.last 2 [4] (x' := ⟨[(4, .own 0 6 0 (List.length out))], [some ⟨6, (out.map Vote.cs)⟩, (scq5 p)]⟩) (by kernel_rfl) (by kernel_rfl) ?_
  refine EL.ret ?_
  refine ⟨.inr rfl, .lst 6 (out.map Vote.cs), run_snap (r0 := .own 0 6 0 (List.length out)) (by kernel_rfl) (snapA_map Vote.cs out (by kernel_rfl) (by intro y; kernel_rfl) (by simp)), Ale.of_eq ?_⟩
  focus (first | (rw [ho, show k = v.weights.length by omega]; done) | trace_state)
abbrev scq15 (b : Bid) (no : Int) : OB := some ⟨2, [[.pim [VI b.time, VI b.phase, .v (.string b.own), .v (.string b.value), VI b.best.at_.time, VI b.best.at_.who, .v (.string b.best.data), .v (.int .u64 (b.heard.n : Int))] 0, VI no]]⟩
theorem at_fn (b : Bid) (no : Int) : Fn Tryd.prog 39 [.agg [.pim [VI b.time, VI b.phase, .v (.string b.own), .v (.string b.value), VI b.best.at_.time, VI b.best.at_.who, .v (.string b.best.data), .v (.int .u64 (b.heard.n : Int))] 0, VI no]] (.agg [VI ((⟨b.time, no⟩ : Stamp).time), VI ((⟨b.time, no⟩ : Stamp).who)]) := by
  refine fn_walkW F39_ok (of_decide_eq_true (by kernel_rfl)) ?_
  refine EL.sreg ?_
  refine OW.last 2 [1, 2] (x' := ⟨[(2, .ref 1 2 0 0), (1, .ref 0 2 0 0)], [(scq15 b no), some ⟨2, [[VI 0, VI 0]]⟩]⟩) (by kernel_rfl) (by kernel_rfl) ?_
  refine EL.sdraw ?_
  refine DW.last 9 [2] (x' := ⟨[(2, .ref 1 2 0 0)], [(scq15 b no), some ⟨2, [[VI b.time, VI no]]⟩]⟩) (by kernel_rfl) (by kernel_rfl) ?_
  refine EL.ret ?_
  refine ⟨.inr rfl, .agg [VI b.time, VI no], by kernel_rfl, Ale.of_eq ?_⟩
  focus (rfl)
abbrev scq16 : OB := some ⟨8, [[VI 0, VI 0, .v (.string (⟨#[]⟩)), .v (.string (⟨#[]⟩)), VI 0, VI 0, .v (.string (⟨#[]⟩)), .v (.int .u64 0)]]⟩
abbrev scq17 (no : Int) (time : Int) (own : ByteArray) : LS := [(8, .ref 1 8 0 0), (4, .ref 0 2 0 0), (1, VI no), (2, VI time), (3, .v (.string own))]
abbrev scq18 (time : Int) (own : ByteArray) : OB := some ⟨8, [[VI time, VI 1, .v (.string own), .v (.string (⟨#[]⟩)), VI 0, VI 0, .v (.string (⟨#[]⟩)), .v (.int .u64 0)]]⟩
abbrev scq19 (v : Voters) (time : Int) (own : ByteArray) : LB := [some ⟨2, [[.lst 1 (v.weights.map cI), VI v.need]]⟩, scq16, (scq18 time own)]
abbrev scq20 (no : Int) : LS := [(11, .ref 2 8 0 0), (8, .ref 1 8 0 0), (4, .ref 0 2 0 0), (1, VI no)]
abbrev scq21 (time : Int) (own : ByteArray) : AV := .agg [VI time, VI 1, .v (.string own), .v (.string (⟨#[]⟩)), VI 0, VI 0, .v (.string (⟨#[]⟩)), .v (.int .u64 0)]
abbrev scq22 (time : Int) (own : ByteArray) (v : Voters) (no : Int) : LS := (17, (scq21 time own)) :: (16, .agg [.lst 1 (v.weights.map cI), VI v.need]) :: (scq20 no)
abbrev scq23 : AV := .agg [VI 0, VI 0, .v (.string (⟨#[]⟩)), .v (.string (⟨#[]⟩)), VI 0, VI 0, .v (.string (⟨#[]⟩)), .v (.int .u64 0)]
abbrev scq24 (v : Voters) (time : Int) (own : ByteArray) : LB := [some ⟨2, [[.lst 1 (v.weights.map cI), VI v.need]]⟩, (scq18 time own), (scq18 time own)]
theorem begin_fn (v : Voters) (no : Int) (time : Int) (own : ByteArray) (hx : v.weights.length ≤ 9223372036854775807) : Fn Tryd.prog 17 [.agg [.lst 1 (v.weights.map cI), VI v.need], VI no, VI time, .v (.string own)] (.tup [.agg [VI (((beginP v no time own).1).time), VI (((beginP v no time own).1).phase), .v (.string (((beginP v no time own).1).own)), .v (.string (((beginP v no time own).1).value)), VI (((((beginP v no time own).1).best).at_).time), VI (((((beginP v no time own).1).best).at_).who), .v (.string ((((beginP v no time own).1).best).data)), .v (.int .u64 (((beginP v no time own).1).heard.n : Int))], .lst 6 (((beginP v no time own).2.1).map Vote.cs), VI ((beginP v no time own).2.2)]) := by
  refine fn_walkW F17_ok (of_decide_eq_true (by kernel_rfl)) ?_
  refine EL.sreg ?_
  refine OW.last 4 [1, 2, 3, 4, 8] (x' := ⟨(scq17 no time own), [some ⟨2, [[.lst 1 (v.weights.map cI), VI v.need]]⟩, scq16]⟩) (by kernel_rfl) (by kernel_rfl) ?_
  refine EL.sreg ?_
  refine OW.last 5 [1, 4, 8, 11] (x' := ⟨(scq20 no), (scq19 v time own)⟩) (by kernel_rfl) (by kernel_rfl) ?_
  refine EL.sreg ?_
  refine OW.run 2 (x' := ⟨(scq22 time own v no), (scq19 v time own)⟩) (by kernel_rfl) ?_
  refine OW.fn (ar := [.agg [.lst 1 (v.weights.map cI), VI v.need], (scq21 time own)]) (x' := ⟨(18, VI ((⟨time, 1, own, ⟨#[]⟩, (⟨(⟨0, 0⟩ : Stamp), ⟨#[]⟩⟩ : Copy), (⟨0, by decide⟩ : U64)⟩ : Bid).checkE v.weights v.need)) :: (scq22 time own v no), (scq19 v time own)⟩) (by kernel_rfl) (by kernel_rfl) F20_call (bcheck_fn v (⟨time, 1, own, ⟨#[]⟩, (⟨(⟨0, 0⟩ : Stamp), ⟨#[]⟩⟩ : Copy), (⟨0, by decide⟩ : U64)⟩ : Bid) hx) (by kernel_rfl) (by kernel_rfl) ?_
  refine OW.last 1 [1, 4, 8, 11, 12] (x' := ⟨(12, VI ((⟨time, 1, own, ⟨#[]⟩, (⟨(⟨0, 0⟩ : Stamp), ⟨#[]⟩⟩ : Copy), (⟨0, by decide⟩ : U64)⟩ : Bid).checkE v.weights v.need)) :: (scq20 no), (scq19 v time own)⟩) (by kernel_rfl) (by kernel_rfl) ?_
  refine EL.seq ?_
  refine EL.sreg ?_
  refine OW.run 1 (x' := ⟨(19, VI no) :: (12, VI ((⟨time, 1, own, ⟨#[]⟩, (⟨(⟨0, 0⟩ : Stamp), ⟨#[]⟩⟩ : Copy), (⟨0, by decide⟩ : U64)⟩ : Bid).checkE v.weights v.need)) :: (scq20 no), (scq19 v time own)⟩) (by kernel_rfl) ?_
  refine OW.fn (ar := [VI no]) (x' := ⟨(20, .v (.bool (wi no 0 30))) :: (19, VI no) :: (12, VI ((⟨time, 1, own, ⟨#[]⟩, (⟨(⟨0, 0⟩ : Stamp), ⟨#[]⟩⟩ : Copy), (⟨0, by decide⟩ : U64)⟩ : Bid).checkE v.weights v.need)) :: (scq20 no), (scq19 v time own)⟩) (by kernel_rfl) (by kernel_rfl) F30_call (number_fn no) (by kernel_rfl) (by kernel_rfl) ?_
  refine OW.last 1 [1, 4, 8, 11, 12, 21] (x' := ⟨(21, .v (.bool (!(wi no 0 30)))) :: (12, VI ((⟨time, 1, own, ⟨#[]⟩, (⟨(⟨0, 0⟩ : Stamp), ⟨#[]⟩⟩ : Copy), (⟨0, by decide⟩ : U64)⟩ : Bid).checkE v.weights v.need)) :: (scq20 no), (scq19 v time own)⟩) (by kernel_rfl) (by kernel_rfl) ?_
  rcases Bool.eq_false_or_eq_true (wi no 0 30) with h1 | h1
  rw [h1]
  have g1 : ((0 : Int) ≤ no ∧ (no : Int) ≤ 30) := wi_iff.1 h1
  refine EL.condF (by kernel_rfl) ?_
  refine EL.skip ?_
  refine thenL_norm ?_
  refine EL.seq ?_
  refine EL.sreg ?_
  refine OW.last 2 [1, 4, 8, 11, 12, 23] (x' := ⟨(23, .v (.bool (((⟨time, 1, own, ⟨#[]⟩, (⟨(⟨0, 0⟩ : Stamp), ⟨#[]⟩⟩ : Copy), (⟨0, by decide⟩ : U64)⟩ : Bid).checkE v.weights v.need) != 0))) :: (12, VI ((⟨time, 1, own, ⟨#[]⟩, (⟨(⟨0, 0⟩ : Stamp), ⟨#[]⟩⟩ : Copy), (⟨0, by decide⟩ : U64)⟩ : Bid).checkE v.weights v.need)) :: (scq20 no), (scq19 v time own)⟩) (by kernel_rfl) (by kernel_rfl) ?_
  rcases Bool.eq_false_or_eq_true ((((⟨time, 1, own, ⟨#[]⟩, (⟨(⟨0, 0⟩ : Stamp), ⟨#[]⟩⟩ : Copy), (⟨0, by decide⟩ : U64)⟩ : Bid).checkE v.weights v.need) != 0)) with h2 | h2
  rw [h2]
  have g2 : ¬ (((⟨time, 1, own, ⟨#[]⟩, (⟨(⟨0, 0⟩ : Stamp), ⟨#[]⟩⟩ : Copy), (⟨0, by decide⟩ : U64)⟩ : Bid).checkE v.weights v.need) = 0) := by simpa using h2
  refine EL.condT (by kernel_rfl) ?_
  refine EL.sreg ?_
  refine OW.last 5 [8, 9, 10] (x' := ⟨[(10, VI ((⟨time, 1, own, ⟨#[]⟩, (⟨(⟨0, 0⟩ : Stamp), ⟨#[]⟩⟩ : Copy), (⟨0, by decide⟩ : U64)⟩ : Bid).checkE v.weights v.need)), (9, .emp), (8, .ref 1 8 0 0)], (scq19 v time own)⟩) (by kernel_rfl) (by kernel_rfl) ?_
  refine EL.ret ?_
  refine thenL_ret ?_
  refine ⟨.inr rfl, .tup [scq23, .emp, VI ((⟨time, 1, own, ⟨#[]⟩, (⟨(⟨0, 0⟩ : Stamp), ⟨#[]⟩⟩ : Copy), (⟨0, by decide⟩ : U64)⟩ : Bid).checkE v.weights v.need)], by kernel_rfl, Ale.trans (b := .tup [scq23, .lst 6 [], VI ((⟨time, 1, own, ⟨#[]⟩, (⟨(⟨0, 0⟩ : Stamp), ⟨#[]⟩⟩ : Copy), (⟨0, by decide⟩ : U64)⟩ : Bid).checkE v.weights v.need)]) (Ale.tup (.cons (Ale.refl) (.cons (Ale.emp) (.cons (Ale.refl) (.nil))))) (Ale.of_eq ?_)⟩
  focus (first | rfl | (simp [beginP, Bid.zero, Bid.new, *]; done) | (simp_all [beginP, Bid.zero, Bid.new]; done) | (exfalso; simp_all; omega) | trace_state)
  rw [h2]
  have g2 : (((⟨time, 1, own, ⟨#[]⟩, (⟨(⟨0, 0⟩ : Stamp), ⟨#[]⟩⟩ : Copy), (⟨0, by decide⟩ : U64)⟩ : Bid).checkE v.weights v.need) = 0) := by simpa using h2
  refine EL.condF (by kernel_rfl) ?_
  refine EL.skip ?_
  refine thenL_norm ?_
  refine EL.sdraw ?_
  refine DW.run 5 (x' := ⟨(30, .agg [.ref 2 8 0 0, VI no]) :: (29, VI no) :: (28, VI no) :: (27, .agg [.lst 1 (v.weights.map cI), VI v.need]) :: (26, (scq21 time own)) :: (23, .v (.bool false)) :: (12, VI ((⟨time, 1, own, ⟨#[]⟩, (⟨(⟨0, 0⟩ : Stamp), ⟨#[]⟩⟩ : Copy), (⟨0, by decide⟩ : U64)⟩ : Bid).checkE v.weights v.need)) :: (scq20 no), (scq19 v time own)⟩) (by kernel_rfl) ?_
  refine DW.fn (ar := [.agg [.ref 2 8 0 0, VI no]]) (x' := ⟨(31, .agg [VI ((⟨(⟨time, 1, own, ⟨#[]⟩, (⟨(⟨0, 0⟩ : Stamp), ⟨#[]⟩⟩ : Copy), (⟨0, by decide⟩ : U64)⟩ : Bid).time, no⟩ : Stamp).time), VI ((⟨(⟨time, 1, own, ⟨#[]⟩, (⟨(⟨0, 0⟩ : Stamp), ⟨#[]⟩⟩ : Copy), (⟨0, by decide⟩ : U64)⟩ : Bid).time, no⟩ : Stamp).who)]) :: (30, .agg [.ref 2 8 0 0, VI no]) :: (29, VI no) :: (28, VI no) :: (27, .agg [.lst 1 (v.weights.map cI), VI v.need]) :: (26, (scq21 time own)) :: (23, .v (.bool false)) :: (12, VI ((⟨time, 1, own, ⟨#[]⟩, (⟨(⟨0, 0⟩ : Stamp), ⟨#[]⟩⟩ : Copy), (⟨0, by decide⟩ : U64)⟩ : Bid).checkE v.weights v.need)) :: (scq20 no), (scq19 v time own)⟩) (by kernel_rfl) (by kernel_rfl) F39_call (at_fn (⟨time, 1, own, ⟨#[]⟩, (⟨(⟨0, 0⟩ : Stamp), ⟨#[]⟩⟩ : Copy), (⟨0, by decide⟩ : U64)⟩ : Bid) no) (by kernel_rfl) (by kernel_rfl) ?_
  refine DW.run 2 (x' := ⟨(33, .agg [VI 1, VI no, VI 0, VI ((⟨(⟨time, 1, own, ⟨#[]⟩, (⟨(⟨0, 0⟩ : Stamp), ⟨#[]⟩⟩ : Copy), (⟨0, by decide⟩ : U64)⟩ : Bid).time, no⟩ : Stamp).time), VI ((⟨(⟨time, 1, own, ⟨#[]⟩, (⟨(⟨0, 0⟩ : Stamp), ⟨#[]⟩⟩ : Copy), (⟨0, by decide⟩ : U64)⟩ : Bid).time, no⟩ : Stamp).who), .v (.string (⟨#[]⟩))]) :: (32, .agg [VI ((⟨(⟨time, 1, own, ⟨#[]⟩, (⟨(⟨0, 0⟩ : Stamp), ⟨#[]⟩⟩ : Copy), (⟨0, by decide⟩ : U64)⟩ : Bid).time, no⟩ : Stamp).time), VI ((⟨(⟨time, 1, own, ⟨#[]⟩, (⟨(⟨0, 0⟩ : Stamp), ⟨#[]⟩⟩ : Copy), (⟨0, by decide⟩ : U64)⟩ : Bid).time, no⟩ : Stamp).who), .v (.string (⟨#[]⟩))]) :: (31, .agg [VI ((⟨(⟨time, 1, own, ⟨#[]⟩, (⟨(⟨0, 0⟩ : Stamp), ⟨#[]⟩⟩ : Copy), (⟨0, by decide⟩ : U64)⟩ : Bid).time, no⟩ : Stamp).time), VI ((⟨(⟨time, 1, own, ⟨#[]⟩, (⟨(⟨0, 0⟩ : Stamp), ⟨#[]⟩⟩ : Copy), (⟨0, by decide⟩ : U64)⟩ : Bid).time, no⟩ : Stamp).who)]) :: (30, .agg [.ref 2 8 0 0, VI no]) :: (29, VI no) :: (28, VI no) :: (27, .agg [.lst 1 (v.weights.map cI), VI v.need]) :: (26, (scq21 time own)) :: (23, .v (.bool false)) :: (12, VI ((⟨time, 1, own, ⟨#[]⟩, (⟨(⟨0, 0⟩ : Stamp), ⟨#[]⟩⟩ : Copy), (⟨0, by decide⟩ : U64)⟩ : Bid).checkE v.weights v.need)) :: (scq20 no), (scq19 v time own)⟩) (by kernel_rfl) ?_
  refine DW.fn (ar := [.agg [.lst 1 (v.weights.map cI), VI v.need], .agg [VI 1, VI no, VI 0, VI ((⟨(⟨time, 1, own, ⟨#[]⟩, (⟨(⟨0, 0⟩ : Stamp), ⟨#[]⟩⟩ : Copy), (⟨0, by decide⟩ : U64)⟩ : Bid).time, no⟩ : Stamp).time), VI ((⟨(⟨time, 1, own, ⟨#[]⟩, (⟨(⟨0, 0⟩ : Stamp), ⟨#[]⟩⟩ : Copy), (⟨0, by decide⟩ : U64)⟩ : Bid).time, no⟩ : Stamp).who), .v (.string (⟨#[]⟩))]]) (x' := ⟨(34, .lst 6 ((toAllP v.weights.length (⟨1, no, 0, (⟨(⟨(⟨time, 1, own, ⟨#[]⟩, (⟨(⟨0, 0⟩ : Stamp), ⟨#[]⟩⟩ : Copy), (⟨0, by decide⟩ : U64)⟩ : Bid).time, no⟩ : Stamp), ⟨#[]⟩⟩ : Copy)⟩ : Vote)).map Vote.cs)) :: (33, .agg [VI 1, VI no, VI 0, VI ((⟨(⟨time, 1, own, ⟨#[]⟩, (⟨(⟨0, 0⟩ : Stamp), ⟨#[]⟩⟩ : Copy), (⟨0, by decide⟩ : U64)⟩ : Bid).time, no⟩ : Stamp).time), VI ((⟨(⟨time, 1, own, ⟨#[]⟩, (⟨(⟨0, 0⟩ : Stamp), ⟨#[]⟩⟩ : Copy), (⟨0, by decide⟩ : U64)⟩ : Bid).time, no⟩ : Stamp).who), .v (.string (⟨#[]⟩))]) :: (32, .agg [VI ((⟨(⟨time, 1, own, ⟨#[]⟩, (⟨(⟨0, 0⟩ : Stamp), ⟨#[]⟩⟩ : Copy), (⟨0, by decide⟩ : U64)⟩ : Bid).time, no⟩ : Stamp).time), VI ((⟨(⟨time, 1, own, ⟨#[]⟩, (⟨(⟨0, 0⟩ : Stamp), ⟨#[]⟩⟩ : Copy), (⟨0, by decide⟩ : U64)⟩ : Bid).time, no⟩ : Stamp).who), .v (.string (⟨#[]⟩))]) :: (31, .agg [VI ((⟨(⟨time, 1, own, ⟨#[]⟩, (⟨(⟨0, 0⟩ : Stamp), ⟨#[]⟩⟩ : Copy), (⟨0, by decide⟩ : U64)⟩ : Bid).time, no⟩ : Stamp).time), VI ((⟨(⟨time, 1, own, ⟨#[]⟩, (⟨(⟨0, 0⟩ : Stamp), ⟨#[]⟩⟩ : Copy), (⟨0, by decide⟩ : U64)⟩ : Bid).time, no⟩ : Stamp).who)]) :: (30, .agg [.ref 2 8 0 0, VI no]) :: (29, VI no) :: (28, VI no) :: (27, .agg [.lst 1 (v.weights.map cI), VI v.need]) :: (26, (scq21 time own)) :: (23, .v (.bool false)) :: (12, VI ((⟨time, 1, own, ⟨#[]⟩, (⟨(⟨0, 0⟩ : Stamp), ⟨#[]⟩⟩ : Copy), (⟨0, by decide⟩ : U64)⟩ : Bid).checkE v.weights v.need)) :: (scq20 no), (scq19 v time own)⟩) (by kernel_rfl) (by kernel_rfl) F38_call (toAll_fn v (⟨1, no, 0, (⟨(⟨(⟨time, 1, own, ⟨#[]⟩, (⟨(⟨0, 0⟩ : Stamp), ⟨#[]⟩⟩ : Copy), (⟨0, by decide⟩ : U64)⟩ : Bid).time, no⟩ : Stamp), ⟨#[]⟩⟩ : Copy)⟩ : Vote) (by first | omega | exact bid_len (by assumption))) (by kernel_rfl) (by kernel_rfl) ?_
  refine DW.last 3 [8, 9, 10] (x' := ⟨[(10, VI 0), (9, .lst 6 ((toAllP v.weights.length (⟨1, no, 0, (⟨(⟨(⟨time, 1, own, ⟨#[]⟩, (⟨(⟨0, 0⟩ : Stamp), ⟨#[]⟩⟩ : Copy), (⟨0, by decide⟩ : U64)⟩ : Bid).time, no⟩ : Stamp), ⟨#[]⟩⟩ : Copy)⟩ : Vote)).map Vote.cs)), (8, .ref 1 8 0 0)], (scq24 v time own)⟩) (by kernel_rfl) (by kernel_rfl) ?_
  refine EL.ret ?_
  refine ⟨.inr rfl, .tup [(scq21 time own), .lst 6 ((toAllP v.weights.length (⟨1, no, 0, (⟨(⟨(⟨time, 1, own, ⟨#[]⟩, (⟨(⟨0, 0⟩ : Stamp), ⟨#[]⟩⟩ : Copy), (⟨0, by decide⟩ : U64)⟩ : Bid).time, no⟩ : Stamp), ⟨#[]⟩⟩ : Copy)⟩ : Vote)).map Vote.cs), VI 0], by kernel_rfl, Ale.of_eq ?_⟩
  focus (first | rfl | (simp [beginP, Bid.zero, Bid.new, *]; done) | (simp_all [beginP, Bid.zero, Bid.new]; done) | (exfalso; simp_all; omega) | trace_state)
  rw [h1]
  have g1 : ¬ ((0 : Int) ≤ no ∧ (no : Int) ≤ 30) := fun hh => Bool.noConfusion ((wi_iff.2 hh).symm.trans h1)
  refine EL.condT (by kernel_rfl) ?_
  refine EL.reg0 ?_
  refine OW.end 1 (x' := ⟨(12, VI 3) :: (21, .v (.bool true)) :: (scq20 no), (scq19 v time own)⟩) (by kernel_rfl) (by kernel_rfl) ?_
  refine thenL_norm ?_
  refine EL.seq ?_
  refine EL.sreg ?_
  refine OW.last 2 [1, 4, 8, 11, 12, 23] (x' := ⟨(23, .v (.bool true)) :: (12, VI 3) :: (scq20 no), (scq19 v time own)⟩) (by kernel_rfl) (by kernel_rfl) ?_
  refine EL.condT (by kernel_rfl) ?_
  refine EL.sreg ?_
  refine OW.last 5 [8, 9, 10] (x' := ⟨[(10, VI 3), (9, .emp), (8, .ref 1 8 0 0)], (scq19 v time own)⟩) (by kernel_rfl) (by kernel_rfl) ?_
  refine EL.ret ?_
  refine thenL_ret ?_
  refine ⟨.inr rfl, .tup [scq23, .emp, VI 3], by kernel_rfl, Ale.trans (b := .tup [scq23, .lst 6 [], VI 3]) (Ale.tup (.cons (Ale.refl) (.cons (Ale.emp) (.cons (Ale.refl) (.nil))))) (Ale.of_eq ?_)⟩
  focus (first | rfl | (simp [beginP, Bid.zero, Bid.new, *]; done) | (simp_all [beginP, Bid.zero, Bid.new]; done) | (exfalso; simp_all; omega) | trace_state)
def orU (a : U64) (k : Nat) : U64 := ⟨(a.n ||| 2 ^ k) % 18446744073709551616, Nat.mod_lt _ (by decide)⟩
def andU (a : U64) (k : Nat) : U64 := ⟨(a.n &&& 2 ^ k) % 18446744073709551616, Nat.mod_lt _ (by decide)⟩
theorem pow_lt64 {k : Nat} (h : k < 64) : 2 ^ k < 18446744073709551616 := by
  have := Nat.pow_lt_pow_right (a := 2) (by decide) h; simpa using this
theorem orU_bits {a : U64} {k : Nat} (h : k < 64) : bits .or .u64 (a.n : Int) ((2 ^ k : Nat) : Int) = ((orU a k).n : Int) := by
  rw [bits_or_u64_nat a.n (2 ^ k) a.lt (pow_lt64 h)]
  have hl : a.n ||| 2 ^ k < 18446744073709551616 := by
    have := Nat.or_lt_two_pow (n := 64) (by simpa using a.lt) (by simpa using pow_lt64 h); simpa using this
  show ((a.n ||| 2 ^ k : Nat) : Int) = (((a.n ||| 2 ^ k) % 18446744073709551616 : Nat) : Int)
  rw [Nat.mod_eq_of_lt hl]
theorem andU_bits {a : U64} {k : Nat} (h : k < 64) : bits .and .u64 (a.n : Int) ((2 ^ k : Nat) : Int) = ((andU a k).n : Int) := by
  rw [bits_and_u64_nat a.n (2 ^ k) a.lt (pow_lt64 h)]
  have hl : a.n &&& 2 ^ k < 18446744073709551616 := Nat.lt_of_le_of_lt Nat.and_le_left a.lt
  show ((a.n &&& 2 ^ k : Nat) : Int) = (((a.n &&& 2 ^ k) % 18446744073709551616 : Nat) : Int)
  rw [Nat.mod_eq_of_lt hl]
theorem shl1 {d : Int} (h : 0 ≤ d ∧ d < 64) : IntKind.u64.wrap (1 * 2 ^ (min (Int.toNat d) IntKind.u64.bits)) = ((2 ^ (Int.toNat d) : Nat) : Int) := by
  have e : min (Int.toNat d) IntKind.u64.bits = Int.toNat d := by
    have : IntKind.u64.bits = 64 := rfl
    omega
  have hp := pow_lt64 (k := Int.toNat d) (by omega)
  rw [e, Int.one_mul, show ((2 : Int) ^ (Int.toNat d)) = ((2 ^ (Int.toNat d) : Nat) : Int) by push_cast; rfl, IntKind.wrap_u64]
  generalize (2 : Nat) ^ (Int.toNat d) = p at *
  omega
def fitsP (b : Bid) (no : Int) (m : Vote) : Bool := if b.phase = 1 then decide (m.kind = 2) else if b.phase = 2 then decide (m.kind = 4 ∧ m.copy.at_.time = b.time ∧ m.copy.at_.who = no) else false
abbrev scq25 (b : Bid) : LS := [(9, VI b.phase), (3, .ref 1 6 0 0), (2, .ref 0 2 0 0)]
abbrev scq26 (m : Vote) : LS := [(18, VI m.kind), (17, .ref 1 6 0 0), (15, .v (.bool true)), (3, .ref 1 6 0 0), (2, .ref 0 2 0 0)]
abbrev scq27 (b : Bid) (no : Int) : AV := .agg [.pim [VI b.time, VI b.phase, .v (.string b.own), .v (.string b.value), VI b.best.at_.time, VI b.best.at_.who, .v (.string b.best.data), .v (.int .u64 (b.heard.n : Int))] 0, VI no]
abbrev scq28 (b : Bid) (no : Int) (m : Vote) : LS := (24, (scq27 b no)) :: (23, .agg [VI m.copy.at_.time, VI m.copy.at_.who]) :: (22, .ref 1 6 0 3) :: (21, .ref 1 6 0 3) :: (20, .v (.bool true)) :: (19, .v (.bool true)) :: (scq26 m)
abbrev scq29 (b : Bid) (no : Int) : AV := .agg [VI ((⟨b.time, no⟩ : Stamp).time), VI ((⟨b.time, no⟩ : Stamp).who)]
theorem fits_fn (b : Bid) (no : Int) (m : Vote) : Fn Tryd.prog 35 [.agg [.pim [VI b.time, VI b.phase, .v (.string b.own), .v (.string b.value), VI b.best.at_.time, VI b.best.at_.who, .v (.string b.best.data), .v (.int .u64 (b.heard.n : Int))] 0, VI no], .agg [VI m.kind, VI m.bid, VI m.node, VI m.copy.at_.time, VI m.copy.at_.who, .v (.string m.copy.data)]] (.v (.bool (fitsP b no m))) := by
  refine fn_walkW F35_ok (of_decide_eq_true (by kernel_rfl)) ?_
  refine EL.sreg ?_
  refine OW.last 3 [2, 3] (x' := ⟨[(3, .ref 1 6 0 0), (2, .ref 0 2 0 0)], [(scq15 b no), (scq0 m)]⟩) (by kernel_rfl) (by kernel_rfl) ?_
  refine EL.seq ?_
  refine EL.sreg ?_
  refine OW.last 5 [2, 3, 9] (x' := ⟨(scq25 b), [(scq15 b no), (scq0 m)]⟩) (by kernel_rfl) (by kernel_rfl) ?_
  refine EL.block ?_
  refine EL.sreg ?_
  refine OW.last 2 [2, 3, 9, 10] (x' := ⟨(10, .v (.bool (b.phase == 1))) :: (scq25 b), [(scq15 b no), (scq0 m)]⟩) (by kernel_rfl) (by kernel_rfl) ?_
  rcases Bool.eq_false_or_eq_true ((b.phase == 1)) with h1 | h1
  rw [h1]
  have g1 : (b.phase = 1) := by simpa using h1
  refine EL.condT (by kernel_rfl) ?_
  refine EL.sreg ?_
  refine OW.last 4 [4] (x' := ⟨[(4, .v (.bool (m.kind == 2)))], [(scq15 b no), (scq0 m)]⟩) (by kernel_rfl) (by kernel_rfl) ?_
  refine EL.ret ?_
  refine inBlk_ret ?_
  refine thenL_ret ?_
  refine ⟨.inr rfl, .v (.bool (m.kind == 2)), by kernel_rfl, Ale.of_eq ?_⟩
  focus ((refine congrArg (fun b => AV.v (Value.bool b)) ?_; first | (simp [fitsP, *]; done) | (simp_all [fitsP]; done) | (rw [Bool.eq_iff_iff]; simp [fitsP, *]; done) | (rw [Bool.eq_iff_iff]; simp_all [fitsP]; done) | trace_state))
  rw [h1]
  have g1 : ¬ (b.phase = 1) := by simpa using h1
  refine EL.condF (by kernel_rfl) ?_
  refine EL.sreg ?_
  refine OW.last 2 [2, 3, 15] (x' := ⟨[(15, .v (.bool (b.phase == 2))), (3, .ref 1 6 0 0), (2, .ref 0 2 0 0)], [(scq15 b no), (scq0 m)]⟩) (by kernel_rfl) (by kernel_rfl) ?_
  rcases Bool.eq_false_or_eq_true ((b.phase == 2)) with h2 | h2
  rw [h2]
  have g2 : (b.phase = 2) := by simpa using h2
  refine EL.condT (by kernel_rfl) ?_
  refine EL.sdraw ?_
  refine DW.run 4 (x' := ⟨(20, .v (.bool (m.kind == 4))) :: (19, .v (.bool (m.kind == 4))) :: (scq26 m), [(scq15 b no), (scq0 m)]⟩) (by kernel_rfl) ?_
  rcases Bool.eq_false_or_eq_true ((m.kind == 4)) with h3 | h3
  rw [h3]
  have g3 : (m.kind = 4) := by simpa using h3
  refine DW.run 4 (x' := ⟨(scq28 b no m), [(scq15 b no), (scq0 m)]⟩) (by kernel_rfl) ?_
  refine DW.fn (ar := [(scq27 b no)]) (x' := ⟨(25, (scq29 b no)) :: (scq28 b no m), [(scq15 b no), (scq0 m)]⟩) (by kernel_rfl) (by kernel_rfl) F39_call (at_fn b no) (by kernel_rfl) (by kernel_rfl) ?_
  refine DW.last 3 [4] (x' := ⟨[(4, .v (.bool ((m.copy.at_.time == (⟨b.time, no⟩ : Stamp).time) && ((m.copy.at_.who == (⟨b.time, no⟩ : Stamp).who) && true))))], [(scq15 b no), (scq0 m)]⟩) (by kernel_rfl) (by kernel_rfl) ?_
  refine EL.ret ?_
  refine inBlk_ret ?_
  refine thenL_ret ?_
  refine ⟨.inr rfl, .v (.bool ((m.copy.at_.time == (⟨b.time, no⟩ : Stamp).time) && ((m.copy.at_.who == (⟨b.time, no⟩ : Stamp).who) && true))), by kernel_rfl, Ale.of_eq ?_⟩
  focus ((refine congrArg (fun b => AV.v (Value.bool b)) ?_; first | (simp [fitsP, *]; done) | (simp_all [fitsP]; done) | (rw [Bool.eq_iff_iff]; simp [fitsP, *]; done) | (rw [Bool.eq_iff_iff]; simp_all [fitsP]; done) | trace_state))
  rw [h3]
  have g3 : ¬ (m.kind = 4) := by simpa using h3
  refine DW.last 8 [4] (x' := ⟨[(4, .v (.bool false))], [(scq15 b no), (scq0 m)]⟩) (by kernel_rfl) (by kernel_rfl) ?_
  refine EL.ret ?_
  refine inBlk_ret ?_
  refine thenL_ret ?_
  refine ⟨.inr rfl, .v (.bool false), by kernel_rfl, Ale.of_eq ?_⟩
  focus ((refine congrArg (fun b => AV.v (Value.bool b)) ?_; first | (simp [fitsP, *]; done) | (simp_all [fitsP]; done) | (rw [Bool.eq_iff_iff]; simp [fitsP, *]; done) | (rw [Bool.eq_iff_iff]; simp_all [fitsP]; done) | trace_state))
  rw [h2]
  have g2 : ¬ (b.phase = 2) := by simpa using h2
  refine EL.condF (by kernel_rfl) ?_
  refine EL.skip ?_
  refine inBlk_norm ?_
  refine thenL_norm ?_
  refine EL.sreg ?_
  refine OW.last 1 [4] (x' := ⟨[(4, .v (.bool false))], [(scq15 b no), (scq0 m)]⟩) (by kernel_rfl) (by kernel_rfl) ?_
  refine EL.ret ?_
  refine ⟨.inr rfl, .v (.bool false), by kernel_rfl, Ale.of_eq ?_⟩
  focus ((refine congrArg (fun b => AV.v (Value.bool b)) ?_; first | (simp [fitsP, *]; done) | (simp_all [fitsP]; done) | (rw [Bool.eq_iff_iff]; simp [fitsP, *]; done) | (rw [Bool.eq_iff_iff]; simp_all [fitsP]; done) | trace_state))
def Copy.raw (c o : Copy) : Copy := if c.at_.lt o.at_ then o else c
abbrev scq30 (c : Copy) : OB := some ⟨3, [[VI c.at_.time, VI c.at_.who, .v (.string c.data)]]⟩
abbrev scq31 (o : Copy) : OB := some ⟨3, [[VI o.at_.time, VI o.at_.who, .v (.string o.data)]]⟩
abbrev scq32 (c : Copy) (o : Copy) : LB := [(scq30 c), (scq31 o), some ⟨3, [[VI 0, VI 0, .v (.string (⟨#[]⟩))]]⟩]
abbrev scq33 : LS := [(4, .ref 2 3 0 0), (3, .ref 1 3 0 0), (2, .ref 0 3 0 0)]
abbrev scq34 (o : Copy) (c : Copy) : LS := (8, .agg [VI o.at_.time, VI o.at_.who]) :: (7, .ref 1 3 0 0) :: (6, .agg [VI c.at_.time, VI c.at_.who]) :: (5, .ref 0 3 0 0) :: scq33
theorem raw_fn (c : Copy) (o : Copy) : Fn Tryd.prog 36 [.agg [VI c.at_.time, VI c.at_.who, .v (.string c.data)], .agg [VI o.at_.time, VI o.at_.who, .v (.string o.data)]] (.agg [VI (((c.raw o).at_).time), VI (((c.raw o).at_).who), .v (.string ((c.raw o).data))]) := by
  refine fn_walkW F36_ok (of_decide_eq_true (by kernel_rfl)) ?_
  refine EL.sreg ?_
  refine OW.last 3 [2, 3, 4] (x' := ⟨scq33, (scq32 c o)⟩) (by kernel_rfl) (by kernel_rfl) ?_
  refine EL.seq ?_
  refine EL.sreg ?_
  refine OW.run 4 (x' := ⟨(scq34 o c), (scq32 c o)⟩) (by kernel_rfl) ?_
  refine OW.fn (ar := [.agg [VI c.at_.time, VI c.at_.who], .agg [VI o.at_.time, VI o.at_.who]]) (x' := ⟨(9, .v (.bool (decide (c.at_.lt o.at_)))) :: (scq34 o c), (scq32 c o)⟩) (by kernel_rfl) (by kernel_rfl) F22_call (less_fn c.at_ o.at_) (by kernel_rfl) (by kernel_rfl) ?_
  refine OW.last 0 [2, 3, 4, 9] (x' := ⟨(9, .v (.bool (decide (c.at_.lt o.at_)))) :: scq33, (scq32 c o)⟩) (by kernel_rfl) (by kernel_rfl) ?_
  rcases Bool.eq_false_or_eq_true (decide (c.at_.lt o.at_)) with h1 | h1
  rw [h1]
  have g1 : (c.at_.lt o.at_) := of_decide_eq_true h1
  refine EL.condT (by kernel_rfl) ?_
  refine EL.sreg ?_
  refine OW.last 2 [4] (x' := ⟨[(4, .ref 2 3 0 0)], [(scq30 c), (scq31 o), (scq31 o)]⟩) (by kernel_rfl) (by kernel_rfl) ?_
  refine EL.ret ?_
  refine thenL_ret ?_
  refine ⟨.inr rfl, .agg [VI o.at_.time, VI o.at_.who, .v (.string o.data)], by kernel_rfl, Ale.of_eq ?_⟩
  focus (first | rfl | (simp [Copy.raw, *]; done) | (simp_all [Copy.raw]; done) | trace_state)
  rw [h1]
  have g1 : ¬ (c.at_.lt o.at_) := of_decide_eq_false h1
  refine EL.condF (by kernel_rfl) ?_
  refine EL.skip ?_
  refine thenL_norm ?_
  refine EL.sreg ?_
  refine OW.last 2 [4] (x' := ⟨[(4, .ref 2 3 0 0)], [(scq30 c), (scq31 o), (scq30 c)]⟩) (by kernel_rfl) (by kernel_rfl) ?_
  refine EL.ret ?_
  refine ⟨.inr rfl, .agg [VI c.at_.time, VI c.at_.who, .v (.string c.data)], by kernel_rfl, Ale.of_eq ?_⟩
  focus (first | rfl | (simp [Copy.raw, *]; done) | (simp_all [Copy.raw]; done) | trace_state)
end Go.Proofs.YtejilglnpdjepaaDoor
