/- What the functions of packages stamp, copies and seat answer: seats. No condition. -/
import Derived.Test.YtejilglnpdjepaaDoorPAc
import Derived.Test.YtejilglnpdjepaaDoorPAvDel
import Derived.Test.YtejilglnpdjepaaDoorPApi
set_option maxRecDepth 100000
set_option maxHeartbeats 4000000
set_option linter.unusedVariables false
set_option linter.unusedSimpArgs false
namespace Go.Proofs.YtejilglnpdjepaaDoor
def Stamp.lt (a b : Stamp) : Prop := a.time < b.time ∨ a.time = b.time ∧ a.who < b.who
instance (a b : Stamp) : Decidable (Stamp.lt a b) := by unfold Stamp.lt; exact inferInstance
def Stamp.okS (s : Stamp) : Prop := 0 ≤ s.time ∧ s.time ≤ 1000000 ∧ 0 ≤ s.who ∧ s.who ≤ 31
instance (s : Stamp) : Decidable s.okS := by unfold Stamp.okS; exact inferInstance
def Stamp.checkE (s : Stamp) : Int := if s.okS then 0 else 3
def Copy.checkE (c : Copy) : Int := if c.at_.okS then (if c.data.size > 64 then 2 else 0) else 3
def cmpP (a b : Int) : Int := if a < b then -1 else if a > b then 1 else 0
def Stamp.cmp (a b : Stamp) : Int := if a.time < b.time then -1 else if a.time > b.time then 1 else cmpP a.who b.who
theorem Stamp.cmp_lt {a b : Stamp} : a.cmp b < 0 ↔ a.lt b := by
  unfold Stamp.cmp cmpP Stamp.lt; (repeat' split) <;> omega
abbrev Stamp.cs (x : Stamp) : List AV := [VI x.time, VI x.who]
abbrev Copy.cs (x : Copy) : List AV := [VI x.at_.time, VI x.at_.who, .v (.string x.data)]
abbrev Vote.cs (x : Vote) : List AV := [VI x.kind, VI x.bid, VI x.node, VI x.copy.at_.time, VI x.copy.at_.who, .v (.string x.copy.data)]
abbrev Seat.cs (x : Seat) : List AV := [VI x.promised.time, VI x.promised.who, VI x.kept.at_.time, VI x.kept.at_.who, .v (.string x.kept.data)]
abbrev Bid.cs (x : Bid) : List AV := [VI x.time, VI x.phase, .v (.string x.own), .v (.string x.value), VI x.best.at_.time, VI x.best.at_.who, .v (.string x.best.data), .v (.int .u64 (x.heard.n : Int))]
abbrev saq0 (lo : Int) (n : Int) (hi : Int) : LS := [(8, VI lo), (7, VI n), (0, VI n), (1, VI lo), (2, VI hi)]
theorem within_fn (n : Int) (lo : Int) (hi : Int) : Fn Tryd.prog 29 [VI n, VI lo, VI hi] (.v (.bool (wi n lo hi))) := by
  refine fn_walkW F29_ok (of_decide_eq_true (by kernel_rfl)) ?_
  refine EL.sreg ?_
  refine OW.last 1 [0, 1, 2] (x' := ⟨[(0, VI n), (1, VI lo), (2, VI hi)], []⟩) (by kernel_rfl) (by kernel_rfl) ?_
  refine EL.sreg ?_
  refine OW.run 4 (x' := ⟨(10, .v (.bool (decide (n ≥ lo)))) :: (9, .v (.bool (decide (n ≥ lo)))) :: (saq0 lo n hi), []⟩) (by kernel_rfl) ?_
  rcases Bool.eq_false_or_eq_true (decide (n ≥ lo)) with h1 | h1
  rw [h1]
  have g1 : (n ≥ lo) := of_decide_eq_true h1
  refine OW.last 5 [6] (x' := ⟨[(6, .v (.bool (decide (n ≤ hi))))], []⟩) (by kernel_rfl) (by kernel_rfl) ?_
  refine EL.ret ?_
  refine ⟨.inr rfl, .v (.bool (decide (n ≤ hi))), by kernel_rfl, Ale.of_eq ?_⟩
  focus (first | rfl | (refine congrArg (fun b => AV.v (Value.bool b)) ?_; first | rfl | (rw [Bool.eq_iff_iff]; simp [wi]; done) | (rw [Bool.eq_iff_iff]; simp [wi]; omega)))
  rw [h1]
  have g1 : ¬ (n ≥ lo) := of_decide_eq_false h1
  refine OW.last 5 [6] (x' := ⟨[(6, .v (.bool false))], []⟩) (by kernel_rfl) (by kernel_rfl) ?_
  refine EL.ret ?_
  refine ⟨.inr rfl, .v (.bool false), by kernel_rfl, Ale.of_eq ?_⟩
  focus (first | rfl | (refine congrArg (fun b => AV.v (Value.bool b)) ?_; first | rfl | (rw [Bool.eq_iff_iff]; simp [wi]; done) | (rw [Bool.eq_iff_iff]; simp [wi]; omega)))
theorem number_fn (n : Int) : Fn Tryd.prog 30 [VI n] (.v (.bool (wi n 0 30))) := by
  refine fn_walkW F30_ok (of_decide_eq_true (by kernel_rfl)) ?_
  refine EL.sreg ?_
  refine OW.last 1 [0] (x' := ⟨[(0, VI n)], []⟩) (by kernel_rfl) (by kernel_rfl) ?_
  refine EL.sreg ?_
  refine OW.run 1 (x' := ⟨[(3, VI n), (0, VI n)], []⟩) (by kernel_rfl) ?_
  refine OW.fn (ar := [VI n, VI 0, VI 30]) (x' := ⟨[(4, .v (.bool (wi n 0 30))), (3, VI n), (0, VI n)], []⟩) (by kernel_rfl) (by kernel_rfl) F29_call (within_fn n 0 30) (by kernel_rfl) (by kernel_rfl) ?_
  refine OW.last 1 [2] (x' := ⟨[(2, .v (.bool (wi n 0 30)))], []⟩) (by kernel_rfl) (by kernel_rfl) ?_
  refine EL.ret ?_
  refine ⟨.inr rfl, .v (.bool (wi n 0 30)), by kernel_rfl, Ale.of_eq ?_⟩
  focus (first | rfl | (refine congrArg (fun b => AV.v (Value.bool b)) ?_; first | rfl | (rw [Bool.eq_iff_iff]; simp [wi]; done) | (rw [Bool.eq_iff_iff]; simp [wi]; omega)))
theorem who_fn (n : Int) : Fn Tryd.prog 49 [VI n] (.v (.bool (wi n 0 31))) := by
  refine fn_walkW F49_ok (of_decide_eq_true (by kernel_rfl)) ?_
  refine EL.sreg ?_
  refine OW.last 1 [0] (x' := ⟨[(0, VI n)], []⟩) (by kernel_rfl) (by kernel_rfl) ?_
  refine EL.sreg ?_
  refine OW.run 3 (x' := ⟨[(5, .v (.bool (decide (n ≥ 0)))), (4, .v (.bool (decide (n ≥ 0)))), (3, VI n), (0, VI n)], []⟩) (by kernel_rfl) ?_
  rcases Bool.eq_false_or_eq_true (decide (n ≥ 0)) with h1 | h1
  rw [h1]
  have g1 : (n ≥ 0) := of_decide_eq_true h1
  refine OW.last 4 [2] (x' := ⟨[(2, .v (.bool (decide (n ≤ 31))))], []⟩) (by kernel_rfl) (by kernel_rfl) ?_
  refine EL.ret ?_
  refine ⟨.inr rfl, .v (.bool (decide (n ≤ 31))), by kernel_rfl, Ale.of_eq ?_⟩
  focus (first | rfl | (refine congrArg (fun b => AV.v (Value.bool b)) ?_; first | rfl | (rw [Bool.eq_iff_iff]; simp [wi]; done) | (rw [Bool.eq_iff_iff]; simp [wi]; omega)))
  rw [h1]
  have g1 : ¬ (n ≥ 0) := of_decide_eq_false h1
  refine OW.last 4 [2] (x' := ⟨[(2, .v (.bool false))], []⟩) (by kernel_rfl) (by kernel_rfl) ?_
  refine EL.ret ?_
  refine ⟨.inr rfl, .v (.bool false), by kernel_rfl, Ale.of_eq ?_⟩
  focus (first | rfl | (refine congrArg (fun b => AV.v (Value.bool b)) ?_; first | rfl | (rw [Bool.eq_iff_iff]; simp [wi]; done) | (rw [Bool.eq_iff_iff]; simp [wi]; omega)))
theorem nan_fn (n : Int) : Fn Tryd.prog 55 [VI n] (.v (.bool false)) := by
  refine fn_walkW F55_ok (of_decide_eq_true (by kernel_rfl)) ?_
  refine EL.sreg ?_
  refine OW.last 1 [0] (x' := ⟨[(0, VI n)], []⟩) (by kernel_rfl) (by kernel_rfl) ?_
  refine EL.sreg ?_
  refine OW.last 4 [2] (x' := ⟨[(2, .v (.bool (n != n)))], []⟩) (by kernel_rfl) (by kernel_rfl) ?_
  refine EL.ret ?_
  refine ⟨.inr rfl, .v (.bool (n != n)), by kernel_rfl, Ale.of_eq ?_⟩
  focus (first | rfl | (simp; done) | trace_state)
abbrev saq1 (a : Int) (b : Int) : LS := [(8, .v (.bool false)), (7, VI a), (0, VI a), (1, VI b)]
abbrev saq2 (b : Int) (a : Int) : LS := [(9, VI b), (5, .v (.bool false)), (0, VI a), (1, VI b)]
abbrev saq3 (a : Int) (b : Int) : LS := [(6, .v (.bool false)), (5, .v (.bool false)), (0, VI a), (1, VI b)]
abbrev saq4 (a : Int) (b : Int) : LS := [(11, .v (.bool false)), (6, .v (.bool false)), (0, VI a), (1, VI b)]
abbrev saq5 (a : Int) (b : Int) : LS := [(13, .v (.bool false)), (0, VI a), (1, VI b)]
theorem cmp_fn (a : Int) (b : Int) : Fn Tryd.prog 53 [VI a, VI b] (VI (cmpP a b)) := by
  refine fn_walkW F53_ok (of_decide_eq_true (by kernel_rfl)) ?_
  refine EL.sreg ?_
  refine OW.last 1 [0, 1] (x' := ⟨[(0, VI a), (1, VI b)], []⟩) (by kernel_rfl) (by kernel_rfl) ?_
  refine EL.sreg ?_
  refine OW.run 1 (x' := ⟨[(7, VI a), (0, VI a), (1, VI b)], []⟩) (by kernel_rfl) ?_
  refine OW.fn (ar := [VI a]) (x' := ⟨(saq1 a b), []⟩) (by kernel_rfl) (by kernel_rfl) F55_call (nan_fn a) (by kernel_rfl) (by kernel_rfl) ?_
  refine OW.last 1 [0, 1, 5] (x' := ⟨[(5, .v (.bool false)), (0, VI a), (1, VI b)], []⟩) (by kernel_rfl) (by kernel_rfl) ?_
  refine EL.sreg ?_
  refine OW.run 1 (x' := ⟨(saq2 b a), []⟩) (by kernel_rfl) ?_
  refine OW.fn (ar := [VI b]) (x' := ⟨(10, .v (.bool false)) :: (saq2 b a), []⟩) (by kernel_rfl) (by kernel_rfl) F55_call (nan_fn b) (by kernel_rfl) (by kernel_rfl) ?_
  refine OW.last 1 [0, 1, 5, 6] (x' := ⟨(saq3 a b), []⟩) (by kernel_rfl) (by kernel_rfl) ?_
  refine EL.seq ?_
  refine EL.sreg ?_
  refine OW.last 1 [0, 1, 6, 11] (x' := ⟨(saq4 a b), []⟩) (by kernel_rfl) (by kernel_rfl) ?_
  refine EL.condF (by kernel_rfl) ?_
  refine EL.skip ?_
  refine thenL_norm ?_
  refine EL.seq ?_
  refine EL.sreg ?_
  refine OW.last 1 [0, 1, 13] (x' := ⟨(saq5 a b), []⟩) (by kernel_rfl) (by kernel_rfl) ?_
  refine EL.condF (by kernel_rfl) ?_
  refine EL.skip ?_
  refine thenL_norm ?_
  refine EL.seq ?_
  refine EL.sreg ?_
  refine OW.last 3 [0, 1, 16] (x' := ⟨[(16, .v (.bool (decide (a < b)))), (0, VI a), (1, VI b)], []⟩) (by kernel_rfl) (by kernel_rfl) ?_
  rcases Bool.eq_false_or_eq_true (decide (a < b)) with h1 | h1
  rw [h1]
  have g1 : (a < b) := of_decide_eq_true h1
  refine EL.condT (by kernel_rfl) ?_
  refine EL.sreg ?_
  refine OW.last 1 [4] (x' := ⟨[(4, VI (-1))], []⟩) (by kernel_rfl) (by kernel_rfl) ?_
  refine EL.ret ?_
  refine thenL_ret ?_
  refine ⟨.inr rfl, VI (-1), by kernel_rfl, Ale.of_eq ?_⟩
  focus ((refine congrArg (fun n => VI n) ?_; (try simp only [wi_iff, wi_iffF] at *); simp only [cmpP]; (repeat' split) <;> first | omega | (simp_all; done) | (simp_all; omega) | trace_state))
  rw [h1]
  have g1 : ¬ (a < b) := of_decide_eq_false h1
  refine EL.condF (by kernel_rfl) ?_
  refine EL.skip ?_
  refine thenL_norm ?_
  refine EL.seq ?_
  refine EL.sreg ?_
  refine OW.last 3 [19] (x' := ⟨[(19, .v (.bool (decide (a > b))))], []⟩) (by kernel_rfl) (by kernel_rfl) ?_
  rcases Bool.eq_false_or_eq_true (decide (a > b)) with h2 | h2
  rw [h2]
  have g2 : (a > b) := of_decide_eq_true h2
  refine EL.condT (by kernel_rfl) ?_
  refine EL.sreg ?_
  refine OW.last 1 [4] (x' := ⟨[(4, VI 1)], []⟩) (by kernel_rfl) (by kernel_rfl) ?_
  refine EL.ret ?_
  refine thenL_ret ?_
  refine ⟨.inr rfl, VI 1, by kernel_rfl, Ale.of_eq ?_⟩
  focus ((refine congrArg (fun n => VI n) ?_; (try simp only [wi_iff, wi_iffF] at *); simp only [cmpP]; (repeat' split) <;> first | omega | (simp_all; done) | (simp_all; omega) | trace_state))
  rw [h2]
  have g2 : ¬ (a > b) := of_decide_eq_false h2
  refine EL.condF (by kernel_rfl) ?_
  refine EL.skip ?_
  refine thenL_norm ?_
  refine EL.sreg ?_
  refine OW.last 1 [4] (x' := ⟨[(4, VI 0)], []⟩) (by kernel_rfl) (by kernel_rfl) ?_
  refine EL.ret ?_
  refine ⟨.inr rfl, VI 0, by kernel_rfl, Ale.of_eq ?_⟩
  focus ((refine congrArg (fun n => VI n) ?_; (try simp only [wi_iff, wi_iffF] at *); simp only [cmpP]; (repeat' split) <;> first | omega | (simp_all; done) | (simp_all; omega) | trace_state))
abbrev saq6 (l : List Int) : LS := [(6, .lst 1 (l.map cI)), (3, VI 0), (0, .lst 1 (l.map cI))]
abbrev saq7 (l : List Int) : LS := [(8, VI 0), (7, VI (List.length l : Int)), (6, .lst 1 (l.map cI)), (3, VI 0)]
abbrev saq8 (l : List Int) (k : Nat) : LS := [(3, VI 0), (6, .lst 1 (l.map cI)), (7, VI (List.length l : Int)), (8, VI (k : Int))]
abbrev saq9 (a3 : Int) (l : List Int) (k : Nat) : LS := (10, .pim [VI a3] 0) :: (9, .v (.bool true)) :: (saq8 l k)
abbrev saq10 (a3 : Int) (l : List Int) : LS := [(14, .v (.bool false)), (5, VI a3), (3, VI 0), (6, .lst 1 (l.map cI)), (7, VI (List.length l : Int))]
abbrev saq11 (k : Nat) (a3 : Int) (l : List Int) : LS := (8, VI ((k : Int) + 1)) :: (16, VI ((k : Int) + 1)) :: (saq10 a3 l)
theorem or_fn (l : List Int) (hx : l.length ≤ 9223372036854775807) : Fn Tryd.prog 52 [.lst 1 (l.map cI)] (VI ((List.find? (fun n => n != 0) l).getD 0)) := by
  refine fn_walkW F52_ok (of_decide_eq_true (by kernel_rfl)) ?_
  refine EL.sreg ?_
  refine OW.last 1 [0] (x' := ⟨[(0, .lst 1 (l.map cI))], []⟩) (by kernel_rfl) (by kernel_rfl) ?_
  refine EL.sreg ?_
  refine OW.last 1 [0, 3] (x' := ⟨[(3, VI 0), (0, .lst 1 (l.map cI))], []⟩) (by kernel_rfl) (by kernel_rfl) ?_
  refine EL.seq ?_
  refine EL.sreg ?_
  refine OW.run 1 (x' := ⟨(saq6 l), []⟩) (by kernel_rfl) ?_
  refine OW.ope (v := VI (List.length l : Int)) (u := []) (acc := []) (x' := ⟨(7, VI (List.length l : Int)) :: (saq6 l), []⟩) (by kernel_rfl) (opE_len cI l (.s 6) 1 (by kernel_rfl) (by kernel_rfl) (.inl rfl)) (by kernel_rfl) ?_
  refine OW.last 1 [3, 6, 7, 8] (x' := ⟨(saq7 l), []⟩) (by kernel_rfl) (by kernel_rfl) ?_
  refine EL.block ?_
  refine EL.loopN (fun mM xX => ∃ (k : Nat), mM = l.length - k ∧ (k ≤ l.length ∧ (List.find? (fun n => n != 0) l).getD 0 = (List.find? (fun n => n != 0) (l.drop k)).getD 0) ∧ xX = ⟨(saq8 l k), []⟩) (y := (fun (k : Nat) => (⟨(saq8 l k), []⟩ : L3)) 0) [3, 6, 7, 8] [] [] (by kernel_rfl) trivial ⟨0, rfl, by simp, rfl⟩ ?_
  rintro _ _ ⟨k, rfl, hI1, rfl⟩
  obtain ⟨hk, hs⟩ := hI1
  refine EL.sreg ?_
  refine OW.last 1 [3, 6, 7, 8, 9] (x' := ⟨(9, .v (.bool (decide ((k : Int) < (List.length l : Int))))) :: (saq8 l k), []⟩) (by kernel_rfl) (by kernel_rfl) ?_
  refine EL.seq ?_
  rcases Bool.eq_false_or_eq_true (decide ((k : Int) < (List.length l : Int))) with h2 | h2
  rw [h2]
  have g2 : ((k : Int) < (List.length l : Int)) := of_decide_eq_true h2
  have n2 : ((k) < (List.length l)) := by omega
  refine EL.condT (by kernel_rfl) ?_
  refine EL.skip ?_
  refine thenL_norm ?_
  refine EL.seq ?_
  refine EL.block ?_
  refine EL.sreg ?_
  obtain ⟨a3, ha3⟩ : ∃ y, l[((k : Int) : Int).toNat]? = some y := idx_ex ⟨by omega, by omega⟩
  have iha3 : l[k]? = some a3 := by simpa using ha3
  have dha3 := drop_get iha3
  refine OW.ope (v := .pim [VI a3] 0) (u := []) (acc := []) (x' := ⟨(saq9 a3 l k), []⟩) (by kernel_rfl) (opE_iad cI l (.s 6) (.s 8) 1 .i64 (k : Int) a3 (by kernel_rfl) (by kernel_rfl) (.inl rfl) rfl (by omega) ha3) (by kernel_rfl) ?_
  refine OW.last 2 [3, 5, 6, 7, 8] (x' := ⟨(5, VI a3) :: (saq8 l k), []⟩) (by kernel_rfl) (by kernel_rfl) ?_
  refine EL.sreg ?_
  refine OW.last 3 [3, 5, 6, 7, 8, 14] (x' := ⟨(14, .v (.bool (a3 != 0))) :: (5, VI a3) :: (saq8 l k), []⟩) (by kernel_rfl) (by kernel_rfl) ?_
  rcases Bool.eq_false_or_eq_true ((a3 != 0)) with h4 | h4
  rw [h4]
  have g4 : ¬ (a3 = 0) := by simpa using h4
  refine EL.condT (by kernel_rfl) ?_
  refine EL.sreg ?_
  refine OW.last 2 [2] (x' := ⟨[(2, VI a3)], []⟩) (by kernel_rfl) (by kernel_rfl) ?_
  refine EL.ret ?_
  refine inBlk_ret ?_
  refine thenL_ret ?_
  refine thenL_ret ?_
  refine inBlk_ret ?_
  refine thenL_ret ?_
  refine ⟨.inr rfl, VI a3, by kernel_rfl, Ale.of_eq ?_⟩
  focus ((refine congrArg (fun n => VI n) ?_; rw [hs]; first | (rw [List.drop_eq_nil_of_le (by omega)]; rfl) | (simp [List.find?, *]; done) | trace_state))
  rw [h4]
  have g4 : (a3 = 0) := by simpa using h4
  refine EL.condF (by kernel_rfl) ?_
  refine EL.skip ?_
  refine inBlk_norm ?_
  refine thenL_norm ?_
  refine EL.reg0 ?_
  refine OW.run 2 (x' := ⟨(8, VI (IntKind.i64.wrap ((k : Int) + 1))) :: (16, VI (IntKind.i64.wrap ((k : Int) + 1))) :: (saq10 a3 l), []⟩) (by kernel_rfl) ?_
  have e5 : IntKind.i64.wrap ((k : Int) + 1) = (k : Int) + 1 := wr64 (by omega)
  rw [e5]
  refine OW.end 0 (x' := ⟨(saq11 k a3 l), []⟩) (by kernel_rfl) (by kernel_rfl) ?_
  refine thenL_norm ?_
  refine round_end (live := [3, 6, 7, 8]) (src := []) (es := []) (y := (fun (k : Nat) => (⟨(saq8 l k), []⟩ : L3)) (k + 1)) ?_ trivial ?_ ⟨(k + 1), rfl, ?_, rfl⟩
  kernel_rfl
  omega
  focus (refine ⟨by omega, ?_⟩; rw [hs]; simp [List.find?, *])
  rw [h2]
  have g2 : ¬ ((k : Int) < (List.length l : Int)) := of_decide_eq_false h2
  have n2 : ¬ ((k) < (List.length l)) := by omega
  refine EL.condF (by kernel_rfl) ?_
  refine EL.exit ?_
  refine thenL_exit ?_
  refine thenL_exit ?_
  refine inBlk_hit ?_
  refine thenL_norm ?_
  refine EL.sreg ?_
  refine OW.last 2 [2] (x' := ⟨[(2, VI 0)], []⟩) (by kernel_rfl) (by kernel_rfl) ?_
  refine EL.ret ?_
  refine ⟨.inr rfl, VI 0, by kernel_rfl, Ale.of_eq ?_⟩
  focus ((refine congrArg (fun n => VI n) ?_; rw [hs]; first | (rw [List.drop_eq_nil_of_le (by omega)]; rfl) | (simp [List.find?, *]; done) | trace_state))
abbrev saq12 (a : Stamp) (b : Stamp) : LB := [some ⟨2, [[VI a.time, VI a.who]]⟩, some ⟨2, [[VI b.time, VI b.who]]⟩]
abbrev saq13 (b : Stamp) (a : Stamp) : LS := [(8, VI b.time), (7, .ref 1 2 0 0), (6, VI a.time), (5, .ref 0 2 0 0), (3, .ref 1 2 0 0), (2, .ref 0 2 0 0)]
abbrev saq14 (b : Stamp) (a : Stamp) : LS := (13, VI b.who) :: (12, .ref 1 2 0 1) :: (11, VI a.who) :: (10, .ref 0 2 0 1) :: (9, VI (cmpP a.time b.time)) :: (saq13 b a)
abbrev saq15 (a : Stamp) (b : Stamp) : OB := some ⟨1, [[VI (cmpP a.time b.time)], [VI (cmpP a.who b.who)]]⟩
abbrev saq16 (a : Stamp) (b : Stamp) : LB := [some ⟨2, [[VI a.time, VI a.who]]⟩, some ⟨2, [[VI b.time, VI b.who]]⟩, (saq15 a b)]
abbrev saq17 (a : Stamp) (b : Stamp) : LS := (15, .own 2 1 0 2) :: (14, VI (cmpP a.who b.who)) :: (saq14 b a)
theorem compare_fn (a : Stamp) (b : Stamp) : Fn Tryd.prog 47 [.agg [VI a.time, VI a.who], .agg [VI b.time, VI b.who]] (VI (a.cmp b)) := by
  refine fn_walkW F47_ok (of_decide_eq_true (by kernel_rfl)) ?_
  refine EL.sreg ?_
  refine OW.last 3 [2, 3] (x' := ⟨[(3, .ref 1 2 0 0), (2, .ref 0 2 0 0)], (saq12 a b)⟩) (by kernel_rfl) (by kernel_rfl) ?_
  refine EL.sdraw ?_
  refine DW.run 4 (x' := ⟨(saq13 b a), (saq12 a b)⟩) (by kernel_rfl) ?_
  refine DW.fn (ar := [VI a.time, VI b.time]) (x' := ⟨(9, VI (cmpP a.time b.time)) :: (saq13 b a), (saq12 a b)⟩) (by kernel_rfl) (by kernel_rfl) F53_call (cmp_fn a.time b.time) (by kernel_rfl) (by kernel_rfl) ?_
  refine DW.run 4 (x' := ⟨(saq14 b a), (saq12 a b)⟩) (by kernel_rfl) ?_
  refine DW.fn (ar := [VI a.who, VI b.who]) (x' := ⟨(14, VI (cmpP a.who b.who)) :: (saq14 b a), (saq12 a b)⟩) (by kernel_rfl) (by kernel_rfl) F53_call (cmp_fn a.who b.who) (by kernel_rfl) (by kernel_rfl) ?_
  refine DW.run 1 (x' := ⟨(saq17 a b), (saq16 a b)⟩) (by kernel_rfl) ?_
  refine DW.fn (ar := [.own 2 1 0 2]) (x' := ⟨(16, VI ((List.find? (fun n => n != 0) ([cmpP a.time b.time, cmpP a.who b.who])).getD 0)) :: (saq17 a b), (saq16 a b)⟩) (by kernel_rfl) (by kernel_rfl) F52_call (or_fn ([cmpP a.time b.time, cmpP a.who b.who]) (by first | omega | (simp; done))) (by kernel_rfl) (by kernel_rfl) ?_
  refine DW.last 1 [4] (x' := ⟨[(4, VI ((List.find? (fun n => n != 0) ([cmpP a.time b.time, cmpP a.who b.who])).getD 0))], (saq16 a b)⟩) (by kernel_rfl) (by kernel_rfl) ?_
  refine EL.ret ?_
  refine ⟨.inr rfl, VI ((List.find? (fun n => n != 0) ([cmpP a.time b.time, cmpP a.who b.who])).getD 0), by kernel_rfl, Ale.of_eq ?_⟩
  focus ((refine congrArg (fun n => VI n) ?_; simp only [Stamp.cmp, cmpP]; (repeat' split) <;> first | rfl | (exfalso; omega) | (simp [List.find?]; done) | (simp_all [List.find?]; done) | trace_state))
abbrev saq18 (b : Stamp) (a : Stamp) : LS := [(6, .agg [VI b.time, VI b.who]), (5, .agg [VI a.time, VI a.who]), (3, .ref 1 2 0 0), (2, .ref 0 2 0 0)]
theorem less_fn (a : Stamp) (b : Stamp) : Fn Tryd.prog 22 [.agg [VI a.time, VI a.who], .agg [VI b.time, VI b.who]] (.v (.bool (decide (a.lt b)))) := by
  refine fn_walkW F22_ok (of_decide_eq_true (by kernel_rfl)) ?_
  refine EL.sreg ?_
  refine OW.last 3 [2, 3] (x' := ⟨[(3, .ref 1 2 0 0), (2, .ref 0 2 0 0)], (saq12 a b)⟩) (by kernel_rfl) (by kernel_rfl) ?_
  refine EL.sreg ?_
  refine OW.run 2 (x' := ⟨(saq18 b a), (saq12 a b)⟩) (by kernel_rfl) ?_
  refine OW.fn (ar := [.agg [VI a.time, VI a.who], .agg [VI b.time, VI b.who]]) (x' := ⟨(7, VI (a.cmp b)) :: (saq18 b a), (saq12 a b)⟩) (by kernel_rfl) (by kernel_rfl) F47_call (compare_fn a b) (by kernel_rfl) (by kernel_rfl) ?_
  refine OW.last 2 [4] (x' := ⟨[(4, .v (.bool (decide ((a.cmp b) < 0))))], (saq12 a b)⟩) (by kernel_rfl) (by kernel_rfl) ?_
  refine EL.ret ?_
  refine ⟨.inr rfl, .v (.bool (decide ((a.cmp b) < 0))), by kernel_rfl, Ale.of_eq ?_⟩
  focus ((refine congrArg (fun b => AV.v (Value.bool b)) ?_; rw [decide_eq_decide]; exact Stamp.cmp_lt))
abbrev saq19 (s : Stamp) : LS := [(4, VI s.time), (3, .ref 0 2 0 0), (1, .ref 0 2 0 0)]
abbrev saq20 (s : Stamp) : LS := (8, VI s.time) :: (7, .ref 0 2 0 0) :: (6, .v (.bool false)) :: (5, .v (.bool false)) :: (saq19 s)
abbrev saq21 (s : Stamp) : LS := (13, VI s.who) :: (12, .ref 0 2 0 1) :: (11, .v (.bool false)) :: (10, .v (.bool false)) :: (9, .v (.bool false)) :: (saq20 s)
theorem scheck_fn (s : Stamp) : Fn Tryd.prog 33 [.agg [VI s.time, VI s.who]] (VI s.checkE) := by
  refine fn_walkW F33_ok (of_decide_eq_true (by kernel_rfl)) ?_
  refine EL.sreg ?_
  refine OW.last 2 [1] (x' := ⟨[(1, .ref 0 2 0 0)], [some ⟨2, [[VI s.time, VI s.who]]⟩]⟩) (by kernel_rfl) (by kernel_rfl) ?_
  refine EL.seq ?_
  refine EL.sreg ?_
  refine OW.run 4 (x' := ⟨(6, .v (.bool (decide (s.time < 0)))) :: (5, .v (.bool (decide (s.time < 0)))) :: (saq19 s), [some ⟨2, [[VI s.time, VI s.who]]⟩]⟩) (by kernel_rfl) ?_
  rcases Bool.eq_false_or_eq_true (decide (s.time < 0)) with h1 | h1
  rw [h1]
  have g1 : (s.time < 0) := of_decide_eq_true h1
  refine OW.last 10 [16] (x' := ⟨[(16, .v (.bool true))], [some ⟨2, [[VI s.time, VI s.who]]⟩]⟩) (by kernel_rfl) (by kernel_rfl) ?_
  refine EL.condT (by kernel_rfl) ?_
  refine EL.sreg ?_
  refine OW.last 1 [2] (x' := ⟨[(2, VI 3)], [some ⟨2, [[VI s.time, VI s.who]]⟩]⟩) (by kernel_rfl) (by kernel_rfl) ?_
  refine EL.ret ?_
  refine thenL_ret ?_
  refine ⟨.inr rfl, VI 3, by kernel_rfl, Ale.of_eq ?_⟩
  focus ((refine congrArg (fun n => VI n) ?_; (try simp only [wi_iff, wi_iffF] at *); simp only [Stamp.checkE, Stamp.okS]; (repeat' split) <;> first | omega | (simp_all; done) | (simp_all; omega) | trace_state))
  rw [h1]
  have g1 : ¬ (s.time < 0) := of_decide_eq_false h1
  refine OW.run 5 (x' := ⟨(11, .v (.bool (decide (s.time > 1000000)))) :: (10, .v (.bool (decide (s.time > 1000000)))) :: (9, .v (.bool (decide (s.time > 1000000)))) :: (saq20 s), [some ⟨2, [[VI s.time, VI s.who]]⟩]⟩) (by kernel_rfl) ?_
  rcases Bool.eq_false_or_eq_true (decide (s.time > 1000000)) with h2 | h2
  rw [h2]
  have g2 : (s.time > 1000000) := of_decide_eq_true h2
  refine OW.last 5 [16] (x' := ⟨[(16, .v (.bool true))], [some ⟨2, [[VI s.time, VI s.who]]⟩]⟩) (by kernel_rfl) (by kernel_rfl) ?_
  refine EL.condT (by kernel_rfl) ?_
  refine EL.sreg ?_
  refine OW.last 1 [2] (x' := ⟨[(2, VI 3)], [some ⟨2, [[VI s.time, VI s.who]]⟩]⟩) (by kernel_rfl) (by kernel_rfl) ?_
  refine EL.ret ?_
  refine thenL_ret ?_
  refine ⟨.inr rfl, VI 3, by kernel_rfl, Ale.of_eq ?_⟩
  focus ((refine congrArg (fun n => VI n) ?_; (try simp only [wi_iff, wi_iffF] at *); simp only [Stamp.checkE, Stamp.okS]; (repeat' split) <;> first | omega | (simp_all; done) | (simp_all; omega) | trace_state))
  rw [h2]
  have g2 : ¬ (s.time > 1000000) := of_decide_eq_false h2
  refine OW.run 2 (x' := ⟨(saq21 s), [some ⟨2, [[VI s.time, VI s.who]]⟩]⟩) (by kernel_rfl) ?_
  refine OW.fn (ar := [VI s.who]) (x' := ⟨(14, .v (.bool (wi s.who 0 31))) :: (saq21 s), [some ⟨2, [[VI s.time, VI s.who]]⟩]⟩) (by kernel_rfl) (by kernel_rfl) F49_call (who_fn s.who) (by kernel_rfl) (by kernel_rfl) ?_
  refine OW.last 2 [16] (x' := ⟨[(16, .v (.bool (!(wi s.who 0 31))))], [some ⟨2, [[VI s.time, VI s.who]]⟩]⟩) (by kernel_rfl) (by kernel_rfl) ?_
  rcases Bool.eq_false_or_eq_true (wi s.who 0 31) with h3 | h3
  rw [h3]
  have g3 : ((0 : Int) ≤ s.who ∧ (s.who : Int) ≤ 31) := wi_iff.1 h3
  refine EL.condF (by kernel_rfl) ?_
  refine EL.skip ?_
  refine thenL_norm ?_
  refine EL.sreg ?_
  refine OW.last 1 [2] (x' := ⟨[(2, VI 0)], [some ⟨2, [[VI s.time, VI s.who]]⟩]⟩) (by kernel_rfl) (by kernel_rfl) ?_
  refine EL.ret ?_
  refine ⟨.inr rfl, VI 0, by kernel_rfl, Ale.of_eq ?_⟩
  focus ((refine congrArg (fun n => VI n) ?_; (try simp only [wi_iff, wi_iffF] at *); simp only [Stamp.checkE, Stamp.okS]; (repeat' split) <;> first | omega | (simp_all; done) | (simp_all; omega) | trace_state))
  rw [h3]
  have g3 : ¬ ((0 : Int) ≤ s.who ∧ (s.who : Int) ≤ 31) := fun hh => Bool.noConfusion ((wi_iff.2 hh).symm.trans h3)
  refine EL.condT (by kernel_rfl) ?_
  refine EL.sreg ?_
  refine OW.last 1 [2] (x' := ⟨[(2, VI 3)], [some ⟨2, [[VI s.time, VI s.who]]⟩]⟩) (by kernel_rfl) (by kernel_rfl) ?_
  refine EL.ret ?_
  refine thenL_ret ?_
  refine ⟨.inr rfl, VI 3, by kernel_rfl, Ale.of_eq ?_⟩
  focus ((refine congrArg (fun n => VI n) ?_; (try simp only [wi_iff, wi_iffF] at *); simp only [Stamp.checkE, Stamp.okS]; (repeat' split) <;> first | omega | (simp_all; done) | (simp_all; omega) | trace_state))
abbrev saq22 (c : Copy) : OB := some ⟨3, [[VI c.at_.time, VI c.at_.who, .v (.string c.data)]]⟩
abbrev saq23 (c : Copy) : LS := [(5, .agg [VI c.at_.time, VI c.at_.who]), (4, .ref 0 3 0 0), (1, .ref 0 3 0 0)]
abbrev saq24 (c : Copy) : LS := [(7, VI c.at_.checkE), (3, VI c.at_.checkE), (1, .ref 0 3 0 0)]
theorem ccheck_fn (c : Copy) : Fn Tryd.prog 31 [.agg [VI c.at_.time, VI c.at_.who, .v (.string c.data)]] (VI c.checkE) := by
  refine fn_walkW F31_ok (of_decide_eq_true (by kernel_rfl)) ?_
  refine EL.sreg ?_
  refine OW.last 2 [1] (x' := ⟨[(1, .ref 0 3 0 0)], [(saq22 c)]⟩) (by kernel_rfl) (by kernel_rfl) ?_
  refine EL.sreg ?_
  refine OW.run 2 (x' := ⟨(saq23 c), [(saq22 c)]⟩) (by kernel_rfl) ?_
  refine OW.fn (ar := [.agg [VI c.at_.time, VI c.at_.who]]) (x' := ⟨(6, VI c.at_.checkE) :: (saq23 c), [(saq22 c)]⟩) (by kernel_rfl) (by kernel_rfl) F33_call (scheck_fn c.at_) (by kernel_rfl) (by kernel_rfl) ?_
  refine OW.last 1 [1, 3] (x' := ⟨[(3, VI c.at_.checkE), (1, .ref 0 3 0 0)], [(saq22 c)]⟩) (by kernel_rfl) (by kernel_rfl) ?_
  refine EL.seqG [3] (fun y => (y = ⟨[(3, VI 2)], [(saq22 c)]⟩ ∧ (c.at_.checkE == 0) = true ∧ decide ((ByteArray.size c.data : Int) > 64) = true) ∨ (y = ⟨[(3, VI c.at_.checkE)], [(saq22 c)]⟩ ∧ (((c.at_.checkE = 0) ∧ ¬ ((ByteArray.size c.data : Int) > 64)) ∨ (¬ (c.at_.checkE = 0))))) ?_ ?_
  intro IHJ1 HJ1
  refine EL.sreg ?_
  refine OW.run 3 (x' := ⟨(9, .v (.bool (c.at_.checkE == 0))) :: (8, .v (.bool (c.at_.checkE == 0))) :: (saq24 c), [(saq22 c)]⟩) (by kernel_rfl) ?_
  rcases Bool.eq_false_or_eq_true ((c.at_.checkE == 0)) with h2 | h2
  rw [h2]
  have g2 : (c.at_.checkE = 0) := by simpa using h2
  refine OW.last 5 [3, 14] (x' := ⟨[(14, .v (.bool (decide ((ByteArray.size c.data : Int) > 64)))), (3, VI c.at_.checkE)], [(saq22 c)]⟩) (by kernel_rfl) (by kernel_rfl) ?_
  rcases Bool.eq_false_or_eq_true (decide ((ByteArray.size c.data : Int) > 64)) with h3 | h3
  rw [h3]
  have g3 : ((ByteArray.size c.data : Int) > 64) := of_decide_eq_true h3
  have n3 : ((ByteArray.size c.data) > 64) := by omega
  refine EL.condT (by kernel_rfl) ?_
  refine EL.reg0 ?_
  refine OW.end 1 (x' := ⟨[(3, VI 2), (14, .v (.bool true))], [(saq22 c)]⟩) (by kernel_rfl) (by kernel_rfl) ?_
  exact thenL_norm (HJ1.get (Or.inl ⟨by kernel_rfl, h2, h3⟩))
  rw [h3]
  have g3 : ¬ ((ByteArray.size c.data : Int) > 64) := of_decide_eq_false h3
  have n3 : ¬ ((ByteArray.size c.data) > 64) := by omega
  refine EL.condF (by kernel_rfl) ?_
  refine EL.skip ?_
  exact thenL_norm (HJ1.get (Or.inr ⟨by kernel_rfl, (Or.inl (by refine ⟨(by first | exact g2 | exact h2 | simp_all | omega), (by first | exact g3 | exact h3 | simp_all | omega)⟩))⟩))
  rw [h2]
  have g2 : ¬ (c.at_.checkE = 0) := by simpa using h2
  refine OW.last 5 [3, 14] (x' := ⟨[(14, .v (.bool false)), (3, VI c.at_.checkE)], [(saq22 c)]⟩) (by kernel_rfl) (by kernel_rfl) ?_
  refine EL.condF (by kernel_rfl) ?_
  refine EL.skip ?_
  exact thenL_norm (HJ1.get (Or.inr ⟨by kernel_rfl, (Or.inr (by first | exact g2 | exact h2 | simp_all | omega))⟩))
  rintro _ (⟨rfl, h4, h5⟩ | ⟨rfl, hD6⟩)
  have g4 : (c.at_.checkE = 0) := by simpa using h4
  have g5 : ((ByteArray.size c.data : Int) > 64) := of_decide_eq_true h5
  have n5 : ((ByteArray.size c.data) > 64) := by omega
  refine EL.sreg ?_
  refine OW.last 2 [2] (x' := ⟨[(2, VI 2)], [(saq22 c)]⟩) (by kernel_rfl) (by kernel_rfl) ?_
  refine EL.ret ?_
  refine ⟨.inr rfl, VI 2, by kernel_rfl, Ale.of_eq ?_⟩
  focus ((refine congrArg (fun n => VI n) ?_; have hs : c.at_.checkE = if c.at_.okS then 0 else 3 := rfl; simp only [Copy.checkE]; (repeat' split) <;> first | omega | (simp_all; done) | (simp_all; omega) | trace_state))
  refine EL.sreg ?_
  refine OW.last 2 [2] (x' := ⟨[(2, VI c.at_.checkE)], [(saq22 c)]⟩) (by kernel_rfl) (by kernel_rfl) ?_
  refine EL.ret ?_
  refine ⟨.inr rfl, VI c.at_.checkE, by kernel_rfl, Ale.of_eq ?_⟩
  focus ((refine congrArg (fun n => VI n) ?_; have hs : c.at_.checkE = if c.at_.okS then 0 else 3 := rfl; simp only [Copy.checkE]; (repeat' split) <;> first | omega | (simp_all; done) | (simp_all; omega) | trace_state))
def Vote.checkE (v : Vote) : Int :=
  if ¬ (1 ≤ v.kind ∧ v.kind ≤ 4) then 7 else if ¬ (0 ≤ v.bid ∧ v.bid ≤ 30 ∧ 0 ≤ v.node ∧ v.node ≤ 11) then 3 else if v.copy.checkE ≠ 0 then v.copy.checkE else if v.copy.data.size ≠ 0 ∧ (v.kind = 1 ∨ v.kind = 4) then 1 else 0
def Seat.checkE (s : Seat) : Int :=
  if s.promised.checkE ≠ 0 then s.promised.checkE else if s.kept.checkE ≠ 0 then s.kept.checkE else if s.promised.lt s.kept.at_ then 4 else 0
def Seat.zero : Seat := ⟨⟨0, 0⟩, ⟨⟨0, 0⟩, ⟨#[]⟩⟩⟩
def Seat.serveP (s : Seat) (v : Vote) : Seat × List Vote × Int :=
  if s.checkE ≠ 0 then (Seat.zero, [], s.checkE) else if v.checkE ≠ 0 then (Seat.zero, [], v.checkE)
  else if v.kind = 1 ∧ s.promised.lt v.copy.at_ then (⟨v.copy.at_, s.kept⟩, [⟨2, v.bid, v.node, s.kept⟩], 0)
  else if v.kind = 3 ∧ ¬ v.copy.at_.lt s.promised then (⟨v.copy.at_, v.copy⟩, [⟨4, v.bid, v.node, ⟨v.copy.at_, ⟨#[]⟩⟩⟩], 0)
  else (s, [], 0)
theorem ba_empty {d : ByteArray} : d = ⟨#[]⟩ ↔ d.size = 0 := by
  constructor
  · rintro rfl; rfl
  · intro h; cases d with | mk l => exact congrArg ByteArray.mk (Array.eq_empty_of_size_eq_zero h)
instance : DecidableEq Stamp := fun a b => decidable_of_iff (a.time = b.time ∧ a.who = b.who) (by cases a; cases b; simp)
instance : DecidableEq Copy := fun a b => decidable_of_iff (a.at_ = b.at_ ∧ a.data = b.data) (by cases a; cases b; simp)
instance : DecidableEq Vote := fun a b => decidable_of_iff (a.kind = b.kind ∧ a.bid = b.bid ∧ a.node = b.node ∧ a.copy = b.copy) (by cases a; cases b; simp)
instance : DecidableEq Seat := fun a b => decidable_of_iff (a.promised = b.promised ∧ a.kept = b.kept) (by cases a; cases b; simp)
abbrev saq25 (v : Vote) : OB := some ⟨6, [[VI v.kind, VI v.bid, VI v.node, VI v.copy.at_.time, VI v.copy.at_.who, .v (.string v.copy.data)]]⟩
abbrev saq26 (v : Vote) : LS := [(6, VI v.kind), (5, .ref 0 6 0 0), (1, .ref 0 6 0 0)]
abbrev saq27 (v : Vote) : LS := [(11, VI v.bid), (10, .ref 0 6 0 1), (4, .v (.bool false)), (1, .ref 0 6 0 0)]
abbrev saq28 (v : Vote) : LS := [(15, VI v.node), (14, .ref 0 6 0 2), (9, .v (.bool false)), (1, .ref 0 6 0 0)]
abbrev saq29 (v : Vote) : LS := [(15, VI v.node), (14, .ref 0 6 0 2), (1, .ref 0 6 0 0)]
abbrev saq30 (v : Vote) : AV := .agg [VI v.copy.at_.time, VI v.copy.at_.who, .v (.string v.copy.data)]
abbrev saq31 (v : Vote) : LS := (19, (saq30 v)) :: (18, .ref 0 6 0 3) :: (9, .v (.bool false)) :: (17, .v (.bool false)) :: (16, .v (.bool true)) :: (saq29 v)
abbrev saq32 (v : Vote) : LS := [(21, VI v.copy.checkE), (3, VI v.copy.checkE), (1, .ref 0 6 0 0)]
abbrev saq33 (v : Vote) : LS := (26, .v (.string v.copy.data)) :: (25, .ref 0 6 0 5) :: (24, .ref 0 6 0 3) :: (23, .v (.bool true)) :: (22, .v (.bool true)) :: (saq32 v)
abbrev saq34 (v : Vote) : LS := (31, VI v.kind) :: (30, .ref 0 6 0 0) :: (29, .v (.bool true)) :: (28, .v (.bool true)) :: (27, .v (.bool true)) :: (saq33 v)
theorem vcheck_fn (v : Vote) : Fn Tryd.prog 11 [.agg [VI v.kind, VI v.bid, VI v.node, VI v.copy.at_.time, VI v.copy.at_.who, .v (.string v.copy.data)]] (VI v.checkE) := by
  refine fn_walkW F11_ok (of_decide_eq_true (by kernel_rfl)) ?_
  refine EL.sreg ?_
  refine OW.last 2 [1] (x' := ⟨[(1, .ref 0 6 0 0)], [(saq25 v)]⟩) (by kernel_rfl) (by kernel_rfl) ?_
  refine EL.seq ?_
  refine EL.block ?_
  refine EL.sreg ?_
  refine OW.run 2 (x' := ⟨(saq26 v), [(saq25 v)]⟩) (by kernel_rfl) ?_
  refine OW.fn (ar := [VI v.kind, VI 1, VI 4]) (x' := ⟨(7, .v (.bool (wi v.kind 1 4))) :: (saq26 v), [(saq25 v)]⟩) (by kernel_rfl) (by kernel_rfl) F29_call (within_fn v.kind 1 4) (by kernel_rfl) (by kernel_rfl) ?_
  refine OW.last 2 [1, 4] (x' := ⟨[(4, .v (.bool (!(wi v.kind 1 4)))), (1, .ref 0 6 0 0)], [(saq25 v)]⟩) (by kernel_rfl) (by kernel_rfl) ?_
  rcases Bool.eq_false_or_eq_true (wi v.kind 1 4) with h1 | h1
  rw [h1]
  have g1 : ((1 : Int) ≤ v.kind ∧ (v.kind : Int) ≤ 4) := wi_iff.1 h1
  refine EL.condF (by kernel_rfl) ?_
  refine EL.seq ?_
  refine EL.sreg ?_
  refine OW.run 2 (x' := ⟨(saq27 v), [(saq25 v)]⟩) (by kernel_rfl) ?_
  refine OW.fn (ar := [VI v.bid]) (x' := ⟨(12, .v (.bool (wi v.bid 0 30))) :: (saq27 v), [(saq25 v)]⟩) (by kernel_rfl) (by kernel_rfl) F30_call (number_fn v.bid) (by kernel_rfl) (by kernel_rfl) ?_
  refine OW.last 2 [1, 9] (x' := ⟨[(9, .v (.bool (!(wi v.bid 0 30)))), (1, .ref 0 6 0 0)], [(saq25 v)]⟩) (by kernel_rfl) (by kernel_rfl) ?_
  rcases Bool.eq_false_or_eq_true (wi v.bid 0 30) with h2 | h2
  rw [h2]
  have g2 : ((0 : Int) ≤ v.bid ∧ (v.bid : Int) ≤ 30) := wi_iff.1 h2
  refine EL.condF (by kernel_rfl) ?_
  refine EL.reg0 ?_
  refine OW.run 2 (x' := ⟨(saq28 v), [(saq25 v)]⟩) (by kernel_rfl) ?_
  refine OW.fn (ar := [VI v.node, VI 0, VI 11]) (x' := ⟨(16, .v (.bool (wi v.node 0 11))) :: (saq28 v), [(saq25 v)]⟩) (by kernel_rfl) (by kernel_rfl) F29_call (within_fn v.node 0 11) (by kernel_rfl) (by kernel_rfl) ?_
  refine OW.end 2 (x' := ⟨(9, .v (.bool (!(wi v.node 0 11)))) :: (17, .v (.bool (!(wi v.node 0 11)))) :: (16, .v (.bool (wi v.node 0 11))) :: (saq29 v), [(saq25 v)]⟩) (by kernel_rfl) (by kernel_rfl) ?_
  refine thenL_norm ?_
  rcases Bool.eq_false_or_eq_true (wi v.node 0 11) with h3 | h3
  rw [h3]
  have g3 : ((0 : Int) ≤ v.node ∧ (v.node : Int) ≤ 11) := wi_iff.1 h3
  refine EL.condF (by kernel_rfl) ?_
  refine EL.skip ?_
  refine inBlk_norm ?_
  refine thenL_norm ?_
  refine EL.sreg ?_
  refine OW.run 2 (x' := ⟨(saq31 v), [(saq25 v)]⟩) (by kernel_rfl) ?_
  refine OW.fn (ar := [(saq30 v)]) (x' := ⟨(20, VI v.copy.checkE) :: (saq31 v), [(saq25 v)]⟩) (by kernel_rfl) (by kernel_rfl) F31_call (ccheck_fn v.copy) (by kernel_rfl) (by kernel_rfl) ?_
  refine OW.last 1 [1, 3] (x' := ⟨[(3, VI v.copy.checkE), (1, .ref 0 6 0 0)], [(saq25 v)]⟩) (by kernel_rfl) (by kernel_rfl) ?_
  refine EL.seq ?_
  refine EL.sreg ?_
  refine OW.run 3 (x' := ⟨(23, .v (.bool (v.copy.checkE == 0))) :: (22, .v (.bool (v.copy.checkE == 0))) :: (saq32 v), [(saq25 v)]⟩) (by kernel_rfl) ?_
  rcases Bool.eq_false_or_eq_true ((v.copy.checkE == 0)) with h4 | h4
  rw [h4]
  have g4 : (v.copy.checkE = 0) := by simpa using h4
  refine OW.run 6 (x' := ⟨(29, .v (.bool (!(strEq v.copy.data (⟨#[]⟩))))) :: (28, .v (.bool (!(strEq v.copy.data (⟨#[]⟩))))) :: (27, .v (.bool (!(strEq v.copy.data (⟨#[]⟩))))) :: (saq33 v), [(saq25 v)]⟩) (by kernel_rfl) ?_
  rcases Bool.eq_false_or_eq_true (strEq v.copy.data (⟨#[]⟩)) with h5 | h5
  rw [h5]
  have g5 : (v.copy.data = (⟨#[]⟩)) := strEq_iff.1 h5
  refine OW.last 9 [3, 38] (x' := ⟨[(38, .v (.bool false)), (3, VI v.copy.checkE)], [(saq25 v)]⟩) (by kernel_rfl) (by kernel_rfl) ?_
  refine EL.condF (by kernel_rfl) ?_
  refine EL.skip ?_
  refine thenL_norm ?_
  refine EL.sreg ?_
  refine OW.last 2 [2] (x' := ⟨[(2, VI v.copy.checkE)], [(saq25 v)]⟩) (by kernel_rfl) (by kernel_rfl) ?_
  refine EL.ret ?_
  refine ⟨.inr rfl, VI v.copy.checkE, by kernel_rfl, Ale.of_eq ?_⟩
  focus ((refine congrArg (fun n => VI n) ?_; (try simp only [wi_iff, ba_empty, strEq_iff] at *); simp only [Vote.checkE, ba_empty]; (repeat' split) <;> first | rfl | omega | (simp_all; done) | (simp_all; omega) | trace_state))
  rw [h5]
  have g5 : ¬ (v.copy.data = (⟨#[]⟩)) := fun hh => Bool.noConfusion ((strEq_iff.2 hh).symm.trans h5)
  refine OW.run 4 (x' := ⟨(33, .v (.bool (v.kind == 1))) :: (32, .v (.bool (v.kind == 1))) :: (saq34 v), [(saq25 v)]⟩) (by kernel_rfl) ?_
  rcases Bool.eq_false_or_eq_true ((v.kind == 1)) with h6 | h6
  rw [h6]
  have g6 : (v.kind = 1) := by simpa using h6
  refine OW.last 5 [3, 38] (x' := ⟨[(38, .v (.bool true)), (3, VI v.copy.checkE)], [(saq25 v)]⟩) (by kernel_rfl) (by kernel_rfl) ?_
  refine EL.condT (by kernel_rfl) ?_
  refine EL.reg0 ?_
  refine OW.end 1 (x' := ⟨[(3, VI 1), (38, .v (.bool true))], [(saq25 v)]⟩) (by kernel_rfl) (by kernel_rfl) ?_
  refine thenL_norm ?_
  refine EL.sreg ?_
  refine OW.last 2 [2] (x' := ⟨[(2, VI 1)], [(saq25 v)]⟩) (by kernel_rfl) (by kernel_rfl) ?_
  refine EL.ret ?_
  refine ⟨.inr rfl, VI 1, by kernel_rfl, Ale.of_eq ?_⟩
  focus ((refine congrArg (fun n => VI n) ?_; (try simp only [wi_iff, ba_empty, strEq_iff] at *); simp only [Vote.checkE, ba_empty]; (repeat' split) <;> first | rfl | omega | (simp_all; done) | (simp_all; omega) | trace_state))
  rw [h6]
  have g6 : ¬ (v.kind = 1) := by simpa using h6
  refine OW.last 5 [3, 38] (x' := ⟨[(38, .v (.bool (v.kind == 4))), (3, VI v.copy.checkE)], [(saq25 v)]⟩) (by kernel_rfl) (by kernel_rfl) ?_
  rcases Bool.eq_false_or_eq_true ((v.kind == 4)) with h7 | h7
  rw [h7]
  have g7 : (v.kind = 4) := by simpa using h7
  refine EL.condT (by kernel_rfl) ?_
  refine EL.reg0 ?_
  refine OW.end 1 (x' := ⟨[(3, VI 1), (38, .v (.bool true))], [(saq25 v)]⟩) (by kernel_rfl) (by kernel_rfl) ?_
  refine thenL_norm ?_
  refine EL.sreg ?_
  refine OW.last 2 [2] (x' := ⟨[(2, VI 1)], [(saq25 v)]⟩) (by kernel_rfl) (by kernel_rfl) ?_
  refine EL.ret ?_
  refine ⟨.inr rfl, VI 1, by kernel_rfl, Ale.of_eq ?_⟩
  focus ((refine congrArg (fun n => VI n) ?_; (try simp only [wi_iff, ba_empty, strEq_iff] at *); simp only [Vote.checkE, ba_empty]; (repeat' split) <;> first | rfl | omega | (simp_all; done) | (simp_all; omega) | trace_state))
  rw [h7]
  have g7 : ¬ (v.kind = 4) := by simpa using h7
  refine EL.condF (by kernel_rfl) ?_
  refine EL.skip ?_
  refine thenL_norm ?_
  refine EL.sreg ?_
  refine OW.last 2 [2] (x' := ⟨[(2, VI v.copy.checkE)], [(saq25 v)]⟩) (by kernel_rfl) (by kernel_rfl) ?_
  refine EL.ret ?_
  refine ⟨.inr rfl, VI v.copy.checkE, by kernel_rfl, Ale.of_eq ?_⟩
  focus ((refine congrArg (fun n => VI n) ?_; (try simp only [wi_iff, ba_empty, strEq_iff] at *); simp only [Vote.checkE, ba_empty]; (repeat' split) <;> first | rfl | omega | (simp_all; done) | (simp_all; omega) | trace_state))
  rw [h4]
  have g4 : ¬ (v.copy.checkE = 0) := by simpa using h4
  refine OW.last 15 [3, 38] (x' := ⟨[(38, .v (.bool false)), (3, VI v.copy.checkE)], [(saq25 v)]⟩) (by kernel_rfl) (by kernel_rfl) ?_
  refine EL.condF (by kernel_rfl) ?_
  refine EL.skip ?_
  refine thenL_norm ?_
  refine EL.sreg ?_
  refine OW.last 2 [2] (x' := ⟨[(2, VI v.copy.checkE)], [(saq25 v)]⟩) (by kernel_rfl) (by kernel_rfl) ?_
  refine EL.ret ?_
  refine ⟨.inr rfl, VI v.copy.checkE, by kernel_rfl, Ale.of_eq ?_⟩
  focus ((refine congrArg (fun n => VI n) ?_; (try simp only [wi_iff, ba_empty, strEq_iff] at *); simp only [Vote.checkE, ba_empty]; (repeat' split) <;> first | rfl | omega | (simp_all; done) | (simp_all; omega) | trace_state))
  rw [h3]
  have g3 : ¬ ((0 : Int) ≤ v.node ∧ (v.node : Int) ≤ 11) := fun hh => Bool.noConfusion ((wi_iff.2 hh).symm.trans h3)
  refine EL.condT (by kernel_rfl) ?_
  refine EL.sreg ?_
  refine OW.last 1 [2] (x' := ⟨[(2, VI 3)], [(saq25 v)]⟩) (by kernel_rfl) (by kernel_rfl) ?_
  refine EL.ret ?_
  refine inBlk_ret ?_
  refine thenL_ret ?_
  refine ⟨.inr rfl, VI 3, by kernel_rfl, Ale.of_eq ?_⟩
  focus ((refine congrArg (fun n => VI n) ?_; (try simp only [wi_iff, ba_empty, strEq_iff] at *); simp only [Vote.checkE, ba_empty]; (repeat' split) <;> first | rfl | omega | (simp_all; done) | (simp_all; omega) | trace_state))
  rw [h2]
  have g2 : ¬ ((0 : Int) ≤ v.bid ∧ (v.bid : Int) ≤ 30) := fun hh => Bool.noConfusion ((wi_iff.2 hh).symm.trans h2)
  refine EL.condT (by kernel_rfl) ?_
  refine EL.skip ?_
  refine thenL_norm ?_
  refine EL.condT (by kernel_rfl) ?_
  refine EL.sreg ?_
  refine OW.last 1 [2] (x' := ⟨[(2, VI 3)], [(saq25 v)]⟩) (by kernel_rfl) (by kernel_rfl) ?_
  refine EL.ret ?_
  refine inBlk_ret ?_
  refine thenL_ret ?_
  refine ⟨.inr rfl, VI 3, by kernel_rfl, Ale.of_eq ?_⟩
  focus ((refine congrArg (fun n => VI n) ?_; (try simp only [wi_iff, ba_empty, strEq_iff] at *); simp only [Vote.checkE, ba_empty]; (repeat' split) <;> first | rfl | omega | (simp_all; done) | (simp_all; omega) | trace_state))
  rw [h1]
  have g1 : ¬ ((1 : Int) ≤ v.kind ∧ (v.kind : Int) ≤ 4) := fun hh => Bool.noConfusion ((wi_iff.2 hh).symm.trans h1)
  refine EL.condT (by kernel_rfl) ?_
  refine EL.sreg ?_
  refine OW.last 1 [2] (x' := ⟨[(2, VI 7)], [(saq25 v)]⟩) (by kernel_rfl) (by kernel_rfl) ?_
  refine EL.ret ?_
  refine inBlk_ret ?_
  refine thenL_ret ?_
  refine ⟨.inr rfl, VI 7, by kernel_rfl, Ale.of_eq ?_⟩
  focus ((refine congrArg (fun n => VI n) ?_; (try simp only [wi_iff, ba_empty, strEq_iff] at *); simp only [Vote.checkE, ba_empty]; (repeat' split) <;> first | rfl | omega | (simp_all; done) | (simp_all; omega) | trace_state))
abbrev saq35 (s : Seat) : OB := some ⟨5, [[VI s.promised.time, VI s.promised.who, VI s.kept.at_.time, VI s.kept.at_.who, .v (.string s.kept.data)]]⟩
abbrev saq36 (s : Seat) : LS := [(5, .agg [VI s.promised.time, VI s.promised.who]), (4, .ref 0 5 0 0), (1, .ref 0 5 0 0)]
abbrev saq37 (s : Seat) : AV := .agg [VI s.kept.at_.time, VI s.kept.at_.who, .v (.string s.kept.data)]
abbrev saq38 (s : Seat) : LS := [(10, (saq37 s)), (9, .ref 0 5 0 2), (8, .v (.bool true)), (3, VI s.promised.checkE), (1, .ref 0 5 0 0)]
abbrev saq39 (s : Seat) : LS := [(3, VI s.kept.checkE), (11, VI s.kept.checkE), (10, (saq37 s)), (9, .ref 0 5 0 2), (8, .v (.bool true)), (1, .ref 0 5 0 0)]
abbrev saq40 (s : Seat) : LS := (19, .agg [VI s.kept.at_.time, VI s.kept.at_.who]) :: (18, .ref 0 5 0 2) :: (17, .ref 0 5 0 2) :: (16, .agg [VI s.promised.time, VI s.promised.who]) :: (15, .ref 0 5 0 0) :: (14, .v (.bool true)) :: (13, .v (.bool true)) :: (12, VI s.kept.checkE) :: (saq39 s)
abbrev saq41 (s : Seat) : LS := [(12, VI s.promised.checkE), (8, .v (.bool false)), (3, VI s.promised.checkE), (1, .ref 0 5 0 0)]
theorem secheck_fn (s : Seat) : Fn Tryd.prog 13 [.agg [VI s.promised.time, VI s.promised.who, VI s.kept.at_.time, VI s.kept.at_.who, .v (.string s.kept.data)]] (VI s.checkE) := by
  refine fn_walkW F13_ok (of_decide_eq_true (by kernel_rfl)) ?_
  refine EL.sreg ?_
  refine OW.last 2 [1] (x' := ⟨[(1, .ref 0 5 0 0)], [(saq35 s)]⟩) (by kernel_rfl) (by kernel_rfl) ?_
  refine EL.sreg ?_
  refine OW.run 2 (x' := ⟨(saq36 s), [(saq35 s)]⟩) (by kernel_rfl) ?_
  refine OW.fn (ar := [.agg [VI s.promised.time, VI s.promised.who]]) (x' := ⟨(6, VI s.promised.checkE) :: (saq36 s), [(saq35 s)]⟩) (by kernel_rfl) (by kernel_rfl) F33_call (scheck_fn s.promised) (by kernel_rfl) (by kernel_rfl) ?_
  refine OW.last 1 [1, 3] (x' := ⟨[(3, VI s.promised.checkE), (1, .ref 0 5 0 0)], [(saq35 s)]⟩) (by kernel_rfl) (by kernel_rfl) ?_
  refine EL.seq ?_
  refine EL.sreg ?_
  refine OW.last 2 [1, 3, 8] (x' := ⟨[(8, .v (.bool (s.promised.checkE == 0))), (3, VI s.promised.checkE), (1, .ref 0 5 0 0)], [(saq35 s)]⟩) (by kernel_rfl) (by kernel_rfl) ?_
  rcases Bool.eq_false_or_eq_true ((s.promised.checkE == 0)) with h1 | h1
  rw [h1]
  have g1 : (s.promised.checkE = 0) := by simpa using h1
  refine EL.condT (by kernel_rfl) ?_
  refine EL.reg0 ?_
  refine OW.run 2 (x' := ⟨(saq38 s), [(saq35 s)]⟩) (by kernel_rfl) ?_
  refine OW.fn (ar := [(saq37 s)]) (x' := ⟨(11, VI s.kept.checkE) :: (saq38 s), [(saq35 s)]⟩) (by kernel_rfl) (by kernel_rfl) F31_call (ccheck_fn s.kept) (by kernel_rfl) (by kernel_rfl) ?_
  refine OW.end 1 (x' := ⟨(saq39 s), [(saq35 s)]⟩) (by kernel_rfl) (by kernel_rfl) ?_
  refine thenL_norm ?_
  refine EL.seq ?_
  refine EL.sreg ?_
  refine OW.run 3 (x' := ⟨(14, .v (.bool (s.kept.checkE == 0))) :: (13, .v (.bool (s.kept.checkE == 0))) :: (12, VI s.kept.checkE) :: (saq39 s), [(saq35 s)]⟩) (by kernel_rfl) ?_
  rcases Bool.eq_false_or_eq_true ((s.kept.checkE == 0)) with h2 | h2
  rw [h2]
  have g2 : (s.kept.checkE = 0) := by simpa using h2
  refine OW.run 5 (x' := ⟨(saq40 s), [(saq35 s)]⟩) (by kernel_rfl) ?_
  refine OW.fn (ar := [.agg [VI s.promised.time, VI s.promised.who], .agg [VI s.kept.at_.time, VI s.kept.at_.who]]) (x' := ⟨(20, .v (.bool (decide (s.promised.lt s.kept.at_)))) :: (saq40 s), [(saq35 s)]⟩) (by kernel_rfl) (by kernel_rfl) F22_call (less_fn s.promised s.kept.at_) (by kernel_rfl) (by kernel_rfl) ?_
  refine OW.last 1 [3, 21] (x' := ⟨[(21, .v (.bool (decide (s.promised.lt s.kept.at_)))), (3, VI s.kept.checkE)], [(saq35 s)]⟩) (by kernel_rfl) (by kernel_rfl) ?_
  rcases Bool.eq_false_or_eq_true (decide (s.promised.lt s.kept.at_)) with h3 | h3
  rw [h3]
  have g3 : (s.promised.lt s.kept.at_) := of_decide_eq_true h3
  refine EL.condT (by kernel_rfl) ?_
  refine EL.reg0 ?_
  refine OW.end 1 (x' := ⟨[(3, VI 4), (21, .v (.bool true))], [(saq35 s)]⟩) (by kernel_rfl) (by kernel_rfl) ?_
  refine thenL_norm ?_
  refine EL.sreg ?_
  refine OW.last 2 [2] (x' := ⟨[(2, VI 4)], [(saq35 s)]⟩) (by kernel_rfl) (by kernel_rfl) ?_
  refine EL.ret ?_
  refine ⟨.inr rfl, VI 4, by kernel_rfl, Ale.of_eq ?_⟩
  focus ((refine congrArg (fun n => VI n) ?_; (try simp only [wi_iff, ba_empty, strEq_iff] at *); simp only [Seat.checkE, ba_empty]; (repeat' split) <;> first | rfl | omega | (simp_all; done) | (simp_all; omega) | trace_state))
  rw [h3]
  have g3 : ¬ (s.promised.lt s.kept.at_) := of_decide_eq_false h3
  refine EL.condF (by kernel_rfl) ?_
  refine EL.skip ?_
  refine thenL_norm ?_
  refine EL.sreg ?_
  refine OW.last 2 [2] (x' := ⟨[(2, VI s.kept.checkE)], [(saq35 s)]⟩) (by kernel_rfl) (by kernel_rfl) ?_
  refine EL.ret ?_
  refine ⟨.inr rfl, VI s.kept.checkE, by kernel_rfl, Ale.of_eq ?_⟩
  focus ((refine congrArg (fun n => VI n) ?_; (try simp only [wi_iff, ba_empty, strEq_iff] at *); simp only [Seat.checkE, ba_empty]; (repeat' split) <;> first | rfl | omega | (simp_all; done) | (simp_all; omega) | trace_state))
  rw [h2]
  have g2 : ¬ (s.kept.checkE = 0) := by simpa using h2
  refine OW.last 7 [3, 21] (x' := ⟨[(21, .v (.bool false)), (3, VI s.kept.checkE)], [(saq35 s)]⟩) (by kernel_rfl) (by kernel_rfl) ?_
  refine EL.condF (by kernel_rfl) ?_
  refine EL.skip ?_
  refine thenL_norm ?_
  refine EL.sreg ?_
  refine OW.last 2 [2] (x' := ⟨[(2, VI s.kept.checkE)], [(saq35 s)]⟩) (by kernel_rfl) (by kernel_rfl) ?_
  refine EL.ret ?_
  refine ⟨.inr rfl, VI s.kept.checkE, by kernel_rfl, Ale.of_eq ?_⟩
  focus ((refine congrArg (fun n => VI n) ?_; (try simp only [wi_iff, ba_empty, strEq_iff] at *); simp only [Seat.checkE, ba_empty]; (repeat' split) <;> first | rfl | omega | (simp_all; done) | (simp_all; omega) | trace_state))
  rw [h1]
  have g1 : ¬ (s.promised.checkE = 0) := by simpa using h1
  refine EL.condF (by kernel_rfl) ?_
  refine EL.skip ?_
  refine thenL_norm ?_
  refine EL.seq ?_
  refine EL.sreg ?_
  refine OW.run 3 (x' := ⟨(14, .v (.bool (s.promised.checkE == 0))) :: (13, .v (.bool (s.promised.checkE == 0))) :: (saq41 s), [(saq35 s)]⟩) (by kernel_rfl) ?_
  rw [h1]
  refine OW.last 7 [3, 21] (x' := ⟨[(21, .v (.bool false)), (3, VI s.promised.checkE)], [(saq35 s)]⟩) (by kernel_rfl) (by kernel_rfl) ?_
  refine EL.condF (by kernel_rfl) ?_
  refine EL.skip ?_
  refine thenL_norm ?_
  refine EL.sreg ?_
  refine OW.last 2 [2] (x' := ⟨[(2, VI s.promised.checkE)], [(saq35 s)]⟩) (by kernel_rfl) (by kernel_rfl) ?_
  refine EL.ret ?_
  refine ⟨.inr rfl, VI s.promised.checkE, by kernel_rfl, Ale.of_eq ?_⟩
  focus ((refine congrArg (fun n => VI n) ?_; (try simp only [wi_iff, ba_empty, strEq_iff] at *); simp only [Seat.checkE, ba_empty]; (repeat' split) <;> first | rfl | omega | (simp_all; done) | (simp_all; omega) | trace_state))
abbrev saq42 (s : Seat) (v : Vote) : LB := [(saq35 s), (saq25 v), some ⟨5, [[VI 0, VI 0, VI 0, VI 0, .v (.string (⟨#[]⟩))]]⟩]
abbrev saq43 : LS := [(4, .ref 2 5 0 0), (3, .ref 1 6 0 0), (2, .ref 0 5 0 0)]
abbrev saq44 (s : Seat) : AV := .agg [VI s.promised.time, VI s.promised.who, VI s.kept.at_.time, VI s.kept.at_.who, .v (.string s.kept.data)]
abbrev saq45 (v : Vote) : AV := .agg [VI v.kind, VI v.bid, VI v.node, VI v.copy.at_.time, VI v.copy.at_.who, .v (.string v.copy.data)]
abbrev saq46 (v : Vote) (s : Seat) : LS := (13, (saq45 v)) :: (12, .v (.bool true)) :: (7, VI s.checkE) :: saq43
abbrev saq47 (v : Vote) : LS := (7, VI v.checkE) :: (14, VI v.checkE) :: (13, (saq45 v)) :: (12, .v (.bool true)) :: saq43
abbrev saq48 (v : Vote) : LS := [(6, VI v.checkE), (5, .emp), (4, .ref 2 5 0 0)]
abbrev saq49 (v : Vote) : OB := some ⟨6, [[VI 0, VI v.bid, VI v.node, VI 0, VI 0, .v (.string (⟨#[]⟩))]]⟩
abbrev saq50 (s : Seat) (v : Vote) : LB := [(saq35 s), (saq25 v), some ⟨5, [[VI 0, VI 0, VI 0, VI 0, .v (.string (⟨#[]⟩))]]⟩, (saq49 v)]
abbrev saq51 (v : Vote) : LS := (27, VI v.kind) :: (26, .ref 1 6 0 0) :: (8, .ref 3 6 0 0) :: saq43
abbrev saq52 (v : Vote) (s : Seat) : LS := (34, .agg [VI v.copy.at_.time, VI v.copy.at_.who]) :: (33, .ref 1 6 0 3) :: (32, .ref 1 6 0 3) :: (31, .agg [VI s.promised.time, VI s.promised.who]) :: (30, .ref 0 5 0 0) :: (29, .v (.bool true)) :: (28, .v (.bool true)) :: (saq51 v)
abbrev saq53 (v : Vote) (s : Seat) : OB := some ⟨5, [[VI v.copy.at_.time, VI v.copy.at_.who, VI s.kept.at_.time, VI s.kept.at_.who, .v (.string s.kept.data)]]⟩
abbrev saq54 (v : Vote) (s : Seat) : LB := [(saq53 v s), (saq25 v), some ⟨5, [[VI 0, VI 0, VI 0, VI 0, .v (.string (⟨#[]⟩))]]⟩, (saq49 v)]
abbrev saq55 : LS := [(8, .ref 3 6 0 0), (4, .ref 2 5 0 0), (2, .ref 0 5 0 0)]
abbrev saq56 (v : Vote) (s : Seat) : OB := some ⟨6, [[VI 2, VI v.bid, VI v.node, VI s.kept.at_.time, VI s.kept.at_.who, .v (.string s.kept.data)]]⟩
abbrev saq57 (v : Vote) (s : Seat) : LB := [(saq53 v s), (saq25 v), some ⟨5, [[VI 0, VI 0, VI 0, VI 0, .v (.string (⟨#[]⟩))]]⟩, (saq56 v s)]
abbrev saq58 (s : Seat) : LS := (44, .ref 3 6 0 3) :: (43, .ref 3 6 0 0) :: (42, (saq37 s)) :: (41, .ref 0 5 0 2) :: saq55
abbrev saq59 (v : Vote) (s : Seat) : LB := [(saq53 v s), (saq25 v), (saq53 v s), (saq56 v s), (saq56 v s)]
abbrev saq60 : LS := [(6, VI 0), (5, .own 4 6 0 1), (4, .ref 2 5 0 0)]
abbrev saq61 (v : Vote) (s : Seat) : AV := .agg [VI v.copy.at_.time, VI v.copy.at_.who, VI s.kept.at_.time, VI s.kept.at_.who, .v (.string s.kept.data)]
abbrev saq62 (v : Vote) : LS := (47, VI v.kind) :: (46, .ref 1 6 0 0) :: (25, .v (.bool false)) :: (8, .ref 3 6 0 0) :: saq43
abbrev saq63 (s : Seat) (v : Vote) : LS := (54, .agg [VI s.promised.time, VI s.promised.who]) :: (53, .ref 0 5 0 0) :: (52, .agg [VI v.copy.at_.time, VI v.copy.at_.who]) :: (51, .ref 1 6 0 3) :: (50, .ref 1 6 0 3) :: (49, .v (.bool true)) :: (48, .v (.bool true)) :: (saq62 v)
abbrev saq64 (v : Vote) : OB := some ⟨5, [[VI v.copy.at_.time, VI v.copy.at_.who, VI v.copy.at_.time, VI v.copy.at_.who, .v (.string v.copy.data)]]⟩
abbrev saq65 (v : Vote) : LB := [(saq64 v), (saq25 v), some ⟨5, [[VI 0, VI 0, VI 0, VI 0, .v (.string (⟨#[]⟩))]]⟩, (saq49 v)]
abbrev saq66 (v : Vote) : OB := some ⟨6, [[VI 4, VI v.bid, VI v.node, VI v.copy.at_.time, VI v.copy.at_.who, .v (.string (⟨#[]⟩))]]⟩
abbrev saq67 (v : Vote) : LB := [(saq64 v), (saq25 v), some ⟨5, [[VI 0, VI 0, VI 0, VI 0, .v (.string (⟨#[]⟩))]]⟩, (saq66 v)]
abbrev saq68 (v : Vote) : LS := (70, .ref 3 6 0 3) :: (69, .ref 3 6 0 3) :: (68, .ref 3 6 0 0) :: (67, .agg [VI v.copy.at_.time, VI v.copy.at_.who]) :: (66, .ref 1 6 0 3) :: (65, .ref 1 6 0 3) :: (8, .ref 3 6 0 0) :: saq43
abbrev saq69 (v : Vote) : AV := .agg [VI v.copy.at_.time, VI v.copy.at_.who, VI v.copy.at_.time, VI v.copy.at_.who, .v (.string v.copy.data)]
abbrev saq70 (s : Seat) : LS := [(6, VI s.checkE), (5, .emp), (4, .ref 2 5 0 0)]
theorem serve_fn (s : Seat) (v : Vote) : Fn Tryd.prog 8 [.agg [VI s.promised.time, VI s.promised.who, VI s.kept.at_.time, VI s.kept.at_.who, .v (.string s.kept.data)], .agg [VI v.kind, VI v.bid, VI v.node, VI v.copy.at_.time, VI v.copy.at_.who, .v (.string v.copy.data)]] (.tup [.agg [VI ((((s.serveP v).1).promised).time), VI ((((s.serveP v).1).promised).who), VI (((((s.serveP v).1).kept).at_).time), VI (((((s.serveP v).1).kept).at_).who), .v (.string ((((s.serveP v).1).kept).data))], .lst 6 (((s.serveP v).2.1).map Vote.cs), VI ((s.serveP v).2.2)]) := by
  refine fn_walkW F8_ok (of_decide_eq_true (by kernel_rfl)) ?_
  refine EL.sreg ?_
  refine OW.last 5 [2, 3, 4] (x' := ⟨saq43, (saq42 s v)⟩) (by kernel_rfl) (by kernel_rfl) ?_
  refine EL.sreg ?_
  refine OW.run 1 (x' := ⟨(9, (saq44 s)) :: saq43, (saq42 s v)⟩) (by kernel_rfl) ?_
  refine OW.fn (ar := [(saq44 s)]) (x' := ⟨(10, VI s.checkE) :: (9, (saq44 s)) :: saq43, (saq42 s v)⟩) (by kernel_rfl) (by kernel_rfl) F13_call (secheck_fn s) (by kernel_rfl) (by kernel_rfl) ?_
  refine OW.last 1 [2, 3, 4, 7] (x' := ⟨(7, VI s.checkE) :: saq43, (saq42 s v)⟩) (by kernel_rfl) (by kernel_rfl) ?_
  refine EL.seq ?_
  refine EL.sreg ?_
  refine OW.last 2 [2, 3, 4, 7, 12] (x' := ⟨(12, .v (.bool (s.checkE == 0))) :: (7, VI s.checkE) :: saq43, (saq42 s v)⟩) (by kernel_rfl) (by kernel_rfl) ?_
  rcases Bool.eq_false_or_eq_true ((s.checkE == 0)) with h1 | h1
  rw [h1]
  have g1 : (s.checkE = 0) := by simpa using h1
  refine EL.condT (by kernel_rfl) ?_
  refine EL.reg0 ?_
  refine OW.run 1 (x' := ⟨(saq46 v s), (saq42 s v)⟩) (by kernel_rfl) ?_
  refine OW.fn (ar := [(saq45 v)]) (x' := ⟨(14, VI v.checkE) :: (saq46 v s), (saq42 s v)⟩) (by kernel_rfl) (by kernel_rfl) F11_call (vcheck_fn v) (by kernel_rfl) (by kernel_rfl) ?_
  refine OW.end 1 (x' := ⟨(saq47 v), (saq42 s v)⟩) (by kernel_rfl) (by kernel_rfl) ?_
  refine thenL_norm ?_
  refine EL.seq ?_
  refine EL.sreg ?_
  refine OW.last 2 [2, 3, 4, 7, 16] (x' := ⟨(16, .v (.bool (v.checkE != 0))) :: (7, VI v.checkE) :: saq43, (saq42 s v)⟩) (by kernel_rfl) (by kernel_rfl) ?_
  rcases Bool.eq_false_or_eq_true ((v.checkE != 0)) with h2 | h2
  rw [h2]
  have g2 : ¬ (v.checkE = 0) := by simpa using h2
  refine EL.condT (by kernel_rfl) ?_
  refine EL.sreg ?_
  refine OW.last 5 [4, 5, 6] (x' := ⟨(saq48 v), (saq42 s v)⟩) (by kernel_rfl) (by kernel_rfl) ?_
  refine EL.ret ?_
  refine thenL_ret ?_
  refine ⟨.inr rfl, .tup [.agg [VI 0, VI 0, VI 0, VI 0, .v (.string (⟨#[]⟩))], .emp, VI v.checkE], by kernel_rfl, Ale.trans (b := .tup [.agg [VI 0, VI 0, VI 0, VI 0, .v (.string (⟨#[]⟩))], .lst 6 [], VI v.checkE]) (Ale.tup (.cons (Ale.refl) (.cons (Ale.emp) (.cons (Ale.refl) (.nil))))) (Ale.of_eq ?_)⟩
  focus (first | rfl | (simp [Seat.serveP, Seat.zero, *]; done) | (simp_all [Seat.serveP, Seat.zero]; done) | trace_state)
  rw [h2]
  have g2 : (v.checkE = 0) := by simpa using h2
  refine EL.condF (by kernel_rfl) ?_
  refine EL.skip ?_
  refine thenL_norm ?_
  refine EL.sreg ?_
  refine OW.last 7 [2, 3, 4, 8] (x' := ⟨(8, .ref 3 6 0 0) :: saq43, (saq50 s v)⟩) (by kernel_rfl) (by kernel_rfl) ?_
  refine EL.seq ?_
  refine EL.block ?_
  refine EL.sreg ?_
  refine OW.run 4 (x' := ⟨(29, .v (.bool (v.kind == 1))) :: (28, .v (.bool (v.kind == 1))) :: (saq51 v), (saq50 s v)⟩) (by kernel_rfl) ?_
  rcases Bool.eq_false_or_eq_true ((v.kind == 1)) with h3 | h3
  rw [h3]
  have g3 : (v.kind = 1) := by simpa using h3
  refine OW.run 5 (x' := ⟨(saq52 v s), (saq50 s v)⟩) (by kernel_rfl) ?_
  refine OW.fn (ar := [.agg [VI s.promised.time, VI s.promised.who], .agg [VI v.copy.at_.time, VI v.copy.at_.who]]) (x' := ⟨(35, .v (.bool (decide (s.promised.lt v.copy.at_)))) :: (saq52 v s), (saq50 s v)⟩) (by kernel_rfl) (by kernel_rfl) F22_call (less_fn s.promised v.copy.at_) (by kernel_rfl) (by kernel_rfl) ?_
  refine OW.last 2 [2, 3, 4, 8, 25] (x' := ⟨(25, .v (.bool (decide (s.promised.lt v.copy.at_)))) :: (8, .ref 3 6 0 0) :: saq43, (saq50 s v)⟩) (by kernel_rfl) (by kernel_rfl) ?_
  rcases Bool.eq_false_or_eq_true (decide (s.promised.lt v.copy.at_)) with h4 | h4
  rw [h4]
  have g4 : (s.promised.lt v.copy.at_) := of_decide_eq_true h4
  refine EL.condT (by kernel_rfl) ?_
  refine EL.sreg ?_
  refine OW.last 5 [2, 4, 8] (x' := ⟨saq55, (saq54 v s)⟩) (by kernel_rfl) (by kernel_rfl) ?_
  refine EL.draw0 ?_
  refine DW.end 6 (x' := ⟨(saq58 s), (saq57 v s)⟩) (by kernel_rfl) (by kernel_rfl) ?_
  refine inBlk_norm ?_
  refine thenL_norm ?_
  refine EL.sdraw ?_
  refine DW.last 6 [4, 5, 6] (x' := ⟨saq60, (saq59 v s)⟩) (by kernel_rfl) (by kernel_rfl) ?_
  refine EL.ret ?_
  refine ⟨.inr rfl, .tup [(saq61 v s), .lst 6 [[VI 2, VI v.bid, VI v.node, VI s.kept.at_.time, VI s.kept.at_.who, .v (.string s.kept.data)]], VI 0], by kernel_rfl, Ale.of_eq ?_⟩
  focus (first | rfl | (simp [Seat.serveP, Seat.zero, *]; done) | (simp_all [Seat.serveP, Seat.zero]; done) | trace_state)
  rw [h4]
  have g4 : ¬ (s.promised.lt v.copy.at_) := of_decide_eq_false h4
  refine EL.condF (by kernel_rfl) ?_
  refine EL.sreg ?_
  refine OW.run 4 (x' := ⟨(49, .v (.bool (v.kind == 3))) :: (48, .v (.bool (v.kind == 3))) :: (saq62 v), (saq50 s v)⟩) (by kernel_rfl) ?_
  rcases Bool.eq_false_or_eq_true ((v.kind == 3)) with h5 | h5
  rw [h5]
  have g5 : (v.kind = 3) := by simpa using h5
  refine OW.run 5 (x' := ⟨(saq63 s v), (saq50 s v)⟩) (by kernel_rfl) ?_
  refine OW.fn (ar := [.agg [VI v.copy.at_.time, VI v.copy.at_.who], .agg [VI s.promised.time, VI s.promised.who]]) (x' := ⟨(55, .v (.bool (decide (v.copy.at_.lt s.promised)))) :: (saq63 s v), (saq50 s v)⟩) (by kernel_rfl) (by kernel_rfl) F22_call (less_fn v.copy.at_ s.promised) (by kernel_rfl) (by kernel_rfl) ?_
  refine OW.last 3 [2, 3, 4, 8, 45] (x' := ⟨(45, .v (.bool (!(decide (v.copy.at_.lt s.promised))))) :: (8, .ref 3 6 0 0) :: saq43, (saq50 s v)⟩) (by kernel_rfl) (by kernel_rfl) ?_
  rcases Bool.eq_false_or_eq_true (decide (v.copy.at_.lt s.promised)) with h6 | h6
  rw [h6]
  have g6 : (v.copy.at_.lt s.promised) := of_decide_eq_true h6
  refine EL.condF (by kernel_rfl) ?_
  refine EL.sreg ?_
  refine OW.last 4 [4, 5, 6] (x' := ⟨[(6, VI 0), (5, .emp), (4, .ref 2 5 0 0)], [(saq35 s), (saq25 v), (saq35 s), (saq49 v)]⟩) (by kernel_rfl) (by kernel_rfl) ?_
  refine EL.ret ?_
  refine inBlk_ret ?_
  refine thenL_ret ?_
  refine ⟨.inr rfl, .tup [(saq44 s), .emp, VI 0], by kernel_rfl, Ale.trans (b := .tup [(saq44 s), .lst 6 [], VI 0]) (Ale.tup (.cons (Ale.refl) (.cons (Ale.emp) (.cons (Ale.refl) (.nil))))) (Ale.of_eq ?_)⟩
  focus (first | rfl | (simp [Seat.serveP, Seat.zero, *]; done) | (simp_all [Seat.serveP, Seat.zero]; done) | trace_state)
  rw [h6]
  have g6 : ¬ (v.copy.at_.lt s.promised) := of_decide_eq_false h6
  refine EL.condT (by kernel_rfl) ?_
  refine EL.sdraw ?_
  refine DW.last 9 [2, 3, 4, 8] (x' := ⟨(8, .ref 3 6 0 0) :: saq43, (saq65 v)⟩) (by kernel_rfl) (by kernel_rfl) ?_
  refine EL.draw0 ?_
  refine DW.end 8 (x' := ⟨(saq68 v), (saq67 v)⟩) (by kernel_rfl) (by kernel_rfl) ?_
  refine inBlk_norm ?_
  refine thenL_norm ?_
  refine EL.sdraw ?_
  refine DW.last 6 [4, 5, 6] (x' := ⟨saq60, [(saq64 v), (saq25 v), (saq64 v), (saq66 v), (saq66 v)]⟩) (by kernel_rfl) (by kernel_rfl) ?_
  refine EL.ret ?_
  refine ⟨.inr rfl, .tup [(saq69 v), .lst 6 [[VI 4, VI v.bid, VI v.node, VI v.copy.at_.time, VI v.copy.at_.who, .v (.string (⟨#[]⟩))]], VI 0], by kernel_rfl, Ale.of_eq ?_⟩
  focus (first | rfl | (simp [Seat.serveP, Seat.zero, *]; done) | (simp_all [Seat.serveP, Seat.zero]; done) | trace_state)
  rw [h5]
  have g5 : ¬ (v.kind = 3) := by simpa using h5
  refine OW.last 9 [2, 3, 4, 8, 45] (x' := ⟨(45, .v (.bool false)) :: (8, .ref 3 6 0 0) :: saq43, (saq50 s v)⟩) (by kernel_rfl) (by kernel_rfl) ?_
  refine EL.condF (by kernel_rfl) ?_
  refine EL.sreg ?_
  refine OW.last 4 [4, 5, 6] (x' := ⟨[(6, VI 0), (5, .emp), (4, .ref 2 5 0 0)], [(saq35 s), (saq25 v), (saq35 s), (saq49 v)]⟩) (by kernel_rfl) (by kernel_rfl) ?_
  refine EL.ret ?_
  refine inBlk_ret ?_
  refine thenL_ret ?_
  refine ⟨.inr rfl, .tup [(saq44 s), .emp, VI 0], by kernel_rfl, Ale.trans (b := .tup [(saq44 s), .lst 6 [], VI 0]) (Ale.tup (.cons (Ale.refl) (.cons (Ale.emp) (.cons (Ale.refl) (.nil))))) (Ale.of_eq ?_)⟩
  focus (first | rfl | (simp [Seat.serveP, Seat.zero, *]; done) | (simp_all [Seat.serveP, Seat.zero]; done) | trace_state)
  rw [h3]
  have g3 : ¬ (v.kind = 1) := by simpa using h3
  refine OW.last 8 [2, 3, 4, 8, 25] (x' := ⟨(25, .v (.bool false)) :: (8, .ref 3 6 0 0) :: saq43, (saq50 s v)⟩) (by kernel_rfl) (by kernel_rfl) ?_
  refine EL.condF (by kernel_rfl) ?_
  refine EL.sreg ?_
  refine OW.run 4 (x' := ⟨(49, .v (.bool (v.kind == 3))) :: (48, .v (.bool (v.kind == 3))) :: (saq62 v), (saq50 s v)⟩) (by kernel_rfl) ?_
  rcases Bool.eq_false_or_eq_true ((v.kind == 3)) with h7 | h7
  rw [h7]
  have g7 : (v.kind = 3) := by simpa using h7
  refine OW.run 5 (x' := ⟨(saq63 s v), (saq50 s v)⟩) (by kernel_rfl) ?_
  refine OW.fn (ar := [.agg [VI v.copy.at_.time, VI v.copy.at_.who], .agg [VI s.promised.time, VI s.promised.who]]) (x' := ⟨(55, .v (.bool (decide (v.copy.at_.lt s.promised)))) :: (saq63 s v), (saq50 s v)⟩) (by kernel_rfl) (by kernel_rfl) F22_call (less_fn v.copy.at_ s.promised) (by kernel_rfl) (by kernel_rfl) ?_
  refine OW.last 3 [2, 3, 4, 8, 45] (x' := ⟨(45, .v (.bool (!(decide (v.copy.at_.lt s.promised))))) :: (8, .ref 3 6 0 0) :: saq43, (saq50 s v)⟩) (by kernel_rfl) (by kernel_rfl) ?_
  rcases Bool.eq_false_or_eq_true (decide (v.copy.at_.lt s.promised)) with h8 | h8
  rw [h8]
  have g8 : (v.copy.at_.lt s.promised) := of_decide_eq_true h8
  refine EL.condF (by kernel_rfl) ?_
  refine EL.sreg ?_
  refine OW.last 4 [4, 5, 6] (x' := ⟨[(6, VI 0), (5, .emp), (4, .ref 2 5 0 0)], [(saq35 s), (saq25 v), (saq35 s), (saq49 v)]⟩) (by kernel_rfl) (by kernel_rfl) ?_
  refine EL.ret ?_
  refine inBlk_ret ?_
  refine thenL_ret ?_
  refine ⟨.inr rfl, .tup [(saq44 s), .emp, VI 0], by kernel_rfl, Ale.trans (b := .tup [(saq44 s), .lst 6 [], VI 0]) (Ale.tup (.cons (Ale.refl) (.cons (Ale.emp) (.cons (Ale.refl) (.nil))))) (Ale.of_eq ?_)⟩
  focus (first | rfl | (simp [Seat.serveP, Seat.zero, *]; done) | (simp_all [Seat.serveP, Seat.zero]; done) | trace_state)
  rw [h8]
  have g8 : ¬ (v.copy.at_.lt s.promised) := of_decide_eq_false h8
  refine EL.condT (by kernel_rfl) ?_
  refine EL.sdraw ?_
  refine DW.last 9 [2, 3, 4, 8] (x' := ⟨(8, .ref 3 6 0 0) :: saq43, (saq65 v)⟩) (by kernel_rfl) (by kernel_rfl) ?_
  refine EL.draw0 ?_
  refine DW.end 8 (x' := ⟨(saq68 v), (saq67 v)⟩) (by kernel_rfl) (by kernel_rfl) ?_
  refine inBlk_norm ?_
  refine thenL_norm ?_
  refine EL.sdraw ?_
  refine DW.last 6 [4, 5, 6] (x' := ⟨saq60, [(saq64 v), (saq25 v), (saq64 v), (saq66 v), (saq66 v)]⟩) (by kernel_rfl) (by kernel_rfl) ?_
  refine EL.ret ?_
  refine ⟨.inr rfl, .tup [(saq69 v), .lst 6 [[VI 4, VI v.bid, VI v.node, VI v.copy.at_.time, VI v.copy.at_.who, .v (.string (⟨#[]⟩))]], VI 0], by kernel_rfl, Ale.of_eq ?_⟩
  focus (first | rfl | (simp [Seat.serveP, Seat.zero, *]; done) | (simp_all [Seat.serveP, Seat.zero]; done) | trace_state)
  rw [h7]
  have g7 : ¬ (v.kind = 3) := by simpa using h7
  refine OW.last 9 [2, 3, 4, 8, 45] (x' := ⟨(45, .v (.bool false)) :: (8, .ref 3 6 0 0) :: saq43, (saq50 s v)⟩) (by kernel_rfl) (by kernel_rfl) ?_
  refine EL.condF (by kernel_rfl) ?_
  refine EL.sreg ?_
  refine OW.last 4 [4, 5, 6] (x' := ⟨[(6, VI 0), (5, .emp), (4, .ref 2 5 0 0)], [(saq35 s), (saq25 v), (saq35 s), (saq49 v)]⟩) (by kernel_rfl) (by kernel_rfl) ?_
  refine EL.ret ?_
  refine inBlk_ret ?_
  refine thenL_ret ?_
  refine ⟨.inr rfl, .tup [(saq44 s), .emp, VI 0], by kernel_rfl, Ale.trans (b := .tup [(saq44 s), .lst 6 [], VI 0]) (Ale.tup (.cons (Ale.refl) (.cons (Ale.emp) (.cons (Ale.refl) (.nil))))) (Ale.of_eq ?_)⟩
  focus (first | rfl | (simp [Seat.serveP, Seat.zero, *]; done) | (simp_all [Seat.serveP, Seat.zero]; done) | trace_state)
  rw [h1]
  have g1 : ¬ (s.checkE = 0) := by simpa using h1
  refine EL.condF (by kernel_rfl) ?_
  refine EL.skip ?_
  refine thenL_norm ?_
  refine EL.seq ?_
  refine EL.sreg ?_
  refine OW.last 2 [2, 3, 4, 7, 16] (x' := ⟨(16, .v (.bool (s.checkE != 0))) :: (7, VI s.checkE) :: saq43, (saq42 s v)⟩) (by kernel_rfl) (by kernel_rfl) ?_
  have h9 : (s.checkE != 0) = true := (by show (!(s.checkE == 0)) = _; rw [h1]; rfl)
  rw [h9]
  refine EL.condT (by kernel_rfl) ?_
  refine EL.sreg ?_
  refine OW.last 5 [4, 5, 6] (x' := ⟨(saq70 s), (saq42 s v)⟩) (by kernel_rfl) (by kernel_rfl) ?_
  refine EL.ret ?_
  refine thenL_ret ?_
  refine ⟨.inr rfl, .tup [.agg [VI 0, VI 0, VI 0, VI 0, .v (.string (⟨#[]⟩))], .emp, VI s.checkE], by kernel_rfl, Ale.trans (b := .tup [.agg [VI 0, VI 0, VI 0, VI 0, .v (.string (⟨#[]⟩))], .lst 6 [], VI s.checkE]) (Ale.tup (.cons (Ale.refl) (.cons (Ale.emp) (.cons (Ale.refl) (.nil))))) (Ale.of_eq ?_)⟩
  focus (first | rfl | (simp [Seat.serveP, Seat.zero, *]; done) | (simp_all [Seat.serveP, Seat.zero]; done) | trace_state)
end Go.Proofs.YtejilglnpdjepaaDoor
