/- What the functions of packages stamp, copies and wire answer: stamps, copies, messages. No condition. -/
import Derived.Test.YtgepadjkegfokaaDoorPAc
import Derived.Test.YtgepadjkegfokaaDoorPAvDel
import Derived.Test.YtgepadjkegfokaaDoorPApi
import Derived.Test.YtgepadjkegfokaaDoorPAvTab
set_option maxRecDepth 100000
set_option maxHeartbeats 4000000
set_option linter.unusedVariables false
set_option linter.unusedSimpArgs false
namespace Go.Proofs.YtgepadjkegfokaaDoor
def Stamp.lt (a b : Stamp) : Prop := a.time < b.time ∨ a.time = b.time ∧ a.who < b.who
instance (a b : Stamp) : Decidable (Stamp.lt a b) := by unfold Stamp.lt; exact inferInstance
def Stamp.okS (s : Stamp) : Prop := 0 ≤ s.time ∧ s.time ≤ 1000000 ∧ 0 ≤ s.who ∧ s.who ≤ 31
instance (s : Stamp) : Decidable s.okS := by unfold Stamp.okS; exact inferInstance
def Stamp.checkE (s : Stamp) : Int := if s.okS then 0 else 3
def Copy.checkE (c : Copy) : Int := if c.at_.okS then (if c.data.size > 64 then 2 else 0) else 3
def cmpP (a b : Int) : Int := if a < b then -1 else if a > b then 1 else 0
def Stamp.cmp (a b : Stamp) : Int := if a.time < b.time then -1 else if a.time > b.time then 1 else cmpP a.who b.who
theorem Stamp.cmp_lt {a b : Stamp} : a.cmp b < 0 ↔ a.lt b := by
  unfold Stamp.cmp cmpP Stamp.lt; (repeat' split) <;> omega
abbrev Stamp.cs (x : Stamp) : List AV := [VI x.time, VI x.who]
abbrev Copy.cs (x : Copy) : List AV := [VI x.at_.time, VI x.at_.who, .v (.string x.data)]
abbrev Msg.cs (x : Msg) : List AV := [VI x.kind, VI x.op, VI x.node, VI x.copy.at_.time, VI x.copy.at_.who, .v (.string x.copy.data)]
abbrev Ask.cs (x : Ask) : List AV := [VI x.op, VI x.kind, VI x.phase, .v (.string x.data), VI x.best.at_.time, VI x.best.at_.who, .v (.string x.best.data), .v (.int .u64 (x.heard.n : Int))]
theorem who_fn (n : Int) : Fn Tryd.prog 57 [VI n] (.v (.bool (wi n 0 31))) := by
  refine fn_walkW F57_ok (of_decide_eq_true (by kernel_rfl)) ?_
  refine EL.sreg ?_
  refine OW.last 1 [0] (x' := ⟨[(0, VI n)], []⟩) (by kernel_rfl) (by kernel_rfl) ?_
  refine EL.sreg ?_
  refine OW.run 3 (x' := ⟨[(5, .v (.bool (decide (n ≥ 0)))), (4, .v (.bool (decide (n ≥ 0)))), (3, VI n), (0, VI n)], []⟩) (by kernel_rfl) ?_
  rcases Bool.eq_false_or_eq_true (decide (n ≥ 0)) with h1 | h1
  rw [h1]
  have g1 : (n ≥ 0) := of_decide_eq_true h1
  refine OW.last 4 [2] (x' := ⟨[(2, .v (.bool (decide (n ≤ 31))))], []⟩) (by kernel_rfl) (by kernel_rfl) ?_
  refine EL.ret ?_
  refine ⟨.inr rfl, .v (.bool (decide (n ≤ 31))), by kernel_rfl, Ale.of_eq ?_⟩
  focus (first | rfl | (refine congrArg (fun b => AV.v (Value.bool b)) ?_; first | rfl | (rw [Bool.eq_iff_iff]; simp [wi]; done) | (rw [Bool.eq_iff_iff]; simp [wi]; omega)))
  rw [h1]
  have g1 : ¬ (n ≥ 0) := of_decide_eq_false h1
  refine OW.last 4 [2] (x' := ⟨[(2, .v (.bool false))], []⟩) (by kernel_rfl) (by kernel_rfl) ?_
  refine EL.ret ?_
  refine ⟨.inr rfl, .v (.bool false), by kernel_rfl, Ale.of_eq ?_⟩
  focus (first | rfl | (refine congrArg (fun b => AV.v (Value.bool b)) ?_; first | rfl | (rw [Bool.eq_iff_iff]; simp [wi]; done) | (rw [Bool.eq_iff_iff]; simp [wi]; omega)))
theorem nan_fn (n : Int) : Fn Tryd.prog 58 [VI n] (.v (.bool false)) := by
  refine fn_walkW F58_ok (of_decide_eq_true (by kernel_rfl)) ?_
  refine EL.sreg ?_
  refine OW.last 1 [0] (x' := ⟨[(0, VI n)], []⟩) (by kernel_rfl) (by kernel_rfl) ?_
  refine EL.sreg ?_
  refine OW.last 4 [2] (x' := ⟨[(2, .v (.bool (n != n)))], []⟩) (by kernel_rfl) (by kernel_rfl) ?_
  refine EL.ret ?_
  refine ⟨.inr rfl, .v (.bool (n != n)), by kernel_rfl, Ale.of_eq ?_⟩
  focus (first | rfl | (simp; done) | trace_state)
abbrev aaq0 (a : Int) (b : Int) : LS := [(8, .v (.bool false)), (7, VI a), (0, VI a), (1, VI b)]
abbrev aaq1 (b : Int) (a : Int) : LS := [(9, VI b), (5, .v (.bool false)), (0, VI a), (1, VI b)]
abbrev aaq2 (a : Int) (b : Int) : LS := [(6, .v (.bool false)), (5, .v (.bool false)), (0, VI a), (1, VI b)]
abbrev aaq3 (a : Int) (b : Int) : LS := [(11, .v (.bool false)), (6, .v (.bool false)), (0, VI a), (1, VI b)]
abbrev aaq4 (a : Int) (b : Int) : LS := [(13, .v (.bool false)), (0, VI a), (1, VI b)]
theorem cmp_fn (a : Int) (b : Int) : Fn Tryd.prog 54 [VI a, VI b] (VI (cmpP a b)) := by
  refine fn_walkW F54_ok (of_decide_eq_true (by kernel_rfl)) ?_
  refine EL.sreg ?_
  refine OW.last 1 [0, 1] (x' := ⟨[(0, VI a), (1, VI b)], []⟩) (by kernel_rfl) (by kernel_rfl) ?_
  refine EL.sreg ?_
  refine OW.run 1 (x' := ⟨[(7, VI a), (0, VI a), (1, VI b)], []⟩) (by kernel_rfl) ?_
  refine OW.fn (ar := [VI a]) (x' := ⟨(aaq0 a b), []⟩) (by kernel_rfl) (by kernel_rfl) F58_call (nan_fn a) (by kernel_rfl) (by kernel_rfl) ?_
  refine OW.last 1 [0, 1, 5] (x' := ⟨[(5, .v (.bool false)), (0, VI a), (1, VI b)], []⟩) (by kernel_rfl) (by kernel_rfl) ?_
  refine EL.sreg ?_
  refine OW.run 1 (x' := ⟨(aaq1 b a), []⟩) (by kernel_rfl) ?_
  refine OW.fn (ar := [VI b]) (x' := ⟨(10, .v (.bool false)) :: (aaq1 b a), []⟩) (by kernel_rfl) (by kernel_rfl) F58_call (nan_fn b) (by kernel_rfl) (by kernel_rfl) ?_
  refine OW.last 1 [0, 1, 5, 6] (x' := ⟨(aaq2 a b), []⟩) (by kernel_rfl) (by kernel_rfl) ?_
  refine EL.seq ?_
  refine EL.sreg ?_
  refine OW.last 1 [0, 1, 6, 11] (x' := ⟨(aaq3 a b), []⟩) (by kernel_rfl) (by kernel_rfl) ?_
  refine EL.condF (by kernel_rfl) ?_
  refine EL.skip ?_
  refine thenL_norm ?_
  refine EL.seq ?_
  refine EL.sreg ?_
  refine OW.last 1 [0, 1, 13] (x' := ⟨(aaq4 a b), []⟩) (by kernel_rfl) (by kernel_rfl) ?_
  refine EL.condF (by kernel_rfl) ?_
  refine EL.skip ?_
  refine thenL_norm ?_
  refine EL.seq ?_
  refine EL.sreg ?_
  refine OW.last 3 [0, 1, 16] (x' := ⟨[(16, .v (.bool (decide (a < b)))), (0, VI a), (1, VI b)], []⟩) (by kernel_rfl) (by kernel_rfl) ?_
  rcases Bool.eq_false_or_eq_true (decide (a < b)) with h1 | h1
  rw [h1]
  have g1 : (a < b) := of_decide_eq_true h1
  refine EL.condT (by kernel_rfl) ?_
  refine EL.sreg ?_
  refine OW.last 1 [4] (x' := ⟨[(4, VI (-1))], []⟩) (by kernel_rfl) (by kernel_rfl) ?_
  refine EL.ret ?_
  refine thenL_ret ?_
  refine ⟨.inr rfl, VI (-1), by kernel_rfl, Ale.of_eq ?_⟩
  focus ((refine congrArg (fun n => VI n) ?_; (try simp only [wi_iff, wi_iffF] at *); simp only [cmpP]; (repeat' split) <;> first | omega | (simp_all; done) | (simp_all; omega) | trace_state))
  rw [h1]
  have g1 : ¬ (a < b) := of_decide_eq_false h1
  refine EL.condF (by kernel_rfl) ?_
  refine EL.skip ?_
  refine thenL_norm ?_
  refine EL.seq ?_
  refine EL.sreg ?_
  refine OW.last 3 [19] (x' := ⟨[(19, .v (.bool (decide (a > b))))], []⟩) (by kernel_rfl) (by kernel_rfl) ?_
  rcases Bool.eq_false_or_eq_true (decide (a > b)) with h2 | h2
  rw [h2]
  have g2 : (a > b) := of_decide_eq_true h2
  refine EL.condT (by kernel_rfl) ?_
  refine EL.sreg ?_
  refine OW.last 1 [4] (x' := ⟨[(4, VI 1)], []⟩) (by kernel_rfl) (by kernel_rfl) ?_
  refine EL.ret ?_
  refine thenL_ret ?_
  refine ⟨.inr rfl, VI 1, by kernel_rfl, Ale.of_eq ?_⟩
  focus ((refine congrArg (fun n => VI n) ?_; (try simp only [wi_iff, wi_iffF] at *); simp only [cmpP]; (repeat' split) <;> first | omega | (simp_all; done) | (simp_all; omega) | trace_state))
  rw [h2]
  have g2 : ¬ (a > b) := of_decide_eq_false h2
  refine EL.condF (by kernel_rfl) ?_
  refine EL.skip ?_
  refine thenL_norm ?_
  refine EL.sreg ?_
  refine OW.last 1 [4] (x' := ⟨[(4, VI 0)], []⟩) (by kernel_rfl) (by kernel_rfl) ?_
  refine EL.ret ?_
  refine ⟨.inr rfl, VI 0, by kernel_rfl, Ale.of_eq ?_⟩
  focus ((refine congrArg (fun n => VI n) ?_; (try simp only [wi_iff, wi_iffF] at *); simp only [cmpP]; (repeat' split) <;> first | omega | (simp_all; done) | (simp_all; omega) | trace_state))
abbrev aaq5 (l : List Int) : LS := [(6, .lst 1 (l.map cI)), (3, VI 0), (0, .lst 1 (l.map cI))]
abbrev aaq6 (l : List Int) : LS := [(8, VI 0), (7, VI (List.length l : Int)), (6, .lst 1 (l.map cI)), (3, VI 0)]
abbrev aaq7 (l : List Int) (k : Nat) : LS := [(3, VI 0), (6, .lst 1 (l.map cI)), (7, VI (List.length l : Int)), (8, VI (k : Int))]
abbrev aaq8 (a3 : Int) (l : List Int) (k : Nat) : LS := (10, .pim [VI a3] 0) :: (9, .v (.bool true)) :: (aaq7 l k)
abbrev aaq9 (a3 : Int) (l : List Int) : LS := [(14, .v (.bool false)), (5, VI a3), (3, VI 0), (6, .lst 1 (l.map cI)), (7, VI (List.length l : Int))]
abbrev aaq10 (k : Nat) (a3 : Int) (l : List Int) : LS := (8, VI ((k : Int) + 1)) :: (16, VI ((k : Int) + 1)) :: (aaq9 a3 l)
theorem or_fn (l : List Int) (hx : l.length ≤ 9223372036854775807) : Fn Tryd.prog 53 [.lst 1 (l.map cI)] (VI ((List.find? (fun n => n != 0) l).getD 0)) := by
  refine fn_walkW F53_ok (of_decide_eq_true (by kernel_rfl)) ?_
  refine EL.sreg ?_
  refine OW.last 1 [0] (x' := ⟨[(0, .lst 1 (l.map cI))], []⟩) (by kernel_rfl) (by kernel_rfl) ?_
  refine EL.sreg ?_
  refine OW.last 1 [0, 3] (x' := ⟨[(3, VI 0), (0, .lst 1 (l.map cI))], []⟩) (by kernel_rfl) (by kernel_rfl) ?_
  refine EL.seq ?_
  refine EL.sreg ?_
  refine OW.run 1 (x' := ⟨(aaq5 l), []⟩) (by kernel_rfl) ?_
  refine OW.ope (v := VI (List.length l : Int)) (u := []) (acc := []) (x' := ⟨(7, VI (List.length l : Int)) :: (aaq5 l), []⟩) (by kernel_rfl) (opE_len cI l (.s 6) 1 (by kernel_rfl) (by kernel_rfl) (.inl rfl)) (by kernel_rfl) ?_
  refine OW.last 1 [3, 6, 7, 8] (x' := ⟨(aaq6 l), []⟩) (by kernel_rfl) (by kernel_rfl) ?_
  refine EL.block ?_
  refine EL.loopN (fun mM xX => ∃ (k : Nat), mM = l.length - k ∧ (k ≤ l.length ∧ (List.find? (fun n => n != 0) l).getD 0 = (List.find? (fun n => n != 0) (l.drop k)).getD 0) ∧ xX = ⟨(aaq7 l k), []⟩) (y := (fun (k : Nat) => (⟨(aaq7 l k), []⟩ : L3)) 0) [3, 6, 7, 8] [] [] (by kernel_rfl) trivial ⟨0, rfl, by simp, rfl⟩ ?_
  rintro _ _ ⟨k, rfl, hI1, rfl⟩
  obtain ⟨hk, hs⟩ := hI1
  refine EL.sreg ?_
  refine OW.last 1 [3, 6, 7, 8, 9] (x' := ⟨(9, .v (.bool (decide ((k : Int) < (List.length l : Int))))) :: (aaq7 l k), []⟩) (by kernel_rfl) (by kernel_rfl) ?_
  refine EL.seq ?_
  rcases Bool.eq_false_or_eq_true (decide ((k : Int) < (List.length l : Int))) with h2 | h2
  rw [h2]
  have g2 : ((k : Int) < (List.length l : Int)) := of_decide_eq_true h2
  have n2 : ((k) < (List.length l)) := by omega
  refine EL.condT (by kernel_rfl) ?_
  refine EL.skip ?_
  refine thenL_norm ?_
  refine EL.seq ?_
  refine EL.block ?_
  refine EL.sreg ?_
  obtain ⟨a3, ha3⟩ : ∃ y, l[((k : Int) : Int).toNat]? = some y := idx_ex ⟨by omega, by omega⟩
  have iha3 : l[k]? = some a3 := by simpa using ha3
  have dha3 := drop_get iha3
  refine OW.ope (v := .pim [VI a3] 0) (u := []) (acc := []) (x' := ⟨(aaq8 a3 l k), []⟩) (by kernel_rfl) (opE_iad cI l (.s 6) (.s 8) 1 .i64 (k : Int) a3 (by kernel_rfl) (by kernel_rfl) (.inl rfl) rfl (by omega) ha3) (by kernel_rfl) ?_
  refine OW.last 2 [3, 5, 6, 7, 8] (x' := ⟨(5, VI a3) :: (aaq7 l k), []⟩) (by kernel_rfl) (by kernel_rfl) ?_
  refine EL.sreg ?_
  refine OW.last 3 [3, 5, 6, 7, 8, 14] (x' := ⟨(14, .v (.bool (a3 != 0))) :: (5, VI a3) :: (aaq7 l k), []⟩) (by kernel_rfl) (by kernel_rfl) ?_
  rcases Bool.eq_false_or_eq_true ((a3 != 0)) with h4 | h4
  rw [h4]
  have g4 : ¬ (a3 = 0) := by simpa using h4
  refine EL.condT (by kernel_rfl) ?_
  refine EL.sreg ?_
  refine OW.last 2 [2] (x' := ⟨[(2, VI a3)], []⟩) (by kernel_rfl) (by kernel_rfl) ?_
  refine EL.ret ?_
  refine inBlk_ret ?_
  refine thenL_ret ?_
  refine thenL_ret ?_
  refine inBlk_ret ?_
  refine thenL_ret ?_
  refine ⟨.inr rfl, VI a3, by kernel_rfl, Ale.of_eq ?_⟩
  focus ((refine congrArg (fun n => VI n) ?_; rw [hs]; first | (rw [List.drop_eq_nil_of_le (by omega)]; rfl) | (simp [List.find?, *]; done) | trace_state))
  rw [h4]
  have g4 : (a3 = 0) := by simpa using h4
  refine EL.condF (by kernel_rfl) ?_
  refine EL.skip ?_
  refine inBlk_norm ?_
  refine thenL_norm ?_
  refine EL.reg0 ?_
  refine OW.run 2 (x' := ⟨(8, VI (IntKind.i64.wrap ((k : Int) + 1))) :: (16, VI (IntKind.i64.wrap ((k : Int) + 1))) :: (aaq9 a3 l), []⟩) (by kernel_rfl) ?_
  have e5 : IntKind.i64.wrap ((k : Int) + 1) = (k : Int) + 1 := wr64 (by omega)
  rw [e5]
  refine OW.end 0 (x' := ⟨(aaq10 k a3 l), []⟩) (by kernel_rfl) (by kernel_rfl) ?_
  refine thenL_norm ?_
  refine round_end (live := [3, 6, 7, 8]) (src := []) (es := []) (y := (fun (k : Nat) => (⟨(aaq7 l k), []⟩ : L3)) (k + 1)) ?_ trivial ?_ ⟨(k + 1), rfl, ?_, rfl⟩
  kernel_rfl
  omega
  focus (refine ⟨by omega, ?_⟩; rw [hs]; simp [List.find?, *])
  rw [h2]
  have g2 : ¬ ((k : Int) < (List.length l : Int)) := of_decide_eq_false h2
  have n2 : ¬ ((k) < (List.length l)) := by omega
  refine EL.condF (by kernel_rfl) ?_
  refine EL.exit ?_
  refine thenL_exit ?_
  refine thenL_exit ?_
  refine inBlk_hit ?_
  refine thenL_norm ?_
  refine EL.sreg ?_
  refine OW.last 2 [2] (x' := ⟨[(2, VI 0)], []⟩) (by kernel_rfl) (by kernel_rfl) ?_
  refine EL.ret ?_
  refine ⟨.inr rfl, VI 0, by kernel_rfl, Ale.of_eq ?_⟩
  focus ((refine congrArg (fun n => VI n) ?_; rw [hs]; first | (rw [List.drop_eq_nil_of_le (by omega)]; rfl) | (simp [List.find?, *]; done) | trace_state))
abbrev aaq11 (a : Stamp) (b : Stamp) : LB := [some ⟨2, [[VI a.time, VI a.who]]⟩, some ⟨2, [[VI b.time, VI b.who]]⟩]
abbrev aaq12 (b : Stamp) (a : Stamp) : LS := [(8, VI b.time), (7, .ref 1 2 0 0), (6, VI a.time), (5, .ref 0 2 0 0), (3, .ref 1 2 0 0), (2, .ref 0 2 0 0)]
abbrev aaq13 (b : Stamp) (a : Stamp) : LS := (13, VI b.who) :: (12, .ref 1 2 0 1) :: (11, VI a.who) :: (10, .ref 0 2 0 1) :: (9, VI (cmpP a.time b.time)) :: (aaq12 b a)
abbrev aaq14 (a : Stamp) (b : Stamp) : OB := some ⟨1, [[VI (cmpP a.time b.time)], [VI (cmpP a.who b.who)]]⟩
abbrev aaq15 (a : Stamp) (b : Stamp) : LB := [some ⟨2, [[VI a.time, VI a.who]]⟩, some ⟨2, [[VI b.time, VI b.who]]⟩, (aaq14 a b)]
abbrev aaq16 (a : Stamp) (b : Stamp) : LS := (15, .own 2 1 0 2) :: (14, VI (cmpP a.who b.who)) :: (aaq13 b a)
theorem compare_fn (a : Stamp) (b : Stamp) : Fn Tryd.prog 40 [.agg [VI a.time, VI a.who], .agg [VI b.time, VI b.who]] (VI (a.cmp b)) := by
  refine fn_walkW F40_ok (of_decide_eq_true (by kernel_rfl)) ?_
  refine EL.sreg ?_
  refine OW.last 3 [2, 3] (x' := ⟨[(3, .ref 1 2 0 0), (2, .ref 0 2 0 0)], (aaq11 a b)⟩) (by kernel_rfl) (by kernel_rfl) ?_
  refine EL.sdraw ?_
  refine DW.run 4 (x' := ⟨(aaq12 b a), (aaq11 a b)⟩) (by kernel_rfl) ?_
  refine DW.fn (ar := [VI a.time, VI b.time]) (x' := ⟨(9, VI (cmpP a.time b.time)) :: (aaq12 b a), (aaq11 a b)⟩) (by kernel_rfl) (by kernel_rfl) F54_call (cmp_fn a.time b.time) (by kernel_rfl) (by kernel_rfl) ?_
  refine DW.run 4 (x' := ⟨(aaq13 b a), (aaq11 a b)⟩) (by kernel_rfl) ?_
  refine DW.fn (ar := [VI a.who, VI b.who]) (x' := ⟨(14, VI (cmpP a.who b.who)) :: (aaq13 b a), (aaq11 a b)⟩) (by kernel_rfl) (by kernel_rfl) F54_call (cmp_fn a.who b.who) (by kernel_rfl) (by kernel_rfl) ?_
  refine DW.run 1 (x' := ⟨(aaq16 a b), (aaq15 a b)⟩) (by kernel_rfl) ?_
  refine DW.fn (ar := [.own 2 1 0 2]) (x' := ⟨(16, VI ((List.find? (fun n => n != 0) ([cmpP a.time b.time, cmpP a.who b.who])).getD 0)) :: (aaq16 a b), (aaq15 a b)⟩) (by kernel_rfl) (by kernel_rfl) F53_call (or_fn ([cmpP a.time b.time, cmpP a.who b.who]) (by first | omega | (simp; done))) (by kernel_rfl) (by kernel_rfl) ?_
  refine DW.last 1 [4] (x' := ⟨[(4, VI ((List.find? (fun n => n != 0) ([cmpP a.time b.time, cmpP a.who b.who])).getD 0))], (aaq15 a b)⟩) (by kernel_rfl) (by kernel_rfl) ?_
  refine EL.ret ?_
  refine ⟨.inr rfl, VI ((List.find? (fun n => n != 0) ([cmpP a.time b.time, cmpP a.who b.who])).getD 0), by kernel_rfl, Ale.of_eq ?_⟩
  focus ((refine congrArg (fun n => VI n) ?_; simp only [Stamp.cmp, cmpP]; (repeat' split) <;> first | rfl | (exfalso; omega) | (simp [List.find?]; done) | (simp_all [List.find?]; done) | trace_state))
abbrev aaq17 (b : Stamp) (a : Stamp) : LS := [(6, .agg [VI b.time, VI b.who]), (5, .agg [VI a.time, VI a.who]), (3, .ref 1 2 0 0), (2, .ref 0 2 0 0)]
theorem less_fn (a : Stamp) (b : Stamp) : Fn Tryd.prog 18 [.agg [VI a.time, VI a.who], .agg [VI b.time, VI b.who]] (.v (.bool (decide (a.lt b)))) := by
  refine fn_walkW F18_ok (of_decide_eq_true (by kernel_rfl)) ?_
  refine EL.sreg ?_
  refine OW.last 3 [2, 3] (x' := ⟨[(3, .ref 1 2 0 0), (2, .ref 0 2 0 0)], (aaq11 a b)⟩) (by kernel_rfl) (by kernel_rfl) ?_
  refine EL.sreg ?_
  refine OW.run 2 (x' := ⟨(aaq17 b a), (aaq11 a b)⟩) (by kernel_rfl) ?_
  refine OW.fn (ar := [.agg [VI a.time, VI a.who], .agg [VI b.time, VI b.who]]) (x' := ⟨(7, VI (a.cmp b)) :: (aaq17 b a), (aaq11 a b)⟩) (by kernel_rfl) (by kernel_rfl) F40_call (compare_fn a b) (by kernel_rfl) (by kernel_rfl) ?_
  refine OW.last 2 [4] (x' := ⟨[(4, .v (.bool (decide ((a.cmp b) < 0))))], (aaq11 a b)⟩) (by kernel_rfl) (by kernel_rfl) ?_
  refine EL.ret ?_
  refine ⟨.inr rfl, .v (.bool (decide ((a.cmp b) < 0))), by kernel_rfl, Ale.of_eq ?_⟩
  focus ((refine congrArg (fun b => AV.v (Value.bool b)) ?_; rw [decide_eq_decide]; exact Stamp.cmp_lt))
abbrev aaq18 (s : Stamp) : LS := [(4, VI s.time), (3, .ref 0 2 0 0), (1, .ref 0 2 0 0)]
abbrev aaq19 (s : Stamp) : LS := (8, VI s.time) :: (7, .ref 0 2 0 0) :: (6, .v (.bool false)) :: (5, .v (.bool false)) :: (aaq18 s)
abbrev aaq20 (s : Stamp) : LS := (13, VI s.who) :: (12, .ref 0 2 0 1) :: (11, .v (.bool false)) :: (10, .v (.bool false)) :: (9, .v (.bool false)) :: (aaq19 s)
theorem scheck_fn (s : Stamp) : Fn Tryd.prog 50 [.agg [VI s.time, VI s.who]] (VI s.checkE) := by
  refine fn_walkW F50_ok (of_decide_eq_true (by kernel_rfl)) ?_
  refine EL.sreg ?_
  refine OW.last 2 [1] (x' := ⟨[(1, .ref 0 2 0 0)], [some ⟨2, [[VI s.time, VI s.who]]⟩]⟩) (by kernel_rfl) (by kernel_rfl) ?_
  refine EL.seq ?_
  refine EL.sreg ?_
  refine OW.run 4 (x' := ⟨(6, .v (.bool (decide (s.time < 0)))) :: (5, .v (.bool (decide (s.time < 0)))) :: (aaq18 s), [some ⟨2, [[VI s.time, VI s.who]]⟩]⟩) (by kernel_rfl) ?_
  rcases Bool.eq_false_or_eq_true (decide (s.time < 0)) with h1 | h1
  rw [h1]
  have g1 : (s.time < 0) := of_decide_eq_true h1
  refine OW.last 10 [16] (x' := ⟨[(16, .v (.bool true))], [some ⟨2, [[VI s.time, VI s.who]]⟩]⟩) (by kernel_rfl) (by kernel_rfl) ?_
  refine EL.condT (by kernel_rfl) ?_
  refine EL.sreg ?_
  refine OW.last 1 [2] (x' := ⟨[(2, VI 3)], [some ⟨2, [[VI s.time, VI s.who]]⟩]⟩) (by kernel_rfl) (by kernel_rfl) ?_
  refine EL.ret ?_
  refine thenL_ret ?_
  refine ⟨.inr rfl, VI 3, by kernel_rfl, Ale.of_eq ?_⟩
  focus ((refine congrArg (fun n => VI n) ?_; (try simp only [wi_iff, wi_iffF] at *); simp only [Stamp.checkE, Stamp.okS]; (repeat' split) <;> first | omega | (simp_all; done) | (simp_all; omega) | trace_state))
  rw [h1]
  have g1 : ¬ (s.time < 0) := of_decide_eq_false h1
  refine OW.run 5 (x' := ⟨(11, .v (.bool (decide (s.time > 1000000)))) :: (10, .v (.bool (decide (s.time > 1000000)))) :: (9, .v (.bool (decide (s.time > 1000000)))) :: (aaq19 s), [some ⟨2, [[VI s.time, VI s.who]]⟩]⟩) (by kernel_rfl) ?_
  rcases Bool.eq_false_or_eq_true (decide (s.time > 1000000)) with h2 | h2
  rw [h2]
  have g2 : (s.time > 1000000) := of_decide_eq_true h2
  refine OW.last 5 [16] (x' := ⟨[(16, .v (.bool true))], [some ⟨2, [[VI s.time, VI s.who]]⟩]⟩) (by kernel_rfl) (by kernel_rfl) ?_
  refine EL.condT (by kernel_rfl) ?_
  refine EL.sreg ?_
  refine OW.last 1 [2] (x' := ⟨[(2, VI 3)], [some ⟨2, [[VI s.time, VI s.who]]⟩]⟩) (by kernel_rfl) (by kernel_rfl) ?_
  refine EL.ret ?_
  refine thenL_ret ?_
  refine ⟨.inr rfl, VI 3, by kernel_rfl, Ale.of_eq ?_⟩
  focus ((refine congrArg (fun n => VI n) ?_; (try simp only [wi_iff, wi_iffF] at *); simp only [Stamp.checkE, Stamp.okS]; (repeat' split) <;> first | omega | (simp_all; done) | (simp_all; omega) | trace_state))
  rw [h2]
  have g2 : ¬ (s.time > 1000000) := of_decide_eq_false h2
  refine OW.run 2 (x' := ⟨(aaq20 s), [some ⟨2, [[VI s.time, VI s.who]]⟩]⟩) (by kernel_rfl) ?_
  refine OW.fn (ar := [VI s.who]) (x' := ⟨(14, .v (.bool (wi s.who 0 31))) :: (aaq20 s), [some ⟨2, [[VI s.time, VI s.who]]⟩]⟩) (by kernel_rfl) (by kernel_rfl) F57_call (who_fn s.who) (by kernel_rfl) (by kernel_rfl) ?_
  refine OW.last 2 [16] (x' := ⟨[(16, .v (.bool (!(wi s.who 0 31))))], [some ⟨2, [[VI s.time, VI s.who]]⟩]⟩) (by kernel_rfl) (by kernel_rfl) ?_
  rcases Bool.eq_false_or_eq_true (wi s.who 0 31) with h3 | h3
  rw [h3]
  have g3 : ((0 : Int) ≤ s.who ∧ (s.who : Int) ≤ 31) := wi_iff.1 h3
  refine EL.condF (by kernel_rfl) ?_
  refine EL.skip ?_
  refine thenL_norm ?_
  refine EL.sreg ?_
  refine OW.last 1 [2] (x' := ⟨[(2, VI 0)], [some ⟨2, [[VI s.time, VI s.who]]⟩]⟩) (by kernel_rfl) (by kernel_rfl) ?_
  refine EL.ret ?_
  refine ⟨.inr rfl, VI 0, by kernel_rfl, Ale.of_eq ?_⟩
  focus ((refine congrArg (fun n => VI n) ?_; (try simp only [wi_iff, wi_iffF] at *); simp only [Stamp.checkE, Stamp.okS]; (repeat' split) <;> first | omega | (simp_all; done) | (simp_all; omega) | trace_state))
  rw [h3]
  have g3 : ¬ ((0 : Int) ≤ s.who ∧ (s.who : Int) ≤ 31) := fun hh => Bool.noConfusion ((wi_iff.2 hh).symm.trans h3)
  refine EL.condT (by kernel_rfl) ?_
  refine EL.sreg ?_
  refine OW.last 1 [2] (x' := ⟨[(2, VI 3)], [some ⟨2, [[VI s.time, VI s.who]]⟩]⟩) (by kernel_rfl) (by kernel_rfl) ?_
  refine EL.ret ?_
  refine thenL_ret ?_
  refine ⟨.inr rfl, VI 3, by kernel_rfl, Ale.of_eq ?_⟩
  focus ((refine congrArg (fun n => VI n) ?_; (try simp only [wi_iff, wi_iffF] at *); simp only [Stamp.checkE, Stamp.okS]; (repeat' split) <;> first | omega | (simp_all; done) | (simp_all; omega) | trace_state))
abbrev aaq21 (c : Copy) : OB := some ⟨3, [[VI c.at_.time, VI c.at_.who, .v (.string c.data)]]⟩
abbrev aaq22 (c : Copy) : LS := [(5, .agg [VI c.at_.time, VI c.at_.who]), (4, .ref 0 3 0 0), (1, .ref 0 3 0 0)]
abbrev aaq23 (c : Copy) : LS := [(7, VI c.at_.checkE), (3, VI c.at_.checkE), (1, .ref 0 3 0 0)]
theorem ccheck_fn (c : Copy) : Fn Tryd.prog 34 [.agg [VI c.at_.time, VI c.at_.who, .v (.string c.data)]] (VI c.checkE) := by
  refine fn_walkW F34_ok (of_decide_eq_true (by kernel_rfl)) ?_
  refine EL.sreg ?_
  refine OW.last 2 [1] (x' := ⟨[(1, .ref 0 3 0 0)], [(aaq21 c)]⟩) (by kernel_rfl) (by kernel_rfl) ?_
  refine EL.sreg ?_
  refine OW.run 2 (x' := ⟨(aaq22 c), [(aaq21 c)]⟩) (by kernel_rfl) ?_
  refine OW.fn (ar := [.agg [VI c.at_.time, VI c.at_.who]]) (x' := ⟨(6, VI c.at_.checkE) :: (aaq22 c), [(aaq21 c)]⟩) (by kernel_rfl) (by kernel_rfl) F50_call (scheck_fn c.at_) (by kernel_rfl) (by kernel_rfl) ?_
  refine OW.last 1 [1, 3] (x' := ⟨[(3, VI c.at_.checkE), (1, .ref 0 3 0 0)], [(aaq21 c)]⟩) (by kernel_rfl) (by kernel_rfl) ?_
  refine EL.seqG [3] (fun y => (y = ⟨[(3, VI 2)], [(aaq21 c)]⟩ ∧ (c.at_.checkE == 0) = true ∧ decide ((ByteArray.size c.data : Int) > 64) = true) ∨ (y = ⟨[(3, VI c.at_.checkE)], [(aaq21 c)]⟩ ∧ (((c.at_.checkE = 0) ∧ ¬ ((ByteArray.size c.data : Int) > 64)) ∨ (¬ (c.at_.checkE = 0))))) ?_ ?_
  intro IHJ1 HJ1
  refine EL.sreg ?_
  refine OW.run 3 (x' := ⟨(9, .v (.bool (c.at_.checkE == 0))) :: (8, .v (.bool (c.at_.checkE == 0))) :: (aaq23 c), [(aaq21 c)]⟩) (by kernel_rfl) ?_
  rcases Bool.eq_false_or_eq_true ((c.at_.checkE == 0)) with h2 | h2
  rw [h2]
  have g2 : (c.at_.checkE = 0) := by simpa using h2
  refine OW.last 5 [3, 14] (x' := ⟨[(14, .v (.bool (decide ((ByteArray.size c.data : Int) > 64)))), (3, VI c.at_.checkE)], [(aaq21 c)]⟩) (by kernel_rfl) (by kernel_rfl) ?_
  rcases Bool.eq_false_or_eq_true (decide ((ByteArray.size c.data : Int) > 64)) with h3 | h3
  rw [h3]
  have g3 : ((ByteArray.size c.data : Int) > 64) := of_decide_eq_true h3
  have n3 : ((ByteArray.size c.data) > 64) := by omega
  refine EL.condT (by kernel_rfl) ?_
  refine EL.reg0 ?_
  refine OW.end 1 (x' := ⟨[(3, VI 2), (14, .v (.bool true))], [(aaq21 c)]⟩) (by kernel_rfl) (by kernel_rfl) ?_
  exact thenL_norm (HJ1.get (Or.inl ⟨by kernel_rfl, h2, h3⟩))
  rw [h3]
  have g3 : ¬ ((ByteArray.size c.data : Int) > 64) := of_decide_eq_false h3
  have n3 : ¬ ((ByteArray.size c.data) > 64) := by omega
  refine EL.condF (by kernel_rfl) ?_
  refine EL.skip ?_
  exact thenL_norm (HJ1.get (Or.inr ⟨by kernel_rfl, (Or.inl (by refine ⟨(by first | exact g2 | exact h2 | simp_all | omega), (by first | exact g3 | exact h3 | simp_all | omega)⟩))⟩))
  rw [h2]
  have g2 : ¬ (c.at_.checkE = 0) := by simpa using h2
  refine OW.last 5 [3, 14] (x' := ⟨[(14, .v (.bool false)), (3, VI c.at_.checkE)], [(aaq21 c)]⟩) (by kernel_rfl) (by kernel_rfl) ?_
  refine EL.condF (by kernel_rfl) ?_
  refine EL.skip ?_
  exact thenL_norm (HJ1.get (Or.inr ⟨by kernel_rfl, (Or.inr (by first | exact g2 | exact h2 | simp_all | omega))⟩))
  rintro _ (⟨rfl, h4, h5⟩ | ⟨rfl, hD6⟩)
  have g4 : (c.at_.checkE = 0) := by simpa using h4
  have g5 : ((ByteArray.size c.data : Int) > 64) := of_decide_eq_true h5
  have n5 : ((ByteArray.size c.data) > 64) := by omega
  refine EL.sreg ?_
  refine OW.last 2 [2] (x' := ⟨[(2, VI 2)], [(aaq21 c)]⟩) (by kernel_rfl) (by kernel_rfl) ?_
  refine EL.ret ?_
  refine ⟨.inr rfl, VI 2, by kernel_rfl, Ale.of_eq ?_⟩
  focus ((refine congrArg (fun n => VI n) ?_; have hs : c.at_.checkE = if c.at_.okS then 0 else 3 := rfl; simp only [Copy.checkE]; (repeat' split) <;> first | omega | (simp_all; done) | (simp_all; omega) | trace_state))
  refine EL.sreg ?_
  refine OW.last 2 [2] (x' := ⟨[(2, VI c.at_.checkE)], [(aaq21 c)]⟩) (by kernel_rfl) (by kernel_rfl) ?_
  refine EL.ret ?_
  refine ⟨.inr rfl, VI c.at_.checkE, by kernel_rfl, Ale.of_eq ?_⟩
  focus ((refine congrArg (fun n => VI n) ?_; have hs : c.at_.checkE = if c.at_.okS then 0 else 3 := rfl; simp only [Copy.checkE]; (repeat' split) <;> first | omega | (simp_all; done) | (simp_all; omega) | trace_state))
theorem ba_empty {d : ByteArray} : d = ⟨#[]⟩ ↔ d.size = 0 := by
  constructor
  · rintro rfl; rfl
  · intro h; cases d with | mk l => exact congrArg ByteArray.mk (Array.eq_empty_of_size_eq_zero h)
instance : DecidableEq Stamp := fun a b => decidable_of_iff (a.time = b.time ∧ a.who = b.who) (by cases a; cases b; simp)
instance : DecidableEq Copy := fun a b => decidable_of_iff (a.at_ = b.at_ ∧ a.data = b.data) (by cases a; cases b; simp)
instance : DecidableEq Msg := fun a b => decidable_of_iff (a.kind = b.kind ∧ a.op = b.op ∧ a.node = b.node ∧ a.copy = b.copy) (by cases a; cases b; simp)
def Copy.zero : Copy := ⟨⟨0, 0⟩, ⟨#[]⟩⟩
def Msg.checkE (m : Msg) : Int :=
  if ¬ (1 ≤ m.kind ∧ m.kind ≤ 4) then 7 else if ¬ (0 ≤ m.op ∧ m.op ≤ 30 ∧ 0 ≤ m.node ∧ m.node ≤ 11) then 3 else if m.copy.checkE ≠ 0 then m.copy.checkE else if ¬ (m.kind = 2 ∨ m.kind = 3) ∧ ¬ (m.copy.at_.time = 0 ∧ m.copy.at_.who = 0 ∧ m.copy.data.size = 0) then 1 else 0
theorem kind_fn (n : Int) : Fn Tryd.prog 42 [VI n] (.v (.bool (wi n 1 4))) := by
  refine fn_walkW F42_ok (of_decide_eq_true (by kernel_rfl)) ?_
  refine EL.sreg ?_
  refine OW.last 1 [0] (x' := ⟨[(0, VI n)], []⟩) (by kernel_rfl) (by kernel_rfl) ?_
  refine EL.sreg ?_
  refine OW.run 3 (x' := ⟨[(5, .v (.bool (decide (n ≥ 1)))), (4, .v (.bool (decide (n ≥ 1)))), (3, VI n), (0, VI n)], []⟩) (by kernel_rfl) ?_
  rcases Bool.eq_false_or_eq_true (decide (n ≥ 1)) with h1 | h1
  rw [h1]
  have g1 : (n ≥ 1) := of_decide_eq_true h1
  refine OW.last 4 [2] (x' := ⟨[(2, .v (.bool (decide (n ≤ 4))))], []⟩) (by kernel_rfl) (by kernel_rfl) ?_
  refine EL.ret ?_
  refine ⟨.inr rfl, .v (.bool (decide (n ≤ 4))), by kernel_rfl, Ale.of_eq ?_⟩
  focus (first | rfl | (refine congrArg (fun b => AV.v (Value.bool b)) ?_; first | rfl | (rw [Bool.eq_iff_iff]; simp [wi]; done) | (rw [Bool.eq_iff_iff]; simp [wi]; omega)))
  rw [h1]
  have g1 : ¬ (n ≥ 1) := of_decide_eq_false h1
  refine OW.last 4 [2] (x' := ⟨[(2, .v (.bool false))], []⟩) (by kernel_rfl) (by kernel_rfl) ?_
  refine EL.ret ?_
  refine ⟨.inr rfl, .v (.bool false), by kernel_rfl, Ale.of_eq ?_⟩
  focus (first | rfl | (refine congrArg (fun b => AV.v (Value.bool b)) ?_; first | rfl | (rw [Bool.eq_iff_iff]; simp [wi]; done) | (rw [Bool.eq_iff_iff]; simp [wi]; omega)))
theorem carries_fn (n : Int) : Fn Tryd.prog 43 [VI n] (.v (.bool (n == 2 || n == 3))) := by
  refine fn_walkW F43_ok (of_decide_eq_true (by kernel_rfl)) ?_
  refine EL.sreg ?_
  refine OW.last 1 [0] (x' := ⟨[(0, VI n)], []⟩) (by kernel_rfl) (by kernel_rfl) ?_
  refine EL.sreg ?_
  refine OW.run 3 (x' := ⟨[(5, .v (.bool (n == 2))), (4, .v (.bool (n == 2))), (3, VI n), (0, VI n)], []⟩) (by kernel_rfl) ?_
  rcases Bool.eq_false_or_eq_true ((n == 2)) with h1 | h1
  rw [h1]
  have g1 : (n = 2) := by simpa using h1
  refine OW.last 4 [2] (x' := ⟨[(2, .v (.bool true))], []⟩) (by kernel_rfl) (by kernel_rfl) ?_
  refine EL.ret ?_
  refine ⟨.inr rfl, .v (.bool true), by kernel_rfl, Ale.of_eq ?_⟩
  focus (first | rfl | (refine congrArg (fun b => AV.v (Value.bool b)) ?_; first | rfl | (rw [Bool.eq_iff_iff]; simp [wi]; done) | (rw [Bool.eq_iff_iff]; simp [wi]; omega)))
  rw [h1]
  have g1 : ¬ (n = 2) := by simpa using h1
  refine OW.last 4 [2] (x' := ⟨[(2, .v (.bool (n == 3)))], []⟩) (by kernel_rfl) (by kernel_rfl) ?_
  refine EL.ret ?_
  refine ⟨.inr rfl, .v (.bool (n == 3)), by kernel_rfl, Ale.of_eq ?_⟩
  focus (first | rfl | (refine congrArg (fun b => AV.v (Value.bool b)) ?_; first | rfl | (rw [Bool.eq_iff_iff]; simp [wi]; done) | (rw [Bool.eq_iff_iff]; simp [wi]; omega)))
abbrev aaq24 (m : Msg) : OB := some ⟨6, [[VI m.kind, VI m.op, VI m.node, VI m.copy.at_.time, VI m.copy.at_.who, .v (.string m.copy.data)]]⟩
abbrev aaq25 (m : Msg) : LS := [(6, VI m.kind), (5, .ref 0 6 0 0), (1, .ref 0 6 0 0)]
abbrev aaq26 (m : Msg) : LS := [(11, VI m.op), (10, .ref 0 6 0 1), (4, .v (.bool false)), (1, .ref 0 6 0 0)]
abbrev aaq27 (m : Msg) : LS := [(19, VI m.node), (18, .ref 0 6 0 2), (9, .v (.bool false)), (1, .ref 0 6 0 0)]
abbrev aaq28 (m : Msg) : LS := [(9, .v (.bool true)), (25, .v (.bool true)), (24, .v undef), (23, .v undef), (22, .v undef), (21, .v (.bool true)), (20, .v (.bool true)), (19, VI m.node), (18, .ref 0 6 0 2), (1, .ref 0 6 0 0)]
abbrev aaq29 (m : Msg) : LS := [(23, VI m.node), (22, .ref 0 6 0 2), (21, .v (.bool false)), (20, .v (.bool false)), (19, VI m.node), (18, .ref 0 6 0 2), (1, .ref 0 6 0 0)]
abbrev aaq30 (m : Msg) : AV := .agg [VI m.copy.at_.time, VI m.copy.at_.who, .v (.string m.copy.data)]
abbrev aaq31 (m : Msg) : LS := (27, (aaq30 m)) :: (26, .ref 0 6 0 3) :: (9, .v (.bool false)) :: (25, .v (.bool false)) :: (24, .v (.bool false)) :: (aaq29 m)
abbrev aaq32 (m : Msg) : LS := [(29, VI m.copy.checkE), (3, VI m.copy.checkE), (1, .ref 0 6 0 0)]
abbrev aaq33 (m : Msg) : LS := (33, VI m.kind) :: (32, .ref 0 6 0 0) :: (31, .v (.bool true)) :: (30, .v (.bool true)) :: (aaq32 m)
theorem mcheck_fn (m : Msg) : Fn Tryd.prog 20 [.agg [VI m.kind, VI m.op, VI m.node, VI m.copy.at_.time, VI m.copy.at_.who, .v (.string m.copy.data)]] (VI m.checkE) := by
  refine fn_walkW F20_ok (of_decide_eq_true (by kernel_rfl)) ?_
  refine EL.sreg ?_
  refine OW.last 2 [1] (x' := ⟨[(1, .ref 0 6 0 0)], [(aaq24 m)]⟩) (by kernel_rfl) (by kernel_rfl) ?_
  refine EL.seq ?_
  refine EL.block ?_
  refine EL.sreg ?_
  refine OW.run 2 (x' := ⟨(aaq25 m), [(aaq24 m)]⟩) (by kernel_rfl) ?_
  refine OW.fn (ar := [VI m.kind]) (x' := ⟨(7, .v (.bool (wi m.kind 1 4))) :: (aaq25 m), [(aaq24 m)]⟩) (by kernel_rfl) (by kernel_rfl) F42_call (kind_fn m.kind) (by kernel_rfl) (by kernel_rfl) ?_
  refine OW.last 2 [1, 4] (x' := ⟨[(4, .v (.bool (!(wi m.kind 1 4)))), (1, .ref 0 6 0 0)], [(aaq24 m)]⟩) (by kernel_rfl) (by kernel_rfl) ?_
  rcases Bool.eq_false_or_eq_true (wi m.kind 1 4) with h1 | h1
  rw [h1]
  have g1 : ((1 : Int) ≤ m.kind ∧ (m.kind : Int) ≤ 4) := wi_iff.1 h1
  refine EL.condF (by kernel_rfl) ?_
  refine EL.seq ?_
  refine EL.sreg ?_
  refine OW.run 4 (x' := ⟨(13, .v (.bool (decide (m.op < 0)))) :: (12, .v (.bool (decide (m.op < 0)))) :: (aaq26 m), [(aaq24 m)]⟩) (by kernel_rfl) ?_
  rcases Bool.eq_false_or_eq_true (decide (m.op < 0)) with h2 | h2
  rw [h2]
  have g2 : (m.op < 0) := of_decide_eq_true h2
  refine OW.last 5 [1, 9] (x' := ⟨[(9, .v (.bool true)), (1, .ref 0 6 0 0)], [(aaq24 m)]⟩) (by kernel_rfl) (by kernel_rfl) ?_
  refine EL.condT (by kernel_rfl) ?_
  refine EL.skip ?_
  refine thenL_norm ?_
  refine EL.condT (by kernel_rfl) ?_
  refine EL.sreg ?_
  refine OW.last 1 [2] (x' := ⟨[(2, VI 3)], [(aaq24 m)]⟩) (by kernel_rfl) (by kernel_rfl) ?_
  refine EL.ret ?_
  refine inBlk_ret ?_
  refine thenL_ret ?_
  refine ⟨.inr rfl, VI 3, by kernel_rfl, Ale.of_eq ?_⟩
  focus ((refine congrArg (fun n => VI n) ?_; (try simp only [wi_iff, ba_empty, strEq_iff] at *); simp only [Msg.checkE, ba_empty]; (repeat' split) <;> first | rfl | omega | (simp_all; done) | (simp_all; omega) | trace_state))
  rw [h2]
  have g2 : ¬ (m.op < 0) := of_decide_eq_false h2
  refine OW.last 5 [1, 9] (x' := ⟨[(9, .v (.bool (decide (m.op ≥ 31)))), (1, .ref 0 6 0 0)], [(aaq24 m)]⟩) (by kernel_rfl) (by kernel_rfl) ?_
  rcases Bool.eq_false_or_eq_true (decide (m.op ≥ 31)) with h3 | h3
  rw [h3]
  have g3 : (m.op ≥ 31) := of_decide_eq_true h3
  refine EL.condT (by kernel_rfl) ?_
  refine EL.skip ?_
  refine thenL_norm ?_
  refine EL.condT (by kernel_rfl) ?_
  refine EL.sreg ?_
  refine OW.last 1 [2] (x' := ⟨[(2, VI 3)], [(aaq24 m)]⟩) (by kernel_rfl) (by kernel_rfl) ?_
  refine EL.ret ?_
  refine inBlk_ret ?_
  refine thenL_ret ?_
  refine ⟨.inr rfl, VI 3, by kernel_rfl, Ale.of_eq ?_⟩
  focus ((refine congrArg (fun n => VI n) ?_; (try simp only [wi_iff, ba_empty, strEq_iff] at *); simp only [Msg.checkE, ba_empty]; (repeat' split) <;> first | rfl | omega | (simp_all; done) | (simp_all; omega) | trace_state))
  rw [h3]
  have g3 : ¬ (m.op ≥ 31) := of_decide_eq_false h3
  refine EL.condF (by kernel_rfl) ?_
  refine EL.reg0 ?_
  refine OW.run 4 (x' := ⟨(21, .v (.bool (decide (m.node < 0)))) :: (20, .v (.bool (decide (m.node < 0)))) :: (aaq27 m), [(aaq24 m)]⟩) (by kernel_rfl) ?_
  rcases Bool.eq_false_or_eq_true (decide (m.node < 0)) with h4 | h4
  rw [h4]
  have g4 : (m.node < 0) := of_decide_eq_true h4
  refine OW.end 5 (x' := ⟨(aaq28 m), [(aaq24 m)]⟩) (by kernel_rfl) (by kernel_rfl) ?_
  refine thenL_norm ?_
  refine EL.condT (by kernel_rfl) ?_
  refine EL.sreg ?_
  refine OW.last 1 [2] (x' := ⟨[(2, VI 3)], [(aaq24 m)]⟩) (by kernel_rfl) (by kernel_rfl) ?_
  refine EL.ret ?_
  refine inBlk_ret ?_
  refine thenL_ret ?_
  refine ⟨.inr rfl, VI 3, by kernel_rfl, Ale.of_eq ?_⟩
  focus ((refine congrArg (fun n => VI n) ?_; (try simp only [wi_iff, ba_empty, strEq_iff] at *); simp only [Msg.checkE, ba_empty]; (repeat' split) <;> first | rfl | omega | (simp_all; done) | (simp_all; omega) | trace_state))
  rw [h4]
  have g4 : ¬ (m.node < 0) := of_decide_eq_false h4
  refine OW.end 5 (x' := ⟨(9, .v (.bool (decide (m.node ≥ 12)))) :: (25, .v (.bool (decide (m.node ≥ 12)))) :: (24, .v (.bool (decide (m.node ≥ 12)))) :: (aaq29 m), [(aaq24 m)]⟩) (by kernel_rfl) (by kernel_rfl) ?_
  refine thenL_norm ?_
  rcases Bool.eq_false_or_eq_true (decide (m.node ≥ 12)) with h5 | h5
  rw [h5]
  have g5 : (m.node ≥ 12) := of_decide_eq_true h5
  refine EL.condT (by kernel_rfl) ?_
  refine EL.sreg ?_
  refine OW.last 1 [2] (x' := ⟨[(2, VI 3)], [(aaq24 m)]⟩) (by kernel_rfl) (by kernel_rfl) ?_
  refine EL.ret ?_
  refine inBlk_ret ?_
  refine thenL_ret ?_
  refine ⟨.inr rfl, VI 3, by kernel_rfl, Ale.of_eq ?_⟩
  focus ((refine congrArg (fun n => VI n) ?_; (try simp only [wi_iff, ba_empty, strEq_iff] at *); simp only [Msg.checkE, ba_empty]; (repeat' split) <;> first | rfl | omega | (simp_all; done) | (simp_all; omega) | trace_state))
  rw [h5]
  have g5 : ¬ (m.node ≥ 12) := of_decide_eq_false h5
  refine EL.condF (by kernel_rfl) ?_
  refine EL.skip ?_
  refine inBlk_norm ?_
  refine thenL_norm ?_
  refine EL.sreg ?_
  refine OW.run 2 (x' := ⟨(aaq31 m), [(aaq24 m)]⟩) (by kernel_rfl) ?_
  refine OW.fn (ar := [(aaq30 m)]) (x' := ⟨(28, VI m.copy.checkE) :: (aaq31 m), [(aaq24 m)]⟩) (by kernel_rfl) (by kernel_rfl) F34_call (ccheck_fn m.copy) (by kernel_rfl) (by kernel_rfl) ?_
  refine OW.last 1 [1, 3] (x' := ⟨[(3, VI m.copy.checkE), (1, .ref 0 6 0 0)], [(aaq24 m)]⟩) (by kernel_rfl) (by kernel_rfl) ?_
  refine EL.seq ?_
  refine EL.sreg ?_
  refine OW.run 3 (x' := ⟨(31, .v (.bool (m.copy.checkE == 0))) :: (30, .v (.bool (m.copy.checkE == 0))) :: (aaq32 m), [(aaq24 m)]⟩) (by kernel_rfl) ?_
  rcases Bool.eq_false_or_eq_true ((m.copy.checkE == 0)) with h6 | h6
  rw [h6]
  have g6 : (m.copy.checkE = 0) := by simpa using h6
  refine OW.run 2 (x' := ⟨(aaq33 m), [(aaq24 m)]⟩) (by kernel_rfl) ?_
  refine OW.fn (ar := [VI m.kind]) (x' := ⟨(34, .v (.bool (m.kind == 2 || m.kind == 3))) :: (aaq33 m), [(aaq24 m)]⟩) (by kernel_rfl) (by kernel_rfl) F43_call (carries_fn m.kind) (by kernel_rfl) (by kernel_rfl) ?_
  refine OW.run 3 (x' := ⟨(37, .v (.bool (!(m.kind == 2 || m.kind == 3)))) :: (36, .v (.bool (!(m.kind == 2 || m.kind == 3)))) :: (35, .v (.bool (!(m.kind == 2 || m.kind == 3)))) :: (34, .v (.bool (m.kind == 2 || m.kind == 3))) :: (aaq33 m), [(aaq24 m)]⟩) (by kernel_rfl) ?_
  rcases Bool.eq_false_or_eq_true ((m.kind == 2 || m.kind == 3)) with h7 | h7
  rw [h7]
  have g7 : (m.kind == 2 || m.kind = 3) := by simpa using h7
  refine OW.last 5 [3, 42] (x' := ⟨[(42, .v (.bool false)), (3, VI m.copy.checkE)], [(aaq24 m)]⟩) (by kernel_rfl) (by kernel_rfl) ?_
  refine EL.condF (by kernel_rfl) ?_
  refine EL.skip ?_
  refine thenL_norm ?_
  refine EL.sreg ?_
  refine OW.last 2 [2] (x' := ⟨[(2, VI m.copy.checkE)], [(aaq24 m)]⟩) (by kernel_rfl) (by kernel_rfl) ?_
  refine EL.ret ?_
  refine ⟨.inr rfl, VI m.copy.checkE, by kernel_rfl, Ale.of_eq ?_⟩
  focus ((refine congrArg (fun n => VI n) ?_; (try simp only [wi_iff, ba_empty, strEq_iff] at *); simp only [Msg.checkE, ba_empty]; (repeat' split) <;> first | rfl | omega | (simp_all; done) | (simp_all; omega) | trace_state))
  rw [h7]
  have g7 : ¬ (m.kind == 2 || m.kind = 3) := by simpa using h7
  refine OW.last 5 [3, 42] (x' := ⟨[(42, .v (.bool (!((m.copy.at_.time == 0) && ((m.copy.at_.who == 0) && (strEq m.copy.data (⟨#[]⟩) && true)))))), (3, VI m.copy.checkE)], [(aaq24 m)]⟩) (by kernel_rfl) (by kernel_rfl) ?_
  rcases Bool.eq_false_or_eq_true (((m.copy.at_.time == 0) && ((m.copy.at_.who == 0) && (strEq m.copy.data (⟨#[]⟩) && true)))) with h8 | h8
  rw [h8]
  have g8 : m.copy.at_.time = 0 ∧ m.copy.at_.who = 0 ∧ m.copy.data = (⟨#[]⟩) := by simpa [strEq_iff] using h8
  refine EL.condF (by kernel_rfl) ?_
  refine EL.skip ?_
  refine thenL_norm ?_
  refine EL.sreg ?_
  refine OW.last 2 [2] (x' := ⟨[(2, VI m.copy.checkE)], [(aaq24 m)]⟩) (by kernel_rfl) (by kernel_rfl) ?_
  refine EL.ret ?_
  refine ⟨.inr rfl, VI m.copy.checkE, by kernel_rfl, Ale.of_eq ?_⟩
  focus ((refine congrArg (fun n => VI n) ?_; (try simp only [wi_iff, ba_empty, strEq_iff] at *); simp only [Msg.checkE, ba_empty]; (repeat' split) <;> first | rfl | omega | (simp_all; done) | (simp_all; omega) | trace_state))
  rw [h8]
  have g8 : ¬ (m.copy.at_.time = 0 ∧ m.copy.at_.who = 0 ∧ m.copy.data = (⟨#[]⟩)) := fun ⟨q0, q1, q2⟩ => Bool.noConfusion ((show (((m.copy.at_.time == 0) && ((m.copy.at_.who == 0) && (strEq m.copy.data (⟨#[]⟩) && true)))) = true by first | (simp [q0, q1, q2, strEq_iff]; done) | (simp only [q0, q1, q2, beq_self_eq_true, Bool.and_self, Bool.and_true, Bool.true_and]; done)).symm.trans h8)
  refine EL.condT (by kernel_rfl) ?_
  refine EL.reg0 ?_
  refine OW.end 1 (x' := ⟨[(3, VI 1), (42, .v (.bool true))], [(aaq24 m)]⟩) (by kernel_rfl) (by kernel_rfl) ?_
  refine thenL_norm ?_
  refine EL.sreg ?_
  refine OW.last 2 [2] (x' := ⟨[(2, VI 1)], [(aaq24 m)]⟩) (by kernel_rfl) (by kernel_rfl) ?_
  refine EL.ret ?_
  refine ⟨.inr rfl, VI 1, by kernel_rfl, Ale.of_eq ?_⟩
  focus ((refine congrArg (fun n => VI n) ?_; (try simp only [wi_iff, ba_empty, strEq_iff] at *); simp only [Msg.checkE, ba_empty]; (repeat' split) <;> first | rfl | omega | (simp_all; done) | (simp_all; omega) | trace_state))
  rw [h6]
  have g6 : ¬ (m.copy.checkE = 0) := by simpa using h6
  refine OW.last 11 [3, 42] (x' := ⟨[(42, .v (.bool false)), (3, VI m.copy.checkE)], [(aaq24 m)]⟩) (by kernel_rfl) (by kernel_rfl) ?_
  refine EL.condF (by kernel_rfl) ?_
  refine EL.skip ?_
  refine thenL_norm ?_
  refine EL.sreg ?_
  refine OW.last 2 [2] (x' := ⟨[(2, VI m.copy.checkE)], [(aaq24 m)]⟩) (by kernel_rfl) (by kernel_rfl) ?_
  refine EL.ret ?_
  refine ⟨.inr rfl, VI m.copy.checkE, by kernel_rfl, Ale.of_eq ?_⟩
  focus ((refine congrArg (fun n => VI n) ?_; (try simp only [wi_iff, ba_empty, strEq_iff] at *); simp only [Msg.checkE, ba_empty]; (repeat' split) <;> first | rfl | omega | (simp_all; done) | (simp_all; omega) | trace_state))
  rw [h1]
  have g1 : ¬ ((1 : Int) ≤ m.kind ∧ (m.kind : Int) ≤ 4) := fun hh => Bool.noConfusion ((wi_iff.2 hh).symm.trans h1)
  refine EL.condT (by kernel_rfl) ?_
  refine EL.sreg ?_
  refine OW.last 1 [2] (x' := ⟨[(2, VI 7)], [(aaq24 m)]⟩) (by kernel_rfl) (by kernel_rfl) ?_
  refine EL.ret ?_
  refine inBlk_ret ?_
  refine thenL_ret ?_
  refine ⟨.inr rfl, VI 7, by kernel_rfl, Ale.of_eq ?_⟩
  focus ((refine congrArg (fun n => VI n) ?_; (try simp only [wi_iff, ba_empty, strEq_iff] at *); simp only [Msg.checkE, ba_empty]; (repeat' split) <;> first | rfl | omega | (simp_all; done) | (simp_all; omega) | trace_state))
def Copy.raw (c o : Copy) : Copy := if c.at_.lt o.at_ then o else c
abbrev aaq52 (o : Copy) : OB := some ⟨3, [[VI o.at_.time, VI o.at_.who, .v (.string o.data)]]⟩
abbrev aaq53 (c : Copy) (o : Copy) : LB := [(aaq21 c), (aaq52 o), some ⟨3, [[VI 0, VI 0, .v (.string (⟨#[]⟩))]]⟩]
abbrev aaq54 : LS := [(4, .ref 2 3 0 0), (3, .ref 1 3 0 0), (2, .ref 0 3 0 0)]
abbrev aaq55 (o : Copy) (c : Copy) : LS := (8, .agg [VI o.at_.time, VI o.at_.who]) :: (7, .ref 1 3 0 0) :: (6, .agg [VI c.at_.time, VI c.at_.who]) :: (5, .ref 0 3 0 0) :: aaq54
theorem raw_fn (c : Copy) (o : Copy) : Fn Tryd.prog 38 [.agg [VI c.at_.time, VI c.at_.who, .v (.string c.data)], .agg [VI o.at_.time, VI o.at_.who, .v (.string o.data)]] (.agg [VI (((c.raw o).at_).time), VI (((c.raw o).at_).who), .v (.string ((c.raw o).data))]) := by
  refine fn_walkW F38_ok (of_decide_eq_true (by kernel_rfl)) ?_
  refine EL.sreg ?_
  refine OW.last 3 [2, 3, 4] (x' := ⟨aaq54, (aaq53 c o)⟩) (by kernel_rfl) (by kernel_rfl) ?_
  refine EL.seq ?_
  refine EL.sreg ?_
  refine OW.run 4 (x' := ⟨(aaq55 o c), (aaq53 c o)⟩) (by kernel_rfl) ?_
  refine OW.fn (ar := [.agg [VI c.at_.time, VI c.at_.who], .agg [VI o.at_.time, VI o.at_.who]]) (x' := ⟨(9, .v (.bool (decide (c.at_.lt o.at_)))) :: (aaq55 o c), (aaq53 c o)⟩) (by kernel_rfl) (by kernel_rfl) F18_call (less_fn c.at_ o.at_) (by kernel_rfl) (by kernel_rfl) ?_
  refine OW.last 0 [2, 3, 4, 9] (x' := ⟨(9, .v (.bool (decide (c.at_.lt o.at_)))) :: aaq54, (aaq53 c o)⟩) (by kernel_rfl) (by kernel_rfl) ?_
  rcases Bool.eq_false_or_eq_true (decide (c.at_.lt o.at_)) with h1 | h1
  rw [h1]
  have g1 : (c.at_.lt o.at_) := of_decide_eq_true h1
  refine EL.condT (by kernel_rfl) ?_
  refine EL.sreg ?_
  refine OW.last 2 [4] (x' := ⟨[(4, .ref 2 3 0 0)], [(aaq21 c), (aaq52 o), (aaq52 o)]⟩) (by kernel_rfl) (by kernel_rfl) ?_
  refine EL.ret ?_
  refine thenL_ret ?_
  refine ⟨.inr rfl, .agg [VI o.at_.time, VI o.at_.who, .v (.string o.data)], by kernel_rfl, Ale.of_eq ?_⟩
  focus (first | rfl | (simp [Copy.raw, *]; done) | (simp_all [Copy.raw]; done) | trace_state)
  rw [h1]
  have g1 : ¬ (c.at_.lt o.at_) := of_decide_eq_false h1
  refine EL.condF (by kernel_rfl) ?_
  refine EL.skip ?_
  refine thenL_norm ?_
  refine EL.sreg ?_
  refine OW.last 2 [4] (x' := ⟨[(4, .ref 2 3 0 0)], [(aaq21 c), (aaq52 o), (aaq21 c)]⟩) (by kernel_rfl) (by kernel_rfl) ?_
  refine EL.ret ?_
  refine ⟨.inr rfl, .agg [VI c.at_.time, VI c.at_.who, .v (.string c.data)], by kernel_rfl, Ale.of_eq ?_⟩
  focus (first | rfl | (simp [Copy.raw, *]; done) | (simp_all [Copy.raw]; done) | trace_state)
end Go.Proofs.YtgepadjkegfokaaDoor
