/- No seat promises less than before, nor keeps what is below its promise: the law SynodPromise returns true. No condition. -/
import Derived.Test.YtligepciannclaaDoorPSynJ
import Derived.WalkKit
import Derived.Handy
import Derived.ProofKit
import Derived.OpenShut
import Derived.ShutString
import Derived.ChangeOld
import Derived.Below
import Derived.Lib.Hide
import Derived.WalkLawsBesides
import Derived.WalkSpells
import Derived.Deep.QuietTactic
import Derived.BigQuiet
import Derived.Outline
import Derived.SevenTiedAt
namespace Go.Proofs.YtligepciannclaaDoor
set_option linter.unusedSimpArgs false
set_option linter.unusedVariables false
open Go.ChangeShapes Go.WideShapes Go.ChangeAt Go.RowKit
open Go.ChangeMaps (open_string shut_string)
set_option maxRecDepth 100000
set_option maxHeartbeats 4000000
section
variable (a6 : Seat) (a8 : Seat) (n : Int) (s : Synod) (x : Step)
abbrev V0 : OB := some ⟨5, [[.lst 1 (s.voters.weights.map cI), VI s.voters.need, .lst 5 (s.seats.map Seat.cs), .lst 8 (s.bids.map Bid.cs), .lst 6 (s.votes.map Vote.cs)]]⟩
abbrev V1 : LB := [(V0 s), some ⟨3, [[VI x.kind, VI x.n, .v (.string x.data)]]⟩]
abbrev V2 : LS := [(4, .ref 1 3 0 0), (3, .ref 0 5 0 0), (2, VI n)]
abbrev V3 : AV := .agg [.lst 1 (s.voters.weights.map cI), VI s.voters.need, .lst 5 (s.seats.map Seat.cs), .lst 8 (s.bids.map Bid.cs), .lst 6 (s.votes.map Vote.cs)]
abbrev V4 : LS := (13, .agg [VI x.kind, VI x.n, .v (.string x.data)]) :: (12, (V3 s)) :: (V2 n)
abbrev V5 : AV := .agg [.lst 1 (((((s.doP x.kind x.n x.data).1).voters).weights).map cI), VI ((((s.doP x.kind x.n x.data).1).voters).need), .lst 5 ((((s.doP x.kind x.n x.data).1).seats).map Seat.cs), .lst 8 ((((s.doP x.kind x.n x.data).1).bids).map Bid.cs), .lst 6 ((((s.doP x.kind x.n x.data).1).votes).map Vote.cs)]
abbrev V6 : LS := (14, .tup [(V5 s x), VI ((s.doP x.kind x.n x.data).2)]) :: (V4 n s x)
abbrev V7 : OB := some ⟨5, [[.lst 1 (((((s.doP x.kind x.n x.data).1).voters).weights).map cI), VI ((((s.doP x.kind x.n x.data).1).voters).need), .lst 5 ((((s.doP x.kind x.n x.data).1).seats).map Seat.cs), .lst 8 ((((s.doP x.kind x.n x.data).1).bids).map Bid.cs), .lst 6 ((((s.doP x.kind x.n x.data).1).votes).map Vote.cs)]]⟩
abbrev V8 : LB := [(V0 s), some ⟨3, [[VI x.kind, VI x.n, .v (.string x.data)]]⟩, (V7 s x)]
abbrev V9 : LS := [(8, VI ((s.doP x.kind x.n x.data).2)), (7, .ref 2 5 0 0), (3, .ref 0 5 0 0), (2, VI n)]
abbrev V10 : LS := [(7, .ref 2 5 0 0), (3, .ref 0 5 0 0), (2, VI n)]
abbrev V11 : LS := (22, .agg [.emp, VI 0, .emp, .emp, .emp]) :: (21, (V5 s x)) :: (20, .v (.bool true)) :: (V10 n)
abbrev V12 : LS := (43, .lst 5 ((((s.doP x.kind x.n x.data).1).seats).map Seat.cs)) :: (42, .ref 2 5 0 2) :: (41, .v (.bool true)) :: (V10 n)
abbrev V13 : LS := (44, VI (List.length (((s.doP x.kind x.n x.data).1).seats) : Int)) :: (V12 n s x)
abbrev V14 : LS := (46, .lst 5 (s.seats.map Seat.cs)) :: (45, .ref 0 5 0 2) :: (V13 n s x)
abbrev V15 : LS := (29, .lst 5 (s.seats.map Seat.cs)) :: (28, .ref 0 5 0 2) :: (27, VI n) :: (26, .v (.bool false)) :: (25, .v (.bool false)) :: (24, VI n) :: (20, .v (.bool false)) :: (V10 n)
abbrev V16 : LS := (35, .lst 5 ((((s.doP x.kind x.n x.data).1).seats).map Seat.cs)) :: (34, .ref 2 5 0 2) :: (33, .v (.bool false)) :: (32, .v (.bool false)) :: (31, .v (.bool false)) :: (30, VI (List.length s.seats : Int)) :: (V15 n s)
abbrev V17 : LS := (36, VI (List.length (((s.doP x.kind x.n x.data).1).seats) : Int)) :: (V16 n s x)
abbrev V18 : LS := (38, .lst 5 (s.seats.map Seat.cs)) :: (37, .ref 0 5 0 2) :: (V17 n s x)
abbrev V19 : LS := (51, VI n) :: (50, .lst 5 (s.seats.map Seat.cs)) :: (49, .ref 0 5 0 2) :: (41, .v (.bool false)) :: (V10 n)
abbrev V20 : LS := (52, .pim [VI a6.promised.time, VI a6.promised.who, VI a6.kept.at_.time, VI a6.kept.at_.who, .v (.string a6.kept.data)] 0) :: (V19 n s)
abbrev V21 : AV := .agg [VI a6.promised.time, VI a6.promised.who, VI a6.kept.at_.time, VI a6.kept.at_.who, .v (.string a6.kept.data)]
abbrev V22 : LS := (56, VI n) :: (55, .lst 5 ((((s.doP x.kind x.n x.data).1).seats).map Seat.cs)) :: (54, .ref 2 5 0 2) :: (53, (V21 a6)) :: (V20 a6 n s)
abbrev V23 : LS := (57, .pim [VI a8.promised.time, VI a8.promised.who, VI a8.kept.at_.time, VI a8.kept.at_.who, .v (.string a8.kept.data)] 0) :: (V22 a6 n s x)
abbrev V24 : OB := some ⟨5, [[VI a6.promised.time, VI a6.promised.who, VI a6.kept.at_.time, VI a6.kept.at_.who, .v (.string a6.kept.data)]]⟩
abbrev V25 : OB := some ⟨5, [[VI a8.promised.time, VI a8.promised.who, VI a8.kept.at_.time, VI a8.kept.at_.who, .v (.string a8.kept.data)]]⟩
abbrev V26 : LB := [(V0 s), some ⟨3, [[VI x.kind, VI x.n, .v (.string x.data)]]⟩, (V7 s x), (V24 a6), (V25 a8)]
abbrev V27 : LS := [(62, .agg [VI a6.promised.time, VI a6.promised.who]), (61, .ref 3 5 0 0), (60, .agg [VI a8.promised.time, VI a8.promised.who]), (59, .ref 4 5 0 0), (10, .ref 4 5 0 0), (9, .ref 3 5 0 0)]
abbrev V28 : LS := (70, .agg [VI a8.kept.at_.time, VI a8.kept.at_.who]) :: (69, .ref 4 5 0 2) :: (68, .ref 4 5 0 2) :: (67, .agg [VI a8.promised.time, VI a8.promised.who]) :: (66, .ref 4 5 0 0) :: (65, .v (.bool true)) :: (64, .v (.bool true)) :: (63, .v (.bool false)) :: (V27 a6 a8)
abbrev V29 : LS := (80, .agg [VI a6.kept.at_.time, VI a6.kept.at_.who]) :: (79, .ref 3 5 0 2) :: (78, .ref 3 5 0 2) :: (77, .agg [VI a8.kept.at_.time, VI a8.kept.at_.who]) :: (76, .ref 4 5 0 2) :: (75, .ref 4 5 0 2) :: (74, .v (.bool true)) :: (73, .v (.bool true)) :: (72, .v (.bool true)) :: (71, .v (.bool false)) :: (V28 a6 a8)
end
theorem synodPromise_fn (s : Synod) (x : Step) (n : Int) (hx : s.Big) : Fn Tryd.prog 10 [.agg [.lst 1 (s.voters.weights.map cI), VI s.voters.need, .lst 5 (s.seats.map Seat.cs), .lst 8 (s.bids.map Bid.cs), .lst 6 (s.votes.map Vote.cs)], .agg [VI x.kind, VI x.n, .v (.string x.data)], VI n] (.v (.bool true)) := by
  refine fn_walkW F10_ok (of_decide_eq_true (by kernel_rfl)) ?_
  refine srl 3 [2, 3, 4] ⟨(V2 n), (V1 s x)⟩ ?_
  refine srr 2 ⟨(V4 n s x), (V1 s x)⟩ ?_
  refine owf [(V3 s), .agg [VI x.kind, VI x.n, .v (.string x.data)]] ⟨(V6 n s x), (V1 s x)⟩ F13_call (do_fn s x (by first | assumption | exact Synod.new_big (by first | assumption | decide) | exact Synod.run_big _ _ | exact Synod.do_big _ _ _ _ | exact Synod.sat_big (by assumption) | exact Synod.zero_big | exact Synod.Ok.big (by assumption))) ?_
  refine owl 6 [2, 3, 7, 8] ⟨(V9 n s x), (V8 s x)⟩ ?_
  refine EL.seq ?_
  refine EL.sreg ?_
  refine owf [] ⟨(17, .v (.bool true)) :: (V9 n s x), (V8 s x)⟩ F16_call (sbegun_fn) ?_
  refine owl 1 [2, 3, 7, 8, 18] ⟨(18, .v (.bool false)) :: (V9 n s x), (V8 s x)⟩ ?_
  refine cnF ?_
  refine skn ?_
  refine EL.seq ?_
  refine srl 2 [2, 3, 7, 20] ⟨(20, .v (.bool (((s.doP x.kind x.n x.data).2) != 0))) :: (V10 n), (V8 s x)⟩ ?_
  rcases Bool.eq_false_or_eq_true ((((s.doP x.kind x.n x.data).2) != 0)) with h1 | h1
  rw [h1]
  have g1 : ¬ (((s.doP x.kind x.n x.data).2) = 0) := by simpa using h1
  refine cnT ?_
  refine srr 2 ⟨(V11 n s x), (V8 s x)⟩ ?_
  refine owf [(V5 s x), .agg [.emp, VI 0, .emp, .emp, .emp]] ⟨(23, .v (.bool (decide (Synod.same ((s.doP x.kind x.n x.data).1) (⟨(⟨[], 0⟩ : Voters), [], [], []⟩ : Synod))))) :: (V11 n s x), (V8 s x)⟩ F17_call (Fn.args (sameSynod_fn ((s.doP x.kind x.n x.data).1) (⟨(⟨[], 0⟩ : Voters), [], [], []⟩ : Synod) (by first | assumption | exact Synod.new_big (by first | assumption | decide) | exact Synod.run_big _ _ | exact Synod.do_big _ _ _ _ | exact Synod.sat_big (by assumption) | exact Synod.zero_big | exact Synod.Ok.big (by assumption))) (.cons (Ale.refl) (.cons (Ale.agg (.cons (Ale.emp) (.cons (Ale.refl) (.cons (Ale.emp) (.cons (Ale.emp) (.cons (Ale.emp) (.nil))))))) (.nil)))) ?_
  refine owl 1 [6] ⟨[(6, .v (.bool (decide (Synod.same ((s.doP x.kind x.n x.data).1) (⟨(⟨[], 0⟩ : Voters), [], [], []⟩ : Synod)))))], (V8 s x)⟩ ?_
  refine rtr ?_
  refine ⟨.inr rfl, .v (.bool (decide (Synod.same ((s.doP x.kind x.n x.data).1) (⟨(⟨[], 0⟩ : Voters), [], [], []⟩ : Synod)))), by kernel_rfl, Ale.of_eq ?_⟩
  rotate_left
  rw [h1]
  have g1 : (((s.doP x.kind x.n x.data).2) = 0) := by simpa using h1
  refine cnF ?_
  refine skn ?_
  refine EL.seq ?_
  refine srr 3 ⟨(26, .v (.bool (decide (n < 0)))) :: (25, .v (.bool (decide (n < 0)))) :: (24, VI n) :: (20, .v (.bool false)) :: (V10 n), (V8 s x)⟩ ?_
  rcases Bool.eq_false_or_eq_true (decide (n < 0)) with h2 | h2
  rw [h2]
  have g2 := of_decide_eq_true h2
  refine owl 15 [2, 3, 7, 41] ⟨(41, .v (.bool true)) :: (V10 n), (V8 s x)⟩ ?_
  refine cnT ?_
  refine srr 2 ⟨(V12 n s x), (V8 s x)⟩ ?_
  refine owo (VI (List.length (((s.doP x.kind x.n x.data).1).seats) : Int)) [] [] ⟨(V13 n s x), (V8 s x)⟩ (opE_len Seat.cs (((s.doP x.kind x.n x.data).1).seats) (.s 43) 5 (by kernel_rfl) (by kernel_rfl) (.inl rfl)) ?_
  refine owr 2 ⟨(V14 n s x), (V8 s x)⟩ ?_
  refine owo (VI (List.length s.seats : Int)) [] [] ⟨(47, VI (List.length s.seats : Int)) :: (V14 n s x), (V8 s x)⟩ (opE_len Seat.cs s.seats (.s 46) 5 (by kernel_rfl) (by kernel_rfl) (.inl rfl)) ?_
  refine owl 2 [6] ⟨[(6, .v (.bool ((List.length (((s.doP x.kind x.n x.data).1).seats) : Int) == (List.length s.seats : Int))))], (V8 s x)⟩ ?_
  refine rtr ?_
  refine ⟨.inr rfl, .v (.bool ((List.length (((s.doP x.kind x.n x.data).1).seats) : Int) == (List.length s.seats : Int))), by kernel_rfl, Ale.of_eq ?_⟩
  rotate_left
  rw [h2]
  have g2 := of_decide_eq_false h2
  refine owr 3 ⟨(V15 n s), (V8 s x)⟩ ?_
  refine owo (VI (List.length s.seats : Int)) [] [] ⟨(30, VI (List.length s.seats : Int)) :: (V15 n s), (V8 s x)⟩ (opE_len Seat.cs s.seats (.s 29) 5 (by kernel_rfl) (by kernel_rfl) (.inl rfl)) ?_
  refine owr 3 ⟨(33, .v (.bool (decide (n ≥ (List.length s.seats : Int))))) :: (32, .v (.bool (decide (n ≥ (List.length s.seats : Int))))) :: (31, .v (.bool (decide (n ≥ (List.length s.seats : Int))))) :: (30, VI (List.length s.seats : Int)) :: (V15 n s), (V8 s x)⟩ ?_
  rcases Bool.eq_false_or_eq_true (decide (n ≥ (List.length s.seats : Int))) with h3 | h3
  rw [h3]
  have g3 := of_decide_eq_true h3
  refine owl 8 [2, 3, 7, 41] ⟨(41, .v (.bool true)) :: (V10 n), (V8 s x)⟩ ?_
  refine cnT ?_
  refine srr 2 ⟨(V12 n s x), (V8 s x)⟩ ?_
  refine owo (VI (List.length (((s.doP x.kind x.n x.data).1).seats) : Int)) [] [] ⟨(V13 n s x), (V8 s x)⟩ (opE_len Seat.cs (((s.doP x.kind x.n x.data).1).seats) (.s 43) 5 (by kernel_rfl) (by kernel_rfl) (.inl rfl)) ?_
  refine owr 2 ⟨(V14 n s x), (V8 s x)⟩ ?_
  refine owo (VI (List.length s.seats : Int)) [] [] ⟨(47, VI (List.length s.seats : Int)) :: (V14 n s x), (V8 s x)⟩ (opE_len Seat.cs s.seats (.s 46) 5 (by kernel_rfl) (by kernel_rfl) (.inl rfl)) ?_
  refine owl 2 [6] ⟨[(6, .v (.bool ((List.length (((s.doP x.kind x.n x.data).1).seats) : Int) == (List.length s.seats : Int))))], (V8 s x)⟩ ?_
  refine rtr ?_
  refine ⟨.inr rfl, .v (.bool ((List.length (((s.doP x.kind x.n x.data).1).seats) : Int) == (List.length s.seats : Int))), by kernel_rfl, Ale.of_eq ?_⟩
  rotate_left
  rw [h3]
  have g3 := of_decide_eq_false h3
  refine owr 2 ⟨(V16 n s x), (V8 s x)⟩ ?_
  refine owo (VI (List.length (((s.doP x.kind x.n x.data).1).seats) : Int)) [] [] ⟨(V17 n s x), (V8 s x)⟩ (opE_len Seat.cs (((s.doP x.kind x.n x.data).1).seats) (.s 35) 5 (by kernel_rfl) (by kernel_rfl) (.inl rfl)) ?_
  refine owr 2 ⟨(V18 n s x), (V8 s x)⟩ ?_
  refine owo (VI (List.length s.seats : Int)) [] [] ⟨(39, VI (List.length s.seats : Int)) :: (V18 n s x), (V8 s x)⟩ (opE_len Seat.cs s.seats (.s 38) 5 (by kernel_rfl) (by kernel_rfl) (.inl rfl)) ?_
  refine owl 2 [2, 3, 7, 41] ⟨(41, .v (.bool ((List.length (((s.doP x.kind x.n x.data).1).seats) : Int) != (List.length s.seats : Int)))) :: (V10 n), (V8 s x)⟩ ?_
  rcases Bool.eq_false_or_eq_true (((List.length (((s.doP x.kind x.n x.data).1).seats) : Int) != (List.length s.seats : Int))) with h4 | h4
  rw [h4]
  have g4 : ¬ ((List.length (((s.doP x.kind x.n x.data).1).seats) : Int) = (List.length s.seats : Int)) := by simpa using h4
  have n4 : ¬ ((List.length (((s.doP x.kind x.n x.data).1).seats)) = (List.length s.seats)) := by omega
  refine cnT ?_
  refine srr 2 ⟨(V12 n s x), (V8 s x)⟩ ?_
  refine owo (VI (List.length (((s.doP x.kind x.n x.data).1).seats) : Int)) [] [] ⟨(V13 n s x), (V8 s x)⟩ (opE_len Seat.cs (((s.doP x.kind x.n x.data).1).seats) (.s 43) 5 (by kernel_rfl) (by kernel_rfl) (.inl rfl)) ?_
  refine owr 2 ⟨(V14 n s x), (V8 s x)⟩ ?_
  refine owo (VI (List.length s.seats : Int)) [] [] ⟨(47, VI (List.length s.seats : Int)) :: (V14 n s x), (V8 s x)⟩ (opE_len Seat.cs s.seats (.s 46) 5 (by kernel_rfl) (by kernel_rfl) (.inl rfl)) ?_
  refine owl 2 [6] ⟨[(6, .v (.bool ((List.length (((s.doP x.kind x.n x.data).1).seats) : Int) == (List.length s.seats : Int))))], (V8 s x)⟩ ?_
  refine rtr ?_
  refine ⟨.inr rfl, .v (.bool ((List.length (((s.doP x.kind x.n x.data).1).seats) : Int) == (List.length s.seats : Int))), by kernel_rfl, Ale.of_eq ?_⟩
  rotate_left
  rw [h4]
  have g4 : ((List.length (((s.doP x.kind x.n x.data).1).seats) : Int) = (List.length s.seats : Int)) := by simpa using h4
  have n4 : ((List.length (((s.doP x.kind x.n x.data).1).seats)) = (List.length s.seats)) := by omega
  refine cnF ?_
  refine skn ?_
  refine sdr 3 ⟨(V19 n s), (V8 s x)⟩ ?_
  obtain ⟨a6, ha6⟩ : ∃ y, s.seats[(n : Int).toNat]? = some y := idx_ex ⟨by omega, by omega⟩
  refine dwo (.pim [VI a6.promised.time, VI a6.promised.who, VI a6.kept.at_.time, VI a6.kept.at_.who, .v (.string a6.kept.data)] 0) [] [] ⟨(V20 a6 n s), (V8 s x)⟩ (opE_iad Seat.cs s.seats (.s 50) (.s 51) 5 .i64 n a6 (by kernel_rfl) (by kernel_rfl) (.inl rfl) rfl (by omega) ha6) ?_
  refine dwr 4 ⟨(V22 a6 n s x), (V8 s x)⟩ ?_
  obtain ⟨a8, ha8⟩ : ∃ y, (((s.doP x.kind x.n x.data).1).seats)[(n : Int).toNat]? = some y := idx_ex ⟨by omega, by omega⟩
  refine dwo (.pim [VI a8.promised.time, VI a8.promised.who, VI a8.kept.at_.time, VI a8.kept.at_.who, .v (.string a8.kept.data)] 0) [] [] ⟨(V23 a6 a8 n s x), (V8 s x)⟩ (opE_iad Seat.cs (((s.doP x.kind x.n x.data).1).seats) (.s 55) (.s 56) 5 .i64 n a8 (by kernel_rfl) (by kernel_rfl) (.inl rfl) rfl (by omega) ha8) ?_
  refine dwl 5 [9, 10] ⟨[(10, .ref 4 5 0 0), (9, .ref 3 5 0 0)], (V26 a6 a8 s x)⟩ ?_
  refine srr 4 ⟨(V27 a6 a8), (V26 a6 a8 s x)⟩ ?_
  refine owf [.agg [VI a8.promised.time, VI a8.promised.who], .agg [VI a6.promised.time, VI a6.promised.who]] ⟨(63, .v (.bool (decide (a8.promised.lt a6.promised)))) :: (V27 a6 a8), (V26 a6 a8 s x)⟩ F23_call (less_fn a8.promised a6.promised) ?_
  refine owr 2 ⟨(65, .v (.bool (!(decide (a8.promised.lt a6.promised))))) :: (64, .v (.bool (!(decide (a8.promised.lt a6.promised))))) :: (63, .v (.bool (decide (a8.promised.lt a6.promised)))) :: (V27 a6 a8), (V26 a6 a8 s x)⟩ ?_
  rcases Bool.eq_false_or_eq_true (decide (a8.promised.lt a6.promised)) with h9 | h9
  rw [h9]
  have g9 := of_decide_eq_true h9
  refine owl 19 [6] ⟨[(6, .v (.bool false))], (V26 a6 a8 s x)⟩ ?_
  refine EL.ret ?_
  refine ⟨.inr rfl, .v (.bool false), by kernel_rfl, Ale.of_eq ?_⟩
  rotate_left
  rw [h9]
  have g9 := of_decide_eq_false h9
  refine owr 5 ⟨(V28 a6 a8), (V26 a6 a8 s x)⟩ ?_
  refine owf [.agg [VI a8.promised.time, VI a8.promised.who], .agg [VI a8.kept.at_.time, VI a8.kept.at_.who]] ⟨(71, .v (.bool (decide (a8.promised.lt a8.kept.at_)))) :: (V28 a6 a8), (V26 a6 a8 s x)⟩ F23_call (less_fn a8.promised a8.kept.at_) ?_
  refine owr 3 ⟨(74, .v (.bool (!(decide (a8.promised.lt a8.kept.at_))))) :: (73, .v (.bool (!(decide (a8.promised.lt a8.kept.at_))))) :: (72, .v (.bool (!(decide (a8.promised.lt a8.kept.at_))))) :: (71, .v (.bool (decide (a8.promised.lt a8.kept.at_)))) :: (V28 a6 a8), (V26 a6 a8 s x)⟩ ?_
  rcases Bool.eq_false_or_eq_true (decide (a8.promised.lt a8.kept.at_)) with h10 | h10
  rw [h10]
  have g10 := of_decide_eq_true h10
  refine owl 10 [6] ⟨[(6, .v (.bool false))], (V26 a6 a8 s x)⟩ ?_
  refine EL.ret ?_
  refine ⟨.inr rfl, .v (.bool false), by kernel_rfl, Ale.of_eq ?_⟩
  rotate_left
  rw [h10]
  have g10 := of_decide_eq_false h10
  refine owr 6 ⟨(V29 a6 a8), (V26 a6 a8 s x)⟩ ?_
  refine owf [.agg [VI a8.kept.at_.time, VI a8.kept.at_.who], .agg [VI a6.kept.at_.time, VI a6.kept.at_.who]] ⟨(81, .v (.bool (decide (a8.kept.at_.lt a6.kept.at_)))) :: (V29 a6 a8), (V26 a6 a8 s x)⟩ F23_call (less_fn a8.kept.at_ a6.kept.at_) ?_
  refine owl 3 [6] ⟨[(6, .v (.bool (!(decide (a8.kept.at_.lt a6.kept.at_)))))], (V26 a6 a8 s x)⟩ ?_
  refine EL.ret ?_
  refine ⟨.inr rfl, .v (.bool (!(decide (a8.kept.at_.lt a6.kept.at_)))), by kernel_rfl, Ale.of_eq ?_⟩
  rotate_left
  all_goals (first | rfl | (rw [Synod.do_zero (by assumption)]; exact congrArg (fun b => AV.v (Value.bool b)) (decide_eq_true (Synod.same_self Synod.zero))) | (have hd := Synod.do_rises (s := s) (k := x.kind) (n := x.n) (d := x.data) (by assumption); first | (exfalso; omega) | (have hr := hd.2 n.toNat _ _ ‹s.seats[n.toNat]? = some _› ‹(s.doP x.kind x.n x.data).1.seats[n.toNat]? = some _›; first | (exfalso; obtain ⟨r1, r2, r3⟩ := hr; contradiction) | (simp [hr]; done)) | (simp [hd.1]; done)))
theorem SynodPromise_walk {w : World} (hG : GlE (E0 w fun b => b < w.heap.size)) (s : Synod) (css : List Value) (rs : GoT.rep w w.heap.size css s) (x : Step) (_okx : x.ok) (n : Int) (_wn : (Lit.int .i64 n).wf = true) : Calls Tryd.prog 10 #[.agg css.toArray, x.v, I n] w fun e w' => e = .returned (.bool true) ∧ Below w.heap.size w w' := by
  have ls := (Synod.av rs).2
  exact fn_law (vs := [.agg css.toArray, x.v, I n]) (synodPromise_fn s x n (by first | assumption | omega)) hG (.cons ((Synod.av rs).1) (.cons ((R2.agg (.cons (.v rfl) (.cons (.v rfl) (.cons (.v rfl) (.nil)))) : Rep _ x.v _)) (.cons (.v rfl) (.nil))))
theorem SynodPromise_own : ownKnob Tryd.prog.godebug = none := by kernel_rfl
theorem SynodPromise_laidOut : laidOutB Tryd.prog = true := by kernel_rfl
set_option maxRecDepth 100000 in
set_option linter.unusedVariables false in
theorem SynodPromise_lifted (os : Os) (started : os.Started) (H : Type) (enc : TypeId × Value → H) :
    ReturnsInHanded {} Tryd.checked os 10 .any (fun w args => (Rows.synodPromiseSpec.pre enc Tryd.prog Tryd.f10 [] false w args ∧ laidMetH Tryd.prog Rows.synodPromiseRow.laid w) ∧ sizedMet enc Tryd.prog Tryd.f10 (OpenSpec.ofChange Rows.synodPromiseSpec) false w args)
      (Rows.synodPromiseSpec.post enc Tryd.prog Tryd.f10 false true false false) := by
  refine returnsInHanded_of_change_and (C := Tryd.checked) (X := fun w _ => laidMetH Tryd.prog Rows.synodPromiseRow.laid w) (fun _ _ _ hh h => h.of_heap hh) SynodPromise_own started (by kernel_rfl) Tryd.func10
    (ChangeSpec.witness_shaped (enc := enc) (C := Tryd.checked) (os := os) (X := fun w _ => laidMetH Tryd.prog Rows.synodPromiseRow.laid w) false (World.doorLaid Tryd.prog 14 os) #[.agg #[.slice none 0 0, .int .i64 0, .slice none 0 0, .slice none 0 0, .slice none 0 0], .agg #[.int .i64 0, .int .i64 0, .string ByteArray.empty], .int .i64 0] 8 rfl (World.shaped_of_RefB (by kernel_rfl) (by kernel_rfl)) (by kernel_rfl) (by kernel_rfl) (by kernel_rfl) (laidMetH_of_parts3 (fuel := 8) (laidMet_of_run' 8 (by kernel_rfl) (by kernel_rfl)) (by kernel_rfl) (by kernel_rfl))) ?_
  intro W base args ds gs before hval0 hW _ _ hL _
  have hval : ∀ (j : Nat) t v, Tryd.f10.params[j]? = some t → args[j]? = some v → Value.okWide Tryd.prog W .any base t v := hval0
  have hW' := hW
  obtain ⟨p, q, hA0, hV, rfl, hfz, hnd⟩ := hW
  have hA : DataW.TrodAll enc Tryd.prog W 0 (fun _ => true) true Tryd.f10.params.toList args.toList ds p := hA0
  rw [Tryd.params10] at hA hval
  obtain ⟨v0, vs0, d0, ds0, p0, q0, hargs, rfl, rfl, h0, r0⟩ := trodAll_cons hA
  obtain ⟨v1, vs1, d1, ds1, p1, q1, rfl, rfl, rfl, h1, r1⟩ := trodAll_cons r0
  obtain ⟨v2, vs2, d2, ds2, p2, q2, rfl, rfl, rfl, h2, r2⟩ := trodAll_cons r1
  obtain ⟨rfl, rfl, rfl⟩ := trodAll_nil r2
  obtain rfl : args = #[v0, v1, v2] := by cases args; simp_all
  obtain ⟨rfl, rfl⟩ := trodVars_none hV
  have k0 := h0
  have lt0 : ∀ x ∈ p0, x.block < W.heap.size := by obtain ⟨m, hm⟩ := k0; exact DataW.trod_lt m _ _ _ hm
  obtain ⟨x0, cs0, rfl, w0⟩ := open_agg opens_Synod Tryd.underlying29 (hval 0 29 v0 rfl rfl) h0
  have k1 := h1
  have lt1 : ∀ x ∈ p1, x.block < W.heap.size := by obtain ⟨m, hm⟩ := k1; exact DataW.trod_lt m _ _ _ hm
  obtain ⟨x1, cs1, rfl, w1⟩ := open_agg opens_Step Tryd.underlying31 (hval 1 31 v1 rfl rfl) h1
  obtain ⟨rfl, ok1⟩ := Step.flat w1
  have k2 := h2
  have lt2 : ∀ x ∈ p2, x.block < W.heap.size := by obtain ⟨m, hm⟩ := k2; exact DataW.trod_lt m _ _ _ hm
  obtain ⟨a2, rfl, e2, e2', w2⟩ := open_int Tryd.underlying3 (hval 2 3 v2 rfl rfl) h2
  clear hA0 hval0
  refine (SynodPromise_walk (w := W) (glE_of hL) x0 cs0 w0 x1 ok1 a2 w2).mono fun e W' ⟨he, bel⟩ => ?_
  subst he
  exact ⟨_, rfl, _, _, _, [], _, [], hW', trodAll_mk1 (shut_bool Tryd.underlying4 _), (trodAll_cons_mk (Below.trod SynodPromise_laidOut (by kernel_rfl) (of_decide_eq_true (by kernel_rfl)) k0 bel lt0) (trodAll_cons_mk (Below.trod SynodPromise_laidOut (by kernel_rfl) (of_decide_eq_true (by kernel_rfl)) k1 bel lt1) (trodAll_cons_mk (Below.trod SynodPromise_laidOut (by kernel_rfl) (of_decide_eq_true (by kernel_rfl)) k2 bel lt2) trodAll_mk0))), rfl, bel.frame _, fun h => by cases h⟩
set_option maxRecDepth 100000 in
set_option maxHeartbeats 4000000 in
theorem SynodPromise_row : Rows.SynodPromiseSaid :=
  OpenClaim.holds_of_wide 10 Tryd.f10 rfl rfl rfl rfl rfl rfl rfl ⟨rfl, rfl, rfl, rfl, rfl⟩ rfl rfl rfl rfl rfl (by kernel_rfl) Tryd.func10 (by kernel_rfl)
    (of_decide_eq_true (by kernel_rfl)) (by unfold Func.isWrapper; first | (rw [if_pos (by decide +kernel)]; kernel_rfl) | (rw [if_neg (by decide +kernel)]; exact ⟨rfl, rfl⟩))
    (fun os started H enc _ => SynodPromise_lifted os started H enc)
set_option maxRecDepth 100000 in
set_option maxHeartbeats 4000000 in
theorem SynodPromise_holds : Rows.SynodPromiseCardSaid :=
  Claim7.holds_tied_plain_at .later [] [.data] true (true, "cb5fefe2008e8336ea9f5d78b4e645a098888375547093116390ebfe8b58d892") false
    SynodPromise_row (fun _ h => by cases h) (by kernel_rfl) (fun _ h => by cases h) synodPromise_row_tie rfl ⟨rfl, rfl⟩ (by kernel_rfl) rfl
    (fun f fn hf hfn => by
      obtain rfl : f = 10 := Option.some.inj ((show Tryd.prog.funcNamed "supercargo/supercargolaw.SynodPromise" = some 10 by kernel_rfl).symm.trans hf) |>.symm
      obtain rfl : fn = Tryd.f10 := (Option.some.inj (Tryd.func10.symm.trans hfn)).symm
      exact ⟨by kernel_rfl, fun j t ht => by
        rw [Tryd.params10] at ht
        have hm : t ∈ [29, 31, 3] := by simpa using Array.mem_of_getElem? ht
        have hall : ([29, 31, 3].all fun u => !Tryd.prog.wantsStandIn u) = true := by kernel_rfl
        exact (show Tryd.prog.wantsStandIn t = false by simpa using List.all_eq_true.1 hall t hm)⟩)
    (by kernel_rfl)
end Go.Proofs.YtligepciannclaaDoor
