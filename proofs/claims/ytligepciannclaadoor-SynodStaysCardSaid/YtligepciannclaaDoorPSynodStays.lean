/- What was once done is what is done later on, whatever follows: the law SynodStays returns true. No condition. -/
import Derived.Test.YtligepciannclaaDoorPSynJ
import Derived.WalkKit
import Derived.Handy
import Derived.ProofKit
import Derived.OpenShut
import Derived.ShutString
import Derived.ChangeOld
import Derived.Below
import Derived.Lib.Hide
import Derived.WalkLawsBesides
import Derived.WalkSpells
import Derived.Deep.QuietTactic
import Derived.BigQuiet
import Derived.Outline
import Derived.SevenTiedAt
namespace Go.Proofs.YtligepciannclaaDoor
set_option linter.unusedSimpArgs false
set_option linter.unusedVariables false
open Go.ChangeShapes Go.WideShapes Go.ChangeAt Go.RowKit
open Go.ChangeMaps (open_string shut_string)
set_option maxRecDepth 100000
set_option maxHeartbeats 4000000
section
variable (a14 : Bid) (a17 : Bid) (a5 : Bid) (i : Int) (k : Int) (l : List Step) (more : List Step) (v : Voters)
abbrev V0 : LS := [(5, .ref 0 2 0 0), (1, .lst 3 (l.map Step.cs)), (2, .lst 3 (more.map Step.cs)), (3, VI i), (4, VI k)]
abbrev V1 : LS := (18, .lst 3 (l.map Step.cs)) :: (17, .agg [.lst 1 (v.weights.map cI), VI v.need]) :: (V0 i k l more)
abbrev V2 : AV := .agg [.lst 1 (((((Synod.satP v l).1).voters).weights).map cI), VI ((((Synod.satP v l).1).voters).need), .lst 5 ((((Synod.satP v l).1).seats).map Seat.cs), .lst 8 ((((Synod.satP v l).1).bids).map Bid.cs), .lst 6 ((((Synod.satP v l).1).votes).map Vote.cs)]
abbrev V3 : OB := some ⟨5, [[.lst 1 (((((Synod.satP v l).1).voters).weights).map cI), VI ((((Synod.satP v l).1).voters).need), .lst 5 ((((Synod.satP v l).1).seats).map Seat.cs), .lst 8 ((((Synod.satP v l).1).bids).map Bid.cs), .lst 6 ((((Synod.satP v l).1).votes).map Vote.cs)]]⟩
abbrev V4 : LB := [some ⟨2, [[.lst 1 (v.weights.map cI), VI v.need]]⟩, (V3 l v)]
abbrev V5 : LS := [(11, .ref 1 5 0 0), (2, .lst 3 (more.map Step.cs)), (3, VI i), (4, VI k)]
abbrev V6 : LS := (27, VI i) :: (26, .v (.bool false)) :: (25, .v (.bool false)) :: (24, .v (.bool true)) :: (23, .v (.bool false)) :: (12, .v (.bool true)) :: (V5 i k more)
abbrev V7 : LS := (33, .lst 8 ((((Synod.satP v l).1).bids).map Bid.cs)) :: (32, .ref 1 5 0 3) :: (31, VI i) :: (30, .v (.bool false)) :: (29, .v (.bool false)) :: (28, .v (.bool false)) :: (V6 i k more)
abbrev V8 : LS := (34, VI (List.length (((Synod.satP v l).1).bids) : Int)) :: (V7 i k l more v)
abbrev V9 : LS := (40, VI i) :: (39, .lst 8 ((((Synod.satP v l).1).bids).map Bid.cs)) :: (38, .ref 1 5 0 3) :: (37, .v (.bool false)) :: (36, .v (.bool false)) :: (35, .v (.bool false)) :: (V8 i k l more v)
abbrev V10 : LS := (41, .pim [VI a5.time, VI a5.phase, .v (.string a5.own), .v (.string a5.value), VI a5.best.at_.time, VI a5.best.at_.who, .v (.string a5.best.data), .v (.int .u64 (a5.heard.n : Int))] 0) :: (V9 i k l more v)
abbrev V11 : LS := (48, .lst 3 (more.map Step.cs)) :: (47, (V2 l v)) :: (45, .v (.bool false)) :: (V5 i k more)
abbrev V12 : AV := .agg [.lst 1 (((((((Synod.satP v l).1).runP more).1).voters).weights).map cI), VI ((((((Synod.satP v l).1).runP more).1).voters).need), .lst 5 ((((((Synod.satP v l).1).runP more).1).seats).map Seat.cs), .lst 8 ((((((Synod.satP v l).1).runP more).1).bids).map Bid.cs), .lst 6 ((((((Synod.satP v l).1).runP more).1).votes).map Vote.cs)]
abbrev V13 : LS := (49, .tup [(V12 l more v), VI ((((Synod.satP v l).1).runP more).2.1), VI ((((Synod.satP v l).1).runP more).2.2)]) :: (V11 i k l more v)
abbrev V14 : OB := some ⟨5, [[.lst 1 (((((((Synod.satP v l).1).runP more).1).voters).weights).map cI), VI ((((((Synod.satP v l).1).runP more).1).voters).need), .lst 5 ((((((Synod.satP v l).1).runP more).1).seats).map Seat.cs), .lst 8 ((((((Synod.satP v l).1).runP more).1).bids).map Bid.cs), .lst 6 ((((((Synod.satP v l).1).runP more).1).votes).map Vote.cs)]]⟩
abbrev V15 : LB := [some ⟨2, [[.lst 1 (v.weights.map cI), VI v.need]]⟩, (V3 l v), (V14 l more v)]
abbrev V16 : LS := [(15, VI ((((Synod.satP v l).1).runP more).2.2)), (13, .ref 2 5 0 0), (11, .ref 1 5 0 0), (3, VI i), (4, VI k)]
abbrev V17 : LS := (53, VI ((((Synod.satP v l).1).runP more).2.2)) :: (V16 i k l more v)
abbrev V18 : LS := (66, VI ((((Synod.satP v l).1).runP more).2.2)) :: (65, .v (.bool true)) :: (V16 i k l more v)
abbrev V19 : LS := (56, VI k) :: (55, .v (.bool false)) :: (54, .v (.bool false)) :: (V17 i k l more v)
abbrev V20 : LS := (62, .lst 8 ((((((Synod.satP v l).1).runP more).1).bids).map Bid.cs)) :: (61, .ref 2 5 0 3) :: (60, VI k) :: (59, .v (.bool false)) :: (58, .v (.bool false)) :: (57, .v (.bool false)) :: (V19 i k l more v)
abbrev V21 : LS := (63, VI (List.length (((((Synod.satP v l).1).runP more).1).bids) : Int)) :: (V20 i k l more v)
abbrev V22 : LS := (74, VI i) :: (73, .lst 8 ((((((Synod.satP v l).1).runP more).1).bids).map Bid.cs)) :: (72, .ref 2 5 0 3) :: (65, .v (.bool false)) :: (V16 i k l more v)
abbrev V23 : LS := (75, .pim [VI a14.time, VI a14.phase, .v (.string a14.own), .v (.string a14.value), VI a14.best.at_.time, VI a14.best.at_.who, .v (.string a14.best.data), .v (.int .u64 (a14.heard.n : Int))] 0) :: (V22 i k l more v)
abbrev V24 : AV := .agg [VI a14.time, VI a14.phase, .v (.string a14.own), .v (.string a14.value), VI a14.best.at_.time, VI a14.best.at_.who, .v (.string a14.best.data), .v (.int .u64 (a14.heard.n : Int))]
abbrev V25 : LS := (79, VI i) :: (78, .lst 8 ((((Synod.satP v l).1).bids).map Bid.cs)) :: (77, .ref 1 5 0 3) :: (76, (V24 a14)) :: (V23 a14 i k l more v)
abbrev V26 : LS := (80, .pim [VI a5.time, VI a5.phase, .v (.string a5.own), .v (.string a5.value), VI a5.best.at_.time, VI a5.best.at_.who, .v (.string a5.best.data), .v (.int .u64 (a5.heard.n : Int))] 0) :: (V25 a14 i k l more v)
abbrev V27 : AV := .agg [VI a5.time, VI a5.phase, .v (.string a5.own), .v (.string a5.value), VI a5.best.at_.time, VI a5.best.at_.who, .v (.string a5.best.data), .v (.int .u64 (a5.heard.n : Int))]
abbrev V28 : LS := (86, VI k) :: (85, .lst 8 ((((((Synod.satP v l).1).runP more).1).bids).map Bid.cs)) :: (84, .ref 2 5 0 3) :: (83, .v (.bool true)) :: (82, .v (.bool true)) :: (81, (V27 a5)) :: (V26 a14 a5 i k l more v)
abbrev V29 : LS := (87, .pim [VI a17.time, VI a17.phase, .v (.string a17.own), .v (.string a17.value), VI a17.best.at_.time, VI a17.best.at_.who, .v (.string a17.best.data), .v (.int .u64 (a17.heard.n : Int))] 0) :: (V28 a14 a5 i k l more v)
abbrev V30 : LS := (89, VI a17.phase) :: (88, .pim [VI a17.time, VI a17.phase, .v (.string a17.own), .v (.string a17.value), VI a17.best.at_.time, VI a17.best.at_.who, .v (.string a17.best.data), .v (.int .u64 (a17.heard.n : Int))] 1) :: (V29 a14 a17 a5 i k l more v)
abbrev V31 : LS := (94, VI k) :: (93, .lst 8 ((((((Synod.satP v l).1).runP more).1).bids).map Bid.cs)) :: (92, .ref 2 5 0 3) :: (91, .v (.bool false)) :: (90, .v (.bool false)) :: (V30 a14 a17 a5 i k l more v)
abbrev V32 : LS := (95, .pim [VI a17.time, VI a17.phase, .v (.string a17.own), .v (.string a17.value), VI a17.best.at_.time, VI a17.best.at_.who, .v (.string a17.best.data), .v (.int .u64 (a17.heard.n : Int))] 0) :: (V31 a14 a17 a5 i k l more v)
abbrev V33 : LS := (100, VI i) :: (99, .lst 8 ((((Synod.satP v l).1).bids).map Bid.cs)) :: (98, .ref 1 5 0 3) :: (97, .v (.string a17.value)) :: (96, .pim [VI a17.time, VI a17.phase, .v (.string a17.own), .v (.string a17.value), VI a17.best.at_.time, VI a17.best.at_.who, .v (.string a17.best.data), .v (.int .u64 (a17.heard.n : Int))] 3) :: (V32 a14 a17 a5 i k l more v)
abbrev V34 : LS := (101, .pim [VI a5.time, VI a5.phase, .v (.string a5.own), .v (.string a5.value), VI a5.best.at_.time, VI a5.best.at_.who, .v (.string a5.best.data), .v (.int .u64 (a5.heard.n : Int))] 0) :: (V33 a14 a17 a5 i k l more v)
end
theorem synodStays_fn (v : Voters) (l : List Step) (more : List Step) (i : Int) (k : Int) (hx : v.weights.length ≤ 9223372036854775807) (hl : l.length ≤ 9223372036854775807) (hm : more.length ≤ 9223372036854775807) : Fn Tryd.prog 9 [.agg [.lst 1 (v.weights.map cI), VI v.need], .lst 3 (l.map Step.cs), .lst 3 (more.map Step.cs), VI i, VI k] (.v (.bool true)) := by
  refine fn_walkW F9_ok (of_decide_eq_true (by kernel_rfl)) ?_
  refine srl 2 [1, 2, 3, 4, 5] ⟨(V0 i k l more), [some ⟨2, [[.lst 1 (v.weights.map cI), VI v.need]]⟩]⟩ ?_
  refine srr 2 ⟨(V1 i k l more v), [some ⟨2, [[.lst 1 (v.weights.map cI), VI v.need]]⟩]⟩ ?_
  refine owf [.agg [.lst 1 (v.weights.map cI), VI v.need], .lst 3 (l.map Step.cs)] ⟨(19, .tup [(V2 l v), .v (.bool ((Synod.satP v l).2))]) :: (V1 i k l more v), [some ⟨2, [[.lst 1 (v.weights.map cI), VI v.need]]⟩]⟩ F22_call (sat_fn v l (by first | assumption | omega) (by omega)) ?_
  refine owl 6 [2, 3, 4, 11, 12] ⟨(12, .v (.bool ((Synod.satP v l).2))) :: (V5 i k more), (V4 l v)⟩ ?_
  refine EL.seq ?_
  refine EL.sreg ?_
  refine owf [] ⟨(22, .v (.bool true)) :: (12, .v (.bool ((Synod.satP v l).2))) :: (V5 i k more), (V4 l v)⟩ F16_call (sbegun_fn) ?_
  refine owl 1 [2, 3, 4, 11, 12, 23] ⟨(23, .v (.bool false)) :: (12, .v (.bool ((Synod.satP v l).2))) :: (V5 i k more), (V4 l v)⟩ ?_
  refine cnF ?_
  refine skn ?_
  refine EL.seq ?_
  refine srr 3 ⟨(26, .v (.bool (!((Synod.satP v l).2)))) :: (25, .v (.bool (!((Synod.satP v l).2)))) :: (24, .v (.bool ((Synod.satP v l).2))) :: (23, .v (.bool false)) :: (12, .v (.bool ((Synod.satP v l).2))) :: (V5 i k more), (V4 l v)⟩ ?_
  rcases Bool.eq_false_or_eq_true ((Synod.satP v l).2) with h1 | h1
  rw [h1]
  refine owr 4 ⟨(30, .v (.bool (decide (i < 0)))) :: (29, .v (.bool (decide (i < 0)))) :: (28, .v (.bool (decide (i < 0)))) :: (V6 i k more), (V4 l v)⟩ ?_
  rcases Bool.eq_false_or_eq_true (decide (i < 0)) with h2 | h2
  rw [h2]
  have g2 := of_decide_eq_true h2
  refine owl 15 [2, 3, 4, 11, 45] ⟨(45, .v (.bool true)) :: (V5 i k more), (V4 l v)⟩ ?_
  refine cnT ?_
  refine srl 1 [10] ⟨[(10, .v (.bool true))], (V4 l v)⟩ ?_
  refine rtr ?_
  refine ⟨.inr rfl, .v (.bool true), by kernel_rfl, Ale.of_eq ?_⟩
  rotate_left
  rw [h2]
  have g2 := of_decide_eq_false h2
  refine owr 3 ⟨(V7 i k l more v), (V4 l v)⟩ ?_
  refine owo (VI (List.length (((Synod.satP v l).1).bids) : Int)) [] [] ⟨(V8 i k l more v), (V4 l v)⟩ (opE_len Bid.cs (((Synod.satP v l).1).bids) (.s 33) 8 (by kernel_rfl) (by kernel_rfl) (.inl rfl)) ?_
  refine owr 3 ⟨(37, .v (.bool (decide (i ≥ (List.length (((Synod.satP v l).1).bids) : Int))))) :: (36, .v (.bool (decide (i ≥ (List.length (((Synod.satP v l).1).bids) : Int))))) :: (35, .v (.bool (decide (i ≥ (List.length (((Synod.satP v l).1).bids) : Int))))) :: (V8 i k l more v), (V4 l v)⟩ ?_
  rcases Bool.eq_false_or_eq_true (decide (i ≥ (List.length (((Synod.satP v l).1).bids) : Int))) with h3 | h3
  rw [h3]
  have g3 := of_decide_eq_true h3
  refine owl 8 [2, 3, 4, 11, 45] ⟨(45, .v (.bool true)) :: (V5 i k more), (V4 l v)⟩ ?_
  refine cnT ?_
  refine srl 1 [10] ⟨[(10, .v (.bool true))], (V4 l v)⟩ ?_
  refine rtr ?_
  refine ⟨.inr rfl, .v (.bool true), by kernel_rfl, Ale.of_eq ?_⟩
  rotate_left
  rw [h3]
  have g3 := of_decide_eq_false h3
  refine owr 3 ⟨(V9 i k l more v), (V4 l v)⟩ ?_
  obtain ⟨a5, ha5⟩ : ∃ y, (((Synod.satP v l).1).bids)[(i : Int).toNat]? = some y := idx_ex ⟨by omega, by first | omega | (have hst := (Synod.sat_sat (v := v) (l := l) (by assumption)).stays (l := more) (by assumption) ‹(Synod.satP v l).1.bids[i.toNat]? = some _› (by assumption); have hll := (List.getElem?_eq_some_iff.1 hst).1; omega)⟩
  refine owo (.pim [VI a5.time, VI a5.phase, .v (.string a5.own), .v (.string a5.value), VI a5.best.at_.time, VI a5.best.at_.who, .v (.string a5.best.data), .v (.int .u64 (a5.heard.n : Int))] 0) [] [] ⟨(V10 a5 i k l more v), (V4 l v)⟩ (opE_iad Bid.cs (((Synod.satP v l).1).bids) (.s 39) (.s 40) 8 .i64 i a5 (by kernel_rfl) (by kernel_rfl) (.inl rfl) rfl (by omega) ha5) ?_
  refine owl 4 [2, 3, 4, 11, 45] ⟨(45, .v (.bool (a5.phase != 3))) :: (V5 i k more), (V4 l v)⟩ ?_
  rcases Bool.eq_false_or_eq_true ((a5.phase != 3)) with h6 | h6
  rw [h6]
  have g6 : ¬ (a5.phase = 3) := by simpa using h6
  refine cnT ?_
  refine srl 1 [10] ⟨[(10, .v (.bool true))], (V4 l v)⟩ ?_
  refine rtr ?_
  refine ⟨.inr rfl, .v (.bool true), by kernel_rfl, Ale.of_eq ?_⟩
  rotate_left
  rw [h6]
  have g6 : (a5.phase = 3) := by simpa using h6
  refine cnF ?_
  refine skn ?_
  refine srr 2 ⟨(V11 i k l more v), (V4 l v)⟩ ?_
  refine owf [(V2 l v), .lst 3 (more.map Step.cs)] ⟨(V13 i k l more v), (V4 l v)⟩ F20_call (run_fn ((Synod.satP v l).1) more (by first | assumption | exact Synod.new_big (by first | assumption | decide) | exact Synod.run_big _ _ | exact Synod.do_big _ _ _ _ | exact Synod.sat_big (by assumption) | exact Synod.zero_big | exact Synod.Ok.big (by assumption)) (by first | omega | decide | (simp; omega))) ?_
  refine owl 8 [3, 4, 11, 13, 15] ⟨(V16 i k l more v), (V15 l more v)⟩ ?_
  refine EL.seq ?_
  refine srr 3 ⟨(55, .v (.bool (((((Synod.satP v l).1).runP more).2.2) != 0))) :: (54, .v (.bool (((((Synod.satP v l).1).runP more).2.2) != 0))) :: (V17 i k l more v), (V15 l more v)⟩ ?_
  rcases Bool.eq_false_or_eq_true ((((((Synod.satP v l).1).runP more).2.2) != 0)) with h7 | h7
  rw [h7]
  have g7 : ¬ (((((Synod.satP v l).1).runP more).2.2) = 0) := by simpa using h7
  refine owl 10 [3, 4, 11, 13, 15, 65] ⟨(65, .v (.bool true)) :: (V16 i k l more v), (V15 l more v)⟩ ?_
  refine cnT ?_
  refine srr 3 ⟨(68, .v (.bool (((((Synod.satP v l).1).runP more).2.2) == 0))) :: (67, .v (.bool (((((Synod.satP v l).1).runP more).2.2) == 0))) :: (V18 i k l more v), (V15 l more v)⟩ ?_
  have h8 : (((((Synod.satP v l).1).runP more).2.2) == 0) = false := (by rw [← Bool.not_not (((((Synod.satP v l).1).runP more).2.2) == 0)]; show (!(((((Synod.satP v l).1).runP more).2.2) != 0)) = _; rw [h7]; rfl)
  rw [h8]
  refine owl 4 [10] ⟨[(10, .v (.bool (((((Synod.satP v l).1).runP more).2.2) == 2)))], (V15 l more v)⟩ ?_
  refine rtr ?_
  refine ⟨.inr rfl, .v (.bool (((((Synod.satP v l).1).runP more).2.2) == 2)), by kernel_rfl, Ale.of_eq ?_⟩
  rotate_left
  rw [h7]
  have g7 : (((((Synod.satP v l).1).runP more).2.2) = 0) := by simpa using h7
  refine owr 4 ⟨(59, .v (.bool (decide (k < 0)))) :: (58, .v (.bool (decide (k < 0)))) :: (57, .v (.bool (decide (k < 0)))) :: (V19 i k l more v), (V15 l more v)⟩ ?_
  rcases Bool.eq_false_or_eq_true (decide (k < 0)) with h9 | h9
  rw [h9]
  have g9 := of_decide_eq_true h9
  refine owl 6 [3, 4, 11, 13, 15, 65] ⟨(65, .v (.bool true)) :: (V16 i k l more v), (V15 l more v)⟩ ?_
  refine cnT ?_
  refine srr 3 ⟨(68, .v (.bool (((((Synod.satP v l).1).runP more).2.2) == 0))) :: (67, .v (.bool (((((Synod.satP v l).1).runP more).2.2) == 0))) :: (V18 i k l more v), (V15 l more v)⟩ ?_
  have h10 : (((((Synod.satP v l).1).runP more).2.2) == 0) = true := (by rw [← Bool.not_not (((((Synod.satP v l).1).runP more).2.2) == 0)]; show (!(((((Synod.satP v l).1).runP more).2.2) != 0)) = _; rw [h7]; rfl)
  rw [h10]
  refine owl 4 [10] ⟨[(10, .v (.bool true))], (V15 l more v)⟩ ?_
  refine rtr ?_
  refine ⟨.inr rfl, .v (.bool true), by kernel_rfl, Ale.of_eq ?_⟩
  rotate_left
  rw [h9]
  have g9 := of_decide_eq_false h9
  refine owr 3 ⟨(V20 i k l more v), (V15 l more v)⟩ ?_
  refine owo (VI (List.length (((((Synod.satP v l).1).runP more).1).bids) : Int)) [] [] ⟨(V21 i k l more v), (V15 l more v)⟩ (opE_len Bid.cs (((((Synod.satP v l).1).runP more).1).bids) (.s 62) 8 (by kernel_rfl) (by kernel_rfl) (.inl rfl)) ?_
  refine owl 2 [3, 4, 11, 13, 15, 65] ⟨(65, .v (.bool (decide (k ≥ (List.length (((((Synod.satP v l).1).runP more).1).bids) : Int))))) :: (V16 i k l more v), (V15 l more v)⟩ ?_
  rcases Bool.eq_false_or_eq_true (decide (k ≥ (List.length (((((Synod.satP v l).1).runP more).1).bids) : Int))) with h11 | h11
  rw [h11]
  have g11 := of_decide_eq_true h11
  refine cnT ?_
  refine srr 3 ⟨(68, .v (.bool (((((Synod.satP v l).1).runP more).2.2) == 0))) :: (67, .v (.bool (((((Synod.satP v l).1).runP more).2.2) == 0))) :: (V18 i k l more v), (V15 l more v)⟩ ?_
  have h12 : (((((Synod.satP v l).1).runP more).2.2) == 0) = true := (by rw [← Bool.not_not (((((Synod.satP v l).1).runP more).2.2) == 0)]; show (!(((((Synod.satP v l).1).runP more).2.2) != 0)) = _; rw [h7]; rfl)
  rw [h12]
  refine owl 4 [10] ⟨[(10, .v (.bool true))], (V15 l more v)⟩ ?_
  refine rtr ?_
  refine ⟨.inr rfl, .v (.bool true), by kernel_rfl, Ale.of_eq ?_⟩
  rotate_left
  rw [h11]
  have g11 := of_decide_eq_false h11
  refine cnF ?_
  refine skn ?_
  refine sdr 3 ⟨(V22 i k l more v), (V15 l more v)⟩ ?_
  obtain ⟨a14, ha14⟩ : ∃ y, (((((Synod.satP v l).1).runP more).1).bids)[(i : Int).toNat]? = some y := idx_ex ⟨by omega, by first | omega | (have hst := (Synod.sat_sat (v := v) (l := l) (by assumption)).stays (l := more) (by assumption) ‹(Synod.satP v l).1.bids[i.toNat]? = some _› (by assumption); have hll := (List.getElem?_eq_some_iff.1 hst).1; omega)⟩
  refine dwo (.pim [VI a14.time, VI a14.phase, .v (.string a14.own), .v (.string a14.value), VI a14.best.at_.time, VI a14.best.at_.who, .v (.string a14.best.data), .v (.int .u64 (a14.heard.n : Int))] 0) [] [] ⟨(V23 a14 i k l more v), (V15 l more v)⟩ (opE_iad Bid.cs (((((Synod.satP v l).1).runP more).1).bids) (.s 73) (.s 74) 8 .i64 i a14 (by kernel_rfl) (by kernel_rfl) (.inl rfl) rfl (by omega) ha14) ?_
  refine dwr 4 ⟨(V25 a14 i k l more v), (V15 l more v)⟩ ?_
  refine dwo (.pim [VI a5.time, VI a5.phase, .v (.string a5.own), .v (.string a5.value), VI a5.best.at_.time, VI a5.best.at_.who, .v (.string a5.best.data), .v (.int .u64 (a5.heard.n : Int))] 0) [] [] ⟨(V26 a14 a5 i k l more v), (V15 l more v)⟩ (opE_iad Bid.cs (((Synod.satP v l).1).bids) (.s 78) (.s 79) 8 .i64 i a5 (by kernel_rfl) (by kernel_rfl) (.inl rfl) rfl (by omega) ha5) ?_
  refine dwr 3 ⟨(83, .v (.bool ((a14.time == a5.time) && ((a14.phase == a5.phase) && (strEq a14.own a5.own && (strEq a14.value a5.value && ((a14.best.at_.time == a5.best.at_.time) && ((a14.best.at_.who == a5.best.at_.who) && (strEq a14.best.data a5.best.data && (((a14.heard.n : Int) == (a5.heard.n : Int)) && true)))))))))) :: (82, .v (.bool ((a14.time == a5.time) && ((a14.phase == a5.phase) && (strEq a14.own a5.own && (strEq a14.value a5.value && ((a14.best.at_.time == a5.best.at_.time) && ((a14.best.at_.who == a5.best.at_.who) && (strEq a14.best.data a5.best.data && (((a14.heard.n : Int) == (a5.heard.n : Int)) && true)))))))))) :: (81, (V27 a5)) :: (V26 a14 a5 i k l more v), (V15 l more v)⟩ ?_
  rcases Bool.eq_false_or_eq_true (((a14.time == a5.time) && ((a14.phase == a5.phase) && (strEq a14.own a5.own && (strEq a14.value a5.value && ((a14.best.at_.time == a5.best.at_.time) && ((a14.best.at_.who == a5.best.at_.who) && (strEq a14.best.data a5.best.data && (((a14.heard.n : Int) == (a5.heard.n : Int)) && true))))))))) with h15 | h15
  rw [h15]
  have g15 : a14.time = a5.time ∧ a14.phase = a5.phase ∧ a14.own = a5.own ∧ a14.value = a5.value ∧ a14.best.at_.time = a5.best.at_.time ∧ a14.best.at_.who = a5.best.at_.who ∧ a14.best.data = a5.best.data ∧ (a14.heard.n : Int) = (a5.heard.n : Int) := by simpa [strEq_iff] using h15
  refine dwr 3 ⟨(V28 a14 a5 i k l more v), (V15 l more v)⟩ ?_
  obtain ⟨a17, ha17⟩ : ∃ y, (((((Synod.satP v l).1).runP more).1).bids)[(k : Int).toNat]? = some y := idx_ex ⟨by omega, by omega⟩
  refine dwo (.pim [VI a17.time, VI a17.phase, .v (.string a17.own), .v (.string a17.value), VI a17.best.at_.time, VI a17.best.at_.who, .v (.string a17.best.data), .v (.int .u64 (a17.heard.n : Int))] 0) [] [] ⟨(V29 a14 a17 a5 i k l more v), (V15 l more v)⟩ (opE_iad Bid.cs (((((Synod.satP v l).1).runP more).1).bids) (.s 85) (.s 86) 8 .i64 k a17 (by kernel_rfl) (by kernel_rfl) (.inl rfl) rfl (by omega) ha17) ?_
  refine dwr 4 ⟨(91, .v (.bool (a17.phase != 3))) :: (90, .v (.bool (a17.phase != 3))) :: (V30 a14 a17 a5 i k l more v), (V15 l more v)⟩ ?_
  rcases Bool.eq_false_or_eq_true ((a17.phase != 3)) with h18 | h18
  rw [h18]
  have g18 : ¬ (a17.phase = 3) := by simpa using h18
  refine dwl 16 [10] ⟨[(10, .v (.bool true))], (V15 l more v)⟩ ?_
  refine EL.ret ?_
  refine ⟨.inr rfl, .v (.bool true), by kernel_rfl, Ale.of_eq ?_⟩
  rotate_left
  rw [h18]
  have g18 : (a17.phase = 3) := by simpa using h18
  refine dwr 3 ⟨(V31 a14 a17 a5 i k l more v), (V15 l more v)⟩ ?_
  refine dwo (.pim [VI a17.time, VI a17.phase, .v (.string a17.own), .v (.string a17.value), VI a17.best.at_.time, VI a17.best.at_.who, .v (.string a17.best.data), .v (.int .u64 (a17.heard.n : Int))] 0) [] [] ⟨(V32 a14 a17 a5 i k l more v), (V15 l more v)⟩ (opE_iad Bid.cs (((((Synod.satP v l).1).runP more).1).bids) (.s 93) (.s 94) 8 .i64 k a17 (by kernel_rfl) (by kernel_rfl) (.inl rfl) rfl (by omega) ha17) ?_
  refine dwr 5 ⟨(V33 a14 a17 a5 i k l more v), (V15 l more v)⟩ ?_
  refine dwo (.pim [VI a5.time, VI a5.phase, .v (.string a5.own), .v (.string a5.value), VI a5.best.at_.time, VI a5.best.at_.who, .v (.string a5.best.data), .v (.int .u64 (a5.heard.n : Int))] 0) [] [] ⟨(V34 a14 a17 a5 i k l more v), (V15 l more v)⟩ (opE_iad Bid.cs (((Synod.satP v l).1).bids) (.s 99) (.s 100) 8 .i64 i a5 (by kernel_rfl) (by kernel_rfl) (.inl rfl) rfl (by omega) ha5) ?_
  refine dwl 6 [10] ⟨[(10, .v (.bool (strEq a17.value a5.value)))], (V15 l more v)⟩ ?_
  refine EL.ret ?_
  refine ⟨.inr rfl, .v (.bool (strEq a17.value a5.value)), by kernel_rfl, Ale.of_eq ?_⟩
  rotate_left
  rw [h15]
  have g15 : ¬ (a14.time = a5.time ∧ a14.phase = a5.phase ∧ a14.own = a5.own ∧ a14.value = a5.value ∧ a14.best.at_.time = a5.best.at_.time ∧ a14.best.at_.who = a5.best.at_.who ∧ a14.best.data = a5.best.data ∧ (a14.heard.n : Int) = (a5.heard.n : Int)) := fun ⟨q0, q1, q2, q3, q4, q5, q6, q7⟩ => Bool.noConfusion ((show (((a14.time == a5.time) && ((a14.phase == a5.phase) && (strEq a14.own a5.own && (strEq a14.value a5.value && ((a14.best.at_.time == a5.best.at_.time) && ((a14.best.at_.who == a5.best.at_.who) && (strEq a14.best.data a5.best.data && (((a14.heard.n : Int) == (a5.heard.n : Int)) && true))))))))) = true by first | (simp [q0, q1, q2, q3, q4, q5, q6, q7, strEq_iff]; done) | (simp only [q0, q1, q2, q3, q4, q5, q6, q7, beq_self_eq_true, Bool.and_self, Bool.and_true, Bool.true_and]; done)).symm.trans h15)
  refine dwl 24 [10] ⟨[(10, .v (.bool false))], (V15 l more v)⟩ ?_
  refine EL.ret ?_
  refine ⟨.inr rfl, .v (.bool false), by kernel_rfl, Ale.of_eq ?_⟩
  rotate_left
  rw [h1]
  refine owl 19 [2, 3, 4, 11, 45] ⟨(45, .v (.bool true)) :: (V5 i k more), (V4 l v)⟩ ?_
  refine cnT ?_
  refine srl 1 [10] ⟨[(10, .v (.bool true))], (V4 l v)⟩ ?_
  refine rtr ?_
  refine ⟨.inr rfl, .v (.bool true), by kernel_rfl, Ale.of_eq ?_⟩
  rotate_left
  all_goals (first | rfl | (rw [Synod.run_err (Synod.sat_sat (v := v) (l := l) (by assumption)).ok (by assumption)]; rfl) | (have S := (Synod.sat_sat (v := v) (l := l) (by assumption)); have hst := S.stays (l := more) (by assumption) ‹(Synod.satP v l).1.bids[i.toNat]? = some _› (by assumption); first | (have hag := (S.runs (l := more) (by assumption)).2.agrees hst ‹((Synod.satP v l).1.runP more).1.bids[k.toNat]? = some _› (by assumption) (by assumption); rw [← hag]; simp [strEq]; done) | (exfalso; simp only [hst, Option.some.injEq] at *; subst_vars; simp_all; done)))
theorem SynodStays_walk {w : World} (hG : GlE (E0 w fun b => b < w.heap.size)) (v : Voters) (csv : List Value) (rv : GoT.rep w w.heap.size csv v) (l : List Step) (Al : Option Addr) (nl cl : Nat) (rl : GoT.rep w w.heap.size [.slice Al nl cl] l) (more : List Step) (Amore : Option Addr) (nmore cmore : Nat) (rmore : GoT.rep w w.heap.size [.slice Amore nmore cmore] more) (i : Int) (_wi : (Lit.int .i64 i).wf = true) (k : Int) (_wk : (Lit.int .i64 k).wf = true) : Calls Tryd.prog 9 #[.agg csv.toArray, .slice Al nl cl, .slice Amore nmore cmore, I i, I k] w fun e w' => e = .returned (.bool true) ∧ Below w.heap.size w w' := by
  have lv := (Voters.av rv).2
  have ll := rep_len rl
  have lmore := rep_len rmore
  exact fn_law (vs := [.agg csv.toArray, .slice Al nl cl, .slice Amore nmore cmore, I i, I k]) (synodStays_fn v l more i k (by first | assumption | omega) (by first | assumption | omega) (by first | assumption | omega)) hG (.cons ((Voters.av rv).1) (.cons (rep_list (fun x : Step => [I x.kind, I x.n, .string x.data]) _ Step.flat (fun _ => rfl) (by intro x v hv; simp at hv; rcases hv with rfl | rfl | rfl <;> exact ⟨rfl, rfl⟩) rl) (.cons (rep_list (fun x : Step => [I x.kind, I x.n, .string x.data]) _ Step.flat (fun _ => rfl) (by intro x v hv; simp at hv; rcases hv with rfl | rfl | rfl <;> exact ⟨rfl, rfl⟩) rmore) (.cons (.v rfl) (.cons (.v rfl) (.nil))))))
theorem SynodStays_own : ownKnob Tryd.prog.godebug = none := by kernel_rfl
theorem SynodStays_laidOut : laidOutB Tryd.prog = true := by kernel_rfl
set_option maxRecDepth 100000 in
set_option linter.unusedVariables false in
theorem SynodStays_lifted (os : Os) (started : os.Started) (H : Type) (enc : TypeId × Value → H) :
    ReturnsInHanded {} Tryd.checked os 9 .any (fun w args => (Rows.synodStaysSpec.pre enc Tryd.prog Tryd.f9 [] false w args ∧ laidMetH Tryd.prog Rows.synodStaysRow.laid w) ∧ sizedMet enc Tryd.prog Tryd.f9 (OpenSpec.ofChange Rows.synodStaysSpec) false w args)
      (Rows.synodStaysSpec.post enc Tryd.prog Tryd.f9 false true false false) := by
  refine returnsInHanded_of_change_and (C := Tryd.checked) (X := fun w _ => laidMetH Tryd.prog Rows.synodStaysRow.laid w) (fun _ _ _ hh h => h.of_heap hh) SynodStays_own started (by kernel_rfl) Tryd.func9
    (ChangeSpec.witness_shaped (enc := enc) (C := Tryd.checked) (os := os) (X := fun w _ => laidMetH Tryd.prog Rows.synodStaysRow.laid w) false (World.doorLaid Tryd.prog 14 os) #[.agg #[.slice none 0 0, .int .i64 0], .slice none 0 0, .slice none 0 0, .int .i64 0, .int .i64 0] 8 rfl (World.shaped_of_RefB (by kernel_rfl) (by kernel_rfl)) (by kernel_rfl) (by kernel_rfl) (by kernel_rfl) (laidMetH_of_parts3 (fuel := 8) (laidMet_of_run' 8 (by kernel_rfl) (by kernel_rfl)) (by kernel_rfl) (by kernel_rfl))) ?_
  intro W base args ds gs before hval0 hW _ _ hL _
  have hval : ∀ (j : Nat) t v, Tryd.f9.params[j]? = some t → args[j]? = some v → Value.okWide Tryd.prog W .any base t v := hval0
  have hW' := hW
  obtain ⟨p, q, hA0, hV, rfl, hfz, hnd⟩ := hW
  have hA : DataW.TrodAll enc Tryd.prog W 0 (fun _ => true) true Tryd.f9.params.toList args.toList ds p := hA0
  rw [Tryd.params9] at hA hval
  obtain ⟨v0, vs0, d0, ds0, p0, q0, hargs, rfl, rfl, h0, r0⟩ := trodAll_cons hA
  obtain ⟨v1, vs1, d1, ds1, p1, q1, rfl, rfl, rfl, h1, r1⟩ := trodAll_cons r0
  obtain ⟨v2, vs2, d2, ds2, p2, q2, rfl, rfl, rfl, h2, r2⟩ := trodAll_cons r1
  obtain ⟨v3, vs3, d3, ds3, p3, q3, rfl, rfl, rfl, h3, r3⟩ := trodAll_cons r2
  obtain ⟨v4, vs4, d4, ds4, p4, q4, rfl, rfl, rfl, h4, r4⟩ := trodAll_cons r3
  obtain ⟨rfl, rfl, rfl⟩ := trodAll_nil r4
  obtain rfl : args = #[v0, v1, v2, v3, v4] := by cases args; simp_all
  obtain ⟨rfl, rfl⟩ := trodVars_none hV
  have k0 := h0
  have lt0 : ∀ x ∈ p0, x.block < W.heap.size := by obtain ⟨m, hm⟩ := k0; exact DataW.trod_lt m _ _ _ hm
  obtain ⟨x0, cs0, rfl, w0⟩ := open_agg opens_Voters Tryd.underlying24 (hval 0 24 v0 rfl rfl) h0
  have k1 := h1
  have lt1 : ∀ x ∈ p1, x.block < W.heap.size := by obtain ⟨m, hm⟩ := k1; exact DataW.trod_lt m _ _ _ hm
  obtain ⟨x1, A1, n1, c1, rfl, w1⟩ := open_list opens_LStep Tryd.underlying40 (hval 1 40 v1 rfl rfl) h1
  have k2 := h2
  have lt2 : ∀ x ∈ p2, x.block < W.heap.size := by obtain ⟨m, hm⟩ := k2; exact DataW.trod_lt m _ _ _ hm
  obtain ⟨x2, A2, n2, c2, rfl, w2⟩ := open_list opens_LStep Tryd.underlying40 (hval 2 40 v2 rfl rfl) h2
  have k3 := h3
  have lt3 : ∀ x ∈ p3, x.block < W.heap.size := by obtain ⟨m, hm⟩ := k3; exact DataW.trod_lt m _ _ _ hm
  obtain ⟨a3, rfl, e3, e3', w3⟩ := open_int Tryd.underlying3 (hval 3 3 v3 rfl rfl) h3
  have k4 := h4
  have lt4 : ∀ x ∈ p4, x.block < W.heap.size := by obtain ⟨m, hm⟩ := k4; exact DataW.trod_lt m _ _ _ hm
  obtain ⟨a4, rfl, e4, e4', w4⟩ := open_int Tryd.underlying3 (hval 4 3 v4 rfl rfl) h4
  clear hA0 hval0
  refine (SynodStays_walk (w := W) (glE_of hL) x0 cs0 w0 x1 A1 n1 c1 w1 x2 A2 n2 c2 w2 a3 w3 a4 w4).mono fun e W' ⟨he, bel⟩ => ?_
  subst he
  exact ⟨_, rfl, _, _, _, [], _, [], hW', trodAll_mk1 (shut_bool Tryd.underlying4 _), (trodAll_cons_mk (Below.trod SynodStays_laidOut (by kernel_rfl) (of_decide_eq_true (by kernel_rfl)) k0 bel lt0) (trodAll_cons_mk (Below.trod SynodStays_laidOut (by kernel_rfl) (of_decide_eq_true (by kernel_rfl)) k1 bel lt1) (trodAll_cons_mk (Below.trod SynodStays_laidOut (by kernel_rfl) (of_decide_eq_true (by kernel_rfl)) k2 bel lt2) (trodAll_cons_mk (Below.trod SynodStays_laidOut (by kernel_rfl) (of_decide_eq_true (by kernel_rfl)) k3 bel lt3) (trodAll_cons_mk (Below.trod SynodStays_laidOut (by kernel_rfl) (of_decide_eq_true (by kernel_rfl)) k4 bel lt4) trodAll_mk0))))), rfl, bel.frame _, fun h => by cases h⟩
set_option maxRecDepth 100000 in
set_option maxHeartbeats 4000000 in
theorem SynodStays_row : Rows.SynodStaysSaid :=
  OpenClaim.holds_of_wide 9 Tryd.f9 rfl rfl rfl rfl rfl rfl rfl ⟨rfl, rfl, rfl, rfl, rfl⟩ rfl rfl rfl rfl rfl (by kernel_rfl) Tryd.func9 (by kernel_rfl)
    (of_decide_eq_true (by kernel_rfl)) (by unfold Func.isWrapper; first | (rw [if_pos (by decide +kernel)]; kernel_rfl) | (rw [if_neg (by decide +kernel)]; exact ⟨rfl, rfl⟩))
    (fun os started H enc _ => SynodStays_lifted os started H enc)
set_option maxRecDepth 100000 in
set_option maxHeartbeats 4000000 in
theorem SynodStays_holds : Rows.SynodStaysCardSaid :=
  Claim7.holds_tied_plain_at .later [] [.data] true (true, "cb5fefe2008e8336ea9f5d78b4e645a098888375547093116390ebfe8b58d892") false
    SynodStays_row (fun _ h => by cases h) (by kernel_rfl) (fun _ h => by cases h) synodStays_row_tie rfl ⟨rfl, rfl⟩ (by kernel_rfl) rfl
    (fun f fn hf hfn => by
      obtain rfl : f = 9 := Option.some.inj ((show Tryd.prog.funcNamed "supercargo/supercargolaw.SynodStays" = some 9 by kernel_rfl).symm.trans hf) |>.symm
      obtain rfl : fn = Tryd.f9 := (Option.some.inj (Tryd.func9.symm.trans hfn)).symm
      exact ⟨by kernel_rfl, fun j t ht => by
        rw [Tryd.params9] at ht
        have hm : t ∈ [24, 40, 40, 3, 3] := by simpa using Array.mem_of_getElem? ht
        have hall : ([24, 40, 40, 3, 3].all fun u => !Tryd.prog.wantsStandIn u) = true := by kernel_rfl
        exact (show Tryd.prog.wantsStandIn t = false by simpa using List.all_eq_true.1 hall t hm)⟩)
    (by kernel_rfl)
end Go.Proofs.YtligepciannclaaDoor
