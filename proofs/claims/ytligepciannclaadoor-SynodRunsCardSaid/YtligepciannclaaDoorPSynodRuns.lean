/- Run returns what the document says, errors included; in two parts it is the same: the law SynodRuns returns true. No condition. -/
import Derived.Test.YtligepciannclaaDoorPSynJ
import Derived.WalkKit
import Derived.Handy
import Derived.ProofKit
import Derived.OpenShut
import Derived.ShutString
import Derived.ChangeOld
import Derived.Below
import Derived.Lib.Hide
import Derived.WalkLawsBesides
import Derived.WalkSpells
import Derived.Deep.QuietTactic
import Derived.BigQuiet
import Derived.Outline
import Derived.SevenTiedAt
set_option linter.unusedSimpArgs false
set_option linter.unusedVariables false
set_option maxHeartbeats 4000000
set_option maxRecDepth 100000
namespace Go.Proofs.YtligepciannclaaDoor
open Go.ChangeShapes Go.WideShapes Go.ChangeAt Go.RowKit
open Go.ChangeMaps (open_string shut_string)
theorem Syn.eta (x : Syn) : (⟨x.voters, x.seats, x.bids, x.votes⟩ : Syn) = x := rfl
section
variable (k : Int) (l : List Step) (s : Syn)
abbrev V37 := (s.runP (List.take (k : Int).toNat l))
abbrev V38 := (List.drop (k : Int).toNat l)
abbrev V39 := (Syn.same ((s.runP l).1) ((s.runP l).1))
abbrev V0 : OB := some ⟨5, [[.lst 1 (s.voters.weights.map cI), VI s.voters.need, .lst 5 (s.seats.map Seat.cs), .lst 8 (s.bids.map Bid.cs), .lst 6 (s.votes.map Vote.cs)]]⟩
abbrev V1 : LS := [(3, .ref 0 5 0 0), (1, .lst 3 (l.map Step.cs)), (2, VI k)]
abbrev V2 : AV := .agg [.lst 1 (s.voters.weights.map cI), VI s.voters.need, .lst 5 (s.seats.map Seat.cs), .lst 8 (s.bids.map Bid.cs), .lst 6 (s.votes.map Vote.cs)]
abbrev V3 : LS := (21, .lst 3 (l.map Step.cs)) :: (20, (V2 s)) :: (V1 k l)
abbrev V4 : AV := .agg [.lst 1 (((((s.runP l).1).voters).weights).map cI), VI ((((s.runP l).1).voters).need), .lst 5 ((((s.runP l).1).seats).map Seat.cs), .lst 8 ((((s.runP l).1).bids).map Bid.cs), .lst 6 ((((s.runP l).1).votes).map Vote.cs)]
abbrev V5 : LS := (22, .tup [(V4 l s), VI ((s.runP l).2.1), VI ((s.runP l).2.2)]) :: (V3 k l s)
abbrev V6 : OB := some ⟨5, [[.lst 1 (((((s.runP l).1).voters).weights).map cI), VI ((((s.runP l).1).voters).need), .lst 5 ((((s.runP l).1).seats).map Seat.cs), .lst 8 ((((s.runP l).1).bids).map Bid.cs), .lst 6 ((((s.runP l).1).votes).map Vote.cs)]]⟩
abbrev V7 : LS := (9, VI ((s.runP l).2.2)) :: (8, VI ((s.runP l).2.1)) :: (7, .ref 1 5 0 0) :: (V1 k l)
abbrev V8 : LS := (28, .lst 3 (l.map Step.cs)) :: (27, (V2 s)) :: (V7 k l s)
abbrev V9 : LS := (29, .tup [(V4 l s), VI ((s.runP l).2.1), VI ((s.runP l).2.2)]) :: (V8 k l s)
abbrev V10 : LS := (12, VI ((s.runP l).2.2)) :: (11, VI ((s.runP l).2.1)) :: (10, .ref 2 5 0 0) :: (V7 k l s)
abbrev V11 : LS := (37, (V4 l s)) :: (36, (V4 l s)) :: (35, .v (.bool false)) :: (34, .v (.bool false)) :: (33, .v (.bool true)) :: (V10 k l s)
abbrev V12 : LS := (43, VI ((s.runP l).2.1)) :: (42, VI ((s.runP l).2.1)) :: (41, .v (.bool false)) :: (40, .v (.bool false)) :: (39, .v (.bool false)) :: (38, .v (.bool true)) :: (V11 k l s)
abbrev V13 : LS := (51, VI ((s.runP l).2.2)) :: (50, .v (.bool false)) :: (V7 k l s)
abbrev V14 : LS := (62, .v (.bool true)) :: (8, VI ((s.runP l).2.1)) :: (7, .ref 1 5 0 0) :: (V1 k l)
abbrev V15 : LS := (54, VI k) :: (53, .v (.bool false)) :: (52, .v (.bool false)) :: (V13 k l s)
abbrev V16 : LS := (59, .lst 3 (l.map Step.cs)) :: (58, VI k) :: (57, .v (.bool false)) :: (56, .v (.bool false)) :: (55, .v (.bool false)) :: (V15 k l s)
abbrev V17 : LS := (8, VI ((s.runP l).2.1)) :: (7, .ref 1 5 0 0) :: (V1 k l)
abbrev V18 : LS := (66, VI k) :: (65, .lst 3 (l.map Step.cs)) :: (64, (V2 s)) :: (62, .v (.bool false)) :: (V17 k l s)
abbrev V19 : LS := (67, .lst 3 (((List.take (k : Int).toNat l)).map Step.cs)) :: (V18 k l s)
abbrev V20 : AV := .agg [.lst 1 (((((V37 k l s).1).voters).weights).map cI), VI ((((V37 k l s).1).voters).need), .lst 5 ((((V37 k l s).1).seats).map Seat.cs), .lst 8 ((((V37 k l s).1).bids).map Bid.cs), .lst 6 ((((V37 k l s).1).votes).map Vote.cs)]
abbrev V21 : LS := (68, .tup [(V20 k l s), VI ((V37 k l s).2.1), VI ((V37 k l s).2.2)]) :: (V19 k l s)
abbrev V22 : OB := some ⟨5, [[.lst 1 (((((V37 k l s).1).voters).weights).map cI), VI ((((V37 k l s).1).voters).need), .lst 5 ((((V37 k l s).1).seats).map Seat.cs), .lst 8 ((((V37 k l s).1).bids).map Bid.cs), .lst 6 ((((V37 k l s).1).votes).map Vote.cs)]]⟩
abbrev V23 : LB := [(V0 s), (V6 l s), (V6 l s), (V22 k l s)]
abbrev V24 : LS := [(15, VI ((V37 k l s).2.2)), (14, VI ((V37 k l s).2.1)), (13, .ref 3 5 0 0), (8, VI ((s.runP l).2.1)), (7, .ref 1 5 0 0), (1, .lst 3 (l.map Step.cs)), (2, VI k)]
abbrev V25 : LS := (75, VI k) :: (74, .lst 3 (l.map Step.cs)) :: (73, (V20 k l s)) :: (V24 k l s)
abbrev V26 : LS := (76, .lst 3 (((List.take ((List.length l) - (k : Int).toNat) (V38 k l))).map Step.cs)) :: (V25 k l s)
abbrev V27 : AV := .agg [.lst 1 (((((((V37 k l s).1).runP (List.take ((List.length l) - (k : Int).toNat) (V38 k l))).1).voters).weights).map cI), VI ((((((V37 k l s).1).runP (List.take ((List.length l) - (k : Int).toNat) (V38 k l))).1).voters).need), .lst 5 ((((((V37 k l s).1).runP (List.take ((List.length l) - (k : Int).toNat) (V38 k l))).1).seats).map Seat.cs), .lst 8 ((((((V37 k l s).1).runP (List.take ((List.length l) - (k : Int).toNat) (V38 k l))).1).bids).map Bid.cs), .lst 6 ((((((V37 k l s).1).runP (List.take ((List.length l) - (k : Int).toNat) (V38 k l))).1).votes).map Vote.cs)]
abbrev V28 : LS := (77, .tup [(V27 k l s), VI ((((V37 k l s).1).runP (List.take ((List.length l) - (k : Int).toNat) (V38 k l))).2.1), VI ((((V37 k l s).1).runP (List.take ((List.length l) - (k : Int).toNat) (V38 k l))).2.2)]) :: (V26 k l s)
abbrev V29 : OB := some ⟨5, [[.lst 1 (((((((V37 k l s).1).runP (List.take ((List.length l) - (k : Int).toNat) (V38 k l))).1).voters).weights).map cI), VI ((((((V37 k l s).1).runP (List.take ((List.length l) - (k : Int).toNat) (V38 k l))).1).voters).need), .lst 5 ((((((V37 k l s).1).runP (List.take ((List.length l) - (k : Int).toNat) (V38 k l))).1).seats).map Seat.cs), .lst 8 ((((((V37 k l s).1).runP (List.take ((List.length l) - (k : Int).toNat) (V38 k l))).1).bids).map Bid.cs), .lst 6 ((((((V37 k l s).1).runP (List.take ((List.length l) - (k : Int).toNat) (V38 k l))).1).votes).map Vote.cs)]]⟩
abbrev V30 : LB := [(V0 s), (V6 l s), (V6 l s), (V22 k l s), (V29 k l s)]
abbrev V31 : LS := [(18, VI ((((V37 k l s).1).runP (List.take ((List.length l) - (k : Int).toNat) (V38 k l))).2.2)), (17, VI ((((V37 k l s).1).runP (List.take ((List.length l) - (k : Int).toNat) (V38 k l))).2.1)), (16, .ref 4 5 0 0), (15, VI ((V37 k l s).2.2)), (14, VI ((V37 k l s).2.1)), (8, VI ((s.runP l).2.1)), (7, .ref 1 5 0 0)]
abbrev V32 : LS := (81, VI ((V37 k l s).2.2)) :: (V31 k l s)
abbrev V33 : LS := (84, VI ((((V37 k l s).1).runP (List.take ((List.length l) - (k : Int).toNat) (V38 k l))).2.2)) :: (83, .v (.bool true)) :: (82, .v (.bool true)) :: (V32 k l s)
abbrev V34 : LS := (89, (V4 l s)) :: (88, (V27 k l s)) :: (87, .v (.bool true)) :: (86, .v (.bool true)) :: (85, .v (.bool true)) :: (V33 k l s)
abbrev V35 : LS := (94, VI ((((V37 k l s).1).runP (List.take ((List.length l) - (k : Int).toNat) (V38 k l))).2.1)) :: (93, VI ((V37 k l s).2.1)) :: (92, .v (.bool true)) :: (91, .v (.bool true)) :: (90, .v (.bool true)) :: (V34 k l s)
abbrev V36 : LS := (100, (V4 l s)) :: (99, .v (.bool true)) :: (98, .v (.bool true)) :: (97, .v (.bool true)) :: (96, VI ((s.runP l).2.1)) :: (95, VI (((V37 k l s).2.1) + ((((V37 k l s).1).runP (List.take ((List.length l) - (k : Int).toNat) (V38 k l))).2.1))) :: (V35 k l s)
end
theorem synodRuns_fn (s : Syn) (l : List Step) (k : Int) (hx : s.Big) (hl : l.length ≤ 9223372036854775807) : Fn Tryd.prog 4 [.agg [.lst 1 (s.voters.weights.map cI), VI s.voters.need, .lst 5 (s.seats.map Seat.cs), .lst 8 (s.bids.map Bid.cs), .lst 6 (s.votes.map Vote.cs)], .lst 3 (l.map Step.cs), VI k] (.v (.bool true)) := by
 refine fnw F4_ok ?_
 refine srl 2 [1, 2, 3] ⟨(V1 k l), [(V0 s)]⟩ ?_
 refine srr 2 ⟨(V3 k l s), [(V0 s)]⟩ ?_
 refine owg [(V2 s), .lst 3 (l.map Step.cs)] ⟨(V5 k l s), [(V0 s)]⟩ (run_fn s l (by first | assumption | exact Syn.new_big (by first | assumption | decide) | exact Syn.run_big _ _ | exact Syn.do_big _ _ _ _ | exact Syn.sat_big (by assumption) | exact Syn.zero_big | exact Syn.Ok.big (by assumption)) (by first | omega | decide | (simp; omega))) ?_
 refine owl 8 [1, 2, 3, 7, 8, 9] ⟨(V7 k l s), [(V0 s), (V6 l s)]⟩ ?_
 refine srr 2 ⟨(V8 k l s), [(V0 s), (V6 l s)]⟩ ?_
 refine owg [(V2 s), .lst 3 (l.map Step.cs)] ⟨(V9 k l s), [(V0 s), (V6 l s)]⟩ (rran_fn s l (by first | assumption | exact Syn.new_big (by first | assumption | decide) | exact Syn.run_big _ _ | exact Syn.do_big _ _ _ _ | exact Syn.sat_big (by assumption) | exact Syn.zero_big | exact Syn.Ok.big (by assumption)) (by first | omega | decide | (simp; omega))) ?_
 refine owl 8 [1, 2, 3, 7, 8, 9, 10, 11, 12] ⟨(V10 k l s), [(V0 s), (V6 l s), (V6 l s)]⟩ ?_
 refine EL.seq ?_
 refine EL.sreg ?_
 refine owg [] ⟨(33, .v (.bool true)) :: (V10 k l s), [(V0 s), (V6 l s), (V6 l s)]⟩ (sbegun_fn) ?_
 refine owr 4 ⟨(V11 k l s), [(V0 s), (V6 l s), (V6 l s)]⟩ ?_
 refine owg [(V4 l s), (V4 l s)] ⟨(38, .v (.bool (decide (V39 l s)))) :: (V11 k l s), [(V0 s), (V6 l s), (V6 l s)]⟩ (sameSynod_fn ((s.runP l).1) ((s.runP l).1) (by first | assumption | exact Syn.new_big (by first | assumption | decide) | exact Syn.run_big _ _ | exact Syn.do_big _ _ _ _ | exact Syn.sat_big (by assumption) | exact Syn.zero_big | exact Syn.Ok.big (by assumption))) ?_
 refine owr 3 ⟨(41, .v (.bool (!(decide (V39 l s))))) :: (40, .v (.bool (!(decide (V39 l s))))) :: (39, .v (.bool (!(decide (V39 l s))))) :: (38, .v (.bool (decide (V39 l s)))) :: (V11 k l s), [(V0 s), (V6 l s), (V6 l s)]⟩ ?_
 cases h1 : (decide (Syn.same ((s.runP l).1) ((s.runP l).1)))
 have g1 := of_decide_eq_false h1
 refine owl 9 [1, 2, 3, 7, 8, 9, 50] ⟨(50, .v (.bool true)) :: (V7 k l s), [(V0 s), (V6 l s), (V6 l s)]⟩ ?_
 refine cnT ?_
 refine srl 1 [6] ⟨[(6, .v (.bool false))], [(V0 s), (V6 l s), (V6 l s)]⟩ ?_
 refine rtr ?_
 refine rqe (.v (.bool false)) ?_
 rotate_left
 have g1 := of_decide_eq_true h1
 refine owr 5 ⟨(46, .v (.bool (((s.runP l).2.1) != (s.runP l).2.1))) :: (45, .v (.bool (((s.runP l).2.1) != (s.runP l).2.1))) :: (44, .v (.bool (((s.runP l).2.1) != (s.runP l).2.1))) :: (V12 k l s), [(V0 s), (V6 l s), (V6 l s)]⟩ ?_
 have h2 : (((s.runP l).2.1) != (s.runP l).2.1) = false := by simp
 rw [h2]
 refine owl 4 [1, 2, 3, 7, 8, 9, 50] ⟨(50, .v (.bool (((s.runP l).2.2) != (s.runP l).2.2))) :: (V7 k l s), [(V0 s), (V6 l s), (V6 l s)]⟩ ?_
 have h3 : (((s.runP l).2.2) != (s.runP l).2.2) = false := by simp
 rw [h3]
 refine cnF ?_
 refine skn ?_
 refine EL.seq ?_
 refine srr 3 ⟨(53, .v (.bool (((s.runP l).2.2) != 0))) :: (52, .v (.bool (((s.runP l).2.2) != 0))) :: (V13 k l s), [(V0 s), (V6 l s), (V6 l s)]⟩ ?_
 cases h4 : (((s.runP l).2.2) != 0)
 have g4 := bnF h4
 refine owr 4 ⟨(57, .v (.bool (decide (k < 0)))) :: (56, .v (.bool (decide (k < 0)))) :: (55, .v (.bool (decide (k < 0)))) :: (V15 k l s), [(V0 s), (V6 l s), (V6 l s)]⟩ ?_
 cases h5 : (decide (k < 0))
 have g5 := of_decide_eq_false h5
 refine owr 2 ⟨(V16 k l s), [(V0 s), (V6 l s), (V6 l s)]⟩ ?_
 refine ow2 ⟨(60, VI (List.length l : Int)) :: (V16 k l s), [(V0 s), (V6 l s), (V6 l s)]⟩ (oln Step.cs l (.s 59) 3) ?_
 refine owl 2 [1, 2, 3, 7, 8, 62] ⟨(62, .v (.bool (decide (k > (List.length l : Int))))) :: (V17 k l s), [(V0 s), (V6 l s), (V6 l s)]⟩ ?_
 cases h6 : (decide (k > (List.length l : Int)))
 have g6 := of_decide_eq_false h6
 refine cnF ?_
 refine skn ?_
 refine sdr 3 ⟨(V18 k l s), [(V0 s), (V6 l s), (V6 l s)]⟩ ?_
 refine dw2 ⟨(V19 k l s), [(V0 s), (V6 l s), (V6 l s)]⟩ (opE_slc Step.cs l (.s 65) none (some (.s 66)) 3 0 (k : Int).toNat (by kernel_rfl) (by kernel_rfl) (.inl rfl) (by simp [optNat, natOf, argσ, slot] <;> omega) (by simp [optNat, natOf, argσ, slot] <;> omega) (by omega)) ?_
 refine dwg [(V2 s), .lst 3 (((List.take (k : Int).toNat l)).map Step.cs)] ⟨(V21 k l s), [(V0 s), (V6 l s), (V6 l s)]⟩ (run_fn s (List.take (k : Int).toNat l) (by first | assumption | exact Syn.new_big (by first | assumption | decide) | exact Syn.run_big _ _ | exact Syn.do_big _ _ _ _ | exact Syn.sat_big (by assumption) | exact Syn.zero_big | exact Syn.Ok.big (by assumption)) (by first | omega | decide | (simp; omega))) ?_
 refine dwl 8 [1, 2, 7, 8, 13, 14, 15] ⟨(V24 k l s), (V23 k l s)⟩ ?_
 refine sdr 3 ⟨(V25 k l s), (V23 k l s)⟩ ?_
 refine dw2 ⟨(V26 k l s), (V23 k l s)⟩ (opE_slc Step.cs l (.s 74) (some (.s 75)) none 3 (k : Int).toNat (List.length l) (by kernel_rfl) (by kernel_rfl) (.inl rfl) (by simp [optNat, natOf, argσ, slot] <;> omega) (by simp [optNat, natOf, argσ, slot] <;> omega) (by omega)) ?_
 refine dwg [(V20 k l s), .lst 3 (((List.take ((List.length l) - (k : Int).toNat) (V38 k l))).map Step.cs)] ⟨(V28 k l s), (V23 k l s)⟩ (run_fn ((V37 k l s).1) (List.take ((List.length l) - (k : Int).toNat) (V38 k l)) (by first | assumption | exact Syn.new_big (by first | assumption | decide) | exact Syn.run_big _ _ | exact Syn.do_big _ _ _ _ | exact Syn.sat_big (by assumption) | exact Syn.zero_big | exact Syn.Ok.big (by assumption)) (by first | omega | decide | (simp; omega))) ?_
 refine dwl 8 [7, 8, 14, 15, 16, 17, 18] ⟨(V31 k l s), (V30 k l s)⟩ ?_
 refine srr 3 ⟨(83, .v (.bool (((V37 k l s).2.2) == 0))) :: (82, .v (.bool (((V37 k l s).2.2) == 0))) :: (V32 k l s), (V30 k l s)⟩ ?_
 cases h7 : (((s.runP (List.take (k : Int).toNat l)).2.2) == 0)
 have g7 := bqF h7
 refine owl 21 [6] ⟨[(6, .v (.bool false))], (V30 k l s)⟩ ?_
 refine EL.ret ?_
 refine rqe (.v (.bool false)) ?_
 rotate_left
 have g7 := bqT h7
 refine owr 4 ⟨(87, .v (.bool (((((V37 k l s).1).runP (List.take ((List.length l) - (k : Int).toNat) (V38 k l))).2.2) == 0))) :: (86, .v (.bool (((((V37 k l s).1).runP (List.take ((List.length l) - (k : Int).toNat) (V38 k l))).2.2) == 0))) :: (85, .v (.bool (((((V37 k l s).1).runP (List.take ((List.length l) - (k : Int).toNat) (V38 k l))).2.2) == 0))) :: (V33 k l s), (V30 k l s)⟩ ?_
 cases h8 : (((((s.runP (List.take (k : Int).toNat l)).1).runP (List.take ((List.length l) - (k : Int).toNat) (List.drop (k : Int).toNat l))).2.2) == 0)
 have g8 := bqF h8
 refine owl 17 [6] ⟨[(6, .v (.bool false))], (V30 k l s)⟩ ?_
 refine EL.ret ?_
 refine rqe (.v (.bool false)) ?_
 rotate_left
 have g8 := bqT h8
 refine owr 2 ⟨(V34 k l s), (V30 k l s)⟩ ?_
 refine owg [(V27 k l s), (V4 l s)] ⟨(90, .v (.bool (decide (Syn.same ((((V37 k l s).1).runP (List.take ((List.length l) - (k : Int).toNat) (V38 k l))).1) ((s.runP l).1))))) :: (V34 k l s), (V30 k l s)⟩ (sameSynod_fn ((((V37 k l s).1).runP (List.take ((List.length l) - (k : Int).toNat) (V38 k l))).1) ((s.runP l).1) (by first | assumption | exact Syn.new_big (by first | assumption | decide) | exact Syn.run_big _ _ | exact Syn.do_big _ _ _ _ | exact Syn.sat_big (by assumption) | exact Syn.zero_big | exact Syn.Ok.big (by assumption))) ?_
 refine owr 2 ⟨(92, .v (.bool (decide (Syn.same ((((V37 k l s).1).runP (List.take ((List.length l) - (k : Int).toNat) (V38 k l))).1) ((s.runP l).1))))) :: (91, .v (.bool (decide (Syn.same ((((V37 k l s).1).runP (List.take ((List.length l) - (k : Int).toNat) (V38 k l))).1) ((s.runP l).1))))) :: (90, .v (.bool (decide (Syn.same ((((V37 k l s).1).runP (List.take ((List.length l) - (k : Int).toNat) (V38 k l))).1) ((s.runP l).1))))) :: (V34 k l s), (V30 k l s)⟩ ?_
 cases h9 : (decide (Syn.same ((((s.runP (List.take (k : Int).toNat l)).1).runP (List.take ((List.length l) - (k : Int).toNat) (List.drop (k : Int).toNat l))).1) ((s.runP l).1)))
 have g9 := of_decide_eq_false h9
 refine owl 12 [6] ⟨[(6, .v (.bool false))], (V30 k l s)⟩ ?_
 refine EL.ret ?_
 refine rqe (.v (.bool false)) ?_
 rotate_left
 have g9 := of_decide_eq_true h9
 refine owr 7 ⟨(99, .v (.bool ((IntKind.i64.wrap (((V37 k l s).2.1) + ((((V37 k l s).1).runP (List.take ((List.length l) - (k : Int).toNat) (V38 k l))).2.1))) == (s.runP l).2.1))) :: (98, .v (.bool ((IntKind.i64.wrap (((V37 k l s).2.1) + ((((V37 k l s).1).runP (List.take ((List.length l) - (k : Int).toNat) (V38 k l))).2.1))) == (s.runP l).2.1))) :: (97, .v (.bool ((IntKind.i64.wrap (((V37 k l s).2.1) + ((((V37 k l s).1).runP (List.take ((List.length l) - (k : Int).toNat) (V38 k l))).2.1))) == (s.runP l).2.1))) :: (96, VI ((s.runP l).2.1)) :: (95, VI (IntKind.i64.wrap (((V37 k l s).2.1) + ((((V37 k l s).1).runP (List.take ((List.length l) - (k : Int).toNat) (V38 k l))).2.1)))) :: (V35 k l s), (V30 k l s)⟩ ?_
 have e10 := wr64 (n := ((s.runP (List.take (k : Int).toNat l)).2.1) + ((((s.runP (List.take (k : Int).toNat l)).1).runP (List.take ((List.length l) - (k : Int).toNat) (List.drop (k : Int).toNat l))).2.1)) (by have hp := Syn.run_parts (s := s) (l := l) (by assumption) k.toNat; rw [← List.take_of_length_le (l := List.drop k.toNat l) (i := l.length - k.toNat) (by simp)] at hp; (try simp only [Syn.eta]); omega)
 rw [e10]
 cases h11 : ((((s.runP (List.take (k : Int).toNat l)).2.1) + ((((s.runP (List.take (k : Int).toNat l)).1).runP (List.take ((List.length l) - (k : Int).toNat) (List.drop (k : Int).toNat l))).2.1)) == (s.runP l).2.1)
 have g11 := bqF h11
 refine owl 5 [6] ⟨[(6, .v (.bool false))], (V30 k l s)⟩ ?_
 refine EL.ret ?_
 refine rqe (.v (.bool false)) ?_
 rotate_left
 have g11 := bqT h11
 refine owr 1 ⟨(V36 k l s), (V30 k l s)⟩ ?_
 refine owg [(V4 l s)] ⟨(101, VI (((s.runP l).1).checkE)) :: (V36 k l s), (V30 k l s)⟩ (check_fn ((s.runP l).1) (by first | assumption | exact Syn.new_big (by first | assumption | decide) | exact Syn.run_big _ _ | exact Syn.do_big _ _ _ _ | exact Syn.sat_big (by assumption) | exact Syn.zero_big | exact Syn.Ok.big (by assumption))) ?_
 refine owl 3 [6] ⟨[(6, .v (.bool ((((s.runP l).1).checkE) == 0)))], (V30 k l s)⟩ ?_
 refine EL.ret ?_
 refine rqe (.v (.bool ((((s.runP l).1).checkE) == 0))) ?_
 rotate_left
 have g6 := of_decide_eq_true h6
 refine cnT ?_
 refine srl 1 [6] ⟨[(6, .v (.bool true))], [(V0 s), (V6 l s), (V6 l s)]⟩ ?_
 refine rtr ?_
 refine rqe (.v (.bool true)) ?_
 rotate_left
 have g5 := of_decide_eq_true h5
 refine owl 5 [1, 2, 3, 7, 8, 62] ⟨(V14 k l s), [(V0 s), (V6 l s), (V6 l s)]⟩ ?_
 refine cnT ?_
 refine srl 1 [6] ⟨[(6, .v (.bool true))], [(V0 s), (V6 l s), (V6 l s)]⟩ ?_
 refine rtr ?_
 refine rqe (.v (.bool true)) ?_
 rotate_left
 have g4 := bnT h4
 refine owl 9 [1, 2, 3, 7, 8, 62] ⟨(V14 k l s), [(V0 s), (V6 l s), (V6 l s)]⟩ ?_
 refine cnT ?_
 refine srl 1 [6] ⟨[(6, .v (.bool true))], [(V0 s), (V6 l s), (V6 l s)]⟩ ?_
 refine rtr ?_
 refine rqe (.v (.bool true)) ?_
 rotate_left
 all_goals (first | rfl | (simp [Syn.same_self, *]; done) | (exfalso; simp_all [Syn.same_self]; done) | (have hp := Syn.run_parts (s := s) (l := l) (by assumption) k.toNat; rw [← List.take_of_length_le (l := List.drop k.toNat l) (i := l.length - k.toNat) (by simp)] at hp; obtain ⟨p1, p2, p3, p4, p5, _⟩ := hp; first | (simp_all [Syn.same_self]; done)))
theorem SynodRuns_walk {w : World} (hG : GlE (E0 w fun b => b < w.heap.size)) (s : Syn) (css : List Value) (rs : GoT.rep w w.heap.size css s) (l : List Step) (Al : Option Addr) (nl cl : Nat) (rl : GoT.rep w w.heap.size [.slice Al nl cl] l) (k : Int) (_wk : (Lit.int .i64 k).wf = true) : Calls Tryd.prog 4 #[.agg css.toArray, .slice Al nl cl, I k] w fun e w' => e = .returned (.bool true) ∧ Below w.heap.size w w' := by
  have ls := (Syn.av rs).2
  have ll := rep_len rl
  exact fn_law (vs := [.agg css.toArray, .slice Al nl cl, I k]) (synodRuns_fn s l k (by first | assumption | omega) (by first | assumption | omega)) hG (.cons ((Syn.av rs).1) (.cons (rep_list (fun x : Step => [I x.kind, I x.n, .string x.data]) _ Step.flat (fun _ => rfl) (by intro x v hv; simp at hv; rcases hv with rfl | rfl | rfl <;> exact ⟨rfl, rfl⟩) rl) (.cons (.v rfl) (.nil))))
theorem SynodRuns_own : ownKnob Tryd.prog.godebug = none := by kernel_rfl
theorem SynodRuns_laidOut : laidOutB Tryd.prog = true := by kernel_rfl
set_option maxRecDepth 100000 in
set_option linter.unusedVariables false in
theorem SynodRuns_lifted (os : Os) (started : os.Started) (H : Type) (enc : TypeId × Value → H) :
    ReturnsInHanded {} Tryd.checked os 4 .any (fun w args => (Rows.synodRunsSpec.pre enc Tryd.prog Tryd.f4 [] false w args ∧ laidMetH Tryd.prog Rows.synodRunsRow.laid w) ∧ sizedMet enc Tryd.prog Tryd.f4 (OpenSpec.ofChange Rows.synodRunsSpec) false w args)
      (Rows.synodRunsSpec.post enc Tryd.prog Tryd.f4 false true false false) := by
  refine returnsInHanded_of_change_and (C := Tryd.checked) (X := fun w _ => laidMetH Tryd.prog Rows.synodRunsRow.laid w) (fun _ _ _ hh h => h.of_heap hh) SynodRuns_own started (by kernel_rfl) Tryd.func4
    (ChangeSpec.witness_shaped (enc := enc) (C := Tryd.checked) (os := os) (X := fun w _ => laidMetH Tryd.prog Rows.synodRunsRow.laid w) false (World.doorLaid Tryd.prog 14 os) #[.agg #[.slice none 0 0, .int .i64 0, .slice none 0 0, .slice none 0 0, .slice none 0 0], .slice none 0 0, .int .i64 0] 8 rfl (World.shaped_of_RefB (by kernel_rfl) (by kernel_rfl)) (by kernel_rfl) (by kernel_rfl) (by kernel_rfl) (laidMetH_of_parts3 (fuel := 8) (laidMet_of_run' 8 (by kernel_rfl) (by kernel_rfl)) (by kernel_rfl) (by kernel_rfl))) ?_
  intro W base args ds gs before hval0 hW _ _ hL _
  have hval : ∀ (j : Nat) t v, Tryd.f4.params[j]? = some t → args[j]? = some v → Value.okWide Tryd.prog W .any base t v := hval0
  have hW' := hW
  obtain ⟨p, q, hA0, hV, rfl, hfz, hnd⟩ := hW
  have hA : DataW.TrodAll enc Tryd.prog W 0 (fun _ => true) true Tryd.f4.params.toList args.toList ds p := hA0
  rw [Tryd.params4] at hA hval
  obtain ⟨v0, vs0, d0, ds0, p0, q0, hargs, rfl, rfl, h0, r0⟩ := trodAll_cons hA
  obtain ⟨v1, vs1, d1, ds1, p1, q1, rfl, rfl, rfl, h1, r1⟩ := trodAll_cons r0
  obtain ⟨v2, vs2, d2, ds2, p2, q2, rfl, rfl, rfl, h2, r2⟩ := trodAll_cons r1
  obtain ⟨rfl, rfl, rfl⟩ := trodAll_nil r2
  obtain rfl : args = #[v0, v1, v2] := by cases args; simp_all
  obtain ⟨rfl, rfl⟩ := trodVars_none hV
  have k0 := h0
  have lt0 : ∀ x ∈ p0, x.block < W.heap.size := by obtain ⟨m, hm⟩ := k0; exact DataW.trod_lt m _ _ _ hm
  obtain ⟨x0, cs0, rfl, w0⟩ := open_agg opens_Synod Tryd.underlying29 (hval 0 29 v0 rfl rfl) h0
  have k1 := h1
  have lt1 : ∀ x ∈ p1, x.block < W.heap.size := by obtain ⟨m, hm⟩ := k1; exact DataW.trod_lt m _ _ _ hm
  obtain ⟨x1, A1, n1, c1, rfl, w1⟩ := open_list opens_LStep Tryd.underlying40 (hval 1 40 v1 rfl rfl) h1
  have k2 := h2
  have lt2 : ∀ x ∈ p2, x.block < W.heap.size := by obtain ⟨m, hm⟩ := k2; exact DataW.trod_lt m _ _ _ hm
  obtain ⟨a2, rfl, e2, e2', w2⟩ := open_int Tryd.underlying3 (hval 2 3 v2 rfl rfl) h2
  clear hA0 hval0
  refine (SynodRuns_walk (w := W) (glE_of hL) x0 cs0 w0 x1 A1 n1 c1 w1 a2 w2).mono fun e W' ⟨he, bel⟩ => ?_
  subst he
  exact ⟨_, rfl, _, _, _, [], _, [], hW', trodAll_mk1 (shut_bool Tryd.underlying4 _), (trodAll_cons_mk (Below.trod SynodRuns_laidOut (by kernel_rfl) (of_decide_eq_true (by kernel_rfl)) k0 bel lt0) (trodAll_cons_mk (Below.trod SynodRuns_laidOut (by kernel_rfl) (of_decide_eq_true (by kernel_rfl)) k1 bel lt1) (trodAll_cons_mk (Below.trod SynodRuns_laidOut (by kernel_rfl) (of_decide_eq_true (by kernel_rfl)) k2 bel lt2) trodAll_mk0))), rfl, bel.frame _, fun h => by cases h⟩
set_option maxRecDepth 100000 in
set_option maxHeartbeats 4000000 in
theorem SynodRuns_row : Rows.SynodRunsSaid :=
  OpenClaim.holds_of_wide 4 Tryd.f4 rfl rfl rfl rfl rfl rfl rfl ⟨rfl, rfl, rfl, rfl, rfl⟩ rfl rfl rfl rfl rfl (by kernel_rfl) Tryd.func4 (by kernel_rfl)
    (of_decide_eq_true (by kernel_rfl)) (by unfold Func.isWrapper; first | (rw [if_pos (by decide +kernel)]; kernel_rfl) | (rw [if_neg (by decide +kernel)]; exact ⟨rfl, rfl⟩))
    (fun os started H enc _ => SynodRuns_lifted os started H enc)
set_option maxRecDepth 100000 in
set_option maxHeartbeats 4000000 in
theorem SynodRuns_holds : Rows.SynodRunsCardSaid :=
  Claim7.holds_tied_plain_at .later [] [.data] true (true, "cb5fefe2008e8336ea9f5d78b4e645a098888375547093116390ebfe8b58d892") false
    SynodRuns_row (fun _ h => by cases h) (by kernel_rfl) (fun _ h => by cases h) synodRuns_row_tie rfl ⟨rfl, rfl⟩ (by kernel_rfl) rfl
    (fun f fn hf hfn => by
      obtain rfl : f = 4 := Option.some.inj ((show Tryd.prog.funcNamed "supercargo/supercargolaw.SynodRuns" = some 4 by kernel_rfl).symm.trans hf) |>.symm
      obtain rfl : fn = Tryd.f4 := (Option.some.inj (Tryd.func4.symm.trans hfn)).symm
      exact ⟨by kernel_rfl, fun j t ht => by
        rw [Tryd.params4] at ht
        have hm : t ∈ [29, 40, 3] := by simpa using Array.mem_of_getElem? ht
        have hall : ([29, 40, 3].all fun u => !Tryd.prog.wantsStandIn u) = true := by kernel_rfl
        exact (show Tryd.prog.wantsStandIn t = false by simpa using List.all_eq_true.1 hall t hm)⟩)
    (by kernel_rfl)
end Go.Proofs.YtligepciannclaaDoor
