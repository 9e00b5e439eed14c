/- Whoever has a greater stamp than a bid that is done, and puts something, puts that value: the law SynodLater returns true. No condition. -/
import Derived.Test.YtligepciannclaaDoorPSynJ
import Derived.WalkKit
import Derived.Handy
import Derived.ProofKit
import Derived.OpenShut
import Derived.ShutString
import Derived.ChangeOld
import Derived.Below
import Derived.Lib.Hide
import Derived.WalkLawsBesides
import Derived.WalkSpells
import Derived.Deep.QuietTactic
import Derived.BigQuiet
import Derived.Outline
import Derived.SevenTiedAt
namespace Go.Proofs.YtligepciannclaaDoor
set_option linter.unusedSimpArgs false
set_option linter.unusedVariables false
open Go.ChangeShapes Go.WideShapes Go.ChangeAt Go.RowKit
open Go.ChangeMaps (open_string shut_string)
set_option maxRecDepth 100000
set_option maxHeartbeats 4000000
section
variable (a10 : Bid) (a7 : Bid) (i : Int) (k : Int) (l : List Step) (v : Voters)
abbrev V0 : LS := [(4, .ref 0 2 0 0), (1, .lst 3 (l.map Step.cs)), (2, VI i), (3, VI k)]
abbrev V1 : LS := (13, .lst 3 (l.map Step.cs)) :: (12, .agg [.lst 1 (v.weights.map cI), VI v.need]) :: (V0 i k l)
abbrev V2 : AV := .agg [.lst 1 (((((Synod.satP v l).1).voters).weights).map cI), VI ((((Synod.satP v l).1).voters).need), .lst 5 ((((Synod.satP v l).1).seats).map Seat.cs), .lst 8 ((((Synod.satP v l).1).bids).map Bid.cs), .lst 6 ((((Synod.satP v l).1).votes).map Vote.cs)]
abbrev V3 : OB := some ⟨5, [[.lst 1 (((((Synod.satP v l).1).voters).weights).map cI), VI ((((Synod.satP v l).1).voters).need), .lst 5 ((((Synod.satP v l).1).seats).map Seat.cs), .lst 8 ((((Synod.satP v l).1).bids).map Bid.cs), .lst 6 ((((Synod.satP v l).1).votes).map Vote.cs)]]⟩
abbrev V4 : LB := [some ⟨2, [[.lst 1 (v.weights.map cI), VI v.need]]⟩, (V3 l v)]
abbrev V5 : LS := [(22, VI i), (21, .v (.bool false)), (20, .v (.bool false)), (19, .v (.bool true)), (18, .v (.bool false)), (10, .v (.bool true)), (9, .ref 1 5 0 0), (2, VI i), (3, VI k)]
abbrev V6 : LS := [(69, .v (.bool true)), (9, .ref 1 5 0 0), (2, VI i), (3, VI k)]
abbrev V7 : LS := (28, .lst 8 ((((Synod.satP v l).1).bids).map Bid.cs)) :: (27, .ref 1 5 0 3) :: (26, VI i) :: (25, .v (.bool false)) :: (24, .v (.bool false)) :: (23, .v (.bool false)) :: (V5 i k)
abbrev V8 : LS := (29, VI (List.length (((Synod.satP v l).1).bids) : Int)) :: (V7 i k l v)
abbrev V9 : LS := (33, VI k) :: (32, .v (.bool false)) :: (31, .v (.bool false)) :: (30, .v (.bool false)) :: (V8 i k l v)
abbrev V10 : LS := (39, .lst 8 ((((Synod.satP v l).1).bids).map Bid.cs)) :: (38, .ref 1 5 0 3) :: (37, VI k) :: (36, .v (.bool false)) :: (35, .v (.bool false)) :: (34, .v (.bool false)) :: (V9 i k l v)
abbrev V11 : LS := (40, VI (List.length (((Synod.satP v l).1).bids) : Int)) :: (V10 i k l v)
abbrev V12 : LS := (46, VI i) :: (45, .lst 8 ((((Synod.satP v l).1).bids).map Bid.cs)) :: (44, .ref 1 5 0 3) :: (43, .v (.bool false)) :: (42, .v (.bool false)) :: (41, .v (.bool false)) :: (V11 i k l v)
abbrev V13 : LS := (47, .pim [VI a7.time, VI a7.phase, .v (.string a7.own), .v (.string a7.value), VI a7.best.at_.time, VI a7.best.at_.who, .v (.string a7.best.data), .v (.int .u64 (a7.heard.n : Int))] 0) :: (V12 i k l v)
abbrev V14 : LS := (49, VI a7.phase) :: (48, .pim [VI a7.time, VI a7.phase, .v (.string a7.own), .v (.string a7.value), VI a7.best.at_.time, VI a7.best.at_.who, .v (.string a7.best.data), .v (.int .u64 (a7.heard.n : Int))] 1) :: (V13 a7 i k l v)
abbrev V15 : LS := (55, VI k) :: (54, .lst 8 ((((Synod.satP v l).1).bids).map Bid.cs)) :: (53, .ref 1 5 0 3) :: (52, .v (.bool false)) :: (51, .v (.bool false)) :: (50, .v (.bool false)) :: (V14 a7 i k l v)
abbrev V16 : LS := (56, .pim [VI a10.time, VI a10.phase, .v (.string a10.own), .v (.string a10.value), VI a10.best.at_.time, VI a10.best.at_.who, .v (.string a10.best.data), .v (.int .u64 (a10.heard.n : Int))] 0) :: (V15 a7 i k l v)
abbrev V17 : LS := (58, VI a10.phase) :: (57, .pim [VI a10.time, VI a10.phase, .v (.string a10.own), .v (.string a10.value), VI a10.best.at_.time, VI a10.best.at_.who, .v (.string a10.best.data), .v (.int .u64 (a10.heard.n : Int))] 1) :: (V16 a10 a7 i k l v)
abbrev V18 : LS := (63, VI k) :: (62, (V2 l v)) :: (61, .v (.bool false)) :: (60, .v (.bool false)) :: (59, .v (.bool false)) :: (V17 a10 a7 i k l v)
abbrev V19 : AV := .agg [VI ((⟨((((Synod.satP v l).1).bids[k.toNat]?).getD Bid.zero).time, k⟩ : Stamp).time), VI ((⟨((((Synod.satP v l).1).bids[k.toNat]?).getD Bid.zero).time, k⟩ : Stamp).who)]
abbrev V20 : LS := (66, VI i) :: (65, (V2 l v)) :: (64, (V19 k l v)) :: (V18 a10 a7 i k l v)
abbrev V21 : AV := .agg [VI ((⟨((((Synod.satP v l).1).bids[i.toNat]?).getD Bid.zero).time, i⟩ : Stamp).time), VI ((⟨((((Synod.satP v l).1).bids[i.toNat]?).getD Bid.zero).time, i⟩ : Stamp).who)]
abbrev V22 : LS := [(72, VI i), (71, .lst 8 ((((Synod.satP v l).1).bids).map Bid.cs)), (70, .ref 1 5 0 3), (69, .v (.bool false)), (9, .ref 1 5 0 0), (2, VI i), (3, VI k)]
abbrev V23 : LS := (73, .pim [VI a7.time, VI a7.phase, .v (.string a7.own), .v (.string a7.value), VI a7.best.at_.time, VI a7.best.at_.who, .v (.string a7.best.data), .v (.int .u64 (a7.heard.n : Int))] 0) :: (V22 i k l v)
abbrev V24 : LS := (78, VI k) :: (77, .lst 8 ((((Synod.satP v l).1).bids).map Bid.cs)) :: (76, .ref 1 5 0 3) :: (75, .v (.string a7.value)) :: (74, .pim [VI a7.time, VI a7.phase, .v (.string a7.own), .v (.string a7.value), VI a7.best.at_.time, VI a7.best.at_.who, .v (.string a7.best.data), .v (.int .u64 (a7.heard.n : Int))] 3) :: (V23 a7 i k l v)
abbrev V25 : LS := (79, .pim [VI a10.time, VI a10.phase, .v (.string a10.own), .v (.string a10.value), VI a10.best.at_.time, VI a10.best.at_.who, .v (.string a10.best.data), .v (.int .u64 (a10.heard.n : Int))] 0) :: (V24 a7 i k l v)
end
theorem synodLater_fn (v : Voters) (l : List Step) (i : Int) (k : Int) (hx : v.weights.length ≤ 9223372036854775807) (hl : l.length ≤ 9223372036854775807) : Fn Tryd.prog 7 [.agg [.lst 1 (v.weights.map cI), VI v.need], .lst 3 (l.map Step.cs), VI i, VI k] (.v (.bool true)) := by
  refine fn_walkW F7_ok (of_decide_eq_true (by kernel_rfl)) ?_
  refine srl 2 [1, 2, 3, 4] ⟨(V0 i k l), [some ⟨2, [[.lst 1 (v.weights.map cI), VI v.need]]⟩]⟩ ?_
  refine srr 2 ⟨(V1 i k l v), [some ⟨2, [[.lst 1 (v.weights.map cI), VI v.need]]⟩]⟩ ?_
  refine owf [.agg [.lst 1 (v.weights.map cI), VI v.need], .lst 3 (l.map Step.cs)] ⟨(14, .tup [(V2 l v), .v (.bool ((Synod.satP v l).2))]) :: (V1 i k l v), [some ⟨2, [[.lst 1 (v.weights.map cI), VI v.need]]⟩]⟩ F22_call (sat_fn v l (by first | assumption | omega) (by omega)) ?_
  refine owl 6 [2, 3, 9, 10] ⟨[(10, .v (.bool ((Synod.satP v l).2))), (9, .ref 1 5 0 0), (2, VI i), (3, VI k)], (V4 l v)⟩ ?_
  refine EL.seq ?_
  refine EL.sreg ?_
  refine owf [] ⟨[(17, .v (.bool true)), (10, .v (.bool ((Synod.satP v l).2))), (9, .ref 1 5 0 0), (2, VI i), (3, VI k)], (V4 l v)⟩ F16_call (sbegun_fn) ?_
  refine owl 1 [2, 3, 9, 10, 18] ⟨[(18, .v (.bool false)), (10, .v (.bool ((Synod.satP v l).2))), (9, .ref 1 5 0 0), (2, VI i), (3, VI k)], (V4 l v)⟩ ?_
  refine cnF ?_
  refine skn ?_
  refine EL.seq ?_
  refine sdr 3 ⟨[(21, .v (.bool (!((Synod.satP v l).2)))), (20, .v (.bool (!((Synod.satP v l).2)))), (19, .v (.bool ((Synod.satP v l).2))), (18, .v (.bool false)), (10, .v (.bool ((Synod.satP v l).2))), (9, .ref 1 5 0 0), (2, VI i), (3, VI k)], (V4 l v)⟩ ?_
  rcases Bool.eq_false_or_eq_true ((Synod.satP v l).2) with h1 | h1
  rw [h1]
  refine dwr 4 ⟨(25, .v (.bool (decide (i < 0)))) :: (24, .v (.bool (decide (i < 0)))) :: (23, .v (.bool (decide (i < 0)))) :: (V5 i k), (V4 l v)⟩ ?_
  rcases Bool.eq_false_or_eq_true (decide (i < 0)) with h2 | h2
  rw [h2]
  have g2 := of_decide_eq_true h2
  refine dwl 44 [2, 3, 9, 69] ⟨(V6 i k), (V4 l v)⟩ ?_
  refine cnT ?_
  refine srl 1 [8] ⟨[(8, .v (.bool true))], (V4 l v)⟩ ?_
  refine rtr ?_
  refine ⟨.inr rfl, .v (.bool true), by kernel_rfl, Ale.of_eq ?_⟩
  rotate_left
  rw [h2]
  have g2 := of_decide_eq_false h2
  refine dwr 3 ⟨(V7 i k l v), (V4 l v)⟩ ?_
  refine dwo (VI (List.length (((Synod.satP v l).1).bids) : Int)) [] [] ⟨(V8 i k l v), (V4 l v)⟩ (opE_len Bid.cs (((Synod.satP v l).1).bids) (.s 28) 8 (by kernel_rfl) (by kernel_rfl) (.inl rfl)) ?_
  refine dwr 3 ⟨(32, .v (.bool (decide (i ≥ (List.length (((Synod.satP v l).1).bids) : Int))))) :: (31, .v (.bool (decide (i ≥ (List.length (((Synod.satP v l).1).bids) : Int))))) :: (30, .v (.bool (decide (i ≥ (List.length (((Synod.satP v l).1).bids) : Int))))) :: (V8 i k l v), (V4 l v)⟩ ?_
  rcases Bool.eq_false_or_eq_true (decide (i ≥ (List.length (((Synod.satP v l).1).bids) : Int))) with h3 | h3
  rw [h3]
  have g3 := of_decide_eq_true h3
  refine dwl 37 [2, 3, 9, 69] ⟨(V6 i k), (V4 l v)⟩ ?_
  refine cnT ?_
  refine srl 1 [8] ⟨[(8, .v (.bool true))], (V4 l v)⟩ ?_
  refine rtr ?_
  refine ⟨.inr rfl, .v (.bool true), by kernel_rfl, Ale.of_eq ?_⟩
  rotate_left
  rw [h3]
  have g3 := of_decide_eq_false h3
  refine dwr 4 ⟨(36, .v (.bool (decide (k < 0)))) :: (35, .v (.bool (decide (k < 0)))) :: (34, .v (.bool (decide (k < 0)))) :: (V9 i k l v), (V4 l v)⟩ ?_
  rcases Bool.eq_false_or_eq_true (decide (k < 0)) with h4 | h4
  rw [h4]
  have g4 := of_decide_eq_true h4
  refine dwl 33 [2, 3, 9, 69] ⟨(V6 i k), (V4 l v)⟩ ?_
  refine cnT ?_
  refine srl 1 [8] ⟨[(8, .v (.bool true))], (V4 l v)⟩ ?_
  refine rtr ?_
  refine ⟨.inr rfl, .v (.bool true), by kernel_rfl, Ale.of_eq ?_⟩
  rotate_left
  rw [h4]
  have g4 := of_decide_eq_false h4
  refine dwr 3 ⟨(V10 i k l v), (V4 l v)⟩ ?_
  refine dwo (VI (List.length (((Synod.satP v l).1).bids) : Int)) [] [] ⟨(V11 i k l v), (V4 l v)⟩ (opE_len Bid.cs (((Synod.satP v l).1).bids) (.s 39) 8 (by kernel_rfl) (by kernel_rfl) (.inl rfl)) ?_
  refine dwr 3 ⟨(43, .v (.bool (decide (k ≥ (List.length (((Synod.satP v l).1).bids) : Int))))) :: (42, .v (.bool (decide (k ≥ (List.length (((Synod.satP v l).1).bids) : Int))))) :: (41, .v (.bool (decide (k ≥ (List.length (((Synod.satP v l).1).bids) : Int))))) :: (V11 i k l v), (V4 l v)⟩ ?_
  rcases Bool.eq_false_or_eq_true (decide (k ≥ (List.length (((Synod.satP v l).1).bids) : Int))) with h5 | h5
  rw [h5]
  have g5 := of_decide_eq_true h5
  refine dwl 26 [2, 3, 9, 69] ⟨(V6 i k), (V4 l v)⟩ ?_
  refine cnT ?_
  refine srl 1 [8] ⟨[(8, .v (.bool true))], (V4 l v)⟩ ?_
  refine rtr ?_
  refine ⟨.inr rfl, .v (.bool true), by kernel_rfl, Ale.of_eq ?_⟩
  rotate_left
  rw [h5]
  have g5 := of_decide_eq_false h5
  refine dwr 3 ⟨(V12 i k l v), (V4 l v)⟩ ?_
  obtain ⟨a7, ha7⟩ : ∃ y, (((Synod.satP v l).1).bids)[(i : Int).toNat]? = some y := idx_ex ⟨by omega, by omega⟩
  refine dwo (.pim [VI a7.time, VI a7.phase, .v (.string a7.own), .v (.string a7.value), VI a7.best.at_.time, VI a7.best.at_.who, .v (.string a7.best.data), .v (.int .u64 (a7.heard.n : Int))] 0) [] [] ⟨(V13 a7 i k l v), (V4 l v)⟩ (opE_iad Bid.cs (((Synod.satP v l).1).bids) (.s 45) (.s 46) 8 .i64 i a7 (by kernel_rfl) (by kernel_rfl) (.inl rfl) rfl (by omega) ha7) ?_
  refine dwr 5 ⟨(52, .v (.bool (a7.phase != 3))) :: (51, .v (.bool (a7.phase != 3))) :: (50, .v (.bool (a7.phase != 3))) :: (V14 a7 i k l v), (V4 l v)⟩ ?_
  rcases Bool.eq_false_or_eq_true ((a7.phase != 3)) with h8 | h8
  rw [h8]
  have g8 : ¬ (a7.phase = 3) := by simpa using h8
  refine dwl 17 [2, 3, 9, 69] ⟨(V6 i k), (V4 l v)⟩ ?_
  refine cnT ?_
  refine srl 1 [8] ⟨[(8, .v (.bool true))], (V4 l v)⟩ ?_
  refine rtr ?_
  refine ⟨.inr rfl, .v (.bool true), by kernel_rfl, Ale.of_eq ?_⟩
  rotate_left
  rw [h8]
  have g8 : (a7.phase = 3) := by simpa using h8
  refine dwr 3 ⟨(V15 a7 i k l v), (V4 l v)⟩ ?_
  obtain ⟨a10, ha10⟩ : ∃ y, (((Synod.satP v l).1).bids)[(k : Int).toNat]? = some y := idx_ex ⟨by omega, by omega⟩
  refine dwo (.pim [VI a10.time, VI a10.phase, .v (.string a10.own), .v (.string a10.value), VI a10.best.at_.time, VI a10.best.at_.who, .v (.string a10.best.data), .v (.int .u64 (a10.heard.n : Int))] 0) [] [] ⟨(V16 a10 a7 i k l v), (V4 l v)⟩ (opE_iad Bid.cs (((Synod.satP v l).1).bids) (.s 54) (.s 55) 8 .i64 k a10 (by kernel_rfl) (by kernel_rfl) (.inl rfl) rfl (by omega) ha10) ?_
  refine dwr 5 ⟨(61, .v (.bool (a10.phase == 1))) :: (60, .v (.bool (a10.phase == 1))) :: (59, .v (.bool (a10.phase == 1))) :: (V17 a10 a7 i k l v), (V4 l v)⟩ ?_
  rcases Bool.eq_false_or_eq_true ((a10.phase == 1)) with h11 | h11
  rw [h11]
  have g11 : (a10.phase = 1) := by simpa using h11
  refine dwl 8 [2, 3, 9, 69] ⟨(V6 i k), (V4 l v)⟩ ?_
  refine cnT ?_
  refine srl 1 [8] ⟨[(8, .v (.bool true))], (V4 l v)⟩ ?_
  refine rtr ?_
  refine ⟨.inr rfl, .v (.bool true), by kernel_rfl, Ale.of_eq ?_⟩
  rotate_left
  rw [h11]
  have g11 : ¬ (a10.phase = 1) := by simpa using h11
  refine dwr 2 ⟨(V18 a10 a7 i k l v), (V4 l v)⟩ ?_
  refine dwf [(V2 l v), VI k] ⟨(64, (V19 k l v)) :: (V18 a10 a7 i k l v), (V4 l v)⟩ F24_call (ballot_fn ((Synod.satP v l).1) k (by omega)) ?_
  refine dwr 2 ⟨(V20 a10 a7 i k l v), (V4 l v)⟩ ?_
  refine dwf [(V2 l v), VI i] ⟨(67, (V21 i l v)) :: (V20 a10 a7 i k l v), (V4 l v)⟩ F24_call (ballot_fn ((Synod.satP v l).1) i (by omega)) ?_
  refine dwf [(V19 k l v), (V21 i l v)] ⟨(68, .v (.bool (decide ((⟨((((Synod.satP v l).1).bids[k.toNat]?).getD Bid.zero).time, k⟩ : Stamp).lt (⟨((((Synod.satP v l).1).bids[i.toNat]?).getD Bid.zero).time, i⟩ : Stamp))))) :: (67, (V21 i l v)) :: (V20 a10 a7 i k l v), (V4 l v)⟩ F23_call (less_fn (⟨((((Synod.satP v l).1).bids[k.toNat]?).getD Bid.zero).time, k⟩ : Stamp) (⟨((((Synod.satP v l).1).bids[i.toNat]?).getD Bid.zero).time, i⟩ : Stamp)) ?_
  refine dwl 1 [2, 3, 9, 69] ⟨[(69, .v (.bool (decide ((⟨((((Synod.satP v l).1).bids[k.toNat]?).getD Bid.zero).time, k⟩ : Stamp).lt (⟨((((Synod.satP v l).1).bids[i.toNat]?).getD Bid.zero).time, i⟩ : Stamp))))), (9, .ref 1 5 0 0), (2, VI i), (3, VI k)], (V4 l v)⟩ ?_
  rcases Bool.eq_false_or_eq_true (decide ((⟨((((Synod.satP v l).1).bids[k.toNat]?).getD Bid.zero).time, k⟩ : Stamp).lt (⟨((((Synod.satP v l).1).bids[i.toNat]?).getD Bid.zero).time, i⟩ : Stamp))) with h12 | h12
  rw [h12]
  have g12 := of_decide_eq_true h12
  refine cnT ?_
  refine srl 1 [8] ⟨[(8, .v (.bool true))], (V4 l v)⟩ ?_
  refine rtr ?_
  refine ⟨.inr rfl, .v (.bool true), by kernel_rfl, Ale.of_eq ?_⟩
  rotate_left
  rw [h12]
  have g12 := of_decide_eq_false h12
  refine cnF ?_
  refine skn ?_
  refine sdr 3 ⟨(V22 i k l v), (V4 l v)⟩ ?_
  refine dwo (.pim [VI a7.time, VI a7.phase, .v (.string a7.own), .v (.string a7.value), VI a7.best.at_.time, VI a7.best.at_.who, .v (.string a7.best.data), .v (.int .u64 (a7.heard.n : Int))] 0) [] [] ⟨(V23 a7 i k l v), (V4 l v)⟩ (opE_iad Bid.cs (((Synod.satP v l).1).bids) (.s 71) (.s 72) 8 .i64 i a7 (by kernel_rfl) (by kernel_rfl) (.inl rfl) rfl (by omega) ha7) ?_
  refine dwr 5 ⟨(V24 a7 i k l v), (V4 l v)⟩ ?_
  refine dwo (.pim [VI a10.time, VI a10.phase, .v (.string a10.own), .v (.string a10.value), VI a10.best.at_.time, VI a10.best.at_.who, .v (.string a10.best.data), .v (.int .u64 (a10.heard.n : Int))] 0) [] [] ⟨(V25 a10 a7 i k l v), (V4 l v)⟩ (opE_iad Bid.cs (((Synod.satP v l).1).bids) (.s 77) (.s 78) 8 .i64 k a10 (by kernel_rfl) (by kernel_rfl) (.inl rfl) rfl (by omega) ha10) ?_
  refine dwl 4 [8] ⟨[(8, .v (.bool (strEq a7.value a10.value)))], (V4 l v)⟩ ?_
  refine EL.ret ?_
  refine ⟨.inr rfl, .v (.bool (strEq a7.value a10.value)), by kernel_rfl, Ale.of_eq ?_⟩
  rotate_left
  rw [h1]
  refine dwl 48 [2, 3, 9, 69] ⟨(V6 i k), (V4 l v)⟩ ?_
  refine cnT ?_
  refine srl 1 [8] ⟨[(8, .v (.bool true))], (V4 l v)⟩ ?_
  refine rtr ?_
  refine ⟨.inr rfl, .v (.bool true), by kernel_rfl, Ale.of_eq ?_⟩
  rotate_left
  all_goals (first | rfl | (have hag := (Synod.sat_sat (v := v) (l := l) (by assumption)).later2 (i := i) (k := k) (by omega) (by omega) ‹(Synod.satP v l).1.bids[i.toNat]? = some _› ‹(Synod.satP v l).1.bids[k.toNat]? = some _› (by assumption) (by assumption) (by assumption); rw [hag]; simp [strEq]; done))
theorem SynodLater_walk {w : World} (hG : GlE (E0 w fun b => b < w.heap.size)) (v : Voters) (csv : List Value) (rv : GoT.rep w w.heap.size csv v) (l : List Step) (Al : Option Addr) (nl cl : Nat) (rl : GoT.rep w w.heap.size [.slice Al nl cl] l) (i : Int) (_wi : (Lit.int .i64 i).wf = true) (k : Int) (_wk : (Lit.int .i64 k).wf = true) : Calls Tryd.prog 7 #[.agg csv.toArray, .slice Al nl cl, I i, I k] w fun e w' => e = .returned (.bool true) ∧ Below w.heap.size w w' := by
  have lv := (Voters.av rv).2
  have ll := rep_len rl
  exact fn_law (vs := [.agg csv.toArray, .slice Al nl cl, I i, I k]) (synodLater_fn v l i k (by first | assumption | omega) (by first | assumption | omega)) hG (.cons ((Voters.av rv).1) (.cons (rep_list (fun x : Step => [I x.kind, I x.n, .string x.data]) _ Step.flat (fun _ => rfl) (by intro x v hv; simp at hv; rcases hv with rfl | rfl | rfl <;> exact ⟨rfl, rfl⟩) rl) (.cons (.v rfl) (.cons (.v rfl) (.nil)))))
theorem SynodLater_own : ownKnob Tryd.prog.godebug = none := by kernel_rfl
theorem SynodLater_laidOut : laidOutB Tryd.prog = true := by kernel_rfl
set_option maxRecDepth 100000 in
set_option linter.unusedVariables false in
theorem SynodLater_lifted (os : Os) (started : os.Started) (H : Type) (enc : TypeId × Value → H) :
    ReturnsInHanded {} Tryd.checked os 7 .any (fun w args => (Rows.synodLaterSpec.pre enc Tryd.prog Tryd.f7 [] false w args ∧ laidMetH Tryd.prog Rows.synodLaterRow.laid w) ∧ sizedMet enc Tryd.prog Tryd.f7 (OpenSpec.ofChange Rows.synodLaterSpec) false w args)
      (Rows.synodLaterSpec.post enc Tryd.prog Tryd.f7 false true false false) := by
  refine returnsInHanded_of_change_and (C := Tryd.checked) (X := fun w _ => laidMetH Tryd.prog Rows.synodLaterRow.laid w) (fun _ _ _ hh h => h.of_heap hh) SynodLater_own started (by kernel_rfl) Tryd.func7
    (ChangeSpec.witness_shaped (enc := enc) (C := Tryd.checked) (os := os) (X := fun w _ => laidMetH Tryd.prog Rows.synodLaterRow.laid w) false (World.doorLaid Tryd.prog 14 os) #[.agg #[.slice none 0 0, .int .i64 0], .slice none 0 0, .int .i64 0, .int .i64 0] 8 rfl (World.shaped_of_RefB (by kernel_rfl) (by kernel_rfl)) (by kernel_rfl) (by kernel_rfl) (by kernel_rfl) (laidMetH_of_parts3 (fuel := 8) (laidMet_of_run' 8 (by kernel_rfl) (by kernel_rfl)) (by kernel_rfl) (by kernel_rfl))) ?_
  intro W base args ds gs before hval0 hW _ _ hL _
  have hval : ∀ (j : Nat) t v, Tryd.f7.params[j]? = some t → args[j]? = some v → Value.okWide Tryd.prog W .any base t v := hval0
  have hW' := hW
  obtain ⟨p, q, hA0, hV, rfl, hfz, hnd⟩ := hW
  have hA : DataW.TrodAll enc Tryd.prog W 0 (fun _ => true) true Tryd.f7.params.toList args.toList ds p := hA0
  rw [Tryd.params7] at hA hval
  obtain ⟨v0, vs0, d0, ds0, p0, q0, hargs, rfl, rfl, h0, r0⟩ := trodAll_cons hA
  obtain ⟨v1, vs1, d1, ds1, p1, q1, rfl, rfl, rfl, h1, r1⟩ := trodAll_cons r0
  obtain ⟨v2, vs2, d2, ds2, p2, q2, rfl, rfl, rfl, h2, r2⟩ := trodAll_cons r1
  obtain ⟨v3, vs3, d3, ds3, p3, q3, rfl, rfl, rfl, h3, r3⟩ := trodAll_cons r2
  obtain ⟨rfl, rfl, rfl⟩ := trodAll_nil r3
  obtain rfl : args = #[v0, v1, v2, v3] := by cases args; simp_all
  obtain ⟨rfl, rfl⟩ := trodVars_none hV
  have k0 := h0
  have lt0 : ∀ x ∈ p0, x.block < W.heap.size := by obtain ⟨m, hm⟩ := k0; exact DataW.trod_lt m _ _ _ hm
  obtain ⟨x0, cs0, rfl, w0⟩ := open_agg opens_Voters Tryd.underlying24 (hval 0 24 v0 rfl rfl) h0
  have k1 := h1
  have lt1 : ∀ x ∈ p1, x.block < W.heap.size := by obtain ⟨m, hm⟩ := k1; exact DataW.trod_lt m _ _ _ hm
  obtain ⟨x1, A1, n1, c1, rfl, w1⟩ := open_list opens_LStep Tryd.underlying40 (hval 1 40 v1 rfl rfl) h1
  have k2 := h2
  have lt2 : ∀ x ∈ p2, x.block < W.heap.size := by obtain ⟨m, hm⟩ := k2; exact DataW.trod_lt m _ _ _ hm
  obtain ⟨a2, rfl, e2, e2', w2⟩ := open_int Tryd.underlying3 (hval 2 3 v2 rfl rfl) h2
  have k3 := h3
  have lt3 : ∀ x ∈ p3, x.block < W.heap.size := by obtain ⟨m, hm⟩ := k3; exact DataW.trod_lt m _ _ _ hm
  obtain ⟨a3, rfl, e3, e3', w3⟩ := open_int Tryd.underlying3 (hval 3 3 v3 rfl rfl) h3
  clear hA0 hval0
  refine (SynodLater_walk (w := W) (glE_of hL) x0 cs0 w0 x1 A1 n1 c1 w1 a2 w2 a3 w3).mono fun e W' ⟨he, bel⟩ => ?_
  subst he
  exact ⟨_, rfl, _, _, _, [], _, [], hW', trodAll_mk1 (shut_bool Tryd.underlying4 _), (trodAll_cons_mk (Below.trod SynodLater_laidOut (by kernel_rfl) (of_decide_eq_true (by kernel_rfl)) k0 bel lt0) (trodAll_cons_mk (Below.trod SynodLater_laidOut (by kernel_rfl) (of_decide_eq_true (by kernel_rfl)) k1 bel lt1) (trodAll_cons_mk (Below.trod SynodLater_laidOut (by kernel_rfl) (of_decide_eq_true (by kernel_rfl)) k2 bel lt2) (trodAll_cons_mk (Below.trod SynodLater_laidOut (by kernel_rfl) (of_decide_eq_true (by kernel_rfl)) k3 bel lt3) trodAll_mk0)))), rfl, bel.frame _, fun h => by cases h⟩
set_option maxRecDepth 100000 in
set_option maxHeartbeats 4000000 in
theorem SynodLater_row : Rows.SynodLaterSaid :=
  OpenClaim.holds_of_wide 7 Tryd.f7 rfl rfl rfl rfl rfl rfl rfl ⟨rfl, rfl, rfl, rfl, rfl⟩ rfl rfl rfl rfl rfl (by kernel_rfl) Tryd.func7 (by kernel_rfl)
    (of_decide_eq_true (by kernel_rfl)) (by unfold Func.isWrapper; first | (rw [if_pos (by decide +kernel)]; kernel_rfl) | (rw [if_neg (by decide +kernel)]; exact ⟨rfl, rfl⟩))
    (fun os started H enc _ => SynodLater_lifted os started H enc)
set_option maxRecDepth 100000 in
set_option maxHeartbeats 4000000 in
theorem SynodLater_holds : Rows.SynodLaterCardSaid :=
  Claim7.holds_tied_plain_at .later [] [.data] true (true, "cb5fefe2008e8336ea9f5d78b4e645a098888375547093116390ebfe8b58d892") false
    SynodLater_row (fun _ h => by cases h) (by kernel_rfl) (fun _ h => by cases h) synodLater_row_tie rfl ⟨rfl, rfl⟩ (by kernel_rfl) rfl
    (fun f fn hf hfn => by
      obtain rfl : f = 7 := Option.some.inj ((show Tryd.prog.funcNamed "supercargo/supercargolaw.SynodLater" = some 7 by kernel_rfl).symm.trans hf) |>.symm
      obtain rfl : fn = Tryd.f7 := (Option.some.inj (Tryd.func7.symm.trans hfn)).symm
      exact ⟨by kernel_rfl, fun j t ht => by
        rw [Tryd.params7] at ht
        have hm : t ∈ [24, 40, 3, 3] := by simpa using Array.mem_of_getElem? ht
        have hall : ([24, 40, 3, 3].all fun u => !Tryd.prog.wantsStandIn u) = true := by kernel_rfl
        exact (show Tryd.prog.wantsStandIn t = false by simpa using List.all_eq_true.1 hall t hm)⟩)
    (by kernel_rfl)
end Go.Proofs.YtligepciannclaaDoor
