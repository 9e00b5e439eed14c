/- What is done is kept by enough seats, under its stamp or a greater one, and by none of these anything else: the law SynodKept returns true. No condition. -/
import Derived.Test.YtligepciannclaaDoorPSynJ
import Derived.WalkKit
import Derived.Handy
import Derived.ProofKit
import Derived.OpenShut
import Derived.ShutString
import Derived.ChangeOld
import Derived.Below
import Derived.Lib.Hide
import Derived.WalkLawsBesides
import Derived.WalkSpells
import Derived.Deep.QuietTactic
import Derived.BigQuiet
import Derived.Outline
import Derived.SevenTiedAt
namespace Go.Proofs.YtligepciannclaaDoor
set_option linter.unusedSimpArgs false
set_option linter.unusedVariables false
open Go.ChangeShapes Go.WideShapes Go.ChangeAt Go.RowKit
open Go.ChangeMaps (open_string shut_string)
set_option maxRecDepth 100000
set_option maxHeartbeats 4000000
section
variable (a10 : Seat) (a5 : Bid) (i : Int) (k : Nat) (l : List Step) (u : U64) (v : Voters)
abbrev V0 : LS := [(3, .ref 0 2 0 0), (1, .lst 3 (l.map Step.cs)), (2, VI i)]
abbrev V1 : LS := (16, .lst 3 (l.map Step.cs)) :: (15, .agg [.lst 1 (v.weights.map cI), VI v.need]) :: (V0 i l)
abbrev V2 : AV := .agg [.lst 1 (((((Synod.satP v l).1).voters).weights).map cI), VI ((((Synod.satP v l).1).voters).need), .lst 5 ((((Synod.satP v l).1).seats).map Seat.cs), .lst 8 ((((Synod.satP v l).1).bids).map Bid.cs), .lst 6 ((((Synod.satP v l).1).votes).map Vote.cs)]
abbrev V3 : OB := some ⟨5, [[.lst 1 (((((Synod.satP v l).1).voters).weights).map cI), VI ((((Synod.satP v l).1).voters).need), .lst 5 ((((Synod.satP v l).1).seats).map Seat.cs), .lst 8 ((((Synod.satP v l).1).bids).map Bid.cs), .lst 6 ((((Synod.satP v l).1).votes).map Vote.cs)]]⟩
abbrev V4 : LB := [some ⟨2, [[.lst 1 (v.weights.map cI), VI v.need]]⟩, (V3 l v)]
abbrev V5 : LS := [(25, VI i), (24, .v (.bool false)), (23, .v (.bool false)), (22, .v (.bool true)), (21, .v (.bool false)), (8, .v (.bool true)), (7, .ref 1 5 0 0), (2, VI i)]
abbrev V6 : LS := [(43, .v (.bool true)), (7, .ref 1 5 0 0), (2, VI i)]
abbrev V7 : LS := (31, .lst 8 ((((Synod.satP v l).1).bids).map Bid.cs)) :: (30, .ref 1 5 0 3) :: (29, VI i) :: (28, .v (.bool false)) :: (27, .v (.bool false)) :: (26, .v (.bool false)) :: (V5 i)
abbrev V8 : LS := (32, VI (List.length (((Synod.satP v l).1).bids) : Int)) :: (V7 i l v)
abbrev V9 : LS := (38, VI i) :: (37, .lst 8 ((((Synod.satP v l).1).bids).map Bid.cs)) :: (36, .ref 1 5 0 3) :: (35, .v (.bool false)) :: (34, .v (.bool false)) :: (33, .v (.bool false)) :: (V8 i l v)
abbrev V10 : LS := (39, .pim [VI a5.time, VI a5.phase, .v (.string a5.own), .v (.string a5.value), VI a5.best.at_.time, VI a5.best.at_.who, .v (.string a5.best.data), .v (.int .u64 (a5.heard.n : Int))] 0) :: (V9 i l v)
abbrev V11 : LS := [(9, .v (.int .u64 0)), (7, .ref 1 5 0 0), (2, VI i)]
abbrev V12 : LS := [(2, VI i), (7, .ref 0 5 0 0), (9, .v (.int .u64 (u.n : Int))), (10, VI (k : Int))]
abbrev V13 : LS := (46, .lst 5 ((((Synod.satP v l).1).seats).map Seat.cs)) :: (45, .ref 0 5 0 2) :: (44, VI (k : Int)) :: (V12 i k u)
abbrev V14 : LS := (47, VI (List.length (((Synod.satP v l).1).seats) : Int)) :: (V13 i k l u v)
abbrev V15 : LS := (53, VI (k : Int)) :: (52, .lst 5 ((((Synod.satP v l).1).seats).map Seat.cs)) :: (51, .ref 0 5 0 2) :: (48, .v (.bool true)) :: (V12 i k u)
abbrev V16 : LS := (54, .pim [VI a10.promised.time, VI a10.promised.who, VI a10.kept.at_.time, VI a10.kept.at_.who, .v (.string a10.kept.data)] 0) :: (V15 i k l u v)
abbrev V17 : OB := some ⟨3, [[VI a10.kept.at_.time, VI a10.kept.at_.who, .v (.string a10.kept.data)]]⟩
abbrev V18 : LS := (60, VI i) :: (59, (V2 l v)) :: (58, .agg [VI a10.kept.at_.time, VI a10.kept.at_.who]) :: (57, .ref 1 3 0 0) :: (11, .ref 1 3 0 0) :: (V12 i k u)
abbrev V19 : AV := .agg [VI ((⟨((((Synod.satP v l).1).bids[i.toNat]?).getD Bid.zero).time, i⟩ : Stamp).time), VI ((⟨((((Synod.satP v l).1).bids[i.toNat]?).getD Bid.zero).time, i⟩ : Stamp).who)]
abbrev V20 : LS := (67, VI i) :: (66, .lst 8 ((((Synod.satP v l).1).bids).map Bid.cs)) :: (65, .ref 0 5 0 3) :: (64, .v (.string a10.kept.data)) :: (63, .ref 1 3 0 2) :: (62, .v (.bool false)) :: (11, .ref 1 3 0 0) :: (V12 i k u)
abbrev V21 : LS := (68, .pim [VI a5.time, VI a5.phase, .v (.string a5.own), .v (.string a5.value), VI a5.best.at_.time, VI a5.best.at_.who, .v (.string a5.best.data), .v (.int .u64 (a5.heard.n : Int))] 0) :: (V20 a10 i k l u v)
abbrev V22 : LS := (73, VI (k : Int)) :: (72, .v (.int .u64 (u.n : Int))) :: (71, .v (.bool false)) :: (V12 i k u)
abbrev V23 : LS := [(74, .v (.int .u64 ((2 ^ (Int.toNat (k : Int)) : Nat) : Int))), (73, VI (k : Int)), (72, .v (.int .u64 (u.n : Int))), (71, .v (.bool false)), (2, VI i), (7, .ref 0 5 0 0), (10, VI (k : Int))]
abbrev V24 : LS := (9, .v (.int .u64 ((orU u (Int.toNat (k : Int))).n : Int))) :: (75, .v (.int .u64 ((orU u (Int.toNat (k : Int))).n : Int))) :: (V23 i k u)
abbrev V25 : LS := [(49, VI (k : Int)), (62, .v (.bool true)), (11, .ref 1 3 0 0), (2, VI i), (7, .ref 0 5 0 0), (9, .v (.int .u64 (u.n : Int)))]
abbrev V26 : LS := (10, VI ((k : Int) + 1)) :: (50, VI ((k : Int) + 1)) :: (V25 i k u)
abbrev V27 : LS := [(49, VI (k : Int)), (9, .v (.int .u64 ((orU u (Int.toNat (k : Int))).n : Int))), (75, .v (.int .u64 ((orU u (Int.toNat (k : Int))).n : Int))), (74, .v (.int .u64 ((2 ^ (Int.toNat (k : Int)) : Nat) : Int))), (73, VI (k : Int)), (72, .v (.int .u64 (u.n : Int))), (71, .v (.bool false)), (2, VI i), (7, .ref 0 5 0 0)]
abbrev V28 : LS := (10, VI ((k : Int) + 1)) :: (50, VI ((k : Int) + 1)) :: (V27 i k u)
abbrev V29 : LS := (83, .v (.int .u64 (u.n : Int))) :: (82, VI ((((Synod.satP v l).1).voters).need)) :: (81, .ref 0 5 0 1) :: (80, .ref 0 5 0 0) :: (79, .lst 1 (((((Synod.satP v l).1).voters).weights).map cI)) :: (78, .ref 0 5 0 0) :: (77, .ref 0 5 0 0) :: (48, .v (.bool false)) :: (V12 i k u)
end
theorem synodKept_fn (v : Voters) (l : List Step) (i : Int) (hx : v.weights.length ≤ 9223372036854775807) (hl : l.length ≤ 9223372036854775807) : Fn Tryd.prog 8 [.agg [.lst 1 (v.weights.map cI), VI v.need], .lst 3 (l.map Step.cs), VI i] (.v (.bool true)) := by
  refine fn_walkW F8_ok (of_decide_eq_true (by kernel_rfl)) ?_
  refine srl 2 [1, 2, 3] ⟨(V0 i l), [some ⟨2, [[.lst 1 (v.weights.map cI), VI v.need]]⟩]⟩ ?_
  refine srr 2 ⟨(V1 i l v), [some ⟨2, [[.lst 1 (v.weights.map cI), VI v.need]]⟩]⟩ ?_
  refine owf [.agg [.lst 1 (v.weights.map cI), VI v.need], .lst 3 (l.map Step.cs)] ⟨(17, .tup [(V2 l v), .v (.bool ((Synod.satP v l).2))]) :: (V1 i l v), [some ⟨2, [[.lst 1 (v.weights.map cI), VI v.need]]⟩]⟩ F22_call (sat_fn v l (by first | assumption | omega) (by omega)) ?_
  refine owl 6 [2, 7, 8] ⟨[(8, .v (.bool ((Synod.satP v l).2))), (7, .ref 1 5 0 0), (2, VI i)], (V4 l v)⟩ ?_
  refine EL.seq ?_
  refine EL.sreg ?_
  refine owf [] ⟨[(20, .v (.bool true)), (8, .v (.bool ((Synod.satP v l).2))), (7, .ref 1 5 0 0), (2, VI i)], (V4 l v)⟩ F16_call (sbegun_fn) ?_
  refine owl 1 [2, 7, 8, 21] ⟨[(21, .v (.bool false)), (8, .v (.bool ((Synod.satP v l).2))), (7, .ref 1 5 0 0), (2, VI i)], (V4 l v)⟩ ?_
  refine cnF ?_
  refine skn ?_
  refine EL.seq ?_
  refine srr 3 ⟨[(24, .v (.bool (!((Synod.satP v l).2)))), (23, .v (.bool (!((Synod.satP v l).2)))), (22, .v (.bool ((Synod.satP v l).2))), (21, .v (.bool false)), (8, .v (.bool ((Synod.satP v l).2))), (7, .ref 1 5 0 0), (2, VI i)], (V4 l v)⟩ ?_
  rcases Bool.eq_false_or_eq_true ((Synod.satP v l).2) with h1 | h1
  rw [h1]
  refine owr 4 ⟨(28, .v (.bool (decide (i < 0)))) :: (27, .v (.bool (decide (i < 0)))) :: (26, .v (.bool (decide (i < 0)))) :: (V5 i), (V4 l v)⟩ ?_
  rcases Bool.eq_false_or_eq_true (decide (i < 0)) with h2 | h2
  rw [h2]
  have g2 := of_decide_eq_true h2
  refine owl 15 [2, 7, 43] ⟨(V6 i), (V4 l v)⟩ ?_
  refine cnT ?_
  refine srl 1 [6] ⟨[(6, .v (.bool true))], (V4 l v)⟩ ?_
  refine rtr ?_
  refine ⟨.inr rfl, .v (.bool true), by kernel_rfl, Ale.of_eq ?_⟩
  rotate_left
  rw [h2]
  have g2 := of_decide_eq_false h2
  refine owr 3 ⟨(V7 i l v), (V4 l v)⟩ ?_
  refine owo (VI (List.length (((Synod.satP v l).1).bids) : Int)) [] [] ⟨(V8 i l v), (V4 l v)⟩ (opE_len Bid.cs (((Synod.satP v l).1).bids) (.s 31) 8 (by kernel_rfl) (by kernel_rfl) (.inl rfl)) ?_
  refine owr 3 ⟨(35, .v (.bool (decide (i ≥ (List.length (((Synod.satP v l).1).bids) : Int))))) :: (34, .v (.bool (decide (i ≥ (List.length (((Synod.satP v l).1).bids) : Int))))) :: (33, .v (.bool (decide (i ≥ (List.length (((Synod.satP v l).1).bids) : Int))))) :: (V8 i l v), (V4 l v)⟩ ?_
  rcases Bool.eq_false_or_eq_true (decide (i ≥ (List.length (((Synod.satP v l).1).bids) : Int))) with h3 | h3
  rw [h3]
  have g3 := of_decide_eq_true h3
  refine owl 8 [2, 7, 43] ⟨(V6 i), (V4 l v)⟩ ?_
  refine cnT ?_
  refine srl 1 [6] ⟨[(6, .v (.bool true))], (V4 l v)⟩ ?_
  refine rtr ?_
  refine ⟨.inr rfl, .v (.bool true), by kernel_rfl, Ale.of_eq ?_⟩
  rotate_left
  rw [h3]
  have g3 := of_decide_eq_false h3
  refine owr 3 ⟨(V9 i l v), (V4 l v)⟩ ?_
  obtain ⟨a5, ha5⟩ : ∃ y, (((Synod.satP v l).1).bids)[(i : Int).toNat]? = some y := idx_ex ⟨by omega, by omega⟩
  refine owo (.pim [VI a5.time, VI a5.phase, .v (.string a5.own), .v (.string a5.value), VI a5.best.at_.time, VI a5.best.at_.who, .v (.string a5.best.data), .v (.int .u64 (a5.heard.n : Int))] 0) [] [] ⟨(V10 a5 i l v), (V4 l v)⟩ (opE_iad Bid.cs (((Synod.satP v l).1).bids) (.s 37) (.s 38) 8 .i64 i a5 (by kernel_rfl) (by kernel_rfl) (.inl rfl) rfl (by omega) ha5) ?_
  refine owl 4 [2, 7, 43] ⟨[(43, .v (.bool (a5.phase != 3))), (7, .ref 1 5 0 0), (2, VI i)], (V4 l v)⟩ ?_
  rcases Bool.eq_false_or_eq_true ((a5.phase != 3)) with h6 | h6
  rw [h6]
  have g6 : ¬ (a5.phase = 3) := by simpa using h6
  refine cnT ?_
  refine srl 1 [6] ⟨[(6, .v (.bool true))], (V4 l v)⟩ ?_
  refine rtr ?_
  refine ⟨.inr rfl, .v (.bool true), by kernel_rfl, Ale.of_eq ?_⟩
  rotate_left
  rw [h6]
  have g6 : (a5.phase = 3) := by simpa using h6
  refine cnF ?_
  refine skn ?_
  refine srl 1 [2, 7, 9] ⟨(V11 i), (V4 l v)⟩ ?_
  refine EL.seq ?_
  refine srl 1 [2, 7, 9, 10] ⟨(10, VI 0) :: (V11 i), (V4 l v)⟩ ?_
  refine EL.block ?_
  refine EL.loopN (fun mM xX => ∃ (k : Nat) (u : U64), mM = (Synod.satP v l).1.seats.length - k ∧ (k ≤ (Synod.satP v l).1.seats.length ∧ Keeps (Synod.satP v l).1 ⟨(((Synod.satP v l).1.bids[i.toNat]?).getD Bid.zero).time, i⟩ k u.n) ∧ xX = ⟨(V12 i k u), [(V3 l v)]⟩) (y := (fun (k : Nat) (u : U64) => (⟨(V12 i k u), [(V3 l v)]⟩ : L3)) 0 ⟨0, by decide⟩) [2, 7, 9, 10] [.old 1 false] [] (by kernel_rfl) trivial ⟨0, ⟨0, by decide⟩, rfl, by exact ⟨by omega, Keeps.zero _ _⟩, rfl⟩ ?_
  rintro _ _ ⟨k, u, rfl, hI7, rfl⟩
  obtain ⟨hk, hkeep⟩ := hI7
  have hS := (Synod.sat_sat (v := v) (l := l) (by assumption))
  have hS1 := qc_len hS.ok.q
  have hS2 := hS.ok.len
  refine EL.seq ?_
  refine srr 3 ⟨(V13 i k l u v), [(V3 l v)]⟩ ?_
  refine owo (VI (List.length (((Synod.satP v l).1).seats) : Int)) [] [] ⟨(V14 i k l u v), [(V3 l v)]⟩ (opE_len Seat.cs (((Synod.satP v l).1).seats) (.s 46) 5 (by kernel_rfl) (by kernel_rfl) (.inl rfl)) ?_
  refine owl 1 [2, 7, 9, 10, 48] ⟨(48, .v (.bool (decide ((k : Int) < (List.length (((Synod.satP v l).1).seats) : Int))))) :: (V12 i k u), [(V3 l v)]⟩ ?_
  rcases Bool.eq_false_or_eq_true (decide ((k : Int) < (List.length (((Synod.satP v l).1).seats) : Int))) with h8 | h8
  rw [h8]
  have g8 := of_decide_eq_true h8
  have n8 : ((k) < (List.length (((Synod.satP v l).1).seats))) := by omega
  refine cnT ?_
  refine skn ?_
  refine EL.seq ?_
  refine EL.block ?_
  refine srr 3 ⟨(V15 i k l u v), [(V3 l v)]⟩ ?_
  obtain ⟨a10, ha10⟩ : ∃ y, (((Synod.satP v l).1).seats)[((k : Int) : Int).toNat]? = some y := idx_ex ⟨by omega, by omega⟩
  have iha10 : (((Synod.satP v l).1).seats)[k]? = some a10 := by simpa using ha10
  have dha10 := drop_get iha10
  refine owo (.pim [VI a10.promised.time, VI a10.promised.who, VI a10.kept.at_.time, VI a10.kept.at_.who, .v (.string a10.kept.data)] 0) [] [] ⟨(V16 a10 i k l u v), [(V3 l v)]⟩ (opE_iad Seat.cs (((Synod.satP v l).1).seats) (.s 52) (.s 53) 5 .i64 (k : Int) a10 (by kernel_rfl) (by kernel_rfl) (.inl rfl) rfl (by omega) ha10) ?_
  refine owl 4 [2, 7, 9, 10, 11] ⟨(11, .ref 1 3 0 0) :: (V12 i k u), [(V3 l v), (V17 a10)]⟩ ?_
  refine EL.seq ?_
  refine sdr 4 ⟨(V18 a10 i k l u v), [(V3 l v), (V17 a10)]⟩ ?_
  refine dwf [(V2 l v), VI i] ⟨(61, (V19 i l v)) :: (V18 a10 i k l u v), [(V3 l v), (V17 a10)]⟩ F24_call (ballot_fn ((Synod.satP v l).1) i (by omega)) ?_
  refine dwf [.agg [VI a10.kept.at_.time, VI a10.kept.at_.who], (V19 i l v)] ⟨(62, .v (.bool (decide (a10.kept.at_.lt (⟨((((Synod.satP v l).1).bids[i.toNat]?).getD Bid.zero).time, i⟩ : Stamp))))) :: (61, (V19 i l v)) :: (V18 a10 i k l u v), [(V3 l v), (V17 a10)]⟩ F23_call (less_fn a10.kept.at_ (⟨((((Synod.satP v l).1).bids[i.toNat]?).getD Bid.zero).time, i⟩ : Stamp)) ?_
  refine dwl 0 [2, 7, 9, 10, 11, 62] ⟨(62, .v (.bool (decide (a10.kept.at_.lt (⟨((((Synod.satP v l).1).bids[i.toNat]?).getD Bid.zero).time, i⟩ : Stamp))))) :: (11, .ref 1 3 0 0) :: (V12 i k u), [(V3 l v), (V17 a10)]⟩ ?_
  rcases Bool.eq_false_or_eq_true (decide (a10.kept.at_.lt (⟨((((Synod.satP v l).1).bids[i.toNat]?).getD Bid.zero).time, i⟩ : Stamp))) with h11 | h11
  rw [h11]
  have g11 := of_decide_eq_true h11
  refine cnT ?_
  refine EL.exit ?_
  refine thenL_exit ?_
  refine inBlk_hit ?_
  refine thenL_norm ?_
  refine EL.reg0 ?_
  refine owr 3 ⟨(10, VI (IntKind.i64.wrap ((k : Int) + 1))) :: (50, VI (IntKind.i64.wrap ((k : Int) + 1))) :: (V25 i k u), [(V3 l v), (V17 a10)]⟩ ?_
  have e12 : IntKind.i64.wrap ((k : Int) + 1) = (k : Int) + 1 := wr64 (by omega)
  rw [e12]
  refine owe 0 ⟨(V26 i k u), [(V3 l v), (V17 a10)]⟩ ?_
  refine thenL_norm ?_
  refine round_end (live := [2, 7, 9, 10]) (src := [.old 0 false]) (es := []) (y := (fun (k : Nat) (u : U64) => (⟨(V12 i k u), [(V3 l v)]⟩ : L3)) (k + 1) u) ?_ trivial ?_ ⟨(k + 1), u, rfl, ?_, rfl⟩
  kernel_rfl
  omega
  focus (first | (exact ⟨by omega, hkeep.skip (by assumption) (by assumption)⟩) | (exact ⟨by omega, hkeep.addU (by omega) (by assumption) (by assumption)⟩))
  rw [h11]
  have g11 := of_decide_eq_false h11
  refine cnF ?_
  refine skn ?_
  refine EL.seq ?_
  refine sdr 5 ⟨(V20 a10 i k l u v), [(V3 l v), (V17 a10)]⟩ ?_
  refine dwo (.pim [VI a5.time, VI a5.phase, .v (.string a5.own), .v (.string a5.value), VI a5.best.at_.time, VI a5.best.at_.who, .v (.string a5.best.data), .v (.int .u64 (a5.heard.n : Int))] 0) [] [] ⟨(V21 a10 a5 i k l u v), [(V3 l v), (V17 a10)]⟩ (opE_iad Bid.cs (((Synod.satP v l).1).bids) (.s 66) (.s 67) 8 .i64 i a5 (by kernel_rfl) (by kernel_rfl) (.inl rfl) rfl (by omega) ha5) ?_
  refine dwl 3 [2, 7, 9, 10, 71] ⟨(71, .v (.bool (!(strEq a10.kept.data a5.value)))) :: (V12 i k u), [(V3 l v), (V17 a10)]⟩ ?_
  rcases Bool.eq_false_or_eq_true (strEq a10.kept.data a5.value) with h13 | h13
  rw [h13]
  have g13 : (a10.kept.data = a5.value) := strEq_iff.1 h13
  refine cnF ?_
  refine skn ?_
  refine EL.reg0 ?_
  refine owr 2 ⟨(V22 i k u), [(V3 l v), (V17 a10)]⟩ ?_
  refine owo (.v (.int .u64 (IntKind.u64.wrap (1 * 2 ^ (min (Int.toNat (k : Int)) IntKind.u64.bits))))) [] [] ⟨(74, .v (.int .u64 (IntKind.u64.wrap (1 * 2 ^ (min (Int.toNat (k : Int)) IntKind.u64.bits))))) :: (V22 i k u), [(V3 l v), (V17 a10)]⟩ (opE_shl (.c (.v (.int .u64 1))) (.s 73) .u64 .i64 1 (k : Int) (by kernel_rfl) (by kernel_rfl) (by kernel_rfl) (by kernel_rfl) (by omega)) ?_
  have e14 : IntKind.u64.wrap (1 * 2 ^ (min (Int.toNat (k : Int)) IntKind.u64.bits)) = ((2 ^ (Int.toNat (k : Int)) : Nat) : Int) := shl1 (by omega)
  rw [e14]
  refine owr 2 ⟨(9, .v (.int .u64 (bits .or .u64 (u.n : Int) ((2 ^ (Int.toNat (k : Int)) : Nat) : Int)))) :: (75, .v (.int .u64 (bits .or .u64 (u.n : Int) ((2 ^ (Int.toNat (k : Int)) : Nat) : Int)))) :: (V23 i k u), [(V3 l v), (V17 a10)]⟩ ?_
  have e15 : bits .or .u64 (u.n : Int) ((2 ^ (Int.toNat (k : Int)) : Nat) : Int) = ((orU u (Int.toNat (k : Int))).n : Int) := orU_bits (by omega)
  rw [e15]
  clear e15
  refine owe 0 ⟨(V24 i k u), [(V3 l v), (V17 a10)]⟩ ?_
  refine inBlk_norm ?_
  refine thenL_norm ?_
  refine EL.reg0 ?_
  refine owr 3 ⟨(10, VI (IntKind.i64.wrap ((k : Int) + 1))) :: (50, VI (IntKind.i64.wrap ((k : Int) + 1))) :: (V27 i k u), [(V3 l v), (V17 a10)]⟩ ?_
  have e16 : IntKind.i64.wrap ((k : Int) + 1) = (k : Int) + 1 := wr64 (by omega)
  rw [e16]
  refine owe 0 ⟨(V28 i k u), [(V3 l v), (V17 a10)]⟩ ?_
  refine thenL_norm ?_
  refine round_end (live := [2, 7, 9, 10]) (src := [.old 0 false]) (es := []) (y := (fun (k : Nat) (u : U64) => (⟨(V12 i k u), [(V3 l v)]⟩ : L3)) (k + 1) (orU u (Int.toNat (k : Int)))) ?_ trivial ?_ ⟨(k + 1), (orU u (Int.toNat (k : Int))), rfl, ?_, rfl⟩
  kernel_rfl
  omega
  focus (first | (exact ⟨by omega, hkeep.skip (by assumption) (by assumption)⟩) | (exact ⟨by omega, hkeep.addU (by omega) (by assumption) (by assumption)⟩))
  rw [h13]
  have g13 : ¬ (a10.kept.data = a5.value) := fun hh => Bool.noConfusion ((strEq_iff.2 hh).symm.trans h13)
  refine cnT ?_
  refine srl 1 [6] ⟨[(6, .v (.bool false))], [(V3 l v), (V17 a10)]⟩ ?_
  refine rtr ?_
  refine inBlk_ret ?_
  refine thenL_ret ?_
  refine thenL_ret ?_
  refine inBlk_ret ?_
  refine thenL_ret ?_
  refine ⟨.inr rfl, .v (.bool false), by kernel_rfl, Ale.of_eq ?_⟩
  rotate_left
  rw [h8]
  have g8 := of_decide_eq_false h8
  have n8 : ¬ ((k) < (List.length (((Synod.satP v l).1).seats))) := by omega
  refine cnF ?_
  refine EL.exit ?_
  refine thenL_exit ?_
  refine thenL_exit ?_
  refine inBlk_hit ?_
  refine thenL_norm ?_
  refine srr 7 ⟨(V29 i k l u v), [(V3 l v)]⟩ ?_
  refine owf [.lst 1 (((((Synod.satP v l).1).voters).weights).map cI), VI ((((Synod.satP v l).1).voters).need), .v (.int .u64 (u.n : Int))] ⟨(84, .tup [.v (.bool ((enoughP ((((Synod.satP v l).1).voters).weights) ((((Synod.satP v l).1).voters).need) u.n).1)), VI ((enoughP ((((Synod.satP v l).1).voters).weights) ((((Synod.satP v l).1).voters).need) u.n).2)]) :: (V29 i k l u v), [(V3 l v)]⟩ F25_call (enough_fn ((((Synod.satP v l).1).voters).weights) ((((Synod.satP v l).1).voters).need) u (by omega)) ?_
  refine owl 5 [12, 13] ⟨[(13, VI ((enoughP ((((Synod.satP v l).1).voters).weights) ((((Synod.satP v l).1).voters).need) u.n).2)), (12, .v (.bool ((enoughP ((((Synod.satP v l).1).voters).weights) ((((Synod.satP v l).1).voters).need) u.n).1)))], [(V3 l v)]⟩ ?_
  refine srr 3 ⟨[(89, .v (.bool (((enoughP ((((Synod.satP v l).1).voters).weights) ((((Synod.satP v l).1).voters).need) u.n).2) == 0))), (88, .v (.bool (((enoughP ((((Synod.satP v l).1).voters).weights) ((((Synod.satP v l).1).voters).need) u.n).2) == 0))), (87, VI ((enoughP ((((Synod.satP v l).1).voters).weights) ((((Synod.satP v l).1).voters).need) u.n).2)), (13, VI ((enoughP ((((Synod.satP v l).1).voters).weights) ((((Synod.satP v l).1).voters).need) u.n).2)), (12, .v (.bool ((enoughP ((((Synod.satP v l).1).voters).weights) ((((Synod.satP v l).1).voters).need) u.n).1)))], [(V3 l v)]⟩ ?_
  rcases Bool.eq_false_or_eq_true ((((enoughP ((((Synod.satP v l).1).voters).weights) ((((Synod.satP v l).1).voters).need) u.n).2) == 0)) with h17 | h17
  rw [h17]
  have g17 : (((enoughP ((((Synod.satP v l).1).voters).weights) ((((Synod.satP v l).1).voters).need) u.n).2) = 0) := by simpa using h17
  refine owl 3 [6] ⟨[(6, .v (.bool ((enoughP ((((Synod.satP v l).1).voters).weights) ((((Synod.satP v l).1).voters).need) u.n).1)))], [(V3 l v)]⟩ ?_
  refine EL.ret ?_
  refine ⟨.inr rfl, .v (.bool ((enoughP ((((Synod.satP v l).1).voters).weights) ((((Synod.satP v l).1).voters).need) u.n).1)), by kernel_rfl, Ale.of_eq ?_⟩
  rotate_left
  rw [h17]
  have g17 : ¬ (((enoughP ((((Synod.satP v l).1).voters).weights) ((((Synod.satP v l).1).voters).need) u.n).2) = 0) := by simpa using h17
  refine owl 3 [6] ⟨[(6, .v (.bool false))], [(V3 l v)]⟩ ?_
  refine EL.ret ?_
  refine ⟨.inr rfl, .v (.bool false), by kernel_rfl, Ale.of_eq ?_⟩
  rotate_left
  rw [h1]
  refine owl 19 [2, 7, 43] ⟨(V6 i), (V4 l v)⟩ ?_
  refine cnT ?_
  refine srl 1 [6] ⟨[(6, .v (.bool true))], (V4 l v)⟩ ?_
  refine rtr ?_
  refine ⟨.inr rfl, .v (.bool true), by kernel_rfl, Ale.of_eq ?_⟩
  rotate_left
  all_goals (first | rfl | (have hkl : k = (Synod.satP v l).1.seats.length := (by omega); rw [hkl] at hkeep; have hen := hS.keeps2 (by omega) ‹(Synod.satP v l).1.bids[i.toNat]? = some _› (by assumption) hkeep; simp_all; done) | (have hkd := hS.kept2 (i := i) (by omega) ‹(Synod.satP v l).1.bids[i.toNat]? = some _› (by assumption) ‹(Synod.satP v l).1.seats[k]? = some _› (by assumption); exfalso; simp_all; done))
theorem SynodKept_walk {w : World} (hG : GlE (E0 w fun b => b < w.heap.size)) (v : Voters) (csv : List Value) (rv : GoT.rep w w.heap.size csv v) (l : List Step) (Al : Option Addr) (nl cl : Nat) (rl : GoT.rep w w.heap.size [.slice Al nl cl] l) (i : Int) (_wi : (Lit.int .i64 i).wf = true) : Calls Tryd.prog 8 #[.agg csv.toArray, .slice Al nl cl, I i] w fun e w' => e = .returned (.bool true) ∧ Below w.heap.size w w' := by
  have lv := (Voters.av rv).2
  have ll := rep_len rl
  exact fn_law (vs := [.agg csv.toArray, .slice Al nl cl, I i]) (synodKept_fn v l i (by first | assumption | omega) (by first | assumption | omega)) hG (.cons ((Voters.av rv).1) (.cons (rep_list (fun x : Step => [I x.kind, I x.n, .string x.data]) _ Step.flat (fun _ => rfl) (by intro x v hv; simp at hv; rcases hv with rfl | rfl | rfl <;> exact ⟨rfl, rfl⟩) rl) (.cons (.v rfl) (.nil))))
theorem SynodKept_own : ownKnob Tryd.prog.godebug = none := by kernel_rfl
theorem SynodKept_laidOut : laidOutB Tryd.prog = true := by kernel_rfl
set_option maxRecDepth 100000 in
set_option linter.unusedVariables false in
theorem SynodKept_lifted (os : Os) (started : os.Started) (H : Type) (enc : TypeId × Value → H) :
    ReturnsInHanded {} Tryd.checked os 8 .any (fun w args => (Rows.synodKeptSpec.pre enc Tryd.prog Tryd.f8 [] false w args ∧ laidMetH Tryd.prog Rows.synodKeptRow.laid w) ∧ sizedMet enc Tryd.prog Tryd.f8 (OpenSpec.ofChange Rows.synodKeptSpec) false w args)
      (Rows.synodKeptSpec.post enc Tryd.prog Tryd.f8 false true false false) := by
  refine returnsInHanded_of_change_and (C := Tryd.checked) (X := fun w _ => laidMetH Tryd.prog Rows.synodKeptRow.laid w) (fun _ _ _ hh h => h.of_heap hh) SynodKept_own started (by kernel_rfl) Tryd.func8
    (ChangeSpec.witness_shaped (enc := enc) (C := Tryd.checked) (os := os) (X := fun w _ => laidMetH Tryd.prog Rows.synodKeptRow.laid w) false (World.doorLaid Tryd.prog 14 os) #[.agg #[.slice none 0 0, .int .i64 0], .slice none 0 0, .int .i64 0] 8 rfl (World.shaped_of_RefB (by kernel_rfl) (by kernel_rfl)) (by kernel_rfl) (by kernel_rfl) (by kernel_rfl) (laidMetH_of_parts3 (fuel := 8) (laidMet_of_run' 8 (by kernel_rfl) (by kernel_rfl)) (by kernel_rfl) (by kernel_rfl))) ?_
  intro W base args ds gs before hval0 hW _ _ hL _
  have hval : ∀ (j : Nat) t v, Tryd.f8.params[j]? = some t → args[j]? = some v → Value.okWide Tryd.prog W .any base t v := hval0
  have hW' := hW
  obtain ⟨p, q, hA0, hV, rfl, hfz, hnd⟩ := hW
  have hA : DataW.TrodAll enc Tryd.prog W 0 (fun _ => true) true Tryd.f8.params.toList args.toList ds p := hA0
  rw [Tryd.params8] at hA hval
  obtain ⟨v0, vs0, d0, ds0, p0, q0, hargs, rfl, rfl, h0, r0⟩ := trodAll_cons hA
  obtain ⟨v1, vs1, d1, ds1, p1, q1, rfl, rfl, rfl, h1, r1⟩ := trodAll_cons r0
  obtain ⟨v2, vs2, d2, ds2, p2, q2, rfl, rfl, rfl, h2, r2⟩ := trodAll_cons r1
  obtain ⟨rfl, rfl, rfl⟩ := trodAll_nil r2
  obtain rfl : args = #[v0, v1, v2] := by cases args; simp_all
  obtain ⟨rfl, rfl⟩ := trodVars_none hV
  have k0 := h0
  have lt0 : ∀ x ∈ p0, x.block < W.heap.size := by obtain ⟨m, hm⟩ := k0; exact DataW.trod_lt m _ _ _ hm
  obtain ⟨x0, cs0, rfl, w0⟩ := open_agg opens_Voters Tryd.underlying24 (hval 0 24 v0 rfl rfl) h0
  have k1 := h1
  have lt1 : ∀ x ∈ p1, x.block < W.heap.size := by obtain ⟨m, hm⟩ := k1; exact DataW.trod_lt m _ _ _ hm
  obtain ⟨x1, A1, n1, c1, rfl, w1⟩ := open_list opens_LStep Tryd.underlying40 (hval 1 40 v1 rfl rfl) h1
  have k2 := h2
  have lt2 : ∀ x ∈ p2, x.block < W.heap.size := by obtain ⟨m, hm⟩ := k2; exact DataW.trod_lt m _ _ _ hm
  obtain ⟨a2, rfl, e2, e2', w2⟩ := open_int Tryd.underlying3 (hval 2 3 v2 rfl rfl) h2
  clear hA0 hval0
  refine (SynodKept_walk (w := W) (glE_of hL) x0 cs0 w0 x1 A1 n1 c1 w1 a2 w2).mono fun e W' ⟨he, bel⟩ => ?_
  subst he
  exact ⟨_, rfl, _, _, _, [], _, [], hW', trodAll_mk1 (shut_bool Tryd.underlying4 _), (trodAll_cons_mk (Below.trod SynodKept_laidOut (by kernel_rfl) (of_decide_eq_true (by kernel_rfl)) k0 bel lt0) (trodAll_cons_mk (Below.trod SynodKept_laidOut (by kernel_rfl) (of_decide_eq_true (by kernel_rfl)) k1 bel lt1) (trodAll_cons_mk (Below.trod SynodKept_laidOut (by kernel_rfl) (of_decide_eq_true (by kernel_rfl)) k2 bel lt2) trodAll_mk0))), rfl, bel.frame _, fun h => by cases h⟩
set_option maxRecDepth 100000 in
set_option maxHeartbeats 4000000 in
theorem SynodKept_row : Rows.SynodKeptSaid :=
  OpenClaim.holds_of_wide 8 Tryd.f8 rfl rfl rfl rfl rfl rfl rfl ⟨rfl, rfl, rfl, rfl, rfl⟩ rfl rfl rfl rfl rfl (by kernel_rfl) Tryd.func8 (by kernel_rfl)
    (of_decide_eq_true (by kernel_rfl)) (by unfold Func.isWrapper; first | (rw [if_pos (by decide +kernel)]; kernel_rfl) | (rw [if_neg (by decide +kernel)]; exact ⟨rfl, rfl⟩))
    (fun os started H enc _ => SynodKept_lifted os started H enc)
set_option maxRecDepth 100000 in
set_option maxHeartbeats 4000000 in
theorem SynodKept_holds : Rows.SynodKeptCardSaid :=
  Claim7.holds_tied_plain_at .later [] [.data] true (true, "cb5fefe2008e8336ea9f5d78b4e645a098888375547093116390ebfe8b58d892") false
    SynodKept_row (fun _ h => by cases h) (by kernel_rfl) (fun _ h => by cases h) synodKept_row_tie rfl ⟨rfl, rfl⟩ (by kernel_rfl) rfl
    (fun f fn hf hfn => by
      obtain rfl : f = 8 := Option.some.inj ((show Tryd.prog.funcNamed "supercargo/supercargolaw.SynodKept" = some 8 by kernel_rfl).symm.trans hf) |>.symm
      obtain rfl : fn = Tryd.f8 := (Option.some.inj (Tryd.func8.symm.trans hfn)).symm
      exact ⟨by kernel_rfl, fun j t ht => by
        rw [Tryd.params8] at ht
        have hm : t ∈ [24, 40, 3] := by simpa using Array.mem_of_getElem? ht
        have hall : ([24, 40, 3].all fun u => !Tryd.prog.wantsStandIn u) = true := by kernel_rfl
        exact (show Tryd.prog.wantsStandIn t = false by simpa using List.all_eq_true.1 hall t hm)⟩)
    (by kernel_rfl)
end Go.Proofs.YtligepciannclaaDoor
