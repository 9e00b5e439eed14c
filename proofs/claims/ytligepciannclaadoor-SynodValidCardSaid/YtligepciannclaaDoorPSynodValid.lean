/- What a bid puts, or a seat keeps, a bid would have: its own, or another one's that began: the law SynodValid returns true. No condition. -/
import Derived.Test.YtligepciannclaaDoorPSynJ
import Derived.WalkKit
import Derived.Handy
import Derived.ProofKit
import Derived.OpenShut
import Derived.ShutString
import Derived.ChangeOld
import Derived.Below
import Derived.Lib.Hide
import Derived.WalkLawsBesides
import Derived.WalkSpells
import Derived.Deep.QuietTactic
import Derived.BigQuiet
import Derived.Outline
import Derived.SevenTiedAt
namespace Go.Proofs.YtligepciannclaaDoor
set_option linter.unusedSimpArgs false
set_option linter.unusedVariables false
open Go.ChangeShapes Go.WideShapes Go.ChangeAt Go.RowKit
open Go.ChangeMaps (open_string shut_string)
set_option maxRecDepth 100000
set_option maxHeartbeats 4000000
theorem own_next {s : Synod} {o : Option ByteArray} {q : Nat} {a : Bid} {y : ByteArray} (h : ∀ (j : Nat) (e : Bid), j < q → s.bids[j]? = some e → ¬ some e.own = o) (ha : s.bids[q]? = some a) (hy : o = some y) (hn : ¬ a.own = y) : ∀ (j : Nat) (e : Bid), j < q + 1 → s.bids[j]? = some e → ¬ some e.own = o := by
  intro j e hj he hh
  by_cases hjq : j = q
  · subst hjq
    rw [ha] at he; obtain rfl := Option.some.inj he
    rw [hy] at hh; exact hn (Option.some.inj hh)
  · exact h j e (by omega) he hh
theorem own_no {s : Synod} {out : List ByteArray} (h : Owned s out) {i q : Nat} (hi : i < out.length) (hq : ¬ q < s.bids.length) (hn : ∀ (j : Nat) (e : Bid), j < q → s.bids[j]? = some e → ¬ some e.own = out[i]?) : False :=
  h.no (List.getElem?_eq_getElem hi) hq hn
section
variable (a13 : Seat) (a21 : Bid) (a23 : ByteArray) (a6 : Bid) (all : List ByteArray) (i : Int) (j : Nat) (k : Nat) (l : List Step) (out : List ByteArray) (q : Nat) (v : Voters)
abbrev V0 : LS := [(3, .ref 0 2 0 0), (1, .lst 3 (l.map Step.cs)), (2, VI i)]
abbrev V1 : LS := (15, .lst 3 (l.map Step.cs)) :: (14, .agg [.lst 1 (v.weights.map cI), VI v.need]) :: (V0 i l)
abbrev V2 : AV := .agg [.lst 1 (((((Synod.satP v l).1).voters).weights).map cI), VI ((((Synod.satP v l).1).voters).need), .lst 5 ((((Synod.satP v l).1).seats).map Seat.cs), .lst 8 ((((Synod.satP v l).1).bids).map Bid.cs), .lst 6 ((((Synod.satP v l).1).votes).map Vote.cs)]
abbrev V3 : OB := some ⟨5, [[.lst 1 (((((Synod.satP v l).1).voters).weights).map cI), VI ((((Synod.satP v l).1).voters).need), .lst 5 ((((Synod.satP v l).1).seats).map Seat.cs), .lst 8 ((((Synod.satP v l).1).bids).map Bid.cs), .lst 6 ((((Synod.satP v l).1).votes).map Vote.cs)]]⟩
abbrev V4 : LB := [some ⟨2, [[.lst 1 (v.weights.map cI), VI v.need]]⟩, (V3 l v)]
abbrev V5 : LS := [(26, .v (.bool true)), (7, .ref 1 5 0 0), (2, VI i)]
abbrev V6 : LS := [(10, VI 0), (9, .emp), (7, .ref 1 5 0 0), (2, VI i)]
abbrev V7 : LS := [(2, VI i), (7, .ref 1 5 0 0), (9, .own 0 1 0 (List.length out)), (10, VI (k : Int))]
abbrev V8 : LS := (29, .lst 8 ((((Synod.satP v l).1).bids).map Bid.cs)) :: (28, .ref 1 5 0 3) :: (27, VI (k : Int)) :: (V7 i k out)
abbrev V9 : LS := (30, VI (List.length (((Synod.satP v l).1).bids) : Int)) :: (V8 i k l out v)
abbrev V10 : LS := (36, VI (k : Int)) :: (35, .lst 8 ((((Synod.satP v l).1).bids).map Bid.cs)) :: (34, .ref 1 5 0 3) :: (31, .v (.bool true)) :: (V7 i k out)
abbrev V11 : LS := (37, .pim [VI a6.time, VI a6.phase, .v (.string a6.own), .v (.string a6.value), VI a6.best.at_.time, VI a6.best.at_.who, .v (.string a6.best.data), .v (.int .u64 (a6.heard.n : Int))] 0) :: (V10 i k l out v)
abbrev V12 : LS := (44, VI (k : Int)) :: (43, .lst 8 ((((Synod.satP v l).1).bids).map Bid.cs)) :: (42, .ref 1 5 0 3) :: (41, .own 0 1 0 (List.length out)) :: (40, .v (.bool true)) :: (V7 i k out)
abbrev V13 : LS := (45, .pim [VI a6.time, VI a6.phase, .v (.string a6.own), .v (.string a6.value), VI a6.best.at_.time, VI a6.best.at_.who, .v (.string a6.best.data), .v (.int .u64 (a6.heard.n : Int))] 0) :: (V12 i k l out v)
abbrev V14 : LB := [some ⟨1, (out.map cZ)⟩, (V3 l v), some ⟨1, [[.v (.string a6.value)]]⟩]
abbrev V15 : LS := (48, .own 2 1 0 1) :: (47, .v (.string a6.value)) :: (46, .pim [VI a6.time, VI a6.phase, .v (.string a6.own), .v (.string a6.value), VI a6.best.at_.time, VI a6.best.at_.who, .v (.string a6.best.data), .v (.int .u64 (a6.heard.n : Int))] 3) :: (V13 a6 i k l out v)
abbrev V16 : LB := [none, (V3 l v), some ⟨1, [[.v (.string a6.value)]]⟩, some ⟨1, ((out ++ ([a6.value])).map cZ)⟩]
abbrev V17 : LS := (49, .own 3 1 0 (List.length (out ++ ([a6.value])))) :: (V15 a6 i k l out v)
abbrev V18 : LS := [(9, .own 3 1 0 (List.length (out ++ ([a6.value])))), (49, .own 3 1 0 (List.length (out ++ ([a6.value])))), (48, .own 2 1 0 1), (47, .v (.string a6.value)), (46, .pim [VI a6.time, VI a6.phase, .v (.string a6.own), .v (.string a6.value), VI a6.best.at_.time, VI a6.best.at_.who, .v (.string a6.best.data), .v (.int .u64 (a6.heard.n : Int))] 3), (45, .pim [VI a6.time, VI a6.phase, .v (.string a6.own), .v (.string a6.value), VI a6.best.at_.time, VI a6.best.at_.who, .v (.string a6.best.data), .v (.int .u64 (a6.heard.n : Int))] 0), (44, VI (k : Int)), (43, .lst 8 ((((Synod.satP v l).1).bids).map Bid.cs)), (42, .ref 1 5 0 3), (41, .own 0 1 0 (List.length out)), (40, .v (.bool true)), (2, VI i), (7, .ref 1 5 0 0), (10, VI (k : Int))]
abbrev V19 : LS := [(32, VI (k : Int)), (9, .own 3 1 0 (List.length (out ++ ([a6.value])))), (49, .own 3 1 0 (List.length (out ++ ([a6.value])))), (48, .own 2 1 0 1), (47, .v (.string a6.value)), (46, .pim [VI a6.time, VI a6.phase, .v (.string a6.own), .v (.string a6.value), VI a6.best.at_.time, VI a6.best.at_.who, .v (.string a6.best.data), .v (.int .u64 (a6.heard.n : Int))] 3), (45, .pim [VI a6.time, VI a6.phase, .v (.string a6.own), .v (.string a6.value), VI a6.best.at_.time, VI a6.best.at_.who, .v (.string a6.best.data), .v (.int .u64 (a6.heard.n : Int))] 0), (44, VI (k : Int)), (43, .lst 8 ((((Synod.satP v l).1).bids).map Bid.cs)), (42, .ref 1 5 0 3), (41, .own 0 1 0 (List.length out)), (40, .v (.bool true)), (2, VI i), (7, .ref 1 5 0 0)]
abbrev V20 : LS := (10, VI ((k : Int) + 1)) :: (33, VI ((k : Int) + 1)) :: (V19 a6 i k l out v)
abbrev V21 : LS := [(32, VI (k : Int)), (40, .v (.bool false)), (2, VI i), (7, .ref 1 5 0 0), (9, .own 0 1 0 (List.length out))]
abbrev V22 : LS := (10, VI ((k : Int) + 1)) :: (33, VI ((k : Int) + 1)) :: (V21 i k out)
abbrev V23 : LS := [(11, VI 0), (2, VI i), (7, .ref 1 5 0 0), (9, .own 0 1 0 (List.length out))]
abbrev V24 : LS := [(2, VI i), (7, .ref 1 5 0 0), (9, .own 0 1 0 (List.length all)), (11, VI (j : Int))]
abbrev V25 : LS := (52, .lst 5 ((((Synod.satP v l).1).seats).map Seat.cs)) :: (51, .ref 1 5 0 2) :: (50, VI (j : Int)) :: (V24 all i j)
abbrev V26 : LS := (53, VI (List.length (((Synod.satP v l).1).seats) : Int)) :: (V25 all i j l v)
abbrev V27 : LS := (59, VI (j : Int)) :: (58, .lst 5 ((((Synod.satP v l).1).seats).map Seat.cs)) :: (57, .ref 1 5 0 2) :: (54, .v (.bool true)) :: (V24 all i j)
abbrev V28 : LS := (60, .pim [VI a13.promised.time, VI a13.promised.who, VI a13.kept.at_.time, VI a13.kept.at_.who, .v (.string a13.kept.data)] 0) :: (V27 all i j l v)
abbrev V29 : LS := (69, VI (j : Int)) :: (68, .lst 5 ((((Synod.satP v l).1).seats).map Seat.cs)) :: (67, .ref 1 5 0 2) :: (66, .own 0 1 0 (List.length all)) :: (65, .v (.bool true)) :: (V24 all i j)
abbrev V30 : LS := (70, .pim [VI a13.promised.time, VI a13.promised.who, VI a13.kept.at_.time, VI a13.kept.at_.who, .v (.string a13.kept.data)] 0) :: (V29 all i j l v)
abbrev V31 : LB := [some ⟨1, (all.map cZ)⟩, (V3 l v), some ⟨1, [[.v (.string a13.kept.data)]]⟩]
abbrev V32 : LS := (74, .own 2 1 0 1) :: (73, .v (.string a13.kept.data)) :: (72, .pim [VI a13.promised.time, VI a13.promised.who, VI a13.kept.at_.time, VI a13.kept.at_.who, .v (.string a13.kept.data)] 4) :: (71, .pim [VI a13.promised.time, VI a13.promised.who, VI a13.kept.at_.time, VI a13.kept.at_.who, .v (.string a13.kept.data)] 2) :: (V30 a13 all i j l v)
abbrev V33 : LB := [none, (V3 l v), some ⟨1, [[.v (.string a13.kept.data)]]⟩, some ⟨1, ((all ++ ([a13.kept.data])).map cZ)⟩]
abbrev V34 : LS := (75, .own 3 1 0 (List.length (all ++ ([a13.kept.data])))) :: (V32 a13 all i j l v)
abbrev V35 : LS := [(9, .own 3 1 0 (List.length (all ++ ([a13.kept.data])))), (75, .own 3 1 0 (List.length (all ++ ([a13.kept.data])))), (74, .own 2 1 0 1), (73, .v (.string a13.kept.data)), (72, .pim [VI a13.promised.time, VI a13.promised.who, VI a13.kept.at_.time, VI a13.kept.at_.who, .v (.string a13.kept.data)] 4), (71, .pim [VI a13.promised.time, VI a13.promised.who, VI a13.kept.at_.time, VI a13.kept.at_.who, .v (.string a13.kept.data)] 2), (70, .pim [VI a13.promised.time, VI a13.promised.who, VI a13.kept.at_.time, VI a13.kept.at_.who, .v (.string a13.kept.data)] 0), (69, VI (j : Int)), (68, .lst 5 ((((Synod.satP v l).1).seats).map Seat.cs)), (67, .ref 1 5 0 2), (66, .own 0 1 0 (List.length all)), (65, .v (.bool true)), (2, VI i), (7, .ref 1 5 0 0), (11, VI (j : Int))]
abbrev V36 : LS := [(55, VI (j : Int)), (65, .v (.bool false)), (2, VI i), (7, .ref 1 5 0 0), (9, .own 0 1 0 (List.length all))]
abbrev V37 : LS := (11, VI ((j : Int) + 1)) :: (56, VI ((j : Int) + 1)) :: (V36 all i j)
abbrev V38 : LS := [(55, VI (j : Int)), (9, .own 3 1 0 (List.length (all ++ ([a13.kept.data])))), (75, .own 3 1 0 (List.length (all ++ ([a13.kept.data])))), (74, .own 2 1 0 1), (73, .v (.string a13.kept.data)), (72, .pim [VI a13.promised.time, VI a13.promised.who, VI a13.kept.at_.time, VI a13.kept.at_.who, .v (.string a13.kept.data)] 4), (71, .pim [VI a13.promised.time, VI a13.promised.who, VI a13.kept.at_.time, VI a13.kept.at_.who, .v (.string a13.kept.data)] 2), (70, .pim [VI a13.promised.time, VI a13.promised.who, VI a13.kept.at_.time, VI a13.kept.at_.who, .v (.string a13.kept.data)] 0), (69, VI (j : Int)), (68, .lst 5 ((((Synod.satP v l).1).seats).map Seat.cs)), (67, .ref 1 5 0 2), (66, .own 0 1 0 (List.length all)), (65, .v (.bool true)), (2, VI i), (7, .ref 1 5 0 0)]
abbrev V39 : LS := (11, VI ((j : Int) + 1)) :: (56, VI ((j : Int) + 1)) :: (V38 a13 all i j l v)
abbrev V40 : LS := [(2, VI i), (7, .ref 1 5 0 0), (9, .own 0 1 0 (List.length all))]
abbrev V41 : LS := [(2, VI i), (7, .ref 0 5 0 0), (9, .own 1 1 0 (List.length all)), (12, VI (q : Int))]
abbrev V42 : LS := (82, .lst 8 ((((Synod.satP v l).1).bids).map Bid.cs)) :: (81, .ref 0 5 0 3) :: (80, VI (q : Int)) :: (V41 all i q)
abbrev V43 : LS := (83, VI (List.length (((Synod.satP v l).1).bids) : Int)) :: (V42 all i l q v)
abbrev V44 : LS := (89, VI (q : Int)) :: (88, .lst 8 ((((Synod.satP v l).1).bids).map Bid.cs)) :: (87, .ref 0 5 0 3) :: (84, .v (.bool true)) :: (V41 all i q)
abbrev V45 : LS := (90, .pim [VI a21.time, VI a21.phase, .v (.string a21.own), .v (.string a21.value), VI a21.best.at_.time, VI a21.best.at_.who, .v (.string a21.best.data), .v (.int .u64 (a21.heard.n : Int))] 0) :: (V44 all i l q v)
abbrev V46 : LS := (94, VI i) :: (93, .own 1 1 0 (List.length all)) :: (92, .v (.string a21.own)) :: (91, .pim [VI a21.time, VI a21.phase, .v (.string a21.own), .v (.string a21.value), VI a21.best.at_.time, VI a21.best.at_.who, .v (.string a21.best.data), .v (.int .u64 (a21.heard.n : Int))] 2) :: (V45 a21 all i l q v)
abbrev V47 : LS := (96, .v (.string a23)) :: (95, .ref 1 1 (0 + Int.toNat i) 0) :: (V46 a21 all i l q v)
abbrev V48 : LS := [(85, VI (q : Int)), (97, .v (.bool false)), (2, VI i), (7, .ref 0 5 0 0), (9, .own 1 1 0 (List.length all))]
abbrev V49 : LS := (12, VI ((q : Int) + 1)) :: (86, VI ((q : Int) + 1)) :: (V48 all i q)
end
theorem synodValid_fn (v : Voters) (l : List Step) (i : Int) (hx : v.weights.length ≤ 9223372036854775807) (hl : l.length ≤ 9223372036854775807) : Fn Tryd.prog 6 [.agg [.lst 1 (v.weights.map cI), VI v.need], .lst 3 (l.map Step.cs), VI i] (.v (.bool true)) := by
  refine fn_walkW F6_ok (of_decide_eq_true (by kernel_rfl)) ?_
  refine srl 2 [1, 2, 3] ⟨(V0 i l), [some ⟨2, [[.lst 1 (v.weights.map cI), VI v.need]]⟩]⟩ ?_
  refine srr 2 ⟨(V1 i l v), [some ⟨2, [[.lst 1 (v.weights.map cI), VI v.need]]⟩]⟩ ?_
  refine owf [.agg [.lst 1 (v.weights.map cI), VI v.need], .lst 3 (l.map Step.cs)] ⟨(16, .tup [(V2 l v), .v (.bool ((Synod.satP v l).2))]) :: (V1 i l v), [some ⟨2, [[.lst 1 (v.weights.map cI), VI v.need]]⟩]⟩ F22_call (sat_fn v l (by first | assumption | omega) (by omega)) ?_
  refine owl 6 [2, 7, 8] ⟨[(8, .v (.bool ((Synod.satP v l).2))), (7, .ref 1 5 0 0), (2, VI i)], (V4 l v)⟩ ?_
  refine EL.seq ?_
  refine EL.sreg ?_
  refine owf [] ⟨[(19, .v (.bool true)), (8, .v (.bool ((Synod.satP v l).2))), (7, .ref 1 5 0 0), (2, VI i)], (V4 l v)⟩ F16_call (sbegun_fn) ?_
  refine owl 1 [2, 7, 8, 20] ⟨[(20, .v (.bool false)), (8, .v (.bool ((Synod.satP v l).2))), (7, .ref 1 5 0 0), (2, VI i)], (V4 l v)⟩ ?_
  refine cnF ?_
  refine skn ?_
  refine EL.seq ?_
  refine srr 3 ⟨[(23, .v (.bool (!((Synod.satP v l).2)))), (22, .v (.bool (!((Synod.satP v l).2)))), (21, .v (.bool ((Synod.satP v l).2))), (20, .v (.bool false)), (8, .v (.bool ((Synod.satP v l).2))), (7, .ref 1 5 0 0), (2, VI i)], (V4 l v)⟩ ?_
  rcases Bool.eq_false_or_eq_true ((Synod.satP v l).2) with h1 | h1
  rw [h1]
  refine owl 3 [2, 7, 26] ⟨[(26, .v (.bool (decide (i < 0)))), (7, .ref 1 5 0 0), (2, VI i)], (V4 l v)⟩ ?_
  rcases Bool.eq_false_or_eq_true (decide (i < 0)) with h2 | h2
  rw [h2]
  have g2 := of_decide_eq_true h2
  refine cnT ?_
  refine srl 1 [6] ⟨[(6, .v (.bool true))], (V4 l v)⟩ ?_
  refine rtr ?_
  refine ⟨.inr rfl, .v (.bool true), by kernel_rfl, Ale.of_eq ?_⟩
  rotate_left
  rw [h2]
  have g2 := of_decide_eq_false h2
  refine cnF ?_
  refine skn ?_
  refine srl 1 [2, 7, 9] ⟨[(9, .emp), (7, .ref 1 5 0 0), (2, VI i)], (V4 l v)⟩ ?_
  refine EL.seq ?_
  refine srl 1 [2, 7, 9, 10] ⟨(V6 i), (V4 l v)⟩ ?_
  refine EL.block ?_
  refine EL.loopN (fun mM xX => ∃ (k : Nat) (out : List ByteArray), mM = (Synod.satP v l).1.bids.length - k ∧ (k ≤ (Synod.satP v l).1.bids.length ∧ out.length ≤ k ∧ Owned (Synod.satP v l).1 out) ∧ xX = ⟨(V7 i k out), [some ⟨1, (out.map cZ)⟩, (V3 l v)]⟩) (y := (fun (k : Nat) (out : List ByteArray) => (⟨(V7 i k out), [some ⟨1, (out.map cZ)⟩, (V3 l v)]⟩ : L3)) 0 []) [2, 7, 9, 10] [.new 1, .old 1 false] [(9, 0)] (by kernel_rfl) trivial ⟨0, [], rfl, by exact ⟨by omega, by simp, Owned.nil _⟩, rfl⟩ ?_
  rintro _ _ ⟨k, out, rfl, hI3, rfl⟩
  obtain ⟨hk, ho, hown⟩ := hI3
  have hS := (Synod.sat_sat (v := v) (l := l) (by assumption))
  have hS1 := qc_len hS.ok.q
  have hS2 := hS.ok.len
  have hS3 := hS.ok.few
  refine EL.seq ?_
  refine srr 3 ⟨(V8 i k l out v), [some ⟨1, (out.map cZ)⟩, (V3 l v)]⟩ ?_
  refine owo (VI (List.length (((Synod.satP v l).1).bids) : Int)) [] [] ⟨(V9 i k l out v), [some ⟨1, (out.map cZ)⟩, (V3 l v)]⟩ (opE_len Bid.cs (((Synod.satP v l).1).bids) (.s 29) 8 (by kernel_rfl) (by kernel_rfl) (.inl rfl)) ?_
  refine owl 1 [2, 7, 9, 10, 31] ⟨(31, .v (.bool (decide ((k : Int) < (List.length (((Synod.satP v l).1).bids) : Int))))) :: (V7 i k out), [some ⟨1, (out.map cZ)⟩, (V3 l v)]⟩ ?_
  rcases Bool.eq_false_or_eq_true (decide ((k : Int) < (List.length (((Synod.satP v l).1).bids) : Int))) with h4 | h4
  rw [h4]
  have g4 := of_decide_eq_true h4
  have n4 : ((k) < (List.length (((Synod.satP v l).1).bids))) := by omega
  refine cnT ?_
  refine skn ?_
  refine EL.seq ?_
  refine EL.block ?_
  refine srr 3 ⟨(V10 i k l out v), [some ⟨1, (out.map cZ)⟩, (V3 l v)]⟩ ?_
  obtain ⟨a6, ha6⟩ : ∃ y, (((Synod.satP v l).1).bids)[((k : Int) : Int).toNat]? = some y := idx_ex ⟨by omega, by omega⟩
  have iha6 : (((Synod.satP v l).1).bids)[k]? = some a6 := by simpa using ha6
  have dha6 := drop_get iha6
  refine owo (.pim [VI a6.time, VI a6.phase, .v (.string a6.own), .v (.string a6.value), VI a6.best.at_.time, VI a6.best.at_.who, .v (.string a6.best.data), .v (.int .u64 (a6.heard.n : Int))] 0) [] [] ⟨(V11 a6 i k l out v), [some ⟨1, (out.map cZ)⟩, (V3 l v)]⟩ (opE_iad Bid.cs (((Synod.satP v l).1).bids) (.s 35) (.s 36) 8 .i64 (k : Int) a6 (by kernel_rfl) (by kernel_rfl) (.inl rfl) rfl (by omega) ha6) ?_
  refine owl 3 [2, 7, 9, 10, 40] ⟨(40, .v (.bool (decide (a6.phase > 1)))) :: (V7 i k out), [some ⟨1, (out.map cZ)⟩, (V3 l v)]⟩ ?_
  rcases Bool.eq_false_or_eq_true (decide (a6.phase > 1)) with h7 | h7
  rw [h7]
  have g7 := of_decide_eq_true h7
  refine cnT ?_
  refine EL.reg0 ?_
  refine owr 4 ⟨(V12 i k l out v), [some ⟨1, (out.map cZ)⟩, (V3 l v)]⟩ ?_
  refine owo (.pim [VI a6.time, VI a6.phase, .v (.string a6.own), .v (.string a6.value), VI a6.best.at_.time, VI a6.best.at_.who, .v (.string a6.best.data), .v (.int .u64 (a6.heard.n : Int))] 0) [] [] ⟨(V13 a6 i k l out v), [some ⟨1, (out.map cZ)⟩, (V3 l v)]⟩ (opE_iad Bid.cs (((Synod.satP v l).1).bids) (.s 43) (.s 44) 8 .i64 (k : Int) a6 (by kernel_rfl) (by kernel_rfl) (.inl rfl) rfl (by omega) ha6) ?_
  refine owr 3 ⟨(V15 a6 i k l out v), (V14 a6 l out v)⟩ ?_
  refine owo (.own 3 1 0 (List.length (out ++ ([a6.value])))) [(0, none), (3, some ⟨1, ((out ++ ([a6.value])).map cZ)⟩)] [2, 0] ⟨(V17 a6 i k l out v), (V16 a6 l out v)⟩ (opE_appO cZ out ([a6.value]) (.s 41) (.s 48) 1 16 0 (.own 2 1 0 1) _ (by kernel_rfl) (by kernel_rfl) rfl (by kernel_rfl) rfl (.own (els := [[.v (.string a6.value)]]) (by kernel_rfl) (by kernel_rfl) (of_decide_eq_true (by kernel_rfl))) (by simp; omega)) ?_
  refine owe 1 ⟨(V18 a6 i k l out v), (V16 a6 l out v)⟩ ?_
  refine inBlk_norm ?_
  refine thenL_norm ?_
  refine EL.reg0 ?_
  refine owr 3 ⟨(10, VI (IntKind.i64.wrap ((k : Int) + 1))) :: (33, VI (IntKind.i64.wrap ((k : Int) + 1))) :: (V19 a6 i k l out v), (V16 a6 l out v)⟩ ?_
  have e8 : IntKind.i64.wrap ((k : Int) + 1) = (k : Int) + 1 := wr64 (by omega)
  rw [e8]
  refine owe 0 ⟨(V20 a6 i k l out v), (V16 a6 l out v)⟩ ?_
  refine thenL_norm ?_
  refine round_end (live := [2, 7, 9, 10]) (src := [.old 3 true, .old 1 false]) (es := []) (y := (fun (k : Nat) (out : List ByteArray) => (⟨(V7 i k out), [some ⟨1, (out.map cZ)⟩, (V3 l v)]⟩ : L3)) (k + 1) (out ++ ([a6.value]))) ?_ ⟨pucZ (out ++ ([a6.value])) (by kernel_rfl), trivial⟩ ?_ ⟨(k + 1), (out ++ ([a6.value])), rfl, ?_, rfl⟩
  kernel_rfl
  omega
  focus (first | (exact ⟨by omega, by simp; omega, hown.add (hS.valid (by assumption) (by assumption))⟩) | (exact ⟨by omega, by omega, hown⟩))
  rw [h7]
  have g7 := of_decide_eq_false h7
  refine cnF ?_
  refine EL.skip ?_
  refine inBlk_norm ?_
  refine thenL_norm ?_
  refine EL.reg0 ?_
  refine owr 3 ⟨(10, VI (IntKind.i64.wrap ((k : Int) + 1))) :: (33, VI (IntKind.i64.wrap ((k : Int) + 1))) :: (V21 i k out), [some ⟨1, (out.map cZ)⟩, (V3 l v)]⟩ ?_
  have e9 : IntKind.i64.wrap ((k : Int) + 1) = (k : Int) + 1 := wr64 (by omega)
  rw [e9]
  refine owe 0 ⟨(V22 i k out), [some ⟨1, (out.map cZ)⟩, (V3 l v)]⟩ ?_
  refine thenL_norm ?_
  refine round_end (live := [2, 7, 9, 10]) (src := [.old 0 true, .old 1 false]) (es := []) (y := (fun (k : Nat) (out : List ByteArray) => (⟨(V7 i k out), [some ⟨1, (out.map cZ)⟩, (V3 l v)]⟩ : L3)) (k + 1) out) ?_ ⟨pucZ out (by kernel_rfl), trivial⟩ ?_ ⟨(k + 1), out, rfl, ?_, rfl⟩
  kernel_rfl
  omega
  focus (first | (exact ⟨by omega, by simp; omega, hown.add (hS.valid (by assumption) (by assumption))⟩) | (exact ⟨by omega, by omega, hown⟩))
  rw [h4]
  have g4 := of_decide_eq_false h4
  have n4 : ¬ ((k) < (List.length (((Synod.satP v l).1).bids))) := by omega
  refine cnF ?_
  refine EL.exit ?_
  refine thenL_exit ?_
  refine thenL_exit ?_
  refine inBlk_hit ?_
  refine thenL_norm ?_
  refine EL.seq ?_
  refine srl 1 [2, 7, 9, 11] ⟨(V23 i out), [some ⟨1, (out.map cZ)⟩, (V3 l v)]⟩ ?_
  refine EL.block ?_
  refine EL.loopN (fun mM xX => ∃ (j : Nat) (all : List ByteArray), mM = (Synod.satP v l).1.seats.length - j ∧ (j ≤ (Synod.satP v l).1.seats.length ∧ all.length ≤ 31 + j ∧ Owned (Synod.satP v l).1 all) ∧ xX = ⟨(V24 all i j), [some ⟨1, (all.map cZ)⟩, (V3 l v)]⟩) (y := (fun (j : Nat) (all : List ByteArray) => (⟨(V24 all i j), [some ⟨1, (all.map cZ)⟩, (V3 l v)]⟩ : L3)) 0 out) [2, 7, 9, 11] [.old 0 true, .old 1 false] [] (by kernel_rfl) ⟨pucZ out (by kernel_rfl), trivial⟩ ⟨0, out, rfl, by exact ⟨by omega, by omega, hown⟩, rfl⟩ ?_
  rintro _ _ ⟨j, all, rfl, hI10, rfl⟩
  obtain ⟨hj, ho1, ho2⟩ := hI10
  refine EL.seq ?_
  refine srr 3 ⟨(V25 all i j l v), [some ⟨1, (all.map cZ)⟩, (V3 l v)]⟩ ?_
  refine owo (VI (List.length (((Synod.satP v l).1).seats) : Int)) [] [] ⟨(V26 all i j l v), [some ⟨1, (all.map cZ)⟩, (V3 l v)]⟩ (opE_len Seat.cs (((Synod.satP v l).1).seats) (.s 52) 5 (by kernel_rfl) (by kernel_rfl) (.inl rfl)) ?_
  refine owl 1 [2, 7, 9, 11, 54] ⟨(54, .v (.bool (decide ((j : Int) < (List.length (((Synod.satP v l).1).seats) : Int))))) :: (V24 all i j), [some ⟨1, (all.map cZ)⟩, (V3 l v)]⟩ ?_
  rcases Bool.eq_false_or_eq_true (decide ((j : Int) < (List.length (((Synod.satP v l).1).seats) : Int))) with h11 | h11
  rw [h11]
  have g11 := of_decide_eq_true h11
  have n11 : ((j) < (List.length (((Synod.satP v l).1).seats))) := by omega
  refine cnT ?_
  refine skn ?_
  refine EL.seq ?_
  refine EL.block ?_
  refine srr 3 ⟨(V27 all i j l v), [some ⟨1, (all.map cZ)⟩, (V3 l v)]⟩ ?_
  obtain ⟨a13, ha13⟩ : ∃ y, (((Synod.satP v l).1).seats)[((j : Int) : Int).toNat]? = some y := idx_ex ⟨by omega, by omega⟩
  have iha13 : (((Synod.satP v l).1).seats)[j]? = some a13 := by simpa using ha13
  have dha13 := drop_get iha13
  refine owo (.pim [VI a13.promised.time, VI a13.promised.who, VI a13.kept.at_.time, VI a13.kept.at_.who, .v (.string a13.kept.data)] 0) [] [] ⟨(V28 a13 all i j l v), [some ⟨1, (all.map cZ)⟩, (V3 l v)]⟩ (opE_iad Seat.cs (((Synod.satP v l).1).seats) (.s 58) (.s 59) 5 .i64 (j : Int) a13 (by kernel_rfl) (by kernel_rfl) (.inl rfl) rfl (by omega) ha13) ?_
  refine owl 5 [2, 7, 9, 11, 65] ⟨(65, .v (.bool (!((a13.kept.at_.time == 0) && ((a13.kept.at_.who == 0) && true))))) :: (V24 all i j), [some ⟨1, (all.map cZ)⟩, (V3 l v)]⟩ ?_
  rcases Bool.eq_false_or_eq_true (((a13.kept.at_.time == 0) && ((a13.kept.at_.who == 0) && true))) with h14 | h14
  rw [h14]
  have g14 : a13.kept.at_.time = 0 ∧ a13.kept.at_.who = 0 := by simpa [strEq_iff] using h14
  refine cnF ?_
  refine EL.skip ?_
  refine inBlk_norm ?_
  refine thenL_norm ?_
  refine EL.reg0 ?_
  refine owr 3 ⟨(11, VI (IntKind.i64.wrap ((j : Int) + 1))) :: (56, VI (IntKind.i64.wrap ((j : Int) + 1))) :: (V36 all i j), [some ⟨1, (all.map cZ)⟩, (V3 l v)]⟩ ?_
  have e15 : IntKind.i64.wrap ((j : Int) + 1) = (j : Int) + 1 := wr64 (by omega)
  rw [e15]
  refine owe 0 ⟨(V37 all i j), [some ⟨1, (all.map cZ)⟩, (V3 l v)]⟩ ?_
  refine thenL_norm ?_
  refine round_end (live := [2, 7, 9, 11]) (src := [.old 0 true, .old 1 false]) (es := []) (y := (fun (j : Nat) (all : List ByteArray) => (⟨(V24 all i j), [some ⟨1, (all.map cZ)⟩, (V3 l v)]⟩ : L3)) (j + 1) all) ?_ ⟨pucZ all (by kernel_rfl), trivial⟩ ?_ ⟨(j + 1), all, rfl, ?_, rfl⟩
  kernel_rfl
  omega
  focus (first | (exact ⟨by omega, by simp; omega, ho2.add (hS.valid_seat (by assumption) (by assumption))⟩) | (exact ⟨by omega, by omega, ho2⟩))
  rw [h14]
  have g14 : ¬ (a13.kept.at_.time = 0 ∧ a13.kept.at_.who = 0) := fun ⟨q0, q1⟩ => Bool.noConfusion ((show (((a13.kept.at_.time == 0) && ((a13.kept.at_.who == 0) && true))) = true by first | (simp [q0, q1, strEq_iff]; done) | (simp only [q0, q1, beq_self_eq_true, Bool.and_self, Bool.and_true, Bool.true_and]; done)).symm.trans h14)
  refine cnT ?_
  refine EL.reg0 ?_
  refine owr 4 ⟨(V29 all i j l v), [some ⟨1, (all.map cZ)⟩, (V3 l v)]⟩ ?_
  refine owo (.pim [VI a13.promised.time, VI a13.promised.who, VI a13.kept.at_.time, VI a13.kept.at_.who, .v (.string a13.kept.data)] 0) [] [] ⟨(V30 a13 all i j l v), [some ⟨1, (all.map cZ)⟩, (V3 l v)]⟩ (opE_iad Seat.cs (((Synod.satP v l).1).seats) (.s 68) (.s 69) 5 .i64 (j : Int) a13 (by kernel_rfl) (by kernel_rfl) (.inl rfl) rfl (by omega) ha13) ?_
  refine owr 4 ⟨(V32 a13 all i j l v), (V31 a13 all l v)⟩ ?_
  refine owo (.own 3 1 0 (List.length (all ++ ([a13.kept.data])))) [(0, none), (3, some ⟨1, ((all ++ ([a13.kept.data])).map cZ)⟩)] [2, 0] ⟨(V34 a13 all i j l v), (V33 a13 all l v)⟩ (opE_appO cZ all ([a13.kept.data]) (.s 66) (.s 74) 1 16 0 (.own 2 1 0 1) _ (by kernel_rfl) (by kernel_rfl) rfl (by kernel_rfl) rfl (.own (els := [[.v (.string a13.kept.data)]]) (by kernel_rfl) (by kernel_rfl) (of_decide_eq_true (by kernel_rfl))) (by simp; omega)) ?_
  refine owe 1 ⟨(V35 a13 all i j l v), (V33 a13 all l v)⟩ ?_
  refine inBlk_norm ?_
  refine thenL_norm ?_
  refine EL.reg0 ?_
  refine owr 3 ⟨(11, VI (IntKind.i64.wrap ((j : Int) + 1))) :: (56, VI (IntKind.i64.wrap ((j : Int) + 1))) :: (V38 a13 all i j l v), (V33 a13 all l v)⟩ ?_
  have e16 : IntKind.i64.wrap ((j : Int) + 1) = (j : Int) + 1 := wr64 (by omega)
  rw [e16]
  refine owe 0 ⟨(V39 a13 all i j l v), (V33 a13 all l v)⟩ ?_
  refine thenL_norm ?_
  refine round_end (live := [2, 7, 9, 11]) (src := [.old 3 true, .old 1 false]) (es := []) (y := (fun (j : Nat) (all : List ByteArray) => (⟨(V24 all i j), [some ⟨1, (all.map cZ)⟩, (V3 l v)]⟩ : L3)) (j + 1) (all ++ ([a13.kept.data]))) ?_ ⟨pucZ (all ++ ([a13.kept.data])) (by kernel_rfl), trivial⟩ ?_ ⟨(j + 1), (all ++ ([a13.kept.data])), rfl, ?_, rfl⟩
  kernel_rfl
  omega
  focus (first | (exact ⟨by omega, by simp; omega, ho2.add (hS.valid_seat (by assumption) (by assumption))⟩) | (exact ⟨by omega, by omega, ho2⟩))
  rw [h11]
  have g11 := of_decide_eq_false h11
  have n11 : ¬ ((j) < (List.length (((Synod.satP v l).1).seats))) := by omega
  refine cnF ?_
  refine EL.exit ?_
  refine thenL_exit ?_
  refine thenL_exit ?_
  refine inBlk_hit ?_
  refine thenL_norm ?_
  refine EL.seq ?_
  refine srl 4 [2, 7, 9, 79] ⟨(79, .v (.bool (decide (i ≥ (List.length all : Int))))) :: (V40 all i), [some ⟨1, (all.map cZ)⟩, (V3 l v)]⟩ ?_
  rcases Bool.eq_false_or_eq_true (decide (i ≥ (List.length all : Int))) with h17 | h17
  rw [h17]
  have g17 := of_decide_eq_true h17
  refine cnT ?_
  refine srl 1 [6] ⟨[(6, .v (.bool true))], [some ⟨1, (all.map cZ)⟩, (V3 l v)]⟩ ?_
  refine rtr ?_
  refine ⟨.inr rfl, .v (.bool true), by kernel_rfl, Ale.of_eq ?_⟩
  rotate_left
  rw [h17]
  have g17 := of_decide_eq_false h17
  refine cnF ?_
  refine skn ?_
  refine EL.seq ?_
  refine srl 1 [2, 7, 9, 12] ⟨(12, VI 0) :: (V40 all i), [some ⟨1, (all.map cZ)⟩, (V3 l v)]⟩ ?_
  refine EL.block ?_
  refine EL.loopN (fun mM xX => ∃ (q : Nat), mM = (Synod.satP v l).1.bids.length - q ∧ (q ≤ (Synod.satP v l).1.bids.length ∧ ∀ (j : Nat) (e : Bid), j < q → (Synod.satP v l).1.bids[j]? = some e → ¬ some e.own = all[i.toNat]?) ∧ xX = ⟨(V41 all i q), [(V3 l v), some ⟨1, (all.map cZ)⟩]⟩) (y := (fun (q : Nat) => (⟨(V41 all i q), [(V3 l v), some ⟨1, (all.map cZ)⟩]⟩ : L3)) 0) [2, 7, 9, 12] [.old 1 false, .old 0 true] [] (by kernel_rfl) ⟨pucZ all (by kernel_rfl), trivial⟩ ⟨0, rfl, by exact ⟨by omega, fun j e hj => absurd hj (Nat.not_lt_zero _)⟩, rfl⟩ ?_
  rintro _ _ ⟨q, rfl, hI18, rfl⟩
  obtain ⟨hq, hno⟩ := hI18
  refine EL.seq ?_
  refine srr 3 ⟨(V42 all i l q v), [(V3 l v), some ⟨1, (all.map cZ)⟩]⟩ ?_
  refine owo (VI (List.length (((Synod.satP v l).1).bids) : Int)) [] [] ⟨(V43 all i l q v), [(V3 l v), some ⟨1, (all.map cZ)⟩]⟩ (opE_len Bid.cs (((Synod.satP v l).1).bids) (.s 82) 8 (by kernel_rfl) (by kernel_rfl) (.inl rfl)) ?_
  refine owl 1 [2, 7, 9, 12, 84] ⟨(84, .v (.bool (decide ((q : Int) < (List.length (((Synod.satP v l).1).bids) : Int))))) :: (V41 all i q), [(V3 l v), some ⟨1, (all.map cZ)⟩]⟩ ?_
  rcases Bool.eq_false_or_eq_true (decide ((q : Int) < (List.length (((Synod.satP v l).1).bids) : Int))) with h19 | h19
  rw [h19]
  have g19 := of_decide_eq_true h19
  have n19 : ((q) < (List.length (((Synod.satP v l).1).bids))) := by omega
  refine cnT ?_
  refine skn ?_
  refine EL.seq ?_
  refine EL.block ?_
  refine sdr 3 ⟨(V44 all i l q v), [(V3 l v), some ⟨1, (all.map cZ)⟩]⟩ ?_
  obtain ⟨a21, ha21⟩ : ∃ y, (((Synod.satP v l).1).bids)[((q : Int) : Int).toNat]? = some y := idx_ex ⟨by omega, by omega⟩
  have iha21 : (((Synod.satP v l).1).bids)[q]? = some a21 := by simpa using ha21
  have dha21 := drop_get iha21
  refine dwo (.pim [VI a21.time, VI a21.phase, .v (.string a21.own), .v (.string a21.value), VI a21.best.at_.time, VI a21.best.at_.who, .v (.string a21.best.data), .v (.int .u64 (a21.heard.n : Int))] 0) [] [] ⟨(V45 a21 all i l q v), [(V3 l v), some ⟨1, (all.map cZ)⟩]⟩ (opE_iad Bid.cs (((Synod.satP v l).1).bids) (.s 88) (.s 89) 8 .i64 (q : Int) a21 (by kernel_rfl) (by kernel_rfl) (.inl rfl) rfl (by omega) ha21) ?_
  refine dwr 4 ⟨(V46 a21 all i l q v), [(V3 l v), some ⟨1, (all.map cZ)⟩]⟩ ?_
  obtain ⟨a23, ha23⟩ : ∃ y, all[(i : Int).toNat]? = some y := idx_ex ⟨by omega, by omega⟩
  refine dwo (.ref 1 1 (0 + Int.toNat i) 0) [] [1] ⟨(95, .ref 1 1 (0 + Int.toNat i) 0) :: (V46 a21 all i l q v), [(V3 l v), some ⟨1, (all.map cZ)⟩]⟩ (opE_iado (.s 93) (.s 94) 1 1 0 (List.length all) .i64 i ⟨1, (all.map cZ)⟩ (by kernel_rfl) (by kernel_rfl) rfl rfl ⟨by omega, by omega⟩ (by kernel_rfl)) ?_
  refine dwo (.v (.string a23)) [] [1] ⟨(V47 a21 a23 all i l q v), [(V3 l v), some ⟨1, (all.map cZ)⟩]⟩ (opE_ldoS cZ all none (.s 95) 1 1 (0 + Int.toNat i) 0 a23 (.v (.string a23)) (by kernel_rfl) (by kernel_rfl) rfl (by kernel_rfl) (by simpa using ha23) (by kernel_rfl)) ?_
  refine dwl 1 [2, 7, 9, 12, 97] ⟨(97, .v (.bool (strEq a21.own a23))) :: (V41 all i q), [(V3 l v), some ⟨1, (all.map cZ)⟩]⟩ ?_
  rcases Bool.eq_false_or_eq_true (strEq a21.own a23) with h24 | h24
  rw [h24]
  have g24 : (a21.own = a23) := strEq_iff.1 h24
  refine cnT ?_
  refine srl 1 [6] ⟨[(6, .v (.bool true))], [(V3 l v), some ⟨1, (all.map cZ)⟩]⟩ ?_
  refine EL.ret ?_
  refine inBlk_ret ?_
  refine thenL_ret ?_
  refine thenL_ret ?_
  refine inBlk_ret ?_
  refine thenL_ret ?_
  refine ⟨.inr rfl, .v (.bool true), by kernel_rfl, Ale.of_eq ?_⟩
  rotate_left
  rw [h24]
  have g24 : ¬ (a21.own = a23) := fun hh => Bool.noConfusion ((strEq_iff.2 hh).symm.trans h24)
  refine cnF ?_
  refine EL.skip ?_
  refine inBlk_norm ?_
  refine thenL_norm ?_
  refine EL.reg0 ?_
  refine owr 3 ⟨(12, VI (IntKind.i64.wrap ((q : Int) + 1))) :: (86, VI (IntKind.i64.wrap ((q : Int) + 1))) :: (V48 all i q), [(V3 l v), some ⟨1, (all.map cZ)⟩]⟩ ?_
  have e25 : IntKind.i64.wrap ((q : Int) + 1) = (q : Int) + 1 := wr64 (by omega)
  rw [e25]
  refine owe 0 ⟨(V49 all i q), [(V3 l v), some ⟨1, (all.map cZ)⟩]⟩ ?_
  refine thenL_norm ?_
  refine round_end (live := [2, 7, 9, 12]) (src := [.old 0 false, .old 1 true]) (es := []) (y := (fun (q : Nat) => (⟨(V41 all i q), [(V3 l v), some ⟨1, (all.map cZ)⟩]⟩ : L3)) (q + 1)) ?_ ⟨pucZ all (by kernel_rfl), trivial⟩ ?_ ⟨(q + 1), rfl, ?_, rfl⟩
  kernel_rfl
  omega
  focus (first | (exact ⟨by omega, own_next hno (by assumption) (by assumption) (by assumption)⟩))
  rw [h19]
  have g19 := of_decide_eq_false h19
  have n19 : ¬ ((q) < (List.length (((Synod.satP v l).1).bids))) := by omega
  refine cnF ?_
  refine EL.exit ?_
  refine thenL_exit ?_
  refine thenL_exit ?_
  refine inBlk_hit ?_
  refine thenL_norm ?_
  refine srl 1 [6] ⟨[(6, .v (.bool false))], [(V3 l v), some ⟨1, (all.map cZ)⟩]⟩ ?_
  refine EL.ret ?_
  refine ⟨.inr rfl, .v (.bool false), by kernel_rfl, Ale.of_eq ?_⟩
  rotate_left
  rw [h1]
  refine owl 3 [2, 7, 26] ⟨(V5 i), (V4 l v)⟩ ?_
  refine cnT ?_
  refine srl 1 [6] ⟨[(6, .v (.bool true))], (V4 l v)⟩ ?_
  refine rtr ?_
  refine ⟨.inr rfl, .v (.bool true), by kernel_rfl, Ale.of_eq ?_⟩
  rotate_left
  all_goals (first | rfl | (exfalso; exact own_no ho2 (by omega) (by omega) hno))
theorem SynodValid_walk {w : World} (hG : GlE (E0 w fun b => b < w.heap.size)) (v : Voters) (csv : List Value) (rv : GoT.rep w w.heap.size csv v) (l : List Step) (Al : Option Addr) (nl cl : Nat) (rl : GoT.rep w w.heap.size [.slice Al nl cl] l) (i : Int) (_wi : (Lit.int .i64 i).wf = true) : Calls Tryd.prog 6 #[.agg csv.toArray, .slice Al nl cl, I i] w fun e w' => e = .returned (.bool true) ∧ Below w.heap.size w w' := by
  have lv := (Voters.av rv).2
  have ll := rep_len rl
  exact fn_law (vs := [.agg csv.toArray, .slice Al nl cl, I i]) (synodValid_fn v l i (by first | assumption | omega) (by first | assumption | omega)) hG (.cons ((Voters.av rv).1) (.cons (rep_list (fun x : Step => [I x.kind, I x.n, .string x.data]) _ Step.flat (fun _ => rfl) (by intro x v hv; simp at hv; rcases hv with rfl | rfl | rfl <;> exact ⟨rfl, rfl⟩) rl) (.cons (.v rfl) (.nil))))
theorem SynodValid_own : ownKnob Tryd.prog.godebug = none := by kernel_rfl
theorem SynodValid_laidOut : laidOutB Tryd.prog = true := by kernel_rfl
set_option maxRecDepth 100000 in
set_option linter.unusedVariables false in
theorem SynodValid_lifted (os : Os) (started : os.Started) (H : Type) (enc : TypeId × Value → H) :
    ReturnsInHanded {} Tryd.checked os 6 .any (fun w args => (Rows.synodValidSpec.pre enc Tryd.prog Tryd.f6 [] false w args ∧ laidMetH Tryd.prog Rows.synodValidRow.laid w) ∧ sizedMet enc Tryd.prog Tryd.f6 (OpenSpec.ofChange Rows.synodValidSpec) false w args)
      (Rows.synodValidSpec.post enc Tryd.prog Tryd.f6 false true false false) := by
  refine returnsInHanded_of_change_and (C := Tryd.checked) (X := fun w _ => laidMetH Tryd.prog Rows.synodValidRow.laid w) (fun _ _ _ hh h => h.of_heap hh) SynodValid_own started (by kernel_rfl) Tryd.func6
    (ChangeSpec.witness_shaped (enc := enc) (C := Tryd.checked) (os := os) (X := fun w _ => laidMetH Tryd.prog Rows.synodValidRow.laid w) false (World.doorLaid Tryd.prog 14 os) #[.agg #[.slice none 0 0, .int .i64 0], .slice none 0 0, .int .i64 0] 8 rfl (World.shaped_of_RefB (by kernel_rfl) (by kernel_rfl)) (by kernel_rfl) (by kernel_rfl) (by kernel_rfl) (laidMetH_of_parts3 (fuel := 8) (laidMet_of_run' 8 (by kernel_rfl) (by kernel_rfl)) (by kernel_rfl) (by kernel_rfl))) ?_
  intro W base args ds gs before hval0 hW _ _ hL _
  have hval : ∀ (j : Nat) t v, Tryd.f6.params[j]? = some t → args[j]? = some v → Value.okWide Tryd.prog W .any base t v := hval0
  have hW' := hW
  obtain ⟨p, q, hA0, hV, rfl, hfz, hnd⟩ := hW
  have hA : DataW.TrodAll enc Tryd.prog W 0 (fun _ => true) true Tryd.f6.params.toList args.toList ds p := hA0
  rw [Tryd.params6] at hA hval
  obtain ⟨v0, vs0, d0, ds0, p0, q0, hargs, rfl, rfl, h0, r0⟩ := trodAll_cons hA
  obtain ⟨v1, vs1, d1, ds1, p1, q1, rfl, rfl, rfl, h1, r1⟩ := trodAll_cons r0
  obtain ⟨v2, vs2, d2, ds2, p2, q2, rfl, rfl, rfl, h2, r2⟩ := trodAll_cons r1
  obtain ⟨rfl, rfl, rfl⟩ := trodAll_nil r2
  obtain rfl : args = #[v0, v1, v2] := by cases args; simp_all
  obtain ⟨rfl, rfl⟩ := trodVars_none hV
  have k0 := h0
  have lt0 : ∀ x ∈ p0, x.block < W.heap.size := by obtain ⟨m, hm⟩ := k0; exact DataW.trod_lt m _ _ _ hm
  obtain ⟨x0, cs0, rfl, w0⟩ := open_agg opens_Voters Tryd.underlying24 (hval 0 24 v0 rfl rfl) h0
  have k1 := h1
  have lt1 : ∀ x ∈ p1, x.block < W.heap.size := by obtain ⟨m, hm⟩ := k1; exact DataW.trod_lt m _ _ _ hm
  obtain ⟨x1, A1, n1, c1, rfl, w1⟩ := open_list opens_LStep Tryd.underlying40 (hval 1 40 v1 rfl rfl) h1
  have k2 := h2
  have lt2 : ∀ x ∈ p2, x.block < W.heap.size := by obtain ⟨m, hm⟩ := k2; exact DataW.trod_lt m _ _ _ hm
  obtain ⟨a2, rfl, e2, e2', w2⟩ := open_int Tryd.underlying3 (hval 2 3 v2 rfl rfl) h2
  clear hA0 hval0
  refine (SynodValid_walk (w := W) (glE_of hL) x0 cs0 w0 x1 A1 n1 c1 w1 a2 w2).mono fun e W' ⟨he, bel⟩ => ?_
  subst he
  exact ⟨_, rfl, _, _, _, [], _, [], hW', trodAll_mk1 (shut_bool Tryd.underlying4 _), (trodAll_cons_mk (Below.trod SynodValid_laidOut (by kernel_rfl) (of_decide_eq_true (by kernel_rfl)) k0 bel lt0) (trodAll_cons_mk (Below.trod SynodValid_laidOut (by kernel_rfl) (of_decide_eq_true (by kernel_rfl)) k1 bel lt1) (trodAll_cons_mk (Below.trod SynodValid_laidOut (by kernel_rfl) (of_decide_eq_true (by kernel_rfl)) k2 bel lt2) trodAll_mk0))), rfl, bel.frame _, fun h => by cases h⟩
set_option maxRecDepth 100000 in
set_option maxHeartbeats 4000000 in
theorem SynodValid_row : Rows.SynodValidSaid :=
  OpenClaim.holds_of_wide 6 Tryd.f6 rfl rfl rfl rfl rfl rfl rfl ⟨rfl, rfl, rfl, rfl, rfl⟩ rfl rfl rfl rfl rfl (by kernel_rfl) Tryd.func6 (by kernel_rfl)
    (of_decide_eq_true (by kernel_rfl)) (by unfold Func.isWrapper; first | (rw [if_pos (by decide +kernel)]; kernel_rfl) | (rw [if_neg (by decide +kernel)]; exact ⟨rfl, rfl⟩))
    (fun os started H enc _ => SynodValid_lifted os started H enc)
set_option maxRecDepth 100000 in
set_option maxHeartbeats 4000000 in
theorem SynodValid_holds : Rows.SynodValidCardSaid :=
  Claim7.holds_tied_plain_at .later [] [.data] true (true, "cb5fefe2008e8336ea9f5d78b4e645a098888375547093116390ebfe8b58d892") false
    SynodValid_row (fun _ h => by cases h) (by kernel_rfl) (fun _ h => by cases h) synodValid_row_tie rfl ⟨rfl, rfl⟩ (by kernel_rfl) rfl
    (fun f fn hf hfn => by
      obtain rfl : f = 6 := Option.some.inj ((show Tryd.prog.funcNamed "supercargo/supercargolaw.SynodValid" = some 6 by kernel_rfl).symm.trans hf) |>.symm
      obtain rfl : fn = Tryd.f6 := (Option.some.inj (Tryd.func6.symm.trans hfn)).symm
      exact ⟨by kernel_rfl, fun j t ht => by
        rw [Tryd.params6] at ht
        have hm : t ∈ [24, 40, 3] := by simpa using Array.mem_of_getElem? ht
        have hall : ([24, 40, 3].all fun u => !Tryd.prog.wantsStandIn u) = true := by kernel_rfl
        exact (show Tryd.prog.wantsStandIn t = false by simpa using List.all_eq_true.1 hall t hm)⟩)
    (by kernel_rfl)
end Go.Proofs.YtligepciannclaaDoor
