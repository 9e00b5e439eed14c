/- A bid above all others is done, where nothing is lost any more and nobody else bids: the law SynodLives returns true. No condition. -/
import Derived.Test.YtligepciannclaaDoorPSynJ
import Derived.WalkKit
import Derived.Handy
import Derived.ProofKit
import Derived.OpenShut
import Derived.ShutString
import Derived.ChangeOld
import Derived.Below
import Derived.Lib.Hide
import Derived.WalkLawsBesides
import Derived.WalkSpells
import Derived.Deep.QuietTactic
import Derived.BigQuiet
import Derived.Outline
import Derived.SevenTiedAt
set_option linter.unusedSimpArgs false
set_option linter.unusedVariables false
set_option maxHeartbeats 4000000
set_option maxRecDepth 100000
namespace Go.Proofs.YtligepciannclaaDoor
open Go.ChangeShapes Go.WideShapes Go.ChangeAt Go.RowKit
open Go.ChangeMaps (open_string shut_string)
theorem max_next {s : Synod} {k : Nat} {t : Int} {a : Bid} (ok : s.Ok) (h0 : 0 ≤ t) (h1 : t ≤ 1000000) (h2 : ∀ (j : Nat) (b : Bid), j < k → s.bids[j]? = some b → b.time ≤ t) (ha : s.bids[k]? = some a) :
    (0 ≤ if a.time > t then a.time else t) ∧ (if a.time > t then a.time else t) ≤ 1000000 ∧ ∀ (j : Nat) (b : Bid), j < k + 1 → s.bids[j]? = some b → b.time ≤ if a.time > t then a.time else t := by
  have hb := (bid_ok (v := s.voters) (ok.bids a (List.mem_of_getElem? ha))).2.2.2.1
  refine ⟨by split <;> omega, by split <;> omega, fun j b hj hjb => ?_⟩
  by_cases hjk : j = k
  · subst hjk
    rw [ha] at hjb; obtain rfl := Option.some.inj hjb
    split <;> omega
  · have := h2 j b (by omega) hjb
    split <;> omega
theorem Lv.ends' {v : Voters} {s : Synod} {n : Nat} {T : Int} (L : Lv v s n T) (h : ¬ s.votes.length > 0) {b : Bid} (hb : s.bids[(n : Int).toNat]? = some b) : b.phase = 3 := L.ends h hb
section
variable (a18 : Bid) (a21 : Bid) (a5 : Bid) (c : Synod) (i : Nat) (k : Nat) (l : List Step) (own : ByteArray) (t : Int) (v : Voters)
abbrev V41 := (((Synod.satP v l).1).bids)
abbrev V0 : OB := some ⟨2, [[.lst 1 (v.weights.map cI), VI v.need]]⟩
abbrev V1 : LS := [(3, .ref 0 2 0 0), (1, .lst 3 (l.map Step.cs)), (2, .v (.string own))]
abbrev V2 : AV := .agg [.lst 1 (v.weights.map cI), VI v.need]
abbrev V3 : LS := (18, .lst 3 (l.map Step.cs)) :: (17, (V2 v)) :: (V1 l own)
abbrev V4 : AV := .agg [.lst 1 (((((Synod.satP v l).1).voters).weights).map cI), VI ((((Synod.satP v l).1).voters).need), .lst 5 ((((Synod.satP v l).1).seats).map Seat.cs), .lst 8 ((V41 l v).map Bid.cs), .lst 6 ((((Synod.satP v l).1).votes).map Vote.cs)]
abbrev V5 : OB := some ⟨5, [[.lst 1 (((((Synod.satP v l).1).voters).weights).map cI), VI ((((Synod.satP v l).1).voters).need), .lst 5 ((((Synod.satP v l).1).seats).map Seat.cs), .lst 8 ((V41 l v).map Bid.cs), .lst 6 ((((Synod.satP v l).1).votes).map Vote.cs)]]⟩
abbrev V6 : LS := [(9, VI 0), (7, .ref 1 5 0 0), (2, .v (.string own))]
abbrev V7 : LS := [(2, .v (.string own)), (7, .ref 0 5 0 0), (9, VI t), (10, VI (k : Int))]
abbrev V8 : LS := (28, .lst 8 ((V41 l v).map Bid.cs)) :: (27, .ref 0 5 0 3) :: (26, VI (k : Int)) :: (V7 k own t)
abbrev V9 : LS := (29, VI (List.length (V41 l v) : Int)) :: (V8 k l own t v)
abbrev V10 : LS := (36, VI (k : Int)) :: (35, .lst 8 ((V41 l v).map Bid.cs)) :: (34, .ref 0 5 0 3) :: (33, VI t) :: (30, .v (.bool true)) :: (V7 k own t)
abbrev V11 : LS := (37, .pim [VI a5.time, VI a5.phase, .v (.string a5.own), .v (.string a5.value), VI a5.best.at_.time, VI a5.best.at_.who, .v (.string a5.best.data), .v (.int .u64 (a5.heard.n : Int))] 0) :: (V10 k l own t v)
abbrev V12 : LS := [(39, VI a5.time), (38, .pim [VI a5.time, VI a5.phase, .v (.string a5.own), .v (.string a5.value), VI a5.best.at_.time, VI a5.best.at_.who, .v (.string a5.best.data), .v (.int .u64 (a5.heard.n : Int))] 0), (37, .pim [VI a5.time, VI a5.phase, .v (.string a5.own), .v (.string a5.value), VI a5.best.at_.time, VI a5.best.at_.who, .v (.string a5.best.data), .v (.int .u64 (a5.heard.n : Int))] 0), (36, VI (k : Int)), (35, .lst 8 ((V41 l v).map Bid.cs)), (34, .ref 0 5 0 3), (33, VI t), (30, .v (.bool true)), (2, .v (.string own)), (7, .ref 0 5 0 0), (10, VI (k : Int))]
abbrev V13 : LS := [(39, VI a5.time), (38, .pim [VI a5.time, VI a5.phase, .v (.string a5.own), .v (.string a5.value), VI a5.best.at_.time, VI a5.best.at_.who, .v (.string a5.best.data), .v (.int .u64 (a5.heard.n : Int))] 0), (37, .pim [VI a5.time, VI a5.phase, .v (.string a5.own), .v (.string a5.value), VI a5.best.at_.time, VI a5.best.at_.who, .v (.string a5.best.data), .v (.int .u64 (a5.heard.n : Int))] 0), (36, VI (k : Int)), (35, .lst 8 ((V41 l v).map Bid.cs)), (34, .ref 0 5 0 3), (33, VI t), (30, .v (.bool true)), (2, .v (.string own)), (7, .ref 0 5 0 0)]
abbrev V14 : LS := (42, .lst 8 ((V41 l v).map Bid.cs)) :: (41, .ref 0 5 0 3) :: (30, .v (.bool false)) :: (V7 k own t)
abbrev V15 : LS := (43, VI (List.length (V41 l v) : Int)) :: (V14 k l own t v)
abbrev V16 : LS := [(11, VI (List.length (V41 l v) : Int)), (2, .v (.string own)), (7, .ref 0 5 0 0), (9, VI t)]
abbrev V17 : AV := .agg [VI 6, VI (t + 1), .v (.string own)]
abbrev V18 : AV := .agg [.lst 1 (((((((Synod.satP v l).1).doP (⟨6, (t + 1), own⟩ : Step).kind (⟨6, (t + 1), own⟩ : Step).n (⟨6, (t + 1), own⟩ : Step).data).1).voters).weights).map cI), VI ((((((Synod.satP v l).1).doP (⟨6, (t + 1), own⟩ : Step).kind (⟨6, (t + 1), own⟩ : Step).n (⟨6, (t + 1), own⟩ : Step).data).1).voters).need), .lst 5 ((((((Synod.satP v l).1).doP (⟨6, (t + 1), own⟩ : Step).kind (⟨6, (t + 1), own⟩ : Step).n (⟨6, (t + 1), own⟩ : Step).data).1).seats).map Seat.cs), .lst 8 ((((((Synod.satP v l).1).doP (⟨6, (t + 1), own⟩ : Step).kind (⟨6, (t + 1), own⟩ : Step).n (⟨6, (t + 1), own⟩ : Step).data).1).bids).map Bid.cs), .lst 6 ((((((Synod.satP v l).1).doP (⟨6, (t + 1), own⟩ : Step).kind (⟨6, (t + 1), own⟩ : Step).n (⟨6, (t + 1), own⟩ : Step).data).1).votes).map Vote.cs)]
abbrev V19 : LS := (50, .tup [(V18 l own t v), VI ((((Synod.satP v l).1).doP (⟨6, (t + 1), own⟩ : Step).kind (⟨6, (t + 1), own⟩ : Step).n (⟨6, (t + 1), own⟩ : Step).data).2)]) :: (49, (V17 own t)) :: (48, .v (.string own)) :: (47, VI (t + 1)) :: (46, VI t) :: (45, (V4 l v)) :: (V16 l own t v)
abbrev V20 : OB := some ⟨5, [[.lst 1 (((((((Synod.satP v l).1).doP (⟨6, (t + 1), own⟩ : Step).kind (⟨6, (t + 1), own⟩ : Step).n (⟨6, (t + 1), own⟩ : Step).data).1).voters).weights).map cI), VI ((((((Synod.satP v l).1).doP (⟨6, (t + 1), own⟩ : Step).kind (⟨6, (t + 1), own⟩ : Step).n (⟨6, (t + 1), own⟩ : Step).data).1).voters).need), .lst 5 ((((((Synod.satP v l).1).doP (⟨6, (t + 1), own⟩ : Step).kind (⟨6, (t + 1), own⟩ : Step).n (⟨6, (t + 1), own⟩ : Step).data).1).seats).map Seat.cs), .lst 8 ((((((Synod.satP v l).1).doP (⟨6, (t + 1), own⟩ : Step).kind (⟨6, (t + 1), own⟩ : Step).n (⟨6, (t + 1), own⟩ : Step).data).1).bids).map Bid.cs), .lst 6 ((((((Synod.satP v l).1).doP (⟨6, (t + 1), own⟩ : Step).kind (⟨6, (t + 1), own⟩ : Step).n (⟨6, (t + 1), own⟩ : Step).data).1).votes).map Vote.cs)]]⟩
abbrev V21 : LS := (12, VI ((((Synod.satP v l).1).doP (⟨6, (t + 1), own⟩ : Step).kind (⟨6, (t + 1), own⟩ : Step).n (⟨6, (t + 1), own⟩ : Step).data).2)) :: (V16 l own t v)
abbrev V22 : LS := (59, VI (ByteArray.size own : Int)) :: (58, .v (.string own)) :: (57, .v (.bool false)) :: (56, .v (.bool false)) :: (55, VI t) :: (54, .v (.bool true)) :: (V21 l own t v)
abbrev V23 : LS := (63, VI (List.length (V41 l v) : Int)) :: (62, .v (.bool false)) :: (61, .v (.bool false)) :: (60, .v (.bool false)) :: (V22 l own t v)
abbrev V24 : LS := [(13, VI 0), (11, VI (List.length (V41 l v) : Int)), (7, .ref 0 5 0 0)]
abbrev V25 : OB := some ⟨5, [[.lst 1 (c.voters.weights.map cI), VI c.voters.need, .lst 5 (c.seats.map Seat.cs), .lst 8 (c.bids.map Bid.cs), .lst 6 (c.votes.map Vote.cs)]]⟩
abbrev V26 : LS := [(7, .ref 0 5 0 0), (11, VI (List.length (V41 l v) : Int)), (13, VI (i : Int))]
abbrev V27 : LS := (74, .lst 6 (c.votes.map Vote.cs)) :: (73, .ref 0 5 0 4) :: (72, .v (.bool true)) :: (71, .v (.bool true)) :: (70, VI (i : Int)) :: (V26 i l v)
abbrev V28 : AV := .agg [VI 3, VI 0, .v (.string (⟨#[]⟩))]
abbrev V29 : AV := .agg [.lst 1 (c.voters.weights.map cI), VI c.voters.need, .lst 5 (c.seats.map Seat.cs), .lst 8 (c.bids.map Bid.cs), .lst 6 (c.votes.map Vote.cs)]
abbrev V30 : LS := (82, V28) :: (81, (V29 c)) :: (77, .v (.bool true)) :: (V26 i l v)
abbrev V31 : AV := .agg [.lst 1 (((((c.doP (⟨3, 0, ⟨#[]⟩⟩ : Step).kind (⟨3, 0, ⟨#[]⟩⟩ : Step).n (⟨3, 0, ⟨#[]⟩⟩ : Step).data).1).voters).weights).map cI), VI ((((c.doP (⟨3, 0, ⟨#[]⟩⟩ : Step).kind (⟨3, 0, ⟨#[]⟩⟩ : Step).n (⟨3, 0, ⟨#[]⟩⟩ : Step).data).1).voters).need), .lst 5 ((((c.doP (⟨3, 0, ⟨#[]⟩⟩ : Step).kind (⟨3, 0, ⟨#[]⟩⟩ : Step).n (⟨3, 0, ⟨#[]⟩⟩ : Step).data).1).seats).map Seat.cs), .lst 8 ((((c.doP (⟨3, 0, ⟨#[]⟩⟩ : Step).kind (⟨3, 0, ⟨#[]⟩⟩ : Step).n (⟨3, 0, ⟨#[]⟩⟩ : Step).data).1).bids).map Bid.cs), .lst 6 ((((c.doP (⟨3, 0, ⟨#[]⟩⟩ : Step).kind (⟨3, 0, ⟨#[]⟩⟩ : Step).n (⟨3, 0, ⟨#[]⟩⟩ : Step).data).1).votes).map Vote.cs)]
abbrev V32 : LS := (83, .tup [(V31 c), VI ((c.doP (⟨3, 0, ⟨#[]⟩⟩ : Step).kind (⟨3, 0, ⟨#[]⟩⟩ : Step).n (⟨3, 0, ⟨#[]⟩⟩ : Step).data).2)]) :: (V30 c i l v)
abbrev V33 : OB := some ⟨5, [[.lst 1 (((((c.doP (⟨3, 0, ⟨#[]⟩⟩ : Step).kind (⟨3, 0, ⟨#[]⟩⟩ : Step).n (⟨3, 0, ⟨#[]⟩⟩ : Step).data).1).voters).weights).map cI), VI ((((c.doP (⟨3, 0, ⟨#[]⟩⟩ : Step).kind (⟨3, 0, ⟨#[]⟩⟩ : Step).n (⟨3, 0, ⟨#[]⟩⟩ : Step).data).1).voters).need), .lst 5 ((((c.doP (⟨3, 0, ⟨#[]⟩⟩ : Step).kind (⟨3, 0, ⟨#[]⟩⟩ : Step).n (⟨3, 0, ⟨#[]⟩⟩ : Step).data).1).seats).map Seat.cs), .lst 8 ((((c.doP (⟨3, 0, ⟨#[]⟩⟩ : Step).kind (⟨3, 0, ⟨#[]⟩⟩ : Step).n (⟨3, 0, ⟨#[]⟩⟩ : Step).data).1).bids).map Bid.cs), .lst 6 ((((c.doP (⟨3, 0, ⟨#[]⟩⟩ : Step).kind (⟨3, 0, ⟨#[]⟩⟩ : Step).n (⟨3, 0, ⟨#[]⟩⟩ : Step).data).1).votes).map Vote.cs)]]⟩
abbrev V34 : LS := (15, VI ((c.doP (⟨3, 0, ⟨#[]⟩⟩ : Step).kind (⟨3, 0, ⟨#[]⟩⟩ : Step).n (⟨3, 0, ⟨#[]⟩⟩ : Step).data).2)) :: (14, .ref 1 5 0 0) :: (V26 i l v)
abbrev V35 : LS := [(78, VI (i : Int)), (90, (V31 c)), (87, .v (.bool false)), (15, VI ((c.doP (⟨3, 0, ⟨#[]⟩⟩ : Step).kind (⟨3, 0, ⟨#[]⟩⟩ : Step).n (⟨3, 0, ⟨#[]⟩⟩ : Step).data).2)), (14, .ref 1 5 0 0), (7, .ref 0 5 0 0), (11, VI (List.length (V41 l v) : Int))]
abbrev V36 : LS := (13, VI ((i : Int) + 1)) :: (79, VI ((i : Int) + 1)) :: (V35 c i l v)
abbrev V37 : LS := (92, .lst 6 (c.votes.map Vote.cs)) :: (91, .ref 0 5 0 4) :: (77, .v (.bool false)) :: (V26 i l v)
abbrev V38 : LS := (98, VI (List.length (V41 l v) : Int)) :: (97, .lst 8 (c.bids.map Bid.cs)) :: (96, .ref 0 5 0 3) :: (95, .v (.bool false)) :: (94, .v (.bool false)) :: (93, VI (List.length c.votes : Int)) :: (V37 c i l v)
abbrev V39 : LS := (99, .pim [VI a18.time, VI a18.phase, .v (.string a18.own), .v (.string a18.value), VI a18.best.at_.time, VI a18.best.at_.who, .v (.string a18.best.data), .v (.int .u64 (a18.heard.n : Int))] 0) :: (V38 c i l v)
abbrev V40 : LS := (99, .pim [VI a21.time, VI a21.phase, .v (.string a21.own), .v (.string a21.value), VI a21.best.at_.time, VI a21.best.at_.who, .v (.string a21.best.data), .v (.int .u64 (a21.heard.n : Int))] 0) :: (V38 c i l v)
end
theorem synodLives_fn (v : Voters) (l : List Step) (own : ByteArray) (hx : v.weights.length ≤ 9223372036854775807) (hl : l.length ≤ 9223372036854775807) : Fn Tryd.prog 11 [.agg [.lst 1 (v.weights.map cI), VI v.need], .lst 3 (l.map Step.cs), .v (.string own)] (.v (.bool true)) := by
 refine fnw F11_ok ?_
 refine srl 2 [1, 2, 3] ⟨(V1 l own), [(V0 v)]⟩ ?_
 refine srr 2 ⟨(V3 l own v), [(V0 v)]⟩ ?_
 refine owg [(V2 v), .lst 3 (l.map Step.cs)] ⟨(19, .tup [(V4 l v), .v (.bool ((Synod.satP v l).2))]) :: (V3 l own v), [(V0 v)]⟩ (sat_fn v l (by first | assumption | omega) (by omega)) ?_
 refine owl 6 [2, 7, 8] ⟨[(8, .v (.bool ((Synod.satP v l).2))), (7, .ref 1 5 0 0), (2, .v (.string own))], [(V0 v), (V5 l v)]⟩ ?_
 refine EL.seq ?_
 refine EL.sreg ?_
 refine owg [] ⟨[(22, .v (.bool true)), (8, .v (.bool ((Synod.satP v l).2))), (7, .ref 1 5 0 0), (2, .v (.string own))], [(V0 v), (V5 l v)]⟩ (sbegun_fn) ?_
 refine owl 1 [2, 7, 8, 23] ⟨[(23, .v (.bool false)), (8, .v (.bool ((Synod.satP v l).2))), (7, .ref 1 5 0 0), (2, .v (.string own))], [(V0 v), (V5 l v)]⟩ ?_
 refine cnF ?_
 refine skn ?_
 refine EL.seq ?_
 refine srl 2 [2, 7, 25] ⟨[(25, .v (.bool (!((Synod.satP v l).2)))), (7, .ref 1 5 0 0), (2, .v (.string own))], [(V0 v), (V5 l v)]⟩ ?_
 cases h1 : ((Synod.satP v l).2)
 refine cnT ?_
 refine srl 1 [6] ⟨[(6, .v (.bool true))], [(V0 v), (V5 l v)]⟩ ?_
 refine rtr ?_
 refine rqe (.v (.bool true)) ?_
 rotate_left
 refine cnF ?_
 refine skn ?_
 refine srl 1 [2, 7, 9] ⟨(V6 own), [(V0 v), (V5 l v)]⟩ ?_
 refine EL.seq ?_
 refine srl 1 [2, 7, 9, 10] ⟨(10, VI 0) :: (V6 own), [(V0 v), (V5 l v)]⟩ ?_
 refine EL.block ?_
 refine EL.loopN (fun mM xX => ∃ (k : Nat) (t : Int), mM = (Synod.satP v l).1.bids.length - k ∧ (k ≤ (Synod.satP v l).1.bids.length ∧ 0 ≤ t ∧ t ≤ 1000000 ∧ ∀ (j : Nat) (b : Bid), j < k → (Synod.satP v l).1.bids[j]? = some b → b.time ≤ t) ∧ xX = ⟨(V7 k own t), [(V5 l v)]⟩) (y := (fun (k : Nat) (t : Int) => (⟨(V7 k own t), [(V5 l v)]⟩ : L3)) 0 0) [2, 7, 9, 10] [uf 1] [] (by kernel_rfl) trivial ⟨0, 0, rfl, by exact ⟨by omega, by omega, by omega, fun j b hj => absurd hj (Nat.not_lt_zero _)⟩, rfl⟩ ?_
 rintro _ _ ⟨k, t, rfl, hI2, rfl⟩
 obtain ⟨hk, ht0, ht1, ht2⟩ := hI2
 have hS := (Synod.sat_sat (v := v) (l := l) (by assumption))
 have hS3 := hS.ok.few
 refine EL.seq ?_
 refine srr 3 ⟨(V8 k l own t v), [(V5 l v)]⟩ ?_
 refine ow2 ⟨(V9 k l own t v), [(V5 l v)]⟩ (oln Bid.cs (V41 l v) (.s 28) 8) ?_
 refine owl 1 [2, 7, 9, 10, 30] ⟨(30, .v (.bool (decide ((k : Int) < (List.length (V41 l v) : Int))))) :: (V7 k own t), [(V5 l v)]⟩ ?_
 cases h3 : (decide ((k : Int) < (List.length (((Synod.satP v l).1).bids) : Int)))
 have g3 := of_decide_eq_false h3
 have n3 : ¬ ((k) < (List.length (((Synod.satP v l).1).bids))) := by omega
 refine cnF ?_
 refine EL.exit ?_
 refine tX ?_
 refine tX ?_
 refine iH ?_
 refine tN ?_
 refine srr 2 ⟨(V14 k l own t v), [(V5 l v)]⟩ ?_
 refine ow2 ⟨(V15 k l own t v), [(V5 l v)]⟩ (oln Bid.cs (V41 l v) (.s 42) 8) ?_
 refine owl 1 [2, 7, 9, 11] ⟨(V16 l own t v), [(V5 l v)]⟩ ?_
 refine srr 5 ⟨(49, .agg [VI 6, VI (IntKind.i64.wrap (t + 1)), .v (.string own)]) :: (48, .v (.string own)) :: (47, VI (IntKind.i64.wrap (t + 1))) :: (46, VI t) :: (45, (V4 l v)) :: (V16 l own t v), [(V5 l v)]⟩ ?_
 have e7 := wr64 (n := t + 1) (by omega)
 rw [e7]
 refine owg [(V4 l v), (V17 own t)] ⟨(V19 l own t v), [(V5 l v)]⟩ (do_fn ((Synod.satP v l).1) (⟨6, (t + 1), own⟩ : Step) (by first | exact (Lv.sat (by assumption)).ok.big | assumption | exact Synod.new_big (by first | exact (Lv.sat (by assumption)).ok.big | assumption | decide) | exact Synod.run_big _ _ | exact Synod.do_big _ _ _ _ | exact Synod.sat_big (by assumption) | exact Synod.zero_big | exact Synod.Ok.big (by assumption))) ?_
 refine owl 5 [2, 7, 9, 11, 12] ⟨(V21 l own t v), [(V20 l own t v)]⟩ ?_
 refine EL.seq ?_
 refine srl 2 [2, 7, 9, 11, 12, 54] ⟨(54, .v (.bool (((((Synod.satP v l).1).doP (⟨6, (t + 1), own⟩ : Step).kind (⟨6, (t + 1), own⟩ : Step).n (⟨6, (t + 1), own⟩ : Step).data).2) != 0))) :: (V21 l own t v), [(V20 l own t v)]⟩ ?_
 cases h8 : (((((Synod.satP v l).1).doP (⟨6, (t + 1), own⟩ : Step).kind (⟨6, (t + 1), own⟩ : Step).n (⟨6, (t + 1), own⟩ : Step).data).2) != 0)
 have g8 := bnF h8
 refine cnF ?_
 refine skn ?_
 refine EL.seq ?_
 refine srl 1 [7, 11, 13] ⟨(V24 l v), [(V20 l own t v)]⟩ ?_
 refine EL.block ?_
 refine EL.loopN (fun mM xX => ∃ (i : Nat) (c : Synod), mM = 2000 - i ∧ (i ≤ 2000 ∧ Lv v c (Synod.satP v l).1.bids.length (t + 1)) ∧ xX = ⟨(V26 i l v), [(V25 c)]⟩) (y := (fun (i : Nat) (c : Synod) => (⟨(V26 i l v), [(V25 c)]⟩ : L3)) 0 ((Synod.satP v l).1.doP 6 (t + 1) own).1) [7, 11, 13] [uf 0] [] (by kernel_rfl) trivial ⟨0, ((Synod.satP v l).1.doP 6 (t + 1) own).1, rfl, by exact ⟨by omega, hS.starts ⟨ht0, ht1⟩ (fun j b hj => ht2 j b (by have := (List.getElem?_eq_some_iff.1 hj).1; omega) hj) (by assumption)⟩, rfl⟩ ?_
 rintro _ _ ⟨i, c, rfl, hI12, rfl⟩
 obtain ⟨hi, hL⟩ := hI12
 have hL2 := hL.has
 have hL3 := hL.sat.ok.few
 refine EL.seq ?_
 refine srr 3 ⟨(72, .v (.bool (decide ((i : Int) < 2000)))) :: (71, .v (.bool (decide ((i : Int) < 2000)))) :: (70, VI (i : Int)) :: (V26 i l v), [(V25 c)]⟩ ?_
 cases h13 : (decide ((i : Int) < 2000))
 have g13 := of_decide_eq_false h13
 have n13 : ¬ ((i) < 2000) := by omega
 refine owl 5 [7, 11, 13, 77] ⟨(77, .v (.bool false)) :: (V26 i l v), [(V25 c)]⟩ ?_
 refine cnF ?_
 refine EL.exit ?_
 refine tX ?_
 refine tX ?_
 refine iH ?_
 refine tN ?_
 refine srr 2 ⟨(V37 c i l v), [(V25 c)]⟩ ?_
 refine ow2 ⟨(93, VI (List.length c.votes : Int)) :: (V37 c i l v), [(V25 c)]⟩ (oln Vote.cs c.votes (.s 92) 6) ?_
 refine owr 2 ⟨(95, .v (.bool (decide ((List.length c.votes : Int) > 0)))) :: (94, .v (.bool (decide ((List.length c.votes : Int) > 0)))) :: (93, VI (List.length c.votes : Int)) :: (V37 c i l v), [(V25 c)]⟩ ?_
 cases h19 : (decide ((List.length c.votes : Int) > 0))
 have g19 := of_decide_eq_false h19
 have n19 : ¬ ((List.length c.votes) > 0) := by omega
 refine owr 3 ⟨(V38 c i l v), [(V25 c)]⟩ ?_
 obtain ⟨a21, ha21⟩ : ∃ y, c.bids[((List.length (((Synod.satP v l).1).bids) : Int) : Int).toNat]? = some y := idx_ex ⟨by omega, by omega⟩
 refine ow2 ⟨(V40 a21 c i l v), [(V25 c)]⟩ (oid Bid.cs c.bids (.s 97) (.s 98) 8 .i64 (List.length (V41 l v) : Int) a21 (by omega) ha21) ?_
 refine owl 5 [6] ⟨[(6, .v (.bool (a21.phase == 3)))], [(V25 c)]⟩ ?_
 refine EL.ret ?_
 refine rqe (.v (.bool (a21.phase == 3))) ?_
 rotate_left
 have g19 := of_decide_eq_true h19
 have n19 : ((List.length c.votes) > 0) := by omega
 refine owl 9 [6] ⟨[(6, .v (.bool true))], [(V25 c)]⟩ ?_
 refine EL.ret ?_
 refine rqe (.v (.bool true)) ?_
 rotate_left
 have g13 := of_decide_eq_true h13
 have n13 : ((i) < 2000) := by omega
 refine owr 2 ⟨(V27 c i l v), [(V25 c)]⟩ ?_
 refine ow2 ⟨(75, VI (List.length c.votes : Int)) :: (V27 c i l v), [(V25 c)]⟩ (oln Vote.cs c.votes (.s 74) 6) ?_
 refine owl 2 [7, 11, 13, 77] ⟨(77, .v (.bool (decide ((List.length c.votes : Int) > 0)))) :: (V26 i l v), [(V25 c)]⟩ ?_
 cases h14 : (decide ((List.length c.votes : Int) > 0))
 have g14 := of_decide_eq_false h14
 have n14 : ¬ ((List.length c.votes) > 0) := by omega
 refine cnF ?_
 refine EL.exit ?_
 refine tX ?_
 refine tX ?_
 refine iH ?_
 refine tN ?_
 refine srr 2 ⟨(V37 c i l v), [(V25 c)]⟩ ?_
 refine ow2 ⟨(93, VI (List.length c.votes : Int)) :: (V37 c i l v), [(V25 c)]⟩ (oln Vote.cs c.votes (.s 92) 6) ?_
 refine owr 2 ⟨(95, .v (.bool (decide ((List.length c.votes : Int) > 0)))) :: (94, .v (.bool (decide ((List.length c.votes : Int) > 0)))) :: (93, VI (List.length c.votes : Int)) :: (V37 c i l v), [(V25 c)]⟩ ?_
 rw [h14]
 refine owr 3 ⟨(V38 c i l v), [(V25 c)]⟩ ?_
 obtain ⟨a18, ha18⟩ : ∃ y, c.bids[((List.length (((Synod.satP v l).1).bids) : Int) : Int).toNat]? = some y := idx_ex ⟨by omega, by omega⟩
 refine ow2 ⟨(V39 a18 c i l v), [(V25 c)]⟩ (oid Bid.cs c.bids (.s 97) (.s 98) 8 .i64 (List.length (V41 l v) : Int) a18 (by omega) ha18) ?_
 refine owl 5 [6] ⟨[(6, .v (.bool (a18.phase == 3)))], [(V25 c)]⟩ ?_
 refine EL.ret ?_
 refine rqe (.v (.bool (a18.phase == 3))) ?_
 rotate_left
 have g14 := of_decide_eq_true h14
 have n14 : ((List.length c.votes) > 0) := by omega
 refine cnT ?_
 refine skn ?_
 refine EL.seq ?_
 refine EL.block ?_
 refine srr 2 ⟨(V30 c i l v), [(V25 c)]⟩ ?_
 refine owg [(V29 c), V28] ⟨(V32 c i l v), [(V25 c)]⟩ (do_fn c (⟨3, 0, ⟨#[]⟩⟩ : Step) (by first | exact (Lv.sat (by assumption)).ok.big | assumption | exact Synod.new_big (by first | exact (Lv.sat (by assumption)).ok.big | assumption | decide) | exact Synod.run_big _ _ | exact Synod.do_big _ _ _ _ | exact Synod.sat_big (by assumption) | exact Synod.zero_big | exact Synod.Ok.big (by assumption))) ?_
 refine owl 6 [7, 11, 13, 14, 15] ⟨(V34 c i l v), [(V25 c), (V33 c)]⟩ ?_
 refine EL.seq ?_
 refine srl 2 [7, 11, 13, 14, 15, 87] ⟨(87, .v (.bool (((c.doP (⟨3, 0, ⟨#[]⟩⟩ : Step).kind (⟨3, 0, ⟨#[]⟩⟩ : Step).n (⟨3, 0, ⟨#[]⟩⟩ : Step).data).2) != 0))) :: (V34 c i l v), [(V25 c), (V33 c)]⟩ ?_
 cases h15 : (((c.doP (⟨3, 0, ⟨#[]⟩⟩ : Step).kind (⟨3, 0, ⟨#[]⟩⟩ : Step).n (⟨3, 0, ⟨#[]⟩⟩ : Step).data).2) != 0)
 have g15 := bnF h15
 refine cnF ?_
 refine skn ?_
 refine roe 2 ⟨(90, (V31 c)) :: (87, .v (.bool false)) :: (V34 c i l v), [(V33 c), (V33 c)]⟩ ?_
 refine iN ?_
 refine tN ?_
 refine EL.reg0 ?_
 refine owr 3 ⟨(13, VI (IntKind.i64.wrap ((i : Int) + 1))) :: (79, VI (IntKind.i64.wrap ((i : Int) + 1))) :: (V35 c i l v), [(V33 c), (V33 c)]⟩ ?_
 have e16 := wr64 (n := (i : Int) + 1) (by omega)
 rw [e16]
 refine owe 0 ⟨(V36 c i l v), [(V33 c), (V33 c)]⟩ ?_
 refine tN ?_
 refine rE (live := [7, 11, 13]) (src := [uf 0]) (es := []) (y := (fun (i : Nat) (c : Synod) => (⟨(V26 i l v), [(V25 c)]⟩ : L3)) (i + 1) ((c.doP (⟨3, 0, ⟨#[]⟩⟩ : Step).kind (⟨3, 0, ⟨#[]⟩⟩ : Step).n (⟨3, 0, ⟨#[]⟩⟩ : Step).data).1)) ?_ trivial ?_ ⟨(i + 1), ((c.doP (⟨3, 0, ⟨#[]⟩⟩ : Step).kind (⟨3, 0, ⟨#[]⟩⟩ : Step).n (⟨3, 0, ⟨#[]⟩⟩ : Step).data).1), rfl, ?_, rfl⟩
 kernel_rfl
 omega
 focus (first | (exact ⟨by omega, hL.pass (by omega) (by assumption)⟩))
 have g15 := bnT h15
 refine cnT ?_
 refine srl 3 [6] ⟨[(6, .v (.bool (((c.doP (⟨3, 0, ⟨#[]⟩⟩ : Step).kind (⟨3, 0, ⟨#[]⟩⟩ : Step).n (⟨3, 0, ⟨#[]⟩⟩ : Step).data).2) == 2)))], [(V25 c), (V33 c)]⟩ ?_
 refine rtr ?_
 refine iR ?_
 refine tR ?_
 refine tR ?_
 refine iR ?_
 refine tR ?_
 refine rqe (.v (.bool (((c.doP (⟨3, 0, ⟨#[]⟩⟩ : Step).kind (⟨3, 0, ⟨#[]⟩⟩ : Step).n (⟨3, 0, ⟨#[]⟩⟩ : Step).data).2) == 2))) ?_
 rotate_left
 have g8 := bnT h8
 refine cnT ?_
 refine srr 3 ⟨(57, .v (.bool (t == 1000000))) :: (56, .v (.bool (t == 1000000))) :: (55, VI t) :: (54, .v (.bool true)) :: (V21 l own t v), [(V20 l own t v)]⟩ ?_
 cases h9 : (t == 1000000)
 have g9 := bqF h9
 refine owr 5 ⟨(62, .v (.bool (decide ((ByteArray.size own : Int) > 64)))) :: (61, .v (.bool (decide ((ByteArray.size own : Int) > 64)))) :: (60, .v (.bool (decide ((ByteArray.size own : Int) > 64)))) :: (V22 l own t v), [(V20 l own t v)]⟩ ?_
 cases h10 : (decide ((ByteArray.size own : Int) > 64))
 have g10 := of_decide_eq_false h10
 have n10 : ¬ ((ByteArray.size own) > 64) := by omega
 refine owr 4 ⟨(66, .v (.bool ((List.length (V41 l v) : Int) == 31))) :: (65, .v (.bool ((List.length (V41 l v) : Int) == 31))) :: (64, .v (.bool ((List.length (V41 l v) : Int) == 31))) :: (V23 l own t v), [(V20 l own t v)]⟩ ?_
 cases h11 : ((List.length (((Synod.satP v l).1).bids) : Int) == 31)
 have g11 := bqF h11
 have n11 : ¬ ((List.length (((Synod.satP v l).1).bids)) = 31) := by omega
 refine owl 4 [6] ⟨[(6, .v (.bool (((((Synod.satP v l).1).doP (⟨6, (t + 1), own⟩ : Step).kind (⟨6, (t + 1), own⟩ : Step).n (⟨6, (t + 1), own⟩ : Step).data).2) == 2)))], [(V20 l own t v)]⟩ ?_
 refine rtr ?_
 refine rqe (.v (.bool (((((Synod.satP v l).1).doP (⟨6, (t + 1), own⟩ : Step).kind (⟨6, (t + 1), own⟩ : Step).n (⟨6, (t + 1), own⟩ : Step).data).2) == 2))) ?_
 rotate_left
 have g11 := bqT h11
 have n11 : ((List.length (((Synod.satP v l).1).bids)) = 31) := by omega
 refine owl 4 [6] ⟨[(6, .v (.bool true))], [(V20 l own t v)]⟩ ?_
 refine rtr ?_
 refine rqe (.v (.bool true)) ?_
 rotate_left
 have g10 := of_decide_eq_true h10
 have n10 : ((ByteArray.size own) > 64) := by omega
 refine owl 8 [6] ⟨[(6, .v (.bool true))], [(V20 l own t v)]⟩ ?_
 refine rtr ?_
 refine rqe (.v (.bool true)) ?_
 rotate_left
 have g9 := bqT h9
 refine owl 13 [6] ⟨[(6, .v (.bool true))], [(V20 l own t v)]⟩ ?_
 refine rtr ?_
 refine rqe (.v (.bool true)) ?_
 rotate_left
 have g3 := of_decide_eq_true h3
 have n3 : ((k) < (List.length (((Synod.satP v l).1).bids))) := by omega
 refine cnT ?_
 refine skn ?_
 refine EL.seq ?_
 refine EL.block ?_
 refine EL.reg0 ?_
 refine owr 4 ⟨(V10 k l own t v), [(V5 l v)]⟩ ?_
 obtain ⟨a5, ha5⟩ : ∃ y, (((Synod.satP v l).1).bids)[((k : Int) : Int).toNat]? = some y := idx_ex ⟨by omega, by omega⟩
 have iha5 : (((Synod.satP v l).1).bids)[k]? = some a5 := by simpa using ha5
 have dha5 := drop_get iha5
 refine ow2 ⟨(V11 a5 k l own t v), [(V5 l v)]⟩ (oid Bid.cs (V41 l v) (.s 35) (.s 36) 8 .i64 (k : Int) a5 (by omega) ha5) ?_
 refine owe 4 ⟨(9, VI (if a5.time > t then a5.time else t)) :: (40, VI (if a5.time > t then a5.time else t)) :: (V12 a5 k l own t v), [(V5 l v)]⟩ ?_
 refine iN ?_
 refine tN ?_
 refine EL.reg0 ?_
 refine owr 3 ⟨(10, VI (IntKind.i64.wrap ((k : Int) + 1))) :: (32, VI (IntKind.i64.wrap ((k : Int) + 1))) :: (31, VI (k : Int)) :: (9, VI (if a5.time > t then a5.time else t)) :: (40, VI (if a5.time > t then a5.time else t)) :: (V13 a5 k l own t v), [(V5 l v)]⟩ ?_
 have e6 := wr64 (n := (k : Int) + 1) (by omega)
 rw [e6]
 refine owe 0 ⟨(10, VI ((k : Int) + 1)) :: (32, VI ((k : Int) + 1)) :: (31, VI (k : Int)) :: (9, VI (if a5.time > t then a5.time else t)) :: (40, VI (if a5.time > t then a5.time else t)) :: (V13 a5 k l own t v), [(V5 l v)]⟩ ?_
 refine tN ?_
 refine rE (live := [2, 7, 9, 10]) (src := [uf 0]) (es := []) (y := (fun (k : Nat) (t : Int) => (⟨(V7 k own t), [(V5 l v)]⟩ : L3)) (k + 1) (if a5.time > t then a5.time else t)) ?_ trivial ?_ ⟨(k + 1), (if a5.time > t then a5.time else t), rfl, ?_, rfl⟩
 kernel_rfl
 omega
 focus (exact ⟨by omega, max_next hS.ok ht0 ht1 ht2 (by assumption)⟩)
 all_goals (first | rfl | (rw [hL.pass_e (by omega) (by assumption)]; rfl) | (have he := hL.ends' (by omega) (by assumption); rw [he]; rfl) | (have he := hS.starts_e (own := own) ⟨ht0, ht1⟩ (by assumption); have he2 : ((Synod.satP v l).1.doP 6 (t + 1) own).2 = 2 := (by omega); rw [he2]; rfl))
theorem SynodLives_walk {w : World} (hG : GlE (E0 w fun b => b < w.heap.size)) (v : Voters) (csv : List Value) (rv : GoT.rep w w.heap.size csv v) (l : List Step) (Al : Option Addr) (nl cl : Nat) (rl : GoT.rep w w.heap.size [.slice Al nl cl] l) (own : ByteArray) {Xown : Prop} (_wown : Xown) : Calls Tryd.prog 11 #[.agg csv.toArray, .slice Al nl cl, .string own] w fun e w' => e = .returned (.bool true) ∧ Below w.heap.size w w' := by
  have lv := (Voters.av rv).2
  have ll := rep_len rl
  exact fn_law (vs := [.agg csv.toArray, .slice Al nl cl, .string own]) (synodLives_fn v l own (by first | assumption | omega) (by first | assumption | omega)) hG (.cons ((Voters.av rv).1) (.cons (rep_list (fun x : Step => [I x.kind, I x.n, .string x.data]) _ Step.flat (fun _ => rfl) (by intro x v hv; simp at hv; rcases hv with rfl | rfl | rfl <;> exact ⟨rfl, rfl⟩) rl) (.cons (.v rfl) (.nil))))
theorem SynodLives_own : ownKnob Tryd.prog.godebug = none := by kernel_rfl
theorem SynodLives_laidOut : laidOutB Tryd.prog = true := by kernel_rfl
set_option maxRecDepth 100000 in
set_option linter.unusedVariables false in
theorem SynodLives_lifted (os : Os) (started : os.Started) (H : Type) (enc : TypeId × Value → H) :
    ReturnsInHanded {} Tryd.checked os 11 .any (fun w args => (Rows.synodLivesSpec.pre enc Tryd.prog Tryd.f11 [] false w args ∧ laidMetH Tryd.prog Rows.synodLivesRow.laid w) ∧ sizedMet enc Tryd.prog Tryd.f11 (OpenSpec.ofChange Rows.synodLivesSpec) false w args)
      (Rows.synodLivesSpec.post enc Tryd.prog Tryd.f11 false true false false) := by
  refine returnsInHanded_of_change_and (C := Tryd.checked) (X := fun w _ => laidMetH Tryd.prog Rows.synodLivesRow.laid w) (fun _ _ _ hh h => h.of_heap hh) SynodLives_own started (by kernel_rfl) Tryd.func11
    (ChangeSpec.witness_shaped (enc := enc) (C := Tryd.checked) (os := os) (X := fun w _ => laidMetH Tryd.prog Rows.synodLivesRow.laid w) false (World.doorLaid Tryd.prog 14 os) #[.agg #[.slice none 0 0, .int .i64 0], .slice none 0 0, .string ByteArray.empty] 8 rfl (World.shaped_of_RefB (by kernel_rfl) (by kernel_rfl)) (by kernel_rfl) (by kernel_rfl) (by kernel_rfl) (laidMetH_of_parts3 (fuel := 8) (laidMet_of_run' 8 (by kernel_rfl) (by kernel_rfl)) (by kernel_rfl) (by kernel_rfl))) ?_
  intro W base args ds gs before hval0 hW _ _ hL _
  have hval : ∀ (j : Nat) t v, Tryd.f11.params[j]? = some t → args[j]? = some v → Value.okWide Tryd.prog W .any base t v := hval0
  have hW' := hW
  obtain ⟨p, q, hA0, hV, rfl, hfz, hnd⟩ := hW
  have hA : DataW.TrodAll enc Tryd.prog W 0 (fun _ => true) true Tryd.f11.params.toList args.toList ds p := hA0
  rw [Tryd.params11] at hA hval
  obtain ⟨v0, vs0, d0, ds0, p0, q0, hargs, rfl, rfl, h0, r0⟩ := trodAll_cons hA
  obtain ⟨v1, vs1, d1, ds1, p1, q1, rfl, rfl, rfl, h1, r1⟩ := trodAll_cons r0
  obtain ⟨v2, vs2, d2, ds2, p2, q2, rfl, rfl, rfl, h2, r2⟩ := trodAll_cons r1
  obtain ⟨rfl, rfl, rfl⟩ := trodAll_nil r2
  obtain rfl : args = #[v0, v1, v2] := by cases args; simp_all
  obtain ⟨rfl, rfl⟩ := trodVars_none hV
  have k0 := h0
  have lt0 : ∀ x ∈ p0, x.block < W.heap.size := by obtain ⟨m, hm⟩ := k0; exact DataW.trod_lt m _ _ _ hm
  obtain ⟨x0, cs0, rfl, w0⟩ := open_agg opens_Voters Tryd.underlying24 (hval 0 24 v0 rfl rfl) h0
  have k1 := h1
  have lt1 : ∀ x ∈ p1, x.block < W.heap.size := by obtain ⟨m, hm⟩ := k1; exact DataW.trod_lt m _ _ _ hm
  obtain ⟨x1, A1, n1, c1, rfl, w1⟩ := open_list opens_LStep Tryd.underlying40 (hval 1 40 v1 rfl rfl) h1
  have k2 := h2
  have lt2 : ∀ x ∈ p2, x.block < W.heap.size := by obtain ⟨m, hm⟩ := k2; exact DataW.trod_lt m _ _ _ hm
  obtain ⟨a2, rfl, e2, e2', w2⟩ := open_string Tryd.underlying9 (hval 2 9 v2 rfl rfl) h2
  clear hA0 hval0
  refine (SynodLives_walk (w := W) (glE_of hL) x0 cs0 w0 x1 A1 n1 c1 w1 a2 w2).mono fun e W' ⟨he, bel⟩ => ?_
  subst he
  exact ⟨_, rfl, _, _, _, [], _, [], hW', trodAll_mk1 (shut_bool Tryd.underlying4 _), (trodAll_cons_mk (Below.trod SynodLives_laidOut (by kernel_rfl) (of_decide_eq_true (by kernel_rfl)) k0 bel lt0) (trodAll_cons_mk (Below.trod SynodLives_laidOut (by kernel_rfl) (of_decide_eq_true (by kernel_rfl)) k1 bel lt1) (trodAll_cons_mk (Below.trod SynodLives_laidOut (by kernel_rfl) (of_decide_eq_true (by kernel_rfl)) k2 bel lt2) trodAll_mk0))), rfl, bel.frame _, fun h => by cases h⟩
set_option maxRecDepth 100000 in
set_option maxHeartbeats 4000000 in
theorem SynodLives_row : Rows.SynodLivesSaid :=
  OpenClaim.holds_of_wide 11 Tryd.f11 rfl rfl rfl rfl rfl rfl rfl ⟨rfl, rfl, rfl, rfl, rfl⟩ rfl rfl rfl rfl rfl (by kernel_rfl) Tryd.func11 (by kernel_rfl)
    (of_decide_eq_true (by kernel_rfl)) (by unfold Func.isWrapper; first | (rw [if_pos (by decide +kernel)]; kernel_rfl) | (rw [if_neg (by decide +kernel)]; exact ⟨rfl, rfl⟩))
    (fun os started H enc _ => SynodLives_lifted os started H enc)
set_option maxRecDepth 100000 in
set_option maxHeartbeats 4000000 in
theorem SynodLives_holds : Rows.SynodLivesCardSaid :=
  Claim7.holds_tied_plain_at .later [] [.data] true (true, "cb5fefe2008e8336ea9f5d78b4e645a098888375547093116390ebfe8b58d892") false
    SynodLives_row (fun _ h => by cases h) (by kernel_rfl) (fun _ h => by cases h) synodLives_row_tie rfl ⟨rfl, rfl⟩ (by kernel_rfl) rfl
    (fun f fn hf hfn => by
      obtain rfl : f = 11 := Option.some.inj ((show Tryd.prog.funcNamed "supercargo/supercargolaw.SynodLives" = some 11 by kernel_rfl).symm.trans hf) |>.symm
      obtain rfl : fn = Tryd.f11 := (Option.some.inj (Tryd.func11.symm.trans hfn)).symm
      exact ⟨by kernel_rfl, fun j t ht => by
        rw [Tryd.params11] at ht
        have hm : t ∈ [24, 40, 9] := by simpa using Array.mem_of_getElem? ht
        have hall : ([24, 40, 9].all fun u => !Tryd.prog.wantsStandIn u) = true := by kernel_rfl
        exact (show Tryd.prog.wantsStandIn t = false by simpa using List.all_eq_true.1 hall t hm)⟩)
    (by kernel_rfl)
end Go.Proofs.YtligepciannclaaDoor
