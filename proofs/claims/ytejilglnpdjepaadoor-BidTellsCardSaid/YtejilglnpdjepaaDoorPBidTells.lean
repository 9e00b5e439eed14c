/- CheckBid, Begin and Hear return what the document says, errors included: the law BidTells returns true. No condition. -/
import Derived.Test.YtejilglnpdjepaaDoorPSeatL
import Derived.Test.YtejilglnpdjepaaDoorPSeatF
import Derived.WalkKit
import Derived.Handy
import Derived.ProofKit
import Derived.OpenShut
import Derived.ShutString
import Derived.ChangeOld
import Derived.Below
import Derived.Lib.Hide
import Derived.WalkLawsBesides
import Derived.WalkSpells
import Derived.Deep.QuietTactic
import Derived.BigQuiet
import Derived.Outline
import Derived.SevenTiedAt
namespace Go.Proofs.YtejilglnpdjepaaDoor
set_option linter.unusedSimpArgs false
set_option linter.unusedVariables false
open Go.ChangeShapes Go.WideShapes Go.ChangeAt Go.RowKit
open Go.ChangeMaps (open_string shut_string)
set_option maxRecDepth 100000
set_option maxHeartbeats 4000000
theorem toAll_len (n : Nat) (m : Vote) : (toAllP n m).length = n := by simp [toAllP]
theorem begin_len (v : Voters) (no time : Int) (own : ByteArray) : (beginP v no time own).2.1.length ≤ 12 := by
  unfold beginP
  by_cases h1 : ¬ (0 ≤ no ∧ no ≤ 30)
  · rw [if_pos h1]; simp
  · rw [if_neg h1]
    by_cases h2 : (Bid.new time own).checkE v.weights v.need ≠ 0
    · rw [if_pos h2]; simp
    · rw [if_neg h2]
      have := bid_len (v := v) (b := Bid.new time own) (by omega)
      simp only [toAll_len]; exact this
theorem hear_len (v : Voters) (no : Int) (b : Bid) (m : Vote) : (hearP v no b m).2.1.length ≤ 12 := by
  unfold hearP
  by_cases h2 : b.checkE v.weights v.need = 0
  · have := bid_len h2
    (repeat' split) <;> first | (simp; done) | (unfold onP; split <;> simp [toAll_len]; omega)
  · rw [if_pos h2]; split <;> simp
abbrev btq0 (b : Bid) : OB := some ⟨8, [[VI b.time, VI b.phase, .v (.string b.own), .v (.string b.value), VI b.best.at_.time, VI b.best.at_.who, .v (.string b.best.data), .v (.int .u64 (b.heard.n : Int))]]⟩
abbrev btq1 (m : Vote) : OB := some ⟨6, [[VI m.kind, VI m.bid, VI m.node, VI m.copy.at_.time, VI m.copy.at_.who, .v (.string m.copy.data)]]⟩
abbrev btq2 (v : Voters) (b : Bid) (m : Vote) : LB := [some ⟨2, [[.lst 1 (v.weights.map cI), VI v.need]]⟩, (btq0 b), (btq1 m)]
abbrev btq3 (no : Int) : LS := [(7, .ref 2 6 0 0), (6, .ref 1 8 0 0), (4, .ref 0 2 0 0), (1, VI no)]
abbrev btq4 (m : Vote) : AV := .agg [VI m.kind, VI m.bid, VI m.node, VI m.copy.at_.time, VI m.copy.at_.who, .v (.string m.copy.data)]
abbrev btq5 (b : Bid) : AV := .agg [VI b.time, VI b.phase, .v (.string b.own), .v (.string b.value), VI b.best.at_.time, VI b.best.at_.who, .v (.string b.best.data), .v (.int .u64 (b.heard.n : Int))]
abbrev btq6 (m : Vote) (b : Bid) (no : Int) (v : Voters) : LS := (25, (btq4 m)) :: (24, (btq5 b)) :: (23, VI no) :: (22, .agg [.lst 1 (v.weights.map cI), VI v.need]) :: (btq3 no)
abbrev btq7 (v : Voters) (no : Int) (b : Bid) (m : Vote) : AV := .agg [VI (((hearP v no b m).1).time), VI (((hearP v no b m).1).phase), .v (.string (((hearP v no b m).1).own)), .v (.string (((hearP v no b m).1).value)), VI (((((hearP v no b m).1).best).at_).time), VI (((((hearP v no b m).1).best).at_).who), .v (.string ((((hearP v no b m).1).best).data)), .v (.int .u64 (((hearP v no b m).1).heard.n : Int))]
abbrev btq8 (v : Voters) (no : Int) (b : Bid) (m : Vote) : LS := (26, .tup [(btq7 v no b m), .lst 6 (((hearP v no b m).2.1).map Vote.cs), VI ((hearP v no b m).2.2)]) :: (btq6 m b no v)
abbrev btq9 (v : Voters) (no : Int) (b : Bid) (m : Vote) : OB := some ⟨8, [[VI (((hearP v no b m).1).time), VI (((hearP v no b m).1).phase), .v (.string (((hearP v no b m).1).own)), .v (.string (((hearP v no b m).1).value)), VI (((((hearP v no b m).1).best).at_).time), VI (((((hearP v no b m).1).best).at_).who), .v (.string ((((hearP v no b m).1).best).data)), .v (.int .u64 (((hearP v no b m).1).heard.n : Int))]]⟩
abbrev btq10 (v : Voters) (b : Bid) (m : Vote) (no : Int) : LB := [some ⟨2, [[.lst 1 (v.weights.map cI), VI v.need]]⟩, (btq0 b), (btq1 m), (btq9 v no b m)]
abbrev btq11 (v : Voters) (no : Int) (b : Bid) (m : Vote) : LS := (11, VI ((hearP v no b m).2.2)) :: (10, .lst 6 (((hearP v no b m).2.1).map Vote.cs)) :: (9, .ref 3 8 0 0) :: (btq3 no)
abbrev btq12 (b : Bid) (no : Int) (v : Voters) (m : Vote) : LS := (36, .v (.string b.own)) :: (35, .ref 1 8 0 2) :: (34, VI b.time) :: (33, .ref 1 8 0 0) :: (32, VI no) :: (31, .agg [.lst 1 (v.weights.map cI), VI v.need]) :: (btq11 v no b m)
abbrev btq13 (v : Voters) (no : Int) (b : Bid) : AV := .agg [VI (((beginP v no b.time b.own).1).time), VI (((beginP v no b.time b.own).1).phase), .v (.string (((beginP v no b.time b.own).1).own)), .v (.string (((beginP v no b.time b.own).1).value)), VI (((((beginP v no b.time b.own).1).best).at_).time), VI (((((beginP v no b.time b.own).1).best).at_).who), .v (.string ((((beginP v no b.time b.own).1).best).data)), .v (.int .u64 (((beginP v no b.time b.own).1).heard.n : Int))]
abbrev btq14 (v : Voters) (no : Int) (b : Bid) (m : Vote) : LS := (37, .tup [(btq13 v no b), .lst 6 (((beginP v no b.time b.own).2.1).map Vote.cs), VI ((beginP v no b.time b.own).2.2)]) :: (btq12 b no v m)
abbrev btq15 (v : Voters) (no : Int) (b : Bid) : OB := some ⟨8, [[VI (((beginP v no b.time b.own).1).time), VI (((beginP v no b.time b.own).1).phase), .v (.string (((beginP v no b.time b.own).1).own)), .v (.string (((beginP v no b.time b.own).1).value)), VI (((((beginP v no b.time b.own).1).best).at_).time), VI (((((beginP v no b.time b.own).1).best).at_).who), .v (.string ((((beginP v no b.time b.own).1).best).data)), .v (.int .u64 (((beginP v no b.time b.own).1).heard.n : Int))]]⟩
abbrev btq16 (v : Voters) (b : Bid) (m : Vote) (no : Int) : LB := [some ⟨2, [[.lst 1 (v.weights.map cI), VI v.need]]⟩, (btq0 b), (btq1 m), (btq9 v no b m), (btq15 v no b)]
abbrev btq17 (v : Voters) (no : Int) (b : Bid) (m : Vote) : LS := (14, VI ((beginP v no b.time b.own).2.2)) :: (13, .lst 6 (((beginP v no b.time b.own).2.1).map Vote.cs)) :: (12, .ref 4 8 0 0) :: (btq11 v no b m)
abbrev btq18 (m : Vote) (b : Bid) (no : Int) (v : Voters) : LS := (45, (btq4 m)) :: (44, (btq5 b)) :: (43, VI no) :: (42, .agg [.lst 1 (v.weights.map cI), VI v.need]) :: (btq17 v no b m)
abbrev btq19 (v : Voters) (no : Int) (b : Bid) (m : Vote) : LS := (46, .tup [(btq7 v no b m), .lst 6 (((hearP v no b m).2.1).map Vote.cs), VI ((hearP v no b m).2.2)]) :: (btq18 m b no v)
abbrev btq20 (v : Voters) (b : Bid) (m : Vote) (no : Int) : LB := [some ⟨2, [[.lst 1 (v.weights.map cI), VI v.need]]⟩, (btq0 b), (btq1 m), (btq9 v no b m), (btq15 v no b), (btq9 v no b m)]
abbrev btq21 (v : Voters) (no : Int) (b : Bid) (m : Vote) : LS := [(17, VI ((hearP v no b m).2.2)), (16, .lst 6 (((hearP v no b m).2.1).map Vote.cs)), (15, .ref 5 8 0 0), (14, VI ((beginP v no b.time b.own).2.2)), (13, .lst 6 (((beginP v no b.time b.own).2.1).map Vote.cs)), (12, .ref 4 8 0 0), (11, VI ((hearP v no b m).2.2)), (10, .lst 6 (((hearP v no b m).2.1).map Vote.cs)), (9, .ref 3 8 0 0), (6, .ref 1 8 0 0), (4, .ref 0 2 0 0), (1, VI no)]
abbrev btq22 (b : Bid) (no : Int) (v : Voters) (m : Vote) : LS := (56, .v (.string b.own)) :: (55, .ref 1 8 0 2) :: (54, VI b.time) :: (53, .ref 1 8 0 0) :: (52, VI no) :: (51, .agg [.lst 1 (v.weights.map cI), VI v.need]) :: (btq21 v no b m)
abbrev btq23 (v : Voters) (no : Int) (b : Bid) (m : Vote) : LS := (57, .tup [(btq13 v no b), .lst 6 (((beginP v no b.time b.own).2.1).map Vote.cs), VI ((beginP v no b.time b.own).2.2)]) :: (btq22 b no v m)
abbrev btq24 (v : Voters) (b : Bid) (m : Vote) (no : Int) : LB := [some ⟨2, [[.lst 1 (v.weights.map cI), VI v.need]]⟩, (btq0 b), (btq1 m), (btq9 v no b m), (btq15 v no b), (btq9 v no b m), (btq15 v no b)]
abbrev btq25 (v : Voters) (no : Int) (b : Bid) (m : Vote) : LS := [(20, VI ((beginP v no b.time b.own).2.2)), (19, .lst 6 (((beginP v no b.time b.own).2.1).map Vote.cs)), (18, .ref 6 8 0 0), (17, VI ((hearP v no b m).2.2)), (16, .lst 6 (((hearP v no b m).2.1).map Vote.cs)), (15, .ref 5 8 0 0), (14, VI ((beginP v no b.time b.own).2.2)), (13, .lst 6 (((beginP v no b.time b.own).2.1).map Vote.cs)), (12, .ref 4 8 0 0), (11, VI ((hearP v no b m).2.2)), (10, .lst 6 (((hearP v no b m).2.1).map Vote.cs)), (9, .ref 3 8 0 0), (6, .ref 1 8 0 0), (4, .ref 0 2 0 0)]
abbrev btq26 (b : Bid) (v : Voters) (no : Int) (m : Vote) : LS := (64, (btq5 b)) :: (63, .agg [.lst 1 (v.weights.map cI), VI v.need]) :: (62, .v (.bool true)) :: (61, .v (.bool true)) :: (btq25 v no b m)
abbrev btq27 (b : Bid) (v : Voters) (no : Int) (m : Vote) : LS := (67, (btq5 b)) :: (66, .agg [.lst 1 (v.weights.map cI), VI v.need]) :: (65, VI (b.checkE v.weights v.need)) :: (btq26 b v no m)
abbrev btq28 (v : Voters) (no : Int) (b : Bid) (m : Vote) : LS := (73, (btq7 v no b m)) :: (72, (btq7 v no b m)) :: (71, .v (.bool true)) :: (70, .v (.bool true)) :: (69, .v (.bool true)) :: (68, VI (b.checkE v.weights v.need)) :: (btq27 b v no m)
abbrev btq29 (v : Voters) (no : Int) (b : Bid) (m : Vote) : LS := (78, .lst 6 (((hearP v no b m).2.1).map Vote.cs)) :: (77, .lst 6 (((hearP v no b m).2.1).map Vote.cs)) :: (76, .v (.bool true)) :: (75, .v (.bool true)) :: (74, .v (.bool true)) :: (btq28 v no b m)
abbrev btq30 (v : Voters) (no : Int) (b : Bid) (m : Vote) : LS := (83, VI ((hearP v no b m).2.2)) :: (82, VI ((hearP v no b m).2.2)) :: (81, .v (.bool true)) :: (80, .v (.bool true)) :: (79, .v (.bool true)) :: (btq29 v no b m)
abbrev btq31 (v : Voters) (no : Int) (b : Bid) (m : Vote) : LS := (88, (btq13 v no b)) :: (87, (btq13 v no b)) :: (86, .v (.bool true)) :: (85, .v (.bool true)) :: (84, .v (.bool true)) :: (btq30 v no b m)
abbrev btq32 (v : Voters) (no : Int) (b : Bid) (m : Vote) : LS := (93, .lst 6 (((beginP v no b.time b.own).2.1).map Vote.cs)) :: (92, .lst 6 (((beginP v no b.time b.own).2.1).map Vote.cs)) :: (91, .v (.bool true)) :: (90, .v (.bool true)) :: (89, .v (.bool true)) :: (btq31 v no b m)
theorem bidTells_fn (v : Voters) (no : Int) (b : Bid) (m : Vote) (hx : v.weights.length ≤ 9223372036854775807) : Fn Tryd.prog 4 [.agg [.lst 1 (v.weights.map cI), VI v.need], VI no, .agg [VI b.time, VI b.phase, .v (.string b.own), .v (.string b.value), VI b.best.at_.time, VI b.best.at_.who, .v (.string b.best.data), .v (.int .u64 (b.heard.n : Int))], .agg [VI m.kind, VI m.bid, VI m.node, VI m.copy.at_.time, VI m.copy.at_.who, .v (.string m.copy.data)]] (.v (.bool true)) := by
  refine fn_walkW F4_ok (of_decide_eq_true (by kernel_rfl)) ?_
  refine EL.sreg ?_
  refine OW.last 4 [1, 4, 6, 7] (x' := ⟨(btq3 no), (btq2 v b m)⟩) (by kernel_rfl) (by kernel_rfl) ?_
  refine EL.sreg ?_
  refine OW.run 4 (x' := ⟨(btq6 m b no v), (btq2 v b m)⟩) (by kernel_rfl) ?_
  refine OW.fn (ar := [.agg [.lst 1 (v.weights.map cI), VI v.need], VI no, (btq5 b), (btq4 m)]) (x' := ⟨(btq8 v no b m), (btq2 v b m)⟩) (by kernel_rfl) (by kernel_rfl) F16_call (hear_fn v no b m hx) (by kernel_rfl) (by kernel_rfl) ?_
  refine OW.last 8 [1, 4, 6, 7, 9, 10, 11] (x' := ⟨(btq11 v no b m), (btq10 v b m no)⟩) (by kernel_rfl) (by kernel_rfl) ?_
  refine EL.sreg ?_
  refine OW.run 6 (x' := ⟨(btq12 b no v m), (btq10 v b m no)⟩) (by kernel_rfl) ?_
  refine OW.fn (ar := [.agg [.lst 1 (v.weights.map cI), VI v.need], VI no, VI b.time, .v (.string b.own)]) (x' := ⟨(btq14 v no b m), (btq10 v b m no)⟩) (by kernel_rfl) (by kernel_rfl) F17_call (begin_fn v no b.time b.own hx) (by kernel_rfl) (by kernel_rfl) ?_
  refine OW.last 8 [1, 4, 6, 7, 9, 10, 11, 12, 13, 14] (x' := ⟨(btq17 v no b m), (btq16 v b m no)⟩) (by kernel_rfl) (by kernel_rfl) ?_
  refine EL.sreg ?_
  refine OW.run 4 (x' := ⟨(btq18 m b no v), (btq16 v b m no)⟩) (by kernel_rfl) ?_
  refine OW.fn (ar := [.agg [.lst 1 (v.weights.map cI), VI v.need], VI no, (btq5 b), (btq4 m)]) (x' := ⟨(btq19 v no b m), (btq16 v b m no)⟩) (by kernel_rfl) (by kernel_rfl) F18_call (rhear_fn v no b m hx) (by kernel_rfl) (by kernel_rfl) ?_
  refine OW.last 8 [1, 4, 6, 9, 10, 11, 12, 13, 14, 15, 16, 17] (x' := ⟨(btq21 v no b m), (btq20 v b m no)⟩) (by kernel_rfl) (by kernel_rfl) ?_
  refine EL.sreg ?_
  refine OW.run 6 (x' := ⟨(btq22 b no v m), (btq20 v b m no)⟩) (by kernel_rfl) ?_
  refine OW.fn (ar := [.agg [.lst 1 (v.weights.map cI), VI v.need], VI no, VI b.time, .v (.string b.own)]) (x' := ⟨(btq23 v no b m), (btq20 v b m no)⟩) (by kernel_rfl) (by kernel_rfl) F19_call (rbegin_fn v no b.time b.own hx) (by kernel_rfl) (by kernel_rfl) ?_
  refine OW.last 8 [4, 6, 9, 10, 11, 12, 13, 14, 15, 16, 17, 18, 19, 20] (x' := ⟨(btq25 v no b m), (btq24 v b m no)⟩) (by kernel_rfl) (by kernel_rfl) ?_
  refine EL.sdraw ?_
  refine DW.fn (ar := []) (x' := ⟨(61, .v (.bool true)) :: (btq25 v no b m), (btq24 v b m no)⟩) (by kernel_rfl) (by kernel_rfl) F10_call (begun_fn) (by kernel_rfl) (by kernel_rfl) ?_
  refine DW.run 3 (x' := ⟨(btq26 b v no m), (btq24 v b m no)⟩) (by kernel_rfl) ?_
  refine DW.fn (ar := [.agg [.lst 1 (v.weights.map cI), VI v.need], (btq5 b)]) (x' := ⟨(65, VI (b.checkE v.weights v.need)) :: (btq26 b v no m), (btq24 v b m no)⟩) (by kernel_rfl) (by kernel_rfl) F20_call (bcheck_fn v b hx) (by kernel_rfl) (by kernel_rfl) ?_
  refine DW.run 2 (x' := ⟨(btq27 b v no m), (btq24 v b m no)⟩) (by kernel_rfl) ?_
  refine DW.fn (ar := [.agg [.lst 1 (v.weights.map cI), VI v.need], (btq5 b)]) (x' := ⟨(68, VI (b.checkE v.weights v.need)) :: (btq27 b v no m), (btq24 v b m no)⟩) (by kernel_rfl) (by kernel_rfl) F21_call (rbcheck_fn v b hx) (by kernel_rfl) (by kernel_rfl) ?_
  refine DW.run 3 (x' := ⟨(71, .v (.bool ((b.checkE v.weights v.need) == b.checkE v.weights v.need))) :: (70, .v (.bool ((b.checkE v.weights v.need) == b.checkE v.weights v.need))) :: (69, .v (.bool ((b.checkE v.weights v.need) == b.checkE v.weights v.need))) :: (68, VI (b.checkE v.weights v.need)) :: (btq27 b v no m), (btq24 v b m no)⟩) (by kernel_rfl) ?_
  have h1 : ((b.checkE v.weights v.need) == b.checkE v.weights v.need) = true := by simp [strEq_iff]
  rw [h1]
  refine DW.run 5 (x' := ⟨(76, .v (.bool (((((hearP v no b m).1).time) == ((hearP v no b m).1).time) && (((((hearP v no b m).1).phase) == ((hearP v no b m).1).phase) && (strEq (((hearP v no b m).1).own) (((hearP v no b m).1).own) && (strEq (((hearP v no b m).1).value) (((hearP v no b m).1).value) && (((((((hearP v no b m).1).best).at_).time) == ((((hearP v no b m).1).best).at_).time) && (((((((hearP v no b m).1).best).at_).who) == ((((hearP v no b m).1).best).at_).who) && (strEq ((((hearP v no b m).1).best).data) ((((hearP v no b m).1).best).data) && (((((hearP v no b m).1).heard.n : Int) == (((hearP v no b m).1).heard.n : Int)) && true)))))))))) :: (75, .v (.bool (((((hearP v no b m).1).time) == ((hearP v no b m).1).time) && (((((hearP v no b m).1).phase) == ((hearP v no b m).1).phase) && (strEq (((hearP v no b m).1).own) (((hearP v no b m).1).own) && (strEq (((hearP v no b m).1).value) (((hearP v no b m).1).value) && (((((((hearP v no b m).1).best).at_).time) == ((((hearP v no b m).1).best).at_).time) && (((((((hearP v no b m).1).best).at_).who) == ((((hearP v no b m).1).best).at_).who) && (strEq ((((hearP v no b m).1).best).data) ((((hearP v no b m).1).best).data) && (((((hearP v no b m).1).heard.n : Int) == (((hearP v no b m).1).heard.n : Int)) && true)))))))))) :: (74, .v (.bool (((((hearP v no b m).1).time) == ((hearP v no b m).1).time) && (((((hearP v no b m).1).phase) == ((hearP v no b m).1).phase) && (strEq (((hearP v no b m).1).own) (((hearP v no b m).1).own) && (strEq (((hearP v no b m).1).value) (((hearP v no b m).1).value) && (((((((hearP v no b m).1).best).at_).time) == ((((hearP v no b m).1).best).at_).time) && (((((((hearP v no b m).1).best).at_).who) == ((((hearP v no b m).1).best).at_).who) && (strEq ((((hearP v no b m).1).best).data) ((((hearP v no b m).1).best).data) && (((((hearP v no b m).1).heard.n : Int) == (((hearP v no b m).1).heard.n : Int)) && true)))))))))) :: (btq28 v no b m), (btq24 v b m no)⟩) (by kernel_rfl) ?_
  rcases Bool.eq_false_or_eq_true ((((((hearP v no b m).1).time) == ((hearP v no b m).1).time) && (((((hearP v no b m).1).phase) == ((hearP v no b m).1).phase) && (strEq (((hearP v no b m).1).own) (((hearP v no b m).1).own) && (strEq (((hearP v no b m).1).value) (((hearP v no b m).1).value) && (((((((hearP v no b m).1).best).at_).time) == ((((hearP v no b m).1).best).at_).time) && (((((((hearP v no b m).1).best).at_).who) == ((((hearP v no b m).1).best).at_).who) && (strEq ((((hearP v no b m).1).best).data) ((((hearP v no b m).1).best).data) && (((((hearP v no b m).1).heard.n : Int) == (((hearP v no b m).1).heard.n : Int)) && true))))))))) with h2 | h2
  rw [h2]
  refine DW.run 2 (x' := ⟨(btq29 v no b m), (btq24 v b m no)⟩) (by kernel_rfl) ?_
  refine DW.fn (ar := [.lst 6 (((hearP v no b m).2.1).map Vote.cs), .lst 6 (((hearP v no b m).2.1).map Vote.cs)]) (x' := ⟨(79, .v (.bool (decide (((hearP v no b m).2.1) = ((hearP v no b m).2.1))))) :: (btq29 v no b m), (btq24 v b m no)⟩) (by kernel_rfl) (by kernel_rfl) F15_call (sameVotes_fn ((hearP v no b m).2.1) ((hearP v no b m).2.1) (by first | (have := hear_len v no b m; omega) | (have := begin_len v no b.time b.own; omega))) (by kernel_rfl) (by kernel_rfl) ?_
  refine DW.run 2 (x' := ⟨(81, .v (.bool (decide (((hearP v no b m).2.1) = ((hearP v no b m).2.1))))) :: (80, .v (.bool (decide (((hearP v no b m).2.1) = ((hearP v no b m).2.1))))) :: (79, .v (.bool (decide (((hearP v no b m).2.1) = ((hearP v no b m).2.1))))) :: (btq29 v no b m), (btq24 v b m no)⟩) (by kernel_rfl) ?_
  have h3 : decide (((hearP v no b m).2.1) = ((hearP v no b m).2.1)) = true := by simp [strEq_iff]
  rw [h3]
  refine DW.run 5 (x' := ⟨(86, .v (.bool (((hearP v no b m).2.2) == (hearP v no b m).2.2))) :: (85, .v (.bool (((hearP v no b m).2.2) == (hearP v no b m).2.2))) :: (84, .v (.bool (((hearP v no b m).2.2) == (hearP v no b m).2.2))) :: (btq30 v no b m), (btq24 v b m no)⟩) (by kernel_rfl) ?_
  have h4 : (((hearP v no b m).2.2) == (hearP v no b m).2.2) = true := by simp [strEq_iff]
  rw [h4]
  refine DW.run 5 (x' := ⟨(91, .v (.bool (((((beginP v no b.time b.own).1).time) == ((beginP v no b.time b.own).1).time) && (((((beginP v no b.time b.own).1).phase) == ((beginP v no b.time b.own).1).phase) && (strEq (((beginP v no b.time b.own).1).own) (((beginP v no b.time b.own).1).own) && (strEq (((beginP v no b.time b.own).1).value) (((beginP v no b.time b.own).1).value) && (((((((beginP v no b.time b.own).1).best).at_).time) == ((((beginP v no b.time b.own).1).best).at_).time) && (((((((beginP v no b.time b.own).1).best).at_).who) == ((((beginP v no b.time b.own).1).best).at_).who) && (strEq ((((beginP v no b.time b.own).1).best).data) ((((beginP v no b.time b.own).1).best).data) && (((((beginP v no b.time b.own).1).heard.n : Int) == (((beginP v no b.time b.own).1).heard.n : Int)) && true)))))))))) :: (90, .v (.bool (((((beginP v no b.time b.own).1).time) == ((beginP v no b.time b.own).1).time) && (((((beginP v no b.time b.own).1).phase) == ((beginP v no b.time b.own).1).phase) && (strEq (((beginP v no b.time b.own).1).own) (((beginP v no b.time b.own).1).own) && (strEq (((beginP v no b.time b.own).1).value) (((beginP v no b.time b.own).1).value) && (((((((beginP v no b.time b.own).1).best).at_).time) == ((((beginP v no b.time b.own).1).best).at_).time) && (((((((beginP v no b.time b.own).1).best).at_).who) == ((((beginP v no b.time b.own).1).best).at_).who) && (strEq ((((beginP v no b.time b.own).1).best).data) ((((beginP v no b.time b.own).1).best).data) && (((((beginP v no b.time b.own).1).heard.n : Int) == (((beginP v no b.time b.own).1).heard.n : Int)) && true)))))))))) :: (89, .v (.bool (((((beginP v no b.time b.own).1).time) == ((beginP v no b.time b.own).1).time) && (((((beginP v no b.time b.own).1).phase) == ((beginP v no b.time b.own).1).phase) && (strEq (((beginP v no b.time b.own).1).own) (((beginP v no b.time b.own).1).own) && (strEq (((beginP v no b.time b.own).1).value) (((beginP v no b.time b.own).1).value) && (((((((beginP v no b.time b.own).1).best).at_).time) == ((((beginP v no b.time b.own).1).best).at_).time) && (((((((beginP v no b.time b.own).1).best).at_).who) == ((((beginP v no b.time b.own).1).best).at_).who) && (strEq ((((beginP v no b.time b.own).1).best).data) ((((beginP v no b.time b.own).1).best).data) && (((((beginP v no b.time b.own).1).heard.n : Int) == (((beginP v no b.time b.own).1).heard.n : Int)) && true)))))))))) :: (btq31 v no b m), (btq24 v b m no)⟩) (by kernel_rfl) ?_
  rcases Bool.eq_false_or_eq_true ((((((beginP v no b.time b.own).1).time) == ((beginP v no b.time b.own).1).time) && (((((beginP v no b.time b.own).1).phase) == ((beginP v no b.time b.own).1).phase) && (strEq (((beginP v no b.time b.own).1).own) (((beginP v no b.time b.own).1).own) && (strEq (((beginP v no b.time b.own).1).value) (((beginP v no b.time b.own).1).value) && (((((((beginP v no b.time b.own).1).best).at_).time) == ((((beginP v no b.time b.own).1).best).at_).time) && (((((((beginP v no b.time b.own).1).best).at_).who) == ((((beginP v no b.time b.own).1).best).at_).who) && (strEq ((((beginP v no b.time b.own).1).best).data) ((((beginP v no b.time b.own).1).best).data) && (((((beginP v no b.time b.own).1).heard.n : Int) == (((beginP v no b.time b.own).1).heard.n : Int)) && true))))))))) with h5 | h5
  rw [h5]
  refine DW.run 2 (x' := ⟨(btq32 v no b m), (btq24 v b m no)⟩) (by kernel_rfl) ?_
  refine DW.fn (ar := [.lst 6 (((beginP v no b.time b.own).2.1).map Vote.cs), .lst 6 (((beginP v no b.time b.own).2.1).map Vote.cs)]) (x' := ⟨(94, .v (.bool (decide (((beginP v no b.time b.own).2.1) = ((beginP v no b.time b.own).2.1))))) :: (btq32 v no b m), (btq24 v b m no)⟩) (by kernel_rfl) (by kernel_rfl) F15_call (sameVotes_fn ((beginP v no b.time b.own).2.1) ((beginP v no b.time b.own).2.1) (by first | (have := hear_len v no b m; omega) | (have := begin_len v no b.time b.own; omega))) (by kernel_rfl) (by kernel_rfl) ?_
  refine DW.run 2 (x' := ⟨(96, .v (.bool (decide (((beginP v no b.time b.own).2.1) = ((beginP v no b.time b.own).2.1))))) :: (95, .v (.bool (decide (((beginP v no b.time b.own).2.1) = ((beginP v no b.time b.own).2.1))))) :: (94, .v (.bool (decide (((beginP v no b.time b.own).2.1) = ((beginP v no b.time b.own).2.1))))) :: (btq32 v no b m), (btq24 v b m no)⟩) (by kernel_rfl) ?_
  have h6 : decide (((beginP v no b.time b.own).2.1) = ((beginP v no b.time b.own).2.1)) = true := by simp [strEq_iff]
  rw [h6]
  refine DW.last 5 [8] (x' := ⟨[(8, .v (.bool (((beginP v no b.time b.own).2.2) == (beginP v no b.time b.own).2.2)))], (btq24 v b m no)⟩) (by kernel_rfl) (by kernel_rfl) ?_
  refine EL.ret ?_
  refine ⟨.inr rfl, .v (.bool (((beginP v no b.time b.own).2.2) == (beginP v no b.time b.own).2.2)), by kernel_rfl, Ale.of_eq ?_⟩
  focus (first | rfl | (simp [*]; done) | (simp_all; done) | (exfalso; simp_all [strEq]; done))
  rw [h5]
  refine DW.last 10 [8] (x' := ⟨[(8, .v (.bool false))], (btq24 v b m no)⟩) (by kernel_rfl) (by kernel_rfl) ?_
  refine EL.ret ?_
  refine ⟨.inr rfl, .v (.bool false), by kernel_rfl, Ale.of_eq ?_⟩
  focus (first | rfl | (simp [*]; done) | (simp_all; done) | (exfalso; simp_all [strEq]; done))
  rw [h2]
  refine DW.last 25 [8] (x' := ⟨[(8, .v (.bool false))], (btq24 v b m no)⟩) (by kernel_rfl) (by kernel_rfl) ?_
  refine EL.ret ?_
  refine ⟨.inr rfl, .v (.bool false), by kernel_rfl, Ale.of_eq ?_⟩
  focus (first | rfl | (simp [*]; done) | (simp_all; done) | (exfalso; simp_all [strEq]; done))
theorem BidTells_walk {w : World} (hG : GlE (E0 w fun b => b < w.heap.size)) (v : Voters) (csv : List Value) (rv : GoT.rep w w.heap.size csv v) (no : Int) (_wno : (Lit.int .i64 no).wf = true) (b : Bid) (_okb : b.ok) (m : Vote) (_okm : m.ok) : Calls Tryd.prog 4 #[.agg csv.toArray, I no, b.v, m.v] w fun e w' => e = .returned (.bool true) ∧ Below w.heap.size w w' := by
  have lv := (Voters.av rv).2
  exact fn_law (vs := [.agg csv.toArray, I no, b.v, m.v]) (bidTells_fn v no b m (by first | assumption | omega)) hG (.cons ((Voters.av rv).1) (.cons (.v rfl) (.cons ((R2.agg (.cons (.v rfl) (.cons (.v rfl) (.cons (.v rfl) (.cons (.v rfl) (.cons (.v rfl) (.cons (.v rfl) (.cons (.v rfl) (.cons (.v rfl) (.nil))))))))) : Rep _ b.v _)) (.cons ((R2.agg (.cons (.v rfl) (.cons (.v rfl) (.cons (.v rfl) (.cons (.v rfl) (.cons (.v rfl) (.cons (.v rfl) (.nil))))))) : Rep _ m.v _)) (.nil)))))
theorem BidTells_own : ownKnob Tryd.prog.godebug = none := by kernel_rfl
theorem BidTells_laidOut : laidOutB Tryd.prog = true := by kernel_rfl
set_option maxRecDepth 100000 in
set_option linter.unusedVariables false in
theorem BidTells_lifted (os : Os) (started : os.Started) (H : Type) (enc : TypeId × Value → H) :
    ReturnsInHanded {} Tryd.checked os 4 .any (fun w args => (Rows.bidTellsSpec.pre enc Tryd.prog Tryd.f4 [] false w args ∧ laidMetH Tryd.prog Rows.bidTellsRow.laid w) ∧ sizedMet enc Tryd.prog Tryd.f4 (OpenSpec.ofChange Rows.bidTellsSpec) false w args)
      (Rows.bidTellsSpec.post enc Tryd.prog Tryd.f4 false true false false) := by
  refine returnsInHanded_of_change_and (C := Tryd.checked) (X := fun w _ => laidMetH Tryd.prog Rows.bidTellsRow.laid w) (fun _ _ _ hh h => h.of_heap hh) BidTells_own started (by kernel_rfl) Tryd.func4
    (ChangeSpec.witness_shaped (enc := enc) (C := Tryd.checked) (os := os) (X := fun w _ => laidMetH Tryd.prog Rows.bidTellsRow.laid w) false (World.doorLaid Tryd.prog 14 os) #[.agg #[.slice none 0 0, .int .i64 0], .int .i64 0, .agg #[.int .i64 0, .int .i64 0, .string ByteArray.empty, .string ByteArray.empty, .int .i64 0, .int .i64 0, .string ByteArray.empty, .int .u64 0], .agg #[.int .i64 0, .int .i64 0, .int .i64 0, .int .i64 0, .int .i64 0, .string ByteArray.empty]] 8 rfl (World.shaped_of_RefB (by kernel_rfl) (by kernel_rfl)) (by kernel_rfl) (by kernel_rfl) (by kernel_rfl) (laidMetH_of_parts3 (fuel := 8) (laidMet_of_run' 8 (by kernel_rfl) (by kernel_rfl)) (by kernel_rfl) (by kernel_rfl))) ?_
  intro W base args ds gs before hval0 hW _ _ hL _
  have hval : ∀ (j : Nat) t v, Tryd.f4.params[j]? = some t → args[j]? = some v → Value.okWide Tryd.prog W .any base t v := hval0
  have hW' := hW
  obtain ⟨p, q, hA0, hV, rfl, hfz, hnd⟩ := hW
  have hA : DataW.TrodAll enc Tryd.prog W 0 (fun _ => true) true Tryd.f4.params.toList args.toList ds p := hA0
  rw [Tryd.params4] at hA hval
  obtain ⟨v0, vs0, d0, ds0, p0, q0, hargs, rfl, rfl, h0, r0⟩ := trodAll_cons hA
  obtain ⟨v1, vs1, d1, ds1, p1, q1, rfl, rfl, rfl, h1, r1⟩ := trodAll_cons r0
  obtain ⟨v2, vs2, d2, ds2, p2, q2, rfl, rfl, rfl, h2, r2⟩ := trodAll_cons r1
  obtain ⟨v3, vs3, d3, ds3, p3, q3, rfl, rfl, rfl, h3, r3⟩ := trodAll_cons r2
  obtain ⟨rfl, rfl, rfl⟩ := trodAll_nil r3
  obtain rfl : args = #[v0, v1, v2, v3] := by cases args; simp_all
  obtain ⟨rfl, rfl⟩ := trodVars_none hV
  have k0 := h0
  have lt0 : ∀ x ∈ p0, x.block < W.heap.size := by obtain ⟨m, hm⟩ := k0; exact DataW.trod_lt m _ _ _ hm
  obtain ⟨x0, cs0, rfl, w0⟩ := open_agg opens_Voters Tryd.underlying41 (hval 0 41 v0 rfl rfl) h0
  have k1 := h1
  have lt1 : ∀ x ∈ p1, x.block < W.heap.size := by obtain ⟨m, hm⟩ := k1; exact DataW.trod_lt m _ _ _ hm
  obtain ⟨a1, rfl, e1, e1', w1⟩ := open_int Tryd.underlying3 (hval 1 3 v1 rfl rfl) h1
  have k2 := h2
  have lt2 : ∀ x ∈ p2, x.block < W.heap.size := by obtain ⟨m, hm⟩ := k2; exact DataW.trod_lt m _ _ _ hm
  obtain ⟨x2, cs2, rfl, w2⟩ := open_agg opens_Bid Tryd.underlying44 (hval 2 44 v2 rfl rfl) h2
  obtain ⟨rfl, ok2⟩ := Bid.flat w2
  have k3 := h3
  have lt3 : ∀ x ∈ p3, x.block < W.heap.size := by obtain ⟨m, hm⟩ := k3; exact DataW.trod_lt m _ _ _ hm
  obtain ⟨x3, cs3, rfl, w3⟩ := open_agg opens_Vote Tryd.underlying29 (hval 3 29 v3 rfl rfl) h3
  obtain ⟨rfl, ok3⟩ := Vote.flat w3
  clear hA0 hval0
  refine (BidTells_walk (w := W) (glE_of hL) x0 cs0 w0 a1 w1 x2 ok2 x3 ok3).mono fun e W' ⟨he, bel⟩ => ?_
  subst he
  exact ⟨_, rfl, _, _, _, [], _, [], hW', trodAll_mk1 (shut_bool Tryd.underlying4 _), (trodAll_cons_mk (Below.trod BidTells_laidOut (by kernel_rfl) (of_decide_eq_true (by kernel_rfl)) k0 bel lt0) (trodAll_cons_mk (Below.trod BidTells_laidOut (by kernel_rfl) (of_decide_eq_true (by kernel_rfl)) k1 bel lt1) (trodAll_cons_mk (Below.trod BidTells_laidOut (by kernel_rfl) (of_decide_eq_true (by kernel_rfl)) k2 bel lt2) (trodAll_cons_mk (Below.trod BidTells_laidOut (by kernel_rfl) (of_decide_eq_true (by kernel_rfl)) k3 bel lt3) trodAll_mk0)))), rfl, bel.frame _, fun h => by cases h⟩
set_option maxRecDepth 100000 in
set_option maxHeartbeats 4000000 in
theorem BidTells_row : Rows.BidTellsSaid :=
  OpenClaim.holds_of_wide 4 Tryd.f4 rfl rfl rfl rfl rfl rfl rfl ⟨rfl, rfl, rfl, rfl, rfl⟩ rfl rfl rfl rfl rfl (by kernel_rfl) Tryd.func4 (by kernel_rfl)
    (of_decide_eq_true (by kernel_rfl)) (by unfold Func.isWrapper; first | (rw [if_pos (by decide +kernel)]; kernel_rfl) | (rw [if_neg (by decide +kernel)]; exact ⟨rfl, rfl⟩))
    (fun os started H enc _ => BidTells_lifted os started H enc)
set_option maxRecDepth 100000 in
set_option maxHeartbeats 4000000 in
theorem BidTells_holds : Rows.BidTellsCardSaid :=
  Claim7.holds_tied_plain_at .later [] [.data] true (true, "b61f73abae45e264646c0b9802a4a2409c44329666a5012799d964ba1cee84f6") false
    BidTells_row (fun _ h => by cases h) (by kernel_rfl) (fun _ h => by cases h) bidTells_row_tie rfl ⟨rfl, rfl⟩ (by kernel_rfl) rfl
    (fun f fn hf hfn => by
      obtain rfl : f = 4 := Option.some.inj ((show Tryd.prog.funcNamed "supercargo/supercargolaw.BidTells" = some 4 by kernel_rfl).symm.trans hf) |>.symm
      obtain rfl : fn = Tryd.f4 := (Option.some.inj (Tryd.func4.symm.trans hfn)).symm
      exact ⟨by kernel_rfl, fun j t ht => by
        rw [Tryd.params4] at ht
        have hm : t ∈ [41, 3, 44, 29] := by simpa using Array.mem_of_getElem? ht
        have hall : ([41, 3, 44, 29].all fun u => !Tryd.prog.wantsStandIn u) = true := by kernel_rfl
        exact (show Tryd.prog.wantsStandIn t = false by simpa using List.all_eq_true.1 hall t hm)⟩)
    (by kernel_rfl)
end Go.Proofs.YtejilglnpdjepaaDoor
