/- Plain law of synods: a run. No condition. -/
import Derived.Test.YtligepciannclaaDoorPSeatC
import Derived.Test.YtligepciannclaaDoorPAvOwn
set_option linter.unusedSimpArgs false
set_option linter.unusedVariables false
set_option maxHeartbeats 4000000
set_option maxRecDepth 100000
namespace Go.Proofs.YtligepciannclaaDoor
def onP (v : Vtr) (no : Int) (b : Bid) : Bid × List Vote × Int :=
  if b.phase = 2 then ({ b with phase := 3 }, [], 0)
  else ({ b with value := if b.best.at_.time = 0 ∧ b.best.at_.who = 0 then b.own else b.best.data, phase := 2, heard := ⟨0, by decide⟩ }, toAllP v.weights.length ⟨3, no, 0, ⟨⟨b.time, no⟩, if b.best.at_.time = 0 ∧ b.best.at_.who = 0 then b.own else b.best.data⟩⟩, 0)
def heardP (b : Bid) (m : Vote) : Bid := { b with heard := orU b.heard m.node.toNat, best := if b.phase = 1 then b.best.raw m.copy else b.best }
def hearP (v : Vtr) (no : Int) (b : Bid) (m : Vote) : Bid × List Vote × Int :=
  if ¬ (0 ≤ no ∧ no ≤ 30) then (Bid.zero, [], 3)
  else if b.checkE v.weights v.need ≠ 0 then (Bid.zero, [], b.checkE v.weights v.need)
  else if m.checkE ≠ 0 then (Bid.zero, [], m.checkE)
  else if m.bid ≠ no ∨ fitsP b no m = false ∨ m.node ≥ v.weights.length ∨ (andU b.heard m.node.toNat).n ≠ 0 then (b, [], 0)
  else if (enoughP v.weights v.need (heardP b m).heard.n).1 = true then onP v no (heardP b m) else (heardP b m, [], 0)
theorem hear_go {v : Vtr} {no : Int} {b : Bid} {m : Vote} (h1 : 0 ≤ no ∧ no ≤ 30) (h2 : b.checkE v.weights v.need = 0) (h3 : m.checkE = 0) (h4 : m.bid = no) (h5 : fitsP b no m = true) (h6 : ¬ m.node ≥ v.weights.length) (h7 : ((andU b.heard m.node.toNat).n : Int) = 0) :
    hearP v no b m = if (enoughP v.weights v.need (orU b.heard m.node.toNat).n).1 = true then onP v no (heardP b m) else (heardP b m, [], 0) := by
  unfold hearP
  rw [if_neg (fun hh => hh h1), if_neg (fun hh => hh h2), if_neg (fun hh => hh h3), if_neg]
  · rfl
  · rintro (h | h | h | h)
    · exact h h4
    · rw [h5] at h; simp at h
    · exact h6 h
    · exact h (by omega)
theorem vote_node {m : Vote} (h : m.checkE = 0) : 0 ≤ m.node ∧ m.node < 64 := by
  unfold Vote.checkE at h
  split at h
  · simp at h
  · split at h
    · simp at h
    · omega
section
variable (b : Bid) (m : Vote) (no : Int) (v : Vtr)
abbrev D78 := (orU b.heard (Int.toNat m.node))
abbrev D79 := ((b.best.raw m.copy).at_)
abbrev D80 := ((b.best.raw m.copy).data)
abbrev D81 := (b.checkE v.weights v.need)
abbrev D0 : OB := some ⟨2, [[.lst 1 (v.weights.map cI), VI v.need]]⟩
abbrev D1 : OB := some ⟨8, [[VI b.time, VI b.phase, .v (.string b.own), .v (.string b.value), VI b.best.at_.time, VI b.best.at_.who, .v (.string b.best.data), .v (.int .u64 (b.heard.n : Int))]]⟩
abbrev D2 : OB := some ⟨6, [[VI m.kind, VI m.bid, VI m.node, VI m.copy.at_.time, VI m.copy.at_.who, .v (.string m.copy.data)]]⟩
abbrev D3 : OB := some ⟨8, [[VI 0, VI 0, .v (.string (⟨#[]⟩)), .v (.string (⟨#[]⟩)), VI 0, VI 0, .v (.string (⟨#[]⟩)), .v (.int .u64 0)]]⟩
abbrev D4 : LS := [(8, .ref 3 8 0 0), (7, .ref 2 6 0 0), (6, .ref 1 8 0 0), (4, .ref 0 2 0 0), (1, VI no)]
abbrev D5 : AV := .agg [VI b.time, VI b.phase, .v (.string b.own), .v (.string b.value), VI b.best.at_.time, VI b.best.at_.who, .v (.string b.best.data), .v (.int .u64 (b.heard.n : Int))]
abbrev D6 : AV := .agg [.lst 1 (v.weights.map cI), VI v.need]
abbrev D7 : LS := (20, (D5 b)) :: (19, (D6 v)) :: (18, .v (.bool true)) :: (11, VI 3) :: (D4 no)
abbrev D8 : LS := (11, VI (D81 b v)) :: (21, VI (D81 b v)) :: (20, (D5 b)) :: (19, (D6 v)) :: (18, .v (.bool true)) :: (D4 no)
abbrev D9 : AV := .agg [VI m.kind, VI m.bid, VI m.node, VI m.copy.at_.time, VI m.copy.at_.who, .v (.string m.copy.data)]
abbrev D10 : LS := (24, (D9 m)) :: (23, .v (.bool true)) :: (11, VI (D81 b v)) :: (D4 no)
abbrev D11 : LS := (11, VI m.checkE) :: (25, VI m.checkE) :: (24, (D9 m)) :: (23, .v (.bool true)) :: (D4 no)
abbrev D12 : LS := [(10, VI m.checkE), (9, .emp), (8, .ref 3 8 0 0)]
abbrev D13 : OB := some ⟨2, [[.ref 1 8 0 0, VI no]]⟩
abbrev D14 : LB := [(D0 v), (D1 b), (D2 m), D3, (D13 no)]
abbrev D15 : LS := (33, VI m.node) :: (32, .ref 2 6 0 2) :: (12, .ref 4 2 0 0) :: (D4 no)
abbrev D16 : LS := (13, .v (.int .u64 ((2 ^ (Int.toNat m.node) : Nat) : Int))) :: (12, .ref 4 2 0 0) :: (D4 no)
abbrev D17 : LS := (37, VI no) :: (36, VI m.bid) :: (35, .ref 2 6 0 1) :: (D16 m no)
abbrev D18 : LS := [(59, .v (.bool true)), (13, .v (.int .u64 ((2 ^ (Int.toNat m.node) : Nat) : Int))), (12, .ref 4 2 0 0), (8, .ref 3 8 0 0), (7, .ref 2 6 0 0), (6, .ref 1 8 0 0), (4, .ref 0 2 0 0)]
abbrev D19 : LB := [(D0 v), (D1 b), (D2 m), (D1 b), (D13 no)]
abbrev D20 : LS := (41, (D9 m)) :: (40, .agg [.ref 1 8 0 0, VI no]) :: (39, .v (.bool false)) :: (38, .v (.bool false)) :: (D17 m no)
abbrev D21 : LS := (49, .lst 1 (v.weights.map cI)) :: (48, .ref 0 2 0 0) :: (47, VI m.node) :: (46, .ref 2 6 0 2) :: (45, .v (.bool false)) :: (44, .v (.bool false)) :: (43, .v (.bool false)) :: (42, .v (.bool true)) :: (D20 m no)
abbrev D22 : LS := (56, .v (.int .u64 ((2 ^ (Int.toNat m.node) : Nat) : Int))) :: (55, .v (.int .u64 (b.heard.n : Int))) :: (54, .ref 1 8 0 7) :: (53, .v (.bool false)) :: (52, .v (.bool false)) :: (51, .v (.bool false)) :: (50, VI (List.length v.weights : Int)) :: (D21 m no v)
abbrev D23 : LS := [(13, .v (.int .u64 ((2 ^ (Int.toNat m.node) : Nat) : Int))), (12, .ref 4 2 0 0), (8, .ref 3 8 0 0), (7, .ref 2 6 0 0), (6, .ref 1 8 0 0), (4, .ref 0 2 0 0)]
abbrev D24 : LS := (63, .v (.int .u64 ((2 ^ (Int.toNat m.node) : Nat) : Int))) :: (62, .v (.int .u64 (b.heard.n : Int))) :: (61, .ref 1 8 0 7) :: (59, .v (.bool false)) :: (D23 m)
abbrev D25 : OB := some ⟨8, [[VI b.time, VI b.phase, .v (.string b.own), .v (.string b.value), VI b.best.at_.time, VI b.best.at_.who, .v (.string b.best.data), .v (.int .u64 ((D78 b m).n : Int))]]⟩
abbrev D26 : LB := [(D0 v), (D25 b m), (D2 m), D3, (D13 no)]
abbrev D27 : LS := [(12, .ref 4 2 0 0), (8, .ref 3 8 0 0), (7, .ref 2 6 0 0), (6, .ref 1 8 0 0), (4, .ref 0 2 0 0)]
abbrev D28 : AV := .agg [VI m.copy.at_.time, VI m.copy.at_.who, .v (.string m.copy.data)]
abbrev D29 : AV := .agg [VI b.best.at_.time, VI b.best.at_.who, .v (.string b.best.data)]
abbrev D30 : LS := (72, (D28 m)) :: (71, .ref 2 6 0 3) :: (70, (D29 b)) :: (69, .ref 1 8 0 4) :: (68, .v (.bool true)) :: D27
abbrev D31 : AV := .agg [VI ((D79 b m).time), VI ((D79 b m).who), .v (.string (D80 b m))]
abbrev D32 : OB := some ⟨8, [[VI b.time, VI b.phase, .v (.string b.own), .v (.string b.value), VI ((D79 b m).time), VI ((D79 b m).who), .v (.string (D80 b m)), .v (.int .u64 ((D78 b m).n : Int))]]⟩
abbrev D33 : LB := [(D0 v), (D32 b m), (D2 m), D3, (D13 no)]
abbrev D34 : LS := [(14, .emp), (12, .ref 4 2 0 0), (8, .ref 3 8 0 0), (6, .ref 1 8 0 0), (4, .ref 0 2 0 0)]
abbrev D35 : LS := (81, .v (.int .u64 ((D78 b m).n : Int))) :: (80, .ref 1 8 0 7) :: (79, VI v.need) :: (78, .ref 0 2 0 1) :: (77, .lst 1 (v.weights.map cI)) :: (76, .ref 0 2 0 0) :: D34
abbrev D36 : LS := (87, (D6 v)) :: (86, .agg [.ref 1 8 0 0, VI no]) :: (85, .v (.bool true)) :: D34
abbrev D37 : LB := [(D0 v), (D32 b m), (D2 m), D3, (D13 no), (D13 no), (D0 v)]
abbrev D38 : OB := some ⟨8, [[VI b.time, VI 3, .v (.string b.own), .v (.string b.value), VI ((D79 b m).time), VI ((D79 b m).who), .v (.string (D80 b m)), .v (.int .u64 ((D78 b m).n : Int))]]⟩
abbrev D39 : LB := [(D0 v), (D38 b m), (D2 m), D3, (D13 no), (D13 no), (D0 v)]
abbrev D40 : LB := [(D0 v), (D38 b m), (D2 m), D3, (D13 no)]
abbrev D41 : LS := [(14, .emp), (88, .emp), (87, (D6 v)), (86, .agg [.ref 1 8 0 0, VI no]), (85, .v (.bool true)), (12, .ref 4 2 0 0), (8, .ref 3 8 0 0), (6, .ref 1 8 0 0), (4, .ref 0 2 0 0)]
abbrev D42 : LB := [(D0 v), (D38 b m), (D2 m), (D38 b m), (D13 no)]
abbrev D43 : OB := some ⟨8, [[VI b.time, VI b.phase, .v (.string b.own), .v (.string (D80 b m)), VI ((D79 b m).time), VI ((D79 b m).who), .v (.string (D80 b m)), .v (.int .u64 ((D78 b m).n : Int))]]⟩
abbrev D44 : LB := [(D0 v), (D43 b m), (D2 m), D3, (D13 no), (D13 no), (D0 v)]
abbrev D45 : OB := some ⟨8, [[VI b.time, VI b.phase, .v (.string b.own), .v (.string b.own), VI ((D79 b m).time), VI ((D79 b m).who), .v (.string (D80 b m)), .v (.int .u64 ((D78 b m).n : Int))]]⟩
abbrev D46 : LB := [(D0 v), (D45 b m), (D2 m), D3, (D13 no), (D13 no), (D0 v)]
abbrev D47 : LS := [(41, .ref 1 8 0 3), (40, .ref 1 8 0 0), (39, .v (.string b.own)), (38, .ref 1 8 0 2), (37, .ref 1 8 0 0), (36, .ref 1 8 0 0), (35, .ref 5 2 0 0), (34, .ref 1 8 0 0), (33, .ref 5 2 0 0), (32, .v (.bool true)), (3, .ref 6 2 0 0), (2, .ref 5 2 0 0)]
abbrev D48 : OB := some ⟨8, [[VI b.time, VI 2, .v (.string b.own), .v (.string b.own), VI ((D79 b m).time), VI ((D79 b m).who), .v (.string (D80 b m)), .v (.int .u64 0)]]⟩
abbrev D49 : LB := [(D0 v), (D48 b m), (D2 m), D3, (D13 no), (D13 no), (D0 v)]
abbrev D50 : LS := [(53, .agg [.ref 1 8 0 0, VI no]), (52, VI no), (51, .ref 5 2 0 1), (50, (D6 v)), (3, .ref 6 2 0 0), (2, .ref 5 2 0 0)]
abbrev D51 : LB := [(D0 v), (D48 b m), (D2 m), D3, (D13 no)]
abbrev D52 : LS := [(87, (D6 v)), (86, .agg [.ref 1 8 0 0, VI no]), (85, .v (.bool true)), (12, .ref 4 2 0 0), (8, .ref 3 8 0 0), (6, .ref 1 8 0 0), (4, .ref 0 2 0 0)]
abbrev D53 : LB := [(D0 v), (D48 b m), (D2 m), (D48 b m), (D13 no)]
abbrev D54 : OB := some ⟨8, [[VI b.time, VI 2, .v (.string b.own), .v (.string (D80 b m)), VI ((D79 b m).time), VI ((D79 b m).who), .v (.string (D80 b m)), .v (.int .u64 0)]]⟩
abbrev D55 : LB := [(D0 v), (D54 b m), (D2 m), D3, (D13 no), (D13 no), (D0 v)]
abbrev D56 : LB := [(D0 v), (D54 b m), (D2 m), D3, (D13 no)]
abbrev D57 : LB := [(D0 v), (D54 b m), (D2 m), (D54 b m), (D13 no)]
abbrev D58 : LB := [(D0 v), (D32 b m), (D2 m), (D32 b m), (D13 no)]
abbrev D59 : LB := [(D0 v), (D25 b m), (D2 m), D3, (D13 no), (D13 no), (D0 v)]
abbrev D60 : OB := some ⟨8, [[VI b.time, VI 3, .v (.string b.own), .v (.string b.value), VI b.best.at_.time, VI b.best.at_.who, .v (.string b.best.data), .v (.int .u64 ((D78 b m).n : Int))]]⟩
abbrev D61 : LB := [(D0 v), (D60 b m), (D2 m), D3, (D13 no), (D13 no), (D0 v)]
abbrev D62 : LB := [(D0 v), (D60 b m), (D2 m), D3, (D13 no)]
abbrev D63 : LB := [(D0 v), (D60 b m), (D2 m), (D60 b m), (D13 no)]
abbrev D64 : OB := some ⟨8, [[VI b.time, VI b.phase, .v (.string b.own), .v (.string b.best.data), VI b.best.at_.time, VI b.best.at_.who, .v (.string b.best.data), .v (.int .u64 ((D78 b m).n : Int))]]⟩
abbrev D65 : LB := [(D0 v), (D64 b m), (D2 m), D3, (D13 no), (D13 no), (D0 v)]
abbrev D66 : OB := some ⟨8, [[VI b.time, VI b.phase, .v (.string b.own), .v (.string b.own), VI b.best.at_.time, VI b.best.at_.who, .v (.string b.best.data), .v (.int .u64 ((D78 b m).n : Int))]]⟩
abbrev D67 : LB := [(D0 v), (D66 b m), (D2 m), D3, (D13 no), (D13 no), (D0 v)]
abbrev D68 : OB := some ⟨8, [[VI b.time, VI 2, .v (.string b.own), .v (.string b.own), VI b.best.at_.time, VI b.best.at_.who, .v (.string b.best.data), .v (.int .u64 0)]]⟩
abbrev D69 : LB := [(D0 v), (D68 b), (D2 m), D3, (D13 no), (D13 no), (D0 v)]
abbrev D70 : LB := [(D0 v), (D68 b), (D2 m), D3, (D13 no)]
abbrev D71 : LB := [(D0 v), (D68 b), (D2 m), (D68 b), (D13 no)]
abbrev D72 : OB := some ⟨8, [[VI b.time, VI 2, .v (.string b.own), .v (.string b.best.data), VI b.best.at_.time, VI b.best.at_.who, .v (.string b.best.data), .v (.int .u64 0)]]⟩
abbrev D73 : LB := [(D0 v), (D72 b), (D2 m), D3, (D13 no), (D13 no), (D0 v)]
abbrev D74 : LB := [(D0 v), (D72 b), (D2 m), D3, (D13 no)]
abbrev D75 : LB := [(D0 v), (D72 b), (D2 m), (D72 b), (D13 no)]
abbrev D76 : LB := [(D0 v), (D25 b m), (D2 m), (D25 b m), (D13 no)]
abbrev D77 : LS := [(10, VI (D81 b v)), (9, .emp), (8, .ref 3 8 0 0)]
end
theorem hear_fn (v : Vtr) (no : Int) (b : Bid) (m : Vote) (hx : v.weights.length ≤ 9223372036854775807) : Fn Tryd.prog 86 [.agg [.lst 1 (v.weights.map cI), VI v.need], VI no, .agg [VI b.time, VI b.phase, .v (.string b.own), .v (.string b.value), VI b.best.at_.time, VI b.best.at_.who, .v (.string b.best.data), .v (.int .u64 (b.heard.n : Int))], .agg [VI m.kind, VI m.bid, VI m.node, VI m.copy.at_.time, VI m.copy.at_.who, .v (.string m.copy.data)]] (.tup [.agg [VI (((hearP v no b m).1).time), VI (((hearP v no b m).1).phase), .v (.string (((hearP v no b m).1).own)), .v (.string (((hearP v no b m).1).value)), VI (((((hearP v no b m).1).best).at_).time), VI (((((hearP v no b m).1).best).at_).who), .v (.string ((((hearP v no b m).1).best).data)), .v (.int .u64 (((hearP v no b m).1).heard.n : Int))], .lst 6 (((hearP v no b m).2.1).map Vote.cs), VI ((hearP v no b m).2.2)]) := by
 refine fnw F86_ok ?_
 refine srl 6 [1, 4, 6, 7, 8] ⟨(D4 no), [(D0 v), (D1 b), (D2 m), D3]⟩ ?_
 refine srl 1 [1, 4, 6, 7, 8, 11] ⟨(11, VI 3) :: (D4 no), [(D0 v), (D1 b), (D2 m), D3]⟩ ?_
 refine EL.seq ?_
 refine srr 1 ⟨(17, VI no) :: (11, VI 3) :: (D4 no), [(D0 v), (D1 b), (D2 m), D3]⟩ ?_
 refine owg [VI no] ⟨(18, .v (.bool (wi no 0 30))) :: (17, VI no) :: (11, VI 3) :: (D4 no), [(D0 v), (D1 b), (D2 m), D3]⟩ (number_fn no) ?_
 refine owl 0 [1, 4, 6, 7, 8, 11, 18] ⟨(18, .v (.bool (wi no 0 30))) :: (11, VI 3) :: (D4 no), [(D0 v), (D1 b), (D2 m), D3]⟩ ?_
 cases h1 : (wi no 0 30)
 have g1 : ¬ ((0 : Int) ≤ no ∧ (no : Int) ≤ 30) := fun hh => Bool.noConfusion ((wi_iff.2 hh).symm.trans h1)
 refine cnF ?_
 refine skn ?_
 refine EL.seq ?_
 refine srl 2 [1, 4, 6, 7, 8, 11, 23] ⟨(23, .v (.bool false)) :: (11, VI 3) :: (D4 no), [(D0 v), (D1 b), (D2 m), D3]⟩ ?_
 refine cnF ?_
 refine skn ?_
 refine EL.seq ?_
 refine srl 2 [1, 4, 6, 7, 8, 11, 27] ⟨(27, .v (.bool true)) :: (11, VI 3) :: (D4 no), [(D0 v), (D1 b), (D2 m), D3]⟩ ?_
 refine cnT ?_
 refine srl 5 [8, 9, 10] ⟨[(10, VI 3), (9, .emp), (8, .ref 3 8 0 0)], [(D0 v), (D1 b), (D2 m), D3]⟩ ?_
 refine rtr ?_
 refine rqa (.tup [.agg [VI 0, VI 0, .v (.string (⟨#[]⟩)), .v (.string (⟨#[]⟩)), VI 0, VI 0, .v (.string (⟨#[]⟩)), .v (.int .u64 0)], .emp, VI 3]) (Ale.tup (aR (aE 6 (aR .nil)))) ?_
 rotate_left
 have g1 : ((0 : Int) ≤ no ∧ (no : Int) ≤ 30) := wi_iff.1 h1
 refine cnT ?_
 refine EL.reg0 ?_
 refine owr 2 ⟨(D7 b no v), [(D0 v), (D1 b), (D2 m), D3]⟩ ?_
 refine owg [(D6 v), (D5 b)] ⟨(21, VI (D81 b v)) :: (D7 b no v), [(D0 v), (D1 b), (D2 m), D3]⟩ (bcheck_fn v b hx) ?_
 refine owe 1 ⟨(D8 b no v), [(D0 v), (D1 b), (D2 m), D3]⟩ ?_
 refine tN ?_
 refine EL.seq ?_
 refine srl 2 [1, 4, 6, 7, 8, 11, 23] ⟨(23, .v (.bool ((D81 b v) == 0))) :: (11, VI (D81 b v)) :: (D4 no), [(D0 v), (D1 b), (D2 m), D3]⟩ ?_
 cases h2 : ((b.checkE v.weights v.need) == 0)
 have g2 := bqF h2
 refine cnF ?_
 refine skn ?_
 refine EL.seq ?_
 refine srl 2 [1, 4, 6, 7, 8, 11, 27] ⟨(27, .v (.bool ((D81 b v) != 0))) :: (11, VI (D81 b v)) :: (D4 no), [(D0 v), (D1 b), (D2 m), D3]⟩ ?_
 have h18 : ((b.checkE v.weights v.need) != 0) = true := (by show (!((b.checkE v.weights v.need) == 0)) = _; rw [h2]; rfl)
 rw [h18]
 refine cnT ?_
 refine srl 5 [8, 9, 10] ⟨(D77 b v), [(D0 v), (D1 b), (D2 m), D3]⟩ ?_
 refine rtr ?_
 refine rqa (.tup [.agg [VI 0, VI 0, .v (.string (⟨#[]⟩)), .v (.string (⟨#[]⟩)), VI 0, VI 0, .v (.string (⟨#[]⟩)), .v (.int .u64 0)], .emp, VI (b.checkE v.weights v.need)]) (Ale.tup (aR (aE 6 (aR .nil)))) ?_
 rotate_left
 have g2 := bqT h2
 refine cnT ?_
 refine EL.reg0 ?_
 refine owr 1 ⟨(D10 b m no v), [(D0 v), (D1 b), (D2 m), D3]⟩ ?_
 refine owg [(D9 m)] ⟨(25, VI m.checkE) :: (D10 b m no v), [(D0 v), (D1 b), (D2 m), D3]⟩ (vcheck_fn m) ?_
 refine owe 1 ⟨(D11 m no), [(D0 v), (D1 b), (D2 m), D3]⟩ ?_
 refine tN ?_
 refine EL.seq ?_
 refine srl 2 [1, 4, 6, 7, 8, 11, 27] ⟨(27, .v (.bool (m.checkE != 0))) :: (11, VI m.checkE) :: (D4 no), [(D0 v), (D1 b), (D2 m), D3]⟩ ?_
 cases h3 : (m.checkE != 0)
 have g3 := bnF h3
 refine cnF ?_
 refine skn ?_
 refine srl 4 [1, 4, 6, 7, 8, 12] ⟨(12, .ref 4 2 0 0) :: (D4 no), (D14 b m no v)⟩ ?_
 refine srr 2 ⟨(D15 m no), (D14 b m no v)⟩ ?_
 refine ow2 ⟨(34, .v (.int .u64 (IntKind.u64.wrap (1 * 2 ^ (min (Int.toNat m.node) IntKind.u64.bits))))) :: (D15 m no), (D14 b m no v)⟩ (opE_shl (.c (.v (.int .u64 1))) (.s 33) .u64 .i64 1 m.node (by kernel_rfl) (by kernel_rfl) (by kernel_rfl) (by kernel_rfl) (by have hvn := vote_node (m := m) (by omega); omega)) ?_
 have e4 : IntKind.u64.wrap (1 * 2 ^ (min (Int.toNat m.node) IntKind.u64.bits)) = ((2 ^ (Int.toNat m.node) : Nat) : Int) := shl1 (by have hvn := vote_node (m := m) (by omega); omega)
 rw [e4]
 refine owl 1 [1, 4, 6, 7, 8, 12, 13] ⟨(D16 m no), (D14 b m no v)⟩ ?_
 refine EL.seq ?_
 refine srr 5 ⟨(39, .v (.bool (m.bid != no))) :: (38, .v (.bool (m.bid != no))) :: (D17 m no), (D14 b m no v)⟩ ?_
 cases h5 : (m.bid != no)
 have g5 := bnF h5
 refine owr 2 ⟨(D20 m no), (D14 b m no v)⟩ ?_
 refine owg [.agg [.ref 1 8 0 0, VI no], (D9 m)] ⟨(42, .v (.bool (fitsP b no m))) :: (D20 m no), (D14 b m no v)⟩ (fits_fn b no m) ?_
 refine owr 3 ⟨(45, .v (.bool (!(fitsP b no m)))) :: (44, .v (.bool (!(fitsP b no m)))) :: (43, .v (.bool (!(fitsP b no m)))) :: (42, .v (.bool (fitsP b no m))) :: (D20 m no), (D14 b m no v)⟩ ?_
 cases h6 : (fitsP b no m)
 refine owl 14 [4, 6, 7, 8, 12, 13, 59] ⟨(D18 m), (D14 b m no v)⟩ ?_
 refine cnT ?_
 refine srl 4 [8, 9, 10] ⟨[(10, VI 0), (9, .emp), (8, .ref 3 8 0 0)], (D19 b m no v)⟩ ?_
 refine rtr ?_
 refine rqa (.tup [.agg [VI b.time, VI b.phase, .v (.string b.own), .v (.string b.value), VI b.best.at_.time, VI b.best.at_.who, .v (.string b.best.data), .v (.int .u64 (b.heard.n : Int))], .emp, VI 0]) (Ale.tup (aR (aE 6 (aR .nil)))) ?_
 rotate_left
 refine owr 4 ⟨(D21 m no v), (D14 b m no v)⟩ ?_
 refine ow2 ⟨(50, VI (List.length v.weights : Int)) :: (D21 m no v), (D14 b m no v)⟩ (oln cI v.weights (.s 49) 1) ?_
 refine owr 3 ⟨(53, .v (.bool (decide (m.node ≥ (List.length v.weights : Int))))) :: (52, .v (.bool (decide (m.node ≥ (List.length v.weights : Int))))) :: (51, .v (.bool (decide (m.node ≥ (List.length v.weights : Int))))) :: (50, VI (List.length v.weights : Int)) :: (D21 m no v), (D14 b m no v)⟩ ?_
 cases h7 : (decide (m.node ≥ (List.length v.weights : Int)))
 have g7 := of_decide_eq_false h7
 refine owr 6 ⟨(59, .v (.bool ((bits .and .u64 (b.heard.n : Int) ((2 ^ (Int.toNat m.node) : Nat) : Int)) != 0))) :: (58, .v (.bool ((bits .and .u64 (b.heard.n : Int) ((2 ^ (Int.toNat m.node) : Nat) : Int)) != 0))) :: (57, .v (.int .u64 (bits .and .u64 (b.heard.n : Int) ((2 ^ (Int.toNat m.node) : Nat) : Int)))) :: (D22 b m no v), (D14 b m no v)⟩ ?_
 have e8 : bits .and .u64 (b.heard.n : Int) ((2 ^ (Int.toNat m.node) : Nat) : Int) = ((andU b.heard (Int.toNat m.node)).n : Int) := andU_bits (by have hvn := vote_node (m := m) (by omega); omega)
 rw [e8]
 clear e8
 refine owl 0 [4, 6, 7, 8, 12, 13, 59] ⟨(59, .v (.bool (((andU b.heard (Int.toNat m.node)).n : Int) != 0))) :: (D23 m), (D14 b m no v)⟩ ?_
 cases h9 : (((andU b.heard (Int.toNat m.node)).n : Int) != 0)
 have g9 := bnF h9
 refine cnF ?_
 refine skn ?_
 refine srr 6 ⟨(65, .ref 1 8 0 7) :: (64, .v (.int .u64 (bits .or .u64 (b.heard.n : Int) ((2 ^ (Int.toNat m.node) : Nat) : Int)))) :: (D24 b m), [(D0 v), some ⟨8, [[VI b.time, VI b.phase, .v (.string b.own), .v (.string b.value), VI b.best.at_.time, VI b.best.at_.who, .v (.string b.best.data), .v (.int .u64 (bits .or .u64 (b.heard.n : Int) ((2 ^ (Int.toNat m.node) : Nat) : Int)))]]⟩, (D2 m), D3, (D13 no)]⟩ ?_
 have e10 : bits .or .u64 (b.heard.n : Int) ((2 ^ (Int.toNat m.node) : Nat) : Int) = ((orU b.heard (Int.toNat m.node)).n : Int) := orU_bits (by have hvn := vote_node (m := m) (by omega); omega)
 rw [e10]
 clear e10
 refine owl 0 [4, 6, 7, 8, 12] ⟨D27, (D26 b m no v)⟩ ?_
 refine EL.seq ?_
 refine srl 3 [4, 6, 7, 8, 12, 68] ⟨(68, .v (.bool (b.phase == 1))) :: D27, (D26 b m no v)⟩ ?_
 cases h11 : (b.phase == 1)
 have g11 := bqF h11
 refine cnF ?_
 refine skn ?_
 refine srl 1 [4, 6, 8, 12, 14] ⟨D34, (D26 b m no v)⟩ ?_
 refine EL.seq ?_
 refine srr 6 ⟨(D35 b m v), (D26 b m no v)⟩ ?_
 refine owg [.lst 1 (v.weights.map cI), VI v.need, .v (.int .u64 ((D78 b m).n : Int))] ⟨(82, .tup [.v (.bool ((enoughP v.weights v.need (D78 b m).n).1)), VI ((enoughP v.weights v.need (D78 b m).n).2)]) :: (D35 b m v), (D26 b m no v)⟩ (enough_fn v.weights v.need (D78 b m) hx) ?_
 refine owl 5 [4, 6, 8, 12, 14, 15] ⟨(15, .v (.bool ((enoughP v.weights v.need (D78 b m).n).1))) :: D34, (D26 b m no v)⟩ ?_
 refine srl 1 [4, 6, 8, 12, 14, 85] ⟨(85, .v (.bool ((enoughP v.weights v.need (D78 b m).n).1))) :: D34, (D26 b m no v)⟩ ?_
 cases h15 : ((enoughP v.weights v.need (orU b.heard (Int.toNat m.node)).n).1)
 refine cnF ?_
 refine skn ?_
 refine srl 5 [8, 9, 10] ⟨[(10, VI 0), (9, .emp), (8, .ref 3 8 0 0)], (D76 b m no v)⟩ ?_
 refine EL.ret ?_
 refine rqa (.tup [.agg [VI b.time, VI b.phase, .v (.string b.own), .v (.string b.value), VI b.best.at_.time, VI b.best.at_.who, .v (.string b.best.data), .v (.int .u64 ((orU b.heard (Int.toNat m.node)).n : Int))], .emp, VI 0]) (Ale.tup (aR (aE 6 (aR .nil)))) ?_
 rotate_left
 refine cnT ?_
 refine EL.reg0 ?_
 refine owr 2 ⟨(D36 no v), (D26 b m no v)⟩ ?_
 cases h16 : (b.phase == 2)
 have g16 := bqF h16
 cases h17 : ((b.best.at_.time == 0) && ((b.best.at_.who == 0) && true))
 have g17 : ¬ (b.best.at_.time = 0 ∧ b.best.at_.who = 0) := fun ⟨q0, q1⟩ => Bool.noConfusion ((show (((b.best.at_.time == 0) && ((b.best.at_.who == 0) && true))) = true by first | (simp [q0, q1, strEq_iff]; done) | (simp only [q0, q1, beq_self_eq_true, Bool.and_self, Bool.and_true, Bool.true_and]; done)).symm.trans h17)
 refine owj [.agg [.ref 1 8 0 0, VI no], (D6 v)] (.lst 6 ((toAllP v.weights.length (⟨3, no, 0, (⟨(⟨(⟨b.time, 2, b.own, b.best.data, b.best, (⟨0, by decide⟩ : U64)⟩ : Bid).time, no⟩ : Stp), b.best.data⟩ : Copy)⟩ : Vote)).map Vote.cs)) (D74 b m no v) ⟨(88, .lst 6 ((toAllP v.weights.length (⟨3, no, 0, (⟨(⟨(⟨b.time, 2, b.own, b.best.data, b.best, (⟨0, by decide⟩ : U64)⟩ : Bid).time, no⟩ : Stp), b.best.data⟩ : Copy)⟩ : Vote)).map Vote.cs)) :: (D36 no v), (D74 b m no v)⟩ (fiw F92_ok ?_) ?_
 refine srl 3 [2, 3] ⟨[(3, .ref 6 2 0 0), (2, .ref 5 2 0 0)], (D59 b m no v)⟩ ?_
 refine EL.seq ?_
 refine srl 6 [2, 3, 10] ⟨[(10, .v (.bool (b.phase == 2))), (3, .ref 6 2 0 0), (2, .ref 5 2 0 0)], (D59 b m no v)⟩ ?_
 rw [h16]
 refine cnF ?_
 refine skn ?_
 refine sdl 11 [2, 3] ⟨[(3, .ref 6 2 0 0), (2, .ref 5 2 0 0)], (D65 b m no v)⟩ ?_
 refine EL.seq ?_
 refine srl 8 [2, 3, 32] ⟨[(32, .v (.bool ((b.best.at_.time == 0) && ((b.best.at_.who == 0) && true)))), (3, .ref 6 2 0 0), (2, .ref 5 2 0 0)], (D65 b m no v)⟩ ?_
 rw [h17]
 refine cnF ?_
 refine skn ?_
 refine sdl 10 [2, 3] ⟨[(3, .ref 6 2 0 0), (2, .ref 5 2 0 0)], (D73 b m no v)⟩ ?_
 refine sdr 4 ⟨(D50 no v), (D73 b m no v)⟩ ?_
 refine dwg [.agg [.ref 1 8 0 0, VI no]] ⟨(54, .agg [VI ((⟨(⟨b.time, 2, b.own, b.best.data, b.best, (⟨0, by decide⟩ : U64)⟩ : Bid).time, no⟩ : Stp).time), VI ((⟨(⟨b.time, 2, b.own, b.best.data, b.best, (⟨0, by decide⟩ : U64)⟩ : Bid).time, no⟩ : Stp).who)]) :: (D50 no v), (D73 b m no v)⟩ (at_fn (⟨b.time, 2, b.own, b.best.data, b.best, (⟨0, by decide⟩ : U64)⟩ : Bid) no) ?_
 refine dwr 7 ⟨(61, .agg [VI 3, VI no, VI 0, VI ((⟨(⟨b.time, 2, b.own, b.best.data, b.best, (⟨0, by decide⟩ : U64)⟩ : Bid).time, no⟩ : Stp).time), VI ((⟨(⟨b.time, 2, b.own, b.best.data, b.best, (⟨0, by decide⟩ : U64)⟩ : Bid).time, no⟩ : Stp).who), .v (.string b.best.data)]) :: (60, .agg [VI ((⟨(⟨b.time, 2, b.own, b.best.data, b.best, (⟨0, by decide⟩ : U64)⟩ : Bid).time, no⟩ : Stp).time), VI ((⟨(⟨b.time, 2, b.own, b.best.data, b.best, (⟨0, by decide⟩ : U64)⟩ : Bid).time, no⟩ : Stp).who), .v (.string b.best.data)]) :: (59, .v (.string b.best.data)) :: (58, .ref 1 8 0 3) :: (57, .ref 1 8 0 0) :: (56, .ref 1 8 0 0) :: (55, .ref 5 2 0 0) :: (54, .agg [VI ((⟨(⟨b.time, 2, b.own, b.best.data, b.best, (⟨0, by decide⟩ : U64)⟩ : Bid).time, no⟩ : Stp).time), VI ((⟨(⟨b.time, 2, b.own, b.best.data, b.best, (⟨0, by decide⟩ : U64)⟩ : Bid).time, no⟩ : Stp).who)]) :: (D50 no v), (D73 b m no v)⟩ ?_
 refine dwg [(D6 v), .agg [VI 3, VI no, VI 0, VI ((⟨(⟨b.time, 2, b.own, b.best.data, b.best, (⟨0, by decide⟩ : U64)⟩ : Bid).time, no⟩ : Stp).time), VI ((⟨(⟨b.time, 2, b.own, b.best.data, b.best, (⟨0, by decide⟩ : U64)⟩ : Bid).time, no⟩ : Stp).who), .v (.string b.best.data)]] ⟨(62, .lst 6 ((toAllP v.weights.length (⟨3, no, 0, (⟨(⟨(⟨b.time, 2, b.own, b.best.data, b.best, (⟨0, by decide⟩ : U64)⟩ : Bid).time, no⟩ : Stp), b.best.data⟩ : Copy)⟩ : Vote)).map Vote.cs)) :: (61, .agg [VI 3, VI no, VI 0, VI ((⟨(⟨b.time, 2, b.own, b.best.data, b.best, (⟨0, by decide⟩ : U64)⟩ : Bid).time, no⟩ : Stp).time), VI ((⟨(⟨b.time, 2, b.own, b.best.data, b.best, (⟨0, by decide⟩ : U64)⟩ : Bid).time, no⟩ : Stp).who), .v (.string b.best.data)]) :: (60, .agg [VI ((⟨(⟨b.time, 2, b.own, b.best.data, b.best, (⟨0, by decide⟩ : U64)⟩ : Bid).time, no⟩ : Stp).time), VI ((⟨(⟨b.time, 2, b.own, b.best.data, b.best, (⟨0, by decide⟩ : U64)⟩ : Bid).time, no⟩ : Stp).who), .v (.string b.best.data)]) :: (59, .v (.string b.best.data)) :: (58, .ref 1 8 0 3) :: (57, .ref 1 8 0 0) :: (56, .ref 1 8 0 0) :: (55, .ref 5 2 0 0) :: (54, .agg [VI ((⟨(⟨b.time, 2, b.own, b.best.data, b.best, (⟨0, by decide⟩ : U64)⟩ : Bid).time, no⟩ : Stp).time), VI ((⟨(⟨b.time, 2, b.own, b.best.data, b.best, (⟨0, by decide⟩ : U64)⟩ : Bid).time, no⟩ : Stp).who)]) :: (D50 no v), (D73 b m no v)⟩ (toAll_fn v (⟨3, no, 0, (⟨(⟨(⟨b.time, 2, b.own, b.best.data, b.best, (⟨0, by decide⟩ : U64)⟩ : Bid).time, no⟩ : Stp), b.best.data⟩ : Copy)⟩ : Vote) (by first | omega | exact bid_len (by assumption))) ?_
 refine dwl 1 [4] ⟨[(4, .lst 6 ((toAllP v.weights.length (⟨3, no, 0, (⟨(⟨(⟨b.time, 2, b.own, b.best.data, b.best, (⟨0, by decide⟩ : U64)⟩ : Bid).time, no⟩ : Stp), b.best.data⟩ : Copy)⟩ : Vote)).map Vote.cs))], (D73 b m no v)⟩ ?_
 refine EL.ret ?_
 exact fne [4] [uf 0, uf 1, uf 2, uf 3, uf 4] ⟨[(4, .lst 6 ((toAllP v.weights.length (⟨3, no, 0, (⟨(⟨(⟨b.time, 2, b.own, b.best.data, b.best, (⟨0, by decide⟩ : U64)⟩ : Bid).time, no⟩ : Stp), b.best.data⟩ : Copy)⟩ : Vote)).map Vote.cs))], (D74 b m no v)⟩ trivial
 refine owe 1 ⟨(14, .lst 6 ((toAllP v.weights.length (⟨3, no, 0, (⟨(⟨(⟨b.time, 2, b.own, b.best.data, b.best, (⟨0, by decide⟩ : U64)⟩ : Bid).time, no⟩ : Stp), b.best.data⟩ : Copy)⟩ : Vote)).map Vote.cs)) :: (88, .lst 6 ((toAllP v.weights.length (⟨3, no, 0, (⟨(⟨(⟨b.time, 2, b.own, b.best.data, b.best, (⟨0, by decide⟩ : U64)⟩ : Bid).time, no⟩ : Stp), b.best.data⟩ : Copy)⟩ : Vote)).map Vote.cs)) :: (D52 no v), (D74 b m no v)⟩ ?_
 refine tN ?_
 refine srl 5 [8, 9, 10] ⟨[(10, VI 0), (9, .lst 6 ((toAllP v.weights.length (⟨3, no, 0, (⟨(⟨(⟨b.time, 2, b.own, b.best.data, b.best, (⟨0, by decide⟩ : U64)⟩ : Bid).time, no⟩ : Stp), b.best.data⟩ : Copy)⟩ : Vote)).map Vote.cs)), (8, .ref 3 8 0 0)], (D75 b m no v)⟩ ?_
 refine EL.ret ?_
 refine rqe (.tup [.agg [VI b.time, VI 2, .v (.string b.own), .v (.string b.best.data), VI b.best.at_.time, VI b.best.at_.who, .v (.string b.best.data), .v (.int .u64 0)], .lst 6 ((toAllP v.weights.length (⟨3, no, 0, (⟨(⟨(⟨b.time, 2, b.own, b.best.data, b.best, (⟨0, by decide⟩ : U64)⟩ : Bid).time, no⟩ : Stp), b.best.data⟩ : Copy)⟩ : Vote)).map Vote.cs), VI 0]) ?_
 rotate_left
 have g17 : b.best.at_.time = 0 ∧ b.best.at_.who = 0 := by simpa [strEq_iff] using h17
 refine owj [.agg [.ref 1 8 0 0, VI no], (D6 v)] (.lst 6 ((toAllP v.weights.length (⟨3, no, 0, (⟨(⟨(⟨b.time, 2, b.own, b.own, b.best, (⟨0, by decide⟩ : U64)⟩ : Bid).time, no⟩ : Stp), b.own⟩ : Copy)⟩ : Vote)).map Vote.cs)) (D70 b m no v) ⟨(88, .lst 6 ((toAllP v.weights.length (⟨3, no, 0, (⟨(⟨(⟨b.time, 2, b.own, b.own, b.best, (⟨0, by decide⟩ : U64)⟩ : Bid).time, no⟩ : Stp), b.own⟩ : Copy)⟩ : Vote)).map Vote.cs)) :: (D36 no v), (D70 b m no v)⟩ (fiw F92_ok ?_) ?_
 refine srl 3 [2, 3] ⟨[(3, .ref 6 2 0 0), (2, .ref 5 2 0 0)], (D59 b m no v)⟩ ?_
 refine EL.seq ?_
 refine srl 6 [2, 3, 10] ⟨[(10, .v (.bool (b.phase == 2))), (3, .ref 6 2 0 0), (2, .ref 5 2 0 0)], (D59 b m no v)⟩ ?_
 rw [h16]
 refine cnF ?_
 refine skn ?_
 refine sdl 11 [2, 3] ⟨[(3, .ref 6 2 0 0), (2, .ref 5 2 0 0)], (D65 b m no v)⟩ ?_
 refine EL.seq ?_
 refine srl 8 [2, 3, 32] ⟨[(32, .v (.bool ((b.best.at_.time == 0) && ((b.best.at_.who == 0) && true)))), (3, .ref 6 2 0 0), (2, .ref 5 2 0 0)], (D65 b m no v)⟩ ?_
 rw [h17]
 refine cnT ?_
 refine EL.draw0 ?_
 refine dwe 10 ⟨(D47 b), (D67 b m no v)⟩ ?_
 refine tN ?_
 refine sdl 10 [2, 3] ⟨[(3, .ref 6 2 0 0), (2, .ref 5 2 0 0)], (D69 b m no v)⟩ ?_
 refine sdr 4 ⟨(D50 no v), (D69 b m no v)⟩ ?_
 refine dwg [.agg [.ref 1 8 0 0, VI no]] ⟨(54, .agg [VI ((⟨(⟨b.time, 2, b.own, b.own, b.best, (⟨0, by decide⟩ : U64)⟩ : Bid).time, no⟩ : Stp).time), VI ((⟨(⟨b.time, 2, b.own, b.own, b.best, (⟨0, by decide⟩ : U64)⟩ : Bid).time, no⟩ : Stp).who)]) :: (D50 no v), (D69 b m no v)⟩ (at_fn (⟨b.time, 2, b.own, b.own, b.best, (⟨0, by decide⟩ : U64)⟩ : Bid) no) ?_
 refine dwr 7 ⟨(61, .agg [VI 3, VI no, VI 0, VI ((⟨(⟨b.time, 2, b.own, b.own, b.best, (⟨0, by decide⟩ : U64)⟩ : Bid).time, no⟩ : Stp).time), VI ((⟨(⟨b.time, 2, b.own, b.own, b.best, (⟨0, by decide⟩ : U64)⟩ : Bid).time, no⟩ : Stp).who), .v (.string b.own)]) :: (60, .agg [VI ((⟨(⟨b.time, 2, b.own, b.own, b.best, (⟨0, by decide⟩ : U64)⟩ : Bid).time, no⟩ : Stp).time), VI ((⟨(⟨b.time, 2, b.own, b.own, b.best, (⟨0, by decide⟩ : U64)⟩ : Bid).time, no⟩ : Stp).who), .v (.string b.own)]) :: (59, .v (.string b.own)) :: (58, .ref 1 8 0 3) :: (57, .ref 1 8 0 0) :: (56, .ref 1 8 0 0) :: (55, .ref 5 2 0 0) :: (54, .agg [VI ((⟨(⟨b.time, 2, b.own, b.own, b.best, (⟨0, by decide⟩ : U64)⟩ : Bid).time, no⟩ : Stp).time), VI ((⟨(⟨b.time, 2, b.own, b.own, b.best, (⟨0, by decide⟩ : U64)⟩ : Bid).time, no⟩ : Stp).who)]) :: (D50 no v), (D69 b m no v)⟩ ?_
 refine dwg [(D6 v), .agg [VI 3, VI no, VI 0, VI ((⟨(⟨b.time, 2, b.own, b.own, b.best, (⟨0, by decide⟩ : U64)⟩ : Bid).time, no⟩ : Stp).time), VI ((⟨(⟨b.time, 2, b.own, b.own, b.best, (⟨0, by decide⟩ : U64)⟩ : Bid).time, no⟩ : Stp).who), .v (.string b.own)]] ⟨(62, .lst 6 ((toAllP v.weights.length (⟨3, no, 0, (⟨(⟨(⟨b.time, 2, b.own, b.own, b.best, (⟨0, by decide⟩ : U64)⟩ : Bid).time, no⟩ : Stp), b.own⟩ : Copy)⟩ : Vote)).map Vote.cs)) :: (61, .agg [VI 3, VI no, VI 0, VI ((⟨(⟨b.time, 2, b.own, b.own, b.best, (⟨0, by decide⟩ : U64)⟩ : Bid).time, no⟩ : Stp).time), VI ((⟨(⟨b.time, 2, b.own, b.own, b.best, (⟨0, by decide⟩ : U64)⟩ : Bid).time, no⟩ : Stp).who), .v (.string b.own)]) :: (60, .agg [VI ((⟨(⟨b.time, 2, b.own, b.own, b.best, (⟨0, by decide⟩ : U64)⟩ : Bid).time, no⟩ : Stp).time), VI ((⟨(⟨b.time, 2, b.own, b.own, b.best, (⟨0, by decide⟩ : U64)⟩ : Bid).time, no⟩ : Stp).who), .v (.string b.own)]) :: (59, .v (.string b.own)) :: (58, .ref 1 8 0 3) :: (57, .ref 1 8 0 0) :: (56, .ref 1 8 0 0) :: (55, .ref 5 2 0 0) :: (54, .agg [VI ((⟨(⟨b.time, 2, b.own, b.own, b.best, (⟨0, by decide⟩ : U64)⟩ : Bid).time, no⟩ : Stp).time), VI ((⟨(⟨b.time, 2, b.own, b.own, b.best, (⟨0, by decide⟩ : U64)⟩ : Bid).time, no⟩ : Stp).who)]) :: (D50 no v), (D69 b m no v)⟩ (toAll_fn v (⟨3, no, 0, (⟨(⟨(⟨b.time, 2, b.own, b.own, b.best, (⟨0, by decide⟩ : U64)⟩ : Bid).time, no⟩ : Stp), b.own⟩ : Copy)⟩ : Vote) (by first | omega | exact bid_len (by assumption))) ?_
 refine dwl 1 [4] ⟨[(4, .lst 6 ((toAllP v.weights.length (⟨3, no, 0, (⟨(⟨(⟨b.time, 2, b.own, b.own, b.best, (⟨0, by decide⟩ : U64)⟩ : Bid).time, no⟩ : Stp), b.own⟩ : Copy)⟩ : Vote)).map Vote.cs))], (D69 b m no v)⟩ ?_
 refine EL.ret ?_
 exact fne [4] [uf 0, uf 1, uf 2, uf 3, uf 4] ⟨[(4, .lst 6 ((toAllP v.weights.length (⟨3, no, 0, (⟨(⟨(⟨b.time, 2, b.own, b.own, b.best, (⟨0, by decide⟩ : U64)⟩ : Bid).time, no⟩ : Stp), b.own⟩ : Copy)⟩ : Vote)).map Vote.cs))], (D70 b m no v)⟩ trivial
 refine owe 1 ⟨(14, .lst 6 ((toAllP v.weights.length (⟨3, no, 0, (⟨(⟨(⟨b.time, 2, b.own, b.own, b.best, (⟨0, by decide⟩ : U64)⟩ : Bid).time, no⟩ : Stp), b.own⟩ : Copy)⟩ : Vote)).map Vote.cs)) :: (88, .lst 6 ((toAllP v.weights.length (⟨3, no, 0, (⟨(⟨(⟨b.time, 2, b.own, b.own, b.best, (⟨0, by decide⟩ : U64)⟩ : Bid).time, no⟩ : Stp), b.own⟩ : Copy)⟩ : Vote)).map Vote.cs)) :: (D52 no v), (D70 b m no v)⟩ ?_
 refine tN ?_
 refine srl 5 [8, 9, 10] ⟨[(10, VI 0), (9, .lst 6 ((toAllP v.weights.length (⟨3, no, 0, (⟨(⟨(⟨b.time, 2, b.own, b.own, b.best, (⟨0, by decide⟩ : U64)⟩ : Bid).time, no⟩ : Stp), b.own⟩ : Copy)⟩ : Vote)).map Vote.cs)), (8, .ref 3 8 0 0)], (D71 b m no v)⟩ ?_
 refine EL.ret ?_
 refine rqe (.tup [.agg [VI b.time, VI 2, .v (.string b.own), .v (.string b.own), VI b.best.at_.time, VI b.best.at_.who, .v (.string b.best.data), .v (.int .u64 0)], .lst 6 ((toAllP v.weights.length (⟨3, no, 0, (⟨(⟨(⟨b.time, 2, b.own, b.own, b.best, (⟨0, by decide⟩ : U64)⟩ : Bid).time, no⟩ : Stp), b.own⟩ : Copy)⟩ : Vote)).map Vote.cs), VI 0]) ?_
 rotate_left
 have g16 := bqT h16
 refine owj [.agg [.ref 1 8 0 0, VI no], (D6 v)] (.emp) (D62 b m no v) ⟨(88, .emp) :: (D36 no v), (D62 b m no v)⟩ (fiw F92_ok ?_) ?_
 refine srl 3 [2, 3] ⟨[(3, .ref 6 2 0 0), (2, .ref 5 2 0 0)], (D59 b m no v)⟩ ?_
 refine EL.seq ?_
 refine srl 6 [2, 3, 10] ⟨[(10, .v (.bool (b.phase == 2))), (3, .ref 6 2 0 0), (2, .ref 5 2 0 0)], (D59 b m no v)⟩ ?_
 rw [h16]
 refine cnT ?_
 refine srl 5 [] ⟨[], (D61 b m no v)⟩ ?_
 refine srl 1 [4] ⟨[(4, .emp)], (D61 b m no v)⟩ ?_
 refine rtr ?_
 exact fne [4] [uf 0, uf 1, uf 2, uf 3, uf 4] ⟨[(4, .emp)], (D62 b m no v)⟩ trivial
 refine owe 1 ⟨(D41 no v), (D62 b m no v)⟩ ?_
 refine tN ?_
 refine srl 5 [8, 9, 10] ⟨[(10, VI 0), (9, .emp), (8, .ref 3 8 0 0)], (D63 b m no v)⟩ ?_
 refine EL.ret ?_
 refine rqa (.tup [.agg [VI b.time, VI 3, .v (.string b.own), .v (.string b.value), VI b.best.at_.time, VI b.best.at_.who, .v (.string b.best.data), .v (.int .u64 ((orU b.heard (Int.toNat m.node)).n : Int))], .emp, VI 0]) (Ale.tup (aR (aE 6 (aR .nil)))) ?_
 rotate_left
 have g11 := bqT h11
 refine cnT ?_
 refine EL.reg0 ?_
 refine owr 4 ⟨(D30 b m), (D26 b m no v)⟩ ?_
 refine owg [(D29 b), (D28 m)] ⟨(73, (D31 b m)) :: (D30 b m), (D26 b m no v)⟩ (raw_fn b.best m.copy) ?_
 refine owe 2 ⟨(74, .ref 1 8 0 4) :: (73, (D31 b m)) :: (D30 b m), (D33 b m no v)⟩ ?_
 refine tN ?_
 refine srl 1 [4, 6, 8, 12, 14] ⟨D34, (D33 b m no v)⟩ ?_
 refine EL.seq ?_
 refine srr 6 ⟨(D35 b m v), (D33 b m no v)⟩ ?_
 refine owg [.lst 1 (v.weights.map cI), VI v.need, .v (.int .u64 ((D78 b m).n : Int))] ⟨(82, .tup [.v (.bool ((enoughP v.weights v.need (D78 b m).n).1)), VI ((enoughP v.weights v.need (D78 b m).n).2)]) :: (D35 b m v), (D33 b m no v)⟩ (enough_fn v.weights v.need (D78 b m) hx) ?_
 refine owl 5 [4, 6, 8, 12, 14, 15] ⟨(15, .v (.bool ((enoughP v.weights v.need (D78 b m).n).1))) :: D34, (D33 b m no v)⟩ ?_
 refine srl 1 [4, 6, 8, 12, 14, 85] ⟨(85, .v (.bool ((enoughP v.weights v.need (D78 b m).n).1))) :: D34, (D33 b m no v)⟩ ?_
 cases h12 : ((enoughP v.weights v.need (orU b.heard (Int.toNat m.node)).n).1)
 refine cnF ?_
 refine skn ?_
 refine srl 5 [8, 9, 10] ⟨[(10, VI 0), (9, .emp), (8, .ref 3 8 0 0)], (D58 b m no v)⟩ ?_
 refine EL.ret ?_
 refine rqa (.tup [.agg [VI b.time, VI b.phase, .v (.string b.own), .v (.string b.value), VI (((b.best.raw m.copy).at_).time), VI (((b.best.raw m.copy).at_).who), .v (.string ((b.best.raw m.copy).data)), .v (.int .u64 ((orU b.heard (Int.toNat m.node)).n : Int))], .emp, VI 0]) (Ale.tup (aR (aE 6 (aR .nil)))) ?_
 rotate_left
 refine cnT ?_
 refine EL.reg0 ?_
 refine owr 2 ⟨(D36 no v), (D33 b m no v)⟩ ?_
 cases h13 : (b.phase == 2)
 have g13 := bqF h13
 cases h14 : (((((b.best.raw m.copy).at_).time) == 0) && (((((b.best.raw m.copy).at_).who) == 0) && true))
 have g14 : ¬ ((((b.best.raw m.copy).at_).time) = 0 ∧ (((b.best.raw m.copy).at_).who) = 0) := fun ⟨q0, q1⟩ => Bool.noConfusion ((show ((((((b.best.raw m.copy).at_).time) == 0) && (((((b.best.raw m.copy).at_).who) == 0) && true))) = true by first | (simp [q0, q1, strEq_iff]; done) | (simp only [q0, q1, beq_self_eq_true, Bool.and_self, Bool.and_true, Bool.true_and]; done)).symm.trans h14)
 refine owj [.agg [.ref 1 8 0 0, VI no], (D6 v)] (.lst 6 ((toAllP v.weights.length (⟨3, no, 0, (⟨(⟨(⟨b.time, 2, b.own, (b.best.raw m.copy).data, (b.best.raw m.copy), (⟨0, by decide⟩ : U64)⟩ : Bid).time, no⟩ : Stp), (b.best.raw m.copy).data⟩ : Copy)⟩ : Vote)).map Vote.cs)) (D56 b m no v) ⟨(88, .lst 6 ((toAllP v.weights.length (⟨3, no, 0, (⟨(⟨(⟨b.time, 2, b.own, (b.best.raw m.copy).data, (b.best.raw m.copy), (⟨0, by decide⟩ : U64)⟩ : Bid).time, no⟩ : Stp), (b.best.raw m.copy).data⟩ : Copy)⟩ : Vote)).map Vote.cs)) :: (D36 no v), (D56 b m no v)⟩ (fiw F92_ok ?_) ?_
 refine srl 3 [2, 3] ⟨[(3, .ref 6 2 0 0), (2, .ref 5 2 0 0)], (D37 b m no v)⟩ ?_
 refine EL.seq ?_
 refine srl 6 [2, 3, 10] ⟨[(10, .v (.bool (b.phase == 2))), (3, .ref 6 2 0 0), (2, .ref 5 2 0 0)], (D37 b m no v)⟩ ?_
 rw [h13]
 refine cnF ?_
 refine skn ?_
 refine sdl 11 [2, 3] ⟨[(3, .ref 6 2 0 0), (2, .ref 5 2 0 0)], (D44 b m no v)⟩ ?_
 refine EL.seq ?_
 refine srl 8 [2, 3, 32] ⟨[(32, .v (.bool ((((D79 b m).time) == 0) && ((((D79 b m).who) == 0) && true)))), (3, .ref 6 2 0 0), (2, .ref 5 2 0 0)], (D44 b m no v)⟩ ?_
 rw [h14]
 refine cnF ?_
 refine skn ?_
 refine sdl 10 [2, 3] ⟨[(3, .ref 6 2 0 0), (2, .ref 5 2 0 0)], (D55 b m no v)⟩ ?_
 refine sdr 4 ⟨(D50 no v), (D55 b m no v)⟩ ?_
 refine dwg [.agg [.ref 1 8 0 0, VI no]] ⟨(54, .agg [VI ((⟨(⟨b.time, 2, b.own, (b.best.raw m.copy).data, (b.best.raw m.copy), (⟨0, by decide⟩ : U64)⟩ : Bid).time, no⟩ : Stp).time), VI ((⟨(⟨b.time, 2, b.own, (b.best.raw m.copy).data, (b.best.raw m.copy), (⟨0, by decide⟩ : U64)⟩ : Bid).time, no⟩ : Stp).who)]) :: (D50 no v), (D55 b m no v)⟩ (at_fn (⟨b.time, 2, b.own, (b.best.raw m.copy).data, (b.best.raw m.copy), (⟨0, by decide⟩ : U64)⟩ : Bid) no) ?_
 refine dwr 7 ⟨(61, .agg [VI 3, VI no, VI 0, VI ((⟨(⟨b.time, 2, b.own, (b.best.raw m.copy).data, (b.best.raw m.copy), (⟨0, by decide⟩ : U64)⟩ : Bid).time, no⟩ : Stp).time), VI ((⟨(⟨b.time, 2, b.own, (b.best.raw m.copy).data, (b.best.raw m.copy), (⟨0, by decide⟩ : U64)⟩ : Bid).time, no⟩ : Stp).who), .v (.string (D80 b m))]) :: (60, .agg [VI ((⟨(⟨b.time, 2, b.own, (b.best.raw m.copy).data, (b.best.raw m.copy), (⟨0, by decide⟩ : U64)⟩ : Bid).time, no⟩ : Stp).time), VI ((⟨(⟨b.time, 2, b.own, (b.best.raw m.copy).data, (b.best.raw m.copy), (⟨0, by decide⟩ : U64)⟩ : Bid).time, no⟩ : Stp).who), .v (.string (D80 b m))]) :: (59, .v (.string (D80 b m))) :: (58, .ref 1 8 0 3) :: (57, .ref 1 8 0 0) :: (56, .ref 1 8 0 0) :: (55, .ref 5 2 0 0) :: (54, .agg [VI ((⟨(⟨b.time, 2, b.own, (b.best.raw m.copy).data, (b.best.raw m.copy), (⟨0, by decide⟩ : U64)⟩ : Bid).time, no⟩ : Stp).time), VI ((⟨(⟨b.time, 2, b.own, (b.best.raw m.copy).data, (b.best.raw m.copy), (⟨0, by decide⟩ : U64)⟩ : Bid).time, no⟩ : Stp).who)]) :: (D50 no v), (D55 b m no v)⟩ ?_
 refine dwg [(D6 v), .agg [VI 3, VI no, VI 0, VI ((⟨(⟨b.time, 2, b.own, (b.best.raw m.copy).data, (b.best.raw m.copy), (⟨0, by decide⟩ : U64)⟩ : Bid).time, no⟩ : Stp).time), VI ((⟨(⟨b.time, 2, b.own, (b.best.raw m.copy).data, (b.best.raw m.copy), (⟨0, by decide⟩ : U64)⟩ : Bid).time, no⟩ : Stp).who), .v (.string (D80 b m))]] ⟨(62, .lst 6 ((toAllP v.weights.length (⟨3, no, 0, (⟨(⟨(⟨b.time, 2, b.own, (b.best.raw m.copy).data, (b.best.raw m.copy), (⟨0, by decide⟩ : U64)⟩ : Bid).time, no⟩ : Stp), (b.best.raw m.copy).data⟩ : Copy)⟩ : Vote)).map Vote.cs)) :: (61, .agg [VI 3, VI no, VI 0, VI ((⟨(⟨b.time, 2, b.own, (b.best.raw m.copy).data, (b.best.raw m.copy), (⟨0, by decide⟩ : U64)⟩ : Bid).time, no⟩ : Stp).time), VI ((⟨(⟨b.time, 2, b.own, (b.best.raw m.copy).data, (b.best.raw m.copy), (⟨0, by decide⟩ : U64)⟩ : Bid).time, no⟩ : Stp).who), .v (.string (D80 b m))]) :: (60, .agg [VI ((⟨(⟨b.time, 2, b.own, (b.best.raw m.copy).data, (b.best.raw m.copy), (⟨0, by decide⟩ : U64)⟩ : Bid).time, no⟩ : Stp).time), VI ((⟨(⟨b.time, 2, b.own, (b.best.raw m.copy).data, (b.best.raw m.copy), (⟨0, by decide⟩ : U64)⟩ : Bid).time, no⟩ : Stp).who), .v (.string (D80 b m))]) :: (59, .v (.string (D80 b m))) :: (58, .ref 1 8 0 3) :: (57, .ref 1 8 0 0) :: (56, .ref 1 8 0 0) :: (55, .ref 5 2 0 0) :: (54, .agg [VI ((⟨(⟨b.time, 2, b.own, (b.best.raw m.copy).data, (b.best.raw m.copy), (⟨0, by decide⟩ : U64)⟩ : Bid).time, no⟩ : Stp).time), VI ((⟨(⟨b.time, 2, b.own, (b.best.raw m.copy).data, (b.best.raw m.copy), (⟨0, by decide⟩ : U64)⟩ : Bid).time, no⟩ : Stp).who)]) :: (D50 no v), (D55 b m no v)⟩ (toAll_fn v (⟨3, no, 0, (⟨(⟨(⟨b.time, 2, b.own, (b.best.raw m.copy).data, (b.best.raw m.copy), (⟨0, by decide⟩ : U64)⟩ : Bid).time, no⟩ : Stp), (b.best.raw m.copy).data⟩ : Copy)⟩ : Vote) (by first | omega | exact bid_len (by assumption))) ?_
 refine dwl 1 [4] ⟨[(4, .lst 6 ((toAllP v.weights.length (⟨3, no, 0, (⟨(⟨(⟨b.time, 2, b.own, (b.best.raw m.copy).data, (b.best.raw m.copy), (⟨0, by decide⟩ : U64)⟩ : Bid).time, no⟩ : Stp), (b.best.raw m.copy).data⟩ : Copy)⟩ : Vote)).map Vote.cs))], (D55 b m no v)⟩ ?_
 refine EL.ret ?_
 exact fne [4] [uf 0, uf 1, uf 2, uf 3, uf 4] ⟨[(4, .lst 6 ((toAllP v.weights.length (⟨3, no, 0, (⟨(⟨(⟨b.time, 2, b.own, (b.best.raw m.copy).data, (b.best.raw m.copy), (⟨0, by decide⟩ : U64)⟩ : Bid).time, no⟩ : Stp), (b.best.raw m.copy).data⟩ : Copy)⟩ : Vote)).map Vote.cs))], (D56 b m no v)⟩ trivial
 refine owe 1 ⟨(14, .lst 6 ((toAllP v.weights.length (⟨3, no, 0, (⟨(⟨(⟨b.time, 2, b.own, (b.best.raw m.copy).data, (b.best.raw m.copy), (⟨0, by decide⟩ : U64)⟩ : Bid).time, no⟩ : Stp), (b.best.raw m.copy).data⟩ : Copy)⟩ : Vote)).map Vote.cs)) :: (88, .lst 6 ((toAllP v.weights.length (⟨3, no, 0, (⟨(⟨(⟨b.time, 2, b.own, (b.best.raw m.copy).data, (b.best.raw m.copy), (⟨0, by decide⟩ : U64)⟩ : Bid).time, no⟩ : Stp), (b.best.raw m.copy).data⟩ : Copy)⟩ : Vote)).map Vote.cs)) :: (D52 no v), (D56 b m no v)⟩ ?_
 refine tN ?_
 refine srl 5 [8, 9, 10] ⟨[(10, VI 0), (9, .lst 6 ((toAllP v.weights.length (⟨3, no, 0, (⟨(⟨(⟨b.time, 2, b.own, (b.best.raw m.copy).data, (b.best.raw m.copy), (⟨0, by decide⟩ : U64)⟩ : Bid).time, no⟩ : Stp), (b.best.raw m.copy).data⟩ : Copy)⟩ : Vote)).map Vote.cs)), (8, .ref 3 8 0 0)], (D57 b m no v)⟩ ?_
 refine EL.ret ?_
 refine rqe (.tup [.agg [VI b.time, VI 2, .v (.string b.own), .v (.string ((b.best.raw m.copy).data)), VI (((b.best.raw m.copy).at_).time), VI (((b.best.raw m.copy).at_).who), .v (.string ((b.best.raw m.copy).data)), .v (.int .u64 0)], .lst 6 ((toAllP v.weights.length (⟨3, no, 0, (⟨(⟨(⟨b.time, 2, b.own, (b.best.raw m.copy).data, (b.best.raw m.copy), (⟨0, by decide⟩ : U64)⟩ : Bid).time, no⟩ : Stp), (b.best.raw m.copy).data⟩ : Copy)⟩ : Vote)).map Vote.cs), VI 0]) ?_
 rotate_left
 have g14 : (((b.best.raw m.copy).at_).time) = 0 ∧ (((b.best.raw m.copy).at_).who) = 0 := by simpa [strEq_iff] using h14
 refine owj [.agg [.ref 1 8 0 0, VI no], (D6 v)] (.lst 6 ((toAllP v.weights.length (⟨3, no, 0, (⟨(⟨(⟨b.time, 2, b.own, b.own, (b.best.raw m.copy), (⟨0, by decide⟩ : U64)⟩ : Bid).time, no⟩ : Stp), b.own⟩ : Copy)⟩ : Vote)).map Vote.cs)) (D51 b m no v) ⟨(88, .lst 6 ((toAllP v.weights.length (⟨3, no, 0, (⟨(⟨(⟨b.time, 2, b.own, b.own, (b.best.raw m.copy), (⟨0, by decide⟩ : U64)⟩ : Bid).time, no⟩ : Stp), b.own⟩ : Copy)⟩ : Vote)).map Vote.cs)) :: (D36 no v), (D51 b m no v)⟩ (fiw F92_ok ?_) ?_
 refine srl 3 [2, 3] ⟨[(3, .ref 6 2 0 0), (2, .ref 5 2 0 0)], (D37 b m no v)⟩ ?_
 refine EL.seq ?_
 refine srl 6 [2, 3, 10] ⟨[(10, .v (.bool (b.phase == 2))), (3, .ref 6 2 0 0), (2, .ref 5 2 0 0)], (D37 b m no v)⟩ ?_
 rw [h13]
 refine cnF ?_
 refine skn ?_
 refine sdl 11 [2, 3] ⟨[(3, .ref 6 2 0 0), (2, .ref 5 2 0 0)], (D44 b m no v)⟩ ?_
 refine EL.seq ?_
 refine srl 8 [2, 3, 32] ⟨[(32, .v (.bool ((((D79 b m).time) == 0) && ((((D79 b m).who) == 0) && true)))), (3, .ref 6 2 0 0), (2, .ref 5 2 0 0)], (D44 b m no v)⟩ ?_
 rw [h14]
 refine cnT ?_
 refine EL.draw0 ?_
 refine dwe 10 ⟨(D47 b), (D46 b m no v)⟩ ?_
 refine tN ?_
 refine sdl 10 [2, 3] ⟨[(3, .ref 6 2 0 0), (2, .ref 5 2 0 0)], (D49 b m no v)⟩ ?_
 refine sdr 4 ⟨(D50 no v), (D49 b m no v)⟩ ?_
 refine dwg [.agg [.ref 1 8 0 0, VI no]] ⟨(54, .agg [VI ((⟨(⟨b.time, 2, b.own, b.own, (b.best.raw m.copy), (⟨0, by decide⟩ : U64)⟩ : Bid).time, no⟩ : Stp).time), VI ((⟨(⟨b.time, 2, b.own, b.own, (b.best.raw m.copy), (⟨0, by decide⟩ : U64)⟩ : Bid).time, no⟩ : Stp).who)]) :: (D50 no v), (D49 b m no v)⟩ (at_fn (⟨b.time, 2, b.own, b.own, (b.best.raw m.copy), (⟨0, by decide⟩ : U64)⟩ : Bid) no) ?_
 refine dwr 7 ⟨(61, .agg [VI 3, VI no, VI 0, VI ((⟨(⟨b.time, 2, b.own, b.own, (b.best.raw m.copy), (⟨0, by decide⟩ : U64)⟩ : Bid).time, no⟩ : Stp).time), VI ((⟨(⟨b.time, 2, b.own, b.own, (b.best.raw m.copy), (⟨0, by decide⟩ : U64)⟩ : Bid).time, no⟩ : Stp).who), .v (.string b.own)]) :: (60, .agg [VI ((⟨(⟨b.time, 2, b.own, b.own, (b.best.raw m.copy), (⟨0, by decide⟩ : U64)⟩ : Bid).time, no⟩ : Stp).time), VI ((⟨(⟨b.time, 2, b.own, b.own, (b.best.raw m.copy), (⟨0, by decide⟩ : U64)⟩ : Bid).time, no⟩ : Stp).who), .v (.string b.own)]) :: (59, .v (.string b.own)) :: (58, .ref 1 8 0 3) :: (57, .ref 1 8 0 0) :: (56, .ref 1 8 0 0) :: (55, .ref 5 2 0 0) :: (54, .agg [VI ((⟨(⟨b.time, 2, b.own, b.own, (b.best.raw m.copy), (⟨0, by decide⟩ : U64)⟩ : Bid).time, no⟩ : Stp).time), VI ((⟨(⟨b.time, 2, b.own, b.own, (b.best.raw m.copy), (⟨0, by decide⟩ : U64)⟩ : Bid).time, no⟩ : Stp).who)]) :: (D50 no v), (D49 b m no v)⟩ ?_
 refine dwg [(D6 v), .agg [VI 3, VI no, VI 0, VI ((⟨(⟨b.time, 2, b.own, b.own, (b.best.raw m.copy), (⟨0, by decide⟩ : U64)⟩ : Bid).time, no⟩ : Stp).time), VI ((⟨(⟨b.time, 2, b.own, b.own, (b.best.raw m.copy), (⟨0, by decide⟩ : U64)⟩ : Bid).time, no⟩ : Stp).who), .v (.string b.own)]] ⟨(62, .lst 6 ((toAllP v.weights.length (⟨3, no, 0, (⟨(⟨(⟨b.time, 2, b.own, b.own, (b.best.raw m.copy), (⟨0, by decide⟩ : U64)⟩ : Bid).time, no⟩ : Stp), b.own⟩ : Copy)⟩ : Vote)).map Vote.cs)) :: (61, .agg [VI 3, VI no, VI 0, VI ((⟨(⟨b.time, 2, b.own, b.own, (b.best.raw m.copy), (⟨0, by decide⟩ : U64)⟩ : Bid).time, no⟩ : Stp).time), VI ((⟨(⟨b.time, 2, b.own, b.own, (b.best.raw m.copy), (⟨0, by decide⟩ : U64)⟩ : Bid).time, no⟩ : Stp).who), .v (.string b.own)]) :: (60, .agg [VI ((⟨(⟨b.time, 2, b.own, b.own, (b.best.raw m.copy), (⟨0, by decide⟩ : U64)⟩ : Bid).time, no⟩ : Stp).time), VI ((⟨(⟨b.time, 2, b.own, b.own, (b.best.raw m.copy), (⟨0, by decide⟩ : U64)⟩ : Bid).time, no⟩ : Stp).who), .v (.string b.own)]) :: (59, .v (.string b.own)) :: (58, .ref 1 8 0 3) :: (57, .ref 1 8 0 0) :: (56, .ref 1 8 0 0) :: (55, .ref 5 2 0 0) :: (54, .agg [VI ((⟨(⟨b.time, 2, b.own, b.own, (b.best.raw m.copy), (⟨0, by decide⟩ : U64)⟩ : Bid).time, no⟩ : Stp).time), VI ((⟨(⟨b.time, 2, b.own, b.own, (b.best.raw m.copy), (⟨0, by decide⟩ : U64)⟩ : Bid).time, no⟩ : Stp).who)]) :: (D50 no v), (D49 b m no v)⟩ (toAll_fn v (⟨3, no, 0, (⟨(⟨(⟨b.time, 2, b.own, b.own, (b.best.raw m.copy), (⟨0, by decide⟩ : U64)⟩ : Bid).time, no⟩ : Stp), b.own⟩ : Copy)⟩ : Vote) (by first | omega | exact bid_len (by assumption))) ?_
 refine dwl 1 [4] ⟨[(4, .lst 6 ((toAllP v.weights.length (⟨3, no, 0, (⟨(⟨(⟨b.time, 2, b.own, b.own, (b.best.raw m.copy), (⟨0, by decide⟩ : U64)⟩ : Bid).time, no⟩ : Stp), b.own⟩ : Copy)⟩ : Vote)).map Vote.cs))], (D49 b m no v)⟩ ?_
 refine EL.ret ?_
 exact fne [4] [uf 0, uf 1, uf 2, uf 3, uf 4] ⟨[(4, .lst 6 ((toAllP v.weights.length (⟨3, no, 0, (⟨(⟨(⟨b.time, 2, b.own, b.own, (b.best.raw m.copy), (⟨0, by decide⟩ : U64)⟩ : Bid).time, no⟩ : Stp), b.own⟩ : Copy)⟩ : Vote)).map Vote.cs))], (D51 b m no v)⟩ trivial
 refine owe 1 ⟨(14, .lst 6 ((toAllP v.weights.length (⟨3, no, 0, (⟨(⟨(⟨b.time, 2, b.own, b.own, (b.best.raw m.copy), (⟨0, by decide⟩ : U64)⟩ : Bid).time, no⟩ : Stp), b.own⟩ : Copy)⟩ : Vote)).map Vote.cs)) :: (88, .lst 6 ((toAllP v.weights.length (⟨3, no, 0, (⟨(⟨(⟨b.time, 2, b.own, b.own, (b.best.raw m.copy), (⟨0, by decide⟩ : U64)⟩ : Bid).time, no⟩ : Stp), b.own⟩ : Copy)⟩ : Vote)).map Vote.cs)) :: (D52 no v), (D51 b m no v)⟩ ?_
 refine tN ?_
 refine srl 5 [8, 9, 10] ⟨[(10, VI 0), (9, .lst 6 ((toAllP v.weights.length (⟨3, no, 0, (⟨(⟨(⟨b.time, 2, b.own, b.own, (b.best.raw m.copy), (⟨0, by decide⟩ : U64)⟩ : Bid).time, no⟩ : Stp), b.own⟩ : Copy)⟩ : Vote)).map Vote.cs)), (8, .ref 3 8 0 0)], (D53 b m no v)⟩ ?_
 refine EL.ret ?_
 refine rqe (.tup [.agg [VI b.time, VI 2, .v (.string b.own), .v (.string b.own), VI (((b.best.raw m.copy).at_).time), VI (((b.best.raw m.copy).at_).who), .v (.string ((b.best.raw m.copy).data)), .v (.int .u64 0)], .lst 6 ((toAllP v.weights.length (⟨3, no, 0, (⟨(⟨(⟨b.time, 2, b.own, b.own, (b.best.raw m.copy), (⟨0, by decide⟩ : U64)⟩ : Bid).time, no⟩ : Stp), b.own⟩ : Copy)⟩ : Vote)).map Vote.cs), VI 0]) ?_
 rotate_left
 have g13 := bqT h13
 refine owj [.agg [.ref 1 8 0 0, VI no], (D6 v)] (.emp) (D40 b m no v) ⟨(88, .emp) :: (D36 no v), (D40 b m no v)⟩ (fiw F92_ok ?_) ?_
 refine srl 3 [2, 3] ⟨[(3, .ref 6 2 0 0), (2, .ref 5 2 0 0)], (D37 b m no v)⟩ ?_
 refine EL.seq ?_
 refine srl 6 [2, 3, 10] ⟨[(10, .v (.bool (b.phase == 2))), (3, .ref 6 2 0 0), (2, .ref 5 2 0 0)], (D37 b m no v)⟩ ?_
 rw [h13]
 refine cnT ?_
 refine srl 5 [] ⟨[], (D39 b m no v)⟩ ?_
 refine srl 1 [4] ⟨[(4, .emp)], (D39 b m no v)⟩ ?_
 refine rtr ?_
 exact fne [4] [uf 0, uf 1, uf 2, uf 3, uf 4] ⟨[(4, .emp)], (D40 b m no v)⟩ trivial
 refine owe 1 ⟨(D41 no v), (D40 b m no v)⟩ ?_
 refine tN ?_
 refine srl 5 [8, 9, 10] ⟨[(10, VI 0), (9, .emp), (8, .ref 3 8 0 0)], (D42 b m no v)⟩ ?_
 refine EL.ret ?_
 refine rqa (.tup [.agg [VI b.time, VI 3, .v (.string b.own), .v (.string b.value), VI (((b.best.raw m.copy).at_).time), VI (((b.best.raw m.copy).at_).who), .v (.string ((b.best.raw m.copy).data)), .v (.int .u64 ((orU b.heard (Int.toNat m.node)).n : Int))], .emp, VI 0]) (Ale.tup (aR (aE 6 (aR .nil)))) ?_
 rotate_left
 have g9 := bnT h9
 refine cnT ?_
 refine srl 4 [8, 9, 10] ⟨[(10, VI 0), (9, .emp), (8, .ref 3 8 0 0)], (D19 b m no v)⟩ ?_
 refine rtr ?_
 refine rqa (.tup [.agg [VI b.time, VI b.phase, .v (.string b.own), .v (.string b.value), VI b.best.at_.time, VI b.best.at_.who, .v (.string b.best.data), .v (.int .u64 (b.heard.n : Int))], .emp, VI 0]) (Ale.tup (aR (aE 6 (aR .nil)))) ?_
 rotate_left
 have g7 := of_decide_eq_true h7
 refine owl 6 [4, 6, 7, 8, 12, 13, 59] ⟨(D18 m), (D14 b m no v)⟩ ?_
 refine cnT ?_
 refine srl 4 [8, 9, 10] ⟨[(10, VI 0), (9, .emp), (8, .ref 3 8 0 0)], (D19 b m no v)⟩ ?_
 refine rtr ?_
 refine rqa (.tup [.agg [VI b.time, VI b.phase, .v (.string b.own), .v (.string b.value), VI b.best.at_.time, VI b.best.at_.who, .v (.string b.best.data), .v (.int .u64 (b.heard.n : Int))], .emp, VI 0]) (Ale.tup (aR (aE 6 (aR .nil)))) ?_
 rotate_left
 have g5 := bnT h5
 refine owl 20 [4, 6, 7, 8, 12, 13, 59] ⟨(D18 m), (D14 b m no v)⟩ ?_
 refine cnT ?_
 refine srl 4 [8, 9, 10] ⟨[(10, VI 0), (9, .emp), (8, .ref 3 8 0 0)], (D19 b m no v)⟩ ?_
 refine rtr ?_
 refine rqa (.tup [.agg [VI b.time, VI b.phase, .v (.string b.own), .v (.string b.value), VI b.best.at_.time, VI b.best.at_.who, .v (.string b.best.data), .v (.int .u64 (b.heard.n : Int))], .emp, VI 0]) (Ale.tup (aR (aE 6 (aR .nil)))) ?_
 rotate_left
 have g3 := bnT h3
 refine cnT ?_
 refine srl 5 [8, 9, 10] ⟨(D12 m), [(D0 v), (D1 b), (D2 m), D3]⟩ ?_
 refine rtr ?_
 refine rqa (.tup [.agg [VI 0, VI 0, .v (.string (⟨#[]⟩)), .v (.string (⟨#[]⟩)), VI 0, VI 0, .v (.string (⟨#[]⟩)), .v (.int .u64 0)], .emp, VI m.checkE]) (Ale.tup (aR (aE 6 (aR .nil)))) ?_
 rotate_left
 all_goals (first | (rw [hear_go (by omega) (by assumption) (by assumption) (by assumption) (by assumption) (by omega) (by assumption)]; first | (simp [heardP, onP, *]; done) | (simp_all [heardP, onP]; done)) | rfl | (simp [hearP, heardP, onP, Bid.zero, *]; done) | (simp_all [hearP, heardP, onP, Bid.zero]; done) | (simp only [hearP]; (repeat' split) <;> first | rfl | (exfalso; omega) | contradiction | (simp_all [heardP, onP]; done)))
abbrev Z0 : OB := some ⟨2, [[.own 1 1 0 3, VI 2]]⟩
abbrev Z1 : OB := some ⟨1, [[VI 1], [VI 1], [VI 1]]⟩
abbrev Z2 : AV := .agg [.lst 1 [[VI 1], [VI 1], [VI 1]], VI 2]
theorem three_fn : Fn Tryd.prog 34 [] (.agg [.lst 1 (((⟨[1, 1, 1], 2⟩ : Vtr).weights).map cI), VI ((⟨[1, 1, 1], 2⟩ : Vtr).need)]) := by
 refine fnw F34_ok ?_
 refine srl 1 [0] ⟨[(0, .ref 0 2 0 0)], [some ⟨2, [[.emp, VI 0]]⟩]⟩ ?_
 refine srl 3 [0] ⟨[(0, .ref 0 2 0 0)], [Z0, Z1]⟩ ?_
 refine EL.ret ?_
 refine rqe Z2 ?_
 focus (rfl)
theorem shr_n {n : Nat} {d : Int} (h : 0 ≤ d ∧ n < 18446744073709551616) : ((n : Int)).fdiv (2 ^ (min (Int.toNat d) IntKind.u64.bits)) = ((n / 2 ^ Int.toNat d : Nat) : Int) := by
  have hb : IntKind.u64.bits = 64 := rfl
  rw [hb, Int.fdiv_eq_ediv_of_nonneg _ (Int.le_of_lt (Int.pow_pos (by decide)))]
  by_cases h2 : Int.toNat d ≤ 64
  · rw [Nat.min_eq_left h2, show ((2 : Int) ^ (Int.toNat d)) = ((2 ^ (Int.toNat d) : Nat) : Int) by push_cast; rfl]; rfl
  · have hp : 2 ^ 64 ≤ 2 ^ Int.toNat d := Nat.pow_le_pow_right (by decide) (by omega)
    rw [Nat.min_eq_right (by omega), Nat.div_eq_of_lt (Nat.lt_of_lt_of_le h.2 (by simpa using hp))]
    show (n : Int) / 18446744073709551616 = 0
    omega
def inS (x k : Nat) : Bool := x / 2 ^ k % 2 == 1
theorem inS_b {x k : Nat} : ((((x / 2 ^ k : Nat) : Int) % 2 == 1) : Bool) = inS x k := by
  unfold inS; generalize x / 2 ^ k = q
  rw [Bool.eq_iff_iff]; simp; omega
def shN (x k : Nat) : Nat := x / 2 ^ k
theorem shN_0 {x : Nat} : shN x 0 = x := by simp [shN]
theorem bsum_step {w : Int} {r : List Int} {x k : Nat} : bsum (w :: r) (shN x k) = (if inS x k = true then w else 0) + bsum r (shN x (k + 1)) := by
  unfold shN inS
  rw [bsum, Nat.pow_succ, Nat.div_div_eq_div_mul]
  simp
theorem bsum_at {ws : List Int} {x k : Nat} (h : k < ws.length) : bsum (ws.drop k) (shN x k) = (if inS x k = true then (ws[k]?).getD 0 else 0) + bsum (ws.drop (k + 1)) (shN x (k + 1)) := by
  rw [List.drop_eq_getElem_cons h, bsum_step]; simp [h]
theorem or_two (a b i : Nat) (hi : i < 2) : (2 * a + i) ||| (2 * b) = 2 * (a ||| b) + i := by
  apply Nat.eq_of_testBit_eq
  intro j
  cases j with
  | zero =>
    rw [Nat.testBit_or, Nat.testBit_zero, Nat.testBit_zero, Nat.testBit_zero]
    rw [Bool.eq_iff_iff]; simp
  | succ j =>
    rw [Nat.testBit_or, Nat.testBit_succ, Nat.testBit_succ, Nat.testBit_succ, show (2 * a + i) / 2 = a by omega, show 2 * b / 2 = b by omega, show (2 * (a ||| b) + i) / 2 = (a ||| b) by omega, Nat.testBit_or]
theorem or_bit : ∀ (k x : Nat), x / 2 ^ k % 2 = 0 → x ||| 2 ^ k = x + 2 ^ k
  | 0, x, h => by
    have e : x = 2 * (x / 2) := by simp at h; omega
    apply Nat.eq_of_testBit_eq
    intro j
    cases j with
    | zero => rw [Nat.testBit_or, Nat.testBit_zero, Nat.testBit_zero, Nat.testBit_zero, Bool.eq_iff_iff]; simp at h ⊢; omega
    | succ j => rw [Nat.testBit_or, Nat.testBit_succ, Nat.testBit_succ, Nat.testBit_succ, show (x + 2 ^ 0) / 2 = x / 2 by simp; omega]; simp
  | k + 1, x, h => by
    have hp : 2 ^ (k + 1) = 2 * 2 ^ k := by rw [Nat.pow_succ]; omega
    have ih := or_bit k (x / 2) (by rw [Nat.div_div_eq_div_mul, Nat.mul_comm, ← Nat.pow_succ]; exact h)
    have e : x = 2 * (x / 2) + x % 2 := by omega
    rw [hp]
    conv => lhs; lhs; rw [e]
    rw [or_two _ _ _ (by omega), ih]; omega
theorem addU {x : U64} {k : Nat} (h : k < 64 ∧ inS x.n k = false) : IntKind.u64.wrap ((x.n : Int) + ((2 ^ k : Nat) : Int)) = ((orU x k).n : Int) := by
  have hb : x.n / 2 ^ k % 2 = 0 := by have := h.2; unfold inS at this; simp at this; omega
  have e := or_bit k x.n hb
  have hl : x.n ||| 2 ^ k < 18446744073709551616 := by
    have := Nat.or_lt_two_pow (n := 64) (by simpa using x.lt) (by simpa using pow_lt64 h.1); simpa using this
  show _ = (((x.n ||| 2 ^ k) % 18446744073709551616 : Nat) : Int)
  rw [Nat.mod_eq_of_lt hl, e, IntKind.wrap_u64]
  rw [e] at hl
  generalize (2 : Nat) ^ k = p at *
  omega
theorem and_bit' : ∀ (k x : Nat), x &&& 2 ^ k = 0 ↔ x / 2 ^ k % 2 = 0
  | 0, x => by simp
  | k + 1, x => by
    have hp : 2 ^ (k + 1) = 2 * 2 ^ k + 0 := by rw [Nat.pow_succ]; omega
    have e : x = 2 * (x / 2) + x % 2 := by omega
    have ih := and_bit' k (x / 2)
    rw [Nat.div_div_eq_div_mul, Nat.mul_comm 2, ← Nat.pow_succ] at ih
    rw [← ih, hp]
    conv => lhs; lhs; lhs; rw [e]
    rw [land_two _ _ _ _ (by omega) (by omega)]; simp; omega
theorem and_bit {x : U64} {k : Nat} : (andU x k).n = 0 ↔ inS x.n k = false := by
  have hl : x.n &&& 2 ^ k < 18446744073709551616 := Nat.lt_of_le_of_lt Nat.and_le_left x.lt
  show (x.n &&& 2 ^ k) % 18446744073709551616 = 0 ↔ _
  rw [Nat.mod_eq_of_lt hl, and_bit']
  unfold inS; simp
theorem or_sub {x : U64} {k n : Nat} (hx : x.n < 2 ^ n) (hk : k < n) (hn : n ≤ 12) : (orU x k).n < 2 ^ n := by
  have hl : x.n ||| 2 ^ k < 2 ^ n := Nat.or_lt_two_pow hx (Nat.pow_lt_pow_right (by decide) hk)
  show (x.n ||| 2 ^ k) % 18446744073709551616 < 2 ^ n
  exact Nat.lt_of_le_of_lt (Nat.mod_le _ _) hl
theorem qc_nodes {ws : List Int} {need : Int} (h : qcheckP ws need = 0) : (nodesP ws).2 = 0 := by
  unfold qcheckP at h
  by_cases hn : (nodesP ws).2 = 0
  · exact hn
  · rw [if_pos hn] at h; exact absurd h hn
theorem qc_len {ws : List Int} {need : Int} (h : qcheckP ws need = 0) : ws.length ≤ 12 := (nodes_bd (qc_nodes h)).2.2.2.1
section
variable (k : Int) (x : U64)
abbrev G0 : LS := [(6, VI k), (5, .v (.int .u64 (x.n : Int))), (0, .v (.int .u64 (x.n : Int))), (1, VI k)]
abbrev G1 : LS := (7, .v (.int .u64 ((x.n / 2 ^ Int.toNat k : Nat) : Int))) :: (G0 k x)
end
theorem inset_fn (x : U64) (k : Int) (hk0 : 0 ≤ k) : Fn Tryd.prog 58 [.v (.int .u64 (x.n : Int)), VI k] (.v (.bool (inS x.n (Int.toNat k)))) := by
 refine fnw F58_ok ?_
 refine srl 1 [0, 1] ⟨[(0, .v (.int .u64 (x.n : Int))), (1, VI k)], []⟩ ?_
 refine srr 2 ⟨(G0 k x), []⟩ ?_
 refine ow2 ⟨(7, .v (.int .u64 (((x.n : Int)).fdiv (2 ^ (min (Int.toNat k) IntKind.u64.bits))))) :: (G0 k x), []⟩ (opE_shr (.s 5) (.s 6) .u64 .i64 (x.n : Int) k (by kernel_rfl) (by kernel_rfl) (by kernel_rfl) (by kernel_rfl) (by omega)) ?_
 have e1 : ((x.n : Int)).fdiv (2 ^ (min (Int.toNat k) IntKind.u64.bits)) = ((x.n / 2 ^ Int.toNat k : Nat) : Int) := shr_n (by exact ⟨hk0, x.lt⟩)
 rw [e1]
 refine owr 3 ⟨(4, .v (.bool (((((x.n / 2 ^ Int.toNat k : Nat) : Int)).tmod 2) == 1))) :: (9, .v (.bool (((((x.n / 2 ^ Int.toNat k : Nat) : Int)).tmod 2) == 1))) :: (8, .v (.int .u64 ((((x.n / 2 ^ Int.toNat k : Nat) : Int)).tmod 2))) :: (G1 k x), []⟩ ?_
 have e2 : (((x.n / 2 ^ Int.toNat k : Nat) : Int)).tmod 2 = ((x.n / 2 ^ Int.toNat k : Nat) : Int) % 2 := rem64 (by generalize x.n / 2 ^ Int.toNat k = q; omega)
 rw [e2]
 refine owl 0 [4] ⟨[(4, .v (.bool ((((x.n / 2 ^ Int.toNat k : Nat) : Int) % 2) == 1)))], []⟩ ?_
 refine EL.ret ?_
 refine rqe (.v (.bool ((((x.n / 2 ^ Int.toNat k : Nat) : Int) % 2) == 1))) ?_
 focus (exact congrArg (fun b => AV.v (Value.bool b)) inS_b)
section
variable (a : Int) (a6 : Int) (k : Nat) (ws : List Int)
abbrev G2 : LS := [(7, VI (List.length ws : Int)), (6, .lst 1 (ws.map cI)), (0, .lst 1 (ws.map cI))]
abbrev G3 : LS := [(9, .lst 1 (ws.map cI)), (8, .v (.bool false)), (0, .lst 1 (ws.map cI))]
abbrev G4 : LS := [(5, VI 0), (4, VI 0), (0, .lst 1 (ws.map cI))]
abbrev G5 : LS := [(0, .lst 1 (ws.map cI)), (4, VI a), (5, VI (k : Int))]
abbrev G6 : LS := (13, .lst 1 (ws.map cI)) :: (12, VI (k : Int)) :: (G5 a k ws)
abbrev G7 : LS := (19, VI (k : Int)) :: (18, .lst 1 (ws.map cI)) :: (15, .v (.bool true)) :: (G5 a k ws)
abbrev G8 : LS := (25, VI (k : Int)) :: (24, .lst 1 (ws.map cI)) :: (23, .v (.bool false)) :: (22, .v (.bool false)) :: (21, VI a6) :: (20, .pim [VI a6] 0) :: (G7 a k ws)
abbrev G9 : LS := (32, VI (k : Int)) :: (31, .lst 1 (ws.map cI)) :: (30, VI a) :: (29, .v (.bool false)) :: (G5 a k ws)
abbrev G10 : LS := [(34, VI a6), (33, .pim [VI a6] 0), (32, VI (k : Int)), (31, .lst 1 (ws.map cI)), (30, VI a), (29, .v (.bool false)), (0, .lst 1 (ws.map cI)), (5, VI (k : Int))]
abbrev G11 : LS := [(16, VI (k : Int)), (4, VI (a + a6)), (35, VI (a + a6)), (34, VI a6), (33, .pim [VI a6] 0), (32, VI (k : Int)), (31, .lst 1 (ws.map cI)), (30, VI a), (29, .v (.bool false)), (0, .lst 1 (ws.map cI))]
abbrev G12 : LS := (5, VI ((k : Int) + 1)) :: (17, VI ((k : Int) + 1)) :: (G11 a a6 k ws)
end
theorem weights_fn (ws : List Int) (hx : ws.length ≤ 9223372036854775807) : Fn Tryd.prog 55 [.lst 1 (ws.map cI)] (.tup [VI ((nodesP ws).1), VI ((nodesP ws).2)]) := by
 refine fnw F55_ok ?_
 refine srl 2 [0] ⟨[(0, .lst 1 (ws.map cI))], []⟩ ?_
 refine EL.seq ?_
 refine srr 1 ⟨[(6, .lst 1 (ws.map cI)), (0, .lst 1 (ws.map cI))], []⟩ ?_
 refine ow2 ⟨(G2 ws), []⟩ (oln cI ws (.s 6) 1) ?_
 refine owl 1 [0, 8] ⟨[(8, .v (.bool ((List.length ws : Int) == 0))), (0, .lst 1 (ws.map cI))], []⟩ ?_
 cases h1 : ((List.length ws : Int) == 0)
 have g1 := bqF h1
 have n1 : ¬ ((List.length ws) = 0) := by omega
 refine cnF ?_
 refine skn ?_
 refine EL.seq ?_
 refine srr 1 ⟨(G3 ws), []⟩ ?_
 refine ow2 ⟨(10, VI (List.length ws : Int)) :: (G3 ws), []⟩ (oln cI ws (.s 9) 1) ?_
 refine owl 1 [0, 11] ⟨[(11, .v (.bool (decide ((List.length ws : Int) > 12)))), (0, .lst 1 (ws.map cI))], []⟩ ?_
 cases h2 : (decide ((List.length ws : Int) > 12))
 have g2 := of_decide_eq_false h2
 have n2 : ¬ ((List.length ws) > 12) := by omega
 refine cnF ?_
 refine skn ?_
 refine srl 1 [0, 4] ⟨[(4, VI 0), (0, .lst 1 (ws.map cI))], []⟩ ?_
 refine EL.seq ?_
 refine srl 1 [0, 4, 5] ⟨(G4 ws), []⟩ ?_
 refine EL.block ?_
 refine EL.loopN (fun mM xX => ∃ (k : Nat) (a : Int), mM = ws.length - k ∧ (k ≤ ws.length ∧ 1 ≤ ws.length ∧ ws.length ≤ 12 ∧ 0 ≤ a ∧ a ≤ 100 * k ∧ nodesGo ws 0 = nodesGo (ws.drop k) a) ∧ xX = ⟨(G5 a k ws), []⟩) (y := (fun (k : Nat) (a : Int) => (⟨(G5 a k ws), []⟩ : L3)) 0 0) [0, 4, 5] [] [] (by kernel_rfl) trivial ⟨0, 0, rfl, by simp; omega, rfl⟩ ?_
 rintro _ _ ⟨k, a, rfl, hI3, rfl⟩
 obtain ⟨hk, hl1, hl2, ha0, ha1, hs⟩ := hI3
 refine EL.seq ?_
 refine srr 2 ⟨(G6 a k ws), []⟩ ?_
 refine ow2 ⟨(14, VI (List.length ws : Int)) :: (G6 a k ws), []⟩ (oln cI ws (.s 13) 1) ?_
 refine owl 1 [0, 4, 5, 15] ⟨(15, .v (.bool (decide ((k : Int) < (List.length ws : Int))))) :: (G5 a k ws), []⟩ ?_
 cases h4 : (decide ((k : Int) < (List.length ws : Int)))
 have g4 := of_decide_eq_false h4
 have n4 : ¬ ((k) < (List.length ws)) := by omega
 refine cnF ?_
 refine EL.exit ?_
 refine tX ?_
 refine tX ?_
 refine iH ?_
 refine tN ?_
 refine srl 3 [2, 3] ⟨[(3, VI 0), (2, VI a)], []⟩ ?_
 refine EL.ret ?_
 refine rqe (.tup [VI a, VI 0]) ?_
 rotate_left
 have g4 := of_decide_eq_true h4
 have n4 : ((k) < (List.length ws)) := by omega
 refine cnT ?_
 refine skn ?_
 refine EL.seq ?_
 refine EL.block ?_
 refine EL.seq ?_
 refine srr 2 ⟨(G7 a k ws), []⟩ ?_
 obtain ⟨a6, ha6⟩ : ∃ y, ws[((k : Int) : Int).toNat]? = some y := idx_ex ⟨by omega, by omega⟩
 have iha6 : ws[k]? = some a6 := by simpa using ha6
 have dha6 := drop_get iha6
 refine ow2 ⟨(20, .pim [VI a6] 0) :: (G7 a k ws), []⟩ (oid cI ws (.s 18) (.s 19) 1 .i64 (k : Int) a6 (by omega) ha6) ?_
 refine owr 3 ⟨(23, .v (.bool (decide (a6 < 0)))) :: (22, .v (.bool (decide (a6 < 0)))) :: (21, VI a6) :: (20, .pim [VI a6] 0) :: (G7 a k ws), []⟩ ?_
 cases h7 : (decide (a6 < 0))
 have g7 := of_decide_eq_false h7
 refine owr 2 ⟨(G8 a a6 k ws), []⟩ ?_
 refine ow2 ⟨(26, .pim [VI a6] 0) :: (G8 a a6 k ws), []⟩ (oid cI ws (.s 24) (.s 25) 1 .i64 (k : Int) a6 (by omega) ha6) ?_
 refine owl 3 [0, 4, 5, 29] ⟨(29, .v (.bool (decide (a6 > 100)))) :: (G5 a k ws), []⟩ ?_
 cases h8 : (decide (a6 > 100))
 have g8 := of_decide_eq_false h8
 refine cnF ?_
 refine skn ?_
 refine EL.reg0 ?_
 refine owr 3 ⟨(G9 a k ws), []⟩ ?_
 refine ow2 ⟨(33, .pim [VI a6] 0) :: (G9 a k ws), []⟩ (oid cI ws (.s 31) (.s 32) 1 .i64 (k : Int) a6 (by omega) ha6) ?_
 refine owr 3 ⟨(4, VI (IntKind.i64.wrap (a + a6))) :: (35, VI (IntKind.i64.wrap (a + a6))) :: (G10 a a6 k ws), []⟩ ?_
 have e9 := wr64 (n := a + a6) (by omega)
 rw [e9]
 refine owe 0 ⟨(4, VI (a + a6)) :: (35, VI (a + a6)) :: (G10 a a6 k ws), []⟩ ?_
 refine iN ?_
 refine tN ?_
 refine EL.reg0 ?_
 refine owr 3 ⟨(5, VI (IntKind.i64.wrap ((k : Int) + 1))) :: (17, VI (IntKind.i64.wrap ((k : Int) + 1))) :: (G11 a a6 k ws), []⟩ ?_
 have e10 := wr64 (n := (k : Int) + 1) (by omega)
 rw [e10]
 refine owe 0 ⟨(G12 a a6 k ws), []⟩ ?_
 refine tN ?_
 refine rE (live := [0, 4, 5]) (src := []) (es := []) (y := (fun (k : Nat) (a : Int) => (⟨(G5 a k ws), []⟩ : L3)) (k + 1) (a + a6)) ?_ trivial ?_ ⟨(k + 1), (a + a6), rfl, ?_, rfl⟩
 kernel_rfl
 omega
 focus (refine ⟨by omega, hl1, hl2, by omega, by omega, ?_⟩; rw [hs, ‹ws.drop k = _›, nodesGo, if_pos (by omega)])
 have g8 := of_decide_eq_true h8
 refine cnT ?_
 refine srl 2 [2, 3] ⟨[(3, VI 3), (2, VI 0)], []⟩ ?_
 refine rtr ?_
 refine iR ?_
 refine tR ?_
 refine tR ?_
 refine iR ?_
 refine tR ?_
 refine rqe (.tup [VI 0, VI 3]) ?_
 rotate_left
 have g7 := of_decide_eq_true h7
 refine owl 6 [0, 4, 5, 29] ⟨(29, .v (.bool true)) :: (G5 a k ws), []⟩ ?_
 refine cnT ?_
 refine srl 2 [2, 3] ⟨[(3, VI 3), (2, VI 0)], []⟩ ?_
 refine rtr ?_
 refine iR ?_
 refine tR ?_
 refine tR ?_
 refine iR ?_
 refine tR ?_
 refine rqe (.tup [VI 0, VI 3]) ?_
 rotate_left
 have g2 := of_decide_eq_true h2
 have n2 : ((List.length ws) > 12) := by omega
 refine cnT ?_
 refine srl 2 [2, 3] ⟨[(3, VI 2), (2, VI 0)], []⟩ ?_
 refine rtr ?_
 refine rqe (.tup [VI 0, VI 2]) ?_
 rotate_left
 have g1 := bqT h1
 have n1 : ((List.length ws) = 0) := by omega
 refine cnT ?_
 refine srl 2 [2, 3] ⟨[(3, VI 8), (2, VI 0)], []⟩ ?_
 refine rtr ?_
 refine rqe (.tup [VI 0, VI 8]) ?_
 rotate_left
 all_goals (first | (rw [nodesP, if_pos (by omega)]; done) | (rw [nodesP, if_neg (by omega), if_pos (by omega)]; done) | (rw [nodesP, if_neg (by omega), if_neg (by omega), hs]; first | (rw [List.drop_eq_nil_of_le (by omega)]; rfl) | (rw [‹ws.drop k = _›, nodesGo, if_neg (by omega)]; done)) | trace_state)
section
variable (need : Int) (ws : List Int)
abbrev G13 : LS := [(8, .lst 1 (ws.map cI)), (0, .lst 1 (ws.map cI)), (1, VI need)]
abbrev G14 : LS := (9, .tup [VI ((nodesP ws).1), VI ((nodesP ws).2)]) :: (G13 need ws)
abbrev G15 : LS := [(6, VI ((nodesP ws).2)), (5, VI ((nodesP ws).1)), (1, VI need)]
abbrev G16 : LS := [(21, .v (.bool true)), (5, VI ((nodesP ws).1)), (1, VI need)]
abbrev G17 : LS := [(22, VI need), (21, .v (.bool false)), (5, VI ((nodesP ws).1)), (1, VI need)]
end
theorem rqcheck_fn (ws : List Int) (need : Int) (hx : ws.length ≤ 9223372036854775807) : Fn Tryd.prog 29 [.lst 1 (ws.map cI), VI need] (VI (qcheckP ws need)) := by
 refine fnw F29_ok ?_
 refine srl 1 [0, 1] ⟨[(0, .lst 1 (ws.map cI)), (1, VI need)], []⟩ ?_
 refine srr 1 ⟨(G13 need ws), []⟩ ?_
 refine owg [.lst 1 (ws.map cI)] ⟨(G14 need ws), []⟩ (weights_fn ws (by first | omega | (simp; omega))) ?_
 refine owl 5 [1, 5, 6] ⟨(G15 need ws), []⟩ ?_
 refine EL.seq ?_
 refine srl 2 [1, 5, 6, 13] ⟨(13, .v (.bool (((nodesP ws).2) != 0))) :: (G15 need ws), []⟩ ?_
 cases h1 : (((nodesP ws).2) != 0)
 have g1 := bnF h1
 refine cnF ?_
 refine skn ?_
 refine EL.seq ?_
 refine srr 3 ⟨(17, .v (.bool (decide (need < 1)))) :: (16, .v (.bool (decide (need < 1)))) :: (15, VI need) :: (13, .v (.bool false)) :: (G15 need ws), []⟩ ?_
 cases h2 : (decide (need < 1))
 have g2 := of_decide_eq_false h2
 refine owl 4 [1, 5, 21] ⟨[(21, .v (.bool (decide (need > (nodesP ws).1)))), (5, VI ((nodesP ws).1)), (1, VI need)], []⟩ ?_
 cases h3 : (decide (need > (nodesP ws).1))
 have g3 := of_decide_eq_false h3
 refine cnF ?_
 refine skn ?_
 refine EL.seq ?_
 refine srr 4 ⟨(25, .v (.bool (decide ((IntKind.i64.wrap (need * 2)) ≤ (nodesP ws).1)))) :: (24, VI ((nodesP ws).1)) :: (23, VI (IntKind.i64.wrap (need * 2))) :: (G17 need ws), []⟩ ?_
 have e4 := wr64 (n := need * 2) (by have hb := nodes_bd (ws := ws) (by assumption); omega)
 rw [e4]
 refine owl 0 [25] ⟨[(25, .v (.bool (decide ((need * 2) ≤ (nodesP ws).1))))], []⟩ ?_
 cases h5 : (decide ((need * 2) ≤ (nodesP ws).1))
 have g5 := of_decide_eq_false h5
 refine cnF ?_
 refine skn ?_
 refine srl 1 [4] ⟨[(4, VI 0)], []⟩ ?_
 refine EL.ret ?_
 refine rqe (VI 0) ?_
 rotate_left
 have g5 := of_decide_eq_true h5
 refine cnT ?_
 refine srl 1 [4] ⟨[(4, VI 4)], []⟩ ?_
 refine rtr ?_
 refine rqe (VI 4) ?_
 rotate_left
 have g3 := of_decide_eq_true h3
 refine cnT ?_
 refine srl 1 [4] ⟨[(4, VI 3)], []⟩ ?_
 refine rtr ?_
 refine rqe (VI 3) ?_
 rotate_left
 have g2 := of_decide_eq_true h2
 refine owl 4 [1, 5, 21] ⟨(G16 need ws), []⟩ ?_
 refine cnT ?_
 refine srl 1 [4] ⟨[(4, VI 3)], []⟩ ?_
 refine rtr ?_
 refine rqe (VI 3) ?_
 rotate_left
 have g1 := bnT h1
 refine cnT ?_
 refine srl 2 [4] ⟨[(4, VI ((nodesP ws).2))], []⟩ ?_
 refine rtr ?_
 refine rqe (VI ((nodesP ws).2)) ?_
 rotate_left
 all_goals ((refine congrArg (fun n => VI n) ?_; simp only [qcheckP]; (repeat' split) <;> first | rfl | omega | (exfalso; omega) | contradiction | trace_state))
section
variable (a5 : Int) (k : Nat) (n : Int) (u : U64) (ws : List Int)
abbrev G18 : LS := [(5, VI 0), (0, .lst 1 (ws.map cI)), (1, .v (.int .u64 (u.n : Int)))]
abbrev G19 : LS := [(0, .lst 1 (ws.map cI)), (1, .v (.int .u64 (u.n : Int))), (5, VI n), (6, VI (k : Int))]
abbrev G20 : LS := (8, .lst 1 (ws.map cI)) :: (7, VI (k : Int)) :: (G19 k n u ws)
abbrev G21 : LS := (14, VI (k : Int)) :: (13, .v (.int .u64 (u.n : Int))) :: (10, .v (.bool true)) :: (G19 k n u ws)
abbrev G22 : LS := (18, VI (k : Int)) :: (17, .lst 1 (ws.map cI)) :: (16, VI n) :: (15, .v (.bool true)) :: (G19 k n u ws)
abbrev G23 : LS := [(20, VI a5), (19, .pim [VI a5] 0), (18, VI (k : Int)), (17, .lst 1 (ws.map cI)), (16, VI n), (15, .v (.bool true)), (0, .lst 1 (ws.map cI)), (1, .v (.int .u64 (u.n : Int))), (6, VI (k : Int))]
abbrev G24 : LS := [(11, VI (k : Int)), (5, VI (n + a5)), (21, VI (n + a5)), (20, VI a5), (19, .pim [VI a5] 0), (18, VI (k : Int)), (17, .lst 1 (ws.map cI)), (16, VI n), (15, .v (.bool true)), (0, .lst 1 (ws.map cI)), (1, .v (.int .u64 (u.n : Int)))]
abbrev G25 : LS := (6, VI ((k : Int) + 1)) :: (12, VI ((k : Int) + 1)) :: (G24 a5 k n u ws)
abbrev G26 : LS := [(11, VI (k : Int)), (15, .v (.bool false)), (0, .lst 1 (ws.map cI)), (1, .v (.int .u64 (u.n : Int))), (5, VI n)]
abbrev G27 : LS := (6, VI ((k : Int) + 1)) :: (12, VI ((k : Int) + 1)) :: (G26 k n u ws)
end
theorem sumof_fn (ws : List Int) (u : U64) (hw : (nodesP ws).2 = 0) : Fn Tryd.prog 60 [.lst 1 (ws.map cI), .v (.int .u64 (u.n : Int))] (VI (bsum ws u.n)) := by
 have hnb := nodes_bd hw
 refine fnw F60_ok ?_
 refine srl 1 [0, 1] ⟨[(0, .lst 1 (ws.map cI)), (1, .v (.int .u64 (u.n : Int)))], []⟩ ?_
 refine srl 1 [0, 1, 5] ⟨(G18 u ws), []⟩ ?_
 refine EL.seq ?_
 refine srl 1 [0, 1, 5, 6] ⟨(6, VI 0) :: (G18 u ws), []⟩ ?_
 refine EL.block ?_
 refine EL.loopN (fun mM xX => ∃ (k : Nat) (n : Int), mM = ws.length - k ∧ (k ≤ ws.length ∧ n + bsum (ws.drop k) (shN u.n k) = bsum ws u.n ∧ 0 ≤ n) ∧ xX = ⟨(G19 k n u ws), []⟩) (y := (fun (k : Nat) (n : Int) => (⟨(G19 k n u ws), []⟩ : L3)) 0 0) [0, 1, 5, 6] [] [] (by kernel_rfl) trivial ⟨0, 0, rfl, by rw [shN_0]; simp, rfl⟩ ?_
 rintro _ _ ⟨k, n, rfl, hI1, rfl⟩
 obtain ⟨hk, hs, hn0⟩ := hI1
 have hb1 := bsum_bd (ws.drop k) (shN u.n k) (fun w hw => hnb.2.2.2.2 w (List.mem_of_mem_drop hw))
 refine EL.seq ?_
 refine srr 2 ⟨(G20 k n u ws), []⟩ ?_
 refine ow2 ⟨(9, VI (List.length ws : Int)) :: (G20 k n u ws), []⟩ (oln cI ws (.s 8) 1) ?_
 refine owl 1 [0, 1, 5, 6, 10] ⟨(10, .v (.bool (decide ((k : Int) < (List.length ws : Int))))) :: (G19 k n u ws), []⟩ ?_
 cases h2 : (decide ((k : Int) < (List.length ws : Int)))
 have g2 := of_decide_eq_false h2
 have n2 : ¬ ((k) < (List.length ws)) := by omega
 refine cnF ?_
 refine EL.exit ?_
 refine tX ?_
 refine tX ?_
 refine iH ?_
 refine tN ?_
 refine srl 2 [4] ⟨[(4, VI n)], []⟩ ?_
 refine EL.ret ?_
 refine rqe (VI n) ?_
 focus ((refine congrArg (fun n => VI n) ?_; rw [List.drop_eq_nil_of_le (by omega)] at hs; simp only [bsum] at hs; omega))
 have g2 := of_decide_eq_true h2
 have n2 : ((k) < (List.length ws)) := by omega
 refine cnT ?_
 refine skn ?_
 refine EL.seq ?_
 refine EL.block ?_
 refine srr 2 ⟨(G21 k n u ws), []⟩ ?_
 refine owg [.v (.int .u64 (u.n : Int)), VI (k : Int)] ⟨(15, .v (.bool (inS u.n (Int.toNat (k : Int))))) :: (G21 k n u ws), []⟩ (inset_fn u (k : Int) (by omega)) ?_
 refine owl 0 [0, 1, 5, 6, 15] ⟨(15, .v (.bool (inS u.n (Int.toNat (k : Int))))) :: (G19 k n u ws), []⟩ ?_
 cases h3 : (inS u.n (Int.toNat (k : Int)))
 refine cnF ?_
 refine EL.skip ?_
 refine iN ?_
 refine tN ?_
 refine EL.reg0 ?_
 refine owr 3 ⟨(6, VI (IntKind.i64.wrap ((k : Int) + 1))) :: (12, VI (IntKind.i64.wrap ((k : Int) + 1))) :: (G26 k n u ws), []⟩ ?_
 have e8 := wr64 (n := (k : Int) + 1) (by omega)
 rw [e8]
 refine owe 0 ⟨(G27 k n u ws), []⟩ ?_
 refine tN ?_
 refine rE (live := [0, 1, 5, 6]) (src := []) (es := []) (y := (fun (k : Nat) (n : Int) => (⟨(G19 k n u ws), []⟩ : L3)) (k + 1) n) ?_ trivial ?_ ⟨(k + 1), n, rfl, ?_, rfl⟩
 kernel_rfl
 omega
 rotate_left
 refine cnT ?_
 refine EL.reg0 ?_
 refine owr 3 ⟨(G22 k n u ws), []⟩ ?_
 obtain ⟨a5, ha5⟩ : ∃ y, ws[((k : Int) : Int).toNat]? = some y := idx_ex ⟨by omega, by omega⟩
 have iha5 : ws[k]? = some a5 := by simpa using ha5
 have dha5 := drop_get iha5
 refine ow2 ⟨(19, .pim [VI a5] 0) :: (G22 k n u ws), []⟩ (oid cI ws (.s 17) (.s 18) 1 .i64 (k : Int) a5 (by omega) ha5) ?_
 refine owr 3 ⟨(5, VI (IntKind.i64.wrap (n + a5))) :: (21, VI (IntKind.i64.wrap (n + a5))) :: (G23 a5 k n u ws), []⟩ ?_
 have e6 := wr64 (n := n + a5) (by have hw9 := hnb.2.2.2.2 a5 (List.mem_of_getElem? ha5); have hb3 := bsum_bd ws u.n hnb.2.2.2.2; omega)
 rw [e6]
 refine owe 0 ⟨(5, VI (n + a5)) :: (21, VI (n + a5)) :: (G23 a5 k n u ws), []⟩ ?_
 refine iN ?_
 refine tN ?_
 refine EL.reg0 ?_
 refine owr 3 ⟨(6, VI (IntKind.i64.wrap ((k : Int) + 1))) :: (12, VI (IntKind.i64.wrap ((k : Int) + 1))) :: (G24 a5 k n u ws), []⟩ ?_
 have e7 := wr64 (n := (k : Int) + 1) (by omega)
 rw [e7]
 refine owe 0 ⟨(G25 a5 k n u ws), []⟩ ?_
 refine tN ?_
 refine rE (live := [0, 1, 5, 6]) (src := []) (es := []) (y := (fun (k : Nat) (n : Int) => (⟨(G19 k n u ws), []⟩ : L3)) (k + 1) (n + a5)) ?_ trivial ?_ ⟨(k + 1), (n + a5), rfl, ?_, rfl⟩
 kernel_rfl
 omega
 rotate_left
 all_goals ((have hq := bsum_at (ws := ws) (x := u.n) (k := k) (by omega); first | (rw [if_pos (by assumption), iha5, Option.getD_some] at hq; have hw9 := hnb.2.2.2.2 a5 (List.mem_of_getElem? ha5); refine ⟨by omega, by omega, by omega⟩) | (rw [if_neg (by simp_all)] at hq; refine ⟨by omega, by omega, by omega⟩)))
section
variable (k : Nat) (m : Vote) (nodes : Int) (out : List Vote) (p : Vote)
abbrev G28 : OB := some ⟨6, [[VI m.kind, VI m.bid, VI m.node, VI m.copy.at_.time, VI m.copy.at_.who, .v (.string m.copy.data)]]⟩
abbrev G29 : LS := [(6, VI 0), (5, .emp), (3, .ref 0 6 0 0), (0, VI nodes)]
abbrev G30 : OB := some ⟨6, [[VI p.kind, VI p.bid, VI p.node, VI p.copy.at_.time, VI p.copy.at_.who, .v (.string p.copy.data)]]⟩
abbrev G31 : LB := [some ⟨6, (out.map Vote.cs)⟩, (G30 p)]
abbrev G32 : LS := [(0, VI nodes), (3, .ref 1 6 0 0), (5, .own 0 6 0 (List.length out)), (6, VI (k : Int))]
abbrev G33 : OB := some ⟨6, [[VI p.kind, VI p.bid, VI (k : Int), VI p.copy.at_.time, VI p.copy.at_.who, .v (.string p.copy.data)]]⟩
abbrev G34 : LB := [some ⟨6, (out.map Vote.cs)⟩, (G33 k p)]
abbrev G35 : AV := .agg [VI p.kind, VI p.bid, VI (k : Int), VI p.copy.at_.time, VI p.copy.at_.who, .v (.string p.copy.data)]
abbrev G36 : LB := [some ⟨6, (out.map Vote.cs)⟩, (G33 k p), (G33 k p)]
abbrev G37 : LS := (16, .own 2 6 0 1) :: (15, (G35 k p)) :: (14, .own 0 6 0 (List.length out)) :: (G32 k nodes out)
abbrev G38 : OB := some ⟨6, ((out ++ ([(⟨p.kind, p.bid, (k : Int), p.copy⟩ : Vote)])).map Vote.cs)⟩
abbrev G39 : LB := [none, (G33 k p), (G33 k p), (G38 k out p)]
abbrev G40 : LS := (17, .own 3 6 0 (List.length (out ++ ([(⟨p.kind, p.bid, (k : Int), p.copy⟩ : Vote)])))) :: (G37 k nodes out p)
abbrev G41 : LS := [(5, .own 3 6 0 (List.length (out ++ ([(⟨p.kind, p.bid, (k : Int), p.copy⟩ : Vote)])))), (17, .own 3 6 0 (List.length (out ++ ([(⟨p.kind, p.bid, (k : Int), p.copy⟩ : Vote)])))), (16, .own 2 6 0 1), (15, (G35 k p)), (14, .own 0 6 0 (List.length out)), (0, VI nodes), (3, .ref 1 6 0 0), (6, VI (k : Int))]
abbrev G42 : LS := [(10, VI (k : Int)), (5, .own 3 6 0 (List.length (out ++ ([(⟨p.kind, p.bid, (k : Int), p.copy⟩ : Vote)])))), (17, .own 3 6 0 (List.length (out ++ ([(⟨p.kind, p.bid, (k : Int), p.copy⟩ : Vote)])))), (16, .own 2 6 0 1), (15, (G35 k p)), (14, .own 0 6 0 (List.length out)), (0, VI nodes), (3, .ref 1 6 0 0)]
abbrev G43 : LS := (6, VI ((k : Int) + 1)) :: (11, VI ((k : Int) + 1)) :: (G42 k nodes out p)
end
theorem rtoAll_fn (nodes : Int) (m : Vote) (hx : 0 ≤ nodes ∧ nodes ≤ 12) : Fn Tryd.prog 56 [VI nodes, .agg [VI m.kind, VI m.bid, VI m.node, VI m.copy.at_.time, VI m.copy.at_.who, .v (.string m.copy.data)]] (.lst 6 ((toAllP nodes.toNat m).map Vote.cs)) := by
 refine fnw F56_ok ?_
 refine srl 2 [0, 3] ⟨[(3, .ref 0 6 0 0), (0, VI nodes)], [(G28 m)]⟩ ?_
 refine srl 1 [0, 3, 5] ⟨[(5, .emp), (3, .ref 0 6 0 0), (0, VI nodes)], [(G28 m)]⟩ ?_
 refine EL.seq ?_
 refine srl 1 [0, 3, 5, 6] ⟨(G29 nodes), [(G28 m)]⟩ ?_
 refine EL.block ?_
 refine EL.loopN (fun mM xX => ∃ (k : Nat) (p : Vote) (out : List Vote), mM = nodes.toNat - k ∧ ((k : Int) ≤ nodes ∧ (p.kind = m.kind ∧ p.bid = m.bid ∧ p.copy = m.copy) ∧ out = toAllP k m) ∧ xX = ⟨(G32 k nodes out), (G31 out p)⟩) (y := (fun (k : Nat) (p : Vote) (out : List Vote) => (⟨(G32 k nodes out), (G31 out p)⟩ : L3)) 0 m []) [0, 3, 5, 6] [.new 6, uf 0] [(5, 0)] (by kernel_rfl) trivial ⟨0, m, [], rfl, by exact ⟨by omega, ⟨rfl, rfl, rfl⟩, rfl⟩, rfl⟩ ?_
 rintro _ _ ⟨k, p, out, rfl, hI1, rfl⟩
 obtain ⟨hk, ⟨e1', e2', e3'⟩, ho⟩ := hI1
 have hol : out.length = k := by rw [ho]; simp [toAllP]
 refine EL.seq ?_
 refine srl 3 [0, 3, 5, 6, 9] ⟨(9, .v (.bool (decide ((k : Int) < nodes)))) :: (G32 k nodes out), (G31 out p)⟩ ?_
 cases h2 : (decide ((k : Int) < nodes))
 have g2 := of_decide_eq_false h2
 refine cnF ?_
 refine EL.exit ?_
 refine tX ?_
 refine tX ?_
 refine iH ?_
 refine tN ?_
 refine srl 2 [4] ⟨[(4, .own 0 6 0 (List.length out))], (G31 out p)⟩ ?_
 refine EL.ret ?_
 refine rqs (.lst 6 (out.map Vote.cs)) (.own 0 6 0 (List.length out)) (snapA_map Vote.cs out (by kernel_rfl) (by intro y; kernel_rfl) (by simp)) ?_
 focus (first | (rw [ho, show k = nodes.toNat by omega]; done) | trace_state)
 have g2 := of_decide_eq_true h2
 refine cnT ?_
 refine skn ?_
 refine EL.seq ?_
 refine EL.block ?_
 refine srl 3 [0, 3, 5, 6] ⟨(G32 k nodes out), (G34 k out p)⟩ ?_
 refine EL.reg0 ?_
 refine owr 3 ⟨(G37 k nodes out p), (G36 k out p)⟩ ?_
 refine ow2 ⟨(G40 k nodes out p), (G39 k out p)⟩ (oap Vote.cs out ([(⟨p.kind, p.bid, (k : Int), p.copy⟩ : Vote)]) (.s 14) (.s 16) 6 56 0 (.own 2 6 0 1) (.own (els := [[VI p.kind, VI p.bid, VI (k : Int), VI p.copy.at_.time, VI p.copy.at_.who, .v (.string p.copy.data)]]) (by kernel_rfl) (by kernel_rfl) (of_decide_eq_true (by kernel_rfl))) (by simp; omega)) ?_
 refine owe 1 ⟨(G41 k nodes out p), (G39 k out p)⟩ ?_
 refine iN ?_
 refine tN ?_
 refine EL.reg0 ?_
 refine owr 3 ⟨(6, VI (IntKind.i64.wrap ((k : Int) + 1))) :: (11, VI (IntKind.i64.wrap ((k : Int) + 1))) :: (G42 k nodes out p), (G39 k out p)⟩ ?_
 have e3 := wr64 (n := (k : Int) + 1) (by omega)
 rw [e3]
 refine owe 0 ⟨(G43 k nodes out p), (G39 k out p)⟩ ?_
 refine tN ?_
 refine rE (live := [0, 3, 5, 6]) (src := [ut 3, uf 1]) (es := []) (y := (fun (k : Nat) (p : Vote) (out : List Vote) => (⟨(G32 k nodes out), (G31 out p)⟩ : L3)) (k + 1) (⟨p.kind, p.bid, (k : Int), p.copy⟩ : Vote) (out ++ ([(⟨p.kind, p.bid, (k : Int), p.copy⟩ : Vote)]))) ?_ ⟨pq 6 Vote.cs (out ++ ([(⟨p.kind, p.bid, (k : Int), p.copy⟩ : Vote)])), trivial⟩ ?_ ⟨(k + 1), (⟨p.kind, p.bid, (k : Int), p.copy⟩ : Vote), (out ++ ([(⟨p.kind, p.bid, (k : Int), p.copy⟩ : Vote)])), rfl, ?_, rfl⟩
 kernel_rfl
 omega
 focus ((refine ⟨by omega, ⟨e1', e2', e3'⟩, ?_⟩; rw [ho, e1', e2', e3']; simp [toAllP, List.range_succ]))
theorem beg_no {v : Vtr} {no time : Int} {own : ByteArray} (h : ¬ (0 ≤ no ∧ no ≤ 30)) : beginP v no time own = (Bid.zero, [], 3) := by unfold beginP; rw [if_pos h]
theorem beg_bad {v : Vtr} {no time : Int} {own : ByteArray} (h : 0 ≤ no ∧ no ≤ 30) (h2 : ¬ (Bid.new time own).checkE v.weights v.need = 0) : beginP v no time own = (Bid.zero, [], (Bid.new time own).checkE v.weights v.need) := by unfold beginP; rw [if_neg (fun hh => hh h), if_pos h2]
theorem beg_ok {v : Vtr} {no time : Int} {own : ByteArray} (h : 0 ≤ no ∧ no ≤ 30) (h2 : (Bid.new time own).checkE v.weights v.need = 0) : beginP v no time own = (Bid.new time own, toAllP v.weights.length ⟨1, no, 0, ⟨⟨time, no⟩, ⟨#[]⟩⟩⟩, 0) := by unfold beginP; rw [if_neg (fun hh => hh h), if_neg (fun hh => hh h2)]
theorem len_ge {n : U64} {l : Nat} : ((n.n : Int) ≥ ((2 ^ Int.toNat (l : Int) : Nat) : Int)) ↔ (len64 n.n : Int) > l := by
  have := len64_gt (n := n.n) (k := l)
  rw [show Int.toNat (l : Int) = l from rfl]
  omega
section
variable (b : Bid) (v : Vtr)
abbrev G44 : OB := some ⟨2, [[.lst 1 (v.weights.map cI), VI v.need]]⟩
abbrev G45 : OB := some ⟨8, [[VI b.time, VI b.phase, .v (.string b.own), .v (.string b.value), VI b.best.at_.time, VI b.best.at_.who, .v (.string b.best.data), .v (.int .u64 (b.heard.n : Int))]]⟩
abbrev G46 : LS := [(9, VI v.need), (8, .ref 0 2 0 1), (7, .lst 1 (v.weights.map cI)), (6, .ref 0 2 0 0), (3, .ref 1 8 0 0), (2, .ref 0 2 0 0)]
abbrev G47 : LS := [(5, VI (qcheckP v.weights v.need)), (3, .ref 1 8 0 0), (2, .ref 0 2 0 0)]
abbrev G48 : LS := (15, VI b.time) :: (14, .ref 1 8 0 0) :: (12, .v (.bool false)) :: (G47 v)
abbrev G49 : LS := [(21, .v (.bool true)), (3, .ref 1 8 0 0), (2, .ref 0 2 0 0)]
abbrev G50 : LS := [(23, VI b.phase), (22, .ref 1 8 0 1), (21, .v (.bool false)), (3, .ref 1 8 0 0), (2, .ref 0 2 0 0)]
abbrev G51 : LS := [(29, .v (.bool true)), (3, .ref 1 8 0 0), (2, .ref 0 2 0 0)]
abbrev G52 : LS := [(32, VI (ByteArray.size b.own : Int)), (31, .v (.string b.own)), (30, .ref 1 8 0 2), (29, .v (.bool false)), (3, .ref 1 8 0 0), (2, .ref 0 2 0 0)]
abbrev G53 : LS := [(39, .v (.bool true)), (3, .ref 1 8 0 0), (2, .ref 0 2 0 0)]
abbrev G54 : AV := .agg [VI b.best.at_.time, VI b.best.at_.who, .v (.string b.best.data)]
abbrev G55 : LS := [(41, (G54 b)), (40, .ref 1 8 0 4), (39, .v (.bool false)), (3, .ref 1 8 0 0), (2, .ref 0 2 0 0)]
abbrev G56 : LS := [(5, VI b.best.checkE), (3, .ref 1 8 0 0), (2, .ref 0 2 0 0)]
abbrev G57 : LS := (49, .lst 1 (v.weights.map cI)) :: (48, .ref 0 2 0 0) :: (47, .v (.int .u64 (b.heard.n : Int))) :: (46, .ref 1 8 0 7) :: (44, .v (.bool false)) :: (G56 b)
end
theorem rbcheck_fn (v : Vtr) (b : Bid) (hx : v.weights.length ≤ 9223372036854775807) : Fn Tryd.prog 47 [.agg [.lst 1 (v.weights.map cI), VI v.need], .agg [VI b.time, VI b.phase, .v (.string b.own), .v (.string b.value), VI b.best.at_.time, VI b.best.at_.who, .v (.string b.best.data), .v (.int .u64 (b.heard.n : Int))]] (VI (b.checkE v.weights v.need)) := by
 refine fnw F47_ok ?_
 refine srl 3 [2, 3] ⟨[(3, .ref 1 8 0 0), (2, .ref 0 2 0 0)], [(G44 v), (G45 b)]⟩ ?_
 refine srr 4 ⟨(G46 v), [(G44 v), (G45 b)]⟩ ?_
 refine owg [.lst 1 (v.weights.map cI), VI v.need] ⟨(10, VI (qcheckP v.weights v.need)) :: (G46 v), [(G44 v), (G45 b)]⟩ (rqcheck_fn v.weights v.need (by first | omega | (simp; omega))) ?_
 refine owl 1 [2, 3, 5] ⟨(G47 v), [(G44 v), (G45 b)]⟩ ?_
 refine EL.seq ?_
 refine srl 2 [2, 3, 5, 12] ⟨(12, .v (.bool ((qcheckP v.weights v.need) != 0))) :: (G47 v), [(G44 v), (G45 b)]⟩ ?_
 cases h1 : ((qcheckP v.weights v.need) != 0)
 have g1 := bnF h1
 refine cnF ?_
 refine skn ?_
 refine EL.seq ?_
 refine srr 4 ⟨(17, .v (.bool (decide (b.time < 1)))) :: (16, .v (.bool (decide (b.time < 1)))) :: (G48 b v), [(G44 v), (G45 b)]⟩ ?_
 cases h2 : (decide (b.time < 1))
 have g2 := of_decide_eq_false h2
 refine owl 4 [2, 3, 21] ⟨[(21, .v (.bool (decide (b.time > 1000000)))), (3, .ref 1 8 0 0), (2, .ref 0 2 0 0)], [(G44 v), (G45 b)]⟩ ?_
 cases h3 : (decide (b.time > 1000000))
 have g3 := of_decide_eq_false h3
 refine cnF ?_
 refine skn ?_
 refine EL.seq ?_
 refine srr 4 ⟨(25, .v (.bool (decide (b.phase < 1)))) :: (24, .v (.bool (decide (b.phase < 1)))) :: (G50 b), [(G44 v), (G45 b)]⟩ ?_
 cases h4 : (decide (b.phase < 1))
 have g4 := of_decide_eq_false h4
 refine owl 4 [2, 3, 29] ⟨[(29, .v (.bool (decide (b.phase > 3)))), (3, .ref 1 8 0 0), (2, .ref 0 2 0 0)], [(G44 v), (G45 b)]⟩ ?_
 cases h5 : (decide (b.phase > 3))
 have g5 := of_decide_eq_false h5
 refine cnF ?_
 refine skn ?_
 refine EL.seq ?_
 refine srr 5 ⟨(34, .v (.bool (decide ((ByteArray.size b.own : Int) > 64)))) :: (33, .v (.bool (decide ((ByteArray.size b.own : Int) > 64)))) :: (G52 b), [(G44 v), (G45 b)]⟩ ?_
 cases h6 : (decide ((ByteArray.size b.own : Int) > 64))
 have g6 := of_decide_eq_false h6
 have n6 : ¬ ((ByteArray.size b.own) > 64) := by omega
 refine owl 5 [2, 3, 39] ⟨[(39, .v (.bool (decide ((ByteArray.size b.value : Int) > 64)))), (3, .ref 1 8 0 0), (2, .ref 0 2 0 0)], [(G44 v), (G45 b)]⟩ ?_
 cases h7 : (decide ((ByteArray.size b.value : Int) > 64))
 have g7 := of_decide_eq_false h7
 have n7 : ¬ ((ByteArray.size b.value) > 64) := by omega
 refine cnF ?_
 refine skn ?_
 refine srr 2 ⟨(G55 b), [(G44 v), (G45 b)]⟩ ?_
 refine owg [(G54 b)] ⟨(42, VI b.best.checkE) :: (G55 b), [(G44 v), (G45 b)]⟩ (rccheck_fn b.best) ?_
 refine owl 1 [2, 3, 5] ⟨(G56 b), [(G44 v), (G45 b)]⟩ ?_
 refine EL.seq ?_
 refine srl 2 [2, 3, 5, 44] ⟨(44, .v (.bool (b.best.checkE != 0))) :: (G56 b), [(G44 v), (G45 b)]⟩ ?_
 cases h8 : (b.best.checkE != 0)
 have g8 := bnF h8
 refine cnF ?_
 refine skn ?_
 refine EL.seq ?_
 refine sdr 4 ⟨(G57 b v), [(G44 v), (G45 b)]⟩ ?_
 refine dw2 ⟨(50, VI (List.length v.weights : Int)) :: (G57 b v), [(G44 v), (G45 b)]⟩ (oln cI v.weights (.s 49) 1) ?_
 refine dw2 ⟨(51, .v (.int .u64 (IntKind.u64.wrap (1 * 2 ^ (min (Int.toNat (List.length v.weights : Int)) IntKind.u64.bits))))) :: (50, VI (List.length v.weights : Int)) :: (G57 b v), [(G44 v), (G45 b)]⟩ (opE_shl (.c (.v (.int .u64 1))) (.s 50) .u64 .i64 1 (List.length v.weights : Int) (by kernel_rfl) (by kernel_rfl) (by kernel_rfl) (by kernel_rfl) (by have := qc_len (by assumption); omega)) ?_
 have e9 : IntKind.u64.wrap (1 * 2 ^ (min (Int.toNat (List.length v.weights : Int)) IntKind.u64.bits)) = ((2 ^ (Int.toNat (List.length v.weights : Int)) : Nat) : Int) := shl1 (by have := qc_len (by assumption); omega)
 rw [e9]
 refine dwl 1 [52] ⟨[(52, .v (.bool (decide ((b.heard.n : Int) ≥ ((2 ^ (Int.toNat (List.length v.weights : Int)) : Nat) : Int)))))], [(G44 v), (G45 b)]⟩ ?_
 cases h10 : (decide ((b.heard.n : Int) ≥ ((2 ^ (Int.toNat (List.length v.weights : Int)) : Nat) : Int)))
 have g10 := of_decide_eq_false h10
 refine cnF ?_
 refine skn ?_
 refine srl 1 [4] ⟨[(4, VI 0)], [(G44 v), (G45 b)]⟩ ?_
 refine EL.ret ?_
 refine rqe (VI 0) ?_
 rotate_left
 have g10 := of_decide_eq_true h10
 refine cnT ?_
 refine srl 1 [4] ⟨[(4, VI 3)], [(G44 v), (G45 b)]⟩ ?_
 refine rtr ?_
 refine rqe (VI 3) ?_
 rotate_left
 have g8 := bnT h8
 refine cnT ?_
 refine srl 2 [4] ⟨[(4, VI b.best.checkE)], [(G44 v), (G45 b)]⟩ ?_
 refine rtr ?_
 refine rqe (VI b.best.checkE) ?_
 rotate_left
 have g7 := of_decide_eq_true h7
 have n7 : ((ByteArray.size b.value) > 64) := by omega
 refine cnT ?_
 refine srl 1 [4] ⟨[(4, VI 2)], [(G44 v), (G45 b)]⟩ ?_
 refine rtr ?_
 refine rqe (VI 2) ?_
 rotate_left
 have g6 := of_decide_eq_true h6
 have n6 : ((ByteArray.size b.own) > 64) := by omega
 refine owl 5 [2, 3, 39] ⟨G53, [(G44 v), (G45 b)]⟩ ?_
 refine cnT ?_
 refine srl 1 [4] ⟨[(4, VI 2)], [(G44 v), (G45 b)]⟩ ?_
 refine rtr ?_
 refine rqe (VI 2) ?_
 rotate_left
 have g5 := of_decide_eq_true h5
 refine cnT ?_
 refine srl 1 [4] ⟨[(4, VI 7)], [(G44 v), (G45 b)]⟩ ?_
 refine rtr ?_
 refine rqe (VI 7) ?_
 rotate_left
 have g4 := of_decide_eq_true h4
 refine owl 4 [2, 3, 29] ⟨G51, [(G44 v), (G45 b)]⟩ ?_
 refine cnT ?_
 refine srl 1 [4] ⟨[(4, VI 7)], [(G44 v), (G45 b)]⟩ ?_
 refine rtr ?_
 refine rqe (VI 7) ?_
 rotate_left
 have g3 := of_decide_eq_true h3
 refine cnT ?_
 refine srl 1 [4] ⟨[(4, VI 3)], [(G44 v), (G45 b)]⟩ ?_
 refine rtr ?_
 refine rqe (VI 3) ?_
 rotate_left
 have g2 := of_decide_eq_true h2
 refine owl 4 [2, 3, 21] ⟨G49, [(G44 v), (G45 b)]⟩ ?_
 refine cnT ?_
 refine srl 1 [4] ⟨[(4, VI 3)], [(G44 v), (G45 b)]⟩ ?_
 refine rtr ?_
 refine rqe (VI 3) ?_
 rotate_left
 have g1 := bnT h1
 refine cnT ?_
 refine srl 2 [4] ⟨[(4, VI (qcheckP v.weights v.need))], [(G44 v), (G45 b)]⟩ ?_
 refine rtr ?_
 refine rqe (VI (qcheckP v.weights v.need)) ?_
 rotate_left
 all_goals ((refine congrArg (fun n => VI n) ?_; (try simp only [len_ge] at *); simp only [Bid.checkE]; (repeat' split) <;> first | rfl | omega | (exfalso; omega) | contradiction | (simp_all; done) | (simp_all; omega) | trace_state))
section
variable (no : Int) (own : ByteArray) (time : Int) (v : Vtr)
abbrev G58 : OB := some ⟨8, [[VI 0, VI 0, .v (.string (⟨#[]⟩)), .v (.string (⟨#[]⟩)), VI 0, VI 0, .v (.string (⟨#[]⟩)), .v (.int .u64 0)]]⟩
abbrev G59 : LS := [(8, .ref 1 8 0 0), (4, .ref 0 2 0 0), (1, VI no), (2, VI time), (3, .v (.string own))]
abbrev G60 : OB := some ⟨8, [[VI time, VI 1, .v (.string own), .v (.string (⟨#[]⟩)), VI 0, VI 0, .v (.string (⟨#[]⟩)), .v (.int .u64 0)]]⟩
abbrev G61 : LB := [(G44 v), G58, (G60 own time)]
abbrev G62 : LS := [(11, .ref 2 8 0 0), (8, .ref 1 8 0 0), (4, .ref 0 2 0 0), (1, VI no), (2, VI time)]
abbrev G63 : AV := .agg [VI time, VI 1, .v (.string own), .v (.string (⟨#[]⟩)), VI 0, VI 0, .v (.string (⟨#[]⟩)), .v (.int .u64 0)]
abbrev G64 : AV := .agg [.lst 1 (v.weights.map cI), VI v.need]
abbrev G65 : AV := .agg [VI 1, VI no, VI 0, VI time, VI no, .v (.string (⟨#[]⟩))]
abbrev G66 : AV := .agg [VI time, VI no, .v (.string (⟨#[]⟩))]
abbrev G67 : LB := [(G44 v), (G60 own time), (G60 own time)]
abbrev G68 : LS := [(10, VI 0), (9, .lst 6 ((toAllP (List.length v.weights : Int).toNat (⟨1, no, 0, (⟨(⟨time, no⟩ : Stp), ⟨#[]⟩⟩ : Copy)⟩ : Vote)).map Vote.cs)), (8, .ref 1 8 0 0)]
end
theorem rbegin_fn (v : Vtr) (no : Int) (time : Int) (own : ByteArray) (hx : v.weights.length ≤ 9223372036854775807) : Fn Tryd.prog 30 [.agg [.lst 1 (v.weights.map cI), VI v.need], VI no, VI time, .v (.string own)] (.tup [.agg [VI (((beginP v no time own).1).time), VI (((beginP v no time own).1).phase), .v (.string (((beginP v no time own).1).own)), .v (.string (((beginP v no time own).1).value)), VI (((((beginP v no time own).1).best).at_).time), VI (((((beginP v no time own).1).best).at_).who), .v (.string ((((beginP v no time own).1).best).data)), .v (.int .u64 (((beginP v no time own).1).heard.n : Int))], .lst 6 (((beginP v no time own).2.1).map Vote.cs), VI ((beginP v no time own).2.2)]) := by
 refine fnw F30_ok ?_
 refine srl 4 [1, 2, 3, 4, 8] ⟨(G59 no own time), [(G44 v), G58]⟩ ?_
 refine EL.seq ?_
 refine srr 3 ⟨(15, .v (.bool (decide (no < 0)))) :: (14, .v (.bool (decide (no < 0)))) :: (13, VI no) :: (G59 no own time), [(G44 v), G58]⟩ ?_
 cases h1 : (decide (no < 0))
 have g1 := of_decide_eq_false h1
 refine owl 3 [1, 2, 3, 4, 8, 18] ⟨(18, .v (.bool (decide (no > 30)))) :: (G59 no own time), [(G44 v), G58]⟩ ?_
 cases h2 : (decide (no > 30))
 have g2 := of_decide_eq_false h2
 refine cnF ?_
 refine skn ?_
 refine srl 5 [1, 2, 4, 8, 11] ⟨(G62 no time), (G61 own time v)⟩ ?_
 refine srr 2 ⟨(24, (G63 own time)) :: (23, (G64 v)) :: (G62 no time), (G61 own time v)⟩ ?_
 refine owg [(G64 v), (G63 own time)] ⟨(25, VI ((⟨time, 1, own, ⟨#[]⟩, (⟨(⟨0, 0⟩ : Stp), ⟨#[]⟩⟩ : Copy), (⟨0, by decide⟩ : U64)⟩ : Bid).checkE v.weights v.need)) :: (24, (G63 own time)) :: (23, (G64 v)) :: (G62 no time), (G61 own time v)⟩ (rbcheck_fn v (⟨time, 1, own, ⟨#[]⟩, (⟨(⟨0, 0⟩ : Stp), ⟨#[]⟩⟩ : Copy), (⟨0, by decide⟩ : U64)⟩ : Bid) hx) ?_
 refine owl 1 [1, 2, 4, 8, 11, 12] ⟨(12, VI ((⟨time, 1, own, ⟨#[]⟩, (⟨(⟨0, 0⟩ : Stp), ⟨#[]⟩⟩ : Copy), (⟨0, by decide⟩ : U64)⟩ : Bid).checkE v.weights v.need)) :: (G62 no time), (G61 own time v)⟩ ?_
 refine EL.seq ?_
 refine srl 2 [1, 2, 4, 8, 11, 12, 27] ⟨(27, .v (.bool (((⟨time, 1, own, ⟨#[]⟩, (⟨(⟨0, 0⟩ : Stp), ⟨#[]⟩⟩ : Copy), (⟨0, by decide⟩ : U64)⟩ : Bid).checkE v.weights v.need) != 0))) :: (12, VI ((⟨time, 1, own, ⟨#[]⟩, (⟨(⟨0, 0⟩ : Stp), ⟨#[]⟩⟩ : Copy), (⟨0, by decide⟩ : U64)⟩ : Bid).checkE v.weights v.need)) :: (G62 no time), (G61 own time v)⟩ ?_
 cases h3 : (((⟨time, 1, own, ⟨#[]⟩, (⟨(⟨0, 0⟩ : Stp), ⟨#[]⟩⟩ : Copy), (⟨0, by decide⟩ : U64)⟩ : Bid).checkE v.weights v.need) != 0)
 have g3 := bnF h3
 refine cnF ?_
 refine skn ?_
 refine sdr 3 ⟨(32, .lst 1 (v.weights.map cI)) :: (31, .ref 0 2 0 0) :: (30, (G63 own time)) :: (27, .v (.bool false)) :: (12, VI ((⟨time, 1, own, ⟨#[]⟩, (⟨(⟨0, 0⟩ : Stp), ⟨#[]⟩⟩ : Copy), (⟨0, by decide⟩ : U64)⟩ : Bid).checkE v.weights v.need)) :: (G62 no time), (G61 own time v)⟩ ?_
 refine dw2 ⟨(33, VI (List.length v.weights : Int)) :: (32, .lst 1 (v.weights.map cI)) :: (31, .ref 0 2 0 0) :: (30, (G63 own time)) :: (27, .v (.bool false)) :: (12, VI ((⟨time, 1, own, ⟨#[]⟩, (⟨(⟨0, 0⟩ : Stp), ⟨#[]⟩⟩ : Copy), (⟨0, by decide⟩ : U64)⟩ : Bid).checkE v.weights v.need)) :: (G62 no time), (G61 own time v)⟩ (oln cI v.weights (.s 32) 1) ?_
 refine dwr 6 ⟨(39, (G65 no time)) :: (38, (G66 no time)) :: (37, .agg [VI time, VI no]) :: (36, VI no) :: (35, VI time) :: (34, VI no) :: (33, VI (List.length v.weights : Int)) :: (32, .lst 1 (v.weights.map cI)) :: (31, .ref 0 2 0 0) :: (30, (G63 own time)) :: (27, .v (.bool false)) :: (12, VI ((⟨time, 1, own, ⟨#[]⟩, (⟨(⟨0, 0⟩ : Stp), ⟨#[]⟩⟩ : Copy), (⟨0, by decide⟩ : U64)⟩ : Bid).checkE v.weights v.need)) :: (G62 no time), (G61 own time v)⟩ ?_
 refine dwg [VI (List.length v.weights : Int), (G65 no time)] ⟨(40, .lst 6 ((toAllP (List.length v.weights : Int).toNat (⟨1, no, 0, (⟨(⟨time, no⟩ : Stp), ⟨#[]⟩⟩ : Copy)⟩ : Vote)).map Vote.cs)) :: (39, (G65 no time)) :: (38, (G66 no time)) :: (37, .agg [VI time, VI no]) :: (36, VI no) :: (35, VI time) :: (34, VI no) :: (33, VI (List.length v.weights : Int)) :: (32, .lst 1 (v.weights.map cI)) :: (31, .ref 0 2 0 0) :: (30, (G63 own time)) :: (27, .v (.bool false)) :: (12, VI ((⟨time, 1, own, ⟨#[]⟩, (⟨(⟨0, 0⟩ : Stp), ⟨#[]⟩⟩ : Copy), (⟨0, by decide⟩ : U64)⟩ : Bid).checkE v.weights v.need)) :: (G62 no time), (G61 own time v)⟩ (rtoAll_fn (List.length v.weights : Int) (⟨1, no, 0, (⟨(⟨time, no⟩ : Stp), ⟨#[]⟩⟩ : Copy)⟩ : Vote) (by have := bid_len (by assumption); omega)) ?_
 refine dwl 3 [8, 9, 10] ⟨(G68 no time v), (G67 own time v)⟩ ?_
 refine EL.ret ?_
 refine rqe (.tup [.agg [VI time, VI 1, .v (.string own), .v (.string (⟨#[]⟩)), VI 0, VI 0, .v (.string (⟨#[]⟩)), .v (.int .u64 0)], .lst 6 ((toAllP (List.length v.weights : Int).toNat (⟨1, no, 0, (⟨(⟨time, no⟩ : Stp), ⟨#[]⟩⟩ : Copy)⟩ : Vote)).map Vote.cs), VI 0]) ?_
 rotate_left
 have g3 := bnT h3
 refine cnT ?_
 refine srl 5 [8, 9, 10] ⟨[(10, VI ((⟨time, 1, own, ⟨#[]⟩, (⟨(⟨0, 0⟩ : Stp), ⟨#[]⟩⟩ : Copy), (⟨0, by decide⟩ : U64)⟩ : Bid).checkE v.weights v.need)), (9, .emp), (8, .ref 1 8 0 0)], (G61 own time v)⟩ ?_
 refine rtr ?_
 refine rqa (.tup [.agg [VI 0, VI 0, .v (.string (⟨#[]⟩)), .v (.string (⟨#[]⟩)), VI 0, VI 0, .v (.string (⟨#[]⟩)), .v (.int .u64 0)], .emp, VI ((⟨time, 1, own, ⟨#[]⟩, (⟨(⟨0, 0⟩ : Stp), ⟨#[]⟩⟩ : Copy), (⟨0, by decide⟩ : U64)⟩ : Bid).checkE v.weights v.need)]) (Ale.tup (aR (aE 6 (aR .nil)))) ?_
 rotate_left
 have g2 := of_decide_eq_true h2
 refine cnT ?_
 refine srl 4 [8, 9, 10] ⟨[(10, VI 3), (9, .emp), (8, .ref 1 8 0 0)], [(G44 v), G58]⟩ ?_
 refine rtr ?_
 refine rqa (.tup [.agg [VI 0, VI 0, .v (.string (⟨#[]⟩)), .v (.string (⟨#[]⟩)), VI 0, VI 0, .v (.string (⟨#[]⟩)), .v (.int .u64 0)], .emp, VI 3]) (Ale.tup (aR (aE 6 (aR .nil)))) ?_
 rotate_left
 have g1 := of_decide_eq_true h1
 refine owl 3 [1, 2, 3, 4, 8, 18] ⟨(18, .v (.bool true)) :: (G59 no own time), [(G44 v), G58]⟩ ?_
 refine cnT ?_
 refine srl 4 [8, 9, 10] ⟨[(10, VI 3), (9, .emp), (8, .ref 1 8 0 0)], [(G44 v), G58]⟩ ?_
 refine rtr ?_
 refine rqa (.tup [.agg [VI 0, VI 0, .v (.string (⟨#[]⟩)), .v (.string (⟨#[]⟩)), VI 0, VI 0, .v (.string (⟨#[]⟩)), .v (.int .u64 0)], .emp, VI 3]) (Ale.tup (aR (aE 6 (aR .nil)))) ?_
 rotate_left
 all_goals (first | (rw [beg_no (by omega)]; rfl) | (rw [beg_bad (by omega) (by assumption)]; first | rfl | (simp [Bid.zero, Bid.new]; done)) | (rw [beg_ok (by omega) (by assumption)]; first | rfl | (simp [Bid.zero, Bid.new, *]; done)))
def badC : List Copy → Int
  | [] => 0
  | c :: r => if c.checkE ≠ 0 then c.checkE else badC r
def Copy.zero : Copy := ⟨⟨0, 0⟩, ⟨#[]⟩⟩
def aboveC (s : Stp) : List Copy → Bool
  | [] => false
  | c :: r => decide (s.lt c.at_) || aboveC s r
def topC (l : List Copy) : List Copy → Copy
  | [] => Copy.zero
  | c :: r => if aboveC c.at_ l = true then topC l r else c
def mergedP (l : List Copy) : Copy × Int := if l.length > 12 then (Copy.zero, 2) else if badC l ≠ 0 then (Copy.zero, badC l) else (topC l l, 0)
theorem lt_irrefl' {s : Stp} : ¬ s.lt s := by unfold Stp.lt; omega
theorem lt_asymm' {s t : Stp} (h : s.lt t) : ¬ t.lt s := by unfold Stp.lt at *; omega
theorem merged_two {c d : Copy} (hc : c.checkE = 0) (hd : d.checkE = 0) : mergedP [c, d] = (c.raw d, 0) := by
  have hb : badC [c, d] = 0 := by simp [badC, hc, hd]
  unfold mergedP
  rw [if_neg (by simp), if_neg (fun h => h hb)]
  unfold Copy.raw
  by_cases h : c.at_.lt d.at_
  · simp [topC, aboveC, h, lt_irrefl', lt_asymm' h]
  · simp [topC, aboveC, h, lt_irrefl']
section
variable (a15 : Copy) (a17 : Copy) (a22 : Copy) (a5 : Copy) (i : Nat) (j : Nat) (k : Nat) (l : List Copy)
abbrev G69 : OB := some ⟨3, [[VI 0, VI 0, .v (.string (⟨#[]⟩))]]⟩
abbrev G70 : LS := [(9, .lst 3 (l.map Copy.cs)), (2, .ref 0 3 0 0), (0, .lst 3 (l.map Copy.cs))]
abbrev G71 : AV := .agg [VI 0, VI 0, .v (.string (⟨#[]⟩))]
abbrev G72 : LS := [(4, VI 0), (2, .ref 0 3 0 0), (0, .lst 3 (l.map Copy.cs))]
abbrev G73 : LS := [(0, .lst 3 (l.map Copy.cs)), (2, .ref 0 3 0 0), (4, VI (k : Int))]
abbrev G74 : LS := (14, .lst 3 (l.map Copy.cs)) :: (13, VI (k : Int)) :: (G73 k l)
abbrev G75 : LS := (20, VI (k : Int)) :: (19, .lst 3 (l.map Copy.cs)) :: (16, .v (.bool true)) :: (G73 k l)
abbrev G76 : LS := (21, .pim [VI a5.at_.time, VI a5.at_.who, .v (.string a5.data)] 0) :: (G75 k l)
abbrev G77 : AV := .agg [VI a5.at_.time, VI a5.at_.who, .v (.string a5.data)]
abbrev G78 : LS := [(17, VI (k : Int)), (25, .v (.bool false)), (5, VI a5.checkE), (0, .lst 3 (l.map Copy.cs)), (2, .ref 0 3 0 0)]
abbrev G79 : LS := (4, VI ((k : Int) + 1)) :: (18, VI ((k : Int) + 1)) :: (G78 a5 k l)
abbrev G80 : LS := [(6, VI 0), (0, .lst 3 (l.map Copy.cs)), (2, .ref 0 3 0 0)]
abbrev G81 : LS := [(0, .lst 3 (l.map Copy.cs)), (2, .ref 0 3 0 0), (6, VI (j : Int))]
abbrev G82 : LS := (29, .lst 3 (l.map Copy.cs)) :: (28, VI (j : Int)) :: (G81 j l)
abbrev G83 : LS := [(7, .v (.bool true)), (53, .v (.bool true)), (52, .v undef), (51, .v undef), (50, .v undef), (49, .v undef), (48, .v undef), (47, .v undef), (46, .v undef), (45, .v undef), (44, .v undef), (43, .v undef), (42, .v undef), (41, .v (.bool true)), (40, .v (.bool true)), (37, .v (.bool true)), (0, .lst 3 (l.map Copy.cs)), (2, .ref 0 3 0 0), (6, VI (j : Int)), (8, VI (i : Int))]
abbrev G84 : LS := (38, VI (i : Int)) :: (7, .v (.bool true)) :: (53, .v (.bool true)) :: (52, .v undef) :: (51, .v undef) :: (50, .v undef) :: (49, .v undef) :: (48, .v undef) :: (47, .v undef) :: (46, .v undef) :: (45, .v undef) :: (44, .v undef) :: (43, .v undef) :: (42, .v undef) :: (41, .v (.bool true)) :: (40, .v (.bool true)) :: (37, .v (.bool true)) :: (G81 j l)
abbrev G85 : LS := (8, VI ((i : Int) + 1)) :: (39, VI ((i : Int) + 1)) :: (G84 i j l)
abbrev G86 : LS := [(43, VI (j : Int)), (42, .lst 3 (l.map Copy.cs)), (41, .v (.bool false)), (40, .v (.bool false)), (37, .v (.bool true)), (0, .lst 3 (l.map Copy.cs)), (2, .ref 0 3 0 0), (6, VI (j : Int)), (7, .v (.bool false)), (8, VI (i : Int))]
abbrev G87 : LS := (44, .pim [VI a15.at_.time, VI a15.at_.who, .v (.string a15.data)] 0) :: (G86 i j l)
abbrev G88 : AV := .agg [VI a15.at_.time, VI a15.at_.who]
abbrev G89 : LS := (48, VI (i : Int)) :: (47, .lst 3 (l.map Copy.cs)) :: (46, (G88 a15)) :: (45, .pim [VI a15.at_.time, VI a15.at_.who, .v (.string a15.data)] 0) :: (G87 a15 i j l)
abbrev G90 : LS := (49, .pim [VI a17.at_.time, VI a17.at_.who, .v (.string a17.data)] 0) :: (G89 a15 i j l)
abbrev G91 : AV := .agg [VI a17.at_.time, VI a17.at_.who]
abbrev G92 : LS := (51, (G91 a17)) :: (50, .pim [VI a17.at_.time, VI a17.at_.who, .v (.string a17.data)] 0) :: (G90 a15 a17 i j l)
abbrev G93 : LS := [(51, (G91 a17)), (50, .pim [VI a17.at_.time, VI a17.at_.who, .v (.string a17.data)] 0), (49, .pim [VI a17.at_.time, VI a17.at_.who, .v (.string a17.data)] 0), (48, VI (i : Int)), (47, .lst 3 (l.map Copy.cs)), (46, (G88 a15)), (45, .pim [VI a15.at_.time, VI a15.at_.who, .v (.string a15.data)] 0), (44, .pim [VI a15.at_.time, VI a15.at_.who, .v (.string a15.data)] 0), (43, VI (j : Int)), (42, .lst 3 (l.map Copy.cs)), (41, .v (.bool false)), (40, .v (.bool false)), (37, .v (.bool true)), (0, .lst 3 (l.map Copy.cs)), (2, .ref 0 3 0 0), (6, VI (j : Int)), (8, VI (i : Int))]
abbrev G94 : LS := (51, (G91 a17)) :: (50, .pim [VI a17.at_.time, VI a17.at_.who, .v (.string a17.data)] 0) :: (49, .pim [VI a17.at_.time, VI a17.at_.who, .v (.string a17.data)] 0) :: (48, VI (i : Int)) :: (47, .lst 3 (l.map Copy.cs)) :: (46, (G88 a15)) :: (45, .pim [VI a15.at_.time, VI a15.at_.who, .v (.string a15.data)] 0) :: (44, .pim [VI a15.at_.time, VI a15.at_.who, .v (.string a15.data)] 0) :: (43, VI (j : Int)) :: (42, .lst 3 (l.map Copy.cs)) :: (41, .v (.bool false)) :: (40, .v (.bool false)) :: (37, .v (.bool true)) :: (G81 j l)
abbrev G95 : LS := [(32, VI (j : Int)), (55, .v (.bool false)), (0, .lst 3 (l.map Copy.cs)), (2, .ref 0 3 0 0)]
abbrev G96 : LS := (6, VI ((j : Int) + 1)) :: (33, VI ((j : Int) + 1)) :: (G95 j l)
abbrev G97 : LS := (57, VI (j : Int)) :: (56, .lst 3 (l.map Copy.cs)) :: (55, .v (.bool true)) :: (G81 j l)
abbrev G98 : LS := (58, .pim [VI a22.at_.time, VI a22.at_.who, .v (.string a22.data)] 0) :: (G97 j l)
abbrev G99 : OB := some ⟨3, [[VI a22.at_.time, VI a22.at_.who, .v (.string a22.data)]]⟩
abbrev G100 : AV := .agg [VI a22.at_.time, VI a22.at_.who, .v (.string a22.data)]
end
theorem merged_fn (l : List Copy) (hx : l.length ≤ 9223372036854775807) : Fn Tryd.prog 59 [.lst 3 (l.map Copy.cs)] (.tup [.agg [VI ((((mergedP l).1).at_).time), VI ((((mergedP l).1).at_).who), .v (.string (((mergedP l).1).data))], VI ((mergedP l).2)]) := by
 refine fnw F59_ok ?_
 refine srl 2 [0, 2] ⟨[(2, .ref 0 3 0 0), (0, .lst 3 (l.map Copy.cs))], [G69]⟩ ?_
 refine EL.seq ?_
 refine srr 1 ⟨(G70 l), [G69]⟩ ?_
 refine ow2 ⟨(10, VI (List.length l : Int)) :: (G70 l), [G69]⟩ (oln Copy.cs l (.s 9) 3) ?_
 refine owl 1 [0, 2, 11] ⟨[(11, .v (.bool (decide ((List.length l : Int) > 12)))), (2, .ref 0 3 0 0), (0, .lst 3 (l.map Copy.cs))], [G69]⟩ ?_
 cases h1 : (decide ((List.length l : Int) > 12))
 have g1 := of_decide_eq_false h1
 have n1 : ¬ ((List.length l) > 12) := by omega
 refine cnF ?_
 refine skn ?_
 refine EL.seq ?_
 refine srl 1 [0, 2, 4] ⟨(G72 l), [G69]⟩ ?_
 refine EL.block ?_
 refine EL.loopN (fun mM xX => ∃ (k : Nat), mM = l.length - k ∧ (k ≤ l.length ∧ l.length ≤ 12 ∧ badC l = badC (l.drop k)) ∧ xX = ⟨(G73 k l), [G69]⟩) (y := (fun (k : Nat) => (⟨(G73 k l), [G69]⟩ : L3)) 0) [0, 2, 4] [uf 0] [] (by kernel_rfl) trivial ⟨0, rfl, by simp; omega, rfl⟩ ?_
 rintro _ _ ⟨k, rfl, hI2, rfl⟩
 obtain ⟨hk, hl, hs⟩ := hI2
 refine EL.seq ?_
 refine srr 2 ⟨(G74 k l), [G69]⟩ ?_
 refine ow2 ⟨(15, VI (List.length l : Int)) :: (G74 k l), [G69]⟩ (oln Copy.cs l (.s 14) 3) ?_
 refine owl 1 [0, 2, 4, 16] ⟨(16, .v (.bool (decide ((k : Int) < (List.length l : Int))))) :: (G73 k l), [G69]⟩ ?_
 cases h3 : (decide ((k : Int) < (List.length l : Int)))
 have g3 := of_decide_eq_false h3
 have n3 : ¬ ((k) < (List.length l)) := by omega
 refine cnF ?_
 refine EL.exit ?_
 refine tX ?_
 refine tX ?_
 refine iH ?_
 refine tN ?_
 refine EL.seq ?_
 refine srl 1 [0, 2, 6] ⟨(G80 l), [G69]⟩ ?_
 refine EL.block ?_
 refine EL.loopN (fun mM xX => ∃ (j : Nat), mM = l.length - j ∧ (j ≤ l.length ∧ l.length ≤ 12 ∧ badC l = 0 ∧ topC l l = topC l (l.drop j)) ∧ xX = ⟨(G81 j l), [G69]⟩) (y := (fun (j : Nat) => (⟨(G81 j l), [G69]⟩ : L3)) 0) [0, 2, 6] [uf 0] [] (by kernel_rfl) trivial ⟨0, rfl, by rw [List.drop_eq_nil_of_le (by omega)] at hs; exact ⟨by omega, by omega, hs, by simp⟩, rfl⟩ ?_
 rintro _ _ ⟨j, rfl, hI8, rfl⟩
 obtain ⟨hj, hl', hb, ht⟩ := hI8
 refine EL.seq ?_
 refine srr 2 ⟨(G82 j l), [G69]⟩ ?_
 refine ow2 ⟨(30, VI (List.length l : Int)) :: (G82 j l), [G69]⟩ (oln Copy.cs l (.s 29) 3) ?_
 refine owl 1 [0, 2, 6, 31] ⟨(31, .v (.bool (decide ((j : Int) < (List.length l : Int))))) :: (G81 j l), [G69]⟩ ?_
 cases h9 : (decide ((j : Int) < (List.length l : Int)))
 have g9 := of_decide_eq_false h9
 have n9 : ¬ ((j) < (List.length l)) := by omega
 refine cnF ?_
 refine EL.exit ?_
 refine tX ?_
 refine tX ?_
 refine iH ?_
 refine tN ?_
 refine srl 3 [2, 3] ⟨[(3, VI 0), (2, .ref 0 3 0 0)], [G69]⟩ ?_
 refine EL.ret ?_
 refine rqe (.tup [G71, VI 0]) ?_
 rotate_left
 have g9 := of_decide_eq_true h9
 have n9 : ((j) < (List.length l)) := by omega
 refine cnT ?_
 refine skn ?_
 refine EL.seq ?_
 refine EL.block ?_
 refine srl 1 [0, 2, 6, 7] ⟨(7, .v (.bool false)) :: (G81 j l), [G69]⟩ ?_
 refine EL.seq ?_
 refine srl 1 [0, 2, 6, 7, 8] ⟨(8, VI 0) :: (7, .v (.bool false)) :: (G81 j l), [G69]⟩ ?_
 refine EL.block ?_
 refine EL.loopN (fun mM xX => ∃ (i : Nat) (b : Bool), mM = l.length - i ∧ (i ≤ l.length ∧ j < l.length ∧ ∀ c, l[j]? = some c → (b || aboveC c.at_ (l.drop i)) = aboveC c.at_ l) ∧ xX = ⟨[(0, .lst 3 (l.map Copy.cs)), (2, .ref 0 3 0 0), (6, VI (j : Int)), (7, .v (.bool b)), (8, VI (i : Int))], [G69]⟩) (y := (fun (i : Nat) (b : Bool) => (⟨[(0, .lst 3 (l.map Copy.cs)), (2, .ref 0 3 0 0), (6, VI (j : Int)), (7, .v (.bool b)), (8, VI (i : Int))], [G69]⟩ : L3)) 0 false) [0, 2, 6, 7, 8] [uf 0] [] (by kernel_rfl) trivial ⟨0, false, rfl, by exact ⟨by omega, by omega, fun c hc => by simp⟩, rfl⟩ ?_
 rintro _ _ ⟨i, b, rfl, hI10, rfl⟩
 obtain ⟨hi, hj2, ha⟩ := hI10
 refine EL.seq ?_
 refine srr 2 ⟨[(35, .lst 3 (l.map Copy.cs)), (34, VI (i : Int)), (0, .lst 3 (l.map Copy.cs)), (2, .ref 0 3 0 0), (6, VI (j : Int)), (7, .v (.bool b)), (8, VI (i : Int))], [G69]⟩ ?_
 refine ow2 ⟨[(36, VI (List.length l : Int)), (35, .lst 3 (l.map Copy.cs)), (34, VI (i : Int)), (0, .lst 3 (l.map Copy.cs)), (2, .ref 0 3 0 0), (6, VI (j : Int)), (7, .v (.bool b)), (8, VI (i : Int))], [G69]⟩ (oln Copy.cs l (.s 35) 3) ?_
 refine owl 1 [0, 2, 6, 7, 8, 37] ⟨[(37, .v (.bool (decide ((i : Int) < (List.length l : Int))))), (0, .lst 3 (l.map Copy.cs)), (2, .ref 0 3 0 0), (6, VI (j : Int)), (7, .v (.bool b)), (8, VI (i : Int))], [G69]⟩ ?_
 cases h11 : (decide ((i : Int) < (List.length l : Int)))
 have g11 := of_decide_eq_false h11
 have n11 : ¬ ((i) < (List.length l)) := by omega
 refine cnF ?_
 refine EL.exit ?_
 refine tX ?_
 refine tX ?_
 refine iH ?_
 refine tN ?_
 refine srl 2 [0, 2, 6, 55] ⟨(55, .v (.bool (!b))) :: (G81 j l), [G69]⟩ ?_
 cases h19 : b
 refine cnT ?_
 refine srr 2 ⟨(G97 j l), [G69]⟩ ?_
 obtain ⟨a22, ha22⟩ : ∃ y, l[((j : Int) : Int).toNat]? = some y := idx_ex ⟨by omega, by omega⟩
 have iha22 : l[j]? = some a22 := by simpa using ha22
 have dha22 := drop_get iha22
 refine ow2 ⟨(G98 a22 j l), [G69]⟩ (oid Copy.cs l (.s 56) (.s 57) 3 .i64 (j : Int) a22 (by omega) ha22) ?_
 refine owl 3 [2, 3] ⟨[(3, VI 0), (2, .ref 0 3 0 0)], [(G99 a22)]⟩ ?_
 refine EL.ret ?_
 refine iR ?_
 refine tR ?_
 refine tR ?_
 refine iR ?_
 refine tR ?_
 refine rqe (.tup [(G100 a22), VI 0]) ?_
 rotate_left
 refine cnF ?_
 refine EL.skip ?_
 refine iN ?_
 refine tN ?_
 refine EL.reg0 ?_
 refine owr 3 ⟨(6, VI (IntKind.i64.wrap ((j : Int) + 1))) :: (33, VI (IntKind.i64.wrap ((j : Int) + 1))) :: (G95 j l), [G69]⟩ ?_
 have e20 := wr64 (n := (j : Int) + 1) (by omega)
 rw [e20]
 refine owe 0 ⟨(G96 j l), [G69]⟩ ?_
 refine tN ?_
 refine rE (live := [0, 2, 6]) (src := [uf 0]) (es := []) (y := (fun (j : Nat) => (⟨(G81 j l), [G69]⟩ : L3)) (j + 1)) ?_ trivial ?_ ⟨(j + 1), rfl, ?_, rfl⟩
 kernel_rfl
 omega
 focus ((refine ⟨by omega, hl', hb, ?_⟩; have hq := ha _ (List.getElem?_eq_getElem hj2); rw [List.drop_eq_nil_of_le (by omega)] at hq; rw [ht, List.drop_eq_getElem_cons hj2, topC, if_pos (by rw [← hq]; simp [*])]))
 have g11 := of_decide_eq_true h11
 have n11 : ((i) < (List.length l)) := by omega
 refine cnT ?_
 refine skn ?_
 refine EL.seq ?_
 refine EL.block ?_
 refine EL.draw0 ?_
 refine dwr 2 ⟨[(41, .v (.bool b)), (40, .v (.bool b)), (37, .v (.bool true)), (0, .lst 3 (l.map Copy.cs)), (2, .ref 0 3 0 0), (6, VI (j : Int)), (7, .v (.bool b)), (8, VI (i : Int))], [G69]⟩ ?_
 cases h12 : b
 refine dwr 2 ⟨(G86 i j l), [G69]⟩ ?_
 obtain ⟨a15, ha15⟩ : ∃ y, l[((j : Int) : Int).toNat]? = some y := idx_ex ⟨by omega, by omega⟩
 have iha15 : l[j]? = some a15 := by simpa using ha15
 have dha15 := drop_get iha15
 refine dw2 ⟨(G87 a15 i j l), [G69]⟩ (oid Copy.cs l (.s 42) (.s 43) 3 .i64 (j : Int) a15 (by omega) ha15) ?_
 refine dwr 4 ⟨(G89 a15 i j l), [G69]⟩ ?_
 obtain ⟨a17, ha17⟩ : ∃ y, l[((i : Int) : Int).toNat]? = some y := idx_ex ⟨by omega, by omega⟩
 have iha17 : l[i]? = some a17 := by simpa using ha17
 have dha17 := drop_get iha17
 refine dw2 ⟨(G90 a15 a17 i j l), [G69]⟩ (oid Copy.cs l (.s 47) (.s 48) 3 .i64 (i : Int) a17 (by omega) ha17) ?_
 refine dwr 2 ⟨(G92 a15 a17 i j l), [G69]⟩ ?_
 refine dwg [(G88 a15), (G91 a17)] ⟨(52, .v (.bool (decide (a15.at_.lt a17.at_)))) :: (G92 a15 a17 i j l), [G69]⟩ (rless_fn a15.at_ a17.at_) ?_
 refine dwe 2 ⟨(7, .v (.bool (decide (a15.at_.lt a17.at_)))) :: (53, .v (.bool (decide (a15.at_.lt a17.at_)))) :: (52, .v (.bool (decide (a15.at_.lt a17.at_)))) :: (G93 a15 a17 i j l), [G69]⟩ ?_
 refine iN ?_
 refine tN ?_
 refine EL.reg0 ?_
 refine owr 3 ⟨(8, VI (IntKind.i64.wrap ((i : Int) + 1))) :: (39, VI (IntKind.i64.wrap ((i : Int) + 1))) :: (38, VI (i : Int)) :: (7, .v (.bool (decide (a15.at_.lt a17.at_)))) :: (53, .v (.bool (decide (a15.at_.lt a17.at_)))) :: (52, .v (.bool (decide (a15.at_.lt a17.at_)))) :: (G94 a15 a17 i j l), [G69]⟩ ?_
 have e18 := wr64 (n := (i : Int) + 1) (by omega)
 rw [e18]
 refine owe 0 ⟨(8, VI ((i : Int) + 1)) :: (39, VI ((i : Int) + 1)) :: (38, VI (i : Int)) :: (7, .v (.bool (decide (a15.at_.lt a17.at_)))) :: (53, .v (.bool (decide (a15.at_.lt a17.at_)))) :: (52, .v (.bool (decide (a15.at_.lt a17.at_)))) :: (G94 a15 a17 i j l), [G69]⟩ ?_
 refine tN ?_
 refine rE (live := [0, 2, 6, 7, 8]) (src := [uf 0]) (es := []) (y := (fun (i : Nat) (b : Bool) => (⟨[(0, .lst 3 (l.map Copy.cs)), (2, .ref 0 3 0 0), (6, VI (j : Int)), (7, .v (.bool b)), (8, VI (i : Int))], [G69]⟩ : L3)) (i + 1) (decide (a15.at_.lt a17.at_))) ?_ trivial ?_ ⟨(i + 1), (decide (a15.at_.lt a17.at_)), rfl, ?_, rfl⟩
 kernel_rfl
 omega
 focus ((refine ⟨by omega, by omega, fun c hc => ?_⟩; have hq := ha c hc; first | (simp_all; done) | (rw [‹l.drop i = _›, aboveC] at hq; simp_all; done)))
 refine dwe 13 ⟨(G83 i j l), [G69]⟩ ?_
 refine iN ?_
 refine tN ?_
 refine EL.reg0 ?_
 refine owr 3 ⟨(8, VI (IntKind.i64.wrap ((i : Int) + 1))) :: (39, VI (IntKind.i64.wrap ((i : Int) + 1))) :: (G84 i j l), [G69]⟩ ?_
 have e13 := wr64 (n := (i : Int) + 1) (by omega)
 rw [e13]
 refine owe 0 ⟨(G85 i j l), [G69]⟩ ?_
 refine tN ?_
 refine rE (live := [0, 2, 6, 7, 8]) (src := [uf 0]) (es := []) (y := (fun (i : Nat) (b : Bool) => (⟨[(0, .lst 3 (l.map Copy.cs)), (2, .ref 0 3 0 0), (6, VI (j : Int)), (7, .v (.bool b)), (8, VI (i : Int))], [G69]⟩ : L3)) (i + 1) true) ?_ trivial ?_ ⟨(i + 1), true, rfl, ?_, rfl⟩
 kernel_rfl
 omega
 focus ((refine ⟨by omega, by omega, fun c hc => ?_⟩; have hq := ha c hc; first | (simp_all; done) | (rw [‹l.drop i = _›, aboveC] at hq; simp_all; done)))
 have g3 := of_decide_eq_true h3
 have n3 : ((k) < (List.length l)) := by omega
 refine cnT ?_
 refine skn ?_
 refine EL.seq ?_
 refine EL.block ?_
 refine srr 2 ⟨(G75 k l), [G69]⟩ ?_
 obtain ⟨a5, ha5⟩ : ∃ y, l[((k : Int) : Int).toNat]? = some y := idx_ex ⟨by omega, by omega⟩
 have iha5 : l[k]? = some a5 := by simpa using ha5
 have dha5 := drop_get iha5
 refine ow2 ⟨(G76 a5 k l), [G69]⟩ (oid Copy.cs l (.s 19) (.s 20) 3 .i64 (k : Int) a5 (by omega) ha5) ?_
 refine owr 1 ⟨(22, (G77 a5)) :: (G76 a5 k l), [G69]⟩ ?_
 refine owg [(G77 a5)] ⟨(23, VI a5.checkE) :: (22, (G77 a5)) :: (G76 a5 k l), [G69]⟩ (rccheck_fn a5) ?_
 refine owl 1 [0, 2, 4, 5] ⟨(5, VI a5.checkE) :: (G73 k l), [G69]⟩ ?_
 refine srl 2 [0, 2, 4, 5, 25] ⟨(25, .v (.bool (a5.checkE != 0))) :: (5, VI a5.checkE) :: (G73 k l), [G69]⟩ ?_
 cases h6 : (a5.checkE != 0)
 have g6 := bnF h6
 refine cnF ?_
 refine EL.skip ?_
 refine iN ?_
 refine tN ?_
 refine EL.reg0 ?_
 refine owr 3 ⟨(4, VI (IntKind.i64.wrap ((k : Int) + 1))) :: (18, VI (IntKind.i64.wrap ((k : Int) + 1))) :: (G78 a5 k l), [G69]⟩ ?_
 have e7 := wr64 (n := (k : Int) + 1) (by omega)
 rw [e7]
 refine owe 0 ⟨(G79 a5 k l), [G69]⟩ ?_
 refine tN ?_
 refine rE (live := [0, 2, 4]) (src := [uf 0]) (es := []) (y := (fun (k : Nat) => (⟨(G73 k l), [G69]⟩ : L3)) (k + 1)) ?_ trivial ?_ ⟨(k + 1), rfl, ?_, rfl⟩
 kernel_rfl
 omega
 focus ((refine ⟨by omega, hl, ?_⟩; rw [hs, ‹l.drop k = _›, badC, if_neg (by omega)]))
 have g6 := bnT h6
 refine cnT ?_
 refine srl 4 [2, 3] ⟨[(3, VI a5.checkE), (2, .ref 0 3 0 0)], [G69]⟩ ?_
 refine EL.ret ?_
 refine iR ?_
 refine tR ?_
 refine tR ?_
 refine iR ?_
 refine tR ?_
 refine rqe (.tup [G71, VI a5.checkE]) ?_
 rotate_left
 have g1 := of_decide_eq_true h1
 have n1 : ((List.length l) > 12) := by omega
 refine cnT ?_
 refine srl 3 [2, 3] ⟨[(3, VI 2), (2, .ref 0 3 0 0)], [G69]⟩ ?_
 refine rtr ?_
 refine rqe (.tup [G71, VI 2]) ?_
 rotate_left
 all_goals (first | (rw [mergedP, if_pos (by omega)]; rfl) | (have hb9 : badC l ≠ 0 := (by rw [hs, ‹l.drop k = _›, badC, if_pos (by assumption)]; assumption); rw [mergedP, if_neg (by omega), if_pos hb9, hs, ‹l.drop k = _›, badC, if_pos (by assumption)]; rfl) | (rw [mergedP, if_neg (by omega), if_neg (fun hh => hh hb), ht, List.drop_eq_nil_of_le (by omega)]; rfl) | (have hq := ha _ (by assumption); rw [List.drop_eq_nil_of_le (by omega)] at hq; rw [mergedP, if_neg (by omega), if_neg (fun hh => hh hb), ht, ‹l.drop j = _›, topC, if_neg (by rw [← hq]; simp [*, aboveC])]))
theorem hear_no {v : Vtr} {no : Int} {b : Bid} {m : Vote} (h1 : 0 ≤ no ∧ no ≤ 30) (h2 : b.checkE v.weights v.need = 0) (h3 : m.checkE = 0) (h : m.bid ≠ no ∨ fitsP b no m = false ∨ m.node ≥ v.weights.length ∨ inS b.heard.n m.node.toNat = true) : hearP v no b m = (b, [], 0) := by
  unfold hearP
  rw [if_neg (fun hh => hh h1), if_neg (fun hh => hh h2), if_neg (fun hh => hh h3), if_pos]
  rcases h with h | h | h | h
  · exact .inl h
  · exact .inr (.inl h)
  · exact .inr (.inr (.inl h))
  · exact .inr (.inr (.inr fun hh => by rw [and_bit.1 hh] at h; simp at h))
theorem bid_ok {v : Vtr} {b : Bid} (h : b.checkE v.weights v.need = 0) : qcheckP v.weights v.need = 0 ∧ b.best.checkE = 0 ∧ b.heard.n < 2 ^ v.weights.length ∧ (1 ≤ b.time ∧ b.time ≤ 1000000) ∧ (1 ≤ b.phase ∧ b.phase ≤ 3) := by
  unfold Bid.checkE at h
  by_cases h1 : qcheckP v.weights v.need = 0
  · rw [if_neg (fun hh => hh h1)] at h
    by_cases h2 : 1 ≤ b.time ∧ b.time ≤ 1000000
    · rw [if_neg (fun hh => hh h2)] at h
      by_cases h3 : 1 ≤ b.phase ∧ b.phase ≤ 3
      · rw [if_neg (fun hh => hh h3)] at h
        by_cases h4 : b.own.size > 64 ∨ b.value.size > 64
        · rw [if_pos h4] at h; simp at h
        · rw [if_neg h4] at h
          by_cases h5 : b.best.checkE = 0
          · rw [if_neg (fun hh => hh h5)] at h
            by_cases h6 : (len64 b.heard.n : Int) > v.weights.length
            · rw [if_pos h6] at h; simp at h
            · refine ⟨h1, h5, Nat.not_le.1 fun hh => h6 ?_, h2, h3⟩
              have := len64_gt.2 hh; omega
          · rw [if_pos h5] at h; exact absurd h h5
      · rw [if_pos h3] at h; simp at h
    · rw [if_pos h2] at h; simp at h
  · rw [if_pos h1] at h; exact absurd h h1
theorem vote_copy {m : Vote} (h : m.checkE = 0) : m.copy.checkE = 0 := by
  unfold Vote.checkE at h
  split at h
  · simp at h
  · split at h
    · simp at h
    · split at h
      · rename_i h3; exact absurd h h3
      · rename_i h3; exact Decidable.not_not.1 h3
theorem enough_iff {ws : List Int} {need : Int} {x : Nat} (h : qcheckP ws need = 0) (hx : x < 2 ^ ws.length) : (enoughP ws need x).1 = true ↔ ¬ bsum ws x < need := by
  unfold enoughP
  rw [if_neg (fun hh => hh h), sumP_0 (qc_nodes h) hx]
  simp
theorem hear_yes {v : Vtr} {no : Int} {b : Bid} {m : Vote} (h1 : 0 ≤ no ∧ no ≤ 30) (h2 : b.checkE v.weights v.need = 0) (h3 : m.checkE = 0) (h4 : m.bid = no) (h5 : fitsP b no m = true) (h6 : ¬ m.node ≥ v.weights.length) (h7 : inS b.heard.n m.node.toNat = false) :
    hearP v no b m = if bsum v.weights (orU b.heard m.node.toNat).n < v.need then (heardP b m, [], 0) else onP v no (heardP b m) := by
  have hb := bid_ok h2
  have hn := vote_node h3
  rw [hear_go h1 h2 h3 h4 h5 h6 (by rw [and_bit.2 h7]; rfl)]
  have hs : (orU b.heard m.node.toNat).n < 2 ^ v.weights.length := or_sub hb.2.2.1 (by omega) (qc_len hb.1)
  by_cases h : bsum v.weights (orU b.heard m.node.toNat).n < v.need
  · rw [if_neg (fun hh => (enough_iff hb.1 hs).1 hh h), if_pos h]
  · rw [if_pos ((enough_iff hb.1 hs).2 h), if_neg h]
section
variable (b : Bid) (m : Vote) (no : Int) (v : Vtr)
abbrev G175 := (orU b.heard (Int.toNat m.node))
abbrev G176 := (b.checkE v.weights v.need)
abbrev G101 : LB := [(G44 v), (G45 b), (G28 m), G58]
abbrev G102 : LS := [(8, .ref 3 8 0 0), (7, .ref 2 6 0 0), (6, .ref 1 8 0 0), (4, .ref 0 2 0 0), (1, VI no)]
abbrev G103 : AV := .agg [VI b.time, VI b.phase, .v (.string b.own), .v (.string b.value), VI b.best.at_.time, VI b.best.at_.who, .v (.string b.best.data), .v (.int .u64 (b.heard.n : Int))]
abbrev G104 : LS := (22, (G103 b)) :: (21, (G64 v)) :: (19, .v (.bool false)) :: (G102 no)
abbrev G105 : AV := .agg [VI m.kind, VI m.bid, VI m.node, VI m.copy.at_.time, VI m.copy.at_.who, .v (.string m.copy.data)]
abbrev G106 : LS := (26, (G105 m)) :: (25, .v (.bool true)) :: (11, VI (G176 b v)) :: (G102 no)
abbrev G107 : LS := (11, VI m.checkE) :: (27, VI m.checkE) :: (26, (G105 m)) :: (25, .v (.bool true)) :: (G102 no)
abbrev G108 : LS := [(10, VI m.checkE), (9, .emp), (8, .ref 3 8 0 0)]
abbrev G109 : OB := some ⟨2, [[VI b.time, VI no]]⟩
abbrev G110 : LB := [(G44 v), (G45 b), (G28 m), G58, (G109 b no)]
abbrev G111 : LS := (37, VI b.phase) :: (36, .ref 1 8 0 1) :: (12, .ref 4 2 0 0) :: (G102 no)
abbrev G112 : LS := (41, VI m.kind) :: (40, .ref 2 6 0 0) :: (39, .v (.bool true)) :: (38, .v (.bool true)) :: (G111 b no)
abbrev G113 : LS := (63, VI no) :: (62, VI m.bid) :: (61, .ref 2 6 0 1) :: (13, .v (.bool true)) :: (12, .ref 4 2 0 0) :: (G102 no)
abbrev G114 : LB := [(G44 v), (G45 b), (G28 m), (G45 b), (G109 b no)]
abbrev G115 : LS := (73, .lst 1 (v.weights.map cI)) :: (72, .ref 0 2 0 0) :: (71, VI m.node) :: (70, .ref 2 6 0 2) :: (69, .v (.bool false)) :: (68, .v (.bool false)) :: (67, .v (.bool false)) :: (66, .v (.bool true)) :: (65, .v (.bool false)) :: (64, .v (.bool false)) :: (G113 m no)
abbrev G116 : LS := (81, VI m.node) :: (80, .ref 2 6 0 2) :: (79, .v (.int .u64 (b.heard.n : Int))) :: (78, .ref 1 8 0 7) :: (77, .v (.bool false)) :: (76, .v (.bool false)) :: (75, .v (.bool false)) :: (74, VI (List.length v.weights : Int)) :: (G115 m no v)
abbrev G117 : LS := (88, VI m.node) :: (87, .ref 2 6 0 2) :: (86, .v (.int .u64 (b.heard.n : Int))) :: (85, .ref 1 8 0 7) :: (83, .v (.bool false)) :: (12, .ref 4 2 0 0) :: (G102 no)
abbrev G118 : LS := (89, .v (.int .u64 ((2 ^ (Int.toNat m.node) : Nat) : Int))) :: (G117 b m no)
abbrev G119 : OB := some ⟨8, [[VI b.time, VI b.phase, .v (.string b.own), .v (.string b.value), VI b.best.at_.time, VI b.best.at_.who, .v (.string b.best.data), .v (.int .u64 ((G175 b m).n : Int))]]⟩
abbrev G120 : LB := [(G44 v), (G119 b m), (G28 m), G58, (G109 b no)]
abbrev G121 : AV := .agg [VI m.copy.at_.time, VI m.copy.at_.who, .v (.string m.copy.data)]
abbrev G122 : OB := some ⟨3, [[VI b.best.at_.time, VI b.best.at_.who, .v (.string b.best.data)], [VI m.copy.at_.time, VI m.copy.at_.who, .v (.string m.copy.data)]]⟩
abbrev G123 : LB := [(G44 v), (G119 b m), (G28 m), G58, (G109 b no), (G122 b m)]
abbrev G124 : LS := (100, .own 5 3 0 2) :: (99, (G121 m)) :: (98, .ref 2 6 0 3) :: (97, (G54 b)) :: (96, .ref 1 8 0 4) :: (94, .v (.bool true)) :: (12, .ref 4 2 0 0) :: (G102 no)
abbrev G125 : AV := .agg [VI ((((mergedP ([b.best, m.copy])).1).at_).time), VI ((((mergedP ([b.best, m.copy])).1).at_).who), .v (.string (((mergedP ([b.best, m.copy])).1).data))]
abbrev G126 : LS := (101, .tup [(G125 b m), VI ((mergedP ([b.best, m.copy])).2)]) :: (G124 b m no)
abbrev G127 : OB := some ⟨8, [[VI b.time, VI b.phase, .v (.string b.own), .v (.string b.value), VI ((((mergedP ([b.best, m.copy])).1).at_).time), VI ((((mergedP ([b.best, m.copy])).1).at_).who), .v (.string (((mergedP ([b.best, m.copy])).1).data)), .v (.int .u64 ((G175 b m).n : Int))]]⟩
abbrev G128 : LB := [(G44 v), (G127 b m), (G28 m), G58, (G109 b no), (G122 b m)]
abbrev G129 : LS := (104, .ref 1 8 0 4) :: (103, VI ((mergedP ([b.best, m.copy])).2)) :: (102, (G125 b m)) :: (95, .tup [(G125 b m), VI ((mergedP ([b.best, m.copy])).2)]) :: (G126 b m no)
abbrev G130 : LS := (108, .v (.int .u64 ((G175 b m).n : Int))) :: (107, .ref 1 8 0 7) :: (106, .lst 1 (v.weights.map cI)) :: (105, .ref 0 2 0 0) :: (G129 b m no)
abbrev G131 : LS := (109, VI (bsum v.weights (G175 b m).n)) :: (G130 b m no v)
abbrev G132 : LS := [(12, .ref 4 2 0 0), (8, .ref 3 8 0 0), (6, .ref 1 8 0 0), (4, .ref 0 2 0 0), (1, VI no)]
abbrev G133 : LB := [(G44 v), (G127 b m), (G28 m), (G127 b m), (G109 b no), (G122 b m)]
abbrev G134 : OB := some ⟨8, [[VI b.time, VI 3, .v (.string b.own), .v (.string b.value), VI ((((mergedP ([b.best, m.copy])).1).at_).time), VI ((((mergedP ([b.best, m.copy])).1).at_).who), .v (.string (((mergedP ([b.best, m.copy])).1).data)), .v (.int .u64 ((G175 b m).n : Int))]]⟩
abbrev G135 : LB := [(G44 v), (G134 b m), (G28 m), G58, (G109 b no), (G122 b m)]
abbrev G136 : LB := [(G44 v), (G134 b m), (G28 m), (G134 b m), (G109 b no), (G122 b m)]
abbrev G137 : OB := some ⟨8, [[VI b.time, VI 2, .v (.string b.own), .v (.string b.value), VI ((((mergedP ([b.best, m.copy])).1).at_).time), VI ((((mergedP ([b.best, m.copy])).1).at_).who), .v (.string (((mergedP ([b.best, m.copy])).1).data)), .v (.int .u64 ((G175 b m).n : Int))]]⟩
abbrev G138 : LB := [(G44 v), (G137 b m), (G28 m), G58, (G109 b no), (G122 b m)]
abbrev G139 : OB := some ⟨8, [[VI b.time, VI 2, .v (.string b.own), .v (.string b.value), VI ((((mergedP ([b.best, m.copy])).1).at_).time), VI ((((mergedP ([b.best, m.copy])).1).at_).who), .v (.string (((mergedP ([b.best, m.copy])).1).data)), .v (.int .u64 0)]]⟩
abbrev G140 : LB := [(G44 v), (G139 b m), (G28 m), G58, (G109 b no), (G122 b m)]
abbrev G141 : OB := some ⟨8, [[VI b.time, VI 2, .v (.string b.own), .v (.string b.own), VI ((((mergedP ([b.best, m.copy])).1).at_).time), VI ((((mergedP ([b.best, m.copy])).1).at_).who), .v (.string (((mergedP ([b.best, m.copy])).1).data)), .v (.int .u64 0)]]⟩
abbrev G142 : LB := [(G44 v), (G141 b m), (G28 m), G58, (G109 b no), (G122 b m)]
abbrev G143 : AV := .agg [VI b.time, VI 2, .v (.string b.own), .v (.string b.own), VI ((((mergedP ([b.best, m.copy])).1).at_).time), VI ((((mergedP ([b.best, m.copy])).1).at_).who), .v (.string (((mergedP ([b.best, m.copy])).1).data)), .v (.int .u64 0)]
abbrev G144 : LS := (135, .lst 1 (v.weights.map cI)) :: (134, .ref 0 2 0 0) :: (133, (G143 b m)) :: (128, .v (.bool false)) :: (G132 no)
abbrev G145 : AV := .agg [VI 3, VI no, VI 0, VI b.time, VI no, .v (.string b.own)]
abbrev G146 : AV := .agg [VI b.time, VI no, .v (.string b.own)]
abbrev G147 : LS := (142, (G145 b no)) :: (141, (G146 b no)) :: (140, .v (.string b.own)) :: (139, .ref 1 8 0 3) :: (138, .agg [VI b.time, VI no]) :: (137, VI no) :: (136, VI (List.length v.weights : Int)) :: (G144 b m no v)
abbrev G148 : LS := (143, .lst 6 ((toAllP (List.length v.weights : Int).toNat (⟨3, no, 0, (⟨(⟨b.time, no⟩ : Stp), b.own⟩ : Copy)⟩ : Vote)).map Vote.cs)) :: (G147 b m no v)
abbrev G149 : LB := [(G44 v), (G141 b m), (G28 m), (G141 b m), (G109 b no), (G122 b m)]
abbrev G150 : LS := [(10, VI 0), (9, .lst 6 ((toAllP (List.length v.weights : Int).toNat (⟨3, no, 0, (⟨(⟨b.time, no⟩ : Stp), b.own⟩ : Copy)⟩ : Vote)).map Vote.cs)), (8, .ref 3 8 0 0)]
abbrev G151 : OB := some ⟨8, [[VI b.time, VI 2, .v (.string b.own), .v (.string (((mergedP ([b.best, m.copy])).1).data)), VI ((((mergedP ([b.best, m.copy])).1).at_).time), VI ((((mergedP ([b.best, m.copy])).1).at_).who), .v (.string (((mergedP ([b.best, m.copy])).1).data)), .v (.int .u64 0)]]⟩
abbrev G152 : LB := [(G44 v), (G151 b m), (G28 m), G58, (G109 b no), (G122 b m)]
abbrev G153 : LS := (132, .ref 1 8 0 3) :: (131, .v (.string (((mergedP ([b.best, m.copy])).1).data))) :: (130, .ref 1 8 0 6) :: (129, .ref 1 8 0 4) :: (128, .v (.bool true)) :: (G132 no)
abbrev G154 : AV := .agg [VI b.time, VI 2, .v (.string b.own), .v (.string (((mergedP ([b.best, m.copy])).1).data)), VI ((((mergedP ([b.best, m.copy])).1).at_).time), VI ((((mergedP ([b.best, m.copy])).1).at_).who), .v (.string (((mergedP ([b.best, m.copy])).1).data)), .v (.int .u64 0)]
abbrev G155 : LS := (135, .lst 1 (v.weights.map cI)) :: (134, .ref 0 2 0 0) :: (133, (G154 b m)) :: (G153 b m no)
abbrev G156 : AV := .agg [VI 3, VI no, VI 0, VI b.time, VI no, .v (.string (((mergedP ([b.best, m.copy])).1).data))]
abbrev G157 : AV := .agg [VI b.time, VI no, .v (.string (((mergedP ([b.best, m.copy])).1).data))]
abbrev G158 : LS := (142, (G156 b m no)) :: (141, (G157 b m no)) :: (140, .v (.string (((mergedP ([b.best, m.copy])).1).data))) :: (139, .ref 1 8 0 3) :: (138, .agg [VI b.time, VI no]) :: (137, VI no) :: (136, VI (List.length v.weights : Int)) :: (G155 b m no v)
abbrev G159 : LS := (143, .lst 6 ((toAllP (List.length v.weights : Int).toNat (⟨3, no, 0, (⟨(⟨b.time, no⟩ : Stp), ((mergedP ([b.best, m.copy])).1).data⟩ : Copy)⟩ : Vote)).map Vote.cs)) :: (G158 b m no v)
abbrev G160 : LB := [(G44 v), (G151 b m), (G28 m), (G151 b m), (G109 b no), (G122 b m)]
abbrev G161 : LS := [(10, VI 0), (9, .lst 6 ((toAllP (List.length v.weights : Int).toNat (⟨3, no, 0, (⟨(⟨b.time, no⟩ : Stp), ((mergedP ([b.best, m.copy])).1).data⟩ : Copy)⟩ : Vote)).map Vote.cs)), (8, .ref 3 8 0 0)]
abbrev G162 : LS := (46, VI b.phase) :: (45, .ref 1 8 0 1) :: (44, .v (.bool false)) :: (43, .v (.bool false)) :: (42, .v (.bool false)) :: (G112 b m no)
abbrev G163 : LS := (50, VI m.kind) :: (49, .ref 2 6 0 0) :: (48, .v (.bool true)) :: (47, .v (.bool true)) :: (G162 b m no)
abbrev G164 : LS := (13, .v (.bool false)) :: (12, .ref 4 2 0 0) :: (G102 no)
abbrev G165 : LS := (63, VI no) :: (62, VI m.bid) :: (61, .ref 2 6 0 1) :: (G164 no)
abbrev G166 : LS := (46, VI b.phase) :: (45, .ref 1 8 0 1) :: (44, .v (.bool false)) :: (43, .v (.bool false)) :: (42, .v undef) :: (41, .v undef) :: (40, .v undef) :: (39, .v (.bool false)) :: (38, .v (.bool false)) :: (G111 b no)
abbrev G167 : LS := (50, VI m.kind) :: (49, .ref 2 6 0 0) :: (48, .v (.bool true)) :: (47, .v (.bool true)) :: (G166 b no)
abbrev G168 : LS := (108, .v (.int .u64 ((G175 b m).n : Int))) :: (107, .ref 1 8 0 7) :: (106, .lst 1 (v.weights.map cI)) :: (105, .ref 0 2 0 0) :: (94, .v (.bool false)) :: (12, .ref 4 2 0 0) :: (G102 no)
abbrev G169 : LS := (109, VI (bsum v.weights (G175 b m).n)) :: (G168 b m no v)
abbrev G170 : LB := [(G44 v), (G119 b m), (G28 m), (G119 b m), (G109 b no)]
abbrev G171 : OB := some ⟨8, [[VI b.time, VI 3, .v (.string b.own), .v (.string b.value), VI b.best.at_.time, VI b.best.at_.who, .v (.string b.best.data), .v (.int .u64 ((G175 b m).n : Int))]]⟩
abbrev G172 : LB := [(G44 v), (G171 b m), (G28 m), G58, (G109 b no)]
abbrev G173 : LB := [(G44 v), (G171 b m), (G28 m), (G171 b m), (G109 b no)]
abbrev G174 : LS := [(10, VI (G176 b v)), (9, .emp), (8, .ref 3 8 0 0)]
end
theorem rhear_fn (v : Vtr) (no : Int) (b : Bid) (m : Vote) (hx : v.weights.length ≤ 9223372036854775807) : Fn Tryd.prog 33 [.agg [.lst 1 (v.weights.map cI), VI v.need], VI no, .agg [VI b.time, VI b.phase, .v (.string b.own), .v (.string b.value), VI b.best.at_.time, VI b.best.at_.who, .v (.string b.best.data), .v (.int .u64 (b.heard.n : Int))], .agg [VI m.kind, VI m.bid, VI m.node, VI m.copy.at_.time, VI m.copy.at_.who, .v (.string m.copy.data)]] (.tup [.agg [VI (((hearP v no b m).1).time), VI (((hearP v no b m).1).phase), .v (.string (((hearP v no b m).1).own)), .v (.string (((hearP v no b m).1).value)), VI (((((hearP v no b m).1).best).at_).time), VI (((((hearP v no b m).1).best).at_).who), .v (.string ((((hearP v no b m).1).best).data)), .v (.int .u64 (((hearP v no b m).1).heard.n : Int))], .lst 6 (((hearP v no b m).2.1).map Vote.cs), VI ((hearP v no b m).2.2)]) := by
 refine fnw F33_ok ?_
 refine srl 6 [1, 4, 6, 7, 8] ⟨(G102 no), (G101 b m v)⟩ ?_
 refine EL.seq ?_
 refine srr 3 ⟨(16, .v (.bool (decide (no < 0)))) :: (15, .v (.bool (decide (no < 0)))) :: (14, VI no) :: (G102 no), (G101 b m v)⟩ ?_
 cases h1 : (decide (no < 0))
 have g1 := of_decide_eq_false h1
 refine owl 3 [1, 4, 6, 7, 8, 19] ⟨(19, .v (.bool (decide (no > 30)))) :: (G102 no), (G101 b m v)⟩ ?_
 cases h2 : (decide (no > 30))
 have g2 := of_decide_eq_false h2
 refine cnF ?_
 refine skn ?_
 refine srr 2 ⟨(G104 b no v), (G101 b m v)⟩ ?_
 refine owg [(G64 v), (G103 b)] ⟨(23, VI (G176 b v)) :: (G104 b no v), (G101 b m v)⟩ (rbcheck_fn v b hx) ?_
 refine owl 1 [1, 4, 6, 7, 8, 11] ⟨(11, VI (G176 b v)) :: (G102 no), (G101 b m v)⟩ ?_
 refine EL.seq ?_
 refine srl 2 [1, 4, 6, 7, 8, 11, 25] ⟨(25, .v (.bool ((G176 b v) == 0))) :: (11, VI (G176 b v)) :: (G102 no), (G101 b m v)⟩ ?_
 cases h3 : ((b.checkE v.weights v.need) == 0)
 have g3 := bqF h3
 refine cnF ?_
 refine skn ?_
 refine EL.seq ?_
 refine srl 2 [1, 4, 6, 7, 8, 11, 29] ⟨(29, .v (.bool ((G176 b v) != 0))) :: (11, VI (G176 b v)) :: (G102 no), (G101 b m v)⟩ ?_
 have h37 : ((b.checkE v.weights v.need) != 0) = true := (by show (!((b.checkE v.weights v.need) == 0)) = _; rw [h3]; rfl)
 rw [h37]
 refine cnT ?_
 refine srl 5 [8, 9, 10] ⟨(G174 b v), (G101 b m v)⟩ ?_
 refine rtr ?_
 refine rqa (.tup [.agg [VI 0, VI 0, .v (.string (⟨#[]⟩)), .v (.string (⟨#[]⟩)), VI 0, VI 0, .v (.string (⟨#[]⟩)), .v (.int .u64 0)], .emp, VI (b.checkE v.weights v.need)]) (Ale.tup (aR (aE 6 (aR .nil)))) ?_
 rotate_left
 have g3 := bqT h3
 refine cnT ?_
 refine EL.reg0 ?_
 refine owr 1 ⟨(G106 b m no v), (G101 b m v)⟩ ?_
 refine owg [(G105 m)] ⟨(27, VI m.checkE) :: (G106 b m no v), (G101 b m v)⟩ (rvcheck_fn m) ?_
 refine owe 1 ⟨(G107 m no), (G101 b m v)⟩ ?_
 refine tN ?_
 refine EL.seq ?_
 refine srl 2 [1, 4, 6, 7, 8, 11, 29] ⟨(29, .v (.bool (m.checkE != 0))) :: (11, VI m.checkE) :: (G102 no), (G101 b m v)⟩ ?_
 cases h4 : (m.checkE != 0)
 have g4 := bnF h4
 refine cnF ?_
 refine skn ?_
 refine srl 6 [1, 4, 6, 7, 8, 12] ⟨(12, .ref 4 2 0 0) :: (G102 no), (G110 b m no v)⟩ ?_
 refine srr 4 ⟨(39, .v (.bool (b.phase == 1))) :: (38, .v (.bool (b.phase == 1))) :: (G111 b no), (G110 b m no v)⟩ ?_
 cases h5 : (b.phase == 1)
 have g5 := bqF h5
 refine owr 9 ⟨(48, .v (.bool (b.phase == 2))) :: (47, .v (.bool (b.phase == 2))) :: (G166 b no), (G110 b m no v)⟩ ?_
 cases h26 : (b.phase == 2)
 have g26 := bqF h26
 refine owl 13 [1, 4, 6, 7, 8, 12, 13] ⟨(G164 no), (G110 b m no v)⟩ ?_
 refine EL.seq ?_
 refine srr 5 ⟨(65, .v (.bool (m.bid != no))) :: (64, .v (.bool (m.bid != no))) :: (G165 m no), (G110 b m no v)⟩ ?_
 cases h36 : (m.bid != no)
 have g36 := bnF h36
 refine owl 18 [1, 4, 6, 7, 8, 12, 83] ⟨(83, .v (.bool true)) :: (12, .ref 4 2 0 0) :: (G102 no), (G110 b m no v)⟩ ?_
 refine cnT ?_
 refine srl 4 [8, 9, 10] ⟨[(10, VI 0), (9, .emp), (8, .ref 3 8 0 0)], (G114 b m no v)⟩ ?_
 refine rtr ?_
 refine rqa (.tup [.agg [VI b.time, VI b.phase, .v (.string b.own), .v (.string b.value), VI b.best.at_.time, VI b.best.at_.who, .v (.string b.best.data), .v (.int .u64 (b.heard.n : Int))], .emp, VI 0]) (Ale.tup (aR (aE 6 (aR .nil)))) ?_
 rotate_left
 have g36 := bnT h36
 refine owl 18 [1, 4, 6, 7, 8, 12, 83] ⟨(83, .v (.bool true)) :: (12, .ref 4 2 0 0) :: (G102 no), (G110 b m no v)⟩ ?_
 refine cnT ?_
 refine srl 4 [8, 9, 10] ⟨[(10, VI 0), (9, .emp), (8, .ref 3 8 0 0)], (G114 b m no v)⟩ ?_
 refine rtr ?_
 refine rqa (.tup [.agg [VI b.time, VI b.phase, .v (.string b.own), .v (.string b.value), VI b.best.at_.time, VI b.best.at_.who, .v (.string b.best.data), .v (.int .u64 (b.heard.n : Int))], .emp, VI 0]) (Ale.tup (aR (aE 6 (aR .nil)))) ?_
 rotate_left
 have g26 := bqT h26
 refine owr 5 ⟨(53, .v (.bool (m.kind == 4))) :: (52, .v (.bool (m.kind == 4))) :: (51, .v (.bool (m.kind == 4))) :: (G167 b m no), (G110 b m no v)⟩ ?_
 cases h27 : (m.kind == 4)
 have g27 := bqF h27
 refine owl 8 [1, 4, 6, 7, 8, 12, 13] ⟨(G164 no), (G110 b m no v)⟩ ?_
 refine EL.seq ?_
 refine srr 5 ⟨(65, .v (.bool (m.bid != no))) :: (64, .v (.bool (m.bid != no))) :: (G165 m no), (G110 b m no v)⟩ ?_
 cases h35 : (m.bid != no)
 have g35 := bnF h35
 refine owl 18 [1, 4, 6, 7, 8, 12, 83] ⟨(83, .v (.bool true)) :: (12, .ref 4 2 0 0) :: (G102 no), (G110 b m no v)⟩ ?_
 refine cnT ?_
 refine srl 4 [8, 9, 10] ⟨[(10, VI 0), (9, .emp), (8, .ref 3 8 0 0)], (G114 b m no v)⟩ ?_
 refine rtr ?_
 refine rqa (.tup [.agg [VI b.time, VI b.phase, .v (.string b.own), .v (.string b.value), VI b.best.at_.time, VI b.best.at_.who, .v (.string b.best.data), .v (.int .u64 (b.heard.n : Int))], .emp, VI 0]) (Ale.tup (aR (aE 6 (aR .nil)))) ?_
 rotate_left
 have g35 := bnT h35
 refine owl 18 [1, 4, 6, 7, 8, 12, 83] ⟨(83, .v (.bool true)) :: (12, .ref 4 2 0 0) :: (G102 no), (G110 b m no v)⟩ ?_
 refine cnT ?_
 refine srl 4 [8, 9, 10] ⟨[(10, VI 0), (9, .emp), (8, .ref 3 8 0 0)], (G114 b m no v)⟩ ?_
 refine rtr ?_
 refine rqa (.tup [.agg [VI b.time, VI b.phase, .v (.string b.own), .v (.string b.value), VI b.best.at_.time, VI b.best.at_.who, .v (.string b.best.data), .v (.int .u64 (b.heard.n : Int))], .emp, VI 0]) (Ale.tup (aR (aE 6 (aR .nil)))) ?_
 rotate_left
 have g27 := bqT h27
 refine owl 8 [1, 4, 6, 7, 8, 12, 13] ⟨(13, .v (.bool ((m.copy.at_.time == b.time) && ((m.copy.at_.who == no) && true)))) :: (12, .ref 4 2 0 0) :: (G102 no), (G110 b m no v)⟩ ?_
 refine EL.seq ?_
 refine srr 5 ⟨(65, .v (.bool (m.bid != no))) :: (64, .v (.bool (m.bid != no))) :: (63, VI no) :: (62, VI m.bid) :: (61, .ref 2 6 0 1) :: (13, .v (.bool ((m.copy.at_.time == b.time) && ((m.copy.at_.who == no) && true)))) :: (12, .ref 4 2 0 0) :: (G102 no), (G110 b m no v)⟩ ?_
 cases h28 : (m.bid != no)
 have g28 := bnF h28
 refine owr 4 ⟨(69, .v (.bool (!((m.copy.at_.time == b.time) && ((m.copy.at_.who == no) && true))))) :: (68, .v (.bool (!((m.copy.at_.time == b.time) && ((m.copy.at_.who == no) && true))))) :: (67, .v (.bool (!((m.copy.at_.time == b.time) && ((m.copy.at_.who == no) && true))))) :: (66, .v (.bool ((m.copy.at_.time == b.time) && ((m.copy.at_.who == no) && true)))) :: (65, .v (.bool false)) :: (64, .v (.bool false)) :: (63, VI no) :: (62, VI m.bid) :: (61, .ref 2 6 0 1) :: (13, .v (.bool ((m.copy.at_.time == b.time) && ((m.copy.at_.who == no) && true)))) :: (12, .ref 4 2 0 0) :: (G102 no), (G110 b m no v)⟩ ?_
 cases h29 : ((m.copy.at_.time == b.time) && ((m.copy.at_.who == no) && true))
 have g29 : ¬ (m.copy.at_.time = b.time ∧ m.copy.at_.who = no) := fun ⟨q0, q1⟩ => Bool.noConfusion ((show (((m.copy.at_.time == b.time) && ((m.copy.at_.who == no) && true))) = true by first | (simp [q0, q1, strEq_iff]; done) | (simp only [q0, q1, beq_self_eq_true, Bool.and_self, Bool.and_true, Bool.true_and]; done)).symm.trans h29)
 refine owl 14 [1, 4, 6, 7, 8, 12, 83] ⟨(83, .v (.bool true)) :: (12, .ref 4 2 0 0) :: (G102 no), (G110 b m no v)⟩ ?_
 refine cnT ?_
 refine srl 4 [8, 9, 10] ⟨[(10, VI 0), (9, .emp), (8, .ref 3 8 0 0)], (G114 b m no v)⟩ ?_
 refine rtr ?_
 refine rqa (.tup [.agg [VI b.time, VI b.phase, .v (.string b.own), .v (.string b.value), VI b.best.at_.time, VI b.best.at_.who, .v (.string b.best.data), .v (.int .u64 (b.heard.n : Int))], .emp, VI 0]) (Ale.tup (aR (aE 6 (aR .nil)))) ?_
 rotate_left
 have g29 : m.copy.at_.time = b.time ∧ m.copy.at_.who = no := by simpa [strEq_iff] using h29
 refine owr 4 ⟨(G115 m no v), (G110 b m no v)⟩ ?_
 refine ow2 ⟨(74, VI (List.length v.weights : Int)) :: (G115 m no v), (G110 b m no v)⟩ (oln cI v.weights (.s 73) 1) ?_
 refine owr 3 ⟨(77, .v (.bool (decide (m.node ≥ (List.length v.weights : Int))))) :: (76, .v (.bool (decide (m.node ≥ (List.length v.weights : Int))))) :: (75, .v (.bool (decide (m.node ≥ (List.length v.weights : Int))))) :: (74, VI (List.length v.weights : Int)) :: (G115 m no v), (G110 b m no v)⟩ ?_
 cases h30 : (decide (m.node ≥ (List.length v.weights : Int)))
 have g30 := of_decide_eq_false h30
 refine owr 4 ⟨(G116 b m no v), (G110 b m no v)⟩ ?_
 refine owg [.v (.int .u64 (b.heard.n : Int)), VI m.node] ⟨(82, .v (.bool (inS b.heard.n (Int.toNat m.node)))) :: (G116 b m no v), (G110 b m no v)⟩ (inset_fn b.heard m.node (vote_node (m := m) (by assumption)).1) ?_
 refine owl 1 [1, 4, 6, 7, 8, 12, 83] ⟨(83, .v (.bool (inS b.heard.n (Int.toNat m.node)))) :: (12, .ref 4 2 0 0) :: (G102 no), (G110 b m no v)⟩ ?_
 cases h31 : (inS b.heard.n (Int.toNat m.node))
 refine cnF ?_
 refine skn ?_
 refine sdr 4 ⟨(G117 b m no), (G110 b m no v)⟩ ?_
 refine dw2 ⟨(89, .v (.int .u64 (IntKind.u64.wrap (1 * 2 ^ (min (Int.toNat m.node) IntKind.u64.bits))))) :: (G117 b m no), (G110 b m no v)⟩ (opE_shl (.c (.v (.int .u64 1))) (.s 88) .u64 .i64 1 m.node (by kernel_rfl) (by kernel_rfl) (by kernel_rfl) (by kernel_rfl) (by have hvn := vote_node (m := m) (by assumption); have hq9 := bid_ok (v := v) (b := b) (by assumption); have := qc_len hq9.1; first | omega | exact ⟨by omega, by assumption⟩)) ?_
 have e32 : IntKind.u64.wrap (1 * 2 ^ (min (Int.toNat m.node) IntKind.u64.bits)) = ((2 ^ (Int.toNat m.node) : Nat) : Int) := shl1 (by have hvn := vote_node (m := m) (by assumption); have hq9 := bid_ok (v := v) (b := b) (by assumption); have := qc_len hq9.1; first | omega | exact ⟨by omega, by assumption⟩)
 rw [e32]
 refine dwr 3 ⟨(91, .ref 1 8 0 7) :: (90, .v (.int .u64 (IntKind.u64.wrap ((b.heard.n : Int) + ((2 ^ (Int.toNat m.node) : Nat) : Int))))) :: (G118 b m no), [(G44 v), some ⟨8, [[VI b.time, VI b.phase, .v (.string b.own), .v (.string b.value), VI b.best.at_.time, VI b.best.at_.who, .v (.string b.best.data), .v (.int .u64 (IntKind.u64.wrap ((b.heard.n : Int) + ((2 ^ (Int.toNat m.node) : Nat) : Int))))]]⟩, (G28 m), G58, (G109 b no)]⟩ ?_
 have e33 : IntKind.u64.wrap ((b.heard.n : Int) + ((2 ^ (Int.toNat m.node) : Nat) : Int)) = ((orU b.heard (Int.toNat m.node)).n : Int) := addU (by have hvn := vote_node (m := m) (by assumption); have hq9 := bid_ok (v := v) (b := b) (by assumption); have := qc_len hq9.1; first | omega | exact ⟨by omega, by assumption⟩)
 rw [e33]
 refine dwl 0 [1, 4, 6, 7, 8, 12] ⟨(12, .ref 4 2 0 0) :: (G102 no), (G120 b m no v)⟩ ?_
 refine EL.seq ?_
 refine srl 3 [1, 4, 6, 7, 8, 12, 94] ⟨(94, .v (.bool (b.phase == 1))) :: (12, .ref 4 2 0 0) :: (G102 no), (G120 b m no v)⟩ ?_
 rw [h5]
 refine cnF ?_
 refine skn ?_
 refine EL.seq ?_
 refine sdr 4 ⟨(G168 b m no v), (G120 b m no v)⟩ ?_
 refine dwg [.lst 1 (v.weights.map cI), .v (.int .u64 ((G175 b m).n : Int))] ⟨(G169 b m no v), (G120 b m no v)⟩ (sumof_fn v.weights (G175 b m) (qc_nodes (bid_ok (v := v) (b := b) (by assumption)).1)) ?_
 refine dwl 3 [1, 4, 6, 8, 12, 112] ⟨(112, .v (.bool (decide ((bsum v.weights (G175 b m).n) < v.need)))) :: (G132 no), (G120 b m no v)⟩ ?_
 cases h34 : (decide ((bsum v.weights (orU b.heard (Int.toNat m.node)).n) < v.need))
 have g34 := of_decide_eq_false h34
 refine cnF ?_
 refine skn ?_
 refine EL.seq ?_
 refine srl 3 [1, 4, 6, 8, 12, 116] ⟨(116, .v (.bool (b.phase == 2))) :: (G132 no), (G120 b m no v)⟩ ?_
 rw [h26]
 refine cnT ?_
 refine srl 2 [6, 8] ⟨[(8, .ref 3 8 0 0), (6, .ref 1 8 0 0)], (G172 b m no v)⟩ ?_
 refine srl 4 [8, 9, 10] ⟨[(10, VI 0), (9, .emp), (8, .ref 3 8 0 0)], (G173 b m no v)⟩ ?_
 refine rtr ?_
 refine rqa (.tup [.agg [VI b.time, VI 3, .v (.string b.own), .v (.string b.value), VI b.best.at_.time, VI b.best.at_.who, .v (.string b.best.data), .v (.int .u64 ((orU b.heard (Int.toNat m.node)).n : Int))], .emp, VI 0]) (Ale.tup (aR (aE 6 (aR .nil)))) ?_
 rotate_left
 have g34 := of_decide_eq_true h34
 refine cnT ?_
 refine srl 4 [8, 9, 10] ⟨[(10, VI 0), (9, .emp), (8, .ref 3 8 0 0)], (G170 b m no v)⟩ ?_
 refine rtr ?_
 refine rqa (.tup [.agg [VI b.time, VI b.phase, .v (.string b.own), .v (.string b.value), VI b.best.at_.time, VI b.best.at_.who, .v (.string b.best.data), .v (.int .u64 ((orU b.heard (Int.toNat m.node)).n : Int))], .emp, VI 0]) (Ale.tup (aR (aE 6 (aR .nil)))) ?_
 rotate_left
 refine cnT ?_
 refine srl 4 [8, 9, 10] ⟨[(10, VI 0), (9, .emp), (8, .ref 3 8 0 0)], (G114 b m no v)⟩ ?_
 refine rtr ?_
 refine rqa (.tup [.agg [VI b.time, VI b.phase, .v (.string b.own), .v (.string b.value), VI b.best.at_.time, VI b.best.at_.who, .v (.string b.best.data), .v (.int .u64 (b.heard.n : Int))], .emp, VI 0]) (Ale.tup (aR (aE 6 (aR .nil)))) ?_
 rotate_left
 have g30 := of_decide_eq_true h30
 refine owl 6 [1, 4, 6, 7, 8, 12, 83] ⟨(83, .v (.bool true)) :: (12, .ref 4 2 0 0) :: (G102 no), (G110 b m no v)⟩ ?_
 refine cnT ?_
 refine srl 4 [8, 9, 10] ⟨[(10, VI 0), (9, .emp), (8, .ref 3 8 0 0)], (G114 b m no v)⟩ ?_
 refine rtr ?_
 refine rqa (.tup [.agg [VI b.time, VI b.phase, .v (.string b.own), .v (.string b.value), VI b.best.at_.time, VI b.best.at_.who, .v (.string b.best.data), .v (.int .u64 (b.heard.n : Int))], .emp, VI 0]) (Ale.tup (aR (aE 6 (aR .nil)))) ?_
 rotate_left
 have g28 := bnT h28
 refine owl 18 [1, 4, 6, 7, 8, 12, 83] ⟨(83, .v (.bool true)) :: (12, .ref 4 2 0 0) :: (G102 no), (G110 b m no v)⟩ ?_
 refine cnT ?_
 refine srl 4 [8, 9, 10] ⟨[(10, VI 0), (9, .emp), (8, .ref 3 8 0 0)], (G114 b m no v)⟩ ?_
 refine rtr ?_
 refine rqa (.tup [.agg [VI b.time, VI b.phase, .v (.string b.own), .v (.string b.value), VI b.best.at_.time, VI b.best.at_.who, .v (.string b.best.data), .v (.int .u64 (b.heard.n : Int))], .emp, VI 0]) (Ale.tup (aR (aE 6 (aR .nil)))) ?_
 rotate_left
 have g5 := bqT h5
 refine owr 5 ⟨(44, .v (.bool (m.kind == 2))) :: (43, .v (.bool (m.kind == 2))) :: (42, .v (.bool (m.kind == 2))) :: (G112 b m no), (G110 b m no v)⟩ ?_
 cases h6 : (m.kind == 2)
 have g6 := bqF h6
 refine owr 4 ⟨(48, .v (.bool (b.phase == 2))) :: (47, .v (.bool (b.phase == 2))) :: (G162 b m no), (G110 b m no v)⟩ ?_
 cases h15 : (b.phase == 2)
 have g15 := bqF h15
 refine owl 13 [1, 4, 6, 7, 8, 12, 13] ⟨(G164 no), (G110 b m no v)⟩ ?_
 refine EL.seq ?_
 refine srr 5 ⟨(65, .v (.bool (m.bid != no))) :: (64, .v (.bool (m.bid != no))) :: (G165 m no), (G110 b m no v)⟩ ?_
 cases h25 : (m.bid != no)
 have g25 := bnF h25
 refine owl 18 [1, 4, 6, 7, 8, 12, 83] ⟨(83, .v (.bool true)) :: (12, .ref 4 2 0 0) :: (G102 no), (G110 b m no v)⟩ ?_
 refine cnT ?_
 refine srl 4 [8, 9, 10] ⟨[(10, VI 0), (9, .emp), (8, .ref 3 8 0 0)], (G114 b m no v)⟩ ?_
 refine rtr ?_
 refine rqa (.tup [.agg [VI b.time, VI b.phase, .v (.string b.own), .v (.string b.value), VI b.best.at_.time, VI b.best.at_.who, .v (.string b.best.data), .v (.int .u64 (b.heard.n : Int))], .emp, VI 0]) (Ale.tup (aR (aE 6 (aR .nil)))) ?_
 rotate_left
 have g25 := bnT h25
 refine owl 18 [1, 4, 6, 7, 8, 12, 83] ⟨(83, .v (.bool true)) :: (12, .ref 4 2 0 0) :: (G102 no), (G110 b m no v)⟩ ?_
 refine cnT ?_
 refine srl 4 [8, 9, 10] ⟨[(10, VI 0), (9, .emp), (8, .ref 3 8 0 0)], (G114 b m no v)⟩ ?_
 refine rtr ?_
 refine rqa (.tup [.agg [VI b.time, VI b.phase, .v (.string b.own), .v (.string b.value), VI b.best.at_.time, VI b.best.at_.who, .v (.string b.best.data), .v (.int .u64 (b.heard.n : Int))], .emp, VI 0]) (Ale.tup (aR (aE 6 (aR .nil)))) ?_
 rotate_left
 have g15 := bqT h15
 refine owr 5 ⟨(53, .v (.bool (m.kind == 4))) :: (52, .v (.bool (m.kind == 4))) :: (51, .v (.bool (m.kind == 4))) :: (G163 b m no), (G110 b m no v)⟩ ?_
 cases h16 : (m.kind == 4)
 have g16 := bqF h16
 refine owl 8 [1, 4, 6, 7, 8, 12, 13] ⟨(G164 no), (G110 b m no v)⟩ ?_
 refine EL.seq ?_
 refine srr 5 ⟨(65, .v (.bool (m.bid != no))) :: (64, .v (.bool (m.bid != no))) :: (G165 m no), (G110 b m no v)⟩ ?_
 cases h24 : (m.bid != no)
 have g24 := bnF h24
 refine owl 18 [1, 4, 6, 7, 8, 12, 83] ⟨(83, .v (.bool true)) :: (12, .ref 4 2 0 0) :: (G102 no), (G110 b m no v)⟩ ?_
 refine cnT ?_
 refine srl 4 [8, 9, 10] ⟨[(10, VI 0), (9, .emp), (8, .ref 3 8 0 0)], (G114 b m no v)⟩ ?_
 refine rtr ?_
 refine rqa (.tup [.agg [VI b.time, VI b.phase, .v (.string b.own), .v (.string b.value), VI b.best.at_.time, VI b.best.at_.who, .v (.string b.best.data), .v (.int .u64 (b.heard.n : Int))], .emp, VI 0]) (Ale.tup (aR (aE 6 (aR .nil)))) ?_
 rotate_left
 have g24 := bnT h24
 refine owl 18 [1, 4, 6, 7, 8, 12, 83] ⟨(83, .v (.bool true)) :: (12, .ref 4 2 0 0) :: (G102 no), (G110 b m no v)⟩ ?_
 refine cnT ?_
 refine srl 4 [8, 9, 10] ⟨[(10, VI 0), (9, .emp), (8, .ref 3 8 0 0)], (G114 b m no v)⟩ ?_
 refine rtr ?_
 refine rqa (.tup [.agg [VI b.time, VI b.phase, .v (.string b.own), .v (.string b.value), VI b.best.at_.time, VI b.best.at_.who, .v (.string b.best.data), .v (.int .u64 (b.heard.n : Int))], .emp, VI 0]) (Ale.tup (aR (aE 6 (aR .nil)))) ?_
 rotate_left
 have g16 := bqT h16
 refine owl 8 [1, 4, 6, 7, 8, 12, 13] ⟨(13, .v (.bool ((m.copy.at_.time == b.time) && ((m.copy.at_.who == no) && true)))) :: (12, .ref 4 2 0 0) :: (G102 no), (G110 b m no v)⟩ ?_
 refine EL.seq ?_
 refine srr 5 ⟨(65, .v (.bool (m.bid != no))) :: (64, .v (.bool (m.bid != no))) :: (63, VI no) :: (62, VI m.bid) :: (61, .ref 2 6 0 1) :: (13, .v (.bool ((m.copy.at_.time == b.time) && ((m.copy.at_.who == no) && true)))) :: (12, .ref 4 2 0 0) :: (G102 no), (G110 b m no v)⟩ ?_
 cases h17 : (m.bid != no)
 have g17 := bnF h17
 refine owr 4 ⟨(69, .v (.bool (!((m.copy.at_.time == b.time) && ((m.copy.at_.who == no) && true))))) :: (68, .v (.bool (!((m.copy.at_.time == b.time) && ((m.copy.at_.who == no) && true))))) :: (67, .v (.bool (!((m.copy.at_.time == b.time) && ((m.copy.at_.who == no) && true))))) :: (66, .v (.bool ((m.copy.at_.time == b.time) && ((m.copy.at_.who == no) && true)))) :: (65, .v (.bool false)) :: (64, .v (.bool false)) :: (63, VI no) :: (62, VI m.bid) :: (61, .ref 2 6 0 1) :: (13, .v (.bool ((m.copy.at_.time == b.time) && ((m.copy.at_.who == no) && true)))) :: (12, .ref 4 2 0 0) :: (G102 no), (G110 b m no v)⟩ ?_
 cases h18 : ((m.copy.at_.time == b.time) && ((m.copy.at_.who == no) && true))
 have g18 : ¬ (m.copy.at_.time = b.time ∧ m.copy.at_.who = no) := fun ⟨q0, q1⟩ => Bool.noConfusion ((show (((m.copy.at_.time == b.time) && ((m.copy.at_.who == no) && true))) = true by first | (simp [q0, q1, strEq_iff]; done) | (simp only [q0, q1, beq_self_eq_true, Bool.and_self, Bool.and_true, Bool.true_and]; done)).symm.trans h18)
 refine owl 14 [1, 4, 6, 7, 8, 12, 83] ⟨(83, .v (.bool true)) :: (12, .ref 4 2 0 0) :: (G102 no), (G110 b m no v)⟩ ?_
 refine cnT ?_
 refine srl 4 [8, 9, 10] ⟨[(10, VI 0), (9, .emp), (8, .ref 3 8 0 0)], (G114 b m no v)⟩ ?_
 refine rtr ?_
 refine rqa (.tup [.agg [VI b.time, VI b.phase, .v (.string b.own), .v (.string b.value), VI b.best.at_.time, VI b.best.at_.who, .v (.string b.best.data), .v (.int .u64 (b.heard.n : Int))], .emp, VI 0]) (Ale.tup (aR (aE 6 (aR .nil)))) ?_
 rotate_left
 have g18 : m.copy.at_.time = b.time ∧ m.copy.at_.who = no := by simpa [strEq_iff] using h18
 refine owr 4 ⟨(G115 m no v), (G110 b m no v)⟩ ?_
 refine ow2 ⟨(74, VI (List.length v.weights : Int)) :: (G115 m no v), (G110 b m no v)⟩ (oln cI v.weights (.s 73) 1) ?_
 refine owr 3 ⟨(77, .v (.bool (decide (m.node ≥ (List.length v.weights : Int))))) :: (76, .v (.bool (decide (m.node ≥ (List.length v.weights : Int))))) :: (75, .v (.bool (decide (m.node ≥ (List.length v.weights : Int))))) :: (74, VI (List.length v.weights : Int)) :: (G115 m no v), (G110 b m no v)⟩ ?_
 cases h19 : (decide (m.node ≥ (List.length v.weights : Int)))
 have g19 := of_decide_eq_false h19
 refine owr 4 ⟨(G116 b m no v), (G110 b m no v)⟩ ?_
 refine owg [.v (.int .u64 (b.heard.n : Int)), VI m.node] ⟨(82, .v (.bool (inS b.heard.n (Int.toNat m.node)))) :: (G116 b m no v), (G110 b m no v)⟩ (inset_fn b.heard m.node (vote_node (m := m) (by assumption)).1) ?_
 refine owl 1 [1, 4, 6, 7, 8, 12, 83] ⟨(83, .v (.bool (inS b.heard.n (Int.toNat m.node)))) :: (12, .ref 4 2 0 0) :: (G102 no), (G110 b m no v)⟩ ?_
 cases h20 : (inS b.heard.n (Int.toNat m.node))
 refine cnF ?_
 refine skn ?_
 refine sdr 4 ⟨(G117 b m no), (G110 b m no v)⟩ ?_
 refine dw2 ⟨(89, .v (.int .u64 (IntKind.u64.wrap (1 * 2 ^ (min (Int.toNat m.node) IntKind.u64.bits))))) :: (G117 b m no), (G110 b m no v)⟩ (opE_shl (.c (.v (.int .u64 1))) (.s 88) .u64 .i64 1 m.node (by kernel_rfl) (by kernel_rfl) (by kernel_rfl) (by kernel_rfl) (by have hvn := vote_node (m := m) (by assumption); have hq9 := bid_ok (v := v) (b := b) (by assumption); have := qc_len hq9.1; first | omega | exact ⟨by omega, by assumption⟩)) ?_
 have e21 : IntKind.u64.wrap (1 * 2 ^ (min (Int.toNat m.node) IntKind.u64.bits)) = ((2 ^ (Int.toNat m.node) : Nat) : Int) := shl1 (by have hvn := vote_node (m := m) (by assumption); have hq9 := bid_ok (v := v) (b := b) (by assumption); have := qc_len hq9.1; first | omega | exact ⟨by omega, by assumption⟩)
 rw [e21]
 refine dwr 3 ⟨(91, .ref 1 8 0 7) :: (90, .v (.int .u64 (IntKind.u64.wrap ((b.heard.n : Int) + ((2 ^ (Int.toNat m.node) : Nat) : Int))))) :: (G118 b m no), [(G44 v), some ⟨8, [[VI b.time, VI b.phase, .v (.string b.own), .v (.string b.value), VI b.best.at_.time, VI b.best.at_.who, .v (.string b.best.data), .v (.int .u64 (IntKind.u64.wrap ((b.heard.n : Int) + ((2 ^ (Int.toNat m.node) : Nat) : Int))))]]⟩, (G28 m), G58, (G109 b no)]⟩ ?_
 have e22 : IntKind.u64.wrap ((b.heard.n : Int) + ((2 ^ (Int.toNat m.node) : Nat) : Int)) = ((orU b.heard (Int.toNat m.node)).n : Int) := addU (by have hvn := vote_node (m := m) (by assumption); have hq9 := bid_ok (v := v) (b := b) (by assumption); have := qc_len hq9.1; first | omega | exact ⟨by omega, by assumption⟩)
 rw [e22]
 refine dwl 0 [1, 4, 6, 7, 8, 12] ⟨(12, .ref 4 2 0 0) :: (G102 no), (G120 b m no v)⟩ ?_
 refine EL.seq ?_
 refine srl 3 [1, 4, 6, 7, 8, 12, 94] ⟨(94, .v (.bool (b.phase == 1))) :: (12, .ref 4 2 0 0) :: (G102 no), (G120 b m no v)⟩ ?_
 rw [h5]
 refine cnT ?_
 refine EL.reg0 ?_
 refine owr 5 ⟨(G124 b m no), (G123 b m no v)⟩ ?_
 refine owg [.own 5 3 0 2] ⟨(G126 b m no), (G123 b m no v)⟩ (merged_fn ([b.best, m.copy]) (by first | omega | (simp; done))) ?_
 refine owe 5 ⟨(G129 b m no), (G128 b m no v)⟩ ?_
 refine tN ?_
 refine EL.seq ?_
 refine sdr 4 ⟨(G130 b m no v), (G128 b m no v)⟩ ?_
 refine dwg [.lst 1 (v.weights.map cI), .v (.int .u64 ((G175 b m).n : Int))] ⟨(G131 b m no v), (G128 b m no v)⟩ (sumof_fn v.weights (G175 b m) (qc_nodes (bid_ok (v := v) (b := b) (by assumption)).1)) ?_
 refine dwl 3 [1, 4, 6, 8, 12, 112] ⟨(112, .v (.bool (decide ((bsum v.weights (G175 b m).n) < v.need)))) :: (G132 no), (G128 b m no v)⟩ ?_
 cases h23 : (decide ((bsum v.weights (orU b.heard (Int.toNat m.node)).n) < v.need))
 have g23 := of_decide_eq_false h23
 refine cnF ?_
 refine skn ?_
 refine EL.seq ?_
 refine srl 3 [1, 4, 6, 8, 12, 116] ⟨(116, .v (.bool (b.phase == 2))) :: (G132 no), (G128 b m no v)⟩ ?_
 rw [h15]
 refine cnT ?_
 refine srl 2 [6, 8] ⟨[(8, .ref 3 8 0 0), (6, .ref 1 8 0 0)], (G135 b m no v)⟩ ?_
 refine srl 4 [8, 9, 10] ⟨[(10, VI 0), (9, .emp), (8, .ref 3 8 0 0)], (G136 b m no v)⟩ ?_
 refine rtr ?_
 refine rqa (.tup [.agg [VI b.time, VI 3, .v (.string b.own), .v (.string b.value), VI ((((mergedP ([b.best, m.copy])).1).at_).time), VI ((((mergedP ([b.best, m.copy])).1).at_).who), .v (.string (((mergedP ([b.best, m.copy])).1).data)), .v (.int .u64 ((orU b.heard (Int.toNat m.node)).n : Int))], .emp, VI 0]) (Ale.tup (aR (aE 6 (aR .nil)))) ?_
 rotate_left
 have g23 := of_decide_eq_true h23
 refine cnT ?_
 refine srl 4 [8, 9, 10] ⟨[(10, VI 0), (9, .emp), (8, .ref 3 8 0 0)], (G133 b m no v)⟩ ?_
 refine rtr ?_
 refine rqa (.tup [.agg [VI b.time, VI b.phase, .v (.string b.own), .v (.string b.value), VI ((((mergedP ([b.best, m.copy])).1).at_).time), VI ((((mergedP ([b.best, m.copy])).1).at_).who), .v (.string (((mergedP ([b.best, m.copy])).1).data)), .v (.int .u64 ((orU b.heard (Int.toNat m.node)).n : Int))], .emp, VI 0]) (Ale.tup (aR (aE 6 (aR .nil)))) ?_
 rotate_left
 refine cnT ?_
 refine srl 4 [8, 9, 10] ⟨[(10, VI 0), (9, .emp), (8, .ref 3 8 0 0)], (G114 b m no v)⟩ ?_
 refine rtr ?_
 refine rqa (.tup [.agg [VI b.time, VI b.phase, .v (.string b.own), .v (.string b.value), VI b.best.at_.time, VI b.best.at_.who, .v (.string b.best.data), .v (.int .u64 (b.heard.n : Int))], .emp, VI 0]) (Ale.tup (aR (aE 6 (aR .nil)))) ?_
 rotate_left
 have g19 := of_decide_eq_true h19
 refine owl 6 [1, 4, 6, 7, 8, 12, 83] ⟨(83, .v (.bool true)) :: (12, .ref 4 2 0 0) :: (G102 no), (G110 b m no v)⟩ ?_
 refine cnT ?_
 refine srl 4 [8, 9, 10] ⟨[(10, VI 0), (9, .emp), (8, .ref 3 8 0 0)], (G114 b m no v)⟩ ?_
 refine rtr ?_
 refine rqa (.tup [.agg [VI b.time, VI b.phase, .v (.string b.own), .v (.string b.value), VI b.best.at_.time, VI b.best.at_.who, .v (.string b.best.data), .v (.int .u64 (b.heard.n : Int))], .emp, VI 0]) (Ale.tup (aR (aE 6 (aR .nil)))) ?_
 rotate_left
 have g17 := bnT h17
 refine owl 18 [1, 4, 6, 7, 8, 12, 83] ⟨(83, .v (.bool true)) :: (12, .ref 4 2 0 0) :: (G102 no), (G110 b m no v)⟩ ?_
 refine cnT ?_
 refine srl 4 [8, 9, 10] ⟨[(10, VI 0), (9, .emp), (8, .ref 3 8 0 0)], (G114 b m no v)⟩ ?_
 refine rtr ?_
 refine rqa (.tup [.agg [VI b.time, VI b.phase, .v (.string b.own), .v (.string b.value), VI b.best.at_.time, VI b.best.at_.who, .v (.string b.best.data), .v (.int .u64 (b.heard.n : Int))], .emp, VI 0]) (Ale.tup (aR (aE 6 (aR .nil)))) ?_
 rotate_left
 have g6 := bqT h6
 refine owl 17 [1, 4, 6, 7, 8, 12, 13] ⟨(13, .v (.bool true)) :: (12, .ref 4 2 0 0) :: (G102 no), (G110 b m no v)⟩ ?_
 refine EL.seq ?_
 refine srr 5 ⟨(65, .v (.bool (m.bid != no))) :: (64, .v (.bool (m.bid != no))) :: (G113 m no), (G110 b m no v)⟩ ?_
 cases h7 : (m.bid != no)
 have g7 := bnF h7
 refine owr 8 ⟨(G115 m no v), (G110 b m no v)⟩ ?_
 refine ow2 ⟨(74, VI (List.length v.weights : Int)) :: (G115 m no v), (G110 b m no v)⟩ (oln cI v.weights (.s 73) 1) ?_
 refine owr 3 ⟨(77, .v (.bool (decide (m.node ≥ (List.length v.weights : Int))))) :: (76, .v (.bool (decide (m.node ≥ (List.length v.weights : Int))))) :: (75, .v (.bool (decide (m.node ≥ (List.length v.weights : Int))))) :: (74, VI (List.length v.weights : Int)) :: (G115 m no v), (G110 b m no v)⟩ ?_
 cases h8 : (decide (m.node ≥ (List.length v.weights : Int)))
 have g8 := of_decide_eq_false h8
 refine owr 4 ⟨(G116 b m no v), (G110 b m no v)⟩ ?_
 refine owg [.v (.int .u64 (b.heard.n : Int)), VI m.node] ⟨(82, .v (.bool (inS b.heard.n (Int.toNat m.node)))) :: (G116 b m no v), (G110 b m no v)⟩ (inset_fn b.heard m.node (vote_node (m := m) (by assumption)).1) ?_
 refine owl 1 [1, 4, 6, 7, 8, 12, 83] ⟨(83, .v (.bool (inS b.heard.n (Int.toNat m.node)))) :: (12, .ref 4 2 0 0) :: (G102 no), (G110 b m no v)⟩ ?_
 cases h9 : (inS b.heard.n (Int.toNat m.node))
 refine cnF ?_
 refine skn ?_
 refine sdr 4 ⟨(G117 b m no), (G110 b m no v)⟩ ?_
 refine dw2 ⟨(89, .v (.int .u64 (IntKind.u64.wrap (1 * 2 ^ (min (Int.toNat m.node) IntKind.u64.bits))))) :: (G117 b m no), (G110 b m no v)⟩ (opE_shl (.c (.v (.int .u64 1))) (.s 88) .u64 .i64 1 m.node (by kernel_rfl) (by kernel_rfl) (by kernel_rfl) (by kernel_rfl) (by have hvn := vote_node (m := m) (by assumption); have hq9 := bid_ok (v := v) (b := b) (by assumption); have := qc_len hq9.1; first | omega | exact ⟨by omega, by assumption⟩)) ?_
 have e10 : IntKind.u64.wrap (1 * 2 ^ (min (Int.toNat m.node) IntKind.u64.bits)) = ((2 ^ (Int.toNat m.node) : Nat) : Int) := shl1 (by have hvn := vote_node (m := m) (by assumption); have hq9 := bid_ok (v := v) (b := b) (by assumption); have := qc_len hq9.1; first | omega | exact ⟨by omega, by assumption⟩)
 rw [e10]
 refine dwr 3 ⟨(91, .ref 1 8 0 7) :: (90, .v (.int .u64 (IntKind.u64.wrap ((b.heard.n : Int) + ((2 ^ (Int.toNat m.node) : Nat) : Int))))) :: (G118 b m no), [(G44 v), some ⟨8, [[VI b.time, VI b.phase, .v (.string b.own), .v (.string b.value), VI b.best.at_.time, VI b.best.at_.who, .v (.string b.best.data), .v (.int .u64 (IntKind.u64.wrap ((b.heard.n : Int) + ((2 ^ (Int.toNat m.node) : Nat) : Int))))]]⟩, (G28 m), G58, (G109 b no)]⟩ ?_
 have e11 : IntKind.u64.wrap ((b.heard.n : Int) + ((2 ^ (Int.toNat m.node) : Nat) : Int)) = ((orU b.heard (Int.toNat m.node)).n : Int) := addU (by have hvn := vote_node (m := m) (by assumption); have hq9 := bid_ok (v := v) (b := b) (by assumption); have := qc_len hq9.1; first | omega | exact ⟨by omega, by assumption⟩)
 rw [e11]
 refine dwl 0 [1, 4, 6, 7, 8, 12] ⟨(12, .ref 4 2 0 0) :: (G102 no), (G120 b m no v)⟩ ?_
 refine EL.seq ?_
 refine srl 3 [1, 4, 6, 7, 8, 12, 94] ⟨(94, .v (.bool (b.phase == 1))) :: (12, .ref 4 2 0 0) :: (G102 no), (G120 b m no v)⟩ ?_
 rw [h5]
 refine cnT ?_
 refine EL.reg0 ?_
 refine owr 5 ⟨(G124 b m no), (G123 b m no v)⟩ ?_
 refine owg [.own 5 3 0 2] ⟨(G126 b m no), (G123 b m no v)⟩ (merged_fn ([b.best, m.copy]) (by first | omega | (simp; done))) ?_
 refine owe 5 ⟨(G129 b m no), (G128 b m no v)⟩ ?_
 refine tN ?_
 refine EL.seq ?_
 refine sdr 4 ⟨(G130 b m no v), (G128 b m no v)⟩ ?_
 refine dwg [.lst 1 (v.weights.map cI), .v (.int .u64 ((G175 b m).n : Int))] ⟨(G131 b m no v), (G128 b m no v)⟩ (sumof_fn v.weights (G175 b m) (qc_nodes (bid_ok (v := v) (b := b) (by assumption)).1)) ?_
 refine dwl 3 [1, 4, 6, 8, 12, 112] ⟨(112, .v (.bool (decide ((bsum v.weights (G175 b m).n) < v.need)))) :: (G132 no), (G128 b m no v)⟩ ?_
 cases h12 : (decide ((bsum v.weights (orU b.heard (Int.toNat m.node)).n) < v.need))
 have g12 := of_decide_eq_false h12
 refine cnF ?_
 refine skn ?_
 refine EL.seq ?_
 refine srl 3 [1, 4, 6, 8, 12, 116] ⟨(116, .v (.bool (b.phase == 2))) :: (G132 no), (G128 b m no v)⟩ ?_
 cases h13 : (b.phase == 2)
 have g13 := bqF h13
 refine cnF ?_
 refine skn ?_
 refine srl 2 [1, 4, 6, 8, 12] ⟨(G132 no), (G138 b m no v)⟩ ?_
 refine srl 2 [1, 4, 6, 8, 12] ⟨(G132 no), (G140 b m no v)⟩ ?_
 refine srl 4 [1, 4, 6, 8, 12] ⟨(G132 no), (G142 b m no v)⟩ ?_
 refine EL.seq ?_
 refine srl 5 [1, 4, 6, 8, 12, 128] ⟨(128, .v (.bool (!((((((mergedP ([b.best, m.copy])).1).at_).time) == 0) && ((((((mergedP ([b.best, m.copy])).1).at_).who) == 0) && true))))) :: (G132 no), (G142 b m no v)⟩ ?_
 cases h14 : ((((((mergedP ([b.best, m.copy])).1).at_).time) == 0) && ((((((mergedP ([b.best, m.copy])).1).at_).who) == 0) && true))
 have g14 : ¬ (((((mergedP ([b.best, m.copy])).1).at_).time) = 0 ∧ ((((mergedP ([b.best, m.copy])).1).at_).who) = 0) := fun ⟨q0, q1⟩ => Bool.noConfusion ((show (((((((mergedP ([b.best, m.copy])).1).at_).time) == 0) && ((((((mergedP ([b.best, m.copy])).1).at_).who) == 0) && true))) = true by first | (simp [q0, q1, strEq_iff]; done) | (simp only [q0, q1, beq_self_eq_true, Bool.and_self, Bool.and_true, Bool.true_and]; done)).symm.trans h14)
 refine cnT ?_
 refine roe 5 ⟨(G153 b m no), (G152 b m no v)⟩ ?_
 refine tN ?_
 refine sdr 3 ⟨(G155 b m no v), (G152 b m no v)⟩ ?_
 refine dw2 ⟨(136, VI (List.length v.weights : Int)) :: (G155 b m no v), (G152 b m no v)⟩ (oln cI v.weights (.s 135) 1) ?_
 refine dwr 6 ⟨(G158 b m no v), (G152 b m no v)⟩ ?_
 refine dwg [VI (List.length v.weights : Int), (G156 b m no)] ⟨(G159 b m no v), (G152 b m no v)⟩ (rtoAll_fn (List.length v.weights : Int) (⟨3, no, 0, (⟨(⟨b.time, no⟩ : Stp), ((mergedP ([b.best, m.copy])).1).data⟩ : Copy)⟩ : Vote) (by have := qc_len (bid_ok (v := v) (b := b) (by assumption)).1; omega)) ?_
 refine dwl 3 [8, 9, 10] ⟨(G161 b m no v), (G160 b m no v)⟩ ?_
 refine EL.ret ?_
 refine rqe (.tup [.agg [VI b.time, VI 2, .v (.string b.own), .v (.string (((mergedP ([b.best, m.copy])).1).data)), VI ((((mergedP ([b.best, m.copy])).1).at_).time), VI ((((mergedP ([b.best, m.copy])).1).at_).who), .v (.string (((mergedP ([b.best, m.copy])).1).data)), .v (.int .u64 0)], .lst 6 ((toAllP (List.length v.weights : Int).toNat (⟨3, no, 0, (⟨(⟨b.time, no⟩ : Stp), ((mergedP ([b.best, m.copy])).1).data⟩ : Copy)⟩ : Vote)).map Vote.cs), VI 0]) ?_
 rotate_left
 have g14 : ((((mergedP ([b.best, m.copy])).1).at_).time) = 0 ∧ ((((mergedP ([b.best, m.copy])).1).at_).who) = 0 := by simpa [strEq_iff] using h14
 refine cnF ?_
 refine skn ?_
 refine sdr 3 ⟨(G144 b m no v), (G142 b m no v)⟩ ?_
 refine dw2 ⟨(136, VI (List.length v.weights : Int)) :: (G144 b m no v), (G142 b m no v)⟩ (oln cI v.weights (.s 135) 1) ?_
 refine dwr 6 ⟨(G147 b m no v), (G142 b m no v)⟩ ?_
 refine dwg [VI (List.length v.weights : Int), (G145 b no)] ⟨(G148 b m no v), (G142 b m no v)⟩ (rtoAll_fn (List.length v.weights : Int) (⟨3, no, 0, (⟨(⟨b.time, no⟩ : Stp), b.own⟩ : Copy)⟩ : Vote) (by have := qc_len (bid_ok (v := v) (b := b) (by assumption)).1; omega)) ?_
 refine dwl 3 [8, 9, 10] ⟨(G150 b no v), (G149 b m no v)⟩ ?_
 refine EL.ret ?_
 refine rqe (.tup [.agg [VI b.time, VI 2, .v (.string b.own), .v (.string b.own), VI ((((mergedP ([b.best, m.copy])).1).at_).time), VI ((((mergedP ([b.best, m.copy])).1).at_).who), .v (.string (((mergedP ([b.best, m.copy])).1).data)), .v (.int .u64 0)], .lst 6 ((toAllP (List.length v.weights : Int).toNat (⟨3, no, 0, (⟨(⟨b.time, no⟩ : Stp), b.own⟩ : Copy)⟩ : Vote)).map Vote.cs), VI 0]) ?_
 rotate_left
 have g13 := bqT h13
 refine cnT ?_
 refine srl 2 [6, 8] ⟨[(8, .ref 3 8 0 0), (6, .ref 1 8 0 0)], (G135 b m no v)⟩ ?_
 refine srl 4 [8, 9, 10] ⟨[(10, VI 0), (9, .emp), (8, .ref 3 8 0 0)], (G136 b m no v)⟩ ?_
 refine rtr ?_
 refine rqa (.tup [.agg [VI b.time, VI 3, .v (.string b.own), .v (.string b.value), VI ((((mergedP ([b.best, m.copy])).1).at_).time), VI ((((mergedP ([b.best, m.copy])).1).at_).who), .v (.string (((mergedP ([b.best, m.copy])).1).data)), .v (.int .u64 ((orU b.heard (Int.toNat m.node)).n : Int))], .emp, VI 0]) (Ale.tup (aR (aE 6 (aR .nil)))) ?_
 rotate_left
 have g12 := of_decide_eq_true h12
 refine cnT ?_
 refine srl 4 [8, 9, 10] ⟨[(10, VI 0), (9, .emp), (8, .ref 3 8 0 0)], (G133 b m no v)⟩ ?_
 refine rtr ?_
 refine rqa (.tup [.agg [VI b.time, VI b.phase, .v (.string b.own), .v (.string b.value), VI ((((mergedP ([b.best, m.copy])).1).at_).time), VI ((((mergedP ([b.best, m.copy])).1).at_).who), .v (.string (((mergedP ([b.best, m.copy])).1).data)), .v (.int .u64 ((orU b.heard (Int.toNat m.node)).n : Int))], .emp, VI 0]) (Ale.tup (aR (aE 6 (aR .nil)))) ?_
 rotate_left
 refine cnT ?_
 refine srl 4 [8, 9, 10] ⟨[(10, VI 0), (9, .emp), (8, .ref 3 8 0 0)], (G114 b m no v)⟩ ?_
 refine rtr ?_
 refine rqa (.tup [.agg [VI b.time, VI b.phase, .v (.string b.own), .v (.string b.value), VI b.best.at_.time, VI b.best.at_.who, .v (.string b.best.data), .v (.int .u64 (b.heard.n : Int))], .emp, VI 0]) (Ale.tup (aR (aE 6 (aR .nil)))) ?_
 rotate_left
 have g8 := of_decide_eq_true h8
 refine owl 6 [1, 4, 6, 7, 8, 12, 83] ⟨(83, .v (.bool true)) :: (12, .ref 4 2 0 0) :: (G102 no), (G110 b m no v)⟩ ?_
 refine cnT ?_
 refine srl 4 [8, 9, 10] ⟨[(10, VI 0), (9, .emp), (8, .ref 3 8 0 0)], (G114 b m no v)⟩ ?_
 refine rtr ?_
 refine rqa (.tup [.agg [VI b.time, VI b.phase, .v (.string b.own), .v (.string b.value), VI b.best.at_.time, VI b.best.at_.who, .v (.string b.best.data), .v (.int .u64 (b.heard.n : Int))], .emp, VI 0]) (Ale.tup (aR (aE 6 (aR .nil)))) ?_
 rotate_left
 have g7 := bnT h7
 refine owl 18 [1, 4, 6, 7, 8, 12, 83] ⟨(83, .v (.bool true)) :: (12, .ref 4 2 0 0) :: (G102 no), (G110 b m no v)⟩ ?_
 refine cnT ?_
 refine srl 4 [8, 9, 10] ⟨[(10, VI 0), (9, .emp), (8, .ref 3 8 0 0)], (G114 b m no v)⟩ ?_
 refine rtr ?_
 refine rqa (.tup [.agg [VI b.time, VI b.phase, .v (.string b.own), .v (.string b.value), VI b.best.at_.time, VI b.best.at_.who, .v (.string b.best.data), .v (.int .u64 (b.heard.n : Int))], .emp, VI 0]) (Ale.tup (aR (aE 6 (aR .nil)))) ?_
 rotate_left
 have g4 := bnT h4
 refine cnT ?_
 refine srl 5 [8, 9, 10] ⟨(G108 m), (G101 b m v)⟩ ?_
 refine rtr ?_
 refine rqa (.tup [.agg [VI 0, VI 0, .v (.string (⟨#[]⟩)), .v (.string (⟨#[]⟩)), VI 0, VI 0, .v (.string (⟨#[]⟩)), .v (.int .u64 0)], .emp, VI m.checkE]) (Ale.tup (aR (aE 6 (aR .nil)))) ?_
 rotate_left
 have g2 := of_decide_eq_true h2
 refine cnT ?_
 refine srl 4 [8, 9, 10] ⟨[(10, VI 3), (9, .emp), (8, .ref 3 8 0 0)], (G101 b m v)⟩ ?_
 refine rtr ?_
 refine rqa (.tup [.agg [VI 0, VI 0, .v (.string (⟨#[]⟩)), .v (.string (⟨#[]⟩)), VI 0, VI 0, .v (.string (⟨#[]⟩)), .v (.int .u64 0)], .emp, VI 3]) (Ale.tup (aR (aE 6 (aR .nil)))) ?_
 rotate_left
 have g1 := of_decide_eq_true h1
 refine owl 3 [1, 4, 6, 7, 8, 19] ⟨(19, .v (.bool true)) :: (G102 no), (G101 b m v)⟩ ?_
 refine cnT ?_
 refine srl 4 [8, 9, 10] ⟨[(10, VI 3), (9, .emp), (8, .ref 3 8 0 0)], (G101 b m v)⟩ ?_
 refine rtr ?_
 refine rqa (.tup [.agg [VI 0, VI 0, .v (.string (⟨#[]⟩)), .v (.string (⟨#[]⟩)), VI 0, VI 0, .v (.string (⟨#[]⟩)), .v (.int .u64 0)], .emp, VI 3]) (Ale.tup (aR (aE 6 (aR .nil)))) ?_
 rotate_left
 all_goals (first | (exfalso; omega) | ((try have hmt := merged_two (bid_ok (v := v) (b := b) (by assumption)).2.1 (vote_copy (m := m) (by assumption))); (try simp only [hmt] at *); rw [hear_yes (by omega) (by assumption) (by assumption) (by omega) (by first | (simp [fitsP, *]; done) | (simp_all [fitsP]; done)) (by omega) (by assumption)]; first | (rw [if_pos (by assumption)]; first | rfl | (simp [heardP, *]; done)) | (rw [if_neg (by assumption)]; first | (simp [heardP, onP, *]; done) | (simp_all [heardP, onP]; done) | (simp only [heardP, onP]))) | (rw [hear_no (by omega) (by assumption) (by assumption) (by first | (simp [fitsP, *]; done) | (simp_all [fitsP]; done) | omega)]; rfl) | (simp only [hearP]; (repeat' split) <;> first | rfl | (exfalso; omega) | contradiction | (simp_all [Bid.zero]; done)))
theorem serve_cases (s : Seat) (v : Vote) : (s.checkE ≠ 0 ∧ s.serveP v = (Seat.zero, [], s.checkE)) ∨ (s.checkE = 0 ∧ v.checkE ≠ 0 ∧ s.serveP v = (Seat.zero, [], v.checkE)) ∨
    (s.checkE = 0 ∧ v.checkE = 0 ∧ ((v.kind = 1 ∧ s.promised.lt v.copy.at_ ∧ s.serveP v = (⟨v.copy.at_, s.kept⟩, [⟨2, v.bid, v.node, s.kept⟩], 0)) ∨
      (v.kind = 3 ∧ ¬ v.copy.at_.lt s.promised ∧ s.serveP v = (⟨v.copy.at_, v.copy⟩, [⟨4, v.bid, v.node, ⟨v.copy.at_, ⟨#[]⟩⟩⟩], 0)) ∨
      (¬ (v.kind = 1 ∧ s.promised.lt v.copy.at_) ∧ ¬ (v.kind = 3 ∧ ¬ v.copy.at_.lt s.promised) ∧ s.serveP v = (s, [], 0)))) := by
  unfold Seat.serveP
  by_cases h1 : s.checkE = 0
  · by_cases h2 : v.checkE = 0
    · by_cases h3 : v.kind = 1 ∧ s.promised.lt v.copy.at_
      · simp [h1, h2, h3]
      · by_cases h4 : v.kind = 3 ∧ ¬ v.copy.at_.lt s.promised
        · simp [h1, h2, h3, h4]
        · exact .inr (.inr ⟨h1, h2, .inr (.inr ⟨h3, h4, by rw [if_neg (by simp [h1]), if_neg (by simp [h2]), if_neg h3, if_neg h4]⟩)⟩)
    · simp [h1, h2]
  · simp [h1]
theorem seat_ok {s : Seat} : s.checkE = 0 ↔ s.promised.okS ∧ s.kept.at_.okS ∧ s.kept.data.size ≤ 64 ∧ ¬ s.promised.lt s.kept.at_ := by
  unfold Seat.checkE Stp.checkE Copy.checkE
  repeat' split
  all_goals simp_all
  all_goals omega
theorem vote_ok {v : Vote} (h : v.checkE = 0) : v.copy.at_.okS ∧ v.copy.data.size ≤ 64 := by
  unfold Vote.checkE Copy.checkE at h
  repeat' split at h
  all_goals simp_all
theorem serve_rises {s : Seat} {v : Vote} (h : (s.serveP v).2.2 = 0) : ¬ (s.serveP v).1.promised.lt s.promised ∧ ¬ (s.serveP v).1.kept.at_.lt s.kept.at_ ∧ (s.serveP v).1.checkE = 0 ∧
    ((s.serveP v).1.kept = s.kept ∨ (s.serveP v).1.kept = v.copy ∧ v.kind = 3 ∧ ¬ v.copy.at_.lt s.promised) := by
  rcases serve_cases s v with ⟨h1, e⟩ | ⟨h1, h2, e⟩ | ⟨h1, h2, h3⟩
  · rw [e] at h; exact absurd h h1
  · rw [e] at h; exact absurd h h2
  · obtain ⟨q1, q2, q3, q4⟩ := seat_ok.1 h1
    obtain ⟨v1, v2⟩ := vote_ok h2
    rcases h3 with ⟨a, b, e⟩ | ⟨a, b, e⟩ | ⟨a, b, e⟩
    · rw [e]; refine ⟨?_, ?_, seat_ok.2 ⟨v1, q2, q3, ?_⟩, .inl rfl⟩ <;> (unfold Stp.lt at *; dsimp only at *; omega)
    · rw [e]; refine ⟨b, ?_, seat_ok.2 ⟨v1, v1, v2, ?_⟩, .inr ⟨rfl, a, b⟩⟩ <;> (unfold Stp.lt at *; dsimp only at *; omega)
    · rw [e]; refine ⟨?_, ?_, h1, .inl rfl⟩ <;> (unfold Stp.lt at *; dsimp only at *; omega)
theorem fits_cases {b : Bid} {no : Int} {m : Vote} (h : fitsP b no m = true) : (b.phase = 1 ∧ m.kind = 2) ∨ (b.phase = 2 ∧ m.kind = 4 ∧ m.copy.at_ = ⟨b.time, no⟩) := by
  unfold fitsP at h
  by_cases h1 : b.phase = 1
  · rw [if_pos h1] at h; exact .inl ⟨h1, by simpa using h⟩
  · rw [if_neg h1] at h
    by_cases h2 : b.phase = 2
    · rw [if_pos h2] at h
      simp only [decide_eq_true_eq] at h
      refine .inr ⟨h2, h.1, ?_⟩
      rw [Stp.ext_iff]; exact ⟨h.2.1, h.2.2⟩
    · rw [if_neg h2] at h; simp at h
theorem hear_full {v : Vtr} {no : Int} {b : Bid} {m : Vote} (h : (hearP v no b m).2.2 = 0) : hearP v no b m = (b, [], 0) ∨
    (b.checkE v.weights v.need = 0 ∧ m.checkE = 0 ∧ m.bid = no ∧ ((b.phase = 1 ∧ m.kind = 2) ∨ (b.phase = 2 ∧ m.kind = 4 ∧ m.copy.at_ = ⟨b.time, no⟩)) ∧ ¬ m.node ≥ v.weights.length ∧
      (hearP v no b m = (heardP b m, [], 0) ∨ (v.need ≤ bsum v.weights (orU b.heard m.node.toNat).n ∧ hearP v no b m = onP v no (heardP b m)))) := by
  by_cases h0 : 0 ≤ no ∧ no ≤ 30
  · by_cases h1 : b.checkE v.weights v.need = 0
    · by_cases h2 : m.checkE = 0
      · by_cases h3 : m.bid ≠ no ∨ fitsP b no m = false ∨ m.node ≥ v.weights.length ∨ (andU b.heard m.node.toNat).n ≠ 0
        · left; unfold hearP; rw [if_neg (fun hh => hh h0), if_neg (fun hh => hh h1), if_neg (fun hh => hh h2), if_pos h3]
        · right
          have hb := bid_ok h1
          have hn := vote_node h2
          have hl : ¬ m.node ≥ v.weights.length := fun hh => h3 (.inr (.inr (.inl hh)))
          have hs : (orU b.heard m.node.toNat).n < 2 ^ v.weights.length := or_sub hb.2.2.1 (by omega) (qc_len hb.1)
          have hf : fitsP b no m = true := by
            cases hf : fitsP b no m with
            | true => rfl
            | false => exact absurd (.inr (.inl hf)) h3
          refine ⟨h1, h2, Decidable.not_not.1 fun hh => h3 (.inl hh), fits_cases hf, hl, ?_⟩
          unfold hearP
          rw [if_neg (fun hh => hh h0), if_neg (fun hh => hh h1), if_neg (fun hh => hh h2), if_neg h3]
          by_cases h4 : (enoughP v.weights v.need (heardP b m).heard.n).1 = true
          · right; rw [if_pos h4]
            have := (enough_iff hb.1 hs).1 h4
            exact ⟨by omega, rfl⟩
          · left; rw [if_neg h4]
      · exfalso; unfold hearP at h; rw [if_neg (fun hh => hh h0), if_neg (fun hh => hh h1), if_pos h2] at h; exact h2 h
    · exfalso; unfold hearP at h; rw [if_neg (fun hh => hh h0), if_pos h1] at h; exact h1 h
  · exfalso; unfold hearP at h; rw [if_pos h0] at h; simp at h
structure Syn where
  voters : Vtr
  seats : List Seat
  bids : List Bid
  votes : List Vote
inductive Nxt (s t : Syn) : Prop
  | begins {time : Int} {own : ByteArray} {b : Bid} {l : List Vote} (h : beginP s.voters s.bids.length time own = (b, l, 0)) (hw : t.voters = s.voters) (hs : t.seats = s.seats) (hb : t.bids = s.bids ++ [b]) (hv : ∀ q, q ∈ t.votes → q ∈ s.votes ∨ q ∈ l) : Nxt s t
  | serves {m : Vote} {st : Seat} (hm : m ∈ s.votes) (hk : m.kind = 1 ∨ m.kind = 3) (hn : 0 ≤ m.node) (hst : s.seats[m.node.toNat]? = some st) (he : (st.serveP m).2.2 = 0) (hw : t.voters = s.voters) (hs : t.seats = s.seats.set m.node.toNat (st.serveP m).1) (hb : t.bids = s.bids) (hv : ∀ q, q ∈ t.votes → q ∈ s.votes ∨ q ∈ (st.serveP m).2.1) : Nxt s t
  | hears {m : Vote} {b : Bid} (hm : m ∈ s.votes) (h0 : 0 ≤ m.bid) (hbd : s.bids[m.bid.toNat]? = some b) (he : (hearP s.voters m.bid b m).2.2 = 0) (hw : t.voters = s.voters) (hs : t.seats = s.seats) (hb : t.bids = s.bids.set m.bid.toNat (hearP s.voters m.bid b m).1) (hv : ∀ q, q ∈ t.votes → q ∈ s.votes ∨ q ∈ (hearP s.voters m.bid b m).2.1) : Nxt s t
  | moves (hw : t.voters = s.voters) (hs : t.seats = s.seats) (hb : t.bids = s.bids) (hv : ∀ q, q ∈ t.votes → q ∈ s.votes) : Nxt s t
def zst : Stp := ⟨0, 0⟩
theorem set_get {α : Type} {l : List α} {i : Nat} {x y : α} (h : l[i]? = some y) : (l.set i x)[i]? = some x := by
  have := (List.getElem?_eq_some_iff.1 h).1
  simp [this]
theorem set_ne {α : Type} {l : List α} {i j : Nat} {x : α} (h : j ≠ i) : (l.set i x)[j]? = l[j]? := by
  rw [List.getElem?_set, if_neg (fun hh => h hh.symm)]
theorem begin_ok {v : Vtr} {no time : Int} {own : ByteArray} {b : Bid} {l : List Vote} (h : beginP v no time own = (b, l, 0)) : 0 ≤ no ∧ b = Bid.new time own ∧ b.checkE v.weights v.need = 0 ∧ l = toAllP v.weights.length ⟨1, no, 0, ⟨⟨time, no⟩, ⟨#[]⟩⟩⟩ := by
  unfold beginP at h
  by_cases h1 : 0 ≤ no ∧ no ≤ 30
  · rw [if_neg (fun hh => hh h1)] at h
    by_cases h2 : (Bid.new time own).checkE v.weights v.need = 0
    · rw [if_neg (fun hh => hh h2)] at h
      simp only [Prod.mk.injEq] at h
      obtain ⟨rfl, rfl, _⟩ := h
      exact ⟨h1.1, rfl, h2, rfl⟩
    · rw [if_pos h2] at h
      simp only [Prod.mk.injEq] at h
      exact absurd h.2.2 h2
  · rw [if_pos h1] at h; simp at h
theorem toAll_mem {n : Nat} {m q : Vote} (h : q ∈ toAllP n m) : q.kind = m.kind ∧ q.bid = m.bid ∧ q.copy = m.copy := by
  simp only [toAllP, List.mem_map] at h
  obtain ⟨i, _, rfl⟩ := h
  exact ⟨rfl, rfl, rfl⟩
def Syn.new (v : Vtr) : Syn := ⟨v, List.replicate v.weights.length Seat.zero, [], []⟩
inductive Runs : Syn → Syn → Prop
  | nil (s : Syn) : Runs s s
  | step {s t u : Syn} (h : Nxt s t) (r : Runs t u) : Runs s u
def firstE {α : Type} (f : α → Int) : List α → Int
  | [] => 0
  | x :: r => if f x ≠ 0 then f x else firstE f r
theorem firstE_0 {α : Type} {f : α → Int} : ∀ {l : List α}, firstE f l = 0 ↔ ∀ x, x ∈ l → f x = 0
  | [] => by simp [firstE]
  | x :: r => by
    unfold firstE
    by_cases h : f x = 0
    · rw [if_neg (fun hh => hh h), firstE_0 (l := r)]; simp [h]
    · rw [if_pos h]; simp [h]
def Syn.voteE (s : Syn) (v : Vote) : Int := if v.checkE ≠ 0 then v.checkE else if v.node ≥ s.seats.length ∨ v.bid ≥ s.bids.length then 3 else 0
def Syn.checkE (s : Syn) : Int :=
  if qcheckP s.voters.weights s.voters.need ≠ 0 then qcheckP s.voters.weights s.voters.need else if s.seats.length ≠ s.voters.weights.length then 1
  else if firstE Seat.checkE s.seats ≠ 0 then firstE Seat.checkE s.seats else if s.bids.length > 31 then 2
  else if firstE (fun b => Bid.checkE b s.voters.weights s.voters.need) s.bids ≠ 0 then firstE (fun b => Bid.checkE b s.voters.weights s.voters.need) s.bids
  else if s.votes.length > 200 then 2 else firstE s.voteE s.votes
structure Syn.Ok (s : Syn) : Prop where
  q : qcheckP s.voters.weights s.voters.need = 0
  len : s.seats.length = s.voters.weights.length
  seats : ∀ x, x ∈ s.seats → x.checkE = 0
  few : s.bids.length ≤ 31
  bids : ∀ b, b ∈ s.bids → b.checkE s.voters.weights s.voters.need = 0
  many : s.votes.length ≤ 200
  votes : ∀ v, v ∈ s.votes → v.checkE = 0 ∧ v.node < s.seats.length ∧ v.bid < s.bids.length
theorem Syn.ok_iff {s : Syn} : s.checkE = 0 ↔ s.Ok := by
  unfold Syn.checkE
  constructor
  · intro h
    by_cases h1 : qcheckP s.voters.weights s.voters.need = 0
    · rw [if_neg (fun hh => hh h1)] at h
      by_cases h2 : s.seats.length = s.voters.weights.length
      · rw [if_neg (fun hh => hh h2)] at h
        by_cases h3 : firstE Seat.checkE s.seats = 0
        · rw [if_neg (fun hh => hh h3)] at h
          by_cases h4 : s.bids.length > 31
          · rw [if_pos h4] at h; simp at h
          · rw [if_neg h4] at h
            by_cases h5 : firstE (fun b => Bid.checkE b s.voters.weights s.voters.need) s.bids = 0
            · rw [if_neg (fun hh => hh h5)] at h
              by_cases h6 : s.votes.length > 200
              · rw [if_pos h6] at h; simp at h
              · rw [if_neg h6] at h
                refine ⟨h1, h2, firstE_0.1 h3, by omega, firstE_0.1 h5, by omega, fun v hv => ?_⟩
                have := firstE_0.1 h v hv
                unfold Syn.voteE at this
                by_cases h7 : v.checkE = 0
                · rw [if_neg (fun hh => hh h7)] at this
                  by_cases h8 : v.node ≥ s.seats.length ∨ v.bid ≥ s.bids.length
                  · rw [if_pos h8] at this; simp at this
                  · exact ⟨h7, by omega, by omega⟩
                · rw [if_pos h7] at this; exact absurd this h7
            · rw [if_pos h5] at h; exact absurd h h5
        · rw [if_pos h3] at h; exact absurd h h3
      · rw [if_pos h2] at h; simp at h
    · rw [if_pos h1] at h; exact absurd h h1
  · rintro ⟨h1, h2, h3, h4, h5, h6, h7⟩
    rw [if_neg (fun hh => hh h1), if_neg (fun hh => hh h2), if_neg (fun hh => hh (firstE_0.2 h3)), if_neg (by omega), if_neg (fun hh => hh (firstE_0.2 h5)), if_neg (by omega)]
    refine firstE_0.2 fun v hv => ?_
    obtain ⟨k1, k2, k3⟩ := h7 v hv
    unfold Syn.voteE
    rw [if_neg (fun hh => hh k1), if_neg (by omega)]
def Syn.zero : Syn := ⟨⟨[], 0⟩, [], [], []⟩
def Syn.manyP (s : Syn) : Syn × Int := if s.votes.length > 200 then (Syn.zero, 2) else (s, 0)
def Syn.passP (s : Syn) (v : Vote) : Syn :=
  if v.kind = 1 ∨ v.kind = 3 then match s.seats[v.node.toNat]? with
    | some st => { s with seats := s.seats.set v.node.toNat (st.serveP v).1, votes := s.votes ++ (st.serveP v).2.1 }
    | none => s
  else match s.bids[v.bid.toNat]? with
    | some b => { s with bids := s.bids.set v.bid.toNat (hearP s.voters v.bid b v).1, votes := s.votes ++ (hearP s.voters v.bid b v).2.1 }
    | none => s
def Syn.bidP (s : Syn) (time : Int) (own : ByteArray) : Syn × Int :=
  if s.bids.length = 31 then (Syn.zero, 2) else if (beginP s.voters s.bids.length time own).2.2 ≠ 0 then (Syn.zero, (beginP s.voters s.bids.length time own).2.2)
  else Syn.manyP { s with bids := s.bids ++ [(beginP s.voters s.bids.length time own).1], votes := s.votes ++ (beginP s.voters s.bids.length time own).2.1 }
def Syn.away (s : Syn) (n : Nat) : Syn := { s with votes := s.votes.eraseIdx n }
def Syn.stepP (s : Syn) (k n : Int) (d : ByteArray) : Syn × Int :=
  if ¬ (3 ≤ k ∧ k ≤ 6) then (Syn.zero, 7) else if k ≠ 6 ∧ d.size ≠ 0 then (Syn.zero, 1) else if k = 6 then s.bidP n d
  else if ¬ (0 ≤ n ∧ n < s.votes.length) then (Syn.zero, 3)
  else match s.votes[n.toNat]? with
    | some v => if k = 3 then ((s.away n.toNat).passP v).manyP else if k = 4 then (s.away n.toNat).manyP else ({ s with votes := s.votes ++ [v] } : Syn).manyP
    | none => (Syn.zero, 3)
theorem many_ok {s : Syn} (h : s.manyP.2 = 0) : s.manyP = (s, 0) ∧ s.votes.length ≤ 200 := by
  unfold Syn.manyP at h ⊢
  by_cases h1 : s.votes.length > 200
  · rw [if_pos h1] at h; simp at h
  · rw [if_neg h1]; exact ⟨rfl, by omega⟩
theorem serve_noerr {s : Seat} {v : Vote} (h1 : s.checkE = 0) (h2 : v.checkE = 0) : (s.serveP v).2.2 = 0 := by
  rcases serve_cases s v with ⟨c, _⟩ | ⟨_, c, _⟩ | ⟨_, _, ⟨_, _, e⟩ | ⟨_, _, e⟩ | ⟨_, _, e⟩⟩
  · exact absurd h1 c
  · exact absurd h2 c
  all_goals rw [e]
theorem hear_noerr {v : Vtr} {no : Int} {b : Bid} {m : Vote} (h0 : 0 ≤ no ∧ no ≤ 30) (h1 : b.checkE v.weights v.need = 0) (h2 : m.checkE = 0) : (hearP v no b m).2.2 = 0 := by
  unfold hearP
  rw [if_neg (fun hh => hh h0), if_neg (fun hh => hh h1), if_neg (fun hh => hh h2)]
  split
  · rfl
  · split
    · unfold onP; split <;> rfl
    · rfl
theorem vote_rng {v : Vote} (h : v.checkE = 0) : (1 ≤ v.kind ∧ v.kind ≤ 4) ∧ (0 ≤ v.bid ∧ v.bid ≤ 30) ∧ (0 ≤ v.node ∧ v.node ≤ 11) := by
  unfold Vote.checkE at h
  by_cases h1 : 1 ≤ v.kind ∧ v.kind ≤ 4
  · rw [if_neg (fun hh => hh h1)] at h
    by_cases h2 : 0 ≤ v.bid ∧ v.bid ≤ 30 ∧ 0 ≤ v.node ∧ v.node ≤ 11
    · exact ⟨h1, ⟨h2.1, h2.2.1⟩, h2.2.2⟩
    · rw [if_pos h2] at h; simp at h
  · rw [if_pos h1] at h; simp at h
theorem erase_mem {α : Type} {l : List α} {i : Nat} {x : α} (h : x ∈ l.eraseIdx i) : x ∈ l := (List.eraseIdx_sublist l i).subset h
theorem step_nxt {s : Syn} (ok : s.Ok) {k n : Int} {d : ByteArray} (h : (s.stepP k n d).2 = 0) : Nxt s (s.stepP k n d).1 := by
  unfold Syn.stepP at h ⊢
  by_cases h1 : 3 ≤ k ∧ k ≤ 6
  · rw [if_neg (fun hh => hh h1)] at h ⊢
    by_cases h2 : k ≠ 6 ∧ d.size ≠ 0
    · rw [if_pos h2] at h; simp at h
    · rw [if_neg h2] at h ⊢
      by_cases h3 : k = 6
      · rw [if_pos h3] at h ⊢
        unfold Syn.bidP at h ⊢
        by_cases h4 : s.bids.length = 31
        · rw [if_pos h4] at h; simp at h
        · rw [if_neg h4] at h ⊢
          by_cases h5 : (beginP s.voters s.bids.length n d).2.2 = 0
          · rw [if_neg (fun hh => hh h5)] at h ⊢
            rw [(many_ok h).1]
            exact .begins (time := n) (own := d) (b := (beginP s.voters s.bids.length n d).1) (l := (beginP s.voters s.bids.length n d).2.1) (Prod.ext rfl (Prod.ext rfl h5)) rfl rfl rfl fun q hq => List.mem_append.1 hq
          · rw [if_pos h5] at h; exact absurd h h5
      · rw [if_neg h3] at h ⊢
        by_cases h4 : 0 ≤ n ∧ n < s.votes.length
        · rw [if_neg (fun hh => hh h4)] at h ⊢
          have hv : s.votes[n.toNat]? = some (s.votes[n.toNat]'(by omega)) := List.getElem?_eq_getElem (by omega)
          generalize s.votes[n.toNat]'(by omega) = v at hv
          have hmem : v ∈ s.votes := List.mem_of_getElem? hv
          obtain ⟨w1, w2, w3⟩ := ok.votes v hmem
          have hr := vote_rng w1
          rw [hv] at h ⊢
          dsimp only at h ⊢
          by_cases h5 : k = 3
          · rw [if_pos h5] at h ⊢
            rw [(many_ok h).1]
            unfold Syn.passP
            by_cases h6 : v.kind = 1 ∨ v.kind = 3
            · rw [if_pos h6]
              have hst : s.seats[v.node.toNat]? = some (s.seats[v.node.toNat]'(by omega)) := List.getElem?_eq_getElem (by omega)
              generalize s.seats[v.node.toNat]'(by omega) = st at hst
              rw [show (s.away n.toNat).seats = s.seats from rfl, hst]
              exact .serves hmem h6 hr.2.2.1 hst (serve_noerr (ok.seats st (List.mem_of_getElem? hst)) w1) rfl rfl rfl fun q hq => (List.mem_append.1 hq).imp erase_mem id
            · rw [if_neg h6]
              have hbd : s.bids[v.bid.toNat]? = some (s.bids[v.bid.toNat]'(by omega)) := List.getElem?_eq_getElem (by omega)
              generalize s.bids[v.bid.toNat]'(by omega) = b at hbd
              rw [show (s.away n.toNat).bids = s.bids from rfl, hbd]
              exact .hears hmem hr.2.1.1 hbd (hear_noerr hr.2.1 (ok.bids b (List.mem_of_getElem? hbd)) w1) rfl rfl rfl fun q hq => (List.mem_append.1 hq).imp erase_mem id
          · rw [if_neg h5] at h ⊢
            by_cases h6 : k = 4
            · rw [if_pos h6] at h ⊢
              rw [(many_ok h).1]
              exact .moves rfl rfl rfl fun q hq => erase_mem hq
            · rw [if_neg h6] at h ⊢
              rw [(many_ok h).1]
              refine .moves rfl rfl rfl fun q hq => ?_
              rcases List.mem_append.1 hq with hq | hq
              · exact hq
              · simp only [List.mem_singleton] at hq; subst hq; exact hmem
        · rw [if_pos h4] at h; simp at h
  · rw [if_pos h1] at h; simp at h
theorem copy_iff {c : Copy} : c.checkE = 0 ↔ c.at_.okS ∧ c.data.size ≤ 64 := by
  unfold Copy.checkE
  by_cases h : c.at_.okS
  · by_cases h2 : c.data.size > 64
    · rw [if_pos h, if_pos h2]; constructor
      · intro hh; simp at hh
      · intro hh; omega
    · rw [if_pos h, if_neg h2]; exact ⟨fun _ => ⟨h, by omega⟩, fun _ => rfl⟩
  · rw [if_neg h]; constructor
    · intro hh; simp at hh
    · intro hh; exact absurd hh.1 h
theorem vote_mk {v : Vote} (h1 : 1 ≤ v.kind ∧ v.kind ≤ 4) (h2 : 0 ≤ v.bid ∧ v.bid ≤ 30 ∧ 0 ≤ v.node ∧ v.node ≤ 11) (h3 : v.copy.checkE = 0) (h4 : v.copy.data.size = 0 ∨ ¬ (v.kind = 1 ∨ v.kind = 4)) : v.checkE = 0 := by
  unfold Vote.checkE
  rw [if_neg (fun hh => hh h1), if_neg (fun hh => hh h2), if_neg (fun hh => hh h3), if_neg]
  rintro ⟨a, b⟩
  rcases h4 with h4 | h4
  · exact a h4
  · exact h4 b
theorem bid_mk {ws : List Int} {need : Int} {b : Bid} (h1 : qcheckP ws need = 0) (h2 : 1 ≤ b.time ∧ b.time ≤ 1000000) (h3 : 1 ≤ b.phase ∧ b.phase ≤ 3) (h4 : b.own.size ≤ 64 ∧ b.value.size ≤ 64) (h5 : b.best.checkE = 0) (h6 : b.heard.n < 2 ^ ws.length) : b.checkE ws need = 0 := by
  unfold Bid.checkE
  rw [if_neg (fun hh => hh h1), if_neg (fun hh => hh h2), if_neg (fun hh => hh h3), if_neg (by omega), if_neg (fun hh => hh h5), if_neg]
  intro hh
  have := len64_gt.1 (show ws.length < len64 b.heard.n by omega)
  omega
theorem bid_data {ws : List Int} {need : Int} {b : Bid} (h : b.checkE ws need = 0) : b.own.size ≤ 64 ∧ b.value.size ≤ 64 := by
  unfold Bid.checkE at h
  by_cases h1 : qcheckP ws need = 0
  · rw [if_neg (fun hh => hh h1)] at h
    by_cases h2 : 1 ≤ b.time ∧ b.time ≤ 1000000
    · rw [if_neg (fun hh => hh h2)] at h
      by_cases h3 : 1 ≤ b.phase ∧ b.phase ≤ 3
      · rw [if_neg (fun hh => hh h3)] at h
        by_cases h4 : b.own.size > 64 ∨ b.value.size > 64
        · rw [if_pos h4] at h; simp at h
        · omega
      · rw [if_pos h3] at h; simp at h
    · rw [if_pos h2] at h; simp at h
  · rw [if_pos h1] at h; exact absurd h h1
theorem i24 : (1 : Int) ≤ 2 ∧ (2 : Int) ≤ 4 := by decide
theorem i44 : (1 : Int) ≤ 4 ∧ (4 : Int) ≤ 4 := by decide
theorem i33 : (1 : Int) ≤ 3 ∧ (3 : Int) ≤ 3 := by decide
theorem i23 : (1 : Int) ≤ 2 ∧ (2 : Int) ≤ 3 := by decide
theorem i34 : (1 : Int) ≤ 3 ∧ (3 : Int) ≤ 4 := by decide
theorem i14 : (1 : Int) ≤ 1 ∧ (1 : Int) ≤ 4 := by decide
theorem em64 : (ByteArray.mk #[]).size ≤ 64 := by decide
theorem serve_votes {s : Seat} {v : Vote} (h : (s.serveP v).2.2 = 0) : ∀ q, q ∈ (s.serveP v).2.1 → q.checkE = 0 ∧ q.node = v.node ∧ q.bid = v.bid := by
  intro q hq
  rcases serve_cases s v with ⟨h1, e⟩ | ⟨h1, h2, e⟩ | ⟨h1, h2, h3⟩
  · rw [e] at hq; simp at hq
  · rw [e] at hq; simp at hq
  · obtain ⟨q1, q2, q3, q4⟩ := seat_ok.1 h1
    obtain ⟨v1, v2⟩ := vote_ok h2
    obtain ⟨r1, r2, r3⟩ := vote_rng h2
    rcases h3 with ⟨a, b, e⟩ | ⟨a, b, e⟩ | ⟨a, b, e⟩
    · rw [e] at hq; simp only [List.mem_singleton] at hq; subst hq
      exact ⟨vote_mk i24 ⟨r2.1, r2.2, r3⟩ (copy_iff.2 ⟨q2, q3⟩) (.inr (by dsimp only; omega)), rfl, rfl⟩
    · rw [e] at hq; simp only [List.mem_singleton] at hq; subst hq
      exact ⟨vote_mk i44 ⟨r2.1, r2.2, r3⟩ (copy_iff.2 ⟨v1, em64⟩) (.inl rfl), rfl, rfl⟩
    · rw [e] at hq; simp at hq
theorem toAll_node {n : Nat} {m q : Vote} (h : q ∈ toAllP n m) : 0 ≤ q.node ∧ q.node < n := by
  simp only [toAllP, List.mem_map, List.mem_range] at h
  obtain ⟨i, hi, rfl⟩ := h
  dsimp only; omega
theorem raw_ok {c o : Copy} (h1 : c.checkE = 0) (h2 : o.checkE = 0) : (c.raw o).checkE = 0 := by
  unfold Copy.raw; split <;> assumption
theorem toAll_ok {w : Vtr} {k no : Int} {c : Copy} (hq : qcheckP w.weights w.need = 0) (h0 : 0 ≤ no ∧ no ≤ 30) (hk : 1 ≤ k ∧ k ≤ 4) (hc : c.checkE = 0) (hd : c.data.size = 0 ∨ ¬ (k = 1 ∨ k = 4)) : ∀ q, q ∈ toAllP w.weights.length ⟨k, no, 0, c⟩ → q.checkE = 0 ∧ q.bid = no ∧ 0 ≤ q.node ∧ q.node < w.weights.length := by
  intro q hq2
  have hm := toAll_mem hq2
  have hn := toAll_node hq2
  have hl := qc_len hq
  obtain ⟨m1, m2, m3⟩ := hm
  dsimp only at m1 m2 m3
  exact ⟨vote_mk (by rw [m1]; exact hk) (by rw [m2]; omega) (by rw [m3]; exact hc) (by rw [m3, m1]; exact hd), m2, hn⟩
theorem time_ok {t no : Int} (h : 1 ≤ t ∧ t ≤ 1000000) (h0 : 0 ≤ no ∧ no ≤ 30) : (⟨t, no⟩ : Stp).okS := ⟨by dsimp only; omega, by dsimp only; omega, by dsimp only; omega, by dsimp only; omega⟩
theorem hear_valid {w : Vtr} {no : Int} {b : Bid} {m : Vote} (h0 : 0 ≤ no ∧ no ≤ 30) (h1 : b.checkE w.weights w.need = 0) (h2 : m.checkE = 0) :
    (hearP w no b m).1.checkE w.weights w.need = 0 ∧ ∀ q, q ∈ (hearP w no b m).2.1 → q.checkE = 0 ∧ q.bid = no ∧ 0 ≤ q.node ∧ q.node < w.weights.length := by
  rcases hear_full (hear_noerr h0 h1 h2) with e | ⟨_, _, _, _, hl, h3⟩
  · rw [e]; exact ⟨h1, fun q hq => by simp at hq⟩
  · obtain ⟨q1, q2, q3, q4, q5⟩ := bid_ok h1
    have hd := bid_data h1
    have hn := vote_node h2
    have hs : (orU b.heard m.node.toNat).n < 2 ^ w.weights.length := or_sub q3 (by omega) (qc_len q1)
    have hb : (if b.phase = 1 then b.best.raw m.copy else b.best).checkE = 0 := by
      split
      · exact raw_ok q2 (vote_copy h2)
      · exact q2
    have hh : (heardP b m).checkE w.weights w.need = 0 := bid_mk q1 q4 q5 hd hb hs
    rcases h3 with e | ⟨_, e⟩
    · rw [e]; exact ⟨hh, fun q hq => by simp at hq⟩
    · rw [e]
      unfold onP
      by_cases hp : (heardP b m).phase = 2
      · rw [if_pos hp]
        exact ⟨bid_mk q1 q4 i33 hd hb hs, fun q hq => by simp at hq⟩
      · rw [if_neg hp]
        obtain ⟨b1, b2⟩ := copy_iff.1 hb
        have hv : (if (heardP b m).best.at_.time = 0 ∧ (heardP b m).best.at_.who = 0 then (heardP b m).own else (heardP b m).best.data).size ≤ 64 := by
          split
          · exact hd.1
          · exact b2
        exact ⟨bid_mk q1 q4 i23 ⟨hd.1, hv⟩ hb (Nat.two_pow_pos _), toAll_ok q1 h0 i34 (copy_iff.2 ⟨time_ok q4 h0, hv⟩) (.inr (by omega))⟩
theorem mem_set' {α : Type} {l : List α} {i : Nat} {x y : α} (h : y ∈ l.set i x) : y = x ∨ y ∈ l := (List.mem_or_eq_of_mem_set h).symm
theorem passP_eq {s : Syn} {v : Vote} (hv : v.checkE = 0) (hn : v.node < s.seats.length) (hb : v.bid < s.bids.length) :
    (∃ st, (v.kind = 1 ∨ v.kind = 3) ∧ s.seats[v.node.toNat]? = some st ∧ s.passP v = { s with seats := s.seats.set v.node.toNat (st.serveP v).1, votes := s.votes ++ (st.serveP v).2.1 }) ∨
    (∃ b, (v.kind = 2 ∨ v.kind = 4) ∧ s.bids[v.bid.toNat]? = some b ∧ s.passP v = { s with bids := s.bids.set v.bid.toNat (hearP s.voters v.bid b v).1, votes := s.votes ++ (hearP s.voters v.bid b v).2.1 }) := by
  have hr := vote_rng hv
  by_cases h : v.kind = 1 ∨ v.kind = 3
  · left
    have e : s.seats[v.node.toNat]? = some (s.seats[v.node.toNat]'(by omega)) := List.getElem?_eq_getElem (by omega)
    refine ⟨_, h, e, ?_⟩
    unfold Syn.passP; rw [if_pos h, e]
  · right
    have e : s.bids[v.bid.toNat]? = some (s.bids[v.bid.toNat]'(by omega)) := List.getElem?_eq_getElem (by omega)
    refine ⟨_, by omega, e, ?_⟩
    unfold Syn.passP; rw [if_neg h, e]
theorem Syn.Ok.away {s : Syn} (ok : s.Ok) (n : Nat) : (s.away n).Ok :=
  ⟨ok.q, ok.len, ok.seats, ok.few, ok.bids, by have := (List.eraseIdx_sublist s.votes n).length_le; have := ok.many; show (s.votes.eraseIdx n).length ≤ 200; omega, fun v hv => ok.votes v (erase_mem hv)⟩
theorem Syn.Ok.more {s : Syn} (ok : s.Ok) {l : List Vote} (hl : (s.votes ++ l).length ≤ 200) (h : ∀ q, q ∈ l → q.checkE = 0 ∧ q.node < s.seats.length ∧ q.bid < s.bids.length) : ({ s with votes := s.votes ++ l } : Syn).Ok :=
  ⟨ok.q, ok.len, ok.seats, ok.few, ok.bids, hl, fun v hv => (List.mem_append.1 hv).elim (ok.votes v) (h v)⟩
theorem Syn.Ok.passes {s : Syn} (ok : s.Ok) {v : Vote} (hv : v.checkE = 0) (hn : v.node < s.seats.length) (hb : v.bid < s.bids.length) (hm : (s.passP v).manyP.2 = 0) : (s.passP v).manyP.1.Ok := by
  have hr := vote_rng hv
  rw [(many_ok hm).1]
  have hl := (many_ok hm).2
  clear hm
  rcases passP_eq hv hn hb with ⟨st, _, h2, e⟩ | ⟨b, _, h2, e⟩
  · rw [e] at hl ⊢
    have h3 := serve_noerr (ok.seats st (List.mem_of_getElem? h2)) hv
    refine ⟨ok.q, (List.length_set ..).trans ok.len, fun x hx => ?_, ok.few, ok.bids, hl, fun q hq => ?_⟩
    · rcases mem_set' hx with rfl | hx
      · exact (serve_rises h3).2.2.1
      · exact ok.seats x hx
    · show q.checkE = 0 ∧ q.node < (s.seats.set _ _).length ∧ q.bid < s.bids.length
      rw [List.length_set]
      rcases List.mem_append.1 hq with hq | hq
      · exact ok.votes q hq
      · obtain ⟨a, b, c⟩ := serve_votes h3 q hq
        exact ⟨a, by omega, by omega⟩
  · rw [e] at hl ⊢
    have h3 := hear_valid (w := s.voters) hr.2.1 (ok.bids b (List.mem_of_getElem? h2)) hv
    refine ⟨ok.q, ok.len, ok.seats, by show (s.bids.set _ _).length ≤ 31; rw [List.length_set]; exact ok.few, fun x hx => ?_, hl, fun q hq => ?_⟩
    · rcases mem_set' hx with rfl | hx
      · exact h3.1
      · exact ok.bids x hx
    · show q.checkE = 0 ∧ q.node < s.seats.length ∧ q.bid < (s.bids.set _ _).length
      rw [List.length_set]
      rcases List.mem_append.1 hq with hq | hq
      · exact ok.votes q hq
      · obtain ⟨a, b, c, d⟩ := h3.2 q hq
        have := ok.len
        exact ⟨a, by omega, by omega⟩
theorem Syn.Ok.begins {s : Syn} (ok : s.Ok) {t : Int} {own : ByteArray} (h : (s.bidP t own).2 = 0) : (s.bidP t own).1.Ok := by
  unfold Syn.bidP at h ⊢
  by_cases h4 : s.bids.length = 31
  · rw [if_pos h4] at h; simp at h
  · rw [if_neg h4] at h ⊢
    by_cases h5 : (beginP s.voters s.bids.length t own).2.2 = 0
    · rw [if_neg (fun hh => hh h5)] at h ⊢
      rw [(many_ok h).1]
      have hl := (many_ok h).2
      clear h
      obtain ⟨a, b, c, d⟩ := begin_ok (v := s.voters) (no := s.bids.length) (time := t) (own := own) (b := (beginP s.voters s.bids.length t own).1) (l := (beginP s.voters s.bids.length t own).2.1) (Prod.ext rfl (Prod.ext rfl h5))
      have hf := ok.few
      have hc := bid_ok c
      rw [b] at hc
      refine ⟨ok.q, ok.len, ok.seats, ?_, fun x hx => ?_, hl, fun q hq => ?_⟩
      · show (s.bids ++ [_]).length ≤ 31; rw [List.length_append]; simp; omega
      · rcases List.mem_append.1 hx with hx | hx
        · exact ok.bids x hx
        · simp only [List.mem_singleton] at hx; subst hx; exact c
      · show q.checkE = 0 ∧ q.node < s.seats.length ∧ q.bid < (s.bids ++ [_]).length
        rw [List.length_append, List.length_singleton]
        rcases List.mem_append.1 hq with hq | hq
        · have := ok.votes q hq; exact ⟨this.1, this.2.1, by omega⟩
        · rw [d] at hq
          obtain ⟨k1, k2, k3, k4⟩ := toAll_ok ok.q ⟨a, by omega⟩ i14 (copy_iff.2 ⟨time_ok (no := s.bids.length) hc.2.2.2.1 ⟨a, by omega⟩, em64⟩) (.inl rfl) q hq
          have := ok.len
          exact ⟨k1, by omega, by omega⟩
    · rw [if_pos h5] at h; exact absurd h h5
theorem Syn.step_ok {s : Syn} (ok : s.Ok) {k n : Int} {d : ByteArray} (h : (s.stepP k n d).2 = 0) : (s.stepP k n d).1.Ok := by
  unfold Syn.stepP at h ⊢
  by_cases h1 : 3 ≤ k ∧ k ≤ 6
  · rw [if_neg (fun hh => hh h1)] at h ⊢
    by_cases h2 : k ≠ 6 ∧ d.size ≠ 0
    · rw [if_pos h2] at h; simp at h
    · rw [if_neg h2] at h ⊢
      by_cases h3 : k = 6
      · rw [if_pos h3] at h ⊢; exact ok.begins h
      · rw [if_neg h3] at h ⊢
        by_cases h4 : 0 ≤ n ∧ n < s.votes.length
        · rw [if_neg (fun hh => hh h4)] at h ⊢
          have hv : s.votes[n.toNat]? = some (s.votes[n.toNat]'(by omega)) := List.getElem?_eq_getElem (by omega)
          generalize s.votes[n.toNat]'(by omega) = v at hv
          have hmem : v ∈ s.votes := List.mem_of_getElem? hv
          obtain ⟨w1, w2, w3⟩ := ok.votes v hmem
          rw [hv] at h ⊢
          dsimp only at h ⊢
          by_cases h5 : k = 3
          · rw [if_pos h5] at h ⊢; exact (ok.away n.toNat).passes w1 w2 w3 h
          · rw [if_neg h5] at h ⊢
            by_cases h6 : k = 4
            · rw [if_pos h6] at h ⊢
              rw [(many_ok h).1]; exact ok.away _
            · rw [if_neg h6] at h ⊢
              rw [(many_ok h).1]
              refine ok.more (many_ok h).2 fun q hq => ?_
              simp only [List.mem_singleton] at hq; subst hq; exact ⟨w1, w2, w3⟩
        · rw [if_pos h4] at h; simp at h
  · rw [if_pos h1] at h; simp at h
def Syn.doP (s : Syn) (k n : Int) (d : ByteArray) : Syn × Int := if s.checkE = 0 then s.stepP k n d else (Syn.zero, s.checkE)
theorem Syn.doP_0 {s : Syn} {k n : Int} {d : ByteArray} (h : s.checkE = 0) : s.doP k n d = s.stepP k n d := if_pos h
theorem Syn.doP_n {s : Syn} {k n : Int} {d : ByteArray} (h : ¬ s.checkE = 0) : s.doP k n d = (Syn.zero, s.checkE) := if_neg h
theorem Syn.new_ok {v : Vtr} (h : qcheckP v.weights v.need = 0) : (Syn.new v).Ok :=
  ⟨h, by simp [Syn.new], fun x hx => by simp only [Syn.new, List.mem_replicate] at hx; rw [hx.2]; decide, by simp [Syn.new], fun b hb => by simp [Syn.new] at hb, by simp [Syn.new], fun b hb => by simp [Syn.new] at hb⟩
def Syn.runGo : Syn → List Step → Int → Syn × Int
  | s, [], n => (s, n)
  | s, a :: l, n => if (s.stepP a.kind a.n a.data).2 = 0 then runGo (s.stepP a.kind a.n a.data).1 l (n + 1) else runGo s l n
theorem Syn.runGo_cons {s : Syn} {a : Step} {l : List Step} {n : Int} : s.runGo (a :: l) n = if (s.stepP a.kind a.n a.data).2 = 0 then (s.stepP a.kind a.n a.data).1.runGo l (n + 1) else s.runGo l n := rfl
def Syn.runP (s : Syn) (l : List Step) : Syn × Int × Int :=
  if s.checkE = 0 then (if 200 < l.length then (Syn.zero, 0, 2) else ((s.runGo l 0).1, (s.runGo l 0).2, 0)) else (Syn.zero, 0, s.checkE)
theorem Syn.runP_n {s : Syn} {l : List Step} (h : ¬ s.checkE = 0) : s.runP l = (Syn.zero, 0, s.checkE) := if_neg h
theorem Syn.runP_2 {s : Syn} {l : List Step} (h : s.checkE = 0) (h2 : 200 < l.length) : s.runP l = (Syn.zero, 0, 2) := by unfold Syn.runP; rw [if_pos h, if_pos h2]
theorem Syn.runP_0 {s : Syn} {l : List Step} (h : s.checkE = 0) (h2 : ¬ 200 < l.length) : s.runP l = ((s.runGo l 0).1, (s.runGo l 0).2, 0) := by unfold Syn.runP; rw [if_pos h, if_neg h2]
theorem Syn.run_go : ∀ (l : List Step) {s : Syn} (n : Int), s.Ok → Runs s (s.runGo l n).1 ∧ (s.runGo l n).1.Ok
  | [], s, n, ok => ⟨.nil s, ok⟩
  | a :: l, s, n, ok => by
    unfold Syn.runGo
    by_cases h : (s.stepP a.kind a.n a.data).2 = 0
    · rw [if_pos h]
      have := Syn.run_go l (n + 1) (Syn.step_ok ok h)
      exact ⟨.step (step_nxt ok h) this.1, this.2⟩
    · rw [if_neg h]; exact Syn.run_go l n ok
theorem Syn.run_split : ∀ (l m : List Step) {s : Syn} (n : Int), s.runGo (l ++ m) n = (s.runGo l n).1.runGo m (s.runGo l n).2
  | [], m, s, n => rfl
  | a :: l, m, s, n => by
    rw [List.cons_append]
    simp only [Syn.runGo_cons]
    by_cases h : (s.stepP a.kind a.n a.data).2 = 0
    · simp only [if_pos h]; exact Syn.run_split l m (n + 1)
    · simp only [if_neg h]; exact Syn.run_split l m n
theorem Syn.run_from : ∀ (l : List Step) {s : Syn} (n k : Int), s.runGo l (n + k) = ((s.runGo l n).1, (s.runGo l n).2 + k)
  | [], s, n, k => rfl
  | a :: l, s, n, k => by
    simp only [Syn.runGo_cons]
    by_cases h : (s.stepP a.kind a.n a.data).2 = 0
    · simp only [if_pos h]; rw [show n + k + 1 = (n + 1) + k by omega]; exact Syn.run_from l (n + 1) k
    · simp only [if_neg h]; exact Syn.run_from l n k
end Go.Proofs.YtligepciannclaaDoor
