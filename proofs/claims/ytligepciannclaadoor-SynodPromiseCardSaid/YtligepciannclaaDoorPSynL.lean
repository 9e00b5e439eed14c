/- Plain law of synods: a bid above all others is done, where nothing is lost. No condition. -/
import Derived.Test.YtligepciannclaaDoorPSeatC
import Derived.Test.YtligepciannclaaDoorPAvOwn
set_option maxRecDepth 100000
set_option maxHeartbeats 4000000
set_option linter.unusedVariables false
set_option linter.unusedSimpArgs false
namespace Go.Proofs.YtligepciannclaaDoor
def onP (v : Voters) (no : Int) (b : Bid) : Bid × List Vote × Int :=
  if b.phase = 2 then ({ b with phase := 3 }, [], 0)
  else ({ b with value := if b.best.at_.time = 0 ∧ b.best.at_.who = 0 then b.own else b.best.data, phase := 2, heard := ⟨0, by decide⟩ }, toAllP v.weights.length ⟨3, no, 0, ⟨⟨b.time, no⟩, if b.best.at_.time = 0 ∧ b.best.at_.who = 0 then b.own else b.best.data⟩⟩, 0)
def heardP (b : Bid) (m : Vote) : Bid := { b with heard := orU b.heard m.node.toNat, best := if b.phase = 1 then b.best.raw m.copy else b.best }
def hearP (v : Voters) (no : Int) (b : Bid) (m : Vote) : Bid × List Vote × Int :=
  if ¬ (0 ≤ no ∧ no ≤ 30) then (Bid.zero, [], 3)
  else if b.checkE v.weights v.need ≠ 0 then (Bid.zero, [], b.checkE v.weights v.need)
  else if m.checkE ≠ 0 then (Bid.zero, [], m.checkE)
  else if m.bid ≠ no ∨ fitsP b no m = false ∨ m.node ≥ v.weights.length ∨ (andU b.heard m.node.toNat).n ≠ 0 then (b, [], 0)
  else if (enoughP v.weights v.need (heardP b m).heard.n).1 = true then onP v no (heardP b m) else (heardP b m, [], 0)
theorem hear_go {v : Voters} {no : Int} {b : Bid} {m : Vote} (h1 : 0 ≤ no ∧ no ≤ 30) (h2 : b.checkE v.weights v.need = 0) (h3 : m.checkE = 0) (h4 : m.bid = no) (h5 : fitsP b no m = true) (h6 : ¬ m.node ≥ v.weights.length) (h7 : ((andU b.heard m.node.toNat).n : Int) = 0) :
    hearP v no b m = if (enoughP v.weights v.need (orU b.heard m.node.toNat).n).1 = true then onP v no (heardP b m) else (heardP b m, [], 0) := by
  unfold hearP
  rw [if_neg (fun hh => hh h1), if_neg (fun hh => hh h2), if_neg (fun hh => hh h3), if_neg]
  · rfl
  · rintro (h | h | h | h)
    · exact h h4
    · rw [h5] at h; simp at h
    · exact h6 h
    · exact h (by omega)
theorem vote_node {m : Vote} (h : m.checkE = 0) : 0 ≤ m.node ∧ m.node < 64 := by
  unfold Vote.checkE at h
  split at h
  · simp at h
  · split at h
    · simp at h
    · omega
section
variable (b : Bid) (m : Vote) (no : Int) (v : Voters)
abbrev D0 : OB := some ⟨8, [[VI b.time, VI b.phase, .v (.string b.own), .v (.string b.value), VI b.best.at_.time, VI b.best.at_.who, .v (.string b.best.data), .v (.int .u64 (b.heard.n : Int))]]⟩
abbrev D1 : OB := some ⟨6, [[VI m.kind, VI m.bid, VI m.node, VI m.copy.at_.time, VI m.copy.at_.who, .v (.string m.copy.data)]]⟩
abbrev D2 : OB := some ⟨8, [[VI 0, VI 0, .v (.string (⟨#[]⟩)), .v (.string (⟨#[]⟩)), VI 0, VI 0, .v (.string (⟨#[]⟩)), .v (.int .u64 0)]]⟩
abbrev D3 : LB := [some ⟨2, [[.lst 1 (v.weights.map cI), VI v.need]]⟩, (D0 b), (D1 m), D2]
abbrev D4 : LS := [(8, .ref 3 8 0 0), (7, .ref 2 6 0 0), (6, .ref 1 8 0 0), (4, .ref 0 2 0 0), (1, VI no)]
abbrev D5 : AV := .agg [VI b.time, VI b.phase, .v (.string b.own), .v (.string b.value), VI b.best.at_.time, VI b.best.at_.who, .v (.string b.best.data), .v (.int .u64 (b.heard.n : Int))]
abbrev D6 : LS := (20, (D5 b)) :: (19, .agg [.lst 1 (v.weights.map cI), VI v.need]) :: (18, .v (.bool true)) :: (11, VI 3) :: (D4 no)
abbrev D7 : LS := (11, VI (b.checkE v.weights v.need)) :: (21, VI (b.checkE v.weights v.need)) :: (20, (D5 b)) :: (19, .agg [.lst 1 (v.weights.map cI), VI v.need]) :: (18, .v (.bool true)) :: (D4 no)
abbrev D8 : AV := .agg [VI m.kind, VI m.bid, VI m.node, VI m.copy.at_.time, VI m.copy.at_.who, .v (.string m.copy.data)]
abbrev D9 : LS := (24, (D8 m)) :: (23, .v (.bool true)) :: (11, VI (b.checkE v.weights v.need)) :: (D4 no)
abbrev D10 : LS := (11, VI m.checkE) :: (25, VI m.checkE) :: (24, (D8 m)) :: (23, .v (.bool true)) :: (D4 no)
abbrev D11 : LS := [(10, VI m.checkE), (9, .emp), (8, .ref 3 8 0 0)]
abbrev D12 : LB := [some ⟨2, [[.lst 1 (v.weights.map cI), VI v.need]]⟩, (D0 b), (D1 m), D2, some ⟨2, [[.ref 1 8 0 0, VI no]]⟩]
abbrev D13 : LS := (33, VI m.node) :: (32, .ref 2 6 0 2) :: (12, .ref 4 2 0 0) :: (D4 no)
abbrev D14 : LS := (13, .v (.int .u64 ((2 ^ (Int.toNat m.node) : Nat) : Int))) :: (12, .ref 4 2 0 0) :: (D4 no)
abbrev D15 : LS := (37, VI no) :: (36, VI m.bid) :: (35, .ref 2 6 0 1) :: (D14 m no)
abbrev D16 : LS := [(59, .v (.bool true)), (13, .v (.int .u64 ((2 ^ (Int.toNat m.node) : Nat) : Int))), (12, .ref 4 2 0 0), (8, .ref 3 8 0 0), (7, .ref 2 6 0 0), (6, .ref 1 8 0 0), (4, .ref 0 2 0 0)]
abbrev D17 : LB := [some ⟨2, [[.lst 1 (v.weights.map cI), VI v.need]]⟩, (D0 b), (D1 m), (D0 b), some ⟨2, [[.ref 1 8 0 0, VI no]]⟩]
abbrev D18 : LS := (41, (D8 m)) :: (40, .agg [.ref 1 8 0 0, VI no]) :: (39, .v (.bool false)) :: (38, .v (.bool false)) :: (D15 m no)
abbrev D19 : LS := (49, .lst 1 (v.weights.map cI)) :: (48, .ref 0 2 0 0) :: (47, VI m.node) :: (46, .ref 2 6 0 2) :: (45, .v (.bool false)) :: (44, .v (.bool false)) :: (43, .v (.bool false)) :: (42, .v (.bool true)) :: (D18 m no)
abbrev D20 : LS := (56, .v (.int .u64 ((2 ^ (Int.toNat m.node) : Nat) : Int))) :: (55, .v (.int .u64 (b.heard.n : Int))) :: (54, .ref 1 8 0 7) :: (53, .v (.bool false)) :: (52, .v (.bool false)) :: (51, .v (.bool false)) :: (50, VI (List.length v.weights : Int)) :: (D19 m no v)
abbrev D21 : LS := [(13, .v (.int .u64 ((2 ^ (Int.toNat m.node) : Nat) : Int))), (12, .ref 4 2 0 0), (8, .ref 3 8 0 0), (7, .ref 2 6 0 0), (6, .ref 1 8 0 0), (4, .ref 0 2 0 0)]
abbrev D22 : LS := (63, .v (.int .u64 ((2 ^ (Int.toNat m.node) : Nat) : Int))) :: (62, .v (.int .u64 (b.heard.n : Int))) :: (61, .ref 1 8 0 7) :: (59, .v (.bool false)) :: (D21 m)
abbrev D23 : OB := some ⟨8, [[VI b.time, VI b.phase, .v (.string b.own), .v (.string b.value), VI b.best.at_.time, VI b.best.at_.who, .v (.string b.best.data), .v (.int .u64 ((orU b.heard (Int.toNat m.node)).n : Int))]]⟩
abbrev D24 : LB := [some ⟨2, [[.lst 1 (v.weights.map cI), VI v.need]]⟩, (D23 b m), (D1 m), D2, some ⟨2, [[.ref 1 8 0 0, VI no]]⟩]
abbrev D25 : LS := [(12, .ref 4 2 0 0), (8, .ref 3 8 0 0), (7, .ref 2 6 0 0), (6, .ref 1 8 0 0), (4, .ref 0 2 0 0)]
abbrev D26 : AV := .agg [VI m.copy.at_.time, VI m.copy.at_.who, .v (.string m.copy.data)]
abbrev D27 : AV := .agg [VI b.best.at_.time, VI b.best.at_.who, .v (.string b.best.data)]
abbrev D28 : LS := (72, (D26 m)) :: (71, .ref 2 6 0 3) :: (70, (D27 b)) :: (69, .ref 1 8 0 4) :: (68, .v (.bool true)) :: D25
abbrev D29 : AV := .agg [VI (((b.best.raw m.copy).at_).time), VI (((b.best.raw m.copy).at_).who), .v (.string ((b.best.raw m.copy).data))]
abbrev D30 : OB := some ⟨8, [[VI b.time, VI b.phase, .v (.string b.own), .v (.string b.value), VI (((b.best.raw m.copy).at_).time), VI (((b.best.raw m.copy).at_).who), .v (.string ((b.best.raw m.copy).data)), .v (.int .u64 ((orU b.heard (Int.toNat m.node)).n : Int))]]⟩
abbrev D31 : LB := [some ⟨2, [[.lst 1 (v.weights.map cI), VI v.need]]⟩, (D30 b m), (D1 m), D2, some ⟨2, [[.ref 1 8 0 0, VI no]]⟩]
abbrev D32 : LS := [(14, .emp), (12, .ref 4 2 0 0), (8, .ref 3 8 0 0), (6, .ref 1 8 0 0), (4, .ref 0 2 0 0)]
abbrev D33 : LS := (81, .v (.int .u64 ((orU b.heard (Int.toNat m.node)).n : Int))) :: (80, .ref 1 8 0 7) :: (79, VI v.need) :: (78, .ref 0 2 0 1) :: (77, .lst 1 (v.weights.map cI)) :: (76, .ref 0 2 0 0) :: D32
abbrev D34 : LS := (87, .agg [.lst 1 (v.weights.map cI), VI v.need]) :: (86, .agg [.ref 1 8 0 0, VI no]) :: (85, .v (.bool true)) :: D32
abbrev D35 : LB := [some ⟨2, [[.lst 1 (v.weights.map cI), VI v.need]]⟩, (D30 b m), (D1 m), D2, some ⟨2, [[.ref 1 8 0 0, VI no]]⟩, some ⟨2, [[.ref 1 8 0 0, VI no]]⟩, some ⟨2, [[.lst 1 (v.weights.map cI), VI v.need]]⟩]
abbrev D36 : OB := some ⟨8, [[VI b.time, VI 3, .v (.string b.own), .v (.string b.value), VI (((b.best.raw m.copy).at_).time), VI (((b.best.raw m.copy).at_).who), .v (.string ((b.best.raw m.copy).data)), .v (.int .u64 ((orU b.heard (Int.toNat m.node)).n : Int))]]⟩
abbrev D37 : LB := [some ⟨2, [[.lst 1 (v.weights.map cI), VI v.need]]⟩, (D36 b m), (D1 m), D2, some ⟨2, [[.ref 1 8 0 0, VI no]]⟩, some ⟨2, [[.ref 1 8 0 0, VI no]]⟩, some ⟨2, [[.lst 1 (v.weights.map cI), VI v.need]]⟩]
abbrev D38 : LB := [some ⟨2, [[.lst 1 (v.weights.map cI), VI v.need]]⟩, (D36 b m), (D1 m), D2, some ⟨2, [[.ref 1 8 0 0, VI no]]⟩]
abbrev D39 : LS := [(14, .emp), (88, .emp), (87, .agg [.lst 1 (v.weights.map cI), VI v.need]), (86, .agg [.ref 1 8 0 0, VI no]), (85, .v (.bool true)), (12, .ref 4 2 0 0), (8, .ref 3 8 0 0), (6, .ref 1 8 0 0), (4, .ref 0 2 0 0)]
abbrev D40 : LB := [some ⟨2, [[.lst 1 (v.weights.map cI), VI v.need]]⟩, (D36 b m), (D1 m), (D36 b m), some ⟨2, [[.ref 1 8 0 0, VI no]]⟩]
abbrev D41 : OB := some ⟨8, [[VI b.time, VI b.phase, .v (.string b.own), .v (.string ((b.best.raw m.copy).data)), VI (((b.best.raw m.copy).at_).time), VI (((b.best.raw m.copy).at_).who), .v (.string ((b.best.raw m.copy).data)), .v (.int .u64 ((orU b.heard (Int.toNat m.node)).n : Int))]]⟩
abbrev D42 : LB := [some ⟨2, [[.lst 1 (v.weights.map cI), VI v.need]]⟩, (D41 b m), (D1 m), D2, some ⟨2, [[.ref 1 8 0 0, VI no]]⟩, some ⟨2, [[.ref 1 8 0 0, VI no]]⟩, some ⟨2, [[.lst 1 (v.weights.map cI), VI v.need]]⟩]
abbrev D43 : OB := some ⟨8, [[VI b.time, VI b.phase, .v (.string b.own), .v (.string b.own), VI (((b.best.raw m.copy).at_).time), VI (((b.best.raw m.copy).at_).who), .v (.string ((b.best.raw m.copy).data)), .v (.int .u64 ((orU b.heard (Int.toNat m.node)).n : Int))]]⟩
abbrev D44 : LB := [some ⟨2, [[.lst 1 (v.weights.map cI), VI v.need]]⟩, (D43 b m), (D1 m), D2, some ⟨2, [[.ref 1 8 0 0, VI no]]⟩, some ⟨2, [[.ref 1 8 0 0, VI no]]⟩, some ⟨2, [[.lst 1 (v.weights.map cI), VI v.need]]⟩]
abbrev D45 : LS := [(41, .ref 1 8 0 3), (40, .ref 1 8 0 0), (39, .v (.string b.own)), (38, .ref 1 8 0 2), (37, .ref 1 8 0 0), (36, .ref 1 8 0 0), (35, .ref 5 2 0 0), (34, .ref 1 8 0 0), (33, .ref 5 2 0 0), (32, .v (.bool true)), (3, .ref 6 2 0 0), (2, .ref 5 2 0 0)]
abbrev D46 : OB := some ⟨8, [[VI b.time, VI 2, .v (.string b.own), .v (.string b.own), VI (((b.best.raw m.copy).at_).time), VI (((b.best.raw m.copy).at_).who), .v (.string ((b.best.raw m.copy).data)), .v (.int .u64 0)]]⟩
abbrev D47 : LB := [some ⟨2, [[.lst 1 (v.weights.map cI), VI v.need]]⟩, (D46 b m), (D1 m), D2, some ⟨2, [[.ref 1 8 0 0, VI no]]⟩, some ⟨2, [[.ref 1 8 0 0, VI no]]⟩, some ⟨2, [[.lst 1 (v.weights.map cI), VI v.need]]⟩]
abbrev D48 : LS := [(53, .agg [.ref 1 8 0 0, VI no]), (52, VI no), (51, .ref 5 2 0 1), (50, .agg [.lst 1 (v.weights.map cI), VI v.need]), (3, .ref 6 2 0 0), (2, .ref 5 2 0 0)]
abbrev D49 : LB := [some ⟨2, [[.lst 1 (v.weights.map cI), VI v.need]]⟩, (D46 b m), (D1 m), D2, some ⟨2, [[.ref 1 8 0 0, VI no]]⟩]
abbrev D50 : LS := [(87, .agg [.lst 1 (v.weights.map cI), VI v.need]), (86, .agg [.ref 1 8 0 0, VI no]), (85, .v (.bool true)), (12, .ref 4 2 0 0), (8, .ref 3 8 0 0), (6, .ref 1 8 0 0), (4, .ref 0 2 0 0)]
abbrev D51 : LB := [some ⟨2, [[.lst 1 (v.weights.map cI), VI v.need]]⟩, (D46 b m), (D1 m), (D46 b m), some ⟨2, [[.ref 1 8 0 0, VI no]]⟩]
abbrev D52 : OB := some ⟨8, [[VI b.time, VI 2, .v (.string b.own), .v (.string ((b.best.raw m.copy).data)), VI (((b.best.raw m.copy).at_).time), VI (((b.best.raw m.copy).at_).who), .v (.string ((b.best.raw m.copy).data)), .v (.int .u64 0)]]⟩
abbrev D53 : LB := [some ⟨2, [[.lst 1 (v.weights.map cI), VI v.need]]⟩, (D52 b m), (D1 m), D2, some ⟨2, [[.ref 1 8 0 0, VI no]]⟩, some ⟨2, [[.ref 1 8 0 0, VI no]]⟩, some ⟨2, [[.lst 1 (v.weights.map cI), VI v.need]]⟩]
abbrev D54 : LB := [some ⟨2, [[.lst 1 (v.weights.map cI), VI v.need]]⟩, (D52 b m), (D1 m), D2, some ⟨2, [[.ref 1 8 0 0, VI no]]⟩]
abbrev D55 : LB := [some ⟨2, [[.lst 1 (v.weights.map cI), VI v.need]]⟩, (D52 b m), (D1 m), (D52 b m), some ⟨2, [[.ref 1 8 0 0, VI no]]⟩]
abbrev D56 : LB := [some ⟨2, [[.lst 1 (v.weights.map cI), VI v.need]]⟩, (D30 b m), (D1 m), (D30 b m), some ⟨2, [[.ref 1 8 0 0, VI no]]⟩]
abbrev D57 : LB := [some ⟨2, [[.lst 1 (v.weights.map cI), VI v.need]]⟩, (D23 b m), (D1 m), D2, some ⟨2, [[.ref 1 8 0 0, VI no]]⟩, some ⟨2, [[.ref 1 8 0 0, VI no]]⟩, some ⟨2, [[.lst 1 (v.weights.map cI), VI v.need]]⟩]
abbrev D58 : OB := some ⟨8, [[VI b.time, VI 3, .v (.string b.own), .v (.string b.value), VI b.best.at_.time, VI b.best.at_.who, .v (.string b.best.data), .v (.int .u64 ((orU b.heard (Int.toNat m.node)).n : Int))]]⟩
abbrev D59 : LB := [some ⟨2, [[.lst 1 (v.weights.map cI), VI v.need]]⟩, (D58 b m), (D1 m), D2, some ⟨2, [[.ref 1 8 0 0, VI no]]⟩, some ⟨2, [[.ref 1 8 0 0, VI no]]⟩, some ⟨2, [[.lst 1 (v.weights.map cI), VI v.need]]⟩]
abbrev D60 : LB := [some ⟨2, [[.lst 1 (v.weights.map cI), VI v.need]]⟩, (D58 b m), (D1 m), D2, some ⟨2, [[.ref 1 8 0 0, VI no]]⟩]
abbrev D61 : LB := [some ⟨2, [[.lst 1 (v.weights.map cI), VI v.need]]⟩, (D58 b m), (D1 m), (D58 b m), some ⟨2, [[.ref 1 8 0 0, VI no]]⟩]
abbrev D62 : OB := some ⟨8, [[VI b.time, VI b.phase, .v (.string b.own), .v (.string b.best.data), VI b.best.at_.time, VI b.best.at_.who, .v (.string b.best.data), .v (.int .u64 ((orU b.heard (Int.toNat m.node)).n : Int))]]⟩
abbrev D63 : LB := [some ⟨2, [[.lst 1 (v.weights.map cI), VI v.need]]⟩, (D62 b m), (D1 m), D2, some ⟨2, [[.ref 1 8 0 0, VI no]]⟩, some ⟨2, [[.ref 1 8 0 0, VI no]]⟩, some ⟨2, [[.lst 1 (v.weights.map cI), VI v.need]]⟩]
abbrev D64 : OB := some ⟨8, [[VI b.time, VI b.phase, .v (.string b.own), .v (.string b.own), VI b.best.at_.time, VI b.best.at_.who, .v (.string b.best.data), .v (.int .u64 ((orU b.heard (Int.toNat m.node)).n : Int))]]⟩
abbrev D65 : LB := [some ⟨2, [[.lst 1 (v.weights.map cI), VI v.need]]⟩, (D64 b m), (D1 m), D2, some ⟨2, [[.ref 1 8 0 0, VI no]]⟩, some ⟨2, [[.ref 1 8 0 0, VI no]]⟩, some ⟨2, [[.lst 1 (v.weights.map cI), VI v.need]]⟩]
abbrev D66 : OB := some ⟨8, [[VI b.time, VI 2, .v (.string b.own), .v (.string b.own), VI b.best.at_.time, VI b.best.at_.who, .v (.string b.best.data), .v (.int .u64 0)]]⟩
abbrev D67 : LB := [some ⟨2, [[.lst 1 (v.weights.map cI), VI v.need]]⟩, (D66 b), (D1 m), D2, some ⟨2, [[.ref 1 8 0 0, VI no]]⟩, some ⟨2, [[.ref 1 8 0 0, VI no]]⟩, some ⟨2, [[.lst 1 (v.weights.map cI), VI v.need]]⟩]
abbrev D68 : LB := [some ⟨2, [[.lst 1 (v.weights.map cI), VI v.need]]⟩, (D66 b), (D1 m), D2, some ⟨2, [[.ref 1 8 0 0, VI no]]⟩]
abbrev D69 : LB := [some ⟨2, [[.lst 1 (v.weights.map cI), VI v.need]]⟩, (D66 b), (D1 m), (D66 b), some ⟨2, [[.ref 1 8 0 0, VI no]]⟩]
abbrev D70 : OB := some ⟨8, [[VI b.time, VI 2, .v (.string b.own), .v (.string b.best.data), VI b.best.at_.time, VI b.best.at_.who, .v (.string b.best.data), .v (.int .u64 0)]]⟩
abbrev D71 : LB := [some ⟨2, [[.lst 1 (v.weights.map cI), VI v.need]]⟩, (D70 b), (D1 m), D2, some ⟨2, [[.ref 1 8 0 0, VI no]]⟩, some ⟨2, [[.ref 1 8 0 0, VI no]]⟩, some ⟨2, [[.lst 1 (v.weights.map cI), VI v.need]]⟩]
abbrev D72 : LB := [some ⟨2, [[.lst 1 (v.weights.map cI), VI v.need]]⟩, (D70 b), (D1 m), D2, some ⟨2, [[.ref 1 8 0 0, VI no]]⟩]
abbrev D73 : LB := [some ⟨2, [[.lst 1 (v.weights.map cI), VI v.need]]⟩, (D70 b), (D1 m), (D70 b), some ⟨2, [[.ref 1 8 0 0, VI no]]⟩]
abbrev D74 : LB := [some ⟨2, [[.lst 1 (v.weights.map cI), VI v.need]]⟩, (D23 b m), (D1 m), (D23 b m), some ⟨2, [[.ref 1 8 0 0, VI no]]⟩]
abbrev D75 : LS := [(10, VI (b.checkE v.weights v.need)), (9, .emp), (8, .ref 3 8 0 0)]
end
theorem hear_fn (v : Voters) (no : Int) (b : Bid) (m : Vote) (hx : v.weights.length ≤ 9223372036854775807) : Fn Tryd.prog 86 [.agg [.lst 1 (v.weights.map cI), VI v.need], VI no, .agg [VI b.time, VI b.phase, .v (.string b.own), .v (.string b.value), VI b.best.at_.time, VI b.best.at_.who, .v (.string b.best.data), .v (.int .u64 (b.heard.n : Int))], .agg [VI m.kind, VI m.bid, VI m.node, VI m.copy.at_.time, VI m.copy.at_.who, .v (.string m.copy.data)]] (.tup [.agg [VI (((hearP v no b m).1).time), VI (((hearP v no b m).1).phase), .v (.string (((hearP v no b m).1).own)), .v (.string (((hearP v no b m).1).value)), VI (((((hearP v no b m).1).best).at_).time), VI (((((hearP v no b m).1).best).at_).who), .v (.string ((((hearP v no b m).1).best).data)), .v (.int .u64 (((hearP v no b m).1).heard.n : Int))], .lst 6 (((hearP v no b m).2.1).map Vote.cs), VI ((hearP v no b m).2.2)]) := by
  refine fn_walkW F86_ok (of_decide_eq_true (by kernel_rfl)) ?_
  refine srl 6 [1, 4, 6, 7, 8] ⟨(D4 no), (D3 b m v)⟩ ?_
  refine srl 1 [1, 4, 6, 7, 8, 11] ⟨(11, VI 3) :: (D4 no), (D3 b m v)⟩ ?_
  refine EL.seq ?_
  refine srr 1 ⟨(17, VI no) :: (11, VI 3) :: (D4 no), (D3 b m v)⟩ ?_
  refine owf [VI no] ⟨(18, .v (.bool (wi no 0 30))) :: (17, VI no) :: (11, VI 3) :: (D4 no), (D3 b m v)⟩ F65_call (number_fn no) ?_
  refine owl 0 [1, 4, 6, 7, 8, 11, 18] ⟨(18, .v (.bool (wi no 0 30))) :: (11, VI 3) :: (D4 no), (D3 b m v)⟩ ?_
  rcases Bool.eq_false_or_eq_true (wi no 0 30) with h1 | h1
  rw [h1]
  have g1 : ((0 : Int) ≤ no ∧ (no : Int) ≤ 30) := wi_iff.1 h1
  refine cnT ?_
  refine EL.reg0 ?_
  refine owr 2 ⟨(D6 b no v), (D3 b m v)⟩ ?_
  refine owf [.agg [.lst 1 (v.weights.map cI), VI v.need], (D5 b)] ⟨(21, VI (b.checkE v.weights v.need)) :: (D6 b no v), (D3 b m v)⟩ F42_call (bcheck_fn v b hx) ?_
  refine owe 1 ⟨(D7 b no v), (D3 b m v)⟩ ?_
  refine thenL_norm ?_
  refine EL.seq ?_
  refine srl 2 [1, 4, 6, 7, 8, 11, 23] ⟨(23, .v (.bool ((b.checkE v.weights v.need) == 0))) :: (11, VI (b.checkE v.weights v.need)) :: (D4 no), (D3 b m v)⟩ ?_
  rcases Bool.eq_false_or_eq_true (((b.checkE v.weights v.need) == 0)) with h2 | h2
  rw [h2]
  have g2 : ((b.checkE v.weights v.need) = 0) := by simpa using h2
  refine cnT ?_
  refine EL.reg0 ?_
  refine owr 1 ⟨(D9 b m no v), (D3 b m v)⟩ ?_
  refine owf [(D8 m)] ⟨(25, VI m.checkE) :: (D9 b m no v), (D3 b m v)⟩ F45_call (vcheck_fn m) ?_
  refine owe 1 ⟨(D10 m no), (D3 b m v)⟩ ?_
  refine thenL_norm ?_
  refine EL.seq ?_
  refine srl 2 [1, 4, 6, 7, 8, 11, 27] ⟨(27, .v (.bool (m.checkE != 0))) :: (11, VI m.checkE) :: (D4 no), (D3 b m v)⟩ ?_
  rcases Bool.eq_false_or_eq_true ((m.checkE != 0)) with h3 | h3
  rw [h3]
  have g3 : ¬ (m.checkE = 0) := by simpa using h3
  refine cnT ?_
  refine srl 5 [8, 9, 10] ⟨(D11 m), (D3 b m v)⟩ ?_
  refine rtr ?_
  refine ⟨.inr rfl, .tup [.agg [VI 0, VI 0, .v (.string (⟨#[]⟩)), .v (.string (⟨#[]⟩)), VI 0, VI 0, .v (.string (⟨#[]⟩)), .v (.int .u64 0)], .emp, VI m.checkE], by kernel_rfl, Ale.trans (b := .tup [.agg [VI 0, VI 0, .v (.string (⟨#[]⟩)), .v (.string (⟨#[]⟩)), VI 0, VI 0, .v (.string (⟨#[]⟩)), .v (.int .u64 0)], .lst 6 [], VI m.checkE]) (Ale.tup (.cons (Ale.refl) (.cons (Ale.emp) (.cons (Ale.refl) (.nil))))) (Ale.of_eq ?_)⟩
  rotate_left
  rw [h3]
  have g3 : (m.checkE = 0) := by simpa using h3
  refine cnF ?_
  refine skn ?_
  refine srl 4 [1, 4, 6, 7, 8, 12] ⟨(12, .ref 4 2 0 0) :: (D4 no), (D12 b m no v)⟩ ?_
  refine srr 2 ⟨(D13 m no), (D12 b m no v)⟩ ?_
  refine owo (.v (.int .u64 (IntKind.u64.wrap (1 * 2 ^ (min (Int.toNat m.node) IntKind.u64.bits))))) [] [] ⟨(34, .v (.int .u64 (IntKind.u64.wrap (1 * 2 ^ (min (Int.toNat m.node) IntKind.u64.bits))))) :: (D13 m no), (D12 b m no v)⟩ (opE_shl (.c (.v (.int .u64 1))) (.s 33) .u64 .i64 1 m.node (by kernel_rfl) (by kernel_rfl) (by kernel_rfl) (by kernel_rfl) (by have hvn := vote_node (m := m) (by omega); omega)) ?_
  have e4 : IntKind.u64.wrap (1 * 2 ^ (min (Int.toNat m.node) IntKind.u64.bits)) = ((2 ^ (Int.toNat m.node) : Nat) : Int) := shl1 (by have hvn := vote_node (m := m) (by omega); omega)
  rw [e4]
  refine owl 1 [1, 4, 6, 7, 8, 12, 13] ⟨(D14 m no), (D12 b m no v)⟩ ?_
  refine EL.seq ?_
  refine srr 5 ⟨(39, .v (.bool (m.bid != no))) :: (38, .v (.bool (m.bid != no))) :: (D15 m no), (D12 b m no v)⟩ ?_
  rcases Bool.eq_false_or_eq_true ((m.bid != no)) with h5 | h5
  rw [h5]
  have g5 : ¬ (m.bid = no) := by simpa using h5
  refine owl 20 [4, 6, 7, 8, 12, 13, 59] ⟨(D16 m), (D12 b m no v)⟩ ?_
  refine cnT ?_
  refine srl 4 [8, 9, 10] ⟨[(10, VI 0), (9, .emp), (8, .ref 3 8 0 0)], (D17 b m no v)⟩ ?_
  refine rtr ?_
  refine ⟨.inr rfl, .tup [.agg [VI b.time, VI b.phase, .v (.string b.own), .v (.string b.value), VI b.best.at_.time, VI b.best.at_.who, .v (.string b.best.data), .v (.int .u64 (b.heard.n : Int))], .emp, VI 0], by kernel_rfl, Ale.trans (b := .tup [.agg [VI b.time, VI b.phase, .v (.string b.own), .v (.string b.value), VI b.best.at_.time, VI b.best.at_.who, .v (.string b.best.data), .v (.int .u64 (b.heard.n : Int))], .lst 6 [], VI 0]) (Ale.tup (.cons (Ale.refl) (.cons (Ale.emp) (.cons (Ale.refl) (.nil))))) (Ale.of_eq ?_)⟩
  rotate_left
  rw [h5]
  have g5 : (m.bid = no) := by simpa using h5
  refine owr 2 ⟨(D18 m no), (D12 b m no v)⟩ ?_
  refine owf [.agg [.ref 1 8 0 0, VI no], (D8 m)] ⟨(42, .v (.bool (fitsP b no m))) :: (D18 m no), (D12 b m no v)⟩ F90_call (fits_fn b no m) ?_
  refine owr 3 ⟨(45, .v (.bool (!(fitsP b no m)))) :: (44, .v (.bool (!(fitsP b no m)))) :: (43, .v (.bool (!(fitsP b no m)))) :: (42, .v (.bool (fitsP b no m))) :: (D18 m no), (D12 b m no v)⟩ ?_
  rcases Bool.eq_false_or_eq_true (fitsP b no m) with h6 | h6
  rw [h6]
  refine owr 4 ⟨(D19 m no v), (D12 b m no v)⟩ ?_
  refine owo (VI (List.length v.weights : Int)) [] [] ⟨(50, VI (List.length v.weights : Int)) :: (D19 m no v), (D12 b m no v)⟩ (opE_len cI v.weights (.s 49) 1 (by kernel_rfl) (by kernel_rfl) (.inl rfl)) ?_
  refine owr 3 ⟨(53, .v (.bool (decide (m.node ≥ (List.length v.weights : Int))))) :: (52, .v (.bool (decide (m.node ≥ (List.length v.weights : Int))))) :: (51, .v (.bool (decide (m.node ≥ (List.length v.weights : Int))))) :: (50, VI (List.length v.weights : Int)) :: (D19 m no v), (D12 b m no v)⟩ ?_
  rcases Bool.eq_false_or_eq_true (decide (m.node ≥ (List.length v.weights : Int))) with h7 | h7
  rw [h7]
  have g7 := of_decide_eq_true h7
  refine owl 6 [4, 6, 7, 8, 12, 13, 59] ⟨(D16 m), (D12 b m no v)⟩ ?_
  refine cnT ?_
  refine srl 4 [8, 9, 10] ⟨[(10, VI 0), (9, .emp), (8, .ref 3 8 0 0)], (D17 b m no v)⟩ ?_
  refine rtr ?_
  refine ⟨.inr rfl, .tup [.agg [VI b.time, VI b.phase, .v (.string b.own), .v (.string b.value), VI b.best.at_.time, VI b.best.at_.who, .v (.string b.best.data), .v (.int .u64 (b.heard.n : Int))], .emp, VI 0], by kernel_rfl, Ale.trans (b := .tup [.agg [VI b.time, VI b.phase, .v (.string b.own), .v (.string b.value), VI b.best.at_.time, VI b.best.at_.who, .v (.string b.best.data), .v (.int .u64 (b.heard.n : Int))], .lst 6 [], VI 0]) (Ale.tup (.cons (Ale.refl) (.cons (Ale.emp) (.cons (Ale.refl) (.nil))))) (Ale.of_eq ?_)⟩
  rotate_left
  rw [h7]
  have g7 := of_decide_eq_false h7
  refine owr 6 ⟨(59, .v (.bool ((bits .and .u64 (b.heard.n : Int) ((2 ^ (Int.toNat m.node) : Nat) : Int)) != 0))) :: (58, .v (.bool ((bits .and .u64 (b.heard.n : Int) ((2 ^ (Int.toNat m.node) : Nat) : Int)) != 0))) :: (57, .v (.int .u64 (bits .and .u64 (b.heard.n : Int) ((2 ^ (Int.toNat m.node) : Nat) : Int)))) :: (D20 b m no v), (D12 b m no v)⟩ ?_
  have e8 : bits .and .u64 (b.heard.n : Int) ((2 ^ (Int.toNat m.node) : Nat) : Int) = ((andU b.heard (Int.toNat m.node)).n : Int) := andU_bits (by have hvn := vote_node (m := m) (by omega); omega)
  rw [e8]
  clear e8
  refine owl 0 [4, 6, 7, 8, 12, 13, 59] ⟨(59, .v (.bool (((andU b.heard (Int.toNat m.node)).n : Int) != 0))) :: (D21 m), (D12 b m no v)⟩ ?_
  rcases Bool.eq_false_or_eq_true ((((andU b.heard (Int.toNat m.node)).n : Int) != 0)) with h9 | h9
  rw [h9]
  have g9 : ¬ (((andU b.heard (Int.toNat m.node)).n : Int) = 0) := by simpa using h9
  refine cnT ?_
  refine srl 4 [8, 9, 10] ⟨[(10, VI 0), (9, .emp), (8, .ref 3 8 0 0)], (D17 b m no v)⟩ ?_
  refine rtr ?_
  refine ⟨.inr rfl, .tup [.agg [VI b.time, VI b.phase, .v (.string b.own), .v (.string b.value), VI b.best.at_.time, VI b.best.at_.who, .v (.string b.best.data), .v (.int .u64 (b.heard.n : Int))], .emp, VI 0], by kernel_rfl, Ale.trans (b := .tup [.agg [VI b.time, VI b.phase, .v (.string b.own), .v (.string b.value), VI b.best.at_.time, VI b.best.at_.who, .v (.string b.best.data), .v (.int .u64 (b.heard.n : Int))], .lst 6 [], VI 0]) (Ale.tup (.cons (Ale.refl) (.cons (Ale.emp) (.cons (Ale.refl) (.nil))))) (Ale.of_eq ?_)⟩
  rotate_left
  rw [h9]
  have g9 : (((andU b.heard (Int.toNat m.node)).n : Int) = 0) := by simpa using h9
  refine cnF ?_
  refine skn ?_
  refine srr 6 ⟨(65, .ref 1 8 0 7) :: (64, .v (.int .u64 (bits .or .u64 (b.heard.n : Int) ((2 ^ (Int.toNat m.node) : Nat) : Int)))) :: (D22 b m), [some ⟨2, [[.lst 1 (v.weights.map cI), VI v.need]]⟩, some ⟨8, [[VI b.time, VI b.phase, .v (.string b.own), .v (.string b.value), VI b.best.at_.time, VI b.best.at_.who, .v (.string b.best.data), .v (.int .u64 (bits .or .u64 (b.heard.n : Int) ((2 ^ (Int.toNat m.node) : Nat) : Int)))]]⟩, (D1 m), D2, some ⟨2, [[.ref 1 8 0 0, VI no]]⟩]⟩ ?_
  have e10 : bits .or .u64 (b.heard.n : Int) ((2 ^ (Int.toNat m.node) : Nat) : Int) = ((orU b.heard (Int.toNat m.node)).n : Int) := orU_bits (by have hvn := vote_node (m := m) (by omega); omega)
  rw [e10]
  clear e10
  refine owl 0 [4, 6, 7, 8, 12] ⟨D25, (D24 b m no v)⟩ ?_
  refine EL.seq ?_
  refine srl 3 [4, 6, 7, 8, 12, 68] ⟨(68, .v (.bool (b.phase == 1))) :: D25, (D24 b m no v)⟩ ?_
  rcases Bool.eq_false_or_eq_true ((b.phase == 1)) with h11 | h11
  rw [h11]
  have g11 : (b.phase = 1) := by simpa using h11
  refine cnT ?_
  refine EL.reg0 ?_
  refine owr 4 ⟨(D28 b m), (D24 b m no v)⟩ ?_
  refine owf [(D27 b), (D26 m)] ⟨(73, (D29 b m)) :: (D28 b m), (D24 b m no v)⟩ F91_call (raw_fn b.best m.copy) ?_
  refine owe 2 ⟨(74, .ref 1 8 0 4) :: (73, (D29 b m)) :: (D28 b m), (D31 b m no v)⟩ ?_
  refine thenL_norm ?_
  refine srl 1 [4, 6, 8, 12, 14] ⟨D32, (D31 b m no v)⟩ ?_
  refine EL.seq ?_
  refine srr 6 ⟨(D33 b m v), (D31 b m no v)⟩ ?_
  refine owf [.lst 1 (v.weights.map cI), VI v.need, .v (.int .u64 ((orU b.heard (Int.toNat m.node)).n : Int))] ⟨(82, .tup [.v (.bool ((enoughP v.weights v.need (orU b.heard (Int.toNat m.node)).n).1)), VI ((enoughP v.weights v.need (orU b.heard (Int.toNat m.node)).n).2)]) :: (D33 b m v), (D31 b m no v)⟩ F25_call (enough_fn v.weights v.need (orU b.heard (Int.toNat m.node)) hx) ?_
  refine owl 5 [4, 6, 8, 12, 14, 15] ⟨(15, .v (.bool ((enoughP v.weights v.need (orU b.heard (Int.toNat m.node)).n).1))) :: D32, (D31 b m no v)⟩ ?_
  refine srl 1 [4, 6, 8, 12, 14, 85] ⟨(85, .v (.bool ((enoughP v.weights v.need (orU b.heard (Int.toNat m.node)).n).1))) :: D32, (D31 b m no v)⟩ ?_
  rcases Bool.eq_false_or_eq_true ((enoughP v.weights v.need (orU b.heard (Int.toNat m.node)).n).1) with h12 | h12
  rw [h12]
  refine cnT ?_
  refine EL.reg0 ?_
  refine owr 2 ⟨(D34 no v), (D31 b m no v)⟩ ?_
  rcases Bool.eq_false_or_eq_true ((b.phase == 2)) with h13 | h13
  try rw [h13]
  have g13 : (b.phase = 2) := by simpa using h13
  refine OW.fi (ar := [.agg [.ref 1 8 0 0, VI no], .agg [.lst 1 (v.weights.map cI), VI v.need]]) (r := .emp) (m' := (D38 b m no v)) (x' := ⟨(88, .emp) :: (D34 no v), (D38 b m no v)⟩) (by kernel_rfl) (by kernel_rfl) F92_call ?_ (by kernel_rfl) ?_
  refine fi_walkW F92_ok (of_decide_eq_true (by kernel_rfl)) ?_
  refine srl 3 [2, 3] ⟨[(3, .ref 6 2 0 0), (2, .ref 5 2 0 0)], (D35 b m no v)⟩ ?_
  refine EL.seq ?_
  refine srl 6 [2, 3, 10] ⟨[(10, .v (.bool (b.phase == 2))), (3, .ref 6 2 0 0), (2, .ref 5 2 0 0)], (D35 b m no v)⟩ ?_
  rw [h13]
  refine cnT ?_
  refine srl 5 [] ⟨[], (D37 b m no v)⟩ ?_
  refine srl 1 [4] ⟨[(4, .emp)], (D37 b m no v)⟩ ?_
  refine rtr ?_
  refine ⟨.inr rfl, ⟨[(4, .emp)], (D38 b m no v)⟩, norm_le (live := [4]) (src := [.old 0 false, .old 1 false, .old 2 false, .old 3 false, .old 4 false]) (es := []) (by kernel_rfl) trivial, by kernel_rfl, rfl⟩
  refine owe 1 ⟨(D39 no v), (D38 b m no v)⟩ ?_
  refine thenL_norm ?_
  refine srl 5 [8, 9, 10] ⟨[(10, VI 0), (9, .emp), (8, .ref 3 8 0 0)], (D40 b m no v)⟩ ?_
  refine EL.ret ?_
  refine ⟨.inr rfl, .tup [.agg [VI b.time, VI 3, .v (.string b.own), .v (.string b.value), VI (((b.best.raw m.copy).at_).time), VI (((b.best.raw m.copy).at_).who), .v (.string ((b.best.raw m.copy).data)), .v (.int .u64 ((orU b.heard (Int.toNat m.node)).n : Int))], .emp, VI 0], by kernel_rfl, Ale.trans (b := .tup [.agg [VI b.time, VI 3, .v (.string b.own), .v (.string b.value), VI (((b.best.raw m.copy).at_).time), VI (((b.best.raw m.copy).at_).who), .v (.string ((b.best.raw m.copy).data)), .v (.int .u64 ((orU b.heard (Int.toNat m.node)).n : Int))], .lst 6 [], VI 0]) (Ale.tup (.cons (Ale.refl) (.cons (Ale.emp) (.cons (Ale.refl) (.nil))))) (Ale.of_eq ?_)⟩
  rotate_left
  try rw [h13]
  have g13 : ¬ (b.phase = 2) := by simpa using h13
  rcases Bool.eq_false_or_eq_true ((((((b.best.raw m.copy).at_).time) == 0) && (((((b.best.raw m.copy).at_).who) == 0) && true))) with h14 | h14
  try rw [h14]
  have g14 : (((b.best.raw m.copy).at_).time) = 0 ∧ (((b.best.raw m.copy).at_).who) = 0 := by simpa [strEq_iff] using h14
  refine OW.fi (ar := [.agg [.ref 1 8 0 0, VI no], .agg [.lst 1 (v.weights.map cI), VI v.need]]) (r := .lst 6 ((toAllP v.weights.length (⟨3, no, 0, (⟨(⟨(⟨b.time, 2, b.own, b.own, (b.best.raw m.copy), (⟨0, by decide⟩ : U64)⟩ : Bid).time, no⟩ : Stamp), b.own⟩ : Copy)⟩ : Vote)).map Vote.cs)) (m' := (D49 b m no v)) (x' := ⟨(88, .lst 6 ((toAllP v.weights.length (⟨3, no, 0, (⟨(⟨(⟨b.time, 2, b.own, b.own, (b.best.raw m.copy), (⟨0, by decide⟩ : U64)⟩ : Bid).time, no⟩ : Stamp), b.own⟩ : Copy)⟩ : Vote)).map Vote.cs)) :: (D34 no v), (D49 b m no v)⟩) (by kernel_rfl) (by kernel_rfl) F92_call ?_ (by kernel_rfl) ?_
  refine fi_walkW F92_ok (of_decide_eq_true (by kernel_rfl)) ?_
  refine srl 3 [2, 3] ⟨[(3, .ref 6 2 0 0), (2, .ref 5 2 0 0)], (D35 b m no v)⟩ ?_
  refine EL.seq ?_
  refine srl 6 [2, 3, 10] ⟨[(10, .v (.bool (b.phase == 2))), (3, .ref 6 2 0 0), (2, .ref 5 2 0 0)], (D35 b m no v)⟩ ?_
  rw [h13]
  refine cnF ?_
  refine skn ?_
  refine sdl 11 [2, 3] ⟨[(3, .ref 6 2 0 0), (2, .ref 5 2 0 0)], (D42 b m no v)⟩ ?_
  refine EL.seq ?_
  refine srl 8 [2, 3, 32] ⟨[(32, .v (.bool (((((b.best.raw m.copy).at_).time) == 0) && (((((b.best.raw m.copy).at_).who) == 0) && true)))), (3, .ref 6 2 0 0), (2, .ref 5 2 0 0)], (D42 b m no v)⟩ ?_
  rw [h14]
  refine cnT ?_
  refine EL.draw0 ?_
  refine dwe 10 ⟨(D45 b), (D44 b m no v)⟩ ?_
  refine thenL_norm ?_
  refine sdl 10 [2, 3] ⟨[(3, .ref 6 2 0 0), (2, .ref 5 2 0 0)], (D47 b m no v)⟩ ?_
  refine sdr 4 ⟨(D48 no v), (D47 b m no v)⟩ ?_
  refine dwf [.agg [.ref 1 8 0 0, VI no]] ⟨(54, .agg [VI ((⟨(⟨b.time, 2, b.own, b.own, (b.best.raw m.copy), (⟨0, by decide⟩ : U64)⟩ : Bid).time, no⟩ : Stamp).time), VI ((⟨(⟨b.time, 2, b.own, b.own, (b.best.raw m.copy), (⟨0, by decide⟩ : U64)⟩ : Bid).time, no⟩ : Stamp).who)]) :: (D48 no v), (D47 b m no v)⟩ F89_call (at_fn (⟨b.time, 2, b.own, b.own, (b.best.raw m.copy), (⟨0, by decide⟩ : U64)⟩ : Bid) no) ?_
  refine dwr 7 ⟨(61, .agg [VI 3, VI no, VI 0, VI ((⟨(⟨b.time, 2, b.own, b.own, (b.best.raw m.copy), (⟨0, by decide⟩ : U64)⟩ : Bid).time, no⟩ : Stamp).time), VI ((⟨(⟨b.time, 2, b.own, b.own, (b.best.raw m.copy), (⟨0, by decide⟩ : U64)⟩ : Bid).time, no⟩ : Stamp).who), .v (.string b.own)]) :: (60, .agg [VI ((⟨(⟨b.time, 2, b.own, b.own, (b.best.raw m.copy), (⟨0, by decide⟩ : U64)⟩ : Bid).time, no⟩ : Stamp).time), VI ((⟨(⟨b.time, 2, b.own, b.own, (b.best.raw m.copy), (⟨0, by decide⟩ : U64)⟩ : Bid).time, no⟩ : Stamp).who), .v (.string b.own)]) :: (59, .v (.string b.own)) :: (58, .ref 1 8 0 3) :: (57, .ref 1 8 0 0) :: (56, .ref 1 8 0 0) :: (55, .ref 5 2 0 0) :: (54, .agg [VI ((⟨(⟨b.time, 2, b.own, b.own, (b.best.raw m.copy), (⟨0, by decide⟩ : U64)⟩ : Bid).time, no⟩ : Stamp).time), VI ((⟨(⟨b.time, 2, b.own, b.own, (b.best.raw m.copy), (⟨0, by decide⟩ : U64)⟩ : Bid).time, no⟩ : Stamp).who)]) :: (D48 no v), (D47 b m no v)⟩ ?_
  refine dwf [.agg [.lst 1 (v.weights.map cI), VI v.need], .agg [VI 3, VI no, VI 0, VI ((⟨(⟨b.time, 2, b.own, b.own, (b.best.raw m.copy), (⟨0, by decide⟩ : U64)⟩ : Bid).time, no⟩ : Stamp).time), VI ((⟨(⟨b.time, 2, b.own, b.own, (b.best.raw m.copy), (⟨0, by decide⟩ : U64)⟩ : Bid).time, no⟩ : Stamp).who), .v (.string b.own)]] ⟨(62, .lst 6 ((toAllP v.weights.length (⟨3, no, 0, (⟨(⟨(⟨b.time, 2, b.own, b.own, (b.best.raw m.copy), (⟨0, by decide⟩ : U64)⟩ : Bid).time, no⟩ : Stamp), b.own⟩ : Copy)⟩ : Vote)).map Vote.cs)) :: (61, .agg [VI 3, VI no, VI 0, VI ((⟨(⟨b.time, 2, b.own, b.own, (b.best.raw m.copy), (⟨0, by decide⟩ : U64)⟩ : Bid).time, no⟩ : Stamp).time), VI ((⟨(⟨b.time, 2, b.own, b.own, (b.best.raw m.copy), (⟨0, by decide⟩ : U64)⟩ : Bid).time, no⟩ : Stamp).who), .v (.string b.own)]) :: (60, .agg [VI ((⟨(⟨b.time, 2, b.own, b.own, (b.best.raw m.copy), (⟨0, by decide⟩ : U64)⟩ : Bid).time, no⟩ : Stamp).time), VI ((⟨(⟨b.time, 2, b.own, b.own, (b.best.raw m.copy), (⟨0, by decide⟩ : U64)⟩ : Bid).time, no⟩ : Stamp).who), .v (.string b.own)]) :: (59, .v (.string b.own)) :: (58, .ref 1 8 0 3) :: (57, .ref 1 8 0 0) :: (56, .ref 1 8 0 0) :: (55, .ref 5 2 0 0) :: (54, .agg [VI ((⟨(⟨b.time, 2, b.own, b.own, (b.best.raw m.copy), (⟨0, by decide⟩ : U64)⟩ : Bid).time, no⟩ : Stamp).time), VI ((⟨(⟨b.time, 2, b.own, b.own, (b.best.raw m.copy), (⟨0, by decide⟩ : U64)⟩ : Bid).time, no⟩ : Stamp).who)]) :: (D48 no v), (D47 b m no v)⟩ F88_call (toAll_fn v (⟨3, no, 0, (⟨(⟨(⟨b.time, 2, b.own, b.own, (b.best.raw m.copy), (⟨0, by decide⟩ : U64)⟩ : Bid).time, no⟩ : Stamp), b.own⟩ : Copy)⟩ : Vote) (by first | omega | exact bid_len (by assumption))) ?_
  refine dwl 1 [4] ⟨[(4, .lst 6 ((toAllP v.weights.length (⟨3, no, 0, (⟨(⟨(⟨b.time, 2, b.own, b.own, (b.best.raw m.copy), (⟨0, by decide⟩ : U64)⟩ : Bid).time, no⟩ : Stamp), b.own⟩ : Copy)⟩ : Vote)).map Vote.cs))], (D47 b m no v)⟩ ?_
  refine EL.ret ?_
  refine ⟨.inr rfl, ⟨[(4, .lst 6 ((toAllP v.weights.length (⟨3, no, 0, (⟨(⟨(⟨b.time, 2, b.own, b.own, (b.best.raw m.copy), (⟨0, by decide⟩ : U64)⟩ : Bid).time, no⟩ : Stamp), b.own⟩ : Copy)⟩ : Vote)).map Vote.cs))], (D49 b m no v)⟩, norm_le (live := [4]) (src := [.old 0 false, .old 1 false, .old 2 false, .old 3 false, .old 4 false]) (es := []) (by kernel_rfl) trivial, by kernel_rfl, rfl⟩
  refine owe 1 ⟨(14, .lst 6 ((toAllP v.weights.length (⟨3, no, 0, (⟨(⟨(⟨b.time, 2, b.own, b.own, (b.best.raw m.copy), (⟨0, by decide⟩ : U64)⟩ : Bid).time, no⟩ : Stamp), b.own⟩ : Copy)⟩ : Vote)).map Vote.cs)) :: (88, .lst 6 ((toAllP v.weights.length (⟨3, no, 0, (⟨(⟨(⟨b.time, 2, b.own, b.own, (b.best.raw m.copy), (⟨0, by decide⟩ : U64)⟩ : Bid).time, no⟩ : Stamp), b.own⟩ : Copy)⟩ : Vote)).map Vote.cs)) :: (D50 no v), (D49 b m no v)⟩ ?_
  refine thenL_norm ?_
  refine srl 5 [8, 9, 10] ⟨[(10, VI 0), (9, .lst 6 ((toAllP v.weights.length (⟨3, no, 0, (⟨(⟨(⟨b.time, 2, b.own, b.own, (b.best.raw m.copy), (⟨0, by decide⟩ : U64)⟩ : Bid).time, no⟩ : Stamp), b.own⟩ : Copy)⟩ : Vote)).map Vote.cs)), (8, .ref 3 8 0 0)], (D51 b m no v)⟩ ?_
  refine EL.ret ?_
  refine ⟨.inr rfl, .tup [.agg [VI b.time, VI 2, .v (.string b.own), .v (.string b.own), VI (((b.best.raw m.copy).at_).time), VI (((b.best.raw m.copy).at_).who), .v (.string ((b.best.raw m.copy).data)), .v (.int .u64 0)], .lst 6 ((toAllP v.weights.length (⟨3, no, 0, (⟨(⟨(⟨b.time, 2, b.own, b.own, (b.best.raw m.copy), (⟨0, by decide⟩ : U64)⟩ : Bid).time, no⟩ : Stamp), b.own⟩ : Copy)⟩ : Vote)).map Vote.cs), VI 0], by kernel_rfl, Ale.of_eq ?_⟩
  rotate_left
  try rw [h14]
  have g14 : ¬ ((((b.best.raw m.copy).at_).time) = 0 ∧ (((b.best.raw m.copy).at_).who) = 0) := fun ⟨q0, q1⟩ => Bool.noConfusion ((show ((((((b.best.raw m.copy).at_).time) == 0) && (((((b.best.raw m.copy).at_).who) == 0) && true))) = true by first | (simp [q0, q1, strEq_iff]; done) | (simp only [q0, q1, beq_self_eq_true, Bool.and_self, Bool.and_true, Bool.true_and]; done)).symm.trans h14)
  refine OW.fi (ar := [.agg [.ref 1 8 0 0, VI no], .agg [.lst 1 (v.weights.map cI), VI v.need]]) (r := .lst 6 ((toAllP v.weights.length (⟨3, no, 0, (⟨(⟨(⟨b.time, 2, b.own, (b.best.raw m.copy).data, (b.best.raw m.copy), (⟨0, by decide⟩ : U64)⟩ : Bid).time, no⟩ : Stamp), (b.best.raw m.copy).data⟩ : Copy)⟩ : Vote)).map Vote.cs)) (m' := (D54 b m no v)) (x' := ⟨(88, .lst 6 ((toAllP v.weights.length (⟨3, no, 0, (⟨(⟨(⟨b.time, 2, b.own, (b.best.raw m.copy).data, (b.best.raw m.copy), (⟨0, by decide⟩ : U64)⟩ : Bid).time, no⟩ : Stamp), (b.best.raw m.copy).data⟩ : Copy)⟩ : Vote)).map Vote.cs)) :: (D34 no v), (D54 b m no v)⟩) (by kernel_rfl) (by kernel_rfl) F92_call ?_ (by kernel_rfl) ?_
  refine fi_walkW F92_ok (of_decide_eq_true (by kernel_rfl)) ?_
  refine srl 3 [2, 3] ⟨[(3, .ref 6 2 0 0), (2, .ref 5 2 0 0)], (D35 b m no v)⟩ ?_
  refine EL.seq ?_
  refine srl 6 [2, 3, 10] ⟨[(10, .v (.bool (b.phase == 2))), (3, .ref 6 2 0 0), (2, .ref 5 2 0 0)], (D35 b m no v)⟩ ?_
  rw [h13]
  refine cnF ?_
  refine skn ?_
  refine sdl 11 [2, 3] ⟨[(3, .ref 6 2 0 0), (2, .ref 5 2 0 0)], (D42 b m no v)⟩ ?_
  refine EL.seq ?_
  refine srl 8 [2, 3, 32] ⟨[(32, .v (.bool (((((b.best.raw m.copy).at_).time) == 0) && (((((b.best.raw m.copy).at_).who) == 0) && true)))), (3, .ref 6 2 0 0), (2, .ref 5 2 0 0)], (D42 b m no v)⟩ ?_
  rw [h14]
  refine cnF ?_
  refine skn ?_
  refine sdl 10 [2, 3] ⟨[(3, .ref 6 2 0 0), (2, .ref 5 2 0 0)], (D53 b m no v)⟩ ?_
  refine sdr 4 ⟨(D48 no v), (D53 b m no v)⟩ ?_
  refine dwf [.agg [.ref 1 8 0 0, VI no]] ⟨(54, .agg [VI ((⟨(⟨b.time, 2, b.own, (b.best.raw m.copy).data, (b.best.raw m.copy), (⟨0, by decide⟩ : U64)⟩ : Bid).time, no⟩ : Stamp).time), VI ((⟨(⟨b.time, 2, b.own, (b.best.raw m.copy).data, (b.best.raw m.copy), (⟨0, by decide⟩ : U64)⟩ : Bid).time, no⟩ : Stamp).who)]) :: (D48 no v), (D53 b m no v)⟩ F89_call (at_fn (⟨b.time, 2, b.own, (b.best.raw m.copy).data, (b.best.raw m.copy), (⟨0, by decide⟩ : U64)⟩ : Bid) no) ?_
  refine dwr 7 ⟨(61, .agg [VI 3, VI no, VI 0, VI ((⟨(⟨b.time, 2, b.own, (b.best.raw m.copy).data, (b.best.raw m.copy), (⟨0, by decide⟩ : U64)⟩ : Bid).time, no⟩ : Stamp).time), VI ((⟨(⟨b.time, 2, b.own, (b.best.raw m.copy).data, (b.best.raw m.copy), (⟨0, by decide⟩ : U64)⟩ : Bid).time, no⟩ : Stamp).who), .v (.string ((b.best.raw m.copy).data))]) :: (60, .agg [VI ((⟨(⟨b.time, 2, b.own, (b.best.raw m.copy).data, (b.best.raw m.copy), (⟨0, by decide⟩ : U64)⟩ : Bid).time, no⟩ : Stamp).time), VI ((⟨(⟨b.time, 2, b.own, (b.best.raw m.copy).data, (b.best.raw m.copy), (⟨0, by decide⟩ : U64)⟩ : Bid).time, no⟩ : Stamp).who), .v (.string ((b.best.raw m.copy).data))]) :: (59, .v (.string ((b.best.raw m.copy).data))) :: (58, .ref 1 8 0 3) :: (57, .ref 1 8 0 0) :: (56, .ref 1 8 0 0) :: (55, .ref 5 2 0 0) :: (54, .agg [VI ((⟨(⟨b.time, 2, b.own, (b.best.raw m.copy).data, (b.best.raw m.copy), (⟨0, by decide⟩ : U64)⟩ : Bid).time, no⟩ : Stamp).time), VI ((⟨(⟨b.time, 2, b.own, (b.best.raw m.copy).data, (b.best.raw m.copy), (⟨0, by decide⟩ : U64)⟩ : Bid).time, no⟩ : Stamp).who)]) :: (D48 no v), (D53 b m no v)⟩ ?_
  refine dwf [.agg [.lst 1 (v.weights.map cI), VI v.need], .agg [VI 3, VI no, VI 0, VI ((⟨(⟨b.time, 2, b.own, (b.best.raw m.copy).data, (b.best.raw m.copy), (⟨0, by decide⟩ : U64)⟩ : Bid).time, no⟩ : Stamp).time), VI ((⟨(⟨b.time, 2, b.own, (b.best.raw m.copy).data, (b.best.raw m.copy), (⟨0, by decide⟩ : U64)⟩ : Bid).time, no⟩ : Stamp).who), .v (.string ((b.best.raw m.copy).data))]] ⟨(62, .lst 6 ((toAllP v.weights.length (⟨3, no, 0, (⟨(⟨(⟨b.time, 2, b.own, (b.best.raw m.copy).data, (b.best.raw m.copy), (⟨0, by decide⟩ : U64)⟩ : Bid).time, no⟩ : Stamp), (b.best.raw m.copy).data⟩ : Copy)⟩ : Vote)).map Vote.cs)) :: (61, .agg [VI 3, VI no, VI 0, VI ((⟨(⟨b.time, 2, b.own, (b.best.raw m.copy).data, (b.best.raw m.copy), (⟨0, by decide⟩ : U64)⟩ : Bid).time, no⟩ : Stamp).time), VI ((⟨(⟨b.time, 2, b.own, (b.best.raw m.copy).data, (b.best.raw m.copy), (⟨0, by decide⟩ : U64)⟩ : Bid).time, no⟩ : Stamp).who), .v (.string ((b.best.raw m.copy).data))]) :: (60, .agg [VI ((⟨(⟨b.time, 2, b.own, (b.best.raw m.copy).data, (b.best.raw m.copy), (⟨0, by decide⟩ : U64)⟩ : Bid).time, no⟩ : Stamp).time), VI ((⟨(⟨b.time, 2, b.own, (b.best.raw m.copy).data, (b.best.raw m.copy), (⟨0, by decide⟩ : U64)⟩ : Bid).time, no⟩ : Stamp).who), .v (.string ((b.best.raw m.copy).data))]) :: (59, .v (.string ((b.best.raw m.copy).data))) :: (58, .ref 1 8 0 3) :: (57, .ref 1 8 0 0) :: (56, .ref 1 8 0 0) :: (55, .ref 5 2 0 0) :: (54, .agg [VI ((⟨(⟨b.time, 2, b.own, (b.best.raw m.copy).data, (b.best.raw m.copy), (⟨0, by decide⟩ : U64)⟩ : Bid).time, no⟩ : Stamp).time), VI ((⟨(⟨b.time, 2, b.own, (b.best.raw m.copy).data, (b.best.raw m.copy), (⟨0, by decide⟩ : U64)⟩ : Bid).time, no⟩ : Stamp).who)]) :: (D48 no v), (D53 b m no v)⟩ F88_call (toAll_fn v (⟨3, no, 0, (⟨(⟨(⟨b.time, 2, b.own, (b.best.raw m.copy).data, (b.best.raw m.copy), (⟨0, by decide⟩ : U64)⟩ : Bid).time, no⟩ : Stamp), (b.best.raw m.copy).data⟩ : Copy)⟩ : Vote) (by first | omega | exact bid_len (by assumption))) ?_
  refine dwl 1 [4] ⟨[(4, .lst 6 ((toAllP v.weights.length (⟨3, no, 0, (⟨(⟨(⟨b.time, 2, b.own, (b.best.raw m.copy).data, (b.best.raw m.copy), (⟨0, by decide⟩ : U64)⟩ : Bid).time, no⟩ : Stamp), (b.best.raw m.copy).data⟩ : Copy)⟩ : Vote)).map Vote.cs))], (D53 b m no v)⟩ ?_
  refine EL.ret ?_
  refine ⟨.inr rfl, ⟨[(4, .lst 6 ((toAllP v.weights.length (⟨3, no, 0, (⟨(⟨(⟨b.time, 2, b.own, (b.best.raw m.copy).data, (b.best.raw m.copy), (⟨0, by decide⟩ : U64)⟩ : Bid).time, no⟩ : Stamp), (b.best.raw m.copy).data⟩ : Copy)⟩ : Vote)).map Vote.cs))], (D54 b m no v)⟩, norm_le (live := [4]) (src := [.old 0 false, .old 1 false, .old 2 false, .old 3 false, .old 4 false]) (es := []) (by kernel_rfl) trivial, by kernel_rfl, rfl⟩
  refine owe 1 ⟨(14, .lst 6 ((toAllP v.weights.length (⟨3, no, 0, (⟨(⟨(⟨b.time, 2, b.own, (b.best.raw m.copy).data, (b.best.raw m.copy), (⟨0, by decide⟩ : U64)⟩ : Bid).time, no⟩ : Stamp), (b.best.raw m.copy).data⟩ : Copy)⟩ : Vote)).map Vote.cs)) :: (88, .lst 6 ((toAllP v.weights.length (⟨3, no, 0, (⟨(⟨(⟨b.time, 2, b.own, (b.best.raw m.copy).data, (b.best.raw m.copy), (⟨0, by decide⟩ : U64)⟩ : Bid).time, no⟩ : Stamp), (b.best.raw m.copy).data⟩ : Copy)⟩ : Vote)).map Vote.cs)) :: (D50 no v), (D54 b m no v)⟩ ?_
  refine thenL_norm ?_
  refine srl 5 [8, 9, 10] ⟨[(10, VI 0), (9, .lst 6 ((toAllP v.weights.length (⟨3, no, 0, (⟨(⟨(⟨b.time, 2, b.own, (b.best.raw m.copy).data, (b.best.raw m.copy), (⟨0, by decide⟩ : U64)⟩ : Bid).time, no⟩ : Stamp), (b.best.raw m.copy).data⟩ : Copy)⟩ : Vote)).map Vote.cs)), (8, .ref 3 8 0 0)], (D55 b m no v)⟩ ?_
  refine EL.ret ?_
  refine ⟨.inr rfl, .tup [.agg [VI b.time, VI 2, .v (.string b.own), .v (.string ((b.best.raw m.copy).data)), VI (((b.best.raw m.copy).at_).time), VI (((b.best.raw m.copy).at_).who), .v (.string ((b.best.raw m.copy).data)), .v (.int .u64 0)], .lst 6 ((toAllP v.weights.length (⟨3, no, 0, (⟨(⟨(⟨b.time, 2, b.own, (b.best.raw m.copy).data, (b.best.raw m.copy), (⟨0, by decide⟩ : U64)⟩ : Bid).time, no⟩ : Stamp), (b.best.raw m.copy).data⟩ : Copy)⟩ : Vote)).map Vote.cs), VI 0], by kernel_rfl, Ale.of_eq ?_⟩
  rotate_left
  rw [h12]
  refine cnF ?_
  refine skn ?_
  refine srl 5 [8, 9, 10] ⟨[(10, VI 0), (9, .emp), (8, .ref 3 8 0 0)], (D56 b m no v)⟩ ?_
  refine EL.ret ?_
  refine ⟨.inr rfl, .tup [.agg [VI b.time, VI b.phase, .v (.string b.own), .v (.string b.value), VI (((b.best.raw m.copy).at_).time), VI (((b.best.raw m.copy).at_).who), .v (.string ((b.best.raw m.copy).data)), .v (.int .u64 ((orU b.heard (Int.toNat m.node)).n : Int))], .emp, VI 0], by kernel_rfl, Ale.trans (b := .tup [.agg [VI b.time, VI b.phase, .v (.string b.own), .v (.string b.value), VI (((b.best.raw m.copy).at_).time), VI (((b.best.raw m.copy).at_).who), .v (.string ((b.best.raw m.copy).data)), .v (.int .u64 ((orU b.heard (Int.toNat m.node)).n : Int))], .lst 6 [], VI 0]) (Ale.tup (.cons (Ale.refl) (.cons (Ale.emp) (.cons (Ale.refl) (.nil))))) (Ale.of_eq ?_)⟩
  rotate_left
  rw [h11]
  have g11 : ¬ (b.phase = 1) := by simpa using h11
  refine cnF ?_
  refine skn ?_
  refine srl 1 [4, 6, 8, 12, 14] ⟨D32, (D24 b m no v)⟩ ?_
  refine EL.seq ?_
  refine srr 6 ⟨(D33 b m v), (D24 b m no v)⟩ ?_
  refine owf [.lst 1 (v.weights.map cI), VI v.need, .v (.int .u64 ((orU b.heard (Int.toNat m.node)).n : Int))] ⟨(82, .tup [.v (.bool ((enoughP v.weights v.need (orU b.heard (Int.toNat m.node)).n).1)), VI ((enoughP v.weights v.need (orU b.heard (Int.toNat m.node)).n).2)]) :: (D33 b m v), (D24 b m no v)⟩ F25_call (enough_fn v.weights v.need (orU b.heard (Int.toNat m.node)) hx) ?_
  refine owl 5 [4, 6, 8, 12, 14, 15] ⟨(15, .v (.bool ((enoughP v.weights v.need (orU b.heard (Int.toNat m.node)).n).1))) :: D32, (D24 b m no v)⟩ ?_
  refine srl 1 [4, 6, 8, 12, 14, 85] ⟨(85, .v (.bool ((enoughP v.weights v.need (orU b.heard (Int.toNat m.node)).n).1))) :: D32, (D24 b m no v)⟩ ?_
  rcases Bool.eq_false_or_eq_true ((enoughP v.weights v.need (orU b.heard (Int.toNat m.node)).n).1) with h15 | h15
  rw [h15]
  refine cnT ?_
  refine EL.reg0 ?_
  refine owr 2 ⟨(D34 no v), (D24 b m no v)⟩ ?_
  rcases Bool.eq_false_or_eq_true ((b.phase == 2)) with h16 | h16
  try rw [h16]
  have g16 : (b.phase = 2) := by simpa using h16
  refine OW.fi (ar := [.agg [.ref 1 8 0 0, VI no], .agg [.lst 1 (v.weights.map cI), VI v.need]]) (r := .emp) (m' := (D60 b m no v)) (x' := ⟨(88, .emp) :: (D34 no v), (D60 b m no v)⟩) (by kernel_rfl) (by kernel_rfl) F92_call ?_ (by kernel_rfl) ?_
  refine fi_walkW F92_ok (of_decide_eq_true (by kernel_rfl)) ?_
  refine srl 3 [2, 3] ⟨[(3, .ref 6 2 0 0), (2, .ref 5 2 0 0)], (D57 b m no v)⟩ ?_
  refine EL.seq ?_
  refine srl 6 [2, 3, 10] ⟨[(10, .v (.bool (b.phase == 2))), (3, .ref 6 2 0 0), (2, .ref 5 2 0 0)], (D57 b m no v)⟩ ?_
  rw [h16]
  refine cnT ?_
  refine srl 5 [] ⟨[], (D59 b m no v)⟩ ?_
  refine srl 1 [4] ⟨[(4, .emp)], (D59 b m no v)⟩ ?_
  refine rtr ?_
  refine ⟨.inr rfl, ⟨[(4, .emp)], (D60 b m no v)⟩, norm_le (live := [4]) (src := [.old 0 false, .old 1 false, .old 2 false, .old 3 false, .old 4 false]) (es := []) (by kernel_rfl) trivial, by kernel_rfl, rfl⟩
  refine owe 1 ⟨(D39 no v), (D60 b m no v)⟩ ?_
  refine thenL_norm ?_
  refine srl 5 [8, 9, 10] ⟨[(10, VI 0), (9, .emp), (8, .ref 3 8 0 0)], (D61 b m no v)⟩ ?_
  refine EL.ret ?_
  refine ⟨.inr rfl, .tup [.agg [VI b.time, VI 3, .v (.string b.own), .v (.string b.value), VI b.best.at_.time, VI b.best.at_.who, .v (.string b.best.data), .v (.int .u64 ((orU b.heard (Int.toNat m.node)).n : Int))], .emp, VI 0], by kernel_rfl, Ale.trans (b := .tup [.agg [VI b.time, VI 3, .v (.string b.own), .v (.string b.value), VI b.best.at_.time, VI b.best.at_.who, .v (.string b.best.data), .v (.int .u64 ((orU b.heard (Int.toNat m.node)).n : Int))], .lst 6 [], VI 0]) (Ale.tup (.cons (Ale.refl) (.cons (Ale.emp) (.cons (Ale.refl) (.nil))))) (Ale.of_eq ?_)⟩
  rotate_left
  try rw [h16]
  have g16 : ¬ (b.phase = 2) := by simpa using h16
  rcases Bool.eq_false_or_eq_true (((b.best.at_.time == 0) && ((b.best.at_.who == 0) && true))) with h17 | h17
  try rw [h17]
  have g17 : b.best.at_.time = 0 ∧ b.best.at_.who = 0 := by simpa [strEq_iff] using h17
  refine OW.fi (ar := [.agg [.ref 1 8 0 0, VI no], .agg [.lst 1 (v.weights.map cI), VI v.need]]) (r := .lst 6 ((toAllP v.weights.length (⟨3, no, 0, (⟨(⟨(⟨b.time, 2, b.own, b.own, b.best, (⟨0, by decide⟩ : U64)⟩ : Bid).time, no⟩ : Stamp), b.own⟩ : Copy)⟩ : Vote)).map Vote.cs)) (m' := (D68 b m no v)) (x' := ⟨(88, .lst 6 ((toAllP v.weights.length (⟨3, no, 0, (⟨(⟨(⟨b.time, 2, b.own, b.own, b.best, (⟨0, by decide⟩ : U64)⟩ : Bid).time, no⟩ : Stamp), b.own⟩ : Copy)⟩ : Vote)).map Vote.cs)) :: (D34 no v), (D68 b m no v)⟩) (by kernel_rfl) (by kernel_rfl) F92_call ?_ (by kernel_rfl) ?_
  refine fi_walkW F92_ok (of_decide_eq_true (by kernel_rfl)) ?_
  refine srl 3 [2, 3] ⟨[(3, .ref 6 2 0 0), (2, .ref 5 2 0 0)], (D57 b m no v)⟩ ?_
  refine EL.seq ?_
  refine srl 6 [2, 3, 10] ⟨[(10, .v (.bool (b.phase == 2))), (3, .ref 6 2 0 0), (2, .ref 5 2 0 0)], (D57 b m no v)⟩ ?_
  rw [h16]
  refine cnF ?_
  refine skn ?_
  refine sdl 11 [2, 3] ⟨[(3, .ref 6 2 0 0), (2, .ref 5 2 0 0)], (D63 b m no v)⟩ ?_
  refine EL.seq ?_
  refine srl 8 [2, 3, 32] ⟨[(32, .v (.bool ((b.best.at_.time == 0) && ((b.best.at_.who == 0) && true)))), (3, .ref 6 2 0 0), (2, .ref 5 2 0 0)], (D63 b m no v)⟩ ?_
  rw [h17]
  refine cnT ?_
  refine EL.draw0 ?_
  refine dwe 10 ⟨(D45 b), (D65 b m no v)⟩ ?_
  refine thenL_norm ?_
  refine sdl 10 [2, 3] ⟨[(3, .ref 6 2 0 0), (2, .ref 5 2 0 0)], (D67 b m no v)⟩ ?_
  refine sdr 4 ⟨(D48 no v), (D67 b m no v)⟩ ?_
  refine dwf [.agg [.ref 1 8 0 0, VI no]] ⟨(54, .agg [VI ((⟨(⟨b.time, 2, b.own, b.own, b.best, (⟨0, by decide⟩ : U64)⟩ : Bid).time, no⟩ : Stamp).time), VI ((⟨(⟨b.time, 2, b.own, b.own, b.best, (⟨0, by decide⟩ : U64)⟩ : Bid).time, no⟩ : Stamp).who)]) :: (D48 no v), (D67 b m no v)⟩ F89_call (at_fn (⟨b.time, 2, b.own, b.own, b.best, (⟨0, by decide⟩ : U64)⟩ : Bid) no) ?_
  refine dwr 7 ⟨(61, .agg [VI 3, VI no, VI 0, VI ((⟨(⟨b.time, 2, b.own, b.own, b.best, (⟨0, by decide⟩ : U64)⟩ : Bid).time, no⟩ : Stamp).time), VI ((⟨(⟨b.time, 2, b.own, b.own, b.best, (⟨0, by decide⟩ : U64)⟩ : Bid).time, no⟩ : Stamp).who), .v (.string b.own)]) :: (60, .agg [VI ((⟨(⟨b.time, 2, b.own, b.own, b.best, (⟨0, by decide⟩ : U64)⟩ : Bid).time, no⟩ : Stamp).time), VI ((⟨(⟨b.time, 2, b.own, b.own, b.best, (⟨0, by decide⟩ : U64)⟩ : Bid).time, no⟩ : Stamp).who), .v (.string b.own)]) :: (59, .v (.string b.own)) :: (58, .ref 1 8 0 3) :: (57, .ref 1 8 0 0) :: (56, .ref 1 8 0 0) :: (55, .ref 5 2 0 0) :: (54, .agg [VI ((⟨(⟨b.time, 2, b.own, b.own, b.best, (⟨0, by decide⟩ : U64)⟩ : Bid).time, no⟩ : Stamp).time), VI ((⟨(⟨b.time, 2, b.own, b.own, b.best, (⟨0, by decide⟩ : U64)⟩ : Bid).time, no⟩ : Stamp).who)]) :: (D48 no v), (D67 b m no v)⟩ ?_
  refine dwf [.agg [.lst 1 (v.weights.map cI), VI v.need], .agg [VI 3, VI no, VI 0, VI ((⟨(⟨b.time, 2, b.own, b.own, b.best, (⟨0, by decide⟩ : U64)⟩ : Bid).time, no⟩ : Stamp).time), VI ((⟨(⟨b.time, 2, b.own, b.own, b.best, (⟨0, by decide⟩ : U64)⟩ : Bid).time, no⟩ : Stamp).who), .v (.string b.own)]] ⟨(62, .lst 6 ((toAllP v.weights.length (⟨3, no, 0, (⟨(⟨(⟨b.time, 2, b.own, b.own, b.best, (⟨0, by decide⟩ : U64)⟩ : Bid).time, no⟩ : Stamp), b.own⟩ : Copy)⟩ : Vote)).map Vote.cs)) :: (61, .agg [VI 3, VI no, VI 0, VI ((⟨(⟨b.time, 2, b.own, b.own, b.best, (⟨0, by decide⟩ : U64)⟩ : Bid).time, no⟩ : Stamp).time), VI ((⟨(⟨b.time, 2, b.own, b.own, b.best, (⟨0, by decide⟩ : U64)⟩ : Bid).time, no⟩ : Stamp).who), .v (.string b.own)]) :: (60, .agg [VI ((⟨(⟨b.time, 2, b.own, b.own, b.best, (⟨0, by decide⟩ : U64)⟩ : Bid).time, no⟩ : Stamp).time), VI ((⟨(⟨b.time, 2, b.own, b.own, b.best, (⟨0, by decide⟩ : U64)⟩ : Bid).time, no⟩ : Stamp).who), .v (.string b.own)]) :: (59, .v (.string b.own)) :: (58, .ref 1 8 0 3) :: (57, .ref 1 8 0 0) :: (56, .ref 1 8 0 0) :: (55, .ref 5 2 0 0) :: (54, .agg [VI ((⟨(⟨b.time, 2, b.own, b.own, b.best, (⟨0, by decide⟩ : U64)⟩ : Bid).time, no⟩ : Stamp).time), VI ((⟨(⟨b.time, 2, b.own, b.own, b.best, (⟨0, by decide⟩ : U64)⟩ : Bid).time, no⟩ : Stamp).who)]) :: (D48 no v), (D67 b m no v)⟩ F88_call (toAll_fn v (⟨3, no, 0, (⟨(⟨(⟨b.time, 2, b.own, b.own, b.best, (⟨0, by decide⟩ : U64)⟩ : Bid).time, no⟩ : Stamp), b.own⟩ : Copy)⟩ : Vote) (by first | omega | exact bid_len (by assumption))) ?_
  refine dwl 1 [4] ⟨[(4, .lst 6 ((toAllP v.weights.length (⟨3, no, 0, (⟨(⟨(⟨b.time, 2, b.own, b.own, b.best, (⟨0, by decide⟩ : U64)⟩ : Bid).time, no⟩ : Stamp), b.own⟩ : Copy)⟩ : Vote)).map Vote.cs))], (D67 b m no v)⟩ ?_
  refine EL.ret ?_
  refine ⟨.inr rfl, ⟨[(4, .lst 6 ((toAllP v.weights.length (⟨3, no, 0, (⟨(⟨(⟨b.time, 2, b.own, b.own, b.best, (⟨0, by decide⟩ : U64)⟩ : Bid).time, no⟩ : Stamp), b.own⟩ : Copy)⟩ : Vote)).map Vote.cs))], (D68 b m no v)⟩, norm_le (live := [4]) (src := [.old 0 false, .old 1 false, .old 2 false, .old 3 false, .old 4 false]) (es := []) (by kernel_rfl) trivial, by kernel_rfl, rfl⟩
  refine owe 1 ⟨(14, .lst 6 ((toAllP v.weights.length (⟨3, no, 0, (⟨(⟨(⟨b.time, 2, b.own, b.own, b.best, (⟨0, by decide⟩ : U64)⟩ : Bid).time, no⟩ : Stamp), b.own⟩ : Copy)⟩ : Vote)).map Vote.cs)) :: (88, .lst 6 ((toAllP v.weights.length (⟨3, no, 0, (⟨(⟨(⟨b.time, 2, b.own, b.own, b.best, (⟨0, by decide⟩ : U64)⟩ : Bid).time, no⟩ : Stamp), b.own⟩ : Copy)⟩ : Vote)).map Vote.cs)) :: (D50 no v), (D68 b m no v)⟩ ?_
  refine thenL_norm ?_
  refine srl 5 [8, 9, 10] ⟨[(10, VI 0), (9, .lst 6 ((toAllP v.weights.length (⟨3, no, 0, (⟨(⟨(⟨b.time, 2, b.own, b.own, b.best, (⟨0, by decide⟩ : U64)⟩ : Bid).time, no⟩ : Stamp), b.own⟩ : Copy)⟩ : Vote)).map Vote.cs)), (8, .ref 3 8 0 0)], (D69 b m no v)⟩ ?_
  refine EL.ret ?_
  refine ⟨.inr rfl, .tup [.agg [VI b.time, VI 2, .v (.string b.own), .v (.string b.own), VI b.best.at_.time, VI b.best.at_.who, .v (.string b.best.data), .v (.int .u64 0)], .lst 6 ((toAllP v.weights.length (⟨3, no, 0, (⟨(⟨(⟨b.time, 2, b.own, b.own, b.best, (⟨0, by decide⟩ : U64)⟩ : Bid).time, no⟩ : Stamp), b.own⟩ : Copy)⟩ : Vote)).map Vote.cs), VI 0], by kernel_rfl, Ale.of_eq ?_⟩
  rotate_left
  try rw [h17]
  have g17 : ¬ (b.best.at_.time = 0 ∧ b.best.at_.who = 0) := fun ⟨q0, q1⟩ => Bool.noConfusion ((show (((b.best.at_.time == 0) && ((b.best.at_.who == 0) && true))) = true by first | (simp [q0, q1, strEq_iff]; done) | (simp only [q0, q1, beq_self_eq_true, Bool.and_self, Bool.and_true, Bool.true_and]; done)).symm.trans h17)
  refine OW.fi (ar := [.agg [.ref 1 8 0 0, VI no], .agg [.lst 1 (v.weights.map cI), VI v.need]]) (r := .lst 6 ((toAllP v.weights.length (⟨3, no, 0, (⟨(⟨(⟨b.time, 2, b.own, b.best.data, b.best, (⟨0, by decide⟩ : U64)⟩ : Bid).time, no⟩ : Stamp), b.best.data⟩ : Copy)⟩ : Vote)).map Vote.cs)) (m' := (D72 b m no v)) (x' := ⟨(88, .lst 6 ((toAllP v.weights.length (⟨3, no, 0, (⟨(⟨(⟨b.time, 2, b.own, b.best.data, b.best, (⟨0, by decide⟩ : U64)⟩ : Bid).time, no⟩ : Stamp), b.best.data⟩ : Copy)⟩ : Vote)).map Vote.cs)) :: (D34 no v), (D72 b m no v)⟩) (by kernel_rfl) (by kernel_rfl) F92_call ?_ (by kernel_rfl) ?_
  refine fi_walkW F92_ok (of_decide_eq_true (by kernel_rfl)) ?_
  refine srl 3 [2, 3] ⟨[(3, .ref 6 2 0 0), (2, .ref 5 2 0 0)], (D57 b m no v)⟩ ?_
  refine EL.seq ?_
  refine srl 6 [2, 3, 10] ⟨[(10, .v (.bool (b.phase == 2))), (3, .ref 6 2 0 0), (2, .ref 5 2 0 0)], (D57 b m no v)⟩ ?_
  rw [h16]
  refine cnF ?_
  refine skn ?_
  refine sdl 11 [2, 3] ⟨[(3, .ref 6 2 0 0), (2, .ref 5 2 0 0)], (D63 b m no v)⟩ ?_
  refine EL.seq ?_
  refine srl 8 [2, 3, 32] ⟨[(32, .v (.bool ((b.best.at_.time == 0) && ((b.best.at_.who == 0) && true)))), (3, .ref 6 2 0 0), (2, .ref 5 2 0 0)], (D63 b m no v)⟩ ?_
  rw [h17]
  refine cnF ?_
  refine skn ?_
  refine sdl 10 [2, 3] ⟨[(3, .ref 6 2 0 0), (2, .ref 5 2 0 0)], (D71 b m no v)⟩ ?_
  refine sdr 4 ⟨(D48 no v), (D71 b m no v)⟩ ?_
  refine dwf [.agg [.ref 1 8 0 0, VI no]] ⟨(54, .agg [VI ((⟨(⟨b.time, 2, b.own, b.best.data, b.best, (⟨0, by decide⟩ : U64)⟩ : Bid).time, no⟩ : Stamp).time), VI ((⟨(⟨b.time, 2, b.own, b.best.data, b.best, (⟨0, by decide⟩ : U64)⟩ : Bid).time, no⟩ : Stamp).who)]) :: (D48 no v), (D71 b m no v)⟩ F89_call (at_fn (⟨b.time, 2, b.own, b.best.data, b.best, (⟨0, by decide⟩ : U64)⟩ : Bid) no) ?_
  refine dwr 7 ⟨(61, .agg [VI 3, VI no, VI 0, VI ((⟨(⟨b.time, 2, b.own, b.best.data, b.best, (⟨0, by decide⟩ : U64)⟩ : Bid).time, no⟩ : Stamp).time), VI ((⟨(⟨b.time, 2, b.own, b.best.data, b.best, (⟨0, by decide⟩ : U64)⟩ : Bid).time, no⟩ : Stamp).who), .v (.string b.best.data)]) :: (60, .agg [VI ((⟨(⟨b.time, 2, b.own, b.best.data, b.best, (⟨0, by decide⟩ : U64)⟩ : Bid).time, no⟩ : Stamp).time), VI ((⟨(⟨b.time, 2, b.own, b.best.data, b.best, (⟨0, by decide⟩ : U64)⟩ : Bid).time, no⟩ : Stamp).who), .v (.string b.best.data)]) :: (59, .v (.string b.best.data)) :: (58, .ref 1 8 0 3) :: (57, .ref 1 8 0 0) :: (56, .ref 1 8 0 0) :: (55, .ref 5 2 0 0) :: (54, .agg [VI ((⟨(⟨b.time, 2, b.own, b.best.data, b.best, (⟨0, by decide⟩ : U64)⟩ : Bid).time, no⟩ : Stamp).time), VI ((⟨(⟨b.time, 2, b.own, b.best.data, b.best, (⟨0, by decide⟩ : U64)⟩ : Bid).time, no⟩ : Stamp).who)]) :: (D48 no v), (D71 b m no v)⟩ ?_
  refine dwf [.agg [.lst 1 (v.weights.map cI), VI v.need], .agg [VI 3, VI no, VI 0, VI ((⟨(⟨b.time, 2, b.own, b.best.data, b.best, (⟨0, by decide⟩ : U64)⟩ : Bid).time, no⟩ : Stamp).time), VI ((⟨(⟨b.time, 2, b.own, b.best.data, b.best, (⟨0, by decide⟩ : U64)⟩ : Bid).time, no⟩ : Stamp).who), .v (.string b.best.data)]] ⟨(62, .lst 6 ((toAllP v.weights.length (⟨3, no, 0, (⟨(⟨(⟨b.time, 2, b.own, b.best.data, b.best, (⟨0, by decide⟩ : U64)⟩ : Bid).time, no⟩ : Stamp), b.best.data⟩ : Copy)⟩ : Vote)).map Vote.cs)) :: (61, .agg [VI 3, VI no, VI 0, VI ((⟨(⟨b.time, 2, b.own, b.best.data, b.best, (⟨0, by decide⟩ : U64)⟩ : Bid).time, no⟩ : Stamp).time), VI ((⟨(⟨b.time, 2, b.own, b.best.data, b.best, (⟨0, by decide⟩ : U64)⟩ : Bid).time, no⟩ : Stamp).who), .v (.string b.best.data)]) :: (60, .agg [VI ((⟨(⟨b.time, 2, b.own, b.best.data, b.best, (⟨0, by decide⟩ : U64)⟩ : Bid).time, no⟩ : Stamp).time), VI ((⟨(⟨b.time, 2, b.own, b.best.data, b.best, (⟨0, by decide⟩ : U64)⟩ : Bid).time, no⟩ : Stamp).who), .v (.string b.best.data)]) :: (59, .v (.string b.best.data)) :: (58, .ref 1 8 0 3) :: (57, .ref 1 8 0 0) :: (56, .ref 1 8 0 0) :: (55, .ref 5 2 0 0) :: (54, .agg [VI ((⟨(⟨b.time, 2, b.own, b.best.data, b.best, (⟨0, by decide⟩ : U64)⟩ : Bid).time, no⟩ : Stamp).time), VI ((⟨(⟨b.time, 2, b.own, b.best.data, b.best, (⟨0, by decide⟩ : U64)⟩ : Bid).time, no⟩ : Stamp).who)]) :: (D48 no v), (D71 b m no v)⟩ F88_call (toAll_fn v (⟨3, no, 0, (⟨(⟨(⟨b.time, 2, b.own, b.best.data, b.best, (⟨0, by decide⟩ : U64)⟩ : Bid).time, no⟩ : Stamp), b.best.data⟩ : Copy)⟩ : Vote) (by first | omega | exact bid_len (by assumption))) ?_
  refine dwl 1 [4] ⟨[(4, .lst 6 ((toAllP v.weights.length (⟨3, no, 0, (⟨(⟨(⟨b.time, 2, b.own, b.best.data, b.best, (⟨0, by decide⟩ : U64)⟩ : Bid).time, no⟩ : Stamp), b.best.data⟩ : Copy)⟩ : Vote)).map Vote.cs))], (D71 b m no v)⟩ ?_
  refine EL.ret ?_
  refine ⟨.inr rfl, ⟨[(4, .lst 6 ((toAllP v.weights.length (⟨3, no, 0, (⟨(⟨(⟨b.time, 2, b.own, b.best.data, b.best, (⟨0, by decide⟩ : U64)⟩ : Bid).time, no⟩ : Stamp), b.best.data⟩ : Copy)⟩ : Vote)).map Vote.cs))], (D72 b m no v)⟩, norm_le (live := [4]) (src := [.old 0 false, .old 1 false, .old 2 false, .old 3 false, .old 4 false]) (es := []) (by kernel_rfl) trivial, by kernel_rfl, rfl⟩
  refine owe 1 ⟨(14, .lst 6 ((toAllP v.weights.length (⟨3, no, 0, (⟨(⟨(⟨b.time, 2, b.own, b.best.data, b.best, (⟨0, by decide⟩ : U64)⟩ : Bid).time, no⟩ : Stamp), b.best.data⟩ : Copy)⟩ : Vote)).map Vote.cs)) :: (88, .lst 6 ((toAllP v.weights.length (⟨3, no, 0, (⟨(⟨(⟨b.time, 2, b.own, b.best.data, b.best, (⟨0, by decide⟩ : U64)⟩ : Bid).time, no⟩ : Stamp), b.best.data⟩ : Copy)⟩ : Vote)).map Vote.cs)) :: (D50 no v), (D72 b m no v)⟩ ?_
  refine thenL_norm ?_
  refine srl 5 [8, 9, 10] ⟨[(10, VI 0), (9, .lst 6 ((toAllP v.weights.length (⟨3, no, 0, (⟨(⟨(⟨b.time, 2, b.own, b.best.data, b.best, (⟨0, by decide⟩ : U64)⟩ : Bid).time, no⟩ : Stamp), b.best.data⟩ : Copy)⟩ : Vote)).map Vote.cs)), (8, .ref 3 8 0 0)], (D73 b m no v)⟩ ?_
  refine EL.ret ?_
  refine ⟨.inr rfl, .tup [.agg [VI b.time, VI 2, .v (.string b.own), .v (.string b.best.data), VI b.best.at_.time, VI b.best.at_.who, .v (.string b.best.data), .v (.int .u64 0)], .lst 6 ((toAllP v.weights.length (⟨3, no, 0, (⟨(⟨(⟨b.time, 2, b.own, b.best.data, b.best, (⟨0, by decide⟩ : U64)⟩ : Bid).time, no⟩ : Stamp), b.best.data⟩ : Copy)⟩ : Vote)).map Vote.cs), VI 0], by kernel_rfl, Ale.of_eq ?_⟩
  rotate_left
  rw [h15]
  refine cnF ?_
  refine skn ?_
  refine srl 5 [8, 9, 10] ⟨[(10, VI 0), (9, .emp), (8, .ref 3 8 0 0)], (D74 b m no v)⟩ ?_
  refine EL.ret ?_
  refine ⟨.inr rfl, .tup [.agg [VI b.time, VI b.phase, .v (.string b.own), .v (.string b.value), VI b.best.at_.time, VI b.best.at_.who, .v (.string b.best.data), .v (.int .u64 ((orU b.heard (Int.toNat m.node)).n : Int))], .emp, VI 0], by kernel_rfl, Ale.trans (b := .tup [.agg [VI b.time, VI b.phase, .v (.string b.own), .v (.string b.value), VI b.best.at_.time, VI b.best.at_.who, .v (.string b.best.data), .v (.int .u64 ((orU b.heard (Int.toNat m.node)).n : Int))], .lst 6 [], VI 0]) (Ale.tup (.cons (Ale.refl) (.cons (Ale.emp) (.cons (Ale.refl) (.nil))))) (Ale.of_eq ?_)⟩
  rotate_left
  rw [h6]
  refine owl 14 [4, 6, 7, 8, 12, 13, 59] ⟨(D16 m), (D12 b m no v)⟩ ?_
  refine cnT ?_
  refine srl 4 [8, 9, 10] ⟨[(10, VI 0), (9, .emp), (8, .ref 3 8 0 0)], (D17 b m no v)⟩ ?_
  refine rtr ?_
  refine ⟨.inr rfl, .tup [.agg [VI b.time, VI b.phase, .v (.string b.own), .v (.string b.value), VI b.best.at_.time, VI b.best.at_.who, .v (.string b.best.data), .v (.int .u64 (b.heard.n : Int))], .emp, VI 0], by kernel_rfl, Ale.trans (b := .tup [.agg [VI b.time, VI b.phase, .v (.string b.own), .v (.string b.value), VI b.best.at_.time, VI b.best.at_.who, .v (.string b.best.data), .v (.int .u64 (b.heard.n : Int))], .lst 6 [], VI 0]) (Ale.tup (.cons (Ale.refl) (.cons (Ale.emp) (.cons (Ale.refl) (.nil))))) (Ale.of_eq ?_)⟩
  rotate_left
  rw [h2]
  have g2 : ¬ ((b.checkE v.weights v.need) = 0) := by simpa using h2
  refine cnF ?_
  refine skn ?_
  refine EL.seq ?_
  refine srl 2 [1, 4, 6, 7, 8, 11, 27] ⟨(27, .v (.bool ((b.checkE v.weights v.need) != 0))) :: (11, VI (b.checkE v.weights v.need)) :: (D4 no), (D3 b m v)⟩ ?_
  have h18 : ((b.checkE v.weights v.need) != 0) = true := (by show (!((b.checkE v.weights v.need) == 0)) = _; rw [h2]; rfl)
  rw [h18]
  refine cnT ?_
  refine srl 5 [8, 9, 10] ⟨(D75 b v), (D3 b m v)⟩ ?_
  refine rtr ?_
  refine ⟨.inr rfl, .tup [.agg [VI 0, VI 0, .v (.string (⟨#[]⟩)), .v (.string (⟨#[]⟩)), VI 0, VI 0, .v (.string (⟨#[]⟩)), .v (.int .u64 0)], .emp, VI (b.checkE v.weights v.need)], by kernel_rfl, Ale.trans (b := .tup [.agg [VI 0, VI 0, .v (.string (⟨#[]⟩)), .v (.string (⟨#[]⟩)), VI 0, VI 0, .v (.string (⟨#[]⟩)), .v (.int .u64 0)], .lst 6 [], VI (b.checkE v.weights v.need)]) (Ale.tup (.cons (Ale.refl) (.cons (Ale.emp) (.cons (Ale.refl) (.nil))))) (Ale.of_eq ?_)⟩
  rotate_left
  rw [h1]
  have g1 : ¬ ((0 : Int) ≤ no ∧ (no : Int) ≤ 30) := fun hh => Bool.noConfusion ((wi_iff.2 hh).symm.trans h1)
  refine cnF ?_
  refine skn ?_
  refine EL.seq ?_
  refine srl 2 [1, 4, 6, 7, 8, 11, 23] ⟨(23, .v (.bool false)) :: (11, VI 3) :: (D4 no), (D3 b m v)⟩ ?_
  refine cnF ?_
  refine skn ?_
  refine EL.seq ?_
  refine srl 2 [1, 4, 6, 7, 8, 11, 27] ⟨(27, .v (.bool true)) :: (11, VI 3) :: (D4 no), (D3 b m v)⟩ ?_
  refine cnT ?_
  refine srl 5 [8, 9, 10] ⟨[(10, VI 3), (9, .emp), (8, .ref 3 8 0 0)], (D3 b m v)⟩ ?_
  refine rtr ?_
  refine ⟨.inr rfl, .tup [.agg [VI 0, VI 0, .v (.string (⟨#[]⟩)), .v (.string (⟨#[]⟩)), VI 0, VI 0, .v (.string (⟨#[]⟩)), .v (.int .u64 0)], .emp, VI 3], by kernel_rfl, Ale.trans (b := .tup [.agg [VI 0, VI 0, .v (.string (⟨#[]⟩)), .v (.string (⟨#[]⟩)), VI 0, VI 0, .v (.string (⟨#[]⟩)), .v (.int .u64 0)], .lst 6 [], VI 3]) (Ale.tup (.cons (Ale.refl) (.cons (Ale.emp) (.cons (Ale.refl) (.nil))))) (Ale.of_eq ?_)⟩
  rotate_left
  all_goals (first | (rw [hear_go (by omega) (by assumption) (by assumption) (by assumption) (by assumption) (by omega) (by assumption)]; first | (simp [heardP, onP, *]; done) | (simp_all [heardP, onP]; done)) | rfl | (simp [hearP, heardP, onP, Bid.zero, *]; done) | (simp_all [hearP, heardP, onP, Bid.zero]; done) | (simp only [hearP]; (repeat' split) <;> first | rfl | (exfalso; omega) | contradiction | (simp_all [heardP, onP]; done)))
end Go.Proofs.YtligepciannclaaDoor
set_option maxRecDepth 100000
set_option maxHeartbeats 4000000
set_option linter.unusedVariables false
set_option linter.unusedSimpArgs false
namespace Go.Proofs.YtligepciannclaaDoor
abbrev Z0 : LB := [some ⟨2, [[.own 1 1 0 3, VI 2]]⟩, some ⟨1, [[VI 1], [VI 1], [VI 1]]⟩]
theorem three_fn : Fn Tryd.prog 34 [] (.agg [.lst 1 (((⟨[1, 1, 1], 2⟩ : Voters).weights).map cI), VI ((⟨[1, 1, 1], 2⟩ : Voters).need)]) := by
  refine fn_walkW F34_ok (of_decide_eq_true (by kernel_rfl)) ?_
  refine srl 1 [0] ⟨[(0, .ref 0 2 0 0)], [some ⟨2, [[.emp, VI 0]]⟩]⟩ ?_
  refine srl 3 [0] ⟨[(0, .ref 0 2 0 0)], Z0⟩ ?_
  refine EL.ret ?_
  refine ⟨.inr rfl, .agg [.lst 1 [[VI 1], [VI 1], [VI 1]], VI 2], by kernel_rfl, Ale.of_eq ?_⟩
  focus (rfl)
end Go.Proofs.YtligepciannclaaDoor
set_option maxRecDepth 100000
set_option maxHeartbeats 4000000
set_option linter.unusedVariables false
set_option linter.unusedSimpArgs false
namespace Go.Proofs.YtligepciannclaaDoor
theorem or_sub {x : U64} {k n : Nat} (hx : x.n < 2 ^ n) (hk : k < n) (hn : n ≤ 12) : (orU x k).n < 2 ^ n := by
  have hl : x.n ||| 2 ^ k < 2 ^ n := Nat.or_lt_two_pow hx (Nat.pow_lt_pow_right (by decide) hk)
  show (x.n ||| 2 ^ k) % 18446744073709551616 < 2 ^ n
  exact Nat.lt_of_le_of_lt (Nat.mod_le _ _) hl
theorem qc_nodes {ws : List Int} {need : Int} (h : qcheckP ws need = 0) : (nodesP ws).2 = 0 := by
  unfold qcheckP at h
  by_cases hn : (nodesP ws).2 = 0
  · exact hn
  · rw [if_pos hn] at h; exact absurd h hn
theorem qc_len {ws : List Int} {need : Int} (h : qcheckP ws need = 0) : ws.length ≤ 12 := (nodes_bd (qc_nodes h)).2.2.2.1
section
variable (k : Int) (x : U64)
end
section
variable (a : Int) (a6 : Int) (k : Nat) (ws : List Int)
end
section
variable (need : Int) (ws : List Int)
end
section
variable (a5 : Int) (k : Nat) (n : Int) (u : U64) (ws : List Int)
end
section
variable (k : Nat) (m : Vote) (nodes : Int) (out : List Vote) (p : Vote)
end
section
variable (b : Bid) (v : Voters)
end
section
variable (no : Int) (own : ByteArray) (time : Int) (v : Voters)
end
section
variable (a15 : Copy) (a17 : Copy) (a22 : Copy) (a5 : Copy) (i : Nat) (j : Nat) (k : Nat) (l : List Copy)
end
theorem bid_ok {v : Voters} {b : Bid} (h : b.checkE v.weights v.need = 0) : qcheckP v.weights v.need = 0 ∧ b.best.checkE = 0 ∧ b.heard.n < 2 ^ v.weights.length ∧ (1 ≤ b.time ∧ b.time ≤ 1000000) ∧ (1 ≤ b.phase ∧ b.phase ≤ 3) := by
  unfold Bid.checkE at h
  by_cases h1 : qcheckP v.weights v.need = 0
  · rw [if_neg (fun hh => hh h1)] at h
    by_cases h2 : 1 ≤ b.time ∧ b.time ≤ 1000000
    · rw [if_neg (fun hh => hh h2)] at h
      by_cases h3 : 1 ≤ b.phase ∧ b.phase ≤ 3
      · rw [if_neg (fun hh => hh h3)] at h
        by_cases h4 : b.own.size > 64 ∨ b.value.size > 64
        · rw [if_pos h4] at h; simp at h
        · rw [if_neg h4] at h
          by_cases h5 : b.best.checkE = 0
          · rw [if_neg (fun hh => hh h5)] at h
            by_cases h6 : (len64 b.heard.n : Int) > v.weights.length
            · rw [if_pos h6] at h; simp at h
            · refine ⟨h1, h5, Nat.not_le.1 fun hh => h6 ?_, h2, h3⟩
              have := len64_gt.2 hh; omega
          · rw [if_pos h5] at h; exact absurd h h5
      · rw [if_pos h3] at h; simp at h
    · rw [if_pos h2] at h; simp at h
  · rw [if_pos h1] at h; exact absurd h h1
theorem vote_copy {m : Vote} (h : m.checkE = 0) : m.copy.checkE = 0 := by
  unfold Vote.checkE at h
  split at h
  · simp at h
  · split at h
    · simp at h
    · split at h
      · rename_i h3; exact absurd h h3
      · rename_i h3; exact Decidable.not_not.1 h3
theorem enough_iff {ws : List Int} {need : Int} {x : Nat} (h : qcheckP ws need = 0) (hx : x < 2 ^ ws.length) : (enoughP ws need x).1 = true ↔ ¬ bsum ws x < need := by
  unfold enoughP
  rw [if_neg (fun hh => hh h), sumP_0 (qc_nodes h) hx]
  simp
section
variable (b : Bid) (m : Vote) (no : Int) (v : Voters)
end
end Go.Proofs.YtligepciannclaaDoor
set_option maxRecDepth 100000
set_option linter.unusedVariables false
set_option linter.unusedSimpArgs false
namespace Go.Proofs.YtligepciannclaaDoor
end Go.Proofs.YtligepciannclaaDoor
set_option maxRecDepth 100000
set_option linter.unusedVariables false
set_option linter.unusedSimpArgs false
namespace Go.Proofs.YtligepciannclaaDoor
theorem serve_cases (s : Seat) (v : Vote) : (s.checkE ≠ 0 ∧ s.serveP v = (Seat.zero, [], s.checkE)) ∨ (s.checkE = 0 ∧ v.checkE ≠ 0 ∧ s.serveP v = (Seat.zero, [], v.checkE)) ∨
    (s.checkE = 0 ∧ v.checkE = 0 ∧ ((v.kind = 1 ∧ s.promised.lt v.copy.at_ ∧ s.serveP v = (⟨v.copy.at_, s.kept⟩, [⟨2, v.bid, v.node, s.kept⟩], 0)) ∨
      (v.kind = 3 ∧ ¬ v.copy.at_.lt s.promised ∧ s.serveP v = (⟨v.copy.at_, v.copy⟩, [⟨4, v.bid, v.node, ⟨v.copy.at_, ⟨#[]⟩⟩⟩], 0)) ∨
      (¬ (v.kind = 1 ∧ s.promised.lt v.copy.at_) ∧ ¬ (v.kind = 3 ∧ ¬ v.copy.at_.lt s.promised) ∧ s.serveP v = (s, [], 0)))) := by
  unfold Seat.serveP
  by_cases h1 : s.checkE = 0
  · by_cases h2 : v.checkE = 0
    · by_cases h3 : v.kind = 1 ∧ s.promised.lt v.copy.at_
      · simp [h1, h2, h3]
      · by_cases h4 : v.kind = 3 ∧ ¬ v.copy.at_.lt s.promised
        · simp [h1, h2, h3, h4]
        · exact .inr (.inr ⟨h1, h2, .inr (.inr ⟨h3, h4, by rw [if_neg (by simp [h1]), if_neg (by simp [h2]), if_neg h3, if_neg h4]⟩)⟩)
    · simp [h1, h2]
  · simp [h1]
theorem seat_ok {s : Seat} : s.checkE = 0 ↔ s.promised.okS ∧ s.kept.at_.okS ∧ s.kept.data.size ≤ 64 ∧ ¬ s.promised.lt s.kept.at_ := by
  unfold Seat.checkE Stamp.checkE Copy.checkE
  repeat' split
  all_goals simp_all
  all_goals omega
theorem vote_ok {v : Vote} (h : v.checkE = 0) : v.copy.at_.okS ∧ v.copy.data.size ≤ 64 := by
  unfold Vote.checkE Copy.checkE at h
  repeat' split at h
  all_goals simp_all
theorem serve_rises {s : Seat} {v : Vote} (h : (s.serveP v).2.2 = 0) : ¬ (s.serveP v).1.promised.lt s.promised ∧ ¬ (s.serveP v).1.kept.at_.lt s.kept.at_ ∧ (s.serveP v).1.checkE = 0 ∧
    ((s.serveP v).1.kept = s.kept ∨ (s.serveP v).1.kept = v.copy ∧ v.kind = 3 ∧ ¬ v.copy.at_.lt s.promised) := by
  rcases serve_cases s v with ⟨h1, e⟩ | ⟨h1, h2, e⟩ | ⟨h1, h2, h3⟩
  · rw [e] at h; exact absurd h h1
  · rw [e] at h; exact absurd h h2
  · obtain ⟨q1, q2, q3, q4⟩ := seat_ok.1 h1
    obtain ⟨v1, v2⟩ := vote_ok h2
    rcases h3 with ⟨a, b, e⟩ | ⟨a, b, e⟩ | ⟨a, b, e⟩
    · rw [e]; refine ⟨?_, ?_, seat_ok.2 ⟨v1, q2, q3, ?_⟩, .inl rfl⟩ <;> (unfold Stamp.lt at *; dsimp only at *; omega)
    · rw [e]; refine ⟨b, ?_, seat_ok.2 ⟨v1, v1, v2, ?_⟩, .inr ⟨rfl, a, b⟩⟩ <;> (unfold Stamp.lt at *; dsimp only at *; omega)
    · rw [e]; refine ⟨?_, ?_, h1, .inl rfl⟩ <;> (unfold Stamp.lt at *; dsimp only at *; omega)
end Go.Proofs.YtligepciannclaaDoor
set_option maxRecDepth 100000
set_option linter.unusedVariables false
set_option linter.unusedSimpArgs false
namespace Go.Proofs.YtligepciannclaaDoor
theorem fits_cases {b : Bid} {no : Int} {m : Vote} (h : fitsP b no m = true) : (b.phase = 1 ∧ m.kind = 2) ∨ (b.phase = 2 ∧ m.kind = 4 ∧ m.copy.at_ = ⟨b.time, no⟩) := by
  unfold fitsP at h
  by_cases h1 : b.phase = 1
  · rw [if_pos h1] at h; exact .inl ⟨h1, by simpa using h⟩
  · rw [if_neg h1] at h
    by_cases h2 : b.phase = 2
    · rw [if_pos h2] at h
      simp only [decide_eq_true_eq] at h
      refine .inr ⟨h2, h.1, ?_⟩
      rw [Stamp.ext_iff]; exact ⟨h.2.1, h.2.2⟩
    · rw [if_neg h2] at h; simp at h
theorem hear_full {v : Voters} {no : Int} {b : Bid} {m : Vote} (h : (hearP v no b m).2.2 = 0) : hearP v no b m = (b, [], 0) ∨
    (b.checkE v.weights v.need = 0 ∧ m.checkE = 0 ∧ m.bid = no ∧ ((b.phase = 1 ∧ m.kind = 2) ∨ (b.phase = 2 ∧ m.kind = 4 ∧ m.copy.at_ = ⟨b.time, no⟩)) ∧ ¬ m.node ≥ v.weights.length ∧
      (hearP v no b m = (heardP b m, [], 0) ∨ (v.need ≤ bsum v.weights (orU b.heard m.node.toNat).n ∧ hearP v no b m = onP v no (heardP b m)))) := by
  by_cases h0 : 0 ≤ no ∧ no ≤ 30
  · by_cases h1 : b.checkE v.weights v.need = 0
    · by_cases h2 : m.checkE = 0
      · by_cases h3 : m.bid ≠ no ∨ fitsP b no m = false ∨ m.node ≥ v.weights.length ∨ (andU b.heard m.node.toNat).n ≠ 0
        · left; unfold hearP; rw [if_neg (fun hh => hh h0), if_neg (fun hh => hh h1), if_neg (fun hh => hh h2), if_pos h3]
        · right
          have hb := bid_ok h1
          have hn := vote_node h2
          have hl : ¬ m.node ≥ v.weights.length := fun hh => h3 (.inr (.inr (.inl hh)))
          have hs : (orU b.heard m.node.toNat).n < 2 ^ v.weights.length := or_sub hb.2.2.1 (by omega) (qc_len hb.1)
          have hf : fitsP b no m = true := by
            cases hf : fitsP b no m with
            | true => rfl
            | false => exact absurd (.inr (.inl hf)) h3
          refine ⟨h1, h2, Decidable.not_not.1 fun hh => h3 (.inl hh), fits_cases hf, hl, ?_⟩
          unfold hearP
          rw [if_neg (fun hh => hh h0), if_neg (fun hh => hh h1), if_neg (fun hh => hh h2), if_neg h3]
          by_cases h4 : (enoughP v.weights v.need (heardP b m).heard.n).1 = true
          · right; rw [if_pos h4]
            have := (enough_iff hb.1 hs).1 h4
            exact ⟨by omega, rfl⟩
          · left; rw [if_neg h4]
      · exfalso; unfold hearP at h; rw [if_neg (fun hh => hh h0), if_neg (fun hh => hh h1), if_pos h2] at h; exact h2 h
    · exfalso; unfold hearP at h; rw [if_neg (fun hh => hh h0), if_pos h1] at h; exact h1 h
  · exfalso; unfold hearP at h; rw [if_pos h0] at h; simp at h
structure Synod where
  voters : Voters
  seats : List Seat
  bids : List Bid
  votes : List Vote
/-- One step of a synod, as far as agreement wants it. -/
inductive Nxt (s t : Synod) : Prop
  | begins {time : Int} {own : ByteArray} {b : Bid} {l : List Vote} (h : beginP s.voters s.bids.length time own = (b, l, 0)) (hw : t.voters = s.voters) (hs : t.seats = s.seats) (hb : t.bids = s.bids ++ [b]) (hv : ∀ q, q ∈ t.votes → q ∈ s.votes ∨ q ∈ l) : Nxt s t
  | serves {m : Vote} {st : Seat} (hm : m ∈ s.votes) (hk : m.kind = 1 ∨ m.kind = 3) (hn : 0 ≤ m.node) (hst : s.seats[m.node.toNat]? = some st) (he : (st.serveP m).2.2 = 0) (hw : t.voters = s.voters) (hs : t.seats = s.seats.set m.node.toNat (st.serveP m).1) (hb : t.bids = s.bids) (hv : ∀ q, q ∈ t.votes → q ∈ s.votes ∨ q ∈ (st.serveP m).2.1) : Nxt s t
  | hears {m : Vote} {b : Bid} (hm : m ∈ s.votes) (h0 : 0 ≤ m.bid) (hbd : s.bids[m.bid.toNat]? = some b) (he : (hearP s.voters m.bid b m).2.2 = 0) (hw : t.voters = s.voters) (hs : t.seats = s.seats) (hb : t.bids = s.bids.set m.bid.toNat (hearP s.voters m.bid b m).1) (hv : ∀ q, q ∈ t.votes → q ∈ s.votes ∨ q ∈ (hearP s.voters m.bid b m).2.1) : Nxt s t
  | moves (hw : t.voters = s.voters) (hs : t.seats = s.seats) (hb : t.bids = s.bids) (hv : ∀ q, q ∈ t.votes → q ∈ s.votes) : Nxt s t
def zst : Stamp := ⟨0, 0⟩
theorem self_lt {a : Stamp} : ¬ a.lt a := by unfold Stamp.lt; omega
theorem get_set {α : Type} {l : List α} {i j : Nat} {x y : α} (h : (l.set i x)[j]? = some y) : (j = i ∧ y = x) ∨ (j ≠ i ∧ l[j]? = some y) := by
  rw [List.getElem?_set] at h
  by_cases hj : i = j
  · rw [if_pos hj] at h
    split at h
    · exact .inl ⟨hj.symm, (Option.some.inj h).symm⟩
    · simp at h
  · rw [if_neg hj] at h; exact .inr ⟨fun hh => hj hh.symm, h⟩
theorem set_get {α : Type} {l : List α} {i : Nat} {x y : α} (h : l[i]? = some y) : (l.set i x)[i]? = some x := by
  have := (List.getElem?_eq_some_iff.1 h).1
  simp [this]
theorem set_ne {α : Type} {l : List α} {i j : Nat} {x : α} (h : j ≠ i) : (l.set i x)[j]? = l[j]? := by
  rw [List.getElem?_set, if_neg (fun hh => h hh.symm)]
theorem begin_ok {v : Voters} {no time : Int} {own : ByteArray} {b : Bid} {l : List Vote} (h : beginP v no time own = (b, l, 0)) : 0 ≤ no ∧ b = Bid.new time own ∧ b.checkE v.weights v.need = 0 ∧ l = toAllP v.weights.length ⟨1, no, 0, ⟨⟨time, no⟩, ⟨#[]⟩⟩⟩ := by
  unfold beginP at h
  by_cases h1 : 0 ≤ no ∧ no ≤ 30
  · rw [if_neg (fun hh => hh h1)] at h
    by_cases h2 : (Bid.new time own).checkE v.weights v.need = 0
    · rw [if_neg (fun hh => hh h2)] at h
      simp only [Prod.mk.injEq] at h
      obtain ⟨rfl, rfl, _⟩ := h
      exact ⟨h1.1, rfl, h2, rfl⟩
    · rw [if_pos h2] at h
      simp only [Prod.mk.injEq] at h
      exact absurd h.2.2 h2
  · rw [if_pos h1] at h; simp at h
theorem toAll_mem {n : Nat} {m q : Vote} (h : q ∈ toAllP n m) : q.kind = m.kind ∧ q.bid = m.bid ∧ q.copy = m.copy := by
  simp only [toAllP, List.mem_map] at h
  obtain ⟨i, _, rfl⟩ := h
  exact ⟨rfl, rfl, rfl⟩
end Go.Proofs.YtligepciannclaaDoor
set_option maxRecDepth 100000
set_option linter.unusedVariables false
set_option linter.unusedSimpArgs false
namespace Go.Proofs.YtligepciannclaaDoor
/-- A new synod. -/
def Synod.new (v : Voters) : Synod := ⟨v, List.replicate v.weights.length Seat.zero, [], []⟩
/-- Steps, one after the other. -/
inductive Runs : Synod → Synod → Prop
  | nil (s : Synod) : Runs s s
  | step {s t u : Synod} (h : Nxt s t) (r : Runs t u) : Runs s u
end Go.Proofs.YtligepciannclaaDoor
set_option maxRecDepth 100000
set_option linter.unusedVariables false
set_option linter.unusedSimpArgs false
namespace Go.Proofs.YtligepciannclaaDoor
def firstE {α : Type} (f : α → Int) : List α → Int
  | [] => 0
  | x :: r => if f x ≠ 0 then f x else firstE f r
theorem firstE_0 {α : Type} {f : α → Int} : ∀ {l : List α}, firstE f l = 0 ↔ ∀ x, x ∈ l → f x = 0
  | [] => by simp [firstE]
  | x :: r => by
    unfold firstE
    by_cases h : f x = 0
    · rw [if_neg (fun hh => hh h), firstE_0 (l := r)]; simp [h]
    · rw [if_pos h]; simp [h]
def Synod.voteE (s : Synod) (v : Vote) : Int := if v.checkE ≠ 0 then v.checkE else if v.node ≥ s.seats.length ∨ v.bid ≥ s.bids.length then 3 else 0
def Synod.checkE (s : Synod) : Int :=
  if qcheckP s.voters.weights s.voters.need ≠ 0 then qcheckP s.voters.weights s.voters.need else if s.seats.length ≠ s.voters.weights.length then 1
  else if firstE Seat.checkE s.seats ≠ 0 then firstE Seat.checkE s.seats else if s.bids.length > 31 then 2
  else if firstE (fun b => Bid.checkE b s.voters.weights s.voters.need) s.bids ≠ 0 then firstE (fun b => Bid.checkE b s.voters.weights s.voters.need) s.bids
  else if s.votes.length > 200 then 2 else firstE s.voteE s.votes
structure Synod.Ok (s : Synod) : Prop where
  q : qcheckP s.voters.weights s.voters.need = 0
  len : s.seats.length = s.voters.weights.length
  seats : ∀ x, x ∈ s.seats → x.checkE = 0
  few : s.bids.length ≤ 31
  bids : ∀ b, b ∈ s.bids → b.checkE s.voters.weights s.voters.need = 0
  many : s.votes.length ≤ 200
  votes : ∀ v, v ∈ s.votes → v.checkE = 0 ∧ v.node < s.seats.length ∧ v.bid < s.bids.length
theorem Synod.ok_iff {s : Synod} : s.checkE = 0 ↔ s.Ok := by
  unfold Synod.checkE
  constructor
  · intro h
    by_cases h1 : qcheckP s.voters.weights s.voters.need = 0
    · rw [if_neg (fun hh => hh h1)] at h
      by_cases h2 : s.seats.length = s.voters.weights.length
      · rw [if_neg (fun hh => hh h2)] at h
        by_cases h3 : firstE Seat.checkE s.seats = 0
        · rw [if_neg (fun hh => hh h3)] at h
          by_cases h4 : s.bids.length > 31
          · rw [if_pos h4] at h; simp at h
          · rw [if_neg h4] at h
            by_cases h5 : firstE (fun b => Bid.checkE b s.voters.weights s.voters.need) s.bids = 0
            · rw [if_neg (fun hh => hh h5)] at h
              by_cases h6 : s.votes.length > 200
              · rw [if_pos h6] at h; simp at h
              · rw [if_neg h6] at h
                refine ⟨h1, h2, firstE_0.1 h3, by omega, firstE_0.1 h5, by omega, fun v hv => ?_⟩
                have := firstE_0.1 h v hv
                unfold Synod.voteE at this
                by_cases h7 : v.checkE = 0
                · rw [if_neg (fun hh => hh h7)] at this
                  by_cases h8 : v.node ≥ s.seats.length ∨ v.bid ≥ s.bids.length
                  · rw [if_pos h8] at this; simp at this
                  · exact ⟨h7, by omega, by omega⟩
                · rw [if_pos h7] at this; exact absurd this h7
            · rw [if_pos h5] at h; exact absurd h h5
        · rw [if_pos h3] at h; exact absurd h h3
      · rw [if_pos h2] at h; simp at h
    · rw [if_pos h1] at h; exact absurd h h1
  · rintro ⟨h1, h2, h3, h4, h5, h6, h7⟩
    rw [if_neg (fun hh => hh h1), if_neg (fun hh => hh h2), if_neg (fun hh => hh (firstE_0.2 h3)), if_neg (by omega), if_neg (fun hh => hh (firstE_0.2 h5)), if_neg (by omega)]
    refine firstE_0.2 fun v hv => ?_
    obtain ⟨k1, k2, k3⟩ := h7 v hv
    unfold Synod.voteE
    rw [if_neg (fun hh => hh k1), if_neg (by omega)]
def Synod.zero : Synod := ⟨⟨[], 0⟩, [], [], []⟩
def Synod.manyP (s : Synod) : Synod × Int := if s.votes.length > 200 then (Synod.zero, 2) else (s, 0)
/-- A vote is passed on. -/
def Synod.passP (s : Synod) (v : Vote) : Synod :=
  if v.kind = 1 ∨ v.kind = 3 then match s.seats[v.node.toNat]? with
    | some st => { s with seats := s.seats.set v.node.toNat (st.serveP v).1, votes := s.votes ++ (st.serveP v).2.1 }
    | none => s
  else match s.bids[v.bid.toNat]? with
    | some b => { s with bids := s.bids.set v.bid.toNat (hearP s.voters v.bid b v).1, votes := s.votes ++ (hearP s.voters v.bid b v).2.1 }
    | none => s
def Synod.bidP (s : Synod) (time : Int) (own : ByteArray) : Synod × Int :=
  if s.bids.length = 31 then (Synod.zero, 2) else if (beginP s.voters s.bids.length time own).2.2 ≠ 0 then (Synod.zero, (beginP s.voters s.bids.length time own).2.2)
  else Synod.manyP { s with bids := s.bids ++ [(beginP s.voters s.bids.length time own).1], votes := s.votes ++ (beginP s.voters s.bids.length time own).2.1 }
def Synod.away (s : Synod) (n : Nat) : Synod := { s with votes := s.votes.eraseIdx n }
def Synod.stepP (s : Synod) (k n : Int) (d : ByteArray) : Synod × Int :=
  if ¬ (3 ≤ k ∧ k ≤ 6) then (Synod.zero, 7) else if k ≠ 6 ∧ d.size ≠ 0 then (Synod.zero, 1) else if k = 6 then s.bidP n d
  else if ¬ (0 ≤ n ∧ n < s.votes.length) then (Synod.zero, 3)
  else match s.votes[n.toNat]? with
    | some v => if k = 3 then ((s.away n.toNat).passP v).manyP else if k = 4 then (s.away n.toNat).manyP else ({ s with votes := s.votes ++ [v] } : Synod).manyP
    | none => (Synod.zero, 3)
theorem many_ok {s : Synod} (h : s.manyP.2 = 0) : s.manyP = (s, 0) ∧ s.votes.length ≤ 200 := by
  unfold Synod.manyP at h ⊢
  by_cases h1 : s.votes.length > 200
  · rw [if_pos h1] at h; simp at h
  · rw [if_neg h1]; exact ⟨rfl, by omega⟩
theorem serve_noerr {s : Seat} {v : Vote} (h1 : s.checkE = 0) (h2 : v.checkE = 0) : (s.serveP v).2.2 = 0 := by
  rcases serve_cases s v with ⟨c, _⟩ | ⟨_, c, _⟩ | ⟨_, _, ⟨_, _, e⟩ | ⟨_, _, e⟩ | ⟨_, _, e⟩⟩
  · exact absurd h1 c
  · exact absurd h2 c
  all_goals rw [e]
theorem hear_noerr {v : Voters} {no : Int} {b : Bid} {m : Vote} (h0 : 0 ≤ no ∧ no ≤ 30) (h1 : b.checkE v.weights v.need = 0) (h2 : m.checkE = 0) : (hearP v no b m).2.2 = 0 := by
  unfold hearP
  rw [if_neg (fun hh => hh h0), if_neg (fun hh => hh h1), if_neg (fun hh => hh h2)]
  split
  · rfl
  · split
    · unfold onP; split <;> rfl
    · rfl
theorem vote_rng {v : Vote} (h : v.checkE = 0) : (1 ≤ v.kind ∧ v.kind ≤ 4) ∧ (0 ≤ v.bid ∧ v.bid ≤ 30) ∧ (0 ≤ v.node ∧ v.node ≤ 11) := by
  unfold Vote.checkE at h
  by_cases h1 : 1 ≤ v.kind ∧ v.kind ≤ 4
  · rw [if_neg (fun hh => hh h1)] at h
    by_cases h2 : 0 ≤ v.bid ∧ v.bid ≤ 30 ∧ 0 ≤ v.node ∧ v.node ≤ 11
    · exact ⟨h1, ⟨h2.1, h2.2.1⟩, h2.2.2⟩
    · rw [if_pos h2] at h; simp at h
  · rw [if_pos h1] at h; simp at h
theorem erase_mem {α : Type} {l : List α} {i : Nat} {x : α} (h : x ∈ l.eraseIdx i) : x ∈ l := (List.eraseIdx_sublist l i).subset h
/-- A step that goes well is one of those that agreement knows. -/
theorem step_nxt {s : Synod} (ok : s.Ok) {k n : Int} {d : ByteArray} (h : (s.stepP k n d).2 = 0) : Nxt s (s.stepP k n d).1 := by
  unfold Synod.stepP at h ⊢
  by_cases h1 : 3 ≤ k ∧ k ≤ 6
  · rw [if_neg (fun hh => hh h1)] at h ⊢
    by_cases h2 : k ≠ 6 ∧ d.size ≠ 0
    · rw [if_pos h2] at h; simp at h
    · rw [if_neg h2] at h ⊢
      by_cases h3 : k = 6
      · rw [if_pos h3] at h ⊢
        unfold Synod.bidP at h ⊢
        by_cases h4 : s.bids.length = 31
        · rw [if_pos h4] at h; simp at h
        · rw [if_neg h4] at h ⊢
          by_cases h5 : (beginP s.voters s.bids.length n d).2.2 = 0
          · rw [if_neg (fun hh => hh h5)] at h ⊢
            rw [(many_ok h).1]
            exact .begins (time := n) (own := d) (b := (beginP s.voters s.bids.length n d).1) (l := (beginP s.voters s.bids.length n d).2.1) (Prod.ext rfl (Prod.ext rfl h5)) rfl rfl rfl fun q hq => List.mem_append.1 hq
          · rw [if_pos h5] at h; exact absurd h h5
      · rw [if_neg h3] at h ⊢
        by_cases h4 : 0 ≤ n ∧ n < s.votes.length
        · rw [if_neg (fun hh => hh h4)] at h ⊢
          have hv : s.votes[n.toNat]? = some (s.votes[n.toNat]'(by omega)) := List.getElem?_eq_getElem (by omega)
          generalize s.votes[n.toNat]'(by omega) = v at hv
          have hmem : v ∈ s.votes := List.mem_of_getElem? hv
          obtain ⟨w1, w2, w3⟩ := ok.votes v hmem
          have hr := vote_rng w1
          rw [hv] at h ⊢
          dsimp only at h ⊢
          by_cases h5 : k = 3
          · rw [if_pos h5] at h ⊢
            rw [(many_ok h).1]
            unfold Synod.passP
            by_cases h6 : v.kind = 1 ∨ v.kind = 3
            · rw [if_pos h6]
              have hst : s.seats[v.node.toNat]? = some (s.seats[v.node.toNat]'(by omega)) := List.getElem?_eq_getElem (by omega)
              generalize s.seats[v.node.toNat]'(by omega) = st at hst
              rw [show (s.away n.toNat).seats = s.seats from rfl, hst]
              exact .serves hmem h6 hr.2.2.1 hst (serve_noerr (ok.seats st (List.mem_of_getElem? hst)) w1) rfl rfl rfl fun q hq => (List.mem_append.1 hq).imp erase_mem id
            · rw [if_neg h6]
              have hbd : s.bids[v.bid.toNat]? = some (s.bids[v.bid.toNat]'(by omega)) := List.getElem?_eq_getElem (by omega)
              generalize s.bids[v.bid.toNat]'(by omega) = b at hbd
              rw [show (s.away n.toNat).bids = s.bids from rfl, hbd]
              exact .hears hmem hr.2.1.1 hbd (hear_noerr hr.2.1 (ok.bids b (List.mem_of_getElem? hbd)) w1) rfl rfl rfl fun q hq => (List.mem_append.1 hq).imp erase_mem id
          · rw [if_neg h5] at h ⊢
            by_cases h6 : k = 4
            · rw [if_pos h6] at h ⊢
              rw [(many_ok h).1]
              exact .moves rfl rfl rfl fun q hq => erase_mem hq
            · rw [if_neg h6] at h ⊢
              rw [(many_ok h).1]
              refine .moves rfl rfl rfl fun q hq => ?_
              rcases List.mem_append.1 hq with hq | hq
              · exact hq
              · simp only [List.mem_singleton] at hq; subst hq; exact hmem
        · rw [if_pos h4] at h; simp at h
  · rw [if_pos h1] at h; simp at h
end Go.Proofs.YtligepciannclaaDoor
set_option maxRecDepth 100000
set_option linter.unusedVariables false
set_option linter.unusedSimpArgs false
namespace Go.Proofs.YtligepciannclaaDoor
theorem copy_iff {c : Copy} : c.checkE = 0 ↔ c.at_.okS ∧ c.data.size ≤ 64 := by
  unfold Copy.checkE
  by_cases h : c.at_.okS
  · by_cases h2 : c.data.size > 64
    · rw [if_pos h, if_pos h2]; constructor
      · intro hh; simp at hh
      · intro hh; omega
    · rw [if_pos h, if_neg h2]; exact ⟨fun _ => ⟨h, by omega⟩, fun _ => rfl⟩
  · rw [if_neg h]; constructor
    · intro hh; simp at hh
    · intro hh; exact absurd hh.1 h
theorem vote_mk {v : Vote} (h1 : 1 ≤ v.kind ∧ v.kind ≤ 4) (h2 : 0 ≤ v.bid ∧ v.bid ≤ 30 ∧ 0 ≤ v.node ∧ v.node ≤ 11) (h3 : v.copy.checkE = 0) (h4 : v.copy.data.size = 0 ∨ ¬ (v.kind = 1 ∨ v.kind = 4)) : v.checkE = 0 := by
  unfold Vote.checkE
  rw [if_neg (fun hh => hh h1), if_neg (fun hh => hh h2), if_neg (fun hh => hh h3), if_neg]
  rintro ⟨a, b⟩
  rcases h4 with h4 | h4
  · exact a h4
  · exact h4 b
theorem bid_mk {ws : List Int} {need : Int} {b : Bid} (h1 : qcheckP ws need = 0) (h2 : 1 ≤ b.time ∧ b.time ≤ 1000000) (h3 : 1 ≤ b.phase ∧ b.phase ≤ 3) (h4 : b.own.size ≤ 64 ∧ b.value.size ≤ 64) (h5 : b.best.checkE = 0) (h6 : b.heard.n < 2 ^ ws.length) : b.checkE ws need = 0 := by
  unfold Bid.checkE
  rw [if_neg (fun hh => hh h1), if_neg (fun hh => hh h2), if_neg (fun hh => hh h3), if_neg (by omega), if_neg (fun hh => hh h5), if_neg]
  intro hh
  have := len64_gt.1 (show ws.length < len64 b.heard.n by omega)
  omega
theorem bid_data {ws : List Int} {need : Int} {b : Bid} (h : b.checkE ws need = 0) : b.own.size ≤ 64 ∧ b.value.size ≤ 64 := by
  unfold Bid.checkE at h
  by_cases h1 : qcheckP ws need = 0
  · rw [if_neg (fun hh => hh h1)] at h
    by_cases h2 : 1 ≤ b.time ∧ b.time ≤ 1000000
    · rw [if_neg (fun hh => hh h2)] at h
      by_cases h3 : 1 ≤ b.phase ∧ b.phase ≤ 3
      · rw [if_neg (fun hh => hh h3)] at h
        by_cases h4 : b.own.size > 64 ∨ b.value.size > 64
        · rw [if_pos h4] at h; simp at h
        · omega
      · rw [if_pos h3] at h; simp at h
    · rw [if_pos h2] at h; simp at h
  · rw [if_pos h1] at h; exact absurd h h1
theorem i24 : (1 : Int) ≤ 2 ∧ (2 : Int) ≤ 4 := by decide
theorem i44 : (1 : Int) ≤ 4 ∧ (4 : Int) ≤ 4 := by decide
theorem i33 : (1 : Int) ≤ 3 ∧ (3 : Int) ≤ 3 := by decide
theorem i23 : (1 : Int) ≤ 2 ∧ (2 : Int) ≤ 3 := by decide
theorem i34 : (1 : Int) ≤ 3 ∧ (3 : Int) ≤ 4 := by decide
theorem i14 : (1 : Int) ≤ 1 ∧ (1 : Int) ≤ 4 := by decide
theorem em64 : (ByteArray.mk #[]).size ≤ 64 := by decide
theorem serve_votes {s : Seat} {v : Vote} (h : (s.serveP v).2.2 = 0) : ∀ q, q ∈ (s.serveP v).2.1 → q.checkE = 0 ∧ q.node = v.node ∧ q.bid = v.bid := by
  intro q hq
  rcases serve_cases s v with ⟨h1, e⟩ | ⟨h1, h2, e⟩ | ⟨h1, h2, h3⟩
  · rw [e] at hq; simp at hq
  · rw [e] at hq; simp at hq
  · obtain ⟨q1, q2, q3, q4⟩ := seat_ok.1 h1
    obtain ⟨v1, v2⟩ := vote_ok h2
    obtain ⟨r1, r2, r3⟩ := vote_rng h2
    rcases h3 with ⟨a, b, e⟩ | ⟨a, b, e⟩ | ⟨a, b, e⟩
    · rw [e] at hq; simp only [List.mem_singleton] at hq; subst hq
      exact ⟨vote_mk i24 ⟨r2.1, r2.2, r3⟩ (copy_iff.2 ⟨q2, q3⟩) (.inr (by dsimp only; omega)), rfl, rfl⟩
    · rw [e] at hq; simp only [List.mem_singleton] at hq; subst hq
      exact ⟨vote_mk i44 ⟨r2.1, r2.2, r3⟩ (copy_iff.2 ⟨v1, em64⟩) (.inl rfl), rfl, rfl⟩
    · rw [e] at hq; simp at hq
theorem toAll_node {n : Nat} {m q : Vote} (h : q ∈ toAllP n m) : 0 ≤ q.node ∧ q.node < n := by
  simp only [toAllP, List.mem_map, List.mem_range] at h
  obtain ⟨i, hi, rfl⟩ := h
  dsimp only; omega
theorem raw_ok {c o : Copy} (h1 : c.checkE = 0) (h2 : o.checkE = 0) : (c.raw o).checkE = 0 := by
  unfold Copy.raw; split <;> assumption
theorem toAll_ok {w : Voters} {k no : Int} {c : Copy} (hq : qcheckP w.weights w.need = 0) (h0 : 0 ≤ no ∧ no ≤ 30) (hk : 1 ≤ k ∧ k ≤ 4) (hc : c.checkE = 0) (hd : c.data.size = 0 ∨ ¬ (k = 1 ∨ k = 4)) : ∀ q, q ∈ toAllP w.weights.length ⟨k, no, 0, c⟩ → q.checkE = 0 ∧ q.bid = no ∧ 0 ≤ q.node ∧ q.node < w.weights.length := by
  intro q hq2
  have hm := toAll_mem hq2
  have hn := toAll_node hq2
  have hl := qc_len hq
  obtain ⟨m1, m2, m3⟩ := hm
  dsimp only at m1 m2 m3
  exact ⟨vote_mk (by rw [m1]; exact hk) (by rw [m2]; omega) (by rw [m3]; exact hc) (by rw [m3, m1]; exact hd), m2, hn⟩
theorem time_ok {t no : Int} (h : 1 ≤ t ∧ t ≤ 1000000) (h0 : 0 ≤ no ∧ no ≤ 30) : (⟨t, no⟩ : Stamp).okS := ⟨by dsimp only; omega, by dsimp only; omega, by dsimp only; omega, by dsimp only; omega⟩
theorem hear_valid {w : Voters} {no : Int} {b : Bid} {m : Vote} (h0 : 0 ≤ no ∧ no ≤ 30) (h1 : b.checkE w.weights w.need = 0) (h2 : m.checkE = 0) :
    (hearP w no b m).1.checkE w.weights w.need = 0 ∧ ∀ q, q ∈ (hearP w no b m).2.1 → q.checkE = 0 ∧ q.bid = no ∧ 0 ≤ q.node ∧ q.node < w.weights.length := by
  rcases hear_full (hear_noerr h0 h1 h2) with e | ⟨_, _, _, _, hl, h3⟩
  · rw [e]; exact ⟨h1, fun q hq => by simp at hq⟩
  · obtain ⟨q1, q2, q3, q4, q5⟩ := bid_ok h1
    have hd := bid_data h1
    have hn := vote_node h2
    have hs : (orU b.heard m.node.toNat).n < 2 ^ w.weights.length := or_sub q3 (by omega) (qc_len q1)
    have hb : (if b.phase = 1 then b.best.raw m.copy else b.best).checkE = 0 := by
      split
      · exact raw_ok q2 (vote_copy h2)
      · exact q2
    have hh : (heardP b m).checkE w.weights w.need = 0 := bid_mk q1 q4 q5 hd hb hs
    rcases h3 with e | ⟨_, e⟩
    · rw [e]; exact ⟨hh, fun q hq => by simp at hq⟩
    · rw [e]
      unfold onP
      by_cases hp : (heardP b m).phase = 2
      · rw [if_pos hp]
        exact ⟨bid_mk q1 q4 i33 hd hb hs, fun q hq => by simp at hq⟩
      · rw [if_neg hp]
        obtain ⟨b1, b2⟩ := copy_iff.1 hb
        have hv : (if (heardP b m).best.at_.time = 0 ∧ (heardP b m).best.at_.who = 0 then (heardP b m).own else (heardP b m).best.data).size ≤ 64 := by
          split
          · exact hd.1
          · exact b2
        exact ⟨bid_mk q1 q4 i23 ⟨hd.1, hv⟩ hb (Nat.two_pow_pos _), toAll_ok q1 h0 i34 (copy_iff.2 ⟨time_ok q4 h0, hv⟩) (.inr (by omega))⟩
theorem mem_set' {α : Type} {l : List α} {i : Nat} {x y : α} (h : y ∈ l.set i x) : y = x ∨ y ∈ l := (List.mem_or_eq_of_mem_set h).symm
theorem passP_eq {s : Synod} {v : Vote} (hv : v.checkE = 0) (hn : v.node < s.seats.length) (hb : v.bid < s.bids.length) :
    (∃ st, (v.kind = 1 ∨ v.kind = 3) ∧ s.seats[v.node.toNat]? = some st ∧ s.passP v = { s with seats := s.seats.set v.node.toNat (st.serveP v).1, votes := s.votes ++ (st.serveP v).2.1 }) ∨
    (∃ b, (v.kind = 2 ∨ v.kind = 4) ∧ s.bids[v.bid.toNat]? = some b ∧ s.passP v = { s with bids := s.bids.set v.bid.toNat (hearP s.voters v.bid b v).1, votes := s.votes ++ (hearP s.voters v.bid b v).2.1 }) := by
  have hr := vote_rng hv
  by_cases h : v.kind = 1 ∨ v.kind = 3
  · left
    have e : s.seats[v.node.toNat]? = some (s.seats[v.node.toNat]'(by omega)) := List.getElem?_eq_getElem (by omega)
    refine ⟨_, h, e, ?_⟩
    unfold Synod.passP; rw [if_pos h, e]
  · right
    have e : s.bids[v.bid.toNat]? = some (s.bids[v.bid.toNat]'(by omega)) := List.getElem?_eq_getElem (by omega)
    refine ⟨_, by omega, e, ?_⟩
    unfold Synod.passP; rw [if_neg h, e]
theorem Synod.Ok.away {s : Synod} (ok : s.Ok) (n : Nat) : (s.away n).Ok :=
  ⟨ok.q, ok.len, ok.seats, ok.few, ok.bids, by have := (List.eraseIdx_sublist s.votes n).length_le; have := ok.many; show (s.votes.eraseIdx n).length ≤ 200; omega, fun v hv => ok.votes v (erase_mem hv)⟩
theorem Synod.Ok.more {s : Synod} (ok : s.Ok) {l : List Vote} (hl : (s.votes ++ l).length ≤ 200) (h : ∀ q, q ∈ l → q.checkE = 0 ∧ q.node < s.seats.length ∧ q.bid < s.bids.length) : ({ s with votes := s.votes ++ l } : Synod).Ok :=
  ⟨ok.q, ok.len, ok.seats, ok.few, ok.bids, hl, fun v hv => (List.mem_append.1 hv).elim (ok.votes v) (h v)⟩
theorem Synod.Ok.passes {s : Synod} (ok : s.Ok) {v : Vote} (hv : v.checkE = 0) (hn : v.node < s.seats.length) (hb : v.bid < s.bids.length) (hm : (s.passP v).manyP.2 = 0) : (s.passP v).manyP.1.Ok := by
  have hr := vote_rng hv
  rw [(many_ok hm).1]
  have hl := (many_ok hm).2
  clear hm
  rcases passP_eq hv hn hb with ⟨st, _, h2, e⟩ | ⟨b, _, h2, e⟩
  · rw [e] at hl ⊢
    have h3 := serve_noerr (ok.seats st (List.mem_of_getElem? h2)) hv
    refine ⟨ok.q, (List.length_set ..).trans ok.len, fun x hx => ?_, ok.few, ok.bids, hl, fun q hq => ?_⟩
    · rcases mem_set' hx with rfl | hx
      · exact (serve_rises h3).2.2.1
      · exact ok.seats x hx
    · show q.checkE = 0 ∧ q.node < (s.seats.set _ _).length ∧ q.bid < s.bids.length
      rw [List.length_set]
      rcases List.mem_append.1 hq with hq | hq
      · exact ok.votes q hq
      · obtain ⟨a, b, c⟩ := serve_votes h3 q hq
        exact ⟨a, by omega, by omega⟩
  · rw [e] at hl ⊢
    have h3 := hear_valid (w := s.voters) hr.2.1 (ok.bids b (List.mem_of_getElem? h2)) hv
    refine ⟨ok.q, ok.len, ok.seats, by show (s.bids.set _ _).length ≤ 31; rw [List.length_set]; exact ok.few, fun x hx => ?_, hl, fun q hq => ?_⟩
    · rcases mem_set' hx with rfl | hx
      · exact h3.1
      · exact ok.bids x hx
    · show q.checkE = 0 ∧ q.node < s.seats.length ∧ q.bid < (s.bids.set _ _).length
      rw [List.length_set]
      rcases List.mem_append.1 hq with hq | hq
      · exact ok.votes q hq
      · obtain ⟨a, b, c, d⟩ := h3.2 q hq
        have := ok.len
        exact ⟨a, by omega, by omega⟩
theorem Synod.Ok.begins {s : Synod} (ok : s.Ok) {t : Int} {own : ByteArray} (h : (s.bidP t own).2 = 0) : (s.bidP t own).1.Ok := by
  unfold Synod.bidP at h ⊢
  by_cases h4 : s.bids.length = 31
  · rw [if_pos h4] at h; simp at h
  · rw [if_neg h4] at h ⊢
    by_cases h5 : (beginP s.voters s.bids.length t own).2.2 = 0
    · rw [if_neg (fun hh => hh h5)] at h ⊢
      rw [(many_ok h).1]
      have hl := (many_ok h).2
      clear h
      obtain ⟨a, b, c, d⟩ := begin_ok (v := s.voters) (no := s.bids.length) (time := t) (own := own) (b := (beginP s.voters s.bids.length t own).1) (l := (beginP s.voters s.bids.length t own).2.1) (Prod.ext rfl (Prod.ext rfl h5))
      have hf := ok.few
      have hc := bid_ok c
      rw [b] at hc
      refine ⟨ok.q, ok.len, ok.seats, ?_, fun x hx => ?_, hl, fun q hq => ?_⟩
      · show (s.bids ++ [_]).length ≤ 31; rw [List.length_append]; simp; omega
      · rcases List.mem_append.1 hx with hx | hx
        · exact ok.bids x hx
        · simp only [List.mem_singleton] at hx; subst hx; exact c
      · show q.checkE = 0 ∧ q.node < s.seats.length ∧ q.bid < (s.bids ++ [_]).length
        rw [List.length_append, List.length_singleton]
        rcases List.mem_append.1 hq with hq | hq
        · have := ok.votes q hq; exact ⟨this.1, this.2.1, by omega⟩
        · rw [d] at hq
          obtain ⟨k1, k2, k3, k4⟩ := toAll_ok ok.q ⟨a, by omega⟩ i14 (copy_iff.2 ⟨time_ok (no := s.bids.length) hc.2.2.2.1 ⟨a, by omega⟩, em64⟩) (.inl rfl) q hq
          have := ok.len
          exact ⟨k1, by omega, by omega⟩
    · rw [if_pos h5] at h; exact absurd h h5
theorem Synod.step_ok {s : Synod} (ok : s.Ok) {k n : Int} {d : ByteArray} (h : (s.stepP k n d).2 = 0) : (s.stepP k n d).1.Ok := by
  unfold Synod.stepP at h ⊢
  by_cases h1 : 3 ≤ k ∧ k ≤ 6
  · rw [if_neg (fun hh => hh h1)] at h ⊢
    by_cases h2 : k ≠ 6 ∧ d.size ≠ 0
    · rw [if_pos h2] at h; simp at h
    · rw [if_neg h2] at h ⊢
      by_cases h3 : k = 6
      · rw [if_pos h3] at h ⊢; exact ok.begins h
      · rw [if_neg h3] at h ⊢
        by_cases h4 : 0 ≤ n ∧ n < s.votes.length
        · rw [if_neg (fun hh => hh h4)] at h ⊢
          have hv : s.votes[n.toNat]? = some (s.votes[n.toNat]'(by omega)) := List.getElem?_eq_getElem (by omega)
          generalize s.votes[n.toNat]'(by omega) = v at hv
          have hmem : v ∈ s.votes := List.mem_of_getElem? hv
          obtain ⟨w1, w2, w3⟩ := ok.votes v hmem
          rw [hv] at h ⊢
          dsimp only at h ⊢
          by_cases h5 : k = 3
          · rw [if_pos h5] at h ⊢; exact (ok.away n.toNat).passes w1 w2 w3 h
          · rw [if_neg h5] at h ⊢
            by_cases h6 : k = 4
            · rw [if_pos h6] at h ⊢
              rw [(many_ok h).1]; exact ok.away _
            · rw [if_neg h6] at h ⊢
              rw [(many_ok h).1]
              refine ok.more (many_ok h).2 fun q hq => ?_
              simp only [List.mem_singleton] at hq; subst hq; exact ⟨w1, w2, w3⟩
        · rw [if_pos h4] at h; simp at h
  · rw [if_pos h1] at h; simp at h
def Synod.doP (s : Synod) (k n : Int) (d : ByteArray) : Synod × Int := if s.checkE = 0 then s.stepP k n d else (Synod.zero, s.checkE)
theorem Synod.doP_0 {s : Synod} {k n : Int} {d : ByteArray} (h : s.checkE = 0) : s.doP k n d = s.stepP k n d := if_pos h
theorem Synod.doP_n {s : Synod} {k n : Int} {d : ByteArray} (h : ¬ s.checkE = 0) : s.doP k n d = (Synod.zero, s.checkE) := if_neg h
theorem Synod.new_ok {v : Voters} (h : qcheckP v.weights v.need = 0) : (Synod.new v).Ok :=
  ⟨h, by simp [Synod.new], fun x hx => by simp only [Synod.new, List.mem_replicate] at hx; rw [hx.2]; decide, by simp [Synod.new], fun b hb => by simp [Synod.new] at hb, by simp [Synod.new], fun b hb => by simp [Synod.new] at hb⟩
end Go.Proofs.YtligepciannclaaDoor
set_option maxRecDepth 100000
set_option linter.unusedVariables false
set_option linter.unusedSimpArgs false
namespace Go.Proofs.YtligepciannclaaDoor
def Synod.runGo : Synod → List Step → Int → Synod × Int
  | s, [], n => (s, n)
  | s, a :: l, n => if (s.stepP a.kind a.n a.data).2 = 0 then runGo (s.stepP a.kind a.n a.data).1 l (n + 1) else runGo s l n
def Synod.runP (s : Synod) (l : List Step) : Synod × Int × Int :=
  if s.checkE = 0 then (if 200 < l.length then (Synod.zero, 0, 2) else ((s.runGo l 0).1, (s.runGo l 0).2, 0)) else (Synod.zero, 0, s.checkE)
theorem Synod.runP_n {s : Synod} {l : List Step} (h : ¬ s.checkE = 0) : s.runP l = (Synod.zero, 0, s.checkE) := if_neg h
theorem Synod.runP_2 {s : Synod} {l : List Step} (h : s.checkE = 0) (h2 : 200 < l.length) : s.runP l = (Synod.zero, 0, 2) := by unfold Synod.runP; rw [if_pos h, if_pos h2]
theorem Synod.runP_0 {s : Synod} {l : List Step} (h : s.checkE = 0) (h2 : ¬ 200 < l.length) : s.runP l = ((s.runGo l 0).1, (s.runGo l 0).2, 0) := by unfold Synod.runP; rw [if_pos h, if_neg h2]
theorem Synod.run_go : ∀ (l : List Step) {s : Synod} (n : Int), s.Ok → Runs s (s.runGo l n).1 ∧ (s.runGo l n).1.Ok
  | [], s, n, ok => ⟨.nil s, ok⟩
  | a :: l, s, n, ok => by
    unfold Synod.runGo
    by_cases h : (s.stepP a.kind a.n a.data).2 = 0
    · rw [if_pos h]
      have := Synod.run_go l (n + 1) (Synod.step_ok ok h)
      exact ⟨.step (step_nxt ok h) this.1, this.2⟩
    · rw [if_neg h]; exact Synod.run_go l n ok
end Go.Proofs.YtligepciannclaaDoor
set_option maxRecDepth 100000
set_option maxHeartbeats 4000000
set_option linter.unusedVariables false
set_option linter.unusedSimpArgs false
namespace Go.Proofs.YtligepciannclaaDoor
def Synod.newP (v : Voters) : Synod × Int := if qcheckP v.weights v.need = 0 then (Synod.new v, 0) else (Synod.zero, qcheckP v.weights v.need)
abbrev Synod.Big (s : Synod) : Prop := s.voters.weights.length ≤ 9223372036854775807 ∧ s.seats.length ≤ 9223372036854775807 ∧ s.bids.length ≤ 9223372036854775807 ∧ s.votes.length ≤ 9223372036854775807
theorem Synod.check_0 {s : Synod} (h : s.checkE = 0) : s.Ok := Synod.ok_iff.1 h
theorem qc_small {ws : List Int} {need : Int} (h : qcheckP ws need = 0) : ws.length ≤ 1000000 := by have := qc_len h; omega
section
variable (xs : List Int)
abbrev J0 : LS := [(4, .anyb), (3, .lst 1 (xs.map cI)), (0, .lst 1 (xs.map cI))]
abbrev J1 : LS := [(4, .v (.bool false)), (3, .lst 1 (xs.map cI)), (0, .lst 1 (xs.map cI))]
abbrev J2 : LS := [(6, .lst 1 (xs.map cI)), (5, .own 0 1 0 0), (0, .lst 1 (xs.map cI))]
end
theorem cloneI_fo (xs : List Int) (hx : xs.length ≤ 1000000) : Fn Tryd.prog 27 [.lst 1 (xs.map cI)] (.lst 1 (xs.map cI)) := by
  refine fn_walkW F27_ok (of_decide_eq_true (by kernel_rfl)) ?_
  refine srl 1 [0] ⟨[(0, .lst 1 (xs.map cI))], []⟩ ?_
  refine EL.seqG [0] (fun y => (y = ⟨[(0, .lst 1 (xs.map cI))], []⟩ ∧ ((List.isEmpty xs = true) ∨ (List.isEmpty xs = false)))) ?_ ?_
  intro IHJ1 HJ1
  refine srr 1 ⟨[(3, .lst 1 (xs.map cI)), (0, .lst 1 (xs.map cI))], []⟩ ?_
  rcases Bool.eq_false_or_eq_true (List.isEmpty xs) with h2 | h2
  try rw [h2]
  refine owo (.anyb) [] [] ⟨(J0 xs), []⟩ (opE_isn_any cI xs (.s 3) 1 false (by kernel_rfl) (by kernel_rfl) (.inl rfl) h2) ?_
  refine owl 0 [0, 4] ⟨[(4, .anyb), (0, .lst 1 (xs.map cI))], []⟩ ?_
  refine EL.condAny (by kernel_rfl) ?_ ?_
  refine srl 1 [2] ⟨[(2, .emp)], []⟩ ?_
  refine rtr ?_
  refine ⟨.inr rfl, .emp, by kernel_rfl, Ale.trans (b := .lst 1 []) (Ale.emp) (Ale.of_eq ?_)⟩
  rotate_left
  refine EL.skip ?_
  exact thenL_norm (HJ1.get ⟨by kernel_rfl, (Or.inl (by first | exact g2 | exact h2 | simp_all | omega))⟩)
  try rw [h2]
  refine owo (.v (.bool false)) [] [] ⟨(J1 xs), []⟩ (opE_isn_ne cI xs (.s 3) 1 false (by kernel_rfl) (by kernel_rfl) (.inl rfl) h2) ?_
  refine owl 0 [0, 4] ⟨[(4, .v (.bool false)), (0, .lst 1 (xs.map cI))], []⟩ ?_
  refine cnF ?_
  refine EL.skip ?_
  exact thenL_norm (HJ1.get ⟨by kernel_rfl, (Or.inr (by first | exact g2 | exact h2 | simp_all | omega))⟩)
  rintro _ (⟨rfl, hD3⟩)
  refine srr 2 ⟨(J2 xs), [some ⟨1, []⟩]⟩ ?_
  refine owo (.own 1 1 0 (List.length xs)) [(0, none), (1, some ⟨1, (xs.map cI)⟩)] [0] ⟨(7, .own 1 1 0 (List.length xs)) :: (J2 xs), [none, some ⟨1, (xs.map cI)⟩]⟩ (opE_appO cI ([] : List Int) xs (.s 5) (.s 6) 1 8 0 (.lst 1 (xs.map cI)) _ (by kernel_rfl) (by kernel_rfl) rfl (by kernel_rfl) rfl .lst (by simp; omega)) ?_
  refine owl 1 [2] ⟨[(2, .own 1 1 0 (List.length xs))], [none, some ⟨1, (xs.map cI)⟩]⟩ ?_
  refine EL.ret ?_
  refine ⟨.inr rfl, .lst 1 (xs.map cI), run_snap (r0 := .own 1 1 0 (List.length xs)) (by kernel_rfl) (snapA_map cI xs (by kernel_rfl) (by intro y; kernel_rfl) (by simp)), Ale.of_eq ?_⟩
  rotate_left
  all_goals (first | rfl | (have hx0 : xs = [] := List.isEmpty_iff.1 ‹_›; subst hx0; rfl))
section
variable (xs : List Seat)
abbrev J3 : LS := [(4, .anyb), (3, .lst 5 (xs.map Seat.cs)), (0, .lst 5 (xs.map Seat.cs))]
abbrev J4 : LS := [(4, .v (.bool false)), (3, .lst 5 (xs.map Seat.cs)), (0, .lst 5 (xs.map Seat.cs))]
abbrev J5 : LS := [(6, .lst 5 (xs.map Seat.cs)), (5, .own 0 5 0 0), (0, .lst 5 (xs.map Seat.cs))]
end
theorem cloneS_fo (xs : List Seat) (hx : xs.length ≤ 1000000) : Fo Tryd.prog 68 [.lst 5 (xs.map Seat.cs)] 5 (xs.map Seat.cs) := by
  refine fo_of ?_
  rw [List.length_map]
  refine fi_walkW (m := []) (m' := [some ⟨5, (xs.map Seat.cs)⟩]) F68_ok (of_decide_eq_true (by kernel_rfl)) ?_
  refine srl 1 [0] ⟨[(0, .lst 5 (xs.map Seat.cs))], []⟩ ?_
  refine EL.seqG [0] (fun y => (y = ⟨[(0, .lst 5 (xs.map Seat.cs))], []⟩ ∧ ((List.isEmpty xs = true) ∨ (List.isEmpty xs = false)))) ?_ ?_
  intro IHJ1 HJ1
  refine srr 1 ⟨[(3, .lst 5 (xs.map Seat.cs)), (0, .lst 5 (xs.map Seat.cs))], []⟩ ?_
  rcases Bool.eq_false_or_eq_true (List.isEmpty xs) with h2 | h2
  try rw [h2]
  refine owo (.anyb) [] [] ⟨(J3 xs), []⟩ (opE_isn_any Seat.cs xs (.s 3) 5 false (by kernel_rfl) (by kernel_rfl) (.inl rfl) h2) ?_
  refine owl 0 [0, 4] ⟨[(4, .anyb), (0, .lst 5 (xs.map Seat.cs))], []⟩ ?_
  refine EL.condAny (by kernel_rfl) ?_ ?_
  refine srl 1 [2] ⟨[(2, .emp)], []⟩ ?_
  refine rtr ?_
  refine ⟨.inr rfl, ⟨[(2, .own 0 5 0 (List.length xs))], [some ⟨5, (xs.map Seat.cs)⟩]⟩, norm_le (live := [2]) (src := [.new 5]) (es := [(2, 0)]) (by rw [List.isEmpty_iff.1 h2]; kernel_rfl) trivial, by kernel_rfl, rfl⟩
  refine EL.skip ?_
  exact thenL_norm (HJ1.get ⟨by kernel_rfl, (Or.inl (by first | exact g2 | exact h2 | simp_all | omega))⟩)
  try rw [h2]
  refine owo (.v (.bool false)) [] [] ⟨(J4 xs), []⟩ (opE_isn_ne Seat.cs xs (.s 3) 5 false (by kernel_rfl) (by kernel_rfl) (.inl rfl) h2) ?_
  refine owl 0 [0, 4] ⟨[(4, .v (.bool false)), (0, .lst 5 (xs.map Seat.cs))], []⟩ ?_
  refine cnF ?_
  refine EL.skip ?_
  exact thenL_norm (HJ1.get ⟨by kernel_rfl, (Or.inr (by first | exact g2 | exact h2 | simp_all | omega))⟩)
  rintro _ (⟨rfl, hD3⟩)
  refine srr 2 ⟨(J5 xs), [some ⟨5, []⟩]⟩ ?_
  refine owo (.own 1 5 0 (List.length xs)) [(0, none), (1, some ⟨5, (xs.map Seat.cs)⟩)] [0] ⟨(7, .own 1 5 0 (List.length xs)) :: (J5 xs), [none, some ⟨5, (xs.map Seat.cs)⟩]⟩ (opE_appO Seat.cs ([] : List Seat) xs (.s 5) (.s 6) 5 48 0 (.lst 5 (xs.map Seat.cs)) _ (by kernel_rfl) (by kernel_rfl) rfl (by kernel_rfl) rfl .lst (by simp; omega)) ?_
  refine owl 1 [2] ⟨[(2, .own 1 5 0 (List.length xs))], [none, some ⟨5, (xs.map Seat.cs)⟩]⟩ ?_
  refine EL.ret ?_
  refine ⟨.inr rfl, ⟨[(2, .own 0 5 0 (List.length xs))], [some ⟨5, (xs.map Seat.cs)⟩]⟩, norm_le (live := [2]) (src := [.old 1 true]) (es := []) (by kernel_rfl) ⟨pq 5 Seat.cs xs, trivial⟩, by kernel_rfl, rfl⟩
section
variable (xs : List Bid)
abbrev J6 : LS := [(4, .anyb), (3, .lst 8 (xs.map Bid.cs)), (0, .lst 8 (xs.map Bid.cs))]
abbrev J7 : LS := [(4, .v (.bool false)), (3, .lst 8 (xs.map Bid.cs)), (0, .lst 8 (xs.map Bid.cs))]
abbrev J8 : LS := [(6, .lst 8 (xs.map Bid.cs)), (5, .own 0 8 0 0), (0, .lst 8 (xs.map Bid.cs))]
end
theorem cloneB_fo (xs : List Bid) (hx : xs.length ≤ 1000000) : Fo Tryd.prog 69 [.lst 8 (xs.map Bid.cs)] 8 (xs.map Bid.cs) := by
  refine fo_of ?_
  rw [List.length_map]
  refine fi_walkW (m := []) (m' := [some ⟨8, (xs.map Bid.cs)⟩]) F69_ok (of_decide_eq_true (by kernel_rfl)) ?_
  refine srl 1 [0] ⟨[(0, .lst 8 (xs.map Bid.cs))], []⟩ ?_
  refine EL.seqG [0] (fun y => (y = ⟨[(0, .lst 8 (xs.map Bid.cs))], []⟩ ∧ ((List.isEmpty xs = true) ∨ (List.isEmpty xs = false)))) ?_ ?_
  intro IHJ1 HJ1
  refine srr 1 ⟨[(3, .lst 8 (xs.map Bid.cs)), (0, .lst 8 (xs.map Bid.cs))], []⟩ ?_
  rcases Bool.eq_false_or_eq_true (List.isEmpty xs) with h2 | h2
  try rw [h2]
  refine owo (.anyb) [] [] ⟨(J6 xs), []⟩ (opE_isn_any Bid.cs xs (.s 3) 8 false (by kernel_rfl) (by kernel_rfl) (.inl rfl) h2) ?_
  refine owl 0 [0, 4] ⟨[(4, .anyb), (0, .lst 8 (xs.map Bid.cs))], []⟩ ?_
  refine EL.condAny (by kernel_rfl) ?_ ?_
  refine srl 1 [2] ⟨[(2, .emp)], []⟩ ?_
  refine rtr ?_
  refine ⟨.inr rfl, ⟨[(2, .own 0 8 0 (List.length xs))], [some ⟨8, (xs.map Bid.cs)⟩]⟩, norm_le (live := [2]) (src := [.new 8]) (es := [(2, 0)]) (by rw [List.isEmpty_iff.1 h2]; kernel_rfl) trivial, by kernel_rfl, rfl⟩
  refine EL.skip ?_
  exact thenL_norm (HJ1.get ⟨by kernel_rfl, (Or.inl (by first | exact g2 | exact h2 | simp_all | omega))⟩)
  try rw [h2]
  refine owo (.v (.bool false)) [] [] ⟨(J7 xs), []⟩ (opE_isn_ne Bid.cs xs (.s 3) 8 false (by kernel_rfl) (by kernel_rfl) (.inl rfl) h2) ?_
  refine owl 0 [0, 4] ⟨[(4, .v (.bool false)), (0, .lst 8 (xs.map Bid.cs))], []⟩ ?_
  refine cnF ?_
  refine EL.skip ?_
  exact thenL_norm (HJ1.get ⟨by kernel_rfl, (Or.inr (by first | exact g2 | exact h2 | simp_all | omega))⟩)
  rintro _ (⟨rfl, hD3⟩)
  refine srr 2 ⟨(J8 xs), [some ⟨8, []⟩]⟩ ?_
  refine owo (.own 1 8 0 (List.length xs)) [(0, none), (1, some ⟨8, (xs.map Bid.cs)⟩)] [0] ⟨(7, .own 1 8 0 (List.length xs)) :: (J8 xs), [none, some ⟨8, (xs.map Bid.cs)⟩]⟩ (opE_appO Bid.cs ([] : List Bid) xs (.s 5) (.s 6) 8 88 0 (.lst 8 (xs.map Bid.cs)) _ (by kernel_rfl) (by kernel_rfl) rfl (by kernel_rfl) rfl .lst (by simp; omega)) ?_
  refine owl 1 [2] ⟨[(2, .own 1 8 0 (List.length xs))], [none, some ⟨8, (xs.map Bid.cs)⟩]⟩ ?_
  refine EL.ret ?_
  refine ⟨.inr rfl, ⟨[(2, .own 0 8 0 (List.length xs))], [some ⟨8, (xs.map Bid.cs)⟩]⟩, norm_le (live := [2]) (src := [.old 1 true]) (es := []) (by kernel_rfl) ⟨pq 8 Bid.cs xs, trivial⟩, by kernel_rfl, rfl⟩
section
variable (xs : List Vote)
abbrev J9 : LS := [(4, .anyb), (3, .lst 6 (xs.map Vote.cs)), (0, .lst 6 (xs.map Vote.cs))]
abbrev J10 : LS := [(4, .v (.bool false)), (3, .lst 6 (xs.map Vote.cs)), (0, .lst 6 (xs.map Vote.cs))]
abbrev J11 : LS := [(6, .lst 6 (xs.map Vote.cs)), (5, .own 0 6 0 0), (0, .lst 6 (xs.map Vote.cs))]
end
theorem cloneV_fo (xs : List Vote) (hx : xs.length ≤ 1000000) : Fo Tryd.prog 70 [.lst 6 (xs.map Vote.cs)] 6 (xs.map Vote.cs) := by
  refine fo_of ?_
  rw [List.length_map]
  refine fi_walkW (m := []) (m' := [some ⟨6, (xs.map Vote.cs)⟩]) F70_ok (of_decide_eq_true (by kernel_rfl)) ?_
  refine srl 1 [0] ⟨[(0, .lst 6 (xs.map Vote.cs))], []⟩ ?_
  refine EL.seqG [0] (fun y => (y = ⟨[(0, .lst 6 (xs.map Vote.cs))], []⟩ ∧ ((List.isEmpty xs = true) ∨ (List.isEmpty xs = false)))) ?_ ?_
  intro IHJ1 HJ1
  refine srr 1 ⟨[(3, .lst 6 (xs.map Vote.cs)), (0, .lst 6 (xs.map Vote.cs))], []⟩ ?_
  rcases Bool.eq_false_or_eq_true (List.isEmpty xs) with h2 | h2
  try rw [h2]
  refine owo (.anyb) [] [] ⟨(J9 xs), []⟩ (opE_isn_any Vote.cs xs (.s 3) 6 false (by kernel_rfl) (by kernel_rfl) (.inl rfl) h2) ?_
  refine owl 0 [0, 4] ⟨[(4, .anyb), (0, .lst 6 (xs.map Vote.cs))], []⟩ ?_
  refine EL.condAny (by kernel_rfl) ?_ ?_
  refine srl 1 [2] ⟨[(2, .emp)], []⟩ ?_
  refine rtr ?_
  refine ⟨.inr rfl, ⟨[(2, .own 0 6 0 (List.length xs))], [some ⟨6, (xs.map Vote.cs)⟩]⟩, norm_le (live := [2]) (src := [.new 6]) (es := [(2, 0)]) (by rw [List.isEmpty_iff.1 h2]; kernel_rfl) trivial, by kernel_rfl, rfl⟩
  refine EL.skip ?_
  exact thenL_norm (HJ1.get ⟨by kernel_rfl, (Or.inl (by first | exact g2 | exact h2 | simp_all | omega))⟩)
  try rw [h2]
  refine owo (.v (.bool false)) [] [] ⟨(J10 xs), []⟩ (opE_isn_ne Vote.cs xs (.s 3) 6 false (by kernel_rfl) (by kernel_rfl) (.inl rfl) h2) ?_
  refine owl 0 [0, 4] ⟨[(4, .v (.bool false)), (0, .lst 6 (xs.map Vote.cs))], []⟩ ?_
  refine cnF ?_
  refine EL.skip ?_
  exact thenL_norm (HJ1.get ⟨by kernel_rfl, (Or.inr (by first | exact g2 | exact h2 | simp_all | omega))⟩)
  rintro _ (⟨rfl, hD3⟩)
  refine srr 2 ⟨(J11 xs), [some ⟨6, []⟩]⟩ ?_
  refine owo (.own 1 6 0 (List.length xs)) [(0, none), (1, some ⟨6, (xs.map Vote.cs)⟩)] [0] ⟨(7, .own 1 6 0 (List.length xs)) :: (J11 xs), [none, some ⟨6, (xs.map Vote.cs)⟩]⟩ (opE_appO Vote.cs ([] : List Vote) xs (.s 5) (.s 6) 6 56 0 (.lst 6 (xs.map Vote.cs)) _ (by kernel_rfl) (by kernel_rfl) rfl (by kernel_rfl) rfl .lst (by simp; omega)) ?_
  refine owl 1 [2] ⟨[(2, .own 1 6 0 (List.length xs))], [none, some ⟨6, (xs.map Vote.cs)⟩]⟩ ?_
  refine EL.ret ?_
  refine ⟨.inr rfl, ⟨[(2, .own 0 6 0 (List.length xs))], [some ⟨6, (xs.map Vote.cs)⟩]⟩, norm_le (live := [2]) (src := [.old 1 true]) (es := []) (by kernel_rfl) ⟨pq 6 Vote.cs xs, trivial⟩, by kernel_rfl, rfl⟩
section
variable (v : Voters)
abbrev J12 : LB := [some ⟨2, [[.lst 1 (v.weights.map cI), VI v.need]]⟩, some ⟨5, [[.emp, VI 0, .emp, .emp, .emp]]⟩]
abbrev J13 : LS := [(8, VI v.need), (7, .ref 0 2 0 1), (6, .lst 1 (v.weights.map cI)), (5, .ref 0 2 0 0), (2, .ref 1 5 0 0), (1, .ref 0 2 0 0)]
abbrev J14 : LS := [(4, VI (qcheckP v.weights v.need)), (2, .ref 1 5 0 0), (1, .ref 0 2 0 0)]
abbrev J15 : LS := (15, .lst 1 (v.weights.map cI)) :: (14, .ref 0 2 0 0) :: (11, .v (.bool false)) :: (J14 v)
abbrev J16 : LS := (21, .lst 1 (v.weights.map cI)) :: (20, .ref 0 2 0 0) :: (19, .agg [.lst 1 (v.weights.map cI), VI v.need]) :: (18, VI v.need) :: (17, .ref 0 2 0 1) :: (16, .lst 1 (v.weights.map cI)) :: (J15 v)
abbrev J17 : OB := some ⟨5, ((List.replicate (Int.toNat (List.length v.weights : Int)) ((⟨(⟨0, 0⟩ : Stamp), (⟨(⟨0, 0⟩ : Stamp), ⟨#[]⟩⟩ : Copy)⟩ : Seat) : Seat)).map Seat.cs)⟩
abbrev J18 : LB := [some ⟨2, [[.lst 1 (v.weights.map cI), VI v.need]]⟩, some ⟨5, [[.emp, VI 0, .emp, .emp, .emp]]⟩, (J17 v)]
abbrev J19 : LS := (23, .own 2 5 0 (List.length (List.replicate (Int.toNat (List.length v.weights : Int)) ((⟨(⟨0, 0⟩ : Stamp), (⟨(⟨0, 0⟩ : Stamp), ⟨#[]⟩⟩ : Copy)⟩ : Seat) : Seat)))) :: (22, VI (List.length v.weights : Int)) :: (J16 v)
abbrev J20 : OB := some ⟨5, [[.lst 1 (v.weights.map cI), VI v.need, .own 2 5 0 (List.length (List.replicate (Int.toNat (List.length v.weights : Int)) ((⟨(⟨0, 0⟩ : Stamp), (⟨(⟨0, 0⟩ : Stamp), ⟨#[]⟩⟩ : Copy)⟩ : Seat) : Seat))), .emp, .emp]]⟩
abbrev J21 : LB := [some ⟨2, [[.lst 1 (v.weights.map cI), VI v.need]]⟩, (J20 v), (J17 v)]
abbrev J22 : AV := .agg [.lst 1 (v.weights.map cI), VI v.need, .lst 5 ((List.replicate (Int.toNat (List.length v.weights : Int)) ((⟨(⟨0, 0⟩ : Stamp), (⟨(⟨0, 0⟩ : Stamp), ⟨#[]⟩⟩ : Copy)⟩ : Seat) : Seat)).map Seat.cs), .lst 8 [], .lst 6 []]
abbrev J23 : AV := .agg [.lst 1 (v.weights.map cI), VI v.need, .own 2 5 0 (List.length (List.replicate (Int.toNat (List.length v.weights : Int)) ((⟨(⟨0, 0⟩ : Stamp), (⟨(⟨0, 0⟩ : Stamp), ⟨#[]⟩⟩ : Copy)⟩ : Seat) : Seat))), .emp, .emp]
abbrev J24 : AV := .agg [.lst 1 (v.weights.map cI), VI v.need, .lst 5 ((List.replicate (Int.toNat (List.length v.weights : Int)) ((⟨(⟨0, 0⟩ : Stamp), (⟨(⟨0, 0⟩ : Stamp), ⟨#[]⟩⟩ : Copy)⟩ : Seat) : Seat)).map Seat.cs), .emp, .emp]
end
theorem new_fn (v : Voters) (hx : v.weights.length ≤ 9223372036854775807) : Fn Tryd.prog 12 [.agg [.lst 1 (v.weights.map cI), VI v.need]] (.tup [.agg [.lst 1 (((((Synod.newP v).1).voters).weights).map cI), VI ((((Synod.newP v).1).voters).need), .lst 5 ((((Synod.newP v).1).seats).map Seat.cs), .lst 8 ((((Synod.newP v).1).bids).map Bid.cs), .lst 6 ((((Synod.newP v).1).votes).map Vote.cs)], VI ((Synod.newP v).2)]) := by
  refine fn_walkW F12_ok (of_decide_eq_true (by kernel_rfl)) ?_
  refine srl 3 [1, 2] ⟨[(2, .ref 1 5 0 0), (1, .ref 0 2 0 0)], (J12 v)⟩ ?_
  refine EL.seq ?_
  refine srr 4 ⟨(J13 v), (J12 v)⟩ ?_
  refine owf [.lst 1 (v.weights.map cI), VI v.need] ⟨(9, VI (qcheckP v.weights v.need)) :: (J13 v), (J12 v)⟩ F26_call (qcheck_fn v.weights v.need (by first | omega | assumption | exact hx.1)) ?_
  refine owl 1 [1, 2, 4] ⟨(J14 v), (J12 v)⟩ ?_
  refine srl 2 [1, 2, 4, 11] ⟨(11, .v (.bool ((qcheckP v.weights v.need) != 0))) :: (J14 v), (J12 v)⟩ ?_
  rcases Bool.eq_false_or_eq_true (((qcheckP v.weights v.need) != 0)) with h1 | h1
  rw [h1]
  have g1 : ¬ ((qcheckP v.weights v.need) = 0) := by simpa using h1
  refine cnT ?_
  refine srl 4 [2, 3] ⟨[(3, VI (qcheckP v.weights v.need)), (2, .ref 1 5 0 0)], (J12 v)⟩ ?_
  refine rtr ?_
  refine ⟨.inr rfl, .tup [.agg [.emp, VI 0, .emp, .emp, .emp], VI (qcheckP v.weights v.need)], by kernel_rfl, Ale.trans (b := .tup [.agg [.lst 1 [], VI 0, .lst 5 [], .lst 8 [], .lst 6 []], VI (qcheckP v.weights v.need)]) (Ale.tup (.cons (Ale.agg (.cons (Ale.emp) (.cons (Ale.refl) (.cons (Ale.emp) (.cons (Ale.emp) (.cons (Ale.emp) (.nil))))))) (.cons (Ale.refl) (.nil)))) (Ale.of_eq ?_)⟩
  rotate_left
  rw [h1]
  have g1 : ((qcheckP v.weights v.need) = 0) := by simpa using h1
  refine cnF ?_
  refine skn ?_
  refine sdr 2 ⟨(J15 v), (J12 v)⟩ ?_
  refine dwf [.lst 1 (v.weights.map cI)] ⟨(16, .lst 1 (v.weights.map cI)) :: (J15 v), (J12 v)⟩ F27_call (cloneI_fo v.weights (by first | omega | exact qc_small (by assumption))) ?_
  refine dwr 5 ⟨(J16 v), (J12 v)⟩ ?_
  refine dwo (VI (List.length v.weights : Int)) [] [] ⟨(22, VI (List.length v.weights : Int)) :: (J16 v), (J12 v)⟩ (opE_len cI v.weights (.s 21) 1 (by kernel_rfl) (by kernel_rfl) (.inl rfl)) ?_
  refine dwo (.own 2 5 0 (List.length (List.replicate (Int.toNat (List.length v.weights : Int)) ((⟨(⟨0, 0⟩ : Stamp), (⟨(⟨0, 0⟩ : Stamp), ⟨#[]⟩⟩ : Copy)⟩ : Seat) : Seat)))) [(2, some ⟨5, ((List.replicate (Int.toNat (List.length v.weights : Int)) ((⟨(⟨0, 0⟩ : Stamp), (⟨(⟨0, 0⟩ : Stamp), ⟨#[]⟩⟩ : Copy)⟩ : Seat) : Seat)).map Seat.cs)⟩)] [] ⟨(J19 v), (J18 v)⟩ (opE_msl Seat.cs ((⟨(⟨0, 0⟩ : Stamp), (⟨(⟨0, 0⟩ : Stamp), ⟨#[]⟩⟩ : Copy)⟩ : Seat) : Seat) 5 48 [VI 0, VI 0, VI 0, VI 0, .v (.string (⟨#[]⟩))] (.s 22) (.s 22) .i64 .i64 (List.length v.weights : Int) (by kernel_rfl) (by kernel_rfl) rfl rfl (by kernel_rfl) ⟨by omega, by have := qc_len (ws := v.weights) (by assumption); omega⟩) ?_
  refine dwl 3 [2, 3] ⟨[(3, VI 0), (2, .ref 1 5 0 0)], (J21 v)⟩ ?_
  refine EL.ret ?_
  refine ⟨.inr rfl, .tup [(J24 v), VI 0], run_snap (r0 := .tup [(J23 v), VI 0]) (by kernel_rfl) (snapR_tup (snapAs_cons (snapA_agg (snapL_cons (by kernel_rfl) (snapL_cons (by kernel_rfl) (snapL_cons (smp Seat.cs (List.replicate (Int.toNat (List.length v.weights : Int)) ((⟨(⟨0, 0⟩ : Stamp), (⟨(⟨0, 0⟩ : Stamp), ⟨#[]⟩⟩ : Copy)⟩ : Seat) : Seat))) (snapL_cons (by kernel_rfl) (snapL_cons (by kernel_rfl) (rfl))))))) (snapAs_cons (by kernel_rfl) (snapAs_nil)))), Ale.trans (b := .tup [(J22 v), VI 0]) (Ale.tup (.cons (Ale.agg (.cons (Ale.refl) (.cons (Ale.refl) (.cons (Ale.refl) (.cons (Ale.emp) (.cons (Ale.emp) (.nil))))))) (.cons (Ale.refl) (.nil)))) (Ale.of_eq ?_)⟩
  rotate_left
  all_goals (first | (simp [Synod.newP, Synod.new, Synod.zero, Seat.zero, *]; done) | (simp_all [Synod.newP, Synod.new, Synod.zero, Seat.zero]; done))
section
variable (a3 : Seat) (k : Nat) (xs : List Seat)
abbrev J25 : LS := [(8, .lst 5 (xs.map Seat.cs)), (0, .lst 5 (xs.map Seat.cs)), (1, .fn 39 [])]
abbrev J26 : LS := [(10, VI 0), (9, VI (List.length xs : Int)), (8, .lst 5 (xs.map Seat.cs)), (1, .fn 39 [])]
abbrev J27 : LS := [(1, .fn 39 []), (8, .lst 5 (xs.map Seat.cs)), (9, VI (List.length xs : Int)), (10, VI (k : Int))]
abbrev J28 : LS := (12, .pim [VI a3.promised.time, VI a3.promised.who, VI a3.kept.at_.time, VI a3.kept.at_.who, .v (.string a3.kept.data)] 0) :: (11, .v (.bool true)) :: (J27 k xs)
abbrev J29 : OB := some ⟨5, [[VI a3.promised.time, VI a3.promised.who, VI a3.kept.at_.time, VI a3.kept.at_.who, .v (.string a3.kept.data)]]⟩
abbrev J30 : AV := .agg [VI a3.promised.time, VI a3.promised.who, VI a3.kept.at_.time, VI a3.kept.at_.who, .v (.string a3.kept.data)]
abbrev J31 : LS := (15, (J30 a3)) :: (14, .fn 39 []) :: (6, .ref 0 5 0 0) :: (J27 k xs)
abbrev J32 : LS := [(18, .v (.bool false)), (7, VI a3.checkE), (1, .fn 39 []), (8, .lst 5 (xs.map Seat.cs)), (9, VI (List.length xs : Int))]
abbrev J33 : LS := (10, VI ((k : Int) + 1)) :: (20, VI ((k : Int) + 1)) :: (J32 a3 xs)
end
theorem firstS_fn (xs : List Seat) (hx : xs.length ≤ 9223372036854775807) : Fn Tryd.prog 38 [.lst 5 (xs.map Seat.cs), .fn 39 []] (VI (firstE (Seat.checkE) xs)) := by
  refine fn_walkW F38_ok (of_decide_eq_true (by kernel_rfl)) ?_
  refine srl 1 [0, 1] ⟨[(0, .lst 5 (xs.map Seat.cs)), (1, .fn 39 [])], []⟩ ?_
  refine EL.seq ?_
  refine srr 1 ⟨(J25 xs), []⟩ ?_
  refine owo (VI (List.length xs : Int)) [] [] ⟨(9, VI (List.length xs : Int)) :: (J25 xs), []⟩ (opE_len Seat.cs xs (.s 8) 5 (by kernel_rfl) (by kernel_rfl) (.inl rfl)) ?_
  refine owl 1 [1, 8, 9, 10] ⟨(J26 xs), []⟩ ?_
  refine EL.block ?_
  refine EL.loopN (fun mM xX => ∃ (k : Nat), mM = xs.length - k ∧ (k ≤ xs.length ∧ firstE (Seat.checkE) xs = firstE (Seat.checkE) (xs.drop k)) ∧ xX = ⟨(J27 k xs), []⟩) (y := (fun (k : Nat) => (⟨(J27 k xs), []⟩ : L3)) 0) [1, 8, 9, 10] [] [] (by kernel_rfl) trivial ⟨0, rfl, by simp, rfl⟩ ?_
  rintro _ _ ⟨k, rfl, hI1, rfl⟩
  obtain ⟨hk, hs⟩ := hI1
  refine srl 1 [1, 8, 9, 10, 11] ⟨(11, .v (.bool (decide ((k : Int) < (List.length xs : Int))))) :: (J27 k xs), []⟩ ?_
  refine EL.seq ?_
  rcases Bool.eq_false_or_eq_true (decide ((k : Int) < (List.length xs : Int))) with h2 | h2
  rw [h2]
  have g2 := of_decide_eq_true h2
  have n2 : ((k) < (List.length xs)) := by omega
  refine cnT ?_
  refine skn ?_
  refine EL.seq ?_
  refine EL.block ?_
  refine EL.sreg ?_
  obtain ⟨a3, ha3⟩ : ∃ y, xs[((k : Int) : Int).toNat]? = some y := idx_ex ⟨by omega, by omega⟩
  have iha3 : xs[k]? = some a3 := by simpa using ha3
  have dha3 := drop_get iha3
  refine owo (.pim [VI a3.promised.time, VI a3.promised.who, VI a3.kept.at_.time, VI a3.kept.at_.who, .v (.string a3.kept.data)] 0) [] [] ⟨(J28 a3 k xs), []⟩ (opE_iad Seat.cs xs (.s 8) (.s 10) 5 .i64 (k : Int) a3 (by kernel_rfl) (by kernel_rfl) (.inl rfl) rfl (by omega) ha3) ?_
  refine owl 3 [1, 6, 8, 9, 10] ⟨(6, .ref 0 5 0 0) :: (J27 k xs), [(J29 a3)]⟩ ?_
  refine srr 2 ⟨(J31 a3 k xs), [(J29 a3)]⟩ ?_
  refine owf [(J30 a3)] ⟨(16, VI a3.checkE) :: (J31 a3 k xs), [(J29 a3)]⟩ F39_call (secheck_fn a3) ?_
  refine owl 1 [1, 7, 8, 9, 10] ⟨(7, VI a3.checkE) :: (J27 k xs), [(J29 a3)]⟩ ?_
  refine srl 2 [1, 7, 8, 9, 10, 18] ⟨(18, .v (.bool (a3.checkE != 0))) :: (7, VI a3.checkE) :: (J27 k xs), [(J29 a3)]⟩ ?_
  rcases Bool.eq_false_or_eq_true ((a3.checkE != 0)) with h4 | h4
  rw [h4]
  have g4 : ¬ (a3.checkE = 0) := by simpa using h4
  refine cnT ?_
  refine srl 2 [4] ⟨[(4, VI a3.checkE)], [(J29 a3)]⟩ ?_
  refine EL.ret ?_
  refine inBlk_ret ?_
  refine thenL_ret ?_
  refine thenL_ret ?_
  refine inBlk_ret ?_
  refine thenL_ret ?_
  refine ⟨.inr rfl, VI a3.checkE, by kernel_rfl, Ale.of_eq ?_⟩
  rotate_left
  rw [h4]
  have g4 : (a3.checkE = 0) := by simpa using h4
  refine cnF ?_
  refine EL.skip ?_
  refine inBlk_norm ?_
  refine thenL_norm ?_
  refine EL.reg0 ?_
  refine owr 2 ⟨(10, VI (IntKind.i64.wrap ((k : Int) + 1))) :: (20, VI (IntKind.i64.wrap ((k : Int) + 1))) :: (J32 a3 xs), [(J29 a3)]⟩ ?_
  have e5 : IntKind.i64.wrap ((k : Int) + 1) = (k : Int) + 1 := wr64 (by omega)
  rw [e5]
  refine owe 0 ⟨(J33 a3 k xs), [(J29 a3)]⟩ ?_
  refine thenL_norm ?_
  refine round_end (live := [1, 8, 9, 10]) (src := []) (es := []) (y := (fun (k : Nat) => (⟨(J27 k xs), []⟩ : L3)) (k + 1)) ?_ trivial ?_ ⟨(k + 1), rfl, ?_, rfl⟩
  kernel_rfl
  omega
  focus (refine ⟨by omega, ?_⟩; rw [hs]; simp [firstE, *])
  rw [h2]
  have g2 := of_decide_eq_false h2
  have n2 : ¬ ((k) < (List.length xs)) := by omega
  refine cnF ?_
  refine EL.exit ?_
  refine thenL_exit ?_
  refine thenL_exit ?_
  refine inBlk_hit ?_
  refine thenL_norm ?_
  refine srl 1 [4] ⟨[(4, VI 0)], []⟩ ?_
  refine EL.ret ?_
  refine ⟨.inr rfl, VI 0, by kernel_rfl, Ale.of_eq ?_⟩
  rotate_left
  all_goals ((refine congrArg (fun n => VI n) ?_; rw [hs]; first | (rw [List.drop_eq_nil_of_le (by omega)]; rfl) | (simp [firstE, *]; done)))
section
variable (b : Bid) (s : Synod)
abbrev J34 : OB := some ⟨8, [[VI b.time, VI b.phase, .v (.string b.own), .v (.string b.value), VI b.best.at_.time, VI b.best.at_.who, .v (.string b.best.data), .v (.int .u64 (b.heard.n : Int))]]⟩
abbrev J35 : AV := .agg [VI b.time, VI b.phase, .v (.string b.own), .v (.string b.value), VI b.best.at_.time, VI b.best.at_.who, .v (.string b.best.data), .v (.int .u64 (b.heard.n : Int))]
abbrev J36 : LS := [(6, (J35 b)), (5, .agg [.lst 1 (s.voters.weights.map cI), VI s.voters.need]), (4, .pim [.lst 1 (s.voters.weights.map cI), VI s.voters.need, .lst 5 (s.seats.map Seat.cs), .lst 8 (s.bids.map Bid.cs), .lst 6 (s.votes.map Vote.cs)] 0), (2, .ref 0 8 0 0), (1, .pim [.lst 1 (s.voters.weights.map cI), VI s.voters.need, .lst 5 (s.seats.map Seat.cs), .lst 8 (s.bids.map Bid.cs), .lst 6 (s.votes.map Vote.cs)] 0)]
abbrev J37 : LS := (7, VI (b.checkE s.voters.weights s.voters.need)) :: (J36 b s)
end
theorem chk1_fn (b : Bid) (s : Synod) (hx : s.Big) : Fn Tryd.prog 41 [.agg [VI b.time, VI b.phase, .v (.string b.own), .v (.string b.value), VI b.best.at_.time, VI b.best.at_.who, .v (.string b.best.data), .v (.int .u64 (b.heard.n : Int))], .pim [.lst 1 (s.voters.weights.map cI), VI s.voters.need, .lst 5 (s.seats.map Seat.cs), .lst 8 (s.bids.map Bid.cs), .lst 6 (s.votes.map Vote.cs)] 0] (VI (b.checkE s.voters.weights s.voters.need)) := by
  refine fn_walkW F41_ok (of_decide_eq_true (by kernel_rfl)) ?_
  refine srl 2 [1, 2] ⟨[(2, .ref 0 8 0 0), (1, .pim [.lst 1 (s.voters.weights.map cI), VI s.voters.need, .lst 5 (s.seats.map Seat.cs), .lst 8 (s.bids.map Bid.cs), .lst 6 (s.votes.map Vote.cs)] 0)], [(J34 b)]⟩ ?_
  refine srr 3 ⟨(J36 b s), [(J34 b)]⟩ ?_
  refine owf [.agg [.lst 1 (s.voters.weights.map cI), VI s.voters.need], (J35 b)] ⟨(J37 b s), [(J34 b)]⟩ F42_call (bcheck_fn s.voters b (by first | exact hx.1 | assumption)) ?_
  refine owl 1 [3] ⟨[(3, VI (b.checkE s.voters.weights s.voters.need))], [(J34 b)]⟩ ?_
  refine EL.ret ?_
  refine ⟨.inr rfl, VI (b.checkE s.voters.weights s.voters.need), by kernel_rfl, Ale.of_eq ?_⟩
  focus (rfl)
section
variable (s : Synod) (v : Vote)
abbrev J38 : OB := some ⟨6, [[VI v.kind, VI v.bid, VI v.node, VI v.copy.at_.time, VI v.copy.at_.who, .v (.string v.copy.data)]]⟩
abbrev J39 : AV := .agg [VI v.kind, VI v.bid, VI v.node, VI v.copy.at_.time, VI v.copy.at_.who, .v (.string v.copy.data)]
abbrev J40 : LS := [(5, (J39 v)), (2, .ref 0 6 0 0), (1, .pim [.lst 1 (s.voters.weights.map cI), VI s.voters.need, .lst 5 (s.seats.map Seat.cs), .lst 8 (s.bids.map Bid.cs), .lst 6 (s.votes.map Vote.cs)] 0)]
abbrev J41 : LS := [(4, VI v.checkE), (2, .ref 0 6 0 0), (1, .pim [.lst 1 (s.voters.weights.map cI), VI s.voters.need, .lst 5 (s.seats.map Seat.cs), .lst 8 (s.bids.map Bid.cs), .lst 6 (s.votes.map Vote.cs)] 0)]
abbrev J42 : LS := (13, .lst 5 (s.seats.map Seat.cs)) :: (12, .pim [.lst 1 (s.voters.weights.map cI), VI s.voters.need, .lst 5 (s.seats.map Seat.cs), .lst 8 (s.bids.map Bid.cs), .lst 6 (s.votes.map Vote.cs)] 2) :: (11, VI v.node) :: (10, .ref 0 6 0 2) :: (9, .v (.bool true)) :: (8, .v (.bool true)) :: (7, VI v.checkE) :: (J41 s v)
abbrev J43 : LS := (20, .lst 8 (s.bids.map Bid.cs)) :: (19, .pim [.lst 1 (s.voters.weights.map cI), VI s.voters.need, .lst 5 (s.seats.map Seat.cs), .lst 8 (s.bids.map Bid.cs), .lst 6 (s.votes.map Vote.cs)] 3) :: (18, VI v.bid) :: (17, .ref 0 6 0 1) :: (16, .v (.bool false)) :: (15, .v (.bool false)) :: (14, VI (List.length s.seats : Int)) :: (J42 s v)
end
theorem chk2_fn (v : Vote) (s : Synod) (hx : s.Big) : Fn Tryd.prog 44 [.agg [VI v.kind, VI v.bid, VI v.node, VI v.copy.at_.time, VI v.copy.at_.who, .v (.string v.copy.data)], .pim [.lst 1 (s.voters.weights.map cI), VI s.voters.need, .lst 5 (s.seats.map Seat.cs), .lst 8 (s.bids.map Bid.cs), .lst 6 (s.votes.map Vote.cs)] 0] (VI (s.voteE v)) := by
  refine fn_walkW F44_ok (of_decide_eq_true (by kernel_rfl)) ?_
  refine srl 2 [1, 2] ⟨[(2, .ref 0 6 0 0), (1, .pim [.lst 1 (s.voters.weights.map cI), VI s.voters.need, .lst 5 (s.seats.map Seat.cs), .lst 8 (s.bids.map Bid.cs), .lst 6 (s.votes.map Vote.cs)] 0)], [(J38 v)]⟩ ?_
  refine srr 1 ⟨(J40 s v), [(J38 v)]⟩ ?_
  refine owf [(J39 v)] ⟨(6, VI v.checkE) :: (J40 s v), [(J38 v)]⟩ F45_call (vcheck_fn v) ?_
  refine owl 1 [1, 2, 4] ⟨(J41 s v), [(J38 v)]⟩ ?_
  refine EL.seq ?_
  refine srr 3 ⟨(9, .v (.bool (v.checkE == 0))) :: (8, .v (.bool (v.checkE == 0))) :: (7, VI v.checkE) :: (J41 s v), [(J38 v)]⟩ ?_
  rcases Bool.eq_false_or_eq_true ((v.checkE == 0)) with h1 | h1
  rw [h1]
  have g1 : (v.checkE = 0) := by simpa using h1
  refine owr 4 ⟨(J42 s v), [(J38 v)]⟩ ?_
  refine owo (VI (List.length s.seats : Int)) [] [] ⟨(14, VI (List.length s.seats : Int)) :: (J42 s v), [(J38 v)]⟩ (opE_len Seat.cs s.seats (.s 13) 5 (by kernel_rfl) (by kernel_rfl) (.inl rfl)) ?_
  refine owr 2 ⟨(16, .v (.bool (decide (v.node ≥ (List.length s.seats : Int))))) :: (15, .v (.bool (decide (v.node ≥ (List.length s.seats : Int))))) :: (14, VI (List.length s.seats : Int)) :: (J42 s v), [(J38 v)]⟩ ?_
  rcases Bool.eq_false_or_eq_true (decide (v.node ≥ (List.length s.seats : Int))) with h2 | h2
  rw [h2]
  have g2 := of_decide_eq_true h2
  refine owl 8 [4, 24] ⟨[(24, .v (.bool true)), (4, VI v.checkE)], [(J38 v)]⟩ ?_
  refine cnT ?_
  refine roe 1 ⟨[(4, VI 3), (24, .v (.bool true))], [(J38 v)]⟩ ?_
  refine thenL_norm ?_
  refine srl 2 [3] ⟨[(3, VI 3)], [(J38 v)]⟩ ?_
  refine EL.ret ?_
  refine ⟨.inr rfl, VI 3, by kernel_rfl, Ale.of_eq ?_⟩
  rotate_left
  rw [h2]
  have g2 := of_decide_eq_false h2
  refine owr 4 ⟨(J43 s v), [(J38 v)]⟩ ?_
  refine owo (VI (List.length s.bids : Int)) [] [] ⟨(21, VI (List.length s.bids : Int)) :: (J43 s v), [(J38 v)]⟩ (opE_len Bid.cs s.bids (.s 20) 8 (by kernel_rfl) (by kernel_rfl) (.inl rfl)) ?_
  refine owl 3 [4, 24] ⟨[(24, .v (.bool (decide (v.bid ≥ (List.length s.bids : Int))))), (4, VI v.checkE)], [(J38 v)]⟩ ?_
  rcases Bool.eq_false_or_eq_true (decide (v.bid ≥ (List.length s.bids : Int))) with h3 | h3
  rw [h3]
  have g3 := of_decide_eq_true h3
  refine cnT ?_
  refine roe 1 ⟨[(4, VI 3), (24, .v (.bool true))], [(J38 v)]⟩ ?_
  refine thenL_norm ?_
  refine srl 2 [3] ⟨[(3, VI 3)], [(J38 v)]⟩ ?_
  refine EL.ret ?_
  refine ⟨.inr rfl, VI 3, by kernel_rfl, Ale.of_eq ?_⟩
  rotate_left
  rw [h3]
  have g3 := of_decide_eq_false h3
  refine cnF ?_
  refine skn ?_
  refine srl 2 [3] ⟨[(3, VI v.checkE)], [(J38 v)]⟩ ?_
  refine EL.ret ?_
  refine ⟨.inr rfl, VI v.checkE, by kernel_rfl, Ale.of_eq ?_⟩
  rotate_left
  rw [h1]
  have g1 : ¬ (v.checkE = 0) := by simpa using h1
  refine owl 15 [4, 24] ⟨[(24, .v (.bool false)), (4, VI v.checkE)], [(J38 v)]⟩ ?_
  refine cnF ?_
  refine skn ?_
  refine srl 2 [3] ⟨[(3, VI v.checkE)], [(J38 v)]⟩ ?_
  refine EL.ret ?_
  refine ⟨.inr rfl, VI v.checkE, by kernel_rfl, Ale.of_eq ?_⟩
  rotate_left
  all_goals ((refine congrArg (fun n => VI n) ?_; simp only [Synod.voteE]; (repeat' split) <;> first | rfl | omega | (simp_all; done) | (simp_all; omega)))
section
variable (a3 : Bid) (k : Nat) (s : Synod) (xs : List Bid)
abbrev J44 : LS := [(8, .lst 8 (xs.map Bid.cs)), (0, .lst 8 (xs.map Bid.cs)), (1, .fn 41 [.pim [.lst 1 (s.voters.weights.map cI), VI s.voters.need, .lst 5 (s.seats.map Seat.cs), .lst 8 (s.bids.map Bid.cs), .lst 6 (s.votes.map Vote.cs)] 0])]
abbrev J45 : LS := [(10, VI 0), (9, VI (List.length xs : Int)), (8, .lst 8 (xs.map Bid.cs)), (1, .fn 41 [.pim [.lst 1 (s.voters.weights.map cI), VI s.voters.need, .lst 5 (s.seats.map Seat.cs), .lst 8 (s.bids.map Bid.cs), .lst 6 (s.votes.map Vote.cs)] 0])]
abbrev J46 : LS := [(1, .fn 41 [.pim [.lst 1 (s.voters.weights.map cI), VI s.voters.need, .lst 5 (s.seats.map Seat.cs), .lst 8 (s.bids.map Bid.cs), .lst 6 (s.votes.map Vote.cs)] 0]), (8, .lst 8 (xs.map Bid.cs)), (9, VI (List.length xs : Int)), (10, VI (k : Int))]
abbrev J47 : LS := (12, .pim [VI a3.time, VI a3.phase, .v (.string a3.own), .v (.string a3.value), VI a3.best.at_.time, VI a3.best.at_.who, .v (.string a3.best.data), .v (.int .u64 (a3.heard.n : Int))] 0) :: (11, .v (.bool true)) :: (J46 k s xs)
abbrev J48 : OB := some ⟨8, [[VI a3.time, VI a3.phase, .v (.string a3.own), .v (.string a3.value), VI a3.best.at_.time, VI a3.best.at_.who, .v (.string a3.best.data), .v (.int .u64 (a3.heard.n : Int))]]⟩
abbrev J49 : AV := .agg [VI a3.time, VI a3.phase, .v (.string a3.own), .v (.string a3.value), VI a3.best.at_.time, VI a3.best.at_.who, .v (.string a3.best.data), .v (.int .u64 (a3.heard.n : Int))]
abbrev J50 : LS := (15, (J49 a3)) :: (14, .fn 41 [.pim [.lst 1 (s.voters.weights.map cI), VI s.voters.need, .lst 5 (s.seats.map Seat.cs), .lst 8 (s.bids.map Bid.cs), .lst 6 (s.votes.map Vote.cs)] 0]) :: (6, .ref 0 8 0 0) :: (J46 k s xs)
abbrev J51 : LS := (16, VI (a3.checkE s.voters.weights s.voters.need)) :: (J50 a3 k s xs)
abbrev J52 : LS := (7, VI (a3.checkE s.voters.weights s.voters.need)) :: (J46 k s xs)
abbrev J53 : LS := [(18, .v (.bool false)), (7, VI (a3.checkE s.voters.weights s.voters.need)), (1, .fn 41 [.pim [.lst 1 (s.voters.weights.map cI), VI s.voters.need, .lst 5 (s.seats.map Seat.cs), .lst 8 (s.bids.map Bid.cs), .lst 6 (s.votes.map Vote.cs)] 0]), (8, .lst 8 (xs.map Bid.cs)), (9, VI (List.length xs : Int))]
abbrev J54 : LS := (10, VI ((k : Int) + 1)) :: (20, VI ((k : Int) + 1)) :: (J53 a3 s xs)
end
theorem firstB_fn (xs : List Bid) (s : Synod) (hx : xs.length ≤ 9223372036854775807) (hbig : s.Big) : Fn Tryd.prog 40 [.lst 8 (xs.map Bid.cs), .fn 41 [.pim [.lst 1 (s.voters.weights.map cI), VI s.voters.need, .lst 5 (s.seats.map Seat.cs), .lst 8 (s.bids.map Bid.cs), .lst 6 (s.votes.map Vote.cs)] 0]] (VI (firstE (fun b => b.checkE s.voters.weights s.voters.need) xs)) := by
  refine fn_walkW F40_ok (of_decide_eq_true (by kernel_rfl)) ?_
  refine srl 1 [0, 1] ⟨[(0, .lst 8 (xs.map Bid.cs)), (1, .fn 41 [.pim [.lst 1 (s.voters.weights.map cI), VI s.voters.need, .lst 5 (s.seats.map Seat.cs), .lst 8 (s.bids.map Bid.cs), .lst 6 (s.votes.map Vote.cs)] 0])], []⟩ ?_
  refine EL.seq ?_
  refine srr 1 ⟨(J44 s xs), []⟩ ?_
  refine owo (VI (List.length xs : Int)) [] [] ⟨(9, VI (List.length xs : Int)) :: (J44 s xs), []⟩ (opE_len Bid.cs xs (.s 8) 8 (by kernel_rfl) (by kernel_rfl) (.inl rfl)) ?_
  refine owl 1 [1, 8, 9, 10] ⟨(J45 s xs), []⟩ ?_
  refine EL.block ?_
  refine EL.loopN (fun mM xX => ∃ (k : Nat), mM = xs.length - k ∧ (k ≤ xs.length ∧ firstE (fun b => b.checkE s.voters.weights s.voters.need) xs = firstE (fun b => b.checkE s.voters.weights s.voters.need) (xs.drop k)) ∧ xX = ⟨(J46 k s xs), []⟩) (y := (fun (k : Nat) => (⟨(J46 k s xs), []⟩ : L3)) 0) [1, 8, 9, 10] [] [] (by kernel_rfl) trivial ⟨0, rfl, by simp, rfl⟩ ?_
  rintro _ _ ⟨k, rfl, hI1, rfl⟩
  obtain ⟨hk, hs⟩ := hI1
  refine srl 1 [1, 8, 9, 10, 11] ⟨(11, .v (.bool (decide ((k : Int) < (List.length xs : Int))))) :: (J46 k s xs), []⟩ ?_
  refine EL.seq ?_
  rcases Bool.eq_false_or_eq_true (decide ((k : Int) < (List.length xs : Int))) with h2 | h2
  rw [h2]
  have g2 := of_decide_eq_true h2
  have n2 : ((k) < (List.length xs)) := by omega
  refine cnT ?_
  refine skn ?_
  refine EL.seq ?_
  refine EL.block ?_
  refine EL.sreg ?_
  obtain ⟨a3, ha3⟩ : ∃ y, xs[((k : Int) : Int).toNat]? = some y := idx_ex ⟨by omega, by omega⟩
  have iha3 : xs[k]? = some a3 := by simpa using ha3
  have dha3 := drop_get iha3
  refine owo (.pim [VI a3.time, VI a3.phase, .v (.string a3.own), .v (.string a3.value), VI a3.best.at_.time, VI a3.best.at_.who, .v (.string a3.best.data), .v (.int .u64 (a3.heard.n : Int))] 0) [] [] ⟨(J47 a3 k s xs), []⟩ (opE_iad Bid.cs xs (.s 8) (.s 10) 8 .i64 (k : Int) a3 (by kernel_rfl) (by kernel_rfl) (.inl rfl) rfl (by omega) ha3) ?_
  refine owl 3 [1, 6, 8, 9, 10] ⟨(6, .ref 0 8 0 0) :: (J46 k s xs), [(J48 a3)]⟩ ?_
  refine srr 2 ⟨(J50 a3 k s xs), [(J48 a3)]⟩ ?_
  refine owf [(J49 a3), .pim [.lst 1 (s.voters.weights.map cI), VI s.voters.need, .lst 5 (s.seats.map Seat.cs), .lst 8 (s.bids.map Bid.cs), .lst 6 (s.votes.map Vote.cs)] 0] ⟨(J51 a3 k s xs), [(J48 a3)]⟩ F41_call (chk1_fn a3 s (by first | assumption | exact hbig)) ?_
  refine owl 1 [1, 7, 8, 9, 10] ⟨(J52 a3 k s xs), [(J48 a3)]⟩ ?_
  refine srl 2 [1, 7, 8, 9, 10, 18] ⟨(18, .v (.bool ((a3.checkE s.voters.weights s.voters.need) != 0))) :: (J52 a3 k s xs), [(J48 a3)]⟩ ?_
  rcases Bool.eq_false_or_eq_true (((a3.checkE s.voters.weights s.voters.need) != 0)) with h4 | h4
  rw [h4]
  have g4 : ¬ ((a3.checkE s.voters.weights s.voters.need) = 0) := by simpa using h4
  refine cnT ?_
  refine srl 2 [4] ⟨[(4, VI (a3.checkE s.voters.weights s.voters.need))], [(J48 a3)]⟩ ?_
  refine EL.ret ?_
  refine inBlk_ret ?_
  refine thenL_ret ?_
  refine thenL_ret ?_
  refine inBlk_ret ?_
  refine thenL_ret ?_
  refine ⟨.inr rfl, VI (a3.checkE s.voters.weights s.voters.need), by kernel_rfl, Ale.of_eq ?_⟩
  rotate_left
  rw [h4]
  have g4 : ((a3.checkE s.voters.weights s.voters.need) = 0) := by simpa using h4
  refine cnF ?_
  refine EL.skip ?_
  refine inBlk_norm ?_
  refine thenL_norm ?_
  refine EL.reg0 ?_
  refine owr 2 ⟨(10, VI (IntKind.i64.wrap ((k : Int) + 1))) :: (20, VI (IntKind.i64.wrap ((k : Int) + 1))) :: (J53 a3 s xs), [(J48 a3)]⟩ ?_
  have e5 : IntKind.i64.wrap ((k : Int) + 1) = (k : Int) + 1 := wr64 (by omega)
  rw [e5]
  refine owe 0 ⟨(J54 a3 k s xs), [(J48 a3)]⟩ ?_
  refine thenL_norm ?_
  refine round_end (live := [1, 8, 9, 10]) (src := []) (es := []) (y := (fun (k : Nat) => (⟨(J46 k s xs), []⟩ : L3)) (k + 1)) ?_ trivial ?_ ⟨(k + 1), rfl, ?_, rfl⟩
  kernel_rfl
  omega
  focus (refine ⟨by omega, ?_⟩; rw [hs]; simp [firstE, *])
  rw [h2]
  have g2 := of_decide_eq_false h2
  have n2 : ¬ ((k) < (List.length xs)) := by omega
  refine cnF ?_
  refine EL.exit ?_
  refine thenL_exit ?_
  refine thenL_exit ?_
  refine inBlk_hit ?_
  refine thenL_norm ?_
  refine srl 1 [4] ⟨[(4, VI 0)], []⟩ ?_
  refine EL.ret ?_
  refine ⟨.inr rfl, VI 0, by kernel_rfl, Ale.of_eq ?_⟩
  rotate_left
  all_goals ((refine congrArg (fun n => VI n) ?_; rw [hs]; first | (rw [List.drop_eq_nil_of_le (by omega)]; rfl) | (simp [firstE, *]; done)))
section
variable (a3 : Vote) (k : Nat) (s : Synod) (xs : List Vote)
abbrev J55 : LS := [(8, .lst 6 (xs.map Vote.cs)), (0, .lst 6 (xs.map Vote.cs)), (1, .fn 44 [.pim [.lst 1 (s.voters.weights.map cI), VI s.voters.need, .lst 5 (s.seats.map Seat.cs), .lst 8 (s.bids.map Bid.cs), .lst 6 (s.votes.map Vote.cs)] 0])]
abbrev J56 : LS := [(10, VI 0), (9, VI (List.length xs : Int)), (8, .lst 6 (xs.map Vote.cs)), (1, .fn 44 [.pim [.lst 1 (s.voters.weights.map cI), VI s.voters.need, .lst 5 (s.seats.map Seat.cs), .lst 8 (s.bids.map Bid.cs), .lst 6 (s.votes.map Vote.cs)] 0])]
abbrev J57 : LS := [(1, .fn 44 [.pim [.lst 1 (s.voters.weights.map cI), VI s.voters.need, .lst 5 (s.seats.map Seat.cs), .lst 8 (s.bids.map Bid.cs), .lst 6 (s.votes.map Vote.cs)] 0]), (8, .lst 6 (xs.map Vote.cs)), (9, VI (List.length xs : Int)), (10, VI (k : Int))]
abbrev J58 : LS := (12, .pim [VI a3.kind, VI a3.bid, VI a3.node, VI a3.copy.at_.time, VI a3.copy.at_.who, .v (.string a3.copy.data)] 0) :: (11, .v (.bool true)) :: (J57 k s xs)
abbrev J59 : OB := some ⟨6, [[VI a3.kind, VI a3.bid, VI a3.node, VI a3.copy.at_.time, VI a3.copy.at_.who, .v (.string a3.copy.data)]]⟩
abbrev J60 : AV := .agg [VI a3.kind, VI a3.bid, VI a3.node, VI a3.copy.at_.time, VI a3.copy.at_.who, .v (.string a3.copy.data)]
abbrev J61 : LS := (15, (J60 a3)) :: (14, .fn 44 [.pim [.lst 1 (s.voters.weights.map cI), VI s.voters.need, .lst 5 (s.seats.map Seat.cs), .lst 8 (s.bids.map Bid.cs), .lst 6 (s.votes.map Vote.cs)] 0]) :: (6, .ref 0 6 0 0) :: (J57 k s xs)
abbrev J62 : LS := [(18, .v (.bool false)), (7, VI (s.voteE a3)), (1, .fn 44 [.pim [.lst 1 (s.voters.weights.map cI), VI s.voters.need, .lst 5 (s.seats.map Seat.cs), .lst 8 (s.bids.map Bid.cs), .lst 6 (s.votes.map Vote.cs)] 0]), (8, .lst 6 (xs.map Vote.cs)), (9, VI (List.length xs : Int))]
abbrev J63 : LS := (10, VI ((k : Int) + 1)) :: (20, VI ((k : Int) + 1)) :: (J62 a3 s xs)
end
theorem firstV_fn (xs : List Vote) (s : Synod) (hx : xs.length ≤ 9223372036854775807) (hbig : s.Big) : Fn Tryd.prog 43 [.lst 6 (xs.map Vote.cs), .fn 44 [.pim [.lst 1 (s.voters.weights.map cI), VI s.voters.need, .lst 5 (s.seats.map Seat.cs), .lst 8 (s.bids.map Bid.cs), .lst 6 (s.votes.map Vote.cs)] 0]] (VI (firstE (s.voteE) xs)) := by
  refine fn_walkW F43_ok (of_decide_eq_true (by kernel_rfl)) ?_
  refine srl 1 [0, 1] ⟨[(0, .lst 6 (xs.map Vote.cs)), (1, .fn 44 [.pim [.lst 1 (s.voters.weights.map cI), VI s.voters.need, .lst 5 (s.seats.map Seat.cs), .lst 8 (s.bids.map Bid.cs), .lst 6 (s.votes.map Vote.cs)] 0])], []⟩ ?_
  refine EL.seq ?_
  refine srr 1 ⟨(J55 s xs), []⟩ ?_
  refine owo (VI (List.length xs : Int)) [] [] ⟨(9, VI (List.length xs : Int)) :: (J55 s xs), []⟩ (opE_len Vote.cs xs (.s 8) 6 (by kernel_rfl) (by kernel_rfl) (.inl rfl)) ?_
  refine owl 1 [1, 8, 9, 10] ⟨(J56 s xs), []⟩ ?_
  refine EL.block ?_
  refine EL.loopN (fun mM xX => ∃ (k : Nat), mM = xs.length - k ∧ (k ≤ xs.length ∧ firstE (s.voteE) xs = firstE (s.voteE) (xs.drop k)) ∧ xX = ⟨(J57 k s xs), []⟩) (y := (fun (k : Nat) => (⟨(J57 k s xs), []⟩ : L3)) 0) [1, 8, 9, 10] [] [] (by kernel_rfl) trivial ⟨0, rfl, by simp, rfl⟩ ?_
  rintro _ _ ⟨k, rfl, hI1, rfl⟩
  obtain ⟨hk, hs⟩ := hI1
  refine srl 1 [1, 8, 9, 10, 11] ⟨(11, .v (.bool (decide ((k : Int) < (List.length xs : Int))))) :: (J57 k s xs), []⟩ ?_
  refine EL.seq ?_
  rcases Bool.eq_false_or_eq_true (decide ((k : Int) < (List.length xs : Int))) with h2 | h2
  rw [h2]
  have g2 := of_decide_eq_true h2
  have n2 : ((k) < (List.length xs)) := by omega
  refine cnT ?_
  refine skn ?_
  refine EL.seq ?_
  refine EL.block ?_
  refine EL.sreg ?_
  obtain ⟨a3, ha3⟩ : ∃ y, xs[((k : Int) : Int).toNat]? = some y := idx_ex ⟨by omega, by omega⟩
  have iha3 : xs[k]? = some a3 := by simpa using ha3
  have dha3 := drop_get iha3
  refine owo (.pim [VI a3.kind, VI a3.bid, VI a3.node, VI a3.copy.at_.time, VI a3.copy.at_.who, .v (.string a3.copy.data)] 0) [] [] ⟨(J58 a3 k s xs), []⟩ (opE_iad Vote.cs xs (.s 8) (.s 10) 6 .i64 (k : Int) a3 (by kernel_rfl) (by kernel_rfl) (.inl rfl) rfl (by omega) ha3) ?_
  refine owl 3 [1, 6, 8, 9, 10] ⟨(6, .ref 0 6 0 0) :: (J57 k s xs), [(J59 a3)]⟩ ?_
  refine srr 2 ⟨(J61 a3 k s xs), [(J59 a3)]⟩ ?_
  refine owf [(J60 a3), .pim [.lst 1 (s.voters.weights.map cI), VI s.voters.need, .lst 5 (s.seats.map Seat.cs), .lst 8 (s.bids.map Bid.cs), .lst 6 (s.votes.map Vote.cs)] 0] ⟨(16, VI (s.voteE a3)) :: (J61 a3 k s xs), [(J59 a3)]⟩ F44_call (chk2_fn a3 s (by first | assumption | exact hbig)) ?_
  refine owl 1 [1, 7, 8, 9, 10] ⟨(7, VI (s.voteE a3)) :: (J57 k s xs), [(J59 a3)]⟩ ?_
  refine srl 2 [1, 7, 8, 9, 10, 18] ⟨(18, .v (.bool ((s.voteE a3) != 0))) :: (7, VI (s.voteE a3)) :: (J57 k s xs), [(J59 a3)]⟩ ?_
  rcases Bool.eq_false_or_eq_true (((s.voteE a3) != 0)) with h4 | h4
  rw [h4]
  have g4 : ¬ ((s.voteE a3) = 0) := by simpa using h4
  refine cnT ?_
  refine srl 2 [4] ⟨[(4, VI (s.voteE a3))], [(J59 a3)]⟩ ?_
  refine EL.ret ?_
  refine inBlk_ret ?_
  refine thenL_ret ?_
  refine thenL_ret ?_
  refine inBlk_ret ?_
  refine thenL_ret ?_
  refine ⟨.inr rfl, VI (s.voteE a3), by kernel_rfl, Ale.of_eq ?_⟩
  rotate_left
  rw [h4]
  have g4 : ((s.voteE a3) = 0) := by simpa using h4
  refine cnF ?_
  refine EL.skip ?_
  refine inBlk_norm ?_
  refine thenL_norm ?_
  refine EL.reg0 ?_
  refine owr 2 ⟨(10, VI (IntKind.i64.wrap ((k : Int) + 1))) :: (20, VI (IntKind.i64.wrap ((k : Int) + 1))) :: (J62 a3 s xs), [(J59 a3)]⟩ ?_
  have e5 : IntKind.i64.wrap ((k : Int) + 1) = (k : Int) + 1 := wr64 (by omega)
  rw [e5]
  refine owe 0 ⟨(J63 a3 k s xs), [(J59 a3)]⟩ ?_
  refine thenL_norm ?_
  refine round_end (live := [1, 8, 9, 10]) (src := []) (es := []) (y := (fun (k : Nat) => (⟨(J57 k s xs), []⟩ : L3)) (k + 1)) ?_ trivial ?_ ⟨(k + 1), rfl, ?_, rfl⟩
  kernel_rfl
  omega
  focus (refine ⟨by omega, ?_⟩; rw [hs]; simp [firstE, *])
  rw [h2]
  have g2 := of_decide_eq_false h2
  have n2 : ¬ ((k) < (List.length xs)) := by omega
  refine cnF ?_
  refine EL.exit ?_
  refine thenL_exit ?_
  refine thenL_exit ?_
  refine inBlk_hit ?_
  refine thenL_norm ?_
  refine srl 1 [4] ⟨[(4, VI 0)], []⟩ ?_
  refine EL.ret ?_
  refine ⟨.inr rfl, VI 0, by kernel_rfl, Ale.of_eq ?_⟩
  rotate_left
  all_goals ((refine congrArg (fun n => VI n) ?_; rw [hs]; first | (rw [List.drop_eq_nil_of_le (by omega)]; rfl) | (simp [firstE, *]; done)))
section
variable (s : Synod)
abbrev J64 : OB := some ⟨5, [[.lst 1 (s.voters.weights.map cI), VI s.voters.need, .lst 5 (s.seats.map Seat.cs), .lst 8 (s.bids.map Bid.cs), .lst 6 (s.votes.map Vote.cs)]]⟩
abbrev J65 : LS := [(11, VI s.voters.need), (10, .ref 0 5 0 1), (9, .ref 0 5 0 0), (8, .lst 1 (s.voters.weights.map cI)), (7, .ref 0 5 0 0), (6, .ref 0 5 0 0), (1, .ref 0 5 0 0)]
abbrev J66 : LS := (12, VI (qcheckP s.voters.weights s.voters.need)) :: (J65 s)
abbrev J67 : LS := [(17, .lst 5 (s.seats.map Seat.cs)), (16, .ref 0 5 0 2), (14, .v (.bool false)), (3, VI (qcheckP s.voters.weights s.voters.need)), (1, .ref 0 5 0 0)]
abbrev J68 : LS := (21, .lst 1 (s.voters.weights.map cI)) :: (20, .ref 0 5 0 0) :: (19, .ref 0 5 0 0) :: (18, VI (List.length s.seats : Int)) :: (J67 s)
abbrev J69 : LS := (22, VI (List.length s.voters.weights : Int)) :: (J68 s)
abbrev J70 : LS := [(25, .lst 5 (s.seats.map Seat.cs)), (24, .ref 0 5 0 2), (23, .v (.bool false)), (1, .ref 0 5 0 0)]
abbrev J71 : LS := [(31, .lst 8 (s.bids.map Bid.cs)), (30, .ref 0 5 0 3), (28, .v (.bool false)), (4, VI (firstE (Seat.checkE) s.seats)), (1, .ref 0 5 0 0)]
abbrev J72 : LS := [(36, .fn 41 [.ref 0 5 0 0]), (35, .lst 8 (s.bids.map Bid.cs)), (34, .ref 0 5 0 3), (33, .v (.bool false)), (1, .ref 0 5 0 0)]
abbrev J73 : LS := (37, VI (firstE (fun b => b.checkE s.voters.weights s.voters.need) s.bids)) :: (J72 s)
abbrev J74 : LS := [(42, .lst 6 (s.votes.map Vote.cs)), (41, .ref 0 5 0 4), (39, .v (.bool false)), (5, VI (firstE (fun b => b.checkE s.voters.weights s.voters.need) s.bids)), (1, .ref 0 5 0 0)]
abbrev J75 : LS := [(47, .fn 44 [.ref 0 5 0 0]), (46, .lst 6 (s.votes.map Vote.cs)), (45, .ref 0 5 0 4), (44, .v (.bool false)), (1, .ref 0 5 0 0)]
end
theorem check_fn (s : Synod) (hx : s.Big) : Fn Tryd.prog 18 [.agg [.lst 1 (s.voters.weights.map cI), VI s.voters.need, .lst 5 (s.seats.map Seat.cs), .lst 8 (s.bids.map Bid.cs), .lst 6 (s.votes.map Vote.cs)]] (VI s.checkE) := by
  refine fn_walkW F18_ok (of_decide_eq_true (by kernel_rfl)) ?_
  refine srl 2 [1] ⟨[(1, .ref 0 5 0 0)], [(J64 s)]⟩ ?_
  refine EL.seq ?_
  refine srr 6 ⟨(J65 s), [(J64 s)]⟩ ?_
  refine owf [.lst 1 (s.voters.weights.map cI), VI s.voters.need] ⟨(J66 s), [(J64 s)]⟩ F26_call (qcheck_fn s.voters.weights s.voters.need (by first | omega | assumption | exact hx.1)) ?_
  refine owl 1 [1, 3] ⟨[(3, VI (qcheckP s.voters.weights s.voters.need)), (1, .ref 0 5 0 0)], [(J64 s)]⟩ ?_
  refine srl 2 [1, 3, 14] ⟨[(14, .v (.bool ((qcheckP s.voters.weights s.voters.need) != 0))), (3, VI (qcheckP s.voters.weights s.voters.need)), (1, .ref 0 5 0 0)], [(J64 s)]⟩ ?_
  rcases Bool.eq_false_or_eq_true (((qcheckP s.voters.weights s.voters.need) != 0)) with h1 | h1
  rw [h1]
  have g1 : ¬ ((qcheckP s.voters.weights s.voters.need) = 0) := by simpa using h1
  refine cnT ?_
  refine srl 2 [2] ⟨[(2, VI (qcheckP s.voters.weights s.voters.need))], [(J64 s)]⟩ ?_
  refine rtr ?_
  refine ⟨.inr rfl, VI (qcheckP s.voters.weights s.voters.need), by kernel_rfl, Ale.of_eq ?_⟩
  rotate_left
  rw [h1]
  have g1 : ((qcheckP s.voters.weights s.voters.need) = 0) := by simpa using h1
  refine cnF ?_
  refine skn ?_
  refine EL.seq ?_
  refine srr 2 ⟨(J67 s), [(J64 s)]⟩ ?_
  refine owo (VI (List.length s.seats : Int)) [] [] ⟨(18, VI (List.length s.seats : Int)) :: (J67 s), [(J64 s)]⟩ (opE_len Seat.cs s.seats (.s 17) 5 (by kernel_rfl) (by kernel_rfl) (.inl rfl)) ?_
  refine owr 3 ⟨(J68 s), [(J64 s)]⟩ ?_
  refine owo (VI (List.length s.voters.weights : Int)) [] [] ⟨(J69 s), [(J64 s)]⟩ (opE_len cI s.voters.weights (.s 21) 1 (by kernel_rfl) (by kernel_rfl) (.inl rfl)) ?_
  refine owl 1 [1, 23] ⟨[(23, .v (.bool ((List.length s.seats : Int) != (List.length s.voters.weights : Int)))), (1, .ref 0 5 0 0)], [(J64 s)]⟩ ?_
  rcases Bool.eq_false_or_eq_true (((List.length s.seats : Int) != (List.length s.voters.weights : Int))) with h2 | h2
  rw [h2]
  have g2 : ¬ ((List.length s.seats : Int) = (List.length s.voters.weights : Int)) := by simpa using h2
  have n2 : ¬ ((List.length s.seats) = (List.length s.voters.weights)) := by omega
  refine cnT ?_
  refine srl 1 [2] ⟨[(2, VI 1)], [(J64 s)]⟩ ?_
  refine rtr ?_
  refine ⟨.inr rfl, VI 1, by kernel_rfl, Ale.of_eq ?_⟩
  rotate_left
  rw [h2]
  have g2 : ((List.length s.seats : Int) = (List.length s.voters.weights : Int)) := by simpa using h2
  have n2 : ((List.length s.seats) = (List.length s.voters.weights)) := by omega
  refine cnF ?_
  refine skn ?_
  refine EL.seq ?_
  refine srr 2 ⟨(J70 s), [(J64 s)]⟩ ?_
  refine owf [.lst 5 (s.seats.map Seat.cs), .fn 39 []] ⟨(26, VI (firstE (Seat.checkE) s.seats)) :: (J70 s), [(J64 s)]⟩ F38_call (firstS_fn s.seats (by first | omega | exact hx.2.1 | exact hx.2.2.1 | exact hx.2.2.2)) ?_
  refine owl 1 [1, 4] ⟨[(4, VI (firstE (Seat.checkE) s.seats)), (1, .ref 0 5 0 0)], [(J64 s)]⟩ ?_
  refine srl 2 [1, 4, 28] ⟨[(28, .v (.bool ((firstE (Seat.checkE) s.seats) != 0))), (4, VI (firstE (Seat.checkE) s.seats)), (1, .ref 0 5 0 0)], [(J64 s)]⟩ ?_
  rcases Bool.eq_false_or_eq_true (((firstE (Seat.checkE) s.seats) != 0)) with h3 | h3
  rw [h3]
  have g3 : ¬ ((firstE (Seat.checkE) s.seats) = 0) := by simpa using h3
  refine cnT ?_
  refine srl 2 [2] ⟨[(2, VI (firstE (Seat.checkE) s.seats))], [(J64 s)]⟩ ?_
  refine rtr ?_
  refine ⟨.inr rfl, VI (firstE (Seat.checkE) s.seats), by kernel_rfl, Ale.of_eq ?_⟩
  rotate_left
  rw [h3]
  have g3 : ((firstE (Seat.checkE) s.seats) = 0) := by simpa using h3
  refine cnF ?_
  refine skn ?_
  refine EL.seq ?_
  refine srr 2 ⟨(J71 s), [(J64 s)]⟩ ?_
  refine owo (VI (List.length s.bids : Int)) [] [] ⟨(32, VI (List.length s.bids : Int)) :: (J71 s), [(J64 s)]⟩ (opE_len Bid.cs s.bids (.s 31) 8 (by kernel_rfl) (by kernel_rfl) (.inl rfl)) ?_
  refine owl 1 [1, 33] ⟨[(33, .v (.bool (decide ((List.length s.bids : Int) > 31)))), (1, .ref 0 5 0 0)], [(J64 s)]⟩ ?_
  rcases Bool.eq_false_or_eq_true (decide ((List.length s.bids : Int) > 31)) with h4 | h4
  rw [h4]
  have g4 := of_decide_eq_true h4
  have n4 : ((List.length s.bids) > 31) := by omega
  refine cnT ?_
  refine srl 1 [2] ⟨[(2, VI 2)], [(J64 s)]⟩ ?_
  refine rtr ?_
  refine ⟨.inr rfl, VI 2, by kernel_rfl, Ale.of_eq ?_⟩
  rotate_left
  rw [h4]
  have g4 := of_decide_eq_false h4
  have n4 : ¬ ((List.length s.bids) > 31) := by omega
  refine cnF ?_
  refine skn ?_
  refine EL.seq ?_
  refine srr 3 ⟨(J72 s), [(J64 s)]⟩ ?_
  refine owf [.lst 8 (s.bids.map Bid.cs), .fn 41 [.ref 0 5 0 0]] ⟨(J73 s), [(J64 s)]⟩ F40_call (firstB_fn s.bids s (by first | omega | exact hx.2.1 | exact hx.2.2.1 | exact hx.2.2.2) (by assumption)) ?_
  refine owl 1 [1, 5] ⟨[(5, VI (firstE (fun b => b.checkE s.voters.weights s.voters.need) s.bids)), (1, .ref 0 5 0 0)], [(J64 s)]⟩ ?_
  refine srl 2 [1, 5, 39] ⟨[(39, .v (.bool ((firstE (fun b => b.checkE s.voters.weights s.voters.need) s.bids) != 0))), (5, VI (firstE (fun b => b.checkE s.voters.weights s.voters.need) s.bids)), (1, .ref 0 5 0 0)], [(J64 s)]⟩ ?_
  rcases Bool.eq_false_or_eq_true (((firstE (fun b => b.checkE s.voters.weights s.voters.need) s.bids) != 0)) with h5 | h5
  rw [h5]
  have g5 : ¬ ((firstE (fun b => b.checkE s.voters.weights s.voters.need) s.bids) = 0) := by simpa using h5
  refine cnT ?_
  refine srl 2 [2] ⟨[(2, VI (firstE (fun b => b.checkE s.voters.weights s.voters.need) s.bids))], [(J64 s)]⟩ ?_
  refine rtr ?_
  refine ⟨.inr rfl, VI (firstE (fun b => b.checkE s.voters.weights s.voters.need) s.bids), by kernel_rfl, Ale.of_eq ?_⟩
  rotate_left
  rw [h5]
  have g5 : ((firstE (fun b => b.checkE s.voters.weights s.voters.need) s.bids) = 0) := by simpa using h5
  refine cnF ?_
  refine skn ?_
  refine EL.seq ?_
  refine srr 2 ⟨(J74 s), [(J64 s)]⟩ ?_
  refine owo (VI (List.length s.votes : Int)) [] [] ⟨(43, VI (List.length s.votes : Int)) :: (J74 s), [(J64 s)]⟩ (opE_len Vote.cs s.votes (.s 42) 6 (by kernel_rfl) (by kernel_rfl) (.inl rfl)) ?_
  refine owl 1 [1, 44] ⟨[(44, .v (.bool (decide ((List.length s.votes : Int) > 200)))), (1, .ref 0 5 0 0)], [(J64 s)]⟩ ?_
  rcases Bool.eq_false_or_eq_true (decide ((List.length s.votes : Int) > 200)) with h6 | h6
  rw [h6]
  have g6 := of_decide_eq_true h6
  have n6 : ((List.length s.votes) > 200) := by omega
  refine cnT ?_
  refine srl 1 [2] ⟨[(2, VI 2)], [(J64 s)]⟩ ?_
  refine rtr ?_
  refine ⟨.inr rfl, VI 2, by kernel_rfl, Ale.of_eq ?_⟩
  rotate_left
  rw [h6]
  have g6 := of_decide_eq_false h6
  have n6 : ¬ ((List.length s.votes) > 200) := by omega
  refine cnF ?_
  refine skn ?_
  refine srr 3 ⟨(J75 s), [(J64 s)]⟩ ?_
  refine owf [.lst 6 (s.votes.map Vote.cs), .fn 44 [.ref 0 5 0 0]] ⟨(48, VI (firstE (s.voteE) s.votes)) :: (J75 s), [(J64 s)]⟩ F43_call (firstV_fn s.votes s (by first | omega | exact hx.2.1 | exact hx.2.2.1 | exact hx.2.2.2) (by assumption)) ?_
  refine owl 1 [2] ⟨[(2, VI (firstE (s.voteE) s.votes))], [(J64 s)]⟩ ?_
  refine EL.ret ?_
  refine ⟨.inr rfl, VI (firstE (s.voteE) s.votes), by kernel_rfl, Ale.of_eq ?_⟩
  rotate_left
  all_goals ((refine congrArg (fun n => VI n) ?_; clear hx; simp only [Synod.checkE]; (repeat' split) <;> first | rfl | omega | contradiction | (simp_all; done) | (simp_all; omega)))
end Go.Proofs.YtligepciannclaaDoor
set_option maxRecDepth 100000
set_option maxHeartbeats 4000000
set_option linter.unusedVariables false
set_option linter.unusedSimpArgs false
namespace Go.Proofs.YtligepciannclaaDoor
section
variable (k : Nat) (out : List Seat) (v : Voters)
end
section
variable (a13 : Bid) (a20 : Vote) (a6 : Seat) (i : Nat) (j : Nat) (k : Nat) (s : Synod)
end
section
variable (l : List Vote) (n : Int)
end
section
variable (a2 : Bid) (i : Int) (s : Synod)
end
end Go.Proofs.YtligepciannclaaDoor
set_option maxRecDepth 100000
set_option linter.unusedVariables false
set_option linter.unusedSimpArgs false
namespace Go.Proofs.YtligepciannclaaDoor
/-- What a seat promised is the stamp of a bid. -/
def Bound (s : Synod) : Prop := ∀ st, st ∈ s.seats → st.promised = zst ∨ ∃ (i : Nat) (b : Bid), s.bids[i]? = some b ∧ st.promised = ⟨b.time, i⟩
theorem hear_time {v : Voters} {no : Int} {b : Bid} {m : Vote} (h : (hearP v no b m).2.2 = 0) : (hearP v no b m).1.time = b.time := by
  rcases hear_full h with e | ⟨_, _, _, _, _, e | ⟨_, e⟩⟩
  · rw [e]
  · rw [e]; rfl
  · rw [e]; unfold onP; split <;> rfl
theorem Nxt.times {s t : Synod} (h : Nxt s t) {i : Nat} {b : Bid} (hb : s.bids[i]? = some b) : ∃ b' : Bid, t.bids[i]? = some b' ∧ b'.time = b.time := by
  cases h with
  | moves hw hs hb2 hv => rw [hb2]; exact ⟨b, hb, rfl⟩
  | begins h hw hs hb2 hv => rw [hb2, List.getElem?_append_left (List.getElem?_eq_some_iff.1 hb).1]; exact ⟨b, hb, rfl⟩
  | serves hm hk hn hst he hw hs hb2 hv => rw [hb2]; exact ⟨b, hb, rfl⟩
  | @hears m b' hm h0 hbd he hw hs hb2 hv =>
    rw [hb2]
    by_cases hi : i = m.bid.toNat
    · subst hi
      rw [hbd] at hb; obtain rfl := Option.some.inj hb
      exact ⟨_, set_get hbd, hear_time he⟩
    · rw [set_ne hi]; exact ⟨b, hb, rfl⟩
theorem Bound.mono {s t : Synod} (B : Bound s) (h : Nxt s t) {st : Seat} (hs : st ∈ s.seats) : st.promised = zst ∨ ∃ (i : Nat) (b : Bid), t.bids[i]? = some b ∧ st.promised = ⟨b.time, i⟩ := by
  rcases B st hs with e | ⟨i, b, h1, h2⟩
  · exact .inl e
  · obtain ⟨b', k1, k2⟩ := h.times h1
    exact .inr ⟨i, b', k1, by rw [k2, h2]⟩
theorem bid_eq {s : Synod} {T : Int} {own : ByteArray} : s.stepP 6 T own = s.bidP T own := by
  unfold Synod.stepP
  rw [if_neg (by omega), if_neg (by rintro ⟨h, _⟩; exact h rfl), if_pos rfl]
end Go.Proofs.YtligepciannclaaDoor
