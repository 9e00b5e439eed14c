/- What the functions of package seat answer: hearing of a vote. No condition. -/
import Derived.Test.YtejilglnpdjepaaDoorPSeatC
set_option maxRecDepth 100000
set_option maxHeartbeats 4000000
set_option linter.unusedVariables false
set_option linter.unusedSimpArgs false
namespace Go.Proofs.YtejilglnpdjepaaDoor
def onP (v : Voters) (no : Int) (b : Bid) : Bid × List Vote × Int :=
  if b.phase = 2 then ({ b with phase := 3 }, [], 0)
  else ({ b with value := if b.best.at_.time = 0 ∧ b.best.at_.who = 0 then b.own else b.best.data, phase := 2, heard := ⟨0, by decide⟩ }, toAllP v.weights.length ⟨3, no, 0, ⟨⟨b.time, no⟩, if b.best.at_.time = 0 ∧ b.best.at_.who = 0 then b.own else b.best.data⟩⟩, 0)
def heardP (b : Bid) (m : Vote) : Bid := { b with heard := orU b.heard m.node.toNat, best := if b.phase = 1 then b.best.raw m.copy else b.best }
def hearP (v : Voters) (no : Int) (b : Bid) (m : Vote) : Bid × List Vote × Int :=
  if ¬ (0 ≤ no ∧ no ≤ 30) then (Bid.zero, [], 3)
  else if b.checkE v.weights v.need ≠ 0 then (Bid.zero, [], b.checkE v.weights v.need)
  else if m.checkE ≠ 0 then (Bid.zero, [], m.checkE)
  else if m.bid ≠ no ∨ fitsP b no m = false ∨ m.node ≥ v.weights.length ∨ (andU b.heard m.node.toNat).n ≠ 0 then (b, [], 0)
  else if (enoughP v.weights v.need (heardP b m).heard.n).1 = true then onP v no (heardP b m) else (heardP b m, [], 0)
theorem hear_go {v : Voters} {no : Int} {b : Bid} {m : Vote} (h1 : 0 ≤ no ∧ no ≤ 30) (h2 : b.checkE v.weights v.need = 0) (h3 : m.checkE = 0) (h4 : m.bid = no) (h5 : fitsP b no m = true) (h6 : ¬ m.node ≥ v.weights.length) (h7 : ((andU b.heard m.node.toNat).n : Int) = 0) :
    hearP v no b m = if (enoughP v.weights v.need (orU b.heard m.node.toNat).n).1 = true then onP v no (heardP b m) else (heardP b m, [], 0) := by
  unfold hearP
  rw [if_neg (fun hh => hh h1), if_neg (fun hh => hh h2), if_neg (fun hh => hh h3), if_neg]
  · rfl
  · rintro (h | h | h | h)
    · exact h h4
    · rw [h5] at h; simp at h
    · exact h6 h
    · exact h (by omega)
theorem vote_node {m : Vote} (h : m.checkE = 0) : 0 ≤ m.node ∧ m.node < 64 := by
  unfold Vote.checkE at h
  split at h
  · simp at h
  · split at h
    · simp at h
    · omega
abbrev sdq0 (b : Bid) : OB := some ⟨8, [[VI b.time, VI b.phase, .v (.string b.own), .v (.string b.value), VI b.best.at_.time, VI b.best.at_.who, .v (.string b.best.data), .v (.int .u64 (b.heard.n : Int))]]⟩
abbrev sdq1 (m : Vote) : OB := some ⟨6, [[VI m.kind, VI m.bid, VI m.node, VI m.copy.at_.time, VI m.copy.at_.who, .v (.string m.copy.data)]]⟩
abbrev sdq2 : OB := some ⟨8, [[VI 0, VI 0, .v (.string (⟨#[]⟩)), .v (.string (⟨#[]⟩)), VI 0, VI 0, .v (.string (⟨#[]⟩)), .v (.int .u64 0)]]⟩
abbrev sdq3 (v : Voters) (b : Bid) (m : Vote) : LB := [some ⟨2, [[.lst 1 (v.weights.map cI), VI v.need]]⟩, (sdq0 b), (sdq1 m), sdq2]
abbrev sdq4 (no : Int) : LS := [(8, .ref 3 8 0 0), (7, .ref 2 6 0 0), (6, .ref 1 8 0 0), (4, .ref 0 2 0 0), (1, VI no)]
abbrev sdq5 (b : Bid) : AV := .agg [VI b.time, VI b.phase, .v (.string b.own), .v (.string b.value), VI b.best.at_.time, VI b.best.at_.who, .v (.string b.best.data), .v (.int .u64 (b.heard.n : Int))]
abbrev sdq6 (b : Bid) (v : Voters) (no : Int) : LS := (20, (sdq5 b)) :: (19, .agg [.lst 1 (v.weights.map cI), VI v.need]) :: (18, .v (.bool true)) :: (11, VI 3) :: (sdq4 no)
abbrev sdq7 (b : Bid) (v : Voters) (no : Int) : LS := (11, VI (b.checkE v.weights v.need)) :: (21, VI (b.checkE v.weights v.need)) :: (20, (sdq5 b)) :: (19, .agg [.lst 1 (v.weights.map cI), VI v.need]) :: (18, .v (.bool true)) :: (sdq4 no)
abbrev sdq8 (m : Vote) : AV := .agg [VI m.kind, VI m.bid, VI m.node, VI m.copy.at_.time, VI m.copy.at_.who, .v (.string m.copy.data)]
abbrev sdq9 (m : Vote) (b : Bid) (v : Voters) (no : Int) : LS := (24, (sdq8 m)) :: (23, .v (.bool true)) :: (11, VI (b.checkE v.weights v.need)) :: (sdq4 no)
abbrev sdq10 (m : Vote) (no : Int) : LS := (11, VI m.checkE) :: (25, VI m.checkE) :: (24, (sdq8 m)) :: (23, .v (.bool true)) :: (sdq4 no)
abbrev sdq11 (m : Vote) : LS := [(10, VI m.checkE), (9, .emp), (8, .ref 3 8 0 0)]
abbrev sdq12 (v : Voters) (b : Bid) (m : Vote) (no : Int) : LB := [some ⟨2, [[.lst 1 (v.weights.map cI), VI v.need]]⟩, (sdq0 b), (sdq1 m), sdq2, some ⟨2, [[.ref 1 8 0 0, VI no]]⟩]
abbrev sdq13 (m : Vote) (no : Int) : LS := (33, VI m.node) :: (32, .ref 2 6 0 2) :: (12, .ref 4 2 0 0) :: (sdq4 no)
abbrev sdq14 (m : Vote) (no : Int) : LS := (13, .v (.int .u64 ((2 ^ (Int.toNat m.node) : Nat) : Int))) :: (12, .ref 4 2 0 0) :: (sdq4 no)
abbrev sdq15 (no : Int) (m : Vote) : LS := (37, VI no) :: (36, VI m.bid) :: (35, .ref 2 6 0 1) :: (sdq14 m no)
abbrev sdq16 (m : Vote) : LS := [(59, .v (.bool true)), (13, .v (.int .u64 ((2 ^ (Int.toNat m.node) : Nat) : Int))), (12, .ref 4 2 0 0), (8, .ref 3 8 0 0), (7, .ref 2 6 0 0), (6, .ref 1 8 0 0), (4, .ref 0 2 0 0)]
abbrev sdq17 (v : Voters) (b : Bid) (m : Vote) (no : Int) : LB := [some ⟨2, [[.lst 1 (v.weights.map cI), VI v.need]]⟩, (sdq0 b), (sdq1 m), (sdq0 b), some ⟨2, [[.ref 1 8 0 0, VI no]]⟩]
abbrev sdq18 (m : Vote) (no : Int) : LS := (41, (sdq8 m)) :: (40, .agg [.ref 1 8 0 0, VI no]) :: (39, .v (.bool false)) :: (38, .v (.bool false)) :: (sdq15 no m)
abbrev sdq19 (v : Voters) (m : Vote) (no : Int) : LS := (49, .lst 1 (v.weights.map cI)) :: (48, .ref 0 2 0 0) :: (47, VI m.node) :: (46, .ref 2 6 0 2) :: (45, .v (.bool false)) :: (44, .v (.bool false)) :: (43, .v (.bool false)) :: (42, .v (.bool true)) :: (sdq18 m no)
abbrev sdq20 (m : Vote) (b : Bid) (v : Voters) (no : Int) : LS := (56, .v (.int .u64 ((2 ^ (Int.toNat m.node) : Nat) : Int))) :: (55, .v (.int .u64 (b.heard.n : Int))) :: (54, .ref 1 8 0 7) :: (53, .v (.bool false)) :: (52, .v (.bool false)) :: (51, .v (.bool false)) :: (50, VI (List.length v.weights : Int)) :: (sdq19 v m no)
abbrev sdq21 (m : Vote) : LS := [(13, .v (.int .u64 ((2 ^ (Int.toNat m.node) : Nat) : Int))), (12, .ref 4 2 0 0), (8, .ref 3 8 0 0), (7, .ref 2 6 0 0), (6, .ref 1 8 0 0), (4, .ref 0 2 0 0)]
abbrev sdq22 (m : Vote) (b : Bid) : LS := (63, .v (.int .u64 ((2 ^ (Int.toNat m.node) : Nat) : Int))) :: (62, .v (.int .u64 (b.heard.n : Int))) :: (61, .ref 1 8 0 7) :: (59, .v (.bool false)) :: (sdq21 m)
abbrev sdq23 (b : Bid) (m : Vote) : OB := some ⟨8, [[VI b.time, VI b.phase, .v (.string b.own), .v (.string b.value), VI b.best.at_.time, VI b.best.at_.who, .v (.string b.best.data), .v (.int .u64 ((orU b.heard (Int.toNat m.node)).n : Int))]]⟩
abbrev sdq24 (v : Voters) (b : Bid) (m : Vote) (no : Int) : LB := [some ⟨2, [[.lst 1 (v.weights.map cI), VI v.need]]⟩, (sdq23 b m), (sdq1 m), sdq2, some ⟨2, [[.ref 1 8 0 0, VI no]]⟩]
abbrev sdq25 : LS := [(12, .ref 4 2 0 0), (8, .ref 3 8 0 0), (7, .ref 2 6 0 0), (6, .ref 1 8 0 0), (4, .ref 0 2 0 0)]
abbrev sdq26 (m : Vote) : AV := .agg [VI m.copy.at_.time, VI m.copy.at_.who, .v (.string m.copy.data)]
abbrev sdq27 (b : Bid) : AV := .agg [VI b.best.at_.time, VI b.best.at_.who, .v (.string b.best.data)]
abbrev sdq28 (m : Vote) (b : Bid) : LS := (72, (sdq26 m)) :: (71, .ref 2 6 0 3) :: (70, (sdq27 b)) :: (69, .ref 1 8 0 4) :: (68, .v (.bool true)) :: sdq25
abbrev sdq29 (b : Bid) (m : Vote) : AV := .agg [VI (((b.best.raw m.copy).at_).time), VI (((b.best.raw m.copy).at_).who), .v (.string ((b.best.raw m.copy).data))]
abbrev sdq30 (b : Bid) (m : Vote) : OB := some ⟨8, [[VI b.time, VI b.phase, .v (.string b.own), .v (.string b.value), VI (((b.best.raw m.copy).at_).time), VI (((b.best.raw m.copy).at_).who), .v (.string ((b.best.raw m.copy).data)), .v (.int .u64 ((orU b.heard (Int.toNat m.node)).n : Int))]]⟩
abbrev sdq31 (v : Voters) (b : Bid) (m : Vote) (no : Int) : LB := [some ⟨2, [[.lst 1 (v.weights.map cI), VI v.need]]⟩, (sdq30 b m), (sdq1 m), sdq2, some ⟨2, [[.ref 1 8 0 0, VI no]]⟩]
abbrev sdq32 : LS := [(14, .emp), (12, .ref 4 2 0 0), (8, .ref 3 8 0 0), (6, .ref 1 8 0 0), (4, .ref 0 2 0 0)]
abbrev sdq33 (b : Bid) (m : Vote) (v : Voters) : LS := (81, .v (.int .u64 ((orU b.heard (Int.toNat m.node)).n : Int))) :: (80, .ref 1 8 0 7) :: (79, VI v.need) :: (78, .ref 0 2 0 1) :: (77, .lst 1 (v.weights.map cI)) :: (76, .ref 0 2 0 0) :: sdq32
abbrev sdq34 (v : Voters) (no : Int) : LS := (87, .agg [.lst 1 (v.weights.map cI), VI v.need]) :: (86, .agg [.ref 1 8 0 0, VI no]) :: (85, .v (.bool true)) :: sdq32
abbrev sdq35 (v : Voters) (b : Bid) (m : Vote) (no : Int) : LB := [some ⟨2, [[.lst 1 (v.weights.map cI), VI v.need]]⟩, (sdq30 b m), (sdq1 m), sdq2, some ⟨2, [[.ref 1 8 0 0, VI no]]⟩, some ⟨2, [[.ref 1 8 0 0, VI no]]⟩, some ⟨2, [[.lst 1 (v.weights.map cI), VI v.need]]⟩]
abbrev sdq36 (b : Bid) (m : Vote) : OB := some ⟨8, [[VI b.time, VI 3, .v (.string b.own), .v (.string b.value), VI (((b.best.raw m.copy).at_).time), VI (((b.best.raw m.copy).at_).who), .v (.string ((b.best.raw m.copy).data)), .v (.int .u64 ((orU b.heard (Int.toNat m.node)).n : Int))]]⟩
abbrev sdq37 (v : Voters) (b : Bid) (m : Vote) (no : Int) : LB := [some ⟨2, [[.lst 1 (v.weights.map cI), VI v.need]]⟩, (sdq36 b m), (sdq1 m), sdq2, some ⟨2, [[.ref 1 8 0 0, VI no]]⟩, some ⟨2, [[.ref 1 8 0 0, VI no]]⟩, some ⟨2, [[.lst 1 (v.weights.map cI), VI v.need]]⟩]
abbrev sdq38 (v : Voters) (b : Bid) (m : Vote) (no : Int) : LB := [some ⟨2, [[.lst 1 (v.weights.map cI), VI v.need]]⟩, (sdq36 b m), (sdq1 m), sdq2, some ⟨2, [[.ref 1 8 0 0, VI no]]⟩]
abbrev sdq39 (v : Voters) (no : Int) : LS := [(14, .emp), (88, .emp), (87, .agg [.lst 1 (v.weights.map cI), VI v.need]), (86, .agg [.ref 1 8 0 0, VI no]), (85, .v (.bool true)), (12, .ref 4 2 0 0), (8, .ref 3 8 0 0), (6, .ref 1 8 0 0), (4, .ref 0 2 0 0)]
abbrev sdq40 (v : Voters) (b : Bid) (m : Vote) (no : Int) : LB := [some ⟨2, [[.lst 1 (v.weights.map cI), VI v.need]]⟩, (sdq36 b m), (sdq1 m), (sdq36 b m), some ⟨2, [[.ref 1 8 0 0, VI no]]⟩]
abbrev sdq41 (b : Bid) (m : Vote) : OB := some ⟨8, [[VI b.time, VI b.phase, .v (.string b.own), .v (.string ((b.best.raw m.copy).data)), VI (((b.best.raw m.copy).at_).time), VI (((b.best.raw m.copy).at_).who), .v (.string ((b.best.raw m.copy).data)), .v (.int .u64 ((orU b.heard (Int.toNat m.node)).n : Int))]]⟩
abbrev sdq42 (v : Voters) (b : Bid) (m : Vote) (no : Int) : LB := [some ⟨2, [[.lst 1 (v.weights.map cI), VI v.need]]⟩, (sdq41 b m), (sdq1 m), sdq2, some ⟨2, [[.ref 1 8 0 0, VI no]]⟩, some ⟨2, [[.ref 1 8 0 0, VI no]]⟩, some ⟨2, [[.lst 1 (v.weights.map cI), VI v.need]]⟩]
abbrev sdq43 (b : Bid) (m : Vote) : OB := some ⟨8, [[VI b.time, VI b.phase, .v (.string b.own), .v (.string b.own), VI (((b.best.raw m.copy).at_).time), VI (((b.best.raw m.copy).at_).who), .v (.string ((b.best.raw m.copy).data)), .v (.int .u64 ((orU b.heard (Int.toNat m.node)).n : Int))]]⟩
abbrev sdq44 (v : Voters) (b : Bid) (m : Vote) (no : Int) : LB := [some ⟨2, [[.lst 1 (v.weights.map cI), VI v.need]]⟩, (sdq43 b m), (sdq1 m), sdq2, some ⟨2, [[.ref 1 8 0 0, VI no]]⟩, some ⟨2, [[.ref 1 8 0 0, VI no]]⟩, some ⟨2, [[.lst 1 (v.weights.map cI), VI v.need]]⟩]
abbrev sdq45 (b : Bid) : LS := [(41, .ref 1 8 0 3), (40, .ref 1 8 0 0), (39, .v (.string b.own)), (38, .ref 1 8 0 2), (37, .ref 1 8 0 0), (36, .ref 1 8 0 0), (35, .ref 5 2 0 0), (34, .ref 1 8 0 0), (33, .ref 5 2 0 0), (32, .v (.bool true)), (3, .ref 6 2 0 0), (2, .ref 5 2 0 0)]
abbrev sdq46 (b : Bid) (m : Vote) : OB := some ⟨8, [[VI b.time, VI 2, .v (.string b.own), .v (.string b.own), VI (((b.best.raw m.copy).at_).time), VI (((b.best.raw m.copy).at_).who), .v (.string ((b.best.raw m.copy).data)), .v (.int .u64 0)]]⟩
abbrev sdq47 (v : Voters) (b : Bid) (m : Vote) (no : Int) : LB := [some ⟨2, [[.lst 1 (v.weights.map cI), VI v.need]]⟩, (sdq46 b m), (sdq1 m), sdq2, some ⟨2, [[.ref 1 8 0 0, VI no]]⟩, some ⟨2, [[.ref 1 8 0 0, VI no]]⟩, some ⟨2, [[.lst 1 (v.weights.map cI), VI v.need]]⟩]
abbrev sdq48 (no : Int) (v : Voters) : LS := [(53, .agg [.ref 1 8 0 0, VI no]), (52, VI no), (51, .ref 5 2 0 1), (50, .agg [.lst 1 (v.weights.map cI), VI v.need]), (3, .ref 6 2 0 0), (2, .ref 5 2 0 0)]
abbrev sdq49 (v : Voters) (b : Bid) (m : Vote) (no : Int) : LB := [some ⟨2, [[.lst 1 (v.weights.map cI), VI v.need]]⟩, (sdq46 b m), (sdq1 m), sdq2, some ⟨2, [[.ref 1 8 0 0, VI no]]⟩]
abbrev sdq50 (v : Voters) (no : Int) : LS := [(87, .agg [.lst 1 (v.weights.map cI), VI v.need]), (86, .agg [.ref 1 8 0 0, VI no]), (85, .v (.bool true)), (12, .ref 4 2 0 0), (8, .ref 3 8 0 0), (6, .ref 1 8 0 0), (4, .ref 0 2 0 0)]
abbrev sdq51 (v : Voters) (b : Bid) (m : Vote) (no : Int) : LB := [some ⟨2, [[.lst 1 (v.weights.map cI), VI v.need]]⟩, (sdq46 b m), (sdq1 m), (sdq46 b m), some ⟨2, [[.ref 1 8 0 0, VI no]]⟩]
abbrev sdq52 (b : Bid) (m : Vote) : OB := some ⟨8, [[VI b.time, VI 2, .v (.string b.own), .v (.string ((b.best.raw m.copy).data)), VI (((b.best.raw m.copy).at_).time), VI (((b.best.raw m.copy).at_).who), .v (.string ((b.best.raw m.copy).data)), .v (.int .u64 0)]]⟩
abbrev sdq53 (v : Voters) (b : Bid) (m : Vote) (no : Int) : LB := [some ⟨2, [[.lst 1 (v.weights.map cI), VI v.need]]⟩, (sdq52 b m), (sdq1 m), sdq2, some ⟨2, [[.ref 1 8 0 0, VI no]]⟩, some ⟨2, [[.ref 1 8 0 0, VI no]]⟩, some ⟨2, [[.lst 1 (v.weights.map cI), VI v.need]]⟩]
abbrev sdq54 (v : Voters) (b : Bid) (m : Vote) (no : Int) : LB := [some ⟨2, [[.lst 1 (v.weights.map cI), VI v.need]]⟩, (sdq52 b m), (sdq1 m), sdq2, some ⟨2, [[.ref 1 8 0 0, VI no]]⟩]
abbrev sdq55 (v : Voters) (b : Bid) (m : Vote) (no : Int) : LB := [some ⟨2, [[.lst 1 (v.weights.map cI), VI v.need]]⟩, (sdq52 b m), (sdq1 m), (sdq52 b m), some ⟨2, [[.ref 1 8 0 0, VI no]]⟩]
abbrev sdq56 (v : Voters) (b : Bid) (m : Vote) (no : Int) : LB := [some ⟨2, [[.lst 1 (v.weights.map cI), VI v.need]]⟩, (sdq30 b m), (sdq1 m), (sdq30 b m), some ⟨2, [[.ref 1 8 0 0, VI no]]⟩]
abbrev sdq57 (v : Voters) (b : Bid) (m : Vote) (no : Int) : LB := [some ⟨2, [[.lst 1 (v.weights.map cI), VI v.need]]⟩, (sdq23 b m), (sdq1 m), sdq2, some ⟨2, [[.ref 1 8 0 0, VI no]]⟩, some ⟨2, [[.ref 1 8 0 0, VI no]]⟩, some ⟨2, [[.lst 1 (v.weights.map cI), VI v.need]]⟩]
abbrev sdq58 (b : Bid) (m : Vote) : OB := some ⟨8, [[VI b.time, VI 3, .v (.string b.own), .v (.string b.value), VI b.best.at_.time, VI b.best.at_.who, .v (.string b.best.data), .v (.int .u64 ((orU b.heard (Int.toNat m.node)).n : Int))]]⟩
abbrev sdq59 (v : Voters) (b : Bid) (m : Vote) (no : Int) : LB := [some ⟨2, [[.lst 1 (v.weights.map cI), VI v.need]]⟩, (sdq58 b m), (sdq1 m), sdq2, some ⟨2, [[.ref 1 8 0 0, VI no]]⟩, some ⟨2, [[.ref 1 8 0 0, VI no]]⟩, some ⟨2, [[.lst 1 (v.weights.map cI), VI v.need]]⟩]
abbrev sdq60 (v : Voters) (b : Bid) (m : Vote) (no : Int) : LB := [some ⟨2, [[.lst 1 (v.weights.map cI), VI v.need]]⟩, (sdq58 b m), (sdq1 m), sdq2, some ⟨2, [[.ref 1 8 0 0, VI no]]⟩]
abbrev sdq61 (v : Voters) (b : Bid) (m : Vote) (no : Int) : LB := [some ⟨2, [[.lst 1 (v.weights.map cI), VI v.need]]⟩, (sdq58 b m), (sdq1 m), (sdq58 b m), some ⟨2, [[.ref 1 8 0 0, VI no]]⟩]
abbrev sdq62 (b : Bid) (m : Vote) : OB := some ⟨8, [[VI b.time, VI b.phase, .v (.string b.own), .v (.string b.best.data), VI b.best.at_.time, VI b.best.at_.who, .v (.string b.best.data), .v (.int .u64 ((orU b.heard (Int.toNat m.node)).n : Int))]]⟩
abbrev sdq63 (v : Voters) (b : Bid) (m : Vote) (no : Int) : LB := [some ⟨2, [[.lst 1 (v.weights.map cI), VI v.need]]⟩, (sdq62 b m), (sdq1 m), sdq2, some ⟨2, [[.ref 1 8 0 0, VI no]]⟩, some ⟨2, [[.ref 1 8 0 0, VI no]]⟩, some ⟨2, [[.lst 1 (v.weights.map cI), VI v.need]]⟩]
abbrev sdq64 (b : Bid) (m : Vote) : OB := some ⟨8, [[VI b.time, VI b.phase, .v (.string b.own), .v (.string b.own), VI b.best.at_.time, VI b.best.at_.who, .v (.string b.best.data), .v (.int .u64 ((orU b.heard (Int.toNat m.node)).n : Int))]]⟩
abbrev sdq65 (v : Voters) (b : Bid) (m : Vote) (no : Int) : LB := [some ⟨2, [[.lst 1 (v.weights.map cI), VI v.need]]⟩, (sdq64 b m), (sdq1 m), sdq2, some ⟨2, [[.ref 1 8 0 0, VI no]]⟩, some ⟨2, [[.ref 1 8 0 0, VI no]]⟩, some ⟨2, [[.lst 1 (v.weights.map cI), VI v.need]]⟩]
abbrev sdq66 (b : Bid) : OB := some ⟨8, [[VI b.time, VI 2, .v (.string b.own), .v (.string b.own), VI b.best.at_.time, VI b.best.at_.who, .v (.string b.best.data), .v (.int .u64 0)]]⟩
abbrev sdq67 (v : Voters) (b : Bid) (m : Vote) (no : Int) : LB := [some ⟨2, [[.lst 1 (v.weights.map cI), VI v.need]]⟩, (sdq66 b), (sdq1 m), sdq2, some ⟨2, [[.ref 1 8 0 0, VI no]]⟩, some ⟨2, [[.ref 1 8 0 0, VI no]]⟩, some ⟨2, [[.lst 1 (v.weights.map cI), VI v.need]]⟩]
abbrev sdq68 (v : Voters) (b : Bid) (m : Vote) (no : Int) : LB := [some ⟨2, [[.lst 1 (v.weights.map cI), VI v.need]]⟩, (sdq66 b), (sdq1 m), sdq2, some ⟨2, [[.ref 1 8 0 0, VI no]]⟩]
abbrev sdq69 (v : Voters) (b : Bid) (m : Vote) (no : Int) : LB := [some ⟨2, [[.lst 1 (v.weights.map cI), VI v.need]]⟩, (sdq66 b), (sdq1 m), (sdq66 b), some ⟨2, [[.ref 1 8 0 0, VI no]]⟩]
abbrev sdq70 (b : Bid) : OB := some ⟨8, [[VI b.time, VI 2, .v (.string b.own), .v (.string b.best.data), VI b.best.at_.time, VI b.best.at_.who, .v (.string b.best.data), .v (.int .u64 0)]]⟩
abbrev sdq71 (v : Voters) (b : Bid) (m : Vote) (no : Int) : LB := [some ⟨2, [[.lst 1 (v.weights.map cI), VI v.need]]⟩, (sdq70 b), (sdq1 m), sdq2, some ⟨2, [[.ref 1 8 0 0, VI no]]⟩, some ⟨2, [[.ref 1 8 0 0, VI no]]⟩, some ⟨2, [[.lst 1 (v.weights.map cI), VI v.need]]⟩]
abbrev sdq72 (v : Voters) (b : Bid) (m : Vote) (no : Int) : LB := [some ⟨2, [[.lst 1 (v.weights.map cI), VI v.need]]⟩, (sdq70 b), (sdq1 m), sdq2, some ⟨2, [[.ref 1 8 0 0, VI no]]⟩]
abbrev sdq73 (v : Voters) (b : Bid) (m : Vote) (no : Int) : LB := [some ⟨2, [[.lst 1 (v.weights.map cI), VI v.need]]⟩, (sdq70 b), (sdq1 m), (sdq70 b), some ⟨2, [[.ref 1 8 0 0, VI no]]⟩]
abbrev sdq74 (v : Voters) (b : Bid) (m : Vote) (no : Int) : LB := [some ⟨2, [[.lst 1 (v.weights.map cI), VI v.need]]⟩, (sdq23 b m), (sdq1 m), (sdq23 b m), some ⟨2, [[.ref 1 8 0 0, VI no]]⟩]
abbrev sdq75 (b : Bid) (v : Voters) : LS := [(10, VI (b.checkE v.weights v.need)), (9, .emp), (8, .ref 3 8 0 0)]
theorem hear_fn (v : Voters) (no : Int) (b : Bid) (m : Vote) (hx : v.weights.length ≤ 9223372036854775807) : Fn Tryd.prog 16 [.agg [.lst 1 (v.weights.map cI), VI v.need], VI no, .agg [VI b.time, VI b.phase, .v (.string b.own), .v (.string b.value), VI b.best.at_.time, VI b.best.at_.who, .v (.string b.best.data), .v (.int .u64 (b.heard.n : Int))], .agg [VI m.kind, VI m.bid, VI m.node, VI m.copy.at_.time, VI m.copy.at_.who, .v (.string m.copy.data)]] (.tup [.agg [VI (((hearP v no b m).1).time), VI (((hearP v no b m).1).phase), .v (.string (((hearP v no b m).1).own)), .v (.string (((hearP v no b m).1).value)), VI (((((hearP v no b m).1).best).at_).time), VI (((((hearP v no b m).1).best).at_).who), .v (.string ((((hearP v no b m).1).best).data)), .v (.int .u64 (((hearP v no b m).1).heard.n : Int))], .lst 6 (((hearP v no b m).2.1).map Vote.cs), VI ((hearP v no b m).2.2)]) := by
  refine fn_walkW F16_ok (of_decide_eq_true (by kernel_rfl)) ?_
  refine EL.sreg ?_
  refine OW.last 6 [1, 4, 6, 7, 8] (x' := ⟨(sdq4 no), (sdq3 v b m)⟩) (by kernel_rfl) (by kernel_rfl) ?_
  refine EL.sreg ?_
  refine OW.last 1 [1, 4, 6, 7, 8, 11] (x' := ⟨(11, VI 3) :: (sdq4 no), (sdq3 v b m)⟩) (by kernel_rfl) (by kernel_rfl) ?_
  refine EL.seq ?_
  refine EL.sreg ?_
  refine OW.run 1 (x' := ⟨(17, VI no) :: (11, VI 3) :: (sdq4 no), (sdq3 v b m)⟩) (by kernel_rfl) ?_
  refine OW.fn (ar := [VI no]) (x' := ⟨(18, .v (.bool (wi no 0 30))) :: (17, VI no) :: (11, VI 3) :: (sdq4 no), (sdq3 v b m)⟩) (by kernel_rfl) (by kernel_rfl) F30_call (number_fn no) (by kernel_rfl) (by kernel_rfl) ?_
  refine OW.last 0 [1, 4, 6, 7, 8, 11, 18] (x' := ⟨(18, .v (.bool (wi no 0 30))) :: (11, VI 3) :: (sdq4 no), (sdq3 v b m)⟩) (by kernel_rfl) (by kernel_rfl) ?_
  rcases Bool.eq_false_or_eq_true (wi no 0 30) with h1 | h1
  rw [h1]
  have g1 : ((0 : Int) ≤ no ∧ (no : Int) ≤ 30) := wi_iff.1 h1
  refine EL.condT (by kernel_rfl) ?_
  refine EL.reg0 ?_
  refine OW.run 2 (x' := ⟨(sdq6 b v no), (sdq3 v b m)⟩) (by kernel_rfl) ?_
  refine OW.fn (ar := [.agg [.lst 1 (v.weights.map cI), VI v.need], (sdq5 b)]) (x' := ⟨(21, VI (b.checkE v.weights v.need)) :: (sdq6 b v no), (sdq3 v b m)⟩) (by kernel_rfl) (by kernel_rfl) F20_call (bcheck_fn v b hx) (by kernel_rfl) (by kernel_rfl) ?_
  refine OW.end 1 (x' := ⟨(sdq7 b v no), (sdq3 v b m)⟩) (by kernel_rfl) (by kernel_rfl) ?_
  refine thenL_norm ?_
  refine EL.seq ?_
  refine EL.sreg ?_
  refine OW.last 2 [1, 4, 6, 7, 8, 11, 23] (x' := ⟨(23, .v (.bool ((b.checkE v.weights v.need) == 0))) :: (11, VI (b.checkE v.weights v.need)) :: (sdq4 no), (sdq3 v b m)⟩) (by kernel_rfl) (by kernel_rfl) ?_
  rcases Bool.eq_false_or_eq_true (((b.checkE v.weights v.need) == 0)) with h2 | h2
  rw [h2]
  have g2 : ((b.checkE v.weights v.need) = 0) := by simpa using h2
  refine EL.condT (by kernel_rfl) ?_
  refine EL.reg0 ?_
  refine OW.run 1 (x' := ⟨(sdq9 m b v no), (sdq3 v b m)⟩) (by kernel_rfl) ?_
  refine OW.fn (ar := [(sdq8 m)]) (x' := ⟨(25, VI m.checkE) :: (sdq9 m b v no), (sdq3 v b m)⟩) (by kernel_rfl) (by kernel_rfl) F11_call (vcheck_fn m) (by kernel_rfl) (by kernel_rfl) ?_
  refine OW.end 1 (x' := ⟨(sdq10 m no), (sdq3 v b m)⟩) (by kernel_rfl) (by kernel_rfl) ?_
  refine thenL_norm ?_
  refine EL.seq ?_
  refine EL.sreg ?_
  refine OW.last 2 [1, 4, 6, 7, 8, 11, 27] (x' := ⟨(27, .v (.bool (m.checkE != 0))) :: (11, VI m.checkE) :: (sdq4 no), (sdq3 v b m)⟩) (by kernel_rfl) (by kernel_rfl) ?_
  rcases Bool.eq_false_or_eq_true ((m.checkE != 0)) with h3 | h3
  rw [h3]
  have g3 : ¬ (m.checkE = 0) := by simpa using h3
  refine EL.condT (by kernel_rfl) ?_
  refine EL.sreg ?_
  refine OW.last 5 [8, 9, 10] (x' := ⟨(sdq11 m), (sdq3 v b m)⟩) (by kernel_rfl) (by kernel_rfl) ?_
  refine EL.ret ?_
  refine thenL_ret ?_
  refine ⟨.inr rfl, .tup [.agg [VI 0, VI 0, .v (.string (⟨#[]⟩)), .v (.string (⟨#[]⟩)), VI 0, VI 0, .v (.string (⟨#[]⟩)), .v (.int .u64 0)], .emp, VI m.checkE], by kernel_rfl, Ale.trans (b := .tup [.agg [VI 0, VI 0, .v (.string (⟨#[]⟩)), .v (.string (⟨#[]⟩)), VI 0, VI 0, .v (.string (⟨#[]⟩)), .v (.int .u64 0)], .lst 6 [], VI m.checkE]) (Ale.tup (.cons (Ale.refl) (.cons (Ale.emp) (.cons (Ale.refl) (.nil))))) (Ale.of_eq ?_)⟩
  focus (first | (rw [hear_go (by omega) (by assumption) (by assumption) (by assumption) (by assumption) (by omega) (by assumption)]; first | (simp [heardP, onP, *]; done) | (simp_all [heardP, onP]; done)) | rfl | (simp [hearP, heardP, onP, Bid.zero, *]; done) | (simp_all [hearP, heardP, onP, Bid.zero]; done) | (simp only [hearP]; (repeat' split) <;> first | rfl | (exfalso; omega) | contradiction | (simp_all [heardP, onP]; done)))
  rw [h3]
  have g3 : (m.checkE = 0) := by simpa using h3
  refine EL.condF (by kernel_rfl) ?_
  refine EL.skip ?_
  refine thenL_norm ?_
  refine EL.sreg ?_
  refine OW.last 4 [1, 4, 6, 7, 8, 12] (x' := ⟨(12, .ref 4 2 0 0) :: (sdq4 no), (sdq12 v b m no)⟩) (by kernel_rfl) (by kernel_rfl) ?_
  refine EL.sreg ?_
  refine OW.run 2 (x' := ⟨(sdq13 m no), (sdq12 v b m no)⟩) (by kernel_rfl) ?_
  refine OW.ope (v := .v (.int .u64 (IntKind.u64.wrap (1 * 2 ^ (min (Int.toNat m.node) IntKind.u64.bits))))) (u := []) (acc := []) (x' := ⟨(34, .v (.int .u64 (IntKind.u64.wrap (1 * 2 ^ (min (Int.toNat m.node) IntKind.u64.bits))))) :: (sdq13 m no), (sdq12 v b m no)⟩) (by kernel_rfl) (opE_shl (.c (.v (.int .u64 1))) (.s 33) .u64 .i64 1 m.node (by kernel_rfl) (by kernel_rfl) (by kernel_rfl) (by kernel_rfl) (by have hvn := vote_node (m := m) (by omega); omega)) (by kernel_rfl) ?_
  have e4 : IntKind.u64.wrap (1 * 2 ^ (min (Int.toNat m.node) IntKind.u64.bits)) = ((2 ^ (Int.toNat m.node) : Nat) : Int) := shl1 (by have hvn := vote_node (m := m) (by omega); omega)
  rw [e4]
  refine OW.last 1 [1, 4, 6, 7, 8, 12, 13] (x' := ⟨(sdq14 m no), (sdq12 v b m no)⟩) (by kernel_rfl) (by kernel_rfl) ?_
  refine EL.seq ?_
  refine EL.sreg ?_
  refine OW.run 5 (x' := ⟨(39, .v (.bool (m.bid != no))) :: (38, .v (.bool (m.bid != no))) :: (sdq15 no m), (sdq12 v b m no)⟩) (by kernel_rfl) ?_
  rcases Bool.eq_false_or_eq_true ((m.bid != no)) with h5 | h5
  rw [h5]
  have g5 : ¬ (m.bid = no) := by simpa using h5
  refine OW.last 20 [4, 6, 7, 8, 12, 13, 59] (x' := ⟨(sdq16 m), (sdq12 v b m no)⟩) (by kernel_rfl) (by kernel_rfl) ?_
  refine EL.condT (by kernel_rfl) ?_
  refine EL.sreg ?_
  refine OW.last 4 [8, 9, 10] (x' := ⟨[(10, VI 0), (9, .emp), (8, .ref 3 8 0 0)], (sdq17 v b m no)⟩) (by kernel_rfl) (by kernel_rfl) ?_
  refine EL.ret ?_
  refine thenL_ret ?_
  refine ⟨.inr rfl, .tup [.agg [VI b.time, VI b.phase, .v (.string b.own), .v (.string b.value), VI b.best.at_.time, VI b.best.at_.who, .v (.string b.best.data), .v (.int .u64 (b.heard.n : Int))], .emp, VI 0], by kernel_rfl, Ale.trans (b := .tup [.agg [VI b.time, VI b.phase, .v (.string b.own), .v (.string b.value), VI b.best.at_.time, VI b.best.at_.who, .v (.string b.best.data), .v (.int .u64 (b.heard.n : Int))], .lst 6 [], VI 0]) (Ale.tup (.cons (Ale.refl) (.cons (Ale.emp) (.cons (Ale.refl) (.nil))))) (Ale.of_eq ?_)⟩
  focus (first | (rw [hear_go (by omega) (by assumption) (by assumption) (by assumption) (by assumption) (by omega) (by assumption)]; first | (simp [heardP, onP, *]; done) | (simp_all [heardP, onP]; done)) | rfl | (simp [hearP, heardP, onP, Bid.zero, *]; done) | (simp_all [hearP, heardP, onP, Bid.zero]; done) | (simp only [hearP]; (repeat' split) <;> first | rfl | (exfalso; omega) | contradiction | (simp_all [heardP, onP]; done)))
  rw [h5]
  have g5 : (m.bid = no) := by simpa using h5
  refine OW.run 2 (x' := ⟨(sdq18 m no), (sdq12 v b m no)⟩) (by kernel_rfl) ?_
  refine OW.fn (ar := [.agg [.ref 1 8 0 0, VI no], (sdq8 m)]) (x' := ⟨(42, .v (.bool (fitsP b no m))) :: (sdq18 m no), (sdq12 v b m no)⟩) (by kernel_rfl) (by kernel_rfl) F35_call (fits_fn b no m) (by kernel_rfl) (by kernel_rfl) ?_
  refine OW.run 3 (x' := ⟨(45, .v (.bool (!(fitsP b no m)))) :: (44, .v (.bool (!(fitsP b no m)))) :: (43, .v (.bool (!(fitsP b no m)))) :: (42, .v (.bool (fitsP b no m))) :: (sdq18 m no), (sdq12 v b m no)⟩) (by kernel_rfl) ?_
  rcases Bool.eq_false_or_eq_true (fitsP b no m) with h6 | h6
  rw [h6]
  refine OW.run 4 (x' := ⟨(sdq19 v m no), (sdq12 v b m no)⟩) (by kernel_rfl) ?_
  refine OW.ope (v := VI (List.length v.weights : Int)) (u := []) (acc := []) (x' := ⟨(50, VI (List.length v.weights : Int)) :: (sdq19 v m no), (sdq12 v b m no)⟩) (by kernel_rfl) (opE_len cI v.weights (.s 49) 1 (by kernel_rfl) (by kernel_rfl) (.inl rfl)) (by kernel_rfl) ?_
  refine OW.run 3 (x' := ⟨(53, .v (.bool (decide (m.node ≥ (List.length v.weights : Int))))) :: (52, .v (.bool (decide (m.node ≥ (List.length v.weights : Int))))) :: (51, .v (.bool (decide (m.node ≥ (List.length v.weights : Int))))) :: (50, VI (List.length v.weights : Int)) :: (sdq19 v m no), (sdq12 v b m no)⟩) (by kernel_rfl) ?_
  rcases Bool.eq_false_or_eq_true (decide (m.node ≥ (List.length v.weights : Int))) with h7 | h7
  rw [h7]
  have g7 : (m.node ≥ (List.length v.weights : Int)) := of_decide_eq_true h7
  refine OW.last 6 [4, 6, 7, 8, 12, 13, 59] (x' := ⟨(sdq16 m), (sdq12 v b m no)⟩) (by kernel_rfl) (by kernel_rfl) ?_
  refine EL.condT (by kernel_rfl) ?_
  refine EL.sreg ?_
  refine OW.last 4 [8, 9, 10] (x' := ⟨[(10, VI 0), (9, .emp), (8, .ref 3 8 0 0)], (sdq17 v b m no)⟩) (by kernel_rfl) (by kernel_rfl) ?_
  refine EL.ret ?_
  refine thenL_ret ?_
  refine ⟨.inr rfl, .tup [.agg [VI b.time, VI b.phase, .v (.string b.own), .v (.string b.value), VI b.best.at_.time, VI b.best.at_.who, .v (.string b.best.data), .v (.int .u64 (b.heard.n : Int))], .emp, VI 0], by kernel_rfl, Ale.trans (b := .tup [.agg [VI b.time, VI b.phase, .v (.string b.own), .v (.string b.value), VI b.best.at_.time, VI b.best.at_.who, .v (.string b.best.data), .v (.int .u64 (b.heard.n : Int))], .lst 6 [], VI 0]) (Ale.tup (.cons (Ale.refl) (.cons (Ale.emp) (.cons (Ale.refl) (.nil))))) (Ale.of_eq ?_)⟩
  focus (first | (rw [hear_go (by omega) (by assumption) (by assumption) (by assumption) (by assumption) (by omega) (by assumption)]; first | (simp [heardP, onP, *]; done) | (simp_all [heardP, onP]; done)) | rfl | (simp [hearP, heardP, onP, Bid.zero, *]; done) | (simp_all [hearP, heardP, onP, Bid.zero]; done) | (simp only [hearP]; (repeat' split) <;> first | rfl | (exfalso; omega) | contradiction | (simp_all [heardP, onP]; done)))
  rw [h7]
  have g7 : ¬ (m.node ≥ (List.length v.weights : Int)) := of_decide_eq_false h7
  refine OW.run 6 (x' := ⟨(59, .v (.bool ((bits .and .u64 (b.heard.n : Int) ((2 ^ (Int.toNat m.node) : Nat) : Int)) != 0))) :: (58, .v (.bool ((bits .and .u64 (b.heard.n : Int) ((2 ^ (Int.toNat m.node) : Nat) : Int)) != 0))) :: (57, .v (.int .u64 (bits .and .u64 (b.heard.n : Int) ((2 ^ (Int.toNat m.node) : Nat) : Int)))) :: (sdq20 m b v no), (sdq12 v b m no)⟩) (by kernel_rfl) ?_
  have e8 : bits .and .u64 (b.heard.n : Int) ((2 ^ (Int.toNat m.node) : Nat) : Int) = ((andU b.heard (Int.toNat m.node)).n : Int) := andU_bits (by have hvn := vote_node (m := m) (by omega); omega)
  rw [e8]
  clear e8
  refine OW.last 0 [4, 6, 7, 8, 12, 13, 59] (x' := ⟨(59, .v (.bool (((andU b.heard (Int.toNat m.node)).n : Int) != 0))) :: (sdq21 m), (sdq12 v b m no)⟩) (by kernel_rfl) (by kernel_rfl) ?_
  rcases Bool.eq_false_or_eq_true ((((andU b.heard (Int.toNat m.node)).n : Int) != 0)) with h9 | h9
  rw [h9]
  have g9 : ¬ (((andU b.heard (Int.toNat m.node)).n : Int) = 0) := by simpa using h9
  refine EL.condT (by kernel_rfl) ?_
  refine EL.sreg ?_
  refine OW.last 4 [8, 9, 10] (x' := ⟨[(10, VI 0), (9, .emp), (8, .ref 3 8 0 0)], (sdq17 v b m no)⟩) (by kernel_rfl) (by kernel_rfl) ?_
  refine EL.ret ?_
  refine thenL_ret ?_
  refine ⟨.inr rfl, .tup [.agg [VI b.time, VI b.phase, .v (.string b.own), .v (.string b.value), VI b.best.at_.time, VI b.best.at_.who, .v (.string b.best.data), .v (.int .u64 (b.heard.n : Int))], .emp, VI 0], by kernel_rfl, Ale.trans (b := .tup [.agg [VI b.time, VI b.phase, .v (.string b.own), .v (.string b.value), VI b.best.at_.time, VI b.best.at_.who, .v (.string b.best.data), .v (.int .u64 (b.heard.n : Int))], .lst 6 [], VI 0]) (Ale.tup (.cons (Ale.refl) (.cons (Ale.emp) (.cons (Ale.refl) (.nil))))) (Ale.of_eq ?_)⟩
  focus (first | (rw [hear_go (by omega) (by assumption) (by assumption) (by assumption) (by assumption) (by omega) (by assumption)]; first | (simp [heardP, onP, *]; done) | (simp_all [heardP, onP]; done)) | rfl | (simp [hearP, heardP, onP, Bid.zero, *]; done) | (simp_all [hearP, heardP, onP, Bid.zero]; done) | (simp only [hearP]; (repeat' split) <;> first | rfl | (exfalso; omega) | contradiction | (simp_all [heardP, onP]; done)))
  rw [h9]
  have g9 : (((andU b.heard (Int.toNat m.node)).n : Int) = 0) := by simpa using h9
  refine EL.condF (by kernel_rfl) ?_
  refine EL.skip ?_
  refine thenL_norm ?_
  refine EL.sreg ?_
  refine OW.run 6 (x' := ⟨(65, .ref 1 8 0 7) :: (64, .v (.int .u64 (bits .or .u64 (b.heard.n : Int) ((2 ^ (Int.toNat m.node) : Nat) : Int)))) :: (sdq22 m b), [some ⟨2, [[.lst 1 (v.weights.map cI), VI v.need]]⟩, some ⟨8, [[VI b.time, VI b.phase, .v (.string b.own), .v (.string b.value), VI b.best.at_.time, VI b.best.at_.who, .v (.string b.best.data), .v (.int .u64 (bits .or .u64 (b.heard.n : Int) ((2 ^ (Int.toNat m.node) : Nat) : Int)))]]⟩, (sdq1 m), sdq2, some ⟨2, [[.ref 1 8 0 0, VI no]]⟩]⟩) (by kernel_rfl) ?_
  have e10 : bits .or .u64 (b.heard.n : Int) ((2 ^ (Int.toNat m.node) : Nat) : Int) = ((orU b.heard (Int.toNat m.node)).n : Int) := orU_bits (by have hvn := vote_node (m := m) (by omega); omega)
  rw [e10]
  clear e10
  refine OW.last 0 [4, 6, 7, 8, 12] (x' := ⟨sdq25, (sdq24 v b m no)⟩) (by kernel_rfl) (by kernel_rfl) ?_
  refine EL.seq ?_
  refine EL.sreg ?_
  refine OW.last 3 [4, 6, 7, 8, 12, 68] (x' := ⟨(68, .v (.bool (b.phase == 1))) :: sdq25, (sdq24 v b m no)⟩) (by kernel_rfl) (by kernel_rfl) ?_
  rcases Bool.eq_false_or_eq_true ((b.phase == 1)) with h11 | h11
  rw [h11]
  have g11 : (b.phase = 1) := by simpa using h11
  refine EL.condT (by kernel_rfl) ?_
  refine EL.reg0 ?_
  refine OW.run 4 (x' := ⟨(sdq28 m b), (sdq24 v b m no)⟩) (by kernel_rfl) ?_
  refine OW.fn (ar := [(sdq27 b), (sdq26 m)]) (x' := ⟨(73, (sdq29 b m)) :: (sdq28 m b), (sdq24 v b m no)⟩) (by kernel_rfl) (by kernel_rfl) F36_call (raw_fn b.best m.copy) (by kernel_rfl) (by kernel_rfl) ?_
  refine OW.end 2 (x' := ⟨(74, .ref 1 8 0 4) :: (73, (sdq29 b m)) :: (sdq28 m b), (sdq31 v b m no)⟩) (by kernel_rfl) (by kernel_rfl) ?_
  refine thenL_norm ?_
  refine EL.sreg ?_
  refine OW.last 1 [4, 6, 8, 12, 14] (x' := ⟨sdq32, (sdq31 v b m no)⟩) (by kernel_rfl) (by kernel_rfl) ?_
  refine EL.seq ?_
  refine EL.sreg ?_
  refine OW.run 6 (x' := ⟨(sdq33 b m v), (sdq31 v b m no)⟩) (by kernel_rfl) ?_
  refine OW.fn (ar := [.lst 1 (v.weights.map cI), VI v.need, .v (.int .u64 ((orU b.heard (Int.toNat m.node)).n : Int))]) (x' := ⟨(82, .tup [.v (.bool ((enoughP v.weights v.need (orU b.heard (Int.toNat m.node)).n).1)), VI ((enoughP v.weights v.need (orU b.heard (Int.toNat m.node)).n).2)]) :: (sdq33 b m v), (sdq31 v b m no)⟩) (by kernel_rfl) (by kernel_rfl) F23_call (enough_fn v.weights v.need (orU b.heard (Int.toNat m.node)) hx) (by kernel_rfl) (by kernel_rfl) ?_
  refine OW.last 5 [4, 6, 8, 12, 14, 15] (x' := ⟨(15, .v (.bool ((enoughP v.weights v.need (orU b.heard (Int.toNat m.node)).n).1))) :: sdq32, (sdq31 v b m no)⟩) (by kernel_rfl) (by kernel_rfl) ?_
  refine EL.sreg ?_
  refine OW.last 1 [4, 6, 8, 12, 14, 85] (x' := ⟨(85, .v (.bool ((enoughP v.weights v.need (orU b.heard (Int.toNat m.node)).n).1))) :: sdq32, (sdq31 v b m no)⟩) (by kernel_rfl) (by kernel_rfl) ?_
  rcases Bool.eq_false_or_eq_true ((enoughP v.weights v.need (orU b.heard (Int.toNat m.node)).n).1) with h12 | h12
  rw [h12]
  refine EL.condT (by kernel_rfl) ?_
  refine EL.reg0 ?_
  refine OW.run 2 (x' := ⟨(sdq34 v no), (sdq31 v b m no)⟩) (by kernel_rfl) ?_
  rcases Bool.eq_false_or_eq_true ((b.phase == 2)) with h13 | h13
  try rw [h13]
  have g13 : (b.phase = 2) := by simpa using h13
  refine OW.fi (ar := [.agg [.ref 1 8 0 0, VI no], .agg [.lst 1 (v.weights.map cI), VI v.need]]) (r := .emp) (m' := (sdq38 v b m no)) (x' := ⟨(88, .emp) :: (sdq34 v no), (sdq38 v b m no)⟩) (by kernel_rfl) (by kernel_rfl) F37_call ?_ (by kernel_rfl) ?_
  refine fi_walkW F37_ok (of_decide_eq_true (by kernel_rfl)) ?_
  refine EL.sreg ?_
  refine OW.last 3 [2, 3] (x' := ⟨[(3, .ref 6 2 0 0), (2, .ref 5 2 0 0)], (sdq35 v b m no)⟩) (by kernel_rfl) (by kernel_rfl) ?_
  refine EL.seq ?_
  refine EL.sreg ?_
  refine OW.last 6 [2, 3, 10] (x' := ⟨[(10, .v (.bool (b.phase == 2))), (3, .ref 6 2 0 0), (2, .ref 5 2 0 0)], (sdq35 v b m no)⟩) (by kernel_rfl) (by kernel_rfl) ?_
  rw [h13]
  refine EL.condT (by kernel_rfl) ?_
  refine EL.sreg ?_
  refine OW.last 5 [] (x' := ⟨[], (sdq37 v b m no)⟩) (by kernel_rfl) (by kernel_rfl) ?_
  refine EL.sreg ?_
  refine OW.last 1 [4] (x' := ⟨[(4, .emp)], (sdq37 v b m no)⟩) (by kernel_rfl) (by kernel_rfl) ?_
  refine EL.ret ?_
  refine thenL_ret ?_
  refine ⟨.inr rfl, ⟨[(4, .emp)], (sdq38 v b m no)⟩, norm_le (live := [4]) (src := [.old 0 false, .old 1 false, .old 2 false, .old 3 false, .old 4 false]) (es := []) (by kernel_rfl) trivial, by kernel_rfl, rfl⟩
  refine OW.end 1 (x' := ⟨(sdq39 v no), (sdq38 v b m no)⟩) (by kernel_rfl) (by kernel_rfl) ?_
  refine thenL_norm ?_
  refine EL.sreg ?_
  refine OW.last 5 [8, 9, 10] (x' := ⟨[(10, VI 0), (9, .emp), (8, .ref 3 8 0 0)], (sdq40 v b m no)⟩) (by kernel_rfl) (by kernel_rfl) ?_
  refine EL.ret ?_
  refine ⟨.inr rfl, .tup [.agg [VI b.time, VI 3, .v (.string b.own), .v (.string b.value), VI (((b.best.raw m.copy).at_).time), VI (((b.best.raw m.copy).at_).who), .v (.string ((b.best.raw m.copy).data)), .v (.int .u64 ((orU b.heard (Int.toNat m.node)).n : Int))], .emp, VI 0], by kernel_rfl, Ale.trans (b := .tup [.agg [VI b.time, VI 3, .v (.string b.own), .v (.string b.value), VI (((b.best.raw m.copy).at_).time), VI (((b.best.raw m.copy).at_).who), .v (.string ((b.best.raw m.copy).data)), .v (.int .u64 ((orU b.heard (Int.toNat m.node)).n : Int))], .lst 6 [], VI 0]) (Ale.tup (.cons (Ale.refl) (.cons (Ale.emp) (.cons (Ale.refl) (.nil))))) (Ale.of_eq ?_)⟩
  focus (first | (rw [hear_go (by omega) (by assumption) (by assumption) (by assumption) (by assumption) (by omega) (by assumption)]; first | (simp [heardP, onP, *]; done) | (simp_all [heardP, onP]; done)) | rfl | (simp [hearP, heardP, onP, Bid.zero, *]; done) | (simp_all [hearP, heardP, onP, Bid.zero]; done) | (simp only [hearP]; (repeat' split) <;> first | rfl | (exfalso; omega) | contradiction | (simp_all [heardP, onP]; done)))
  try rw [h13]
  have g13 : ¬ (b.phase = 2) := by simpa using h13
  rcases Bool.eq_false_or_eq_true ((((((b.best.raw m.copy).at_).time) == 0) && (((((b.best.raw m.copy).at_).who) == 0) && true))) with h14 | h14
  try rw [h14]
  have g14 : (((b.best.raw m.copy).at_).time) = 0 ∧ (((b.best.raw m.copy).at_).who) = 0 := by simpa [strEq_iff] using h14
  refine OW.fi (ar := [.agg [.ref 1 8 0 0, VI no], .agg [.lst 1 (v.weights.map cI), VI v.need]]) (r := .lst 6 ((toAllP v.weights.length (⟨3, no, 0, (⟨(⟨(⟨b.time, 2, b.own, b.own, (⟨((b.best.raw m.copy).at_), (b.best.raw m.copy).data⟩ : Copy), (⟨0, by decide⟩ : U64)⟩ : Bid).time, no⟩ : Stamp), b.own⟩ : Copy)⟩ : Vote)).map Vote.cs)) (m' := (sdq49 v b m no)) (x' := ⟨(88, .lst 6 ((toAllP v.weights.length (⟨3, no, 0, (⟨(⟨(⟨b.time, 2, b.own, b.own, (⟨((b.best.raw m.copy).at_), (b.best.raw m.copy).data⟩ : Copy), (⟨0, by decide⟩ : U64)⟩ : Bid).time, no⟩ : Stamp), b.own⟩ : Copy)⟩ : Vote)).map Vote.cs)) :: (sdq34 v no), (sdq49 v b m no)⟩) (by kernel_rfl) (by kernel_rfl) F37_call ?_ (by kernel_rfl) ?_
  refine fi_walkW F37_ok (of_decide_eq_true (by kernel_rfl)) ?_
  refine EL.sreg ?_
  refine OW.last 3 [2, 3] (x' := ⟨[(3, .ref 6 2 0 0), (2, .ref 5 2 0 0)], (sdq35 v b m no)⟩) (by kernel_rfl) (by kernel_rfl) ?_
  refine EL.seq ?_
  refine EL.sreg ?_
  refine OW.last 6 [2, 3, 10] (x' := ⟨[(10, .v (.bool (b.phase == 2))), (3, .ref 6 2 0 0), (2, .ref 5 2 0 0)], (sdq35 v b m no)⟩) (by kernel_rfl) (by kernel_rfl) ?_
  rw [h13]
  refine EL.condF (by kernel_rfl) ?_
  refine EL.skip ?_
  refine thenL_norm ?_
  refine EL.sdraw ?_
  refine DW.last 11 [2, 3] (x' := ⟨[(3, .ref 6 2 0 0), (2, .ref 5 2 0 0)], (sdq42 v b m no)⟩) (by kernel_rfl) (by kernel_rfl) ?_
  refine EL.seq ?_
  refine EL.sreg ?_
  refine OW.last 8 [2, 3, 32] (x' := ⟨[(32, .v (.bool (((((b.best.raw m.copy).at_).time) == 0) && (((((b.best.raw m.copy).at_).who) == 0) && true)))), (3, .ref 6 2 0 0), (2, .ref 5 2 0 0)], (sdq42 v b m no)⟩) (by kernel_rfl) (by kernel_rfl) ?_
  rw [h14]
  refine EL.condT (by kernel_rfl) ?_
  refine EL.draw0 ?_
  refine DW.end 10 (x' := ⟨(sdq45 b), (sdq44 v b m no)⟩) (by kernel_rfl) (by kernel_rfl) ?_
  refine thenL_norm ?_
  refine EL.sdraw ?_
  refine DW.last 10 [2, 3] (x' := ⟨[(3, .ref 6 2 0 0), (2, .ref 5 2 0 0)], (sdq47 v b m no)⟩) (by kernel_rfl) (by kernel_rfl) ?_
  refine EL.sdraw ?_
  refine DW.run 4 (x' := ⟨(sdq48 no v), (sdq47 v b m no)⟩) (by kernel_rfl) ?_
  refine DW.fn (ar := [.agg [.ref 1 8 0 0, VI no]]) (x' := ⟨(54, .agg [VI ((⟨(⟨b.time, 2, b.own, b.own, (⟨((b.best.raw m.copy).at_), (b.best.raw m.copy).data⟩ : Copy), (⟨0, by decide⟩ : U64)⟩ : Bid).time, no⟩ : Stamp).time), VI ((⟨(⟨b.time, 2, b.own, b.own, (⟨((b.best.raw m.copy).at_), (b.best.raw m.copy).data⟩ : Copy), (⟨0, by decide⟩ : U64)⟩ : Bid).time, no⟩ : Stamp).who)]) :: (sdq48 no v), (sdq47 v b m no)⟩) (by kernel_rfl) (by kernel_rfl) F39_call (at_fn (⟨b.time, 2, b.own, b.own, (⟨((b.best.raw m.copy).at_), (b.best.raw m.copy).data⟩ : Copy), (⟨0, by decide⟩ : U64)⟩ : Bid) no) (by kernel_rfl) (by kernel_rfl) ?_
  refine DW.run 7 (x' := ⟨(61, .agg [VI 3, VI no, VI 0, VI ((⟨(⟨b.time, 2, b.own, b.own, (⟨((b.best.raw m.copy).at_), (b.best.raw m.copy).data⟩ : Copy), (⟨0, by decide⟩ : U64)⟩ : Bid).time, no⟩ : Stamp).time), VI ((⟨(⟨b.time, 2, b.own, b.own, (⟨((b.best.raw m.copy).at_), (b.best.raw m.copy).data⟩ : Copy), (⟨0, by decide⟩ : U64)⟩ : Bid).time, no⟩ : Stamp).who), .v (.string b.own)]) :: (60, .agg [VI ((⟨(⟨b.time, 2, b.own, b.own, (⟨((b.best.raw m.copy).at_), (b.best.raw m.copy).data⟩ : Copy), (⟨0, by decide⟩ : U64)⟩ : Bid).time, no⟩ : Stamp).time), VI ((⟨(⟨b.time, 2, b.own, b.own, (⟨((b.best.raw m.copy).at_), (b.best.raw m.copy).data⟩ : Copy), (⟨0, by decide⟩ : U64)⟩ : Bid).time, no⟩ : Stamp).who), .v (.string b.own)]) :: (59, .v (.string b.own)) :: (58, .ref 1 8 0 3) :: (57, .ref 1 8 0 0) :: (56, .ref 1 8 0 0) :: (55, .ref 5 2 0 0) :: (54, .agg [VI ((⟨(⟨b.time, 2, b.own, b.own, (⟨((b.best.raw m.copy).at_), (b.best.raw m.copy).data⟩ : Copy), (⟨0, by decide⟩ : U64)⟩ : Bid).time, no⟩ : Stamp).time), VI ((⟨(⟨b.time, 2, b.own, b.own, (⟨((b.best.raw m.copy).at_), (b.best.raw m.copy).data⟩ : Copy), (⟨0, by decide⟩ : U64)⟩ : Bid).time, no⟩ : Stamp).who)]) :: (sdq48 no v), (sdq47 v b m no)⟩) (by kernel_rfl) ?_
  refine DW.fn (ar := [.agg [.lst 1 (v.weights.map cI), VI v.need], .agg [VI 3, VI no, VI 0, VI ((⟨(⟨b.time, 2, b.own, b.own, (⟨((b.best.raw m.copy).at_), (b.best.raw m.copy).data⟩ : Copy), (⟨0, by decide⟩ : U64)⟩ : Bid).time, no⟩ : Stamp).time), VI ((⟨(⟨b.time, 2, b.own, b.own, (⟨((b.best.raw m.copy).at_), (b.best.raw m.copy).data⟩ : Copy), (⟨0, by decide⟩ : U64)⟩ : Bid).time, no⟩ : Stamp).who), .v (.string b.own)]]) (x' := ⟨(62, .lst 6 ((toAllP v.weights.length (⟨3, no, 0, (⟨(⟨(⟨b.time, 2, b.own, b.own, (⟨((b.best.raw m.copy).at_), (b.best.raw m.copy).data⟩ : Copy), (⟨0, by decide⟩ : U64)⟩ : Bid).time, no⟩ : Stamp), b.own⟩ : Copy)⟩ : Vote)).map Vote.cs)) :: (61, .agg [VI 3, VI no, VI 0, VI ((⟨(⟨b.time, 2, b.own, b.own, (⟨((b.best.raw m.copy).at_), (b.best.raw m.copy).data⟩ : Copy), (⟨0, by decide⟩ : U64)⟩ : Bid).time, no⟩ : Stamp).time), VI ((⟨(⟨b.time, 2, b.own, b.own, (⟨((b.best.raw m.copy).at_), (b.best.raw m.copy).data⟩ : Copy), (⟨0, by decide⟩ : U64)⟩ : Bid).time, no⟩ : Stamp).who), .v (.string b.own)]) :: (60, .agg [VI ((⟨(⟨b.time, 2, b.own, b.own, (⟨((b.best.raw m.copy).at_), (b.best.raw m.copy).data⟩ : Copy), (⟨0, by decide⟩ : U64)⟩ : Bid).time, no⟩ : Stamp).time), VI ((⟨(⟨b.time, 2, b.own, b.own, (⟨((b.best.raw m.copy).at_), (b.best.raw m.copy).data⟩ : Copy), (⟨0, by decide⟩ : U64)⟩ : Bid).time, no⟩ : Stamp).who), .v (.string b.own)]) :: (59, .v (.string b.own)) :: (58, .ref 1 8 0 3) :: (57, .ref 1 8 0 0) :: (56, .ref 1 8 0 0) :: (55, .ref 5 2 0 0) :: (54, .agg [VI ((⟨(⟨b.time, 2, b.own, b.own, (⟨((b.best.raw m.copy).at_), (b.best.raw m.copy).data⟩ : Copy), (⟨0, by decide⟩ : U64)⟩ : Bid).time, no⟩ : Stamp).time), VI ((⟨(⟨b.time, 2, b.own, b.own, (⟨((b.best.raw m.copy).at_), (b.best.raw m.copy).data⟩ : Copy), (⟨0, by decide⟩ : U64)⟩ : Bid).time, no⟩ : Stamp).who)]) :: (sdq48 no v), (sdq47 v b m no)⟩) (by kernel_rfl) (by kernel_rfl) F38_call (toAll_fn v (⟨3, no, 0, (⟨(⟨(⟨b.time, 2, b.own, b.own, (⟨((b.best.raw m.copy).at_), (b.best.raw m.copy).data⟩ : Copy), (⟨0, by decide⟩ : U64)⟩ : Bid).time, no⟩ : Stamp), b.own⟩ : Copy)⟩ : Vote) (by first | omega | exact bid_len (by assumption))) (by kernel_rfl) (by kernel_rfl) ?_
  refine DW.last 1 [4] (x' := ⟨[(4, .lst 6 ((toAllP v.weights.length (⟨3, no, 0, (⟨(⟨(⟨b.time, 2, b.own, b.own, (⟨((b.best.raw m.copy).at_), (b.best.raw m.copy).data⟩ : Copy), (⟨0, by decide⟩ : U64)⟩ : Bid).time, no⟩ : Stamp), b.own⟩ : Copy)⟩ : Vote)).map Vote.cs))], (sdq47 v b m no)⟩) (by kernel_rfl) (by kernel_rfl) ?_
  refine EL.ret ?_
  refine ⟨.inr rfl, ⟨[(4, .lst 6 ((toAllP v.weights.length (⟨3, no, 0, (⟨(⟨(⟨b.time, 2, b.own, b.own, (⟨((b.best.raw m.copy).at_), (b.best.raw m.copy).data⟩ : Copy), (⟨0, by decide⟩ : U64)⟩ : Bid).time, no⟩ : Stamp), b.own⟩ : Copy)⟩ : Vote)).map Vote.cs))], (sdq49 v b m no)⟩, norm_le (live := [4]) (src := [.old 0 false, .old 1 false, .old 2 false, .old 3 false, .old 4 false]) (es := []) (by kernel_rfl) trivial, by kernel_rfl, rfl⟩
  refine OW.end 1 (x' := ⟨(14, .lst 6 ((toAllP v.weights.length (⟨3, no, 0, (⟨(⟨(⟨b.time, 2, b.own, b.own, (⟨((b.best.raw m.copy).at_), (b.best.raw m.copy).data⟩ : Copy), (⟨0, by decide⟩ : U64)⟩ : Bid).time, no⟩ : Stamp), b.own⟩ : Copy)⟩ : Vote)).map Vote.cs)) :: (88, .lst 6 ((toAllP v.weights.length (⟨3, no, 0, (⟨(⟨(⟨b.time, 2, b.own, b.own, (⟨((b.best.raw m.copy).at_), (b.best.raw m.copy).data⟩ : Copy), (⟨0, by decide⟩ : U64)⟩ : Bid).time, no⟩ : Stamp), b.own⟩ : Copy)⟩ : Vote)).map Vote.cs)) :: (sdq50 v no), (sdq49 v b m no)⟩) (by kernel_rfl) (by kernel_rfl) ?_
  refine thenL_norm ?_
  refine EL.sreg ?_
  refine OW.last 5 [8, 9, 10] (x' := ⟨[(10, VI 0), (9, .lst 6 ((toAllP v.weights.length (⟨3, no, 0, (⟨(⟨(⟨b.time, 2, b.own, b.own, (⟨((b.best.raw m.copy).at_), (b.best.raw m.copy).data⟩ : Copy), (⟨0, by decide⟩ : U64)⟩ : Bid).time, no⟩ : Stamp), b.own⟩ : Copy)⟩ : Vote)).map Vote.cs)), (8, .ref 3 8 0 0)], (sdq51 v b m no)⟩) (by kernel_rfl) (by kernel_rfl) ?_
  refine EL.ret ?_
  refine ⟨.inr rfl, .tup [.agg [VI b.time, VI 2, .v (.string b.own), .v (.string b.own), VI (((b.best.raw m.copy).at_).time), VI (((b.best.raw m.copy).at_).who), .v (.string ((b.best.raw m.copy).data)), .v (.int .u64 0)], .lst 6 ((toAllP v.weights.length (⟨3, no, 0, (⟨(⟨(⟨b.time, 2, b.own, b.own, (⟨((b.best.raw m.copy).at_), (b.best.raw m.copy).data⟩ : Copy), (⟨0, by decide⟩ : U64)⟩ : Bid).time, no⟩ : Stamp), b.own⟩ : Copy)⟩ : Vote)).map Vote.cs), VI 0], by kernel_rfl, Ale.of_eq ?_⟩
  focus (first | (rw [hear_go (by omega) (by assumption) (by assumption) (by assumption) (by assumption) (by omega) (by assumption)]; first | (simp [heardP, onP, *]; done) | (simp_all [heardP, onP]; done)) | rfl | (simp [hearP, heardP, onP, Bid.zero, *]; done) | (simp_all [hearP, heardP, onP, Bid.zero]; done) | (simp only [hearP]; (repeat' split) <;> first | rfl | (exfalso; omega) | contradiction | (simp_all [heardP, onP]; done)))
  try rw [h14]
  have g14 : ¬ ((((b.best.raw m.copy).at_).time) = 0 ∧ (((b.best.raw m.copy).at_).who) = 0) := fun ⟨q0, q1⟩ => Bool.noConfusion ((show ((((((b.best.raw m.copy).at_).time) == 0) && (((((b.best.raw m.copy).at_).who) == 0) && true))) = true by first | (simp [q0, q1, strEq_iff]; done) | (simp only [q0, q1, beq_self_eq_true, Bool.and_self, Bool.and_true, Bool.true_and]; done)).symm.trans h14)
  refine OW.fi (ar := [.agg [.ref 1 8 0 0, VI no], .agg [.lst 1 (v.weights.map cI), VI v.need]]) (r := .lst 6 ((toAllP v.weights.length (⟨3, no, 0, (⟨(⟨(⟨b.time, 2, b.own, (b.best.raw m.copy).data, (⟨((b.best.raw m.copy).at_), (b.best.raw m.copy).data⟩ : Copy), (⟨0, by decide⟩ : U64)⟩ : Bid).time, no⟩ : Stamp), (b.best.raw m.copy).data⟩ : Copy)⟩ : Vote)).map Vote.cs)) (m' := (sdq54 v b m no)) (x' := ⟨(88, .lst 6 ((toAllP v.weights.length (⟨3, no, 0, (⟨(⟨(⟨b.time, 2, b.own, (b.best.raw m.copy).data, (⟨((b.best.raw m.copy).at_), (b.best.raw m.copy).data⟩ : Copy), (⟨0, by decide⟩ : U64)⟩ : Bid).time, no⟩ : Stamp), (b.best.raw m.copy).data⟩ : Copy)⟩ : Vote)).map Vote.cs)) :: (sdq34 v no), (sdq54 v b m no)⟩) (by kernel_rfl) (by kernel_rfl) F37_call ?_ (by kernel_rfl) ?_
  refine fi_walkW F37_ok (of_decide_eq_true (by kernel_rfl)) ?_
  refine EL.sreg ?_
  refine OW.last 3 [2, 3] (x' := ⟨[(3, .ref 6 2 0 0), (2, .ref 5 2 0 0)], (sdq35 v b m no)⟩) (by kernel_rfl) (by kernel_rfl) ?_
  refine EL.seq ?_
  refine EL.sreg ?_
  refine OW.last 6 [2, 3, 10] (x' := ⟨[(10, .v (.bool (b.phase == 2))), (3, .ref 6 2 0 0), (2, .ref 5 2 0 0)], (sdq35 v b m no)⟩) (by kernel_rfl) (by kernel_rfl) ?_
  rw [h13]
  refine EL.condF (by kernel_rfl) ?_
  refine EL.skip ?_
  refine thenL_norm ?_
  refine EL.sdraw ?_
  refine DW.last 11 [2, 3] (x' := ⟨[(3, .ref 6 2 0 0), (2, .ref 5 2 0 0)], (sdq42 v b m no)⟩) (by kernel_rfl) (by kernel_rfl) ?_
  refine EL.seq ?_
  refine EL.sreg ?_
  refine OW.last 8 [2, 3, 32] (x' := ⟨[(32, .v (.bool (((((b.best.raw m.copy).at_).time) == 0) && (((((b.best.raw m.copy).at_).who) == 0) && true)))), (3, .ref 6 2 0 0), (2, .ref 5 2 0 0)], (sdq42 v b m no)⟩) (by kernel_rfl) (by kernel_rfl) ?_
  rw [h14]
  refine EL.condF (by kernel_rfl) ?_
  refine EL.skip ?_
  refine thenL_norm ?_
  refine EL.sdraw ?_
  refine DW.last 10 [2, 3] (x' := ⟨[(3, .ref 6 2 0 0), (2, .ref 5 2 0 0)], (sdq53 v b m no)⟩) (by kernel_rfl) (by kernel_rfl) ?_
  refine EL.sdraw ?_
  refine DW.run 4 (x' := ⟨(sdq48 no v), (sdq53 v b m no)⟩) (by kernel_rfl) ?_
  refine DW.fn (ar := [.agg [.ref 1 8 0 0, VI no]]) (x' := ⟨(54, .agg [VI ((⟨(⟨b.time, 2, b.own, (b.best.raw m.copy).data, (⟨((b.best.raw m.copy).at_), (b.best.raw m.copy).data⟩ : Copy), (⟨0, by decide⟩ : U64)⟩ : Bid).time, no⟩ : Stamp).time), VI ((⟨(⟨b.time, 2, b.own, (b.best.raw m.copy).data, (⟨((b.best.raw m.copy).at_), (b.best.raw m.copy).data⟩ : Copy), (⟨0, by decide⟩ : U64)⟩ : Bid).time, no⟩ : Stamp).who)]) :: (sdq48 no v), (sdq53 v b m no)⟩) (by kernel_rfl) (by kernel_rfl) F39_call (at_fn (⟨b.time, 2, b.own, (b.best.raw m.copy).data, (⟨((b.best.raw m.copy).at_), (b.best.raw m.copy).data⟩ : Copy), (⟨0, by decide⟩ : U64)⟩ : Bid) no) (by kernel_rfl) (by kernel_rfl) ?_
  refine DW.run 7 (x' := ⟨(61, .agg [VI 3, VI no, VI 0, VI ((⟨(⟨b.time, 2, b.own, (b.best.raw m.copy).data, (⟨((b.best.raw m.copy).at_), (b.best.raw m.copy).data⟩ : Copy), (⟨0, by decide⟩ : U64)⟩ : Bid).time, no⟩ : Stamp).time), VI ((⟨(⟨b.time, 2, b.own, (b.best.raw m.copy).data, (⟨((b.best.raw m.copy).at_), (b.best.raw m.copy).data⟩ : Copy), (⟨0, by decide⟩ : U64)⟩ : Bid).time, no⟩ : Stamp).who), .v (.string ((b.best.raw m.copy).data))]) :: (60, .agg [VI ((⟨(⟨b.time, 2, b.own, (b.best.raw m.copy).data, (⟨((b.best.raw m.copy).at_), (b.best.raw m.copy).data⟩ : Copy), (⟨0, by decide⟩ : U64)⟩ : Bid).time, no⟩ : Stamp).time), VI ((⟨(⟨b.time, 2, b.own, (b.best.raw m.copy).data, (⟨((b.best.raw m.copy).at_), (b.best.raw m.copy).data⟩ : Copy), (⟨0, by decide⟩ : U64)⟩ : Bid).time, no⟩ : Stamp).who), .v (.string ((b.best.raw m.copy).data))]) :: (59, .v (.string ((b.best.raw m.copy).data))) :: (58, .ref 1 8 0 3) :: (57, .ref 1 8 0 0) :: (56, .ref 1 8 0 0) :: (55, .ref 5 2 0 0) :: (54, .agg [VI ((⟨(⟨b.time, 2, b.own, (b.best.raw m.copy).data, (⟨((b.best.raw m.copy).at_), (b.best.raw m.copy).data⟩ : Copy), (⟨0, by decide⟩ : U64)⟩ : Bid).time, no⟩ : Stamp).time), VI ((⟨(⟨b.time, 2, b.own, (b.best.raw m.copy).data, (⟨((b.best.raw m.copy).at_), (b.best.raw m.copy).data⟩ : Copy), (⟨0, by decide⟩ : U64)⟩ : Bid).time, no⟩ : Stamp).who)]) :: (sdq48 no v), (sdq53 v b m no)⟩) (by kernel_rfl) ?_
  refine DW.fn (ar := [.agg [.lst 1 (v.weights.map cI), VI v.need], .agg [VI 3, VI no, VI 0, VI ((⟨(⟨b.time, 2, b.own, (b.best.raw m.copy).data, (⟨((b.best.raw m.copy).at_), (b.best.raw m.copy).data⟩ : Copy), (⟨0, by decide⟩ : U64)⟩ : Bid).time, no⟩ : Stamp).time), VI ((⟨(⟨b.time, 2, b.own, (b.best.raw m.copy).data, (⟨((b.best.raw m.copy).at_), (b.best.raw m.copy).data⟩ : Copy), (⟨0, by decide⟩ : U64)⟩ : Bid).time, no⟩ : Stamp).who), .v (.string ((b.best.raw m.copy).data))]]) (x' := ⟨(62, .lst 6 ((toAllP v.weights.length (⟨3, no, 0, (⟨(⟨(⟨b.time, 2, b.own, (b.best.raw m.copy).data, (⟨((b.best.raw m.copy).at_), (b.best.raw m.copy).data⟩ : Copy), (⟨0, by decide⟩ : U64)⟩ : Bid).time, no⟩ : Stamp), (b.best.raw m.copy).data⟩ : Copy)⟩ : Vote)).map Vote.cs)) :: (61, .agg [VI 3, VI no, VI 0, VI ((⟨(⟨b.time, 2, b.own, (b.best.raw m.copy).data, (⟨((b.best.raw m.copy).at_), (b.best.raw m.copy).data⟩ : Copy), (⟨0, by decide⟩ : U64)⟩ : Bid).time, no⟩ : Stamp).time), VI ((⟨(⟨b.time, 2, b.own, (b.best.raw m.copy).data, (⟨((b.best.raw m.copy).at_), (b.best.raw m.copy).data⟩ : Copy), (⟨0, by decide⟩ : U64)⟩ : Bid).time, no⟩ : Stamp).who), .v (.string ((b.best.raw m.copy).data))]) :: (60, .agg [VI ((⟨(⟨b.time, 2, b.own, (b.best.raw m.copy).data, (⟨((b.best.raw m.copy).at_), (b.best.raw m.copy).data⟩ : Copy), (⟨0, by decide⟩ : U64)⟩ : Bid).time, no⟩ : Stamp).time), VI ((⟨(⟨b.time, 2, b.own, (b.best.raw m.copy).data, (⟨((b.best.raw m.copy).at_), (b.best.raw m.copy).data⟩ : Copy), (⟨0, by decide⟩ : U64)⟩ : Bid).time, no⟩ : Stamp).who), .v (.string ((b.best.raw m.copy).data))]) :: (59, .v (.string ((b.best.raw m.copy).data))) :: (58, .ref 1 8 0 3) :: (57, .ref 1 8 0 0) :: (56, .ref 1 8 0 0) :: (55, .ref 5 2 0 0) :: (54, .agg [VI ((⟨(⟨b.time, 2, b.own, (b.best.raw m.copy).data, (⟨((b.best.raw m.copy).at_), (b.best.raw m.copy).data⟩ : Copy), (⟨0, by decide⟩ : U64)⟩ : Bid).time, no⟩ : Stamp).time), VI ((⟨(⟨b.time, 2, b.own, (b.best.raw m.copy).data, (⟨((b.best.raw m.copy).at_), (b.best.raw m.copy).data⟩ : Copy), (⟨0, by decide⟩ : U64)⟩ : Bid).time, no⟩ : Stamp).who)]) :: (sdq48 no v), (sdq53 v b m no)⟩) (by kernel_rfl) (by kernel_rfl) F38_call (toAll_fn v (⟨3, no, 0, (⟨(⟨(⟨b.time, 2, b.own, (b.best.raw m.copy).data, (⟨((b.best.raw m.copy).at_), (b.best.raw m.copy).data⟩ : Copy), (⟨0, by decide⟩ : U64)⟩ : Bid).time, no⟩ : Stamp), (b.best.raw m.copy).data⟩ : Copy)⟩ : Vote) (by first | omega | exact bid_len (by assumption))) (by kernel_rfl) (by kernel_rfl) ?_
  refine DW.last 1 [4] (x' := ⟨[(4, .lst 6 ((toAllP v.weights.length (⟨3, no, 0, (⟨(⟨(⟨b.time, 2, b.own, (b.best.raw m.copy).data, (⟨((b.best.raw m.copy).at_), (b.best.raw m.copy).data⟩ : Copy), (⟨0, by decide⟩ : U64)⟩ : Bid).time, no⟩ : Stamp), (b.best.raw m.copy).data⟩ : Copy)⟩ : Vote)).map Vote.cs))], (sdq53 v b m no)⟩) (by kernel_rfl) (by kernel_rfl) ?_
  refine EL.ret ?_
  refine ⟨.inr rfl, ⟨[(4, .lst 6 ((toAllP v.weights.length (⟨3, no, 0, (⟨(⟨(⟨b.time, 2, b.own, (b.best.raw m.copy).data, (⟨((b.best.raw m.copy).at_), (b.best.raw m.copy).data⟩ : Copy), (⟨0, by decide⟩ : U64)⟩ : Bid).time, no⟩ : Stamp), (b.best.raw m.copy).data⟩ : Copy)⟩ : Vote)).map Vote.cs))], (sdq54 v b m no)⟩, norm_le (live := [4]) (src := [.old 0 false, .old 1 false, .old 2 false, .old 3 false, .old 4 false]) (es := []) (by kernel_rfl) trivial, by kernel_rfl, rfl⟩
  refine OW.end 1 (x' := ⟨(14, .lst 6 ((toAllP v.weights.length (⟨3, no, 0, (⟨(⟨(⟨b.time, 2, b.own, (b.best.raw m.copy).data, (⟨((b.best.raw m.copy).at_), (b.best.raw m.copy).data⟩ : Copy), (⟨0, by decide⟩ : U64)⟩ : Bid).time, no⟩ : Stamp), (b.best.raw m.copy).data⟩ : Copy)⟩ : Vote)).map Vote.cs)) :: (88, .lst 6 ((toAllP v.weights.length (⟨3, no, 0, (⟨(⟨(⟨b.time, 2, b.own, (b.best.raw m.copy).data, (⟨((b.best.raw m.copy).at_), (b.best.raw m.copy).data⟩ : Copy), (⟨0, by decide⟩ : U64)⟩ : Bid).time, no⟩ : Stamp), (b.best.raw m.copy).data⟩ : Copy)⟩ : Vote)).map Vote.cs)) :: (sdq50 v no), (sdq54 v b m no)⟩) (by kernel_rfl) (by kernel_rfl) ?_
  refine thenL_norm ?_
  refine EL.sreg ?_
  refine OW.last 5 [8, 9, 10] (x' := ⟨[(10, VI 0), (9, .lst 6 ((toAllP v.weights.length (⟨3, no, 0, (⟨(⟨(⟨b.time, 2, b.own, (b.best.raw m.copy).data, (⟨((b.best.raw m.copy).at_), (b.best.raw m.copy).data⟩ : Copy), (⟨0, by decide⟩ : U64)⟩ : Bid).time, no⟩ : Stamp), (b.best.raw m.copy).data⟩ : Copy)⟩ : Vote)).map Vote.cs)), (8, .ref 3 8 0 0)], (sdq55 v b m no)⟩) (by kernel_rfl) (by kernel_rfl) ?_
  refine EL.ret ?_
  refine ⟨.inr rfl, .tup [.agg [VI b.time, VI 2, .v (.string b.own), .v (.string ((b.best.raw m.copy).data)), VI (((b.best.raw m.copy).at_).time), VI (((b.best.raw m.copy).at_).who), .v (.string ((b.best.raw m.copy).data)), .v (.int .u64 0)], .lst 6 ((toAllP v.weights.length (⟨3, no, 0, (⟨(⟨(⟨b.time, 2, b.own, (b.best.raw m.copy).data, (⟨((b.best.raw m.copy).at_), (b.best.raw m.copy).data⟩ : Copy), (⟨0, by decide⟩ : U64)⟩ : Bid).time, no⟩ : Stamp), (b.best.raw m.copy).data⟩ : Copy)⟩ : Vote)).map Vote.cs), VI 0], by kernel_rfl, Ale.of_eq ?_⟩
  focus (first | (rw [hear_go (by omega) (by assumption) (by assumption) (by assumption) (by assumption) (by omega) (by assumption)]; first | (simp [heardP, onP, *]; done) | (simp_all [heardP, onP]; done)) | rfl | (simp [hearP, heardP, onP, Bid.zero, *]; done) | (simp_all [hearP, heardP, onP, Bid.zero]; done) | (simp only [hearP]; (repeat' split) <;> first | rfl | (exfalso; omega) | contradiction | (simp_all [heardP, onP]; done)))
  rw [h12]
  refine EL.condF (by kernel_rfl) ?_
  refine EL.skip ?_
  refine thenL_norm ?_
  refine EL.sreg ?_
  refine OW.last 5 [8, 9, 10] (x' := ⟨[(10, VI 0), (9, .emp), (8, .ref 3 8 0 0)], (sdq56 v b m no)⟩) (by kernel_rfl) (by kernel_rfl) ?_
  refine EL.ret ?_
  refine ⟨.inr rfl, .tup [.agg [VI b.time, VI b.phase, .v (.string b.own), .v (.string b.value), VI (((b.best.raw m.copy).at_).time), VI (((b.best.raw m.copy).at_).who), .v (.string ((b.best.raw m.copy).data)), .v (.int .u64 ((orU b.heard (Int.toNat m.node)).n : Int))], .emp, VI 0], by kernel_rfl, Ale.trans (b := .tup [.agg [VI b.time, VI b.phase, .v (.string b.own), .v (.string b.value), VI (((b.best.raw m.copy).at_).time), VI (((b.best.raw m.copy).at_).who), .v (.string ((b.best.raw m.copy).data)), .v (.int .u64 ((orU b.heard (Int.toNat m.node)).n : Int))], .lst 6 [], VI 0]) (Ale.tup (.cons (Ale.refl) (.cons (Ale.emp) (.cons (Ale.refl) (.nil))))) (Ale.of_eq ?_)⟩
  focus (first | (rw [hear_go (by omega) (by assumption) (by assumption) (by assumption) (by assumption) (by omega) (by assumption)]; first | (simp [heardP, onP, *]; done) | (simp_all [heardP, onP]; done)) | rfl | (simp [hearP, heardP, onP, Bid.zero, *]; done) | (simp_all [hearP, heardP, onP, Bid.zero]; done) | (simp only [hearP]; (repeat' split) <;> first | rfl | (exfalso; omega) | contradiction | (simp_all [heardP, onP]; done)))
  rw [h11]
  have g11 : ¬ (b.phase = 1) := by simpa using h11
  refine EL.condF (by kernel_rfl) ?_
  refine EL.skip ?_
  refine thenL_norm ?_
  refine EL.sreg ?_
  refine OW.last 1 [4, 6, 8, 12, 14] (x' := ⟨sdq32, (sdq24 v b m no)⟩) (by kernel_rfl) (by kernel_rfl) ?_
  refine EL.seq ?_
  refine EL.sreg ?_
  refine OW.run 6 (x' := ⟨(sdq33 b m v), (sdq24 v b m no)⟩) (by kernel_rfl) ?_
  refine OW.fn (ar := [.lst 1 (v.weights.map cI), VI v.need, .v (.int .u64 ((orU b.heard (Int.toNat m.node)).n : Int))]) (x' := ⟨(82, .tup [.v (.bool ((enoughP v.weights v.need (orU b.heard (Int.toNat m.node)).n).1)), VI ((enoughP v.weights v.need (orU b.heard (Int.toNat m.node)).n).2)]) :: (sdq33 b m v), (sdq24 v b m no)⟩) (by kernel_rfl) (by kernel_rfl) F23_call (enough_fn v.weights v.need (orU b.heard (Int.toNat m.node)) hx) (by kernel_rfl) (by kernel_rfl) ?_
  refine OW.last 5 [4, 6, 8, 12, 14, 15] (x' := ⟨(15, .v (.bool ((enoughP v.weights v.need (orU b.heard (Int.toNat m.node)).n).1))) :: sdq32, (sdq24 v b m no)⟩) (by kernel_rfl) (by kernel_rfl) ?_
  refine EL.sreg ?_
  refine OW.last 1 [4, 6, 8, 12, 14, 85] (x' := ⟨(85, .v (.bool ((enoughP v.weights v.need (orU b.heard (Int.toNat m.node)).n).1))) :: sdq32, (sdq24 v b m no)⟩) (by kernel_rfl) (by kernel_rfl) ?_
  rcases Bool.eq_false_or_eq_true ((enoughP v.weights v.need (orU b.heard (Int.toNat m.node)).n).1) with h15 | h15
  rw [h15]
  refine EL.condT (by kernel_rfl) ?_
  refine EL.reg0 ?_
  refine OW.run 2 (x' := ⟨(sdq34 v no), (sdq24 v b m no)⟩) (by kernel_rfl) ?_
  rcases Bool.eq_false_or_eq_true ((b.phase == 2)) with h16 | h16
  try rw [h16]
  have g16 : (b.phase = 2) := by simpa using h16
  refine OW.fi (ar := [.agg [.ref 1 8 0 0, VI no], .agg [.lst 1 (v.weights.map cI), VI v.need]]) (r := .emp) (m' := (sdq60 v b m no)) (x' := ⟨(88, .emp) :: (sdq34 v no), (sdq60 v b m no)⟩) (by kernel_rfl) (by kernel_rfl) F37_call ?_ (by kernel_rfl) ?_
  refine fi_walkW F37_ok (of_decide_eq_true (by kernel_rfl)) ?_
  refine EL.sreg ?_
  refine OW.last 3 [2, 3] (x' := ⟨[(3, .ref 6 2 0 0), (2, .ref 5 2 0 0)], (sdq57 v b m no)⟩) (by kernel_rfl) (by kernel_rfl) ?_
  refine EL.seq ?_
  refine EL.sreg ?_
  refine OW.last 6 [2, 3, 10] (x' := ⟨[(10, .v (.bool (b.phase == 2))), (3, .ref 6 2 0 0), (2, .ref 5 2 0 0)], (sdq57 v b m no)⟩) (by kernel_rfl) (by kernel_rfl) ?_
  rw [h16]
  refine EL.condT (by kernel_rfl) ?_
  refine EL.sreg ?_
  refine OW.last 5 [] (x' := ⟨[], (sdq59 v b m no)⟩) (by kernel_rfl) (by kernel_rfl) ?_
  refine EL.sreg ?_
  refine OW.last 1 [4] (x' := ⟨[(4, .emp)], (sdq59 v b m no)⟩) (by kernel_rfl) (by kernel_rfl) ?_
  refine EL.ret ?_
  refine thenL_ret ?_
  refine ⟨.inr rfl, ⟨[(4, .emp)], (sdq60 v b m no)⟩, norm_le (live := [4]) (src := [.old 0 false, .old 1 false, .old 2 false, .old 3 false, .old 4 false]) (es := []) (by kernel_rfl) trivial, by kernel_rfl, rfl⟩
  refine OW.end 1 (x' := ⟨(sdq39 v no), (sdq60 v b m no)⟩) (by kernel_rfl) (by kernel_rfl) ?_
  refine thenL_norm ?_
  refine EL.sreg ?_
  refine OW.last 5 [8, 9, 10] (x' := ⟨[(10, VI 0), (9, .emp), (8, .ref 3 8 0 0)], (sdq61 v b m no)⟩) (by kernel_rfl) (by kernel_rfl) ?_
  refine EL.ret ?_
  refine ⟨.inr rfl, .tup [.agg [VI b.time, VI 3, .v (.string b.own), .v (.string b.value), VI b.best.at_.time, VI b.best.at_.who, .v (.string b.best.data), .v (.int .u64 ((orU b.heard (Int.toNat m.node)).n : Int))], .emp, VI 0], by kernel_rfl, Ale.trans (b := .tup [.agg [VI b.time, VI 3, .v (.string b.own), .v (.string b.value), VI b.best.at_.time, VI b.best.at_.who, .v (.string b.best.data), .v (.int .u64 ((orU b.heard (Int.toNat m.node)).n : Int))], .lst 6 [], VI 0]) (Ale.tup (.cons (Ale.refl) (.cons (Ale.emp) (.cons (Ale.refl) (.nil))))) (Ale.of_eq ?_)⟩
  focus (first | (rw [hear_go (by omega) (by assumption) (by assumption) (by assumption) (by assumption) (by omega) (by assumption)]; first | (simp [heardP, onP, *]; done) | (simp_all [heardP, onP]; done)) | rfl | (simp [hearP, heardP, onP, Bid.zero, *]; done) | (simp_all [hearP, heardP, onP, Bid.zero]; done) | (simp only [hearP]; (repeat' split) <;> first | rfl | (exfalso; omega) | contradiction | (simp_all [heardP, onP]; done)))
  try rw [h16]
  have g16 : ¬ (b.phase = 2) := by simpa using h16
  rcases Bool.eq_false_or_eq_true (((b.best.at_.time == 0) && ((b.best.at_.who == 0) && true))) with h17 | h17
  try rw [h17]
  have g17 : b.best.at_.time = 0 ∧ b.best.at_.who = 0 := by simpa [strEq_iff] using h17
  refine OW.fi (ar := [.agg [.ref 1 8 0 0, VI no], .agg [.lst 1 (v.weights.map cI), VI v.need]]) (r := .lst 6 ((toAllP v.weights.length (⟨3, no, 0, (⟨(⟨(⟨b.time, 2, b.own, b.own, b.best, (⟨0, by decide⟩ : U64)⟩ : Bid).time, no⟩ : Stamp), b.own⟩ : Copy)⟩ : Vote)).map Vote.cs)) (m' := (sdq68 v b m no)) (x' := ⟨(88, .lst 6 ((toAllP v.weights.length (⟨3, no, 0, (⟨(⟨(⟨b.time, 2, b.own, b.own, b.best, (⟨0, by decide⟩ : U64)⟩ : Bid).time, no⟩ : Stamp), b.own⟩ : Copy)⟩ : Vote)).map Vote.cs)) :: (sdq34 v no), (sdq68 v b m no)⟩) (by kernel_rfl) (by kernel_rfl) F37_call ?_ (by kernel_rfl) ?_
  refine fi_walkW F37_ok (of_decide_eq_true (by kernel_rfl)) ?_
  refine EL.sreg ?_
  refine OW.last 3 [2, 3] (x' := ⟨[(3, .ref 6 2 0 0), (2, .ref 5 2 0 0)], (sdq57 v b m no)⟩) (by kernel_rfl) (by kernel_rfl) ?_
  refine EL.seq ?_
  refine EL.sreg ?_
  refine OW.last 6 [2, 3, 10] (x' := ⟨[(10, .v (.bool (b.phase == 2))), (3, .ref 6 2 0 0), (2, .ref 5 2 0 0)], (sdq57 v b m no)⟩) (by kernel_rfl) (by kernel_rfl) ?_
  rw [h16]
  refine EL.condF (by kernel_rfl) ?_
  refine EL.skip ?_
  refine thenL_norm ?_
  refine EL.sdraw ?_
  refine DW.last 11 [2, 3] (x' := ⟨[(3, .ref 6 2 0 0), (2, .ref 5 2 0 0)], (sdq63 v b m no)⟩) (by kernel_rfl) (by kernel_rfl) ?_
  refine EL.seq ?_
  refine EL.sreg ?_
  refine OW.last 8 [2, 3, 32] (x' := ⟨[(32, .v (.bool ((b.best.at_.time == 0) && ((b.best.at_.who == 0) && true)))), (3, .ref 6 2 0 0), (2, .ref 5 2 0 0)], (sdq63 v b m no)⟩) (by kernel_rfl) (by kernel_rfl) ?_
  rw [h17]
  refine EL.condT (by kernel_rfl) ?_
  refine EL.draw0 ?_
  refine DW.end 10 (x' := ⟨(sdq45 b), (sdq65 v b m no)⟩) (by kernel_rfl) (by kernel_rfl) ?_
  refine thenL_norm ?_
  refine EL.sdraw ?_
  refine DW.last 10 [2, 3] (x' := ⟨[(3, .ref 6 2 0 0), (2, .ref 5 2 0 0)], (sdq67 v b m no)⟩) (by kernel_rfl) (by kernel_rfl) ?_
  refine EL.sdraw ?_
  refine DW.run 4 (x' := ⟨(sdq48 no v), (sdq67 v b m no)⟩) (by kernel_rfl) ?_
  refine DW.fn (ar := [.agg [.ref 1 8 0 0, VI no]]) (x' := ⟨(54, .agg [VI ((⟨(⟨b.time, 2, b.own, b.own, b.best, (⟨0, by decide⟩ : U64)⟩ : Bid).time, no⟩ : Stamp).time), VI ((⟨(⟨b.time, 2, b.own, b.own, b.best, (⟨0, by decide⟩ : U64)⟩ : Bid).time, no⟩ : Stamp).who)]) :: (sdq48 no v), (sdq67 v b m no)⟩) (by kernel_rfl) (by kernel_rfl) F39_call (at_fn (⟨b.time, 2, b.own, b.own, b.best, (⟨0, by decide⟩ : U64)⟩ : Bid) no) (by kernel_rfl) (by kernel_rfl) ?_
  refine DW.run 7 (x' := ⟨(61, .agg [VI 3, VI no, VI 0, VI ((⟨(⟨b.time, 2, b.own, b.own, b.best, (⟨0, by decide⟩ : U64)⟩ : Bid).time, no⟩ : Stamp).time), VI ((⟨(⟨b.time, 2, b.own, b.own, b.best, (⟨0, by decide⟩ : U64)⟩ : Bid).time, no⟩ : Stamp).who), .v (.string b.own)]) :: (60, .agg [VI ((⟨(⟨b.time, 2, b.own, b.own, b.best, (⟨0, by decide⟩ : U64)⟩ : Bid).time, no⟩ : Stamp).time), VI ((⟨(⟨b.time, 2, b.own, b.own, b.best, (⟨0, by decide⟩ : U64)⟩ : Bid).time, no⟩ : Stamp).who), .v (.string b.own)]) :: (59, .v (.string b.own)) :: (58, .ref 1 8 0 3) :: (57, .ref 1 8 0 0) :: (56, .ref 1 8 0 0) :: (55, .ref 5 2 0 0) :: (54, .agg [VI ((⟨(⟨b.time, 2, b.own, b.own, b.best, (⟨0, by decide⟩ : U64)⟩ : Bid).time, no⟩ : Stamp).time), VI ((⟨(⟨b.time, 2, b.own, b.own, b.best, (⟨0, by decide⟩ : U64)⟩ : Bid).time, no⟩ : Stamp).who)]) :: (sdq48 no v), (sdq67 v b m no)⟩) (by kernel_rfl) ?_
  refine DW.fn (ar := [.agg [.lst 1 (v.weights.map cI), VI v.need], .agg [VI 3, VI no, VI 0, VI ((⟨(⟨b.time, 2, b.own, b.own, b.best, (⟨0, by decide⟩ : U64)⟩ : Bid).time, no⟩ : Stamp).time), VI ((⟨(⟨b.time, 2, b.own, b.own, b.best, (⟨0, by decide⟩ : U64)⟩ : Bid).time, no⟩ : Stamp).who), .v (.string b.own)]]) (x' := ⟨(62, .lst 6 ((toAllP v.weights.length (⟨3, no, 0, (⟨(⟨(⟨b.time, 2, b.own, b.own, b.best, (⟨0, by decide⟩ : U64)⟩ : Bid).time, no⟩ : Stamp), b.own⟩ : Copy)⟩ : Vote)).map Vote.cs)) :: (61, .agg [VI 3, VI no, VI 0, VI ((⟨(⟨b.time, 2, b.own, b.own, b.best, (⟨0, by decide⟩ : U64)⟩ : Bid).time, no⟩ : Stamp).time), VI ((⟨(⟨b.time, 2, b.own, b.own, b.best, (⟨0, by decide⟩ : U64)⟩ : Bid).time, no⟩ : Stamp).who), .v (.string b.own)]) :: (60, .agg [VI ((⟨(⟨b.time, 2, b.own, b.own, b.best, (⟨0, by decide⟩ : U64)⟩ : Bid).time, no⟩ : Stamp).time), VI ((⟨(⟨b.time, 2, b.own, b.own, b.best, (⟨0, by decide⟩ : U64)⟩ : Bid).time, no⟩ : Stamp).who), .v (.string b.own)]) :: (59, .v (.string b.own)) :: (58, .ref 1 8 0 3) :: (57, .ref 1 8 0 0) :: (56, .ref 1 8 0 0) :: (55, .ref 5 2 0 0) :: (54, .agg [VI ((⟨(⟨b.time, 2, b.own, b.own, b.best, (⟨0, by decide⟩ : U64)⟩ : Bid).time, no⟩ : Stamp).time), VI ((⟨(⟨b.time, 2, b.own, b.own, b.best, (⟨0, by decide⟩ : U64)⟩ : Bid).time, no⟩ : Stamp).who)]) :: (sdq48 no v), (sdq67 v b m no)⟩) (by kernel_rfl) (by kernel_rfl) F38_call (toAll_fn v (⟨3, no, 0, (⟨(⟨(⟨b.time, 2, b.own, b.own, b.best, (⟨0, by decide⟩ : U64)⟩ : Bid).time, no⟩ : Stamp), b.own⟩ : Copy)⟩ : Vote) (by first | omega | exact bid_len (by assumption))) (by kernel_rfl) (by kernel_rfl) ?_
  refine DW.last 1 [4] (x' := ⟨[(4, .lst 6 ((toAllP v.weights.length (⟨3, no, 0, (⟨(⟨(⟨b.time, 2, b.own, b.own, b.best, (⟨0, by decide⟩ : U64)⟩ : Bid).time, no⟩ : Stamp), b.own⟩ : Copy)⟩ : Vote)).map Vote.cs))], (sdq67 v b m no)⟩) (by kernel_rfl) (by kernel_rfl) ?_
  refine EL.ret ?_
  refine ⟨.inr rfl, ⟨[(4, .lst 6 ((toAllP v.weights.length (⟨3, no, 0, (⟨(⟨(⟨b.time, 2, b.own, b.own, b.best, (⟨0, by decide⟩ : U64)⟩ : Bid).time, no⟩ : Stamp), b.own⟩ : Copy)⟩ : Vote)).map Vote.cs))], (sdq68 v b m no)⟩, norm_le (live := [4]) (src := [.old 0 false, .old 1 false, .old 2 false, .old 3 false, .old 4 false]) (es := []) (by kernel_rfl) trivial, by kernel_rfl, rfl⟩
  refine OW.end 1 (x' := ⟨(14, .lst 6 ((toAllP v.weights.length (⟨3, no, 0, (⟨(⟨(⟨b.time, 2, b.own, b.own, b.best, (⟨0, by decide⟩ : U64)⟩ : Bid).time, no⟩ : Stamp), b.own⟩ : Copy)⟩ : Vote)).map Vote.cs)) :: (88, .lst 6 ((toAllP v.weights.length (⟨3, no, 0, (⟨(⟨(⟨b.time, 2, b.own, b.own, b.best, (⟨0, by decide⟩ : U64)⟩ : Bid).time, no⟩ : Stamp), b.own⟩ : Copy)⟩ : Vote)).map Vote.cs)) :: (sdq50 v no), (sdq68 v b m no)⟩) (by kernel_rfl) (by kernel_rfl) ?_
  refine thenL_norm ?_
  refine EL.sreg ?_
  refine OW.last 5 [8, 9, 10] (x' := ⟨[(10, VI 0), (9, .lst 6 ((toAllP v.weights.length (⟨3, no, 0, (⟨(⟨(⟨b.time, 2, b.own, b.own, b.best, (⟨0, by decide⟩ : U64)⟩ : Bid).time, no⟩ : Stamp), b.own⟩ : Copy)⟩ : Vote)).map Vote.cs)), (8, .ref 3 8 0 0)], (sdq69 v b m no)⟩) (by kernel_rfl) (by kernel_rfl) ?_
  refine EL.ret ?_
  refine ⟨.inr rfl, .tup [.agg [VI b.time, VI 2, .v (.string b.own), .v (.string b.own), VI b.best.at_.time, VI b.best.at_.who, .v (.string b.best.data), .v (.int .u64 0)], .lst 6 ((toAllP v.weights.length (⟨3, no, 0, (⟨(⟨(⟨b.time, 2, b.own, b.own, b.best, (⟨0, by decide⟩ : U64)⟩ : Bid).time, no⟩ : Stamp), b.own⟩ : Copy)⟩ : Vote)).map Vote.cs), VI 0], by kernel_rfl, Ale.of_eq ?_⟩
  focus (first | (rw [hear_go (by omega) (by assumption) (by assumption) (by assumption) (by assumption) (by omega) (by assumption)]; first | (simp [heardP, onP, *]; done) | (simp_all [heardP, onP]; done)) | rfl | (simp [hearP, heardP, onP, Bid.zero, *]; done) | (simp_all [hearP, heardP, onP, Bid.zero]; done) | (simp only [hearP]; (repeat' split) <;> first | rfl | (exfalso; omega) | contradiction | (simp_all [heardP, onP]; done)))
  try rw [h17]
  have g17 : ¬ (b.best.at_.time = 0 ∧ b.best.at_.who = 0) := fun ⟨q0, q1⟩ => Bool.noConfusion ((show (((b.best.at_.time == 0) && ((b.best.at_.who == 0) && true))) = true by first | (simp [q0, q1, strEq_iff]; done) | (simp only [q0, q1, beq_self_eq_true, Bool.and_self, Bool.and_true, Bool.true_and]; done)).symm.trans h17)
  refine OW.fi (ar := [.agg [.ref 1 8 0 0, VI no], .agg [.lst 1 (v.weights.map cI), VI v.need]]) (r := .lst 6 ((toAllP v.weights.length (⟨3, no, 0, (⟨(⟨(⟨b.time, 2, b.own, b.best.data, b.best, (⟨0, by decide⟩ : U64)⟩ : Bid).time, no⟩ : Stamp), b.best.data⟩ : Copy)⟩ : Vote)).map Vote.cs)) (m' := (sdq72 v b m no)) (x' := ⟨(88, .lst 6 ((toAllP v.weights.length (⟨3, no, 0, (⟨(⟨(⟨b.time, 2, b.own, b.best.data, b.best, (⟨0, by decide⟩ : U64)⟩ : Bid).time, no⟩ : Stamp), b.best.data⟩ : Copy)⟩ : Vote)).map Vote.cs)) :: (sdq34 v no), (sdq72 v b m no)⟩) (by kernel_rfl) (by kernel_rfl) F37_call ?_ (by kernel_rfl) ?_
  refine fi_walkW F37_ok (of_decide_eq_true (by kernel_rfl)) ?_
  refine EL.sreg ?_
  refine OW.last 3 [2, 3] (x' := ⟨[(3, .ref 6 2 0 0), (2, .ref 5 2 0 0)], (sdq57 v b m no)⟩) (by kernel_rfl) (by kernel_rfl) ?_
  refine EL.seq ?_
  refine EL.sreg ?_
  refine OW.last 6 [2, 3, 10] (x' := ⟨[(10, .v (.bool (b.phase == 2))), (3, .ref 6 2 0 0), (2, .ref 5 2 0 0)], (sdq57 v b m no)⟩) (by kernel_rfl) (by kernel_rfl) ?_
  rw [h16]
  refine EL.condF (by kernel_rfl) ?_
  refine EL.skip ?_
  refine thenL_norm ?_
  refine EL.sdraw ?_
  refine DW.last 11 [2, 3] (x' := ⟨[(3, .ref 6 2 0 0), (2, .ref 5 2 0 0)], (sdq63 v b m no)⟩) (by kernel_rfl) (by kernel_rfl) ?_
  refine EL.seq ?_
  refine EL.sreg ?_
  refine OW.last 8 [2, 3, 32] (x' := ⟨[(32, .v (.bool ((b.best.at_.time == 0) && ((b.best.at_.who == 0) && true)))), (3, .ref 6 2 0 0), (2, .ref 5 2 0 0)], (sdq63 v b m no)⟩) (by kernel_rfl) (by kernel_rfl) ?_
  rw [h17]
  refine EL.condF (by kernel_rfl) ?_
  refine EL.skip ?_
  refine thenL_norm ?_
  refine EL.sdraw ?_
  refine DW.last 10 [2, 3] (x' := ⟨[(3, .ref 6 2 0 0), (2, .ref 5 2 0 0)], (sdq71 v b m no)⟩) (by kernel_rfl) (by kernel_rfl) ?_
  refine EL.sdraw ?_
  refine DW.run 4 (x' := ⟨(sdq48 no v), (sdq71 v b m no)⟩) (by kernel_rfl) ?_
  refine DW.fn (ar := [.agg [.ref 1 8 0 0, VI no]]) (x' := ⟨(54, .agg [VI ((⟨(⟨b.time, 2, b.own, b.best.data, b.best, (⟨0, by decide⟩ : U64)⟩ : Bid).time, no⟩ : Stamp).time), VI ((⟨(⟨b.time, 2, b.own, b.best.data, b.best, (⟨0, by decide⟩ : U64)⟩ : Bid).time, no⟩ : Stamp).who)]) :: (sdq48 no v), (sdq71 v b m no)⟩) (by kernel_rfl) (by kernel_rfl) F39_call (at_fn (⟨b.time, 2, b.own, b.best.data, b.best, (⟨0, by decide⟩ : U64)⟩ : Bid) no) (by kernel_rfl) (by kernel_rfl) ?_
  refine DW.run 7 (x' := ⟨(61, .agg [VI 3, VI no, VI 0, VI ((⟨(⟨b.time, 2, b.own, b.best.data, b.best, (⟨0, by decide⟩ : U64)⟩ : Bid).time, no⟩ : Stamp).time), VI ((⟨(⟨b.time, 2, b.own, b.best.data, b.best, (⟨0, by decide⟩ : U64)⟩ : Bid).time, no⟩ : Stamp).who), .v (.string b.best.data)]) :: (60, .agg [VI ((⟨(⟨b.time, 2, b.own, b.best.data, b.best, (⟨0, by decide⟩ : U64)⟩ : Bid).time, no⟩ : Stamp).time), VI ((⟨(⟨b.time, 2, b.own, b.best.data, b.best, (⟨0, by decide⟩ : U64)⟩ : Bid).time, no⟩ : Stamp).who), .v (.string b.best.data)]) :: (59, .v (.string b.best.data)) :: (58, .ref 1 8 0 3) :: (57, .ref 1 8 0 0) :: (56, .ref 1 8 0 0) :: (55, .ref 5 2 0 0) :: (54, .agg [VI ((⟨(⟨b.time, 2, b.own, b.best.data, b.best, (⟨0, by decide⟩ : U64)⟩ : Bid).time, no⟩ : Stamp).time), VI ((⟨(⟨b.time, 2, b.own, b.best.data, b.best, (⟨0, by decide⟩ : U64)⟩ : Bid).time, no⟩ : Stamp).who)]) :: (sdq48 no v), (sdq71 v b m no)⟩) (by kernel_rfl) ?_
  refine DW.fn (ar := [.agg [.lst 1 (v.weights.map cI), VI v.need], .agg [VI 3, VI no, VI 0, VI ((⟨(⟨b.time, 2, b.own, b.best.data, b.best, (⟨0, by decide⟩ : U64)⟩ : Bid).time, no⟩ : Stamp).time), VI ((⟨(⟨b.time, 2, b.own, b.best.data, b.best, (⟨0, by decide⟩ : U64)⟩ : Bid).time, no⟩ : Stamp).who), .v (.string b.best.data)]]) (x' := ⟨(62, .lst 6 ((toAllP v.weights.length (⟨3, no, 0, (⟨(⟨(⟨b.time, 2, b.own, b.best.data, b.best, (⟨0, by decide⟩ : U64)⟩ : Bid).time, no⟩ : Stamp), b.best.data⟩ : Copy)⟩ : Vote)).map Vote.cs)) :: (61, .agg [VI 3, VI no, VI 0, VI ((⟨(⟨b.time, 2, b.own, b.best.data, b.best, (⟨0, by decide⟩ : U64)⟩ : Bid).time, no⟩ : Stamp).time), VI ((⟨(⟨b.time, 2, b.own, b.best.data, b.best, (⟨0, by decide⟩ : U64)⟩ : Bid).time, no⟩ : Stamp).who), .v (.string b.best.data)]) :: (60, .agg [VI ((⟨(⟨b.time, 2, b.own, b.best.data, b.best, (⟨0, by decide⟩ : U64)⟩ : Bid).time, no⟩ : Stamp).time), VI ((⟨(⟨b.time, 2, b.own, b.best.data, b.best, (⟨0, by decide⟩ : U64)⟩ : Bid).time, no⟩ : Stamp).who), .v (.string b.best.data)]) :: (59, .v (.string b.best.data)) :: (58, .ref 1 8 0 3) :: (57, .ref 1 8 0 0) :: (56, .ref 1 8 0 0) :: (55, .ref 5 2 0 0) :: (54, .agg [VI ((⟨(⟨b.time, 2, b.own, b.best.data, b.best, (⟨0, by decide⟩ : U64)⟩ : Bid).time, no⟩ : Stamp).time), VI ((⟨(⟨b.time, 2, b.own, b.best.data, b.best, (⟨0, by decide⟩ : U64)⟩ : Bid).time, no⟩ : Stamp).who)]) :: (sdq48 no v), (sdq71 v b m no)⟩) (by kernel_rfl) (by kernel_rfl) F38_call (toAll_fn v (⟨3, no, 0, (⟨(⟨(⟨b.time, 2, b.own, b.best.data, b.best, (⟨0, by decide⟩ : U64)⟩ : Bid).time, no⟩ : Stamp), b.best.data⟩ : Copy)⟩ : Vote) (by first | omega | exact bid_len (by assumption))) (by kernel_rfl) (by kernel_rfl) ?_
  refine DW.last 1 [4] (x' := ⟨[(4, .lst 6 ((toAllP v.weights.length (⟨3, no, 0, (⟨(⟨(⟨b.time, 2, b.own, b.best.data, b.best, (⟨0, by decide⟩ : U64)⟩ : Bid).time, no⟩ : Stamp), b.best.data⟩ : Copy)⟩ : Vote)).map Vote.cs))], (sdq71 v b m no)⟩) (by kernel_rfl) (by kernel_rfl) ?_
  refine EL.ret ?_
  refine ⟨.inr rfl, ⟨[(4, .lst 6 ((toAllP v.weights.length (⟨3, no, 0, (⟨(⟨(⟨b.time, 2, b.own, b.best.data, b.best, (⟨0, by decide⟩ : U64)⟩ : Bid).time, no⟩ : Stamp), b.best.data⟩ : Copy)⟩ : Vote)).map Vote.cs))], (sdq72 v b m no)⟩, norm_le (live := [4]) (src := [.old 0 false, .old 1 false, .old 2 false, .old 3 false, .old 4 false]) (es := []) (by kernel_rfl) trivial, by kernel_rfl, rfl⟩
  refine OW.end 1 (x' := ⟨(14, .lst 6 ((toAllP v.weights.length (⟨3, no, 0, (⟨(⟨(⟨b.time, 2, b.own, b.best.data, b.best, (⟨0, by decide⟩ : U64)⟩ : Bid).time, no⟩ : Stamp), b.best.data⟩ : Copy)⟩ : Vote)).map Vote.cs)) :: (88, .lst 6 ((toAllP v.weights.length (⟨3, no, 0, (⟨(⟨(⟨b.time, 2, b.own, b.best.data, b.best, (⟨0, by decide⟩ : U64)⟩ : Bid).time, no⟩ : Stamp), b.best.data⟩ : Copy)⟩ : Vote)).map Vote.cs)) :: (sdq50 v no), (sdq72 v b m no)⟩) (by kernel_rfl) (by kernel_rfl) ?_
  refine thenL_norm ?_
  refine EL.sreg ?_
  refine OW.last 5 [8, 9, 10] (x' := ⟨[(10, VI 0), (9, .lst 6 ((toAllP v.weights.length (⟨3, no, 0, (⟨(⟨(⟨b.time, 2, b.own, b.best.data, b.best, (⟨0, by decide⟩ : U64)⟩ : Bid).time, no⟩ : Stamp), b.best.data⟩ : Copy)⟩ : Vote)).map Vote.cs)), (8, .ref 3 8 0 0)], (sdq73 v b m no)⟩) (by kernel_rfl) (by kernel_rfl) ?_
  refine EL.ret ?_
  refine ⟨.inr rfl, .tup [.agg [VI b.time, VI 2, .v (.string b.own), .v (.string b.best.data), VI b.best.at_.time, VI b.best.at_.who, .v (.string b.best.data), .v (.int .u64 0)], .lst 6 ((toAllP v.weights.length (⟨3, no, 0, (⟨(⟨(⟨b.time, 2, b.own, b.best.data, b.best, (⟨0, by decide⟩ : U64)⟩ : Bid).time, no⟩ : Stamp), b.best.data⟩ : Copy)⟩ : Vote)).map Vote.cs), VI 0], by kernel_rfl, Ale.of_eq ?_⟩
  focus (first | (rw [hear_go (by omega) (by assumption) (by assumption) (by assumption) (by assumption) (by omega) (by assumption)]; first | (simp [heardP, onP, *]; done) | (simp_all [heardP, onP]; done)) | rfl | (simp [hearP, heardP, onP, Bid.zero, *]; done) | (simp_all [hearP, heardP, onP, Bid.zero]; done) | (simp only [hearP]; (repeat' split) <;> first | rfl | (exfalso; omega) | contradiction | (simp_all [heardP, onP]; done)))
  rw [h15]
  refine EL.condF (by kernel_rfl) ?_
  refine EL.skip ?_
  refine thenL_norm ?_
  refine EL.sreg ?_
  refine OW.last 5 [8, 9, 10] (x' := ⟨[(10, VI 0), (9, .emp), (8, .ref 3 8 0 0)], (sdq74 v b m no)⟩) (by kernel_rfl) (by kernel_rfl) ?_
  refine EL.ret ?_
  refine ⟨.inr rfl, .tup [.agg [VI b.time, VI b.phase, .v (.string b.own), .v (.string b.value), VI b.best.at_.time, VI b.best.at_.who, .v (.string b.best.data), .v (.int .u64 ((orU b.heard (Int.toNat m.node)).n : Int))], .emp, VI 0], by kernel_rfl, Ale.trans (b := .tup [.agg [VI b.time, VI b.phase, .v (.string b.own), .v (.string b.value), VI b.best.at_.time, VI b.best.at_.who, .v (.string b.best.data), .v (.int .u64 ((orU b.heard (Int.toNat m.node)).n : Int))], .lst 6 [], VI 0]) (Ale.tup (.cons (Ale.refl) (.cons (Ale.emp) (.cons (Ale.refl) (.nil))))) (Ale.of_eq ?_)⟩
  focus (first | (rw [hear_go (by omega) (by assumption) (by assumption) (by assumption) (by assumption) (by omega) (by assumption)]; first | (simp [heardP, onP, *]; done) | (simp_all [heardP, onP]; done)) | rfl | (simp [hearP, heardP, onP, Bid.zero, *]; done) | (simp_all [hearP, heardP, onP, Bid.zero]; done) | (simp only [hearP]; (repeat' split) <;> first | rfl | (exfalso; omega) | contradiction | (simp_all [heardP, onP]; done)))
  rw [h6]
  refine OW.last 14 [4, 6, 7, 8, 12, 13, 59] (x' := ⟨(sdq16 m), (sdq12 v b m no)⟩) (by kernel_rfl) (by kernel_rfl) ?_
  refine EL.condT (by kernel_rfl) ?_
  refine EL.sreg ?_
  refine OW.last 4 [8, 9, 10] (x' := ⟨[(10, VI 0), (9, .emp), (8, .ref 3 8 0 0)], (sdq17 v b m no)⟩) (by kernel_rfl) (by kernel_rfl) ?_
  refine EL.ret ?_
  refine thenL_ret ?_
  refine ⟨.inr rfl, .tup [.agg [VI b.time, VI b.phase, .v (.string b.own), .v (.string b.value), VI b.best.at_.time, VI b.best.at_.who, .v (.string b.best.data), .v (.int .u64 (b.heard.n : Int))], .emp, VI 0], by kernel_rfl, Ale.trans (b := .tup [.agg [VI b.time, VI b.phase, .v (.string b.own), .v (.string b.value), VI b.best.at_.time, VI b.best.at_.who, .v (.string b.best.data), .v (.int .u64 (b.heard.n : Int))], .lst 6 [], VI 0]) (Ale.tup (.cons (Ale.refl) (.cons (Ale.emp) (.cons (Ale.refl) (.nil))))) (Ale.of_eq ?_)⟩
  focus (first | (rw [hear_go (by omega) (by assumption) (by assumption) (by assumption) (by assumption) (by omega) (by assumption)]; first | (simp [heardP, onP, *]; done) | (simp_all [heardP, onP]; done)) | rfl | (simp [hearP, heardP, onP, Bid.zero, *]; done) | (simp_all [hearP, heardP, onP, Bid.zero]; done) | (simp only [hearP]; (repeat' split) <;> first | rfl | (exfalso; omega) | contradiction | (simp_all [heardP, onP]; done)))
  rw [h2]
  have g2 : ¬ ((b.checkE v.weights v.need) = 0) := by simpa using h2
  refine EL.condF (by kernel_rfl) ?_
  refine EL.skip ?_
  refine thenL_norm ?_
  refine EL.seq ?_
  refine EL.sreg ?_
  refine OW.last 2 [1, 4, 6, 7, 8, 11, 27] (x' := ⟨(27, .v (.bool ((b.checkE v.weights v.need) != 0))) :: (11, VI (b.checkE v.weights v.need)) :: (sdq4 no), (sdq3 v b m)⟩) (by kernel_rfl) (by kernel_rfl) ?_
  have h18 : ((b.checkE v.weights v.need) != 0) = true := (by show (!((b.checkE v.weights v.need) == 0)) = _; rw [h2]; rfl)
  rw [h18]
  refine EL.condT (by kernel_rfl) ?_
  refine EL.sreg ?_
  refine OW.last 5 [8, 9, 10] (x' := ⟨(sdq75 b v), (sdq3 v b m)⟩) (by kernel_rfl) (by kernel_rfl) ?_
  refine EL.ret ?_
  refine thenL_ret ?_
  refine ⟨.inr rfl, .tup [.agg [VI 0, VI 0, .v (.string (⟨#[]⟩)), .v (.string (⟨#[]⟩)), VI 0, VI 0, .v (.string (⟨#[]⟩)), .v (.int .u64 0)], .emp, VI (b.checkE v.weights v.need)], by kernel_rfl, Ale.trans (b := .tup [.agg [VI 0, VI 0, .v (.string (⟨#[]⟩)), .v (.string (⟨#[]⟩)), VI 0, VI 0, .v (.string (⟨#[]⟩)), .v (.int .u64 0)], .lst 6 [], VI (b.checkE v.weights v.need)]) (Ale.tup (.cons (Ale.refl) (.cons (Ale.emp) (.cons (Ale.refl) (.nil))))) (Ale.of_eq ?_)⟩
  focus (first | (rw [hear_go (by omega) (by assumption) (by assumption) (by assumption) (by assumption) (by omega) (by assumption)]; first | (simp [heardP, onP, *]; done) | (simp_all [heardP, onP]; done)) | rfl | (simp [hearP, heardP, onP, Bid.zero, *]; done) | (simp_all [hearP, heardP, onP, Bid.zero]; done) | (simp only [hearP]; (repeat' split) <;> first | rfl | (exfalso; omega) | contradiction | (simp_all [heardP, onP]; done)))
  rw [h1]
  have g1 : ¬ ((0 : Int) ≤ no ∧ (no : Int) ≤ 30) := fun hh => Bool.noConfusion ((wi_iff.2 hh).symm.trans h1)
  refine EL.condF (by kernel_rfl) ?_
  refine EL.skip ?_
  refine thenL_norm ?_
  refine EL.seq ?_
  refine EL.sreg ?_
  refine OW.last 2 [1, 4, 6, 7, 8, 11, 23] (x' := ⟨(23, .v (.bool false)) :: (11, VI 3) :: (sdq4 no), (sdq3 v b m)⟩) (by kernel_rfl) (by kernel_rfl) ?_
  refine EL.condF (by kernel_rfl) ?_
  refine EL.skip ?_
  refine thenL_norm ?_
  refine EL.seq ?_
  refine EL.sreg ?_
  refine OW.last 2 [1, 4, 6, 7, 8, 11, 27] (x' := ⟨(27, .v (.bool true)) :: (11, VI 3) :: (sdq4 no), (sdq3 v b m)⟩) (by kernel_rfl) (by kernel_rfl) ?_
  refine EL.condT (by kernel_rfl) ?_
  refine EL.sreg ?_
  refine OW.last 5 [8, 9, 10] (x' := ⟨[(10, VI 3), (9, .emp), (8, .ref 3 8 0 0)], (sdq3 v b m)⟩) (by kernel_rfl) (by kernel_rfl) ?_
  refine EL.ret ?_
  refine thenL_ret ?_
  refine ⟨.inr rfl, .tup [.agg [VI 0, VI 0, .v (.string (⟨#[]⟩)), .v (.string (⟨#[]⟩)), VI 0, VI 0, .v (.string (⟨#[]⟩)), .v (.int .u64 0)], .emp, VI 3], by kernel_rfl, Ale.trans (b := .tup [.agg [VI 0, VI 0, .v (.string (⟨#[]⟩)), .v (.string (⟨#[]⟩)), VI 0, VI 0, .v (.string (⟨#[]⟩)), .v (.int .u64 0)], .lst 6 [], VI 3]) (Ale.tup (.cons (Ale.refl) (.cons (Ale.emp) (.cons (Ale.refl) (.nil))))) (Ale.of_eq ?_)⟩
  focus (first | (rw [hear_go (by omega) (by assumption) (by assumption) (by assumption) (by assumption) (by omega) (by assumption)]; first | (simp [heardP, onP, *]; done) | (simp_all [heardP, onP]; done)) | rfl | (simp [hearP, heardP, onP, Bid.zero, *]; done) | (simp_all [hearP, heardP, onP, Bid.zero]; done) | (simp only [hearP]; (repeat' split) <;> first | rfl | (exfalso; omega) | contradiction | (simp_all [heardP, onP]; done)))
end Go.Proofs.YtejilglnpdjepaaDoor
