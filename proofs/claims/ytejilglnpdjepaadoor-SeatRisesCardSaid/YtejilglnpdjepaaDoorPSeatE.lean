/- What must be in any case for seats: seatBegun answers true. No condition. -/
import Derived.Test.YtejilglnpdjepaaDoorPSeatD
set_option maxRecDepth 100000
set_option maxHeartbeats 4000000
set_option linter.unusedVariables false
set_option linter.unusedSimpArgs false
namespace Go.Proofs.YtejilglnpdjepaaDoor
theorem lat_fn (t : Int) (w : Int) : Fn Tryd.prog 24 [VI t, VI w] (.agg [VI ((⟨t, w⟩ : Stamp).time), VI ((⟨t, w⟩ : Stamp).who)]) := by
  refine fn_walkW F24_ok (of_decide_eq_true (by kernel_rfl)) ?_
  refine EL.sreg ?_
  refine OW.last 1 [0, 1, 4] (x' := ⟨[(4, .ref 0 2 0 0), (0, VI t), (1, VI w)], [some ⟨2, [[VI 0, VI 0]]⟩]⟩) (by kernel_rfl) (by kernel_rfl) ?_
  refine EL.sreg ?_
  refine OW.last 4 [4] (x' := ⟨[(4, .ref 0 2 0 0)], [some ⟨2, [[VI t, VI w]]⟩]⟩) (by kernel_rfl) (by kernel_rfl) ?_
  refine EL.ret ?_
  refine ⟨.inr rfl, .agg [VI t, VI w], by kernel_rfl, Ale.of_eq ?_⟩
  focus (rfl)
abbrev seq0 (t : Int) (w : Int) (d : ByteArray) : LS := [(6, .ref 0 3 0 0), (0, VI t), (1, VI w), (2, .v (.string d))]
abbrev seq1 (t : Int) (w : Int) : AV := .agg [VI ((⟨t, w⟩ : Stamp).time), VI ((⟨t, w⟩ : Stamp).who)]
abbrev seq2 (t : Int) (w : Int) (d : ByteArray) : OB := some ⟨3, [[VI ((⟨t, w⟩ : Stamp).time), VI ((⟨t, w⟩ : Stamp).who), .v (.string d)]]⟩
abbrev seq3 (t : Int) (w : Int) (d : ByteArray) : AV := .agg [VI ((⟨t, w⟩ : Stamp).time), VI ((⟨t, w⟩ : Stamp).who), .v (.string d)]
theorem lblock_fn (t : Int) (w : Int) (d : ByteArray) : Fn Tryd.prog 27 [VI t, VI w, .v (.string d)] (.agg [VI (((⟨⟨t, w⟩, d⟩ : Copy).at_).time), VI (((⟨⟨t, w⟩, d⟩ : Copy).at_).who), .v (.string ((⟨⟨t, w⟩, d⟩ : Copy).data))]) := by
  refine fn_walkW F27_ok (of_decide_eq_true (by kernel_rfl)) ?_
  refine EL.sreg ?_
  refine OW.last 1 [0, 1, 2, 6] (x' := ⟨(seq0 t w d), [some ⟨3, [[VI 0, VI 0, .v (.string (⟨#[]⟩))]]⟩]⟩) (by kernel_rfl) (by kernel_rfl) ?_
  refine EL.sreg ?_
  refine OW.run 2 (x' := ⟨(8, VI w) :: (7, VI t) :: (seq0 t w d), [some ⟨3, [[VI 0, VI 0, .v (.string (⟨#[]⟩))]]⟩]⟩) (by kernel_rfl) ?_
  refine OW.fn (ar := [VI t, VI w]) (x' := ⟨(9, (seq1 t w)) :: (8, VI w) :: (7, VI t) :: (seq0 t w d), [some ⟨3, [[VI 0, VI 0, .v (.string (⟨#[]⟩))]]⟩]⟩) (by kernel_rfl) (by kernel_rfl) F24_call (lat_fn t w) (by kernel_rfl) (by kernel_rfl) ?_
  refine OW.last 3 [6] (x' := ⟨[(6, .ref 0 3 0 0)], [(seq2 t w d)]⟩) (by kernel_rfl) (by kernel_rfl) ?_
  refine EL.ret ?_
  refine ⟨.inr rfl, (seq3 t w d), by kernel_rfl, Ale.of_eq ?_⟩
  focus (rfl)
abbrev seq4 : LB := [some ⟨2, [[.own 1 1 0 3, VI 2]]⟩, some ⟨1, [[VI 1], [VI 1], [VI 1]]⟩]
theorem three_fn : Fn Tryd.prog 28 [] (.agg [.lst 1 (((⟨[1, 1, 1], 2⟩ : Voters).weights).map cI), VI ((⟨[1, 1, 1], 2⟩ : Voters).need)]) := by
  refine fn_walkW F28_ok (of_decide_eq_true (by kernel_rfl)) ?_
  refine EL.sreg ?_
  refine OW.last 1 [0] (x' := ⟨[(0, .ref 0 2 0 0)], [some ⟨2, [[.emp, VI 0]]⟩]⟩) (by kernel_rfl) (by kernel_rfl) ?_
  refine EL.sreg ?_
  refine OW.last 3 [0] (x' := ⟨[(0, .ref 0 2 0 0)], seq4⟩) (by kernel_rfl) (by kernel_rfl) ?_
  refine EL.ret ?_
  refine ⟨.inr rfl, .agg [.lst 1 [[VI 1], [VI 1], [VI 1]], VI 2], by kernel_rfl, Ale.of_eq ?_⟩
  focus (rfl)
abbrev seq5 : OB := some ⟨6, [[VI 0, VI 0, VI 0, VI 0, VI 0, .v (.string (⟨#[]⟩))]]⟩
abbrev seq6 (b : Int) (n : Int) (t : Int) : LS := [(6, .ref 0 6 0 0), (0, VI b), (1, VI n), (2, VI t)]
abbrev seq7 (t : Int) (b : Int) : AV := .agg [VI ((⟨t, b⟩ : Stamp).time), VI ((⟨t, b⟩ : Stamp).who)]
abbrev seq8 (t : Int) (b : Int) (n : Int) : LS := (11, (seq7 t b)) :: (10, VI b) :: (9, VI t) :: (8, VI n) :: (7, VI b) :: (seq6 b n t)
abbrev seq9 (b : Int) (n : Int) (t : Int) : OB := some ⟨6, [[VI 1, VI b, VI n, VI ((⟨t, b⟩ : Stamp).time), VI ((⟨t, b⟩ : Stamp).who), .v (.string (⟨#[]⟩))]]⟩
abbrev seq10 (b : Int) (n : Int) (t : Int) : AV := .agg [VI 1, VI b, VI n, VI ((⟨t, b⟩ : Stamp).time), VI ((⟨t, b⟩ : Stamp).who), .v (.string (⟨#[]⟩))]
theorem prepare_fn (b : Int) (n : Int) (t : Int) : Fn Tryd.prog 26 [VI b, VI n, VI t] (.agg [VI ((⟨1, b, n, ⟨⟨t, b⟩, ⟨#[]⟩⟩⟩ : Vote).kind), VI ((⟨1, b, n, ⟨⟨t, b⟩, ⟨#[]⟩⟩⟩ : Vote).bid), VI ((⟨1, b, n, ⟨⟨t, b⟩, ⟨#[]⟩⟩⟩ : Vote).node), VI ((((⟨1, b, n, ⟨⟨t, b⟩, ⟨#[]⟩⟩⟩ : Vote).copy).at_).time), VI ((((⟨1, b, n, ⟨⟨t, b⟩, ⟨#[]⟩⟩⟩ : Vote).copy).at_).who), .v (.string (((⟨1, b, n, ⟨⟨t, b⟩, ⟨#[]⟩⟩⟩ : Vote).copy).data))]) := by
  refine fn_walkW F26_ok (of_decide_eq_true (by kernel_rfl)) ?_
  refine EL.sreg ?_
  refine OW.last 1 [0, 1, 2, 6] (x' := ⟨(seq6 b n t), [seq5]⟩) (by kernel_rfl) (by kernel_rfl) ?_
  refine EL.sreg ?_
  refine OW.run 4 (x' := ⟨(10, VI b) :: (9, VI t) :: (8, VI n) :: (7, VI b) :: (seq6 b n t), [seq5]⟩) (by kernel_rfl) ?_
  refine OW.fn (ar := [VI t, VI b]) (x' := ⟨(seq8 t b n), [seq5]⟩) (by kernel_rfl) (by kernel_rfl) F24_call (lat_fn t b) (by kernel_rfl) (by kernel_rfl) ?_
  refine OW.last 3 [6] (x' := ⟨[(6, .ref 0 6 0 0)], [(seq9 b n t)]⟩) (by kernel_rfl) (by kernel_rfl) ?_
  refine EL.ret ?_
  refine ⟨.inr rfl, (seq10 b n t), by kernel_rfl, Ale.of_eq ?_⟩
  focus (rfl)
abbrev seq11 : Vote := (⟨1, 4, 1, ⟨⟨7, 4⟩, ⟨#[]⟩⟩⟩ : Vote)
abbrev seq12 : AV := .agg [VI seq11.kind, VI seq11.bid, VI seq11.node, VI seq11.copy.at_.time, VI seq11.copy.at_.who, .v (.string seq11.copy.data)]
abbrev seq13 : Seat := ((⟨(⟨0, 0⟩ : Stamp), (⟨(⟨0, 0⟩ : Stamp), ⟨#[]⟩⟩ : Copy)⟩ : Seat).serveP seq11).1
abbrev seq14 : AV := .agg [VI seq13.promised.time, VI seq13.promised.who, VI seq13.kept.at_.time, VI seq13.kept.at_.who, .v (.string seq13.kept.data)]
abbrev seq15 : LS := [(22, .tup [seq14, .lst 6 ((((⟨(⟨0, 0⟩ : Stamp), (⟨(⟨0, 0⟩ : Stamp), ⟨#[]⟩⟩ : Copy)⟩ : Seat).serveP seq11).2.1).map Vote.cs), VI (((⟨(⟨0, 0⟩ : Stamp), (⟨(⟨0, 0⟩ : Stamp), ⟨#[]⟩⟩ : Copy)⟩ : Seat).serveP seq11).2.2)]), (21, seq12), (20, .agg [VI 0, VI 0, VI 0, VI 0, .v (.string (⟨#[]⟩))])]
abbrev seq16 : OB := some ⟨5, [[VI seq13.promised.time, VI seq13.promised.who, VI seq13.kept.at_.time, VI seq13.kept.at_.who, .v (.string seq13.kept.data)]]⟩
abbrev seq17 : LS := [(3, VI (((⟨(⟨0, 0⟩ : Stamp), (⟨(⟨0, 0⟩ : Stamp), ⟨#[]⟩⟩ : Copy)⟩ : Seat).serveP seq11).2.2)), (2, .lst 6 ((((⟨(⟨0, 0⟩ : Stamp), (⟨(⟨0, 0⟩ : Stamp), ⟨#[]⟩⟩ : Copy)⟩ : Seat).serveP seq11).2.1).map Vote.cs)), (1, .ref 0 5 0 0)]
abbrev seq18 : Copy := (⟨⟨7, 4⟩, (⟨#[118]⟩)⟩ : Copy)
abbrev seq19 : AV := .agg [VI seq18.at_.time, VI seq18.at_.who, .v (.string seq18.data)]
abbrev seq20 : AV := .agg [VI 3, VI 4, VI 1, VI seq18.at_.time, VI seq18.at_.who, .v (.string seq18.data)]
abbrev seq21 : Seat := (seq13.serveP (⟨3, 4, 1, seq18⟩ : Vote)).1
abbrev seq22 : AV := .agg [VI seq21.promised.time, VI seq21.promised.who, VI seq21.kept.at_.time, VI seq21.kept.at_.who, .v (.string seq21.kept.data)]
abbrev seq23 : LS := (30, .tup [seq22, .lst 6 (((seq13.serveP (⟨3, 4, 1, seq18⟩ : Vote)).2.1).map Vote.cs), VI ((seq13.serveP (⟨3, 4, 1, seq18⟩ : Vote)).2.2)]) :: (29, seq20) :: (28, seq19) :: (27, seq14) :: seq17
abbrev seq24 : OB := some ⟨5, [[VI seq21.promised.time, VI seq21.promised.who, VI seq21.kept.at_.time, VI seq21.kept.at_.who, .v (.string seq21.kept.data)]]⟩
abbrev seq25 : LS := (6, VI ((seq13.serveP (⟨3, 4, 1, seq18⟩ : Vote)).2.2)) :: (5, .lst 6 (((seq13.serveP (⟨3, 4, 1, seq18⟩ : Vote)).2.1).map Vote.cs)) :: (4, .ref 1 5 0 0) :: seq17
abbrev seq26 : Vote := (⟨1, 2, 1, ⟨⟨7, 2⟩, ⟨#[]⟩⟩⟩ : Vote)
abbrev seq27 : AV := .agg [VI seq26.kind, VI seq26.bid, VI seq26.node, VI seq26.copy.at_.time, VI seq26.copy.at_.who, .v (.string seq26.copy.data)]
abbrev seq28 : AV := .agg [VI ((((seq21.serveP seq26).1).promised).time), VI ((((seq21.serveP seq26).1).promised).who), VI (((((seq21.serveP seq26).1).kept).at_).time), VI (((((seq21.serveP seq26).1).kept).at_).who), .v (.string ((((seq21.serveP seq26).1).kept).data))]
abbrev seq29 : LS := (37, .tup [seq28, .lst 6 (((seq21.serveP seq26).2.1).map Vote.cs), VI ((seq21.serveP seq26).2.2)]) :: (36, seq27) :: (35, seq22) :: seq25
abbrev seq30 : OB := some ⟨5, [[VI ((((seq21.serveP seq26).1).promised).time), VI ((((seq21.serveP seq26).1).promised).who), VI (((((seq21.serveP seq26).1).kept).at_).time), VI (((((seq21.serveP seq26).1).kept).at_).who), .v (.string ((((seq21.serveP seq26).1).kept).data))]]⟩
abbrev seq31 : LS := (9, VI ((seq21.serveP seq26).2.2)) :: (8, .lst 6 (((seq21.serveP seq26).2.1).map Vote.cs)) :: (7, .ref 2 5 0 0) :: seq25
abbrev seq32 : Voters := (⟨[1, 1, 1], 2⟩ : Voters)
abbrev seq33 : LS := (42, .agg [.lst 1 (seq32.weights.map cI), VI seq32.need]) :: seq31
abbrev seq34 : Bid := (beginP seq32 2 9 (⟨#[111, 119, 110]⟩)).1
abbrev seq35 : AV := .agg [VI seq34.time, VI seq34.phase, .v (.string seq34.own), .v (.string seq34.value), VI seq34.best.at_.time, VI seq34.best.at_.who, .v (.string seq34.best.data), .v (.int .u64 (seq34.heard.n : Int))]
abbrev seq36 : LS := (43, .tup [seq35, .lst 6 (((beginP seq32 2 9 (⟨#[111, 119, 110]⟩)).2.1).map Vote.cs), VI ((beginP seq32 2 9 (⟨#[111, 119, 110]⟩)).2.2)]) :: seq33
abbrev seq37 : OB := some ⟨8, [[VI seq34.time, VI seq34.phase, .v (.string seq34.own), .v (.string seq34.value), VI seq34.best.at_.time, VI seq34.best.at_.who, .v (.string seq34.best.data), .v (.int .u64 (seq34.heard.n : Int))]]⟩
abbrev seq38 : LS := (12, VI ((beginP seq32 2 9 (⟨#[111, 119, 110]⟩)).2.2)) :: (11, .lst 6 (((beginP seq32 2 9 (⟨#[111, 119, 110]⟩)).2.1).map Vote.cs)) :: (10, .ref 3 8 0 0) :: seq31
abbrev seq39 : LS := (48, .agg [.lst 1 (seq32.weights.map cI), VI seq32.need]) :: seq38
abbrev seq40 : AV := .agg [VI 2, VI 2, VI 0, VI seq18.at_.time, VI seq18.at_.who, .v (.string seq18.data)]
abbrev seq41 : Bid := (hearP seq32 2 seq34 (⟨2, 2, 0, seq18⟩ : Vote)).1
abbrev seq42 : AV := .agg [VI seq41.time, VI seq41.phase, .v (.string seq41.own), .v (.string seq41.value), VI seq41.best.at_.time, VI seq41.best.at_.who, .v (.string seq41.best.data), .v (.int .u64 (seq41.heard.n : Int))]
abbrev seq43 : LS := (52, .tup [seq42, .lst 6 (((hearP seq32 2 seq34 (⟨2, 2, 0, seq18⟩ : Vote)).2.1).map Vote.cs), VI ((hearP seq32 2 seq34 (⟨2, 2, 0, seq18⟩ : Vote)).2.2)]) :: (51, seq40) :: (50, seq19) :: (49, seq35) :: seq39
abbrev seq44 : OB := some ⟨8, [[VI seq41.time, VI seq41.phase, .v (.string seq41.own), .v (.string seq41.value), VI seq41.best.at_.time, VI seq41.best.at_.who, .v (.string seq41.best.data), .v (.int .u64 (seq41.heard.n : Int))]]⟩
abbrev seq45 : LS := (15, VI ((hearP seq32 2 seq34 (⟨2, 2, 0, seq18⟩ : Vote)).2.2)) :: (13, .ref 4 8 0 0) :: (12, VI ((beginP seq32 2 9 (⟨#[111, 119, 110]⟩)).2.2)) :: (11, .lst 6 (((beginP seq32 2 9 (⟨#[111, 119, 110]⟩)).2.1).map Vote.cs)) :: seq31
abbrev seq46 : LS := (57, .agg [.lst 1 (seq32.weights.map cI), VI seq32.need]) :: seq45
abbrev seq47 : LS := (59, .agg [VI 2, VI 2, VI 2, VI 0, VI 0, .v (.string (⟨#[]⟩))]) :: (58, seq42) :: seq46
abbrev seq48 : Bid := (hearP seq32 2 seq41 (⟨2, 2, 2, (⟨(⟨0, 0⟩ : Stamp), ⟨#[]⟩⟩ : Copy)⟩ : Vote)).1
abbrev seq49 : AV := .agg [VI seq48.time, VI seq48.phase, .v (.string seq48.own), .v (.string seq48.value), VI seq48.best.at_.time, VI seq48.best.at_.who, .v (.string seq48.best.data), .v (.int .u64 (seq48.heard.n : Int))]
abbrev seq50 : LS := (60, .tup [seq49, .lst 6 (((hearP seq32 2 seq41 (⟨2, 2, 2, (⟨(⟨0, 0⟩ : Stamp), ⟨#[]⟩⟩ : Copy)⟩ : Vote)).2.1).map Vote.cs), VI ((hearP seq32 2 seq41 (⟨2, 2, 2, (⟨(⟨0, 0⟩ : Stamp), ⟨#[]⟩⟩ : Copy)⟩ : Vote)).2.2)]) :: seq47
abbrev seq51 : OB := some ⟨8, [[VI seq48.time, VI seq48.phase, .v (.string seq48.own), .v (.string seq48.value), VI seq48.best.at_.time, VI seq48.best.at_.who, .v (.string seq48.best.data), .v (.int .u64 (seq48.heard.n : Int))]]⟩
abbrev seq52 : LS := (18, VI ((hearP seq32 2 seq41 (⟨2, 2, 2, (⟨(⟨0, 0⟩ : Stamp), ⟨#[]⟩⟩ : Copy)⟩ : Vote)).2.2)) :: (17, .lst 6 (((hearP seq32 2 seq41 (⟨2, 2, 2, (⟨(⟨0, 0⟩ : Stamp), ⟨#[]⟩⟩ : Copy)⟩ : Vote)).2.1).map Vote.cs)) :: (16, .ref 5 8 0 0) :: seq45
abbrev seq53 : LS := (64, VI (((⟨(⟨0, 0⟩ : Stamp), (⟨(⟨0, 0⟩ : Stamp), ⟨#[]⟩⟩ : Copy)⟩ : Seat).serveP seq11).2.2)) :: seq52
abbrev seq54 : LS := (68, .agg [VI seq13.promised.time, VI seq13.promised.who]) :: (67, .ref 0 5 0 0) :: (66, .v (.bool true)) :: (65, .v (.bool true)) :: seq53
abbrev seq55 : AV := .agg [VI ((⟨7, 4⟩ : Stamp).time), VI ((⟨7, 4⟩ : Stamp).who)]
abbrev seq56 : LS := (73, .lst 6 ((((⟨(⟨0, 0⟩ : Stamp), (⟨(⟨0, 0⟩ : Stamp), ⟨#[]⟩⟩ : Copy)⟩ : Seat).serveP seq11).2.1).map Vote.cs)) :: (72, .v (.bool true)) :: (71, .v (.bool true)) :: (70, .v (.bool true)) :: (69, seq55) :: seq54
abbrev seq57 : LS := (74, VI (List.length (((⟨(⟨0, 0⟩ : Stamp), (⟨(⟨0, 0⟩ : Stamp), ⟨#[]⟩⟩ : Copy)⟩ : Seat).serveP seq11).2.1) : Int)) :: seq56
abbrev seq58 : Vote := List.getD (((⟨(⟨0, 0⟩ : Stamp), (⟨(⟨0, 0⟩ : Stamp), ⟨#[]⟩⟩ : Copy)⟩ : Seat).serveP seq11).2.1) (Int.toNat 0) (⟨0, 0, 0, (⟨(⟨0, 0⟩ : Stamp), ⟨#[]⟩⟩ : Copy)⟩ : Vote)
abbrev seq59 : LS := (78, .lst 6 ((((⟨(⟨0, 0⟩ : Stamp), (⟨(⟨0, 0⟩ : Stamp), ⟨#[]⟩⟩ : Copy)⟩ : Seat).serveP seq11).2.1).map Vote.cs)) :: (77, .v (.bool true)) :: (76, .v (.bool true)) :: (75, .v (.bool true)) :: seq57
abbrev seq60 : LS := (79, .pim [VI seq58.kind, VI seq58.bid, VI seq58.node, VI seq58.copy.at_.time, VI seq58.copy.at_.who, .v (.string seq58.copy.data)] 0) :: seq59
abbrev seq61 : LS := (81, VI seq58.kind) :: (80, .pim [VI seq58.kind, VI seq58.bid, VI seq58.node, VI seq58.copy.at_.time, VI seq58.copy.at_.who, .v (.string seq58.copy.data)] 0) :: seq60
abbrev seq62 : LS := (85, VI ((seq13.serveP (⟨3, 4, 1, seq18⟩ : Vote)).2.2)) :: (84, .v (.bool true)) :: (83, .v (.bool true)) :: (82, .v (.bool true)) :: seq61
abbrev seq63 : AV := .agg [VI seq21.kept.at_.time, VI seq21.kept.at_.who, .v (.string seq21.kept.data)]
abbrev seq64 : LS := (90, seq63) :: (89, .ref 1 5 0 2) :: (88, .v (.bool true)) :: (87, .v (.bool true)) :: (86, .v (.bool true)) :: seq62
abbrev seq65 : LS := (95, .lst 6 (((seq13.serveP (⟨3, 4, 1, seq18⟩ : Vote)).2.1).map Vote.cs)) :: (94, .v (.bool true)) :: (93, .v (.bool true)) :: (92, .v (.bool true)) :: (91, seq19) :: seq64
abbrev seq66 : LS := (96, VI (List.length ((seq13.serveP (⟨3, 4, 1, seq18⟩ : Vote)).2.1) : Int)) :: seq65
abbrev seq67 : Vote := List.getD ((seq13.serveP (⟨3, 4, 1, seq18⟩ : Vote)).2.1) (Int.toNat 0) (⟨0, 0, 0, (⟨(⟨0, 0⟩ : Stamp), ⟨#[]⟩⟩ : Copy)⟩ : Vote)
abbrev seq68 : LS := (100, .lst 6 (((seq13.serveP (⟨3, 4, 1, seq18⟩ : Vote)).2.1).map Vote.cs)) :: (99, .v (.bool true)) :: (98, .v (.bool true)) :: (97, .v (.bool true)) :: seq66
abbrev seq69 : LS := (101, .pim [VI seq67.kind, VI seq67.bid, VI seq67.node, VI seq67.copy.at_.time, VI seq67.copy.at_.who, .v (.string seq67.copy.data)] 0) :: seq68
abbrev seq70 : AV := .agg [VI seq67.kind, VI seq67.bid, VI seq67.node, VI seq67.copy.at_.time, VI seq67.copy.at_.who, .v (.string seq67.copy.data)]
abbrev seq71 : AV := .agg [VI 4, VI 4, VI 1, VI ((⟨7, 4⟩ : Stamp).time), VI ((⟨7, 4⟩ : Stamp).who), .v (.string (⟨#[]⟩))]
abbrev seq72 : AV := .agg [VI ((⟨7, 4⟩ : Stamp).time), VI ((⟨7, 4⟩ : Stamp).who), .v (.string (⟨#[]⟩))]
abbrev seq73 : LS := (105, seq71) :: (104, seq72) :: (103, seq55) :: (102, seq70) :: seq69
abbrev seq74 : LS := (109, VI ((seq21.serveP seq26).2.2)) :: (108, .v (.bool true)) :: (107, .v (.bool true)) :: (106, .v (.bool true)) :: seq73
abbrev seq75 : LS := (114, seq22) :: (113, seq28) :: (112, .v (.bool true)) :: (111, .v (.bool true)) :: (110, .v (.bool true)) :: seq74
abbrev seq76 : LS := (118, .lst 6 (((seq21.serveP seq26).2.1).map Vote.cs)) :: (117, .v (.bool true)) :: (116, .v (.bool true)) :: (115, .v (.bool true)) :: seq75
abbrev seq77 : LS := (119, VI (List.length ((seq21.serveP seq26).2.1) : Int)) :: seq76
abbrev seq78 : LS := (123, VI ((beginP seq32 2 9 (⟨#[111, 119, 110]⟩)).2.2)) :: (122, .v (.bool true)) :: (121, .v (.bool true)) :: (120, .v (.bool true)) :: seq77
abbrev seq79 : LS := (127, .lst 6 (((beginP seq32 2 9 (⟨#[111, 119, 110]⟩)).2.1).map Vote.cs)) :: (126, .v (.bool true)) :: (125, .v (.bool true)) :: (124, .v (.bool true)) :: seq78
abbrev seq80 : LS := (128, VI (List.length ((beginP seq32 2 9 (⟨#[111, 119, 110]⟩)).2.1) : Int)) :: seq79
abbrev seq81 : LS := (132, VI ((hearP seq32 2 seq34 (⟨2, 2, 0, seq18⟩ : Vote)).2.2)) :: (131, .v (.bool true)) :: (130, .v (.bool true)) :: (129, .v (.bool true)) :: seq80
abbrev seq82 : LS := (137, VI seq41.phase) :: (136, .ref 4 8 0 1) :: (135, .v (.bool true)) :: (134, .v (.bool true)) :: (133, .v (.bool true)) :: seq81
abbrev seq83 : LS := (141, VI ((hearP seq32 2 seq41 (⟨2, 2, 2, (⟨(⟨0, 0⟩ : Stamp), ⟨#[]⟩⟩ : Copy)⟩ : Vote)).2.2)) :: (140, .v (.bool true)) :: (139, .v (.bool true)) :: (138, .v (.bool true)) :: seq82
abbrev seq84 : LS := (146, .v (.string seq48.value)) :: (145, .ref 5 8 0 3) :: (144, .v (.bool true)) :: (143, .v (.bool true)) :: (142, .v (.bool true)) :: seq83
abbrev seq85 : LS := (150, .lst 6 (((hearP seq32 2 seq41 (⟨2, 2, 2, (⟨(⟨0, 0⟩ : Stamp), ⟨#[]⟩⟩ : Copy)⟩ : Vote)).2.1).map Vote.cs)) :: (149, .v (.bool true)) :: (148, .v (.bool true)) :: (147, .v (.bool true)) :: seq84
abbrev seq86 : LS := (151, VI (List.length ((hearP seq32 2 seq41 (⟨2, 2, 2, (⟨(⟨0, 0⟩ : Stamp), ⟨#[]⟩⟩ : Copy)⟩ : Vote)).2.1) : Int)) :: seq85
abbrev seq87 : Vote := List.getD ((hearP seq32 2 seq41 (⟨2, 2, 2, (⟨(⟨0, 0⟩ : Stamp), ⟨#[]⟩⟩ : Copy)⟩ : Vote)).2.1) (Int.toNat 1) (⟨0, 0, 0, (⟨(⟨0, 0⟩ : Stamp), ⟨#[]⟩⟩ : Copy)⟩ : Vote)
abbrev seq88 : LS := (155, .lst 6 (((hearP seq32 2 seq41 (⟨2, 2, 2, (⟨(⟨0, 0⟩ : Stamp), ⟨#[]⟩⟩ : Copy)⟩ : Vote)).2.1).map Vote.cs)) :: (154, .v (.bool true)) :: (153, .v (.bool true)) :: (152, .v (.bool true)) :: seq86
abbrev seq89 : LS := (156, .pim [VI seq87.kind, VI seq87.bid, VI seq87.node, VI seq87.copy.at_.time, VI seq87.copy.at_.who, .v (.string seq87.copy.data)] 0) :: seq88
abbrev seq90 : AV := .agg [VI seq87.copy.at_.time, VI seq87.copy.at_.who, .v (.string seq87.copy.data)]
abbrev seq91 : LS := (158, seq90) :: (157, .pim [VI seq87.kind, VI seq87.bid, VI seq87.node, VI seq87.copy.at_.time, VI seq87.copy.at_.who, .v (.string seq87.copy.data)] 3) :: seq89
abbrev seq92 : Copy := (⟨⟨9, 2⟩, (⟨#[118]⟩)⟩ : Copy)
abbrev seq93 : AV := .agg [VI seq92.at_.time, VI seq92.at_.who, .v (.string seq92.data)]
theorem begun_fn : Fn Tryd.prog 10 [] (.v (.bool true)) := by
  refine fn_walkW F10_ok (of_decide_eq_true (by kernel_rfl)) ?_
  refine EL.sreg ?_
  refine OW.last 1 [] (x' := ⟨[], []⟩) (by kernel_rfl) (by kernel_rfl) ?_
  refine EL.sreg ?_
  refine OW.run 1 (x' := ⟨[(20, .agg [VI 0, VI 0, VI 0, VI 0, .v (.string (⟨#[]⟩))])], []⟩) (by kernel_rfl) ?_
  refine OW.fn (ar := [VI 4, VI 1, VI 7]) (x' := ⟨[(21, seq12), (20, .agg [VI 0, VI 0, VI 0, VI 0, .v (.string (⟨#[]⟩))])], []⟩) (by kernel_rfl) (by kernel_rfl) F26_call (prepare_fn 4 1 7) (by kernel_rfl) (by kernel_rfl) ?_
  refine OW.fn (ar := [.agg [VI 0, VI 0, VI 0, VI 0, .v (.string (⟨#[]⟩))], seq12]) (x' := ⟨seq15, []⟩) (by kernel_rfl) (by kernel_rfl) F8_call (serve_fn (⟨(⟨0, 0⟩ : Stamp), (⟨(⟨0, 0⟩ : Stamp), ⟨#[]⟩⟩ : Copy)⟩ : Seat) seq11) (by kernel_rfl) (by kernel_rfl) ?_
  refine OW.last 8 [1, 2, 3] (x' := ⟨seq17, [seq16]⟩) (by kernel_rfl) (by kernel_rfl) ?_
  refine EL.sdraw ?_
  refine DW.run 1 (x' := ⟨(27, seq14) :: seq17, [seq16]⟩) (by kernel_rfl) ?_
  refine DW.fn (ar := [VI 7, VI 4, .v (.string (⟨#[118]⟩))]) (x' := ⟨(28, seq19) :: (27, seq14) :: seq17, [seq16]⟩) (by kernel_rfl) (by kernel_rfl) F27_call (lblock_fn 7 4 (⟨#[118]⟩)) (by kernel_rfl) (by kernel_rfl) ?_
  refine DW.run 1 (x' := ⟨(29, seq20) :: (28, seq19) :: (27, seq14) :: seq17, [seq16]⟩) (by kernel_rfl) ?_
  refine DW.fn (ar := [seq14, seq20]) (x' := ⟨seq23, [seq16]⟩) (by kernel_rfl) (by kernel_rfl) F8_call (serve_fn seq13 (⟨3, 4, 1, seq18⟩ : Vote)) (by kernel_rfl) (by kernel_rfl) ?_
  refine DW.last 8 [1, 2, 3, 4, 5, 6] (x' := ⟨seq25, [seq16, seq24]⟩) (by kernel_rfl) (by kernel_rfl) ?_
  refine EL.sdraw ?_
  refine DW.run 1 (x' := ⟨(35, seq22) :: seq25, [seq16, seq24]⟩) (by kernel_rfl) ?_
  refine DW.fn (ar := [VI 2, VI 1, VI 7]) (x' := ⟨(36, seq27) :: (35, seq22) :: seq25, [seq16, seq24]⟩) (by kernel_rfl) (by kernel_rfl) F26_call (prepare_fn 2 1 7) (by kernel_rfl) (by kernel_rfl) ?_
  refine DW.fn (ar := [seq22, seq27]) (x' := ⟨seq29, [seq16, seq24]⟩) (by kernel_rfl) (by kernel_rfl) F8_call (serve_fn seq21 seq26) (by kernel_rfl) (by kernel_rfl) ?_
  refine DW.last 8 [1, 2, 3, 4, 5, 6, 7, 8, 9] (x' := ⟨seq31, [seq16, seq24, seq30]⟩) (by kernel_rfl) (by kernel_rfl) ?_
  refine EL.sreg ?_
  refine OW.fn (ar := []) (x' := ⟨seq33, [seq16, seq24, seq30]⟩) (by kernel_rfl) (by kernel_rfl) F28_call (three_fn) (by kernel_rfl) (by kernel_rfl) ?_
  refine OW.fn (ar := [.agg [.lst 1 (seq32.weights.map cI), VI seq32.need], VI 2, VI 9, .v (.string (⟨#[111, 119, 110]⟩))]) (x' := ⟨seq36, [seq16, seq24, seq30]⟩) (by kernel_rfl) (by kernel_rfl) F17_call (begin_fn seq32 2 9 (⟨#[111, 119, 110]⟩) (by first | assumption | decide)) (by kernel_rfl) (by kernel_rfl) ?_
  refine OW.last 8 [1, 2, 3, 4, 5, 6, 7, 8, 9, 10, 11, 12] (x' := ⟨seq38, [seq16, seq24, seq30, seq37]⟩) (by kernel_rfl) (by kernel_rfl) ?_
  refine EL.sdraw ?_
  refine DW.fn (ar := []) (x' := ⟨seq39, [seq16, seq24, seq30, seq37]⟩) (by kernel_rfl) (by kernel_rfl) F28_call (three_fn) (by kernel_rfl) (by kernel_rfl) ?_
  refine DW.run 1 (x' := ⟨(49, seq35) :: seq39, [seq16, seq24, seq30, seq37]⟩) (by kernel_rfl) ?_
  refine DW.fn (ar := [VI 7, VI 4, .v (.string (⟨#[118]⟩))]) (x' := ⟨(50, seq19) :: (49, seq35) :: seq39, [seq16, seq24, seq30, seq37]⟩) (by kernel_rfl) (by kernel_rfl) F27_call (lblock_fn 7 4 (⟨#[118]⟩)) (by kernel_rfl) (by kernel_rfl) ?_
  refine DW.run 1 (x' := ⟨(51, seq40) :: (50, seq19) :: (49, seq35) :: seq39, [seq16, seq24, seq30, seq37]⟩) (by kernel_rfl) ?_
  refine DW.fn (ar := [.agg [.lst 1 (seq32.weights.map cI), VI seq32.need], VI 2, seq35, seq40]) (x' := ⟨seq43, [seq16, seq24, seq30, seq37]⟩) (by kernel_rfl) (by kernel_rfl) F16_call (hear_fn seq32 2 seq34 (⟨2, 2, 0, seq18⟩ : Vote) (by first | assumption | decide)) (by kernel_rfl) (by kernel_rfl) ?_
  refine DW.last 8 [1, 2, 3, 4, 5, 6, 7, 8, 9, 11, 12, 13, 15] (x' := ⟨seq45, [seq16, seq24, seq30, seq37, seq44]⟩) (by kernel_rfl) (by kernel_rfl) ?_
  refine EL.sdraw ?_
  refine DW.fn (ar := []) (x' := ⟨seq46, [seq16, seq24, seq30, seq37, seq44]⟩) (by kernel_rfl) (by kernel_rfl) F28_call (three_fn) (by kernel_rfl) (by kernel_rfl) ?_
  refine DW.run 2 (x' := ⟨seq47, [seq16, seq24, seq30, seq37, seq44]⟩) (by kernel_rfl) ?_
  refine DW.fn (ar := [.agg [.lst 1 (seq32.weights.map cI), VI seq32.need], VI 2, seq42, .agg [VI 2, VI 2, VI 2, VI 0, VI 0, .v (.string (⟨#[]⟩))]]) (x' := ⟨seq50, [seq16, seq24, seq30, seq37, seq44]⟩) (by kernel_rfl) (by kernel_rfl) F16_call (hear_fn seq32 2 seq41 (⟨2, 2, 2, (⟨(⟨0, 0⟩ : Stamp), ⟨#[]⟩⟩ : Copy)⟩ : Vote) (by first | assumption | decide)) (by kernel_rfl) (by kernel_rfl) ?_
  refine DW.last 8 [1, 2, 3, 4, 5, 6, 7, 8, 9, 11, 12, 13, 15, 16, 17, 18] (x' := ⟨seq52, [seq16, seq24, seq30, seq37, seq44, seq51]⟩) (by kernel_rfl) (by kernel_rfl) ?_
  refine EL.sdraw ?_
  refine DW.run 3 (x' := ⟨(66, .v (.bool ((((⟨(⟨0, 0⟩ : Stamp), (⟨(⟨0, 0⟩ : Stamp), ⟨#[]⟩⟩ : Copy)⟩ : Seat).serveP seq11).2.2) == 0))) :: (65, .v (.bool ((((⟨(⟨0, 0⟩ : Stamp), (⟨(⟨0, 0⟩ : Stamp), ⟨#[]⟩⟩ : Copy)⟩ : Seat).serveP seq11).2.2) == 0))) :: seq53, [seq16, seq24, seq30, seq37, seq44, seq51]⟩) (by kernel_rfl) ?_
  have h1 : ((((⟨(⟨0, 0⟩ : Stamp), (⟨(⟨0, 0⟩ : Stamp), ⟨#[]⟩⟩ : Copy)⟩ : Seat).serveP seq11).2.2) == 0) = true := by first | kernel_rfl | decide
  rw [h1]
  refine DW.run 2 (x' := ⟨seq54, [seq16, seq24, seq30, seq37, seq44, seq51]⟩) (by kernel_rfl) ?_
  refine DW.fn (ar := [VI 7, VI 4]) (x' := ⟨(69, seq55) :: seq54, [seq16, seq24, seq30, seq37, seq44, seq51]⟩) (by kernel_rfl) (by kernel_rfl) F24_call (lat_fn 7 4) (by kernel_rfl) (by kernel_rfl) ?_
  refine DW.run 3 (x' := ⟨(72, .v (.bool ((seq13.promised.time == (⟨7, 4⟩ : Stamp).time) && ((seq13.promised.who == (⟨7, 4⟩ : Stamp).who) && true)))) :: (71, .v (.bool ((seq13.promised.time == (⟨7, 4⟩ : Stamp).time) && ((seq13.promised.who == (⟨7, 4⟩ : Stamp).who) && true)))) :: (70, .v (.bool ((seq13.promised.time == (⟨7, 4⟩ : Stamp).time) && ((seq13.promised.who == (⟨7, 4⟩ : Stamp).who) && true)))) :: (69, seq55) :: seq54, [seq16, seq24, seq30, seq37, seq44, seq51]⟩) (by kernel_rfl) ?_
  have h2 : ((seq13.promised.time == (⟨7, 4⟩ : Stamp).time) && ((seq13.promised.who == (⟨7, 4⟩ : Stamp).who) && true)) = true := by first | kernel_rfl | decide
  rw [h2]
  refine DW.run 1 (x' := ⟨seq56, [seq16, seq24, seq30, seq37, seq44, seq51]⟩) (by kernel_rfl) ?_
  refine DW.ope (v := VI (List.length (((⟨(⟨0, 0⟩ : Stamp), (⟨(⟨0, 0⟩ : Stamp), ⟨#[]⟩⟩ : Copy)⟩ : Seat).serveP seq11).2.1) : Int)) (u := []) (acc := []) (x' := ⟨seq57, [seq16, seq24, seq30, seq37, seq44, seq51]⟩) (by kernel_rfl) (opE_len Vote.cs (((⟨(⟨0, 0⟩ : Stamp), (⟨(⟨0, 0⟩ : Stamp), ⟨#[]⟩⟩ : Copy)⟩ : Seat).serveP seq11).2.1) (.s 73) 6 (by kernel_rfl) (by kernel_rfl) (.inl rfl)) (by kernel_rfl) ?_
  refine DW.run 3 (x' := ⟨(77, .v (.bool ((List.length (((⟨(⟨0, 0⟩ : Stamp), (⟨(⟨0, 0⟩ : Stamp), ⟨#[]⟩⟩ : Copy)⟩ : Seat).serveP seq11).2.1) : Int) == 1))) :: (76, .v (.bool ((List.length (((⟨(⟨0, 0⟩ : Stamp), (⟨(⟨0, 0⟩ : Stamp), ⟨#[]⟩⟩ : Copy)⟩ : Seat).serveP seq11).2.1) : Int) == 1))) :: (75, .v (.bool ((List.length (((⟨(⟨0, 0⟩ : Stamp), (⟨(⟨0, 0⟩ : Stamp), ⟨#[]⟩⟩ : Copy)⟩ : Seat).serveP seq11).2.1) : Int) == 1))) :: seq57, [seq16, seq24, seq30, seq37, seq44, seq51]⟩) (by kernel_rfl) ?_
  have h3 : ((List.length (((⟨(⟨0, 0⟩ : Stamp), (⟨(⟨0, 0⟩ : Stamp), ⟨#[]⟩⟩ : Copy)⟩ : Seat).serveP seq11).2.1) : Int) == 1) = true := by first | kernel_rfl | decide
  rw [h3]
  refine DW.run 1 (x' := ⟨seq59, [seq16, seq24, seq30, seq37, seq44, seq51]⟩) (by kernel_rfl) ?_
  have hq5 : (((⟨(⟨0, 0⟩ : Stamp), (⟨(⟨0, 0⟩ : Stamp), ⟨#[]⟩⟩ : Copy)⟩ : Seat).serveP seq11).2.1)[(0 : Int).toNat]? = some seq58 := by kernel_rfl
  refine DW.ope (v := .pim [VI seq58.kind, VI seq58.bid, VI seq58.node, VI seq58.copy.at_.time, VI seq58.copy.at_.who, .v (.string seq58.copy.data)] 0) (u := []) (acc := []) (x' := ⟨seq60, [seq16, seq24, seq30, seq37, seq44, seq51]⟩) (by kernel_rfl) (opE_iad Vote.cs (((⟨(⟨0, 0⟩ : Stamp), (⟨(⟨0, 0⟩ : Stamp), ⟨#[]⟩⟩ : Copy)⟩ : Seat).serveP seq11).2.1) (.s 78) (.c (VI 0)) 6 .i64 0 seq58 (by kernel_rfl) (by kernel_rfl) (.inl rfl) rfl (by first | omega | exact of_decide_eq_true (by kernel_rfl)) hq5) (by kernel_rfl) ?_
  refine DW.run 5 (x' := ⟨(84, .v (.bool (seq58.kind == 2))) :: (83, .v (.bool (seq58.kind == 2))) :: (82, .v (.bool (seq58.kind == 2))) :: seq61, [seq16, seq24, seq30, seq37, seq44, seq51]⟩) (by kernel_rfl) ?_
  have h6 : (seq58.kind == 2) = true := by first | kernel_rfl | decide
  rw [h6]
  refine DW.run 4 (x' := ⟨(88, .v (.bool (((seq13.serveP (⟨3, 4, 1, seq18⟩ : Vote)).2.2) == 0))) :: (87, .v (.bool (((seq13.serveP (⟨3, 4, 1, seq18⟩ : Vote)).2.2) == 0))) :: (86, .v (.bool (((seq13.serveP (⟨3, 4, 1, seq18⟩ : Vote)).2.2) == 0))) :: seq62, [seq16, seq24, seq30, seq37, seq44, seq51]⟩) (by kernel_rfl) ?_
  have h7 : (((seq13.serveP (⟨3, 4, 1, seq18⟩ : Vote)).2.2) == 0) = true := by first | kernel_rfl | decide
  rw [h7]
  refine DW.run 2 (x' := ⟨seq64, [seq16, seq24, seq30, seq37, seq44, seq51]⟩) (by kernel_rfl) ?_
  refine DW.fn (ar := [VI 7, VI 4, .v (.string (⟨#[118]⟩))]) (x' := ⟨(91, seq19) :: seq64, [seq16, seq24, seq30, seq37, seq44, seq51]⟩) (by kernel_rfl) (by kernel_rfl) F27_call (lblock_fn 7 4 (⟨#[118]⟩)) (by kernel_rfl) (by kernel_rfl) ?_
  refine DW.run 3 (x' := ⟨(94, .v (.bool ((seq21.kept.at_.time == seq18.at_.time) && ((seq21.kept.at_.who == seq18.at_.who) && (strEq seq21.kept.data seq18.data && true))))) :: (93, .v (.bool ((seq21.kept.at_.time == seq18.at_.time) && ((seq21.kept.at_.who == seq18.at_.who) && (strEq seq21.kept.data seq18.data && true))))) :: (92, .v (.bool ((seq21.kept.at_.time == seq18.at_.time) && ((seq21.kept.at_.who == seq18.at_.who) && (strEq seq21.kept.data seq18.data && true))))) :: (91, seq19) :: seq64, [seq16, seq24, seq30, seq37, seq44, seq51]⟩) (by kernel_rfl) ?_
  have h8 : ((seq21.kept.at_.time == seq18.at_.time) && ((seq21.kept.at_.who == seq18.at_.who) && (strEq seq21.kept.data seq18.data && true))) = true := by first | kernel_rfl | decide
  rw [h8]
  refine DW.run 1 (x' := ⟨seq65, [seq16, seq24, seq30, seq37, seq44, seq51]⟩) (by kernel_rfl) ?_
  refine DW.ope (v := VI (List.length ((seq13.serveP (⟨3, 4, 1, seq18⟩ : Vote)).2.1) : Int)) (u := []) (acc := []) (x' := ⟨seq66, [seq16, seq24, seq30, seq37, seq44, seq51]⟩) (by kernel_rfl) (opE_len Vote.cs ((seq13.serveP (⟨3, 4, 1, seq18⟩ : Vote)).2.1) (.s 95) 6 (by kernel_rfl) (by kernel_rfl) (.inl rfl)) (by kernel_rfl) ?_
  refine DW.run 3 (x' := ⟨(99, .v (.bool ((List.length ((seq13.serveP (⟨3, 4, 1, seq18⟩ : Vote)).2.1) : Int) == 1))) :: (98, .v (.bool ((List.length ((seq13.serveP (⟨3, 4, 1, seq18⟩ : Vote)).2.1) : Int) == 1))) :: (97, .v (.bool ((List.length ((seq13.serveP (⟨3, 4, 1, seq18⟩ : Vote)).2.1) : Int) == 1))) :: seq66, [seq16, seq24, seq30, seq37, seq44, seq51]⟩) (by kernel_rfl) ?_
  have h9 : ((List.length ((seq13.serveP (⟨3, 4, 1, seq18⟩ : Vote)).2.1) : Int) == 1) = true := by first | kernel_rfl | decide
  rw [h9]
  refine DW.run 1 (x' := ⟨seq68, [seq16, seq24, seq30, seq37, seq44, seq51]⟩) (by kernel_rfl) ?_
  have hq11 : ((seq13.serveP (⟨3, 4, 1, seq18⟩ : Vote)).2.1)[(0 : Int).toNat]? = some seq67 := by kernel_rfl
  refine DW.ope (v := .pim [VI seq67.kind, VI seq67.bid, VI seq67.node, VI seq67.copy.at_.time, VI seq67.copy.at_.who, .v (.string seq67.copy.data)] 0) (u := []) (acc := []) (x' := ⟨seq69, [seq16, seq24, seq30, seq37, seq44, seq51]⟩) (by kernel_rfl) (opE_iad Vote.cs ((seq13.serveP (⟨3, 4, 1, seq18⟩ : Vote)).2.1) (.s 100) (.c (VI 0)) 6 .i64 0 seq67 (by kernel_rfl) (by kernel_rfl) (.inl rfl) rfl (by first | omega | exact of_decide_eq_true (by kernel_rfl)) hq11) (by kernel_rfl) ?_
  refine DW.run 1 (x' := ⟨(102, seq70) :: seq69, [seq16, seq24, seq30, seq37, seq44, seq51]⟩) (by kernel_rfl) ?_
  refine DW.fn (ar := [VI 7, VI 4]) (x' := ⟨(103, seq55) :: (102, seq70) :: seq69, [seq16, seq24, seq30, seq37, seq44, seq51]⟩) (by kernel_rfl) (by kernel_rfl) F24_call (lat_fn 7 4) (by kernel_rfl) (by kernel_rfl) ?_
  refine DW.run 5 (x' := ⟨(108, .v (.bool ((seq67.kind == 4) && ((seq67.bid == 4) && ((seq67.node == 1) && ((seq67.copy.at_.time == (⟨7, 4⟩ : Stamp).time) && ((seq67.copy.at_.who == (⟨7, 4⟩ : Stamp).who) && (strEq seq67.copy.data (⟨#[]⟩) && true)))))))) :: (107, .v (.bool ((seq67.kind == 4) && ((seq67.bid == 4) && ((seq67.node == 1) && ((seq67.copy.at_.time == (⟨7, 4⟩ : Stamp).time) && ((seq67.copy.at_.who == (⟨7, 4⟩ : Stamp).who) && (strEq seq67.copy.data (⟨#[]⟩) && true)))))))) :: (106, .v (.bool ((seq67.kind == 4) && ((seq67.bid == 4) && ((seq67.node == 1) && ((seq67.copy.at_.time == (⟨7, 4⟩ : Stamp).time) && ((seq67.copy.at_.who == (⟨7, 4⟩ : Stamp).who) && (strEq seq67.copy.data (⟨#[]⟩) && true)))))))) :: seq73, [seq16, seq24, seq30, seq37, seq44, seq51]⟩) (by kernel_rfl) ?_
  have h12 : ((seq67.kind == 4) && ((seq67.bid == 4) && ((seq67.node == 1) && ((seq67.copy.at_.time == (⟨7, 4⟩ : Stamp).time) && ((seq67.copy.at_.who == (⟨7, 4⟩ : Stamp).who) && (strEq seq67.copy.data (⟨#[]⟩) && true)))))) = true := by first | kernel_rfl | decide
  rw [h12]
  refine DW.run 4 (x' := ⟨(112, .v (.bool (((seq21.serveP seq26).2.2) == 0))) :: (111, .v (.bool (((seq21.serveP seq26).2.2) == 0))) :: (110, .v (.bool (((seq21.serveP seq26).2.2) == 0))) :: seq74, [seq16, seq24, seq30, seq37, seq44, seq51]⟩) (by kernel_rfl) ?_
  have h13 : (((seq21.serveP seq26).2.2) == 0) = true := by first | kernel_rfl | decide
  rw [h13]
  refine DW.run 5 (x' := ⟨(117, .v (.bool ((((((seq21.serveP seq26).1).promised).time) == seq21.promised.time) && ((((((seq21.serveP seq26).1).promised).who) == seq21.promised.who) && (((((((seq21.serveP seq26).1).kept).at_).time) == seq21.kept.at_.time) && (((((((seq21.serveP seq26).1).kept).at_).who) == seq21.kept.at_.who) && (strEq ((((seq21.serveP seq26).1).kept).data) seq21.kept.data && true))))))) :: (116, .v (.bool ((((((seq21.serveP seq26).1).promised).time) == seq21.promised.time) && ((((((seq21.serveP seq26).1).promised).who) == seq21.promised.who) && (((((((seq21.serveP seq26).1).kept).at_).time) == seq21.kept.at_.time) && (((((((seq21.serveP seq26).1).kept).at_).who) == seq21.kept.at_.who) && (strEq ((((seq21.serveP seq26).1).kept).data) seq21.kept.data && true))))))) :: (115, .v (.bool ((((((seq21.serveP seq26).1).promised).time) == seq21.promised.time) && ((((((seq21.serveP seq26).1).promised).who) == seq21.promised.who) && (((((((seq21.serveP seq26).1).kept).at_).time) == seq21.kept.at_.time) && (((((((seq21.serveP seq26).1).kept).at_).who) == seq21.kept.at_.who) && (strEq ((((seq21.serveP seq26).1).kept).data) seq21.kept.data && true))))))) :: seq75, [seq16, seq24, seq30, seq37, seq44, seq51]⟩) (by kernel_rfl) ?_
  have h14 : ((((((seq21.serveP seq26).1).promised).time) == seq21.promised.time) && ((((((seq21.serveP seq26).1).promised).who) == seq21.promised.who) && (((((((seq21.serveP seq26).1).kept).at_).time) == seq21.kept.at_.time) && (((((((seq21.serveP seq26).1).kept).at_).who) == seq21.kept.at_.who) && (strEq ((((seq21.serveP seq26).1).kept).data) seq21.kept.data && true))))) = true := by first | kernel_rfl | decide
  rw [h14]
  refine DW.run 1 (x' := ⟨seq76, [seq16, seq24, seq30, seq37, seq44, seq51]⟩) (by kernel_rfl) ?_
  refine DW.ope (v := VI (List.length ((seq21.serveP seq26).2.1) : Int)) (u := []) (acc := []) (x' := ⟨seq77, [seq16, seq24, seq30, seq37, seq44, seq51]⟩) (by kernel_rfl) (opE_len Vote.cs ((seq21.serveP seq26).2.1) (.s 118) 6 (by kernel_rfl) (by kernel_rfl) (.inl rfl)) (by kernel_rfl) ?_
  refine DW.run 3 (x' := ⟨(122, .v (.bool ((List.length ((seq21.serveP seq26).2.1) : Int) == 0))) :: (121, .v (.bool ((List.length ((seq21.serveP seq26).2.1) : Int) == 0))) :: (120, .v (.bool ((List.length ((seq21.serveP seq26).2.1) : Int) == 0))) :: seq77, [seq16, seq24, seq30, seq37, seq44, seq51]⟩) (by kernel_rfl) ?_
  have h15 : ((List.length ((seq21.serveP seq26).2.1) : Int) == 0) = true := by first | kernel_rfl | decide
  rw [h15]
  refine DW.run 4 (x' := ⟨(126, .v (.bool (((beginP seq32 2 9 (⟨#[111, 119, 110]⟩)).2.2) == 0))) :: (125, .v (.bool (((beginP seq32 2 9 (⟨#[111, 119, 110]⟩)).2.2) == 0))) :: (124, .v (.bool (((beginP seq32 2 9 (⟨#[111, 119, 110]⟩)).2.2) == 0))) :: seq78, [seq16, seq24, seq30, seq37, seq44, seq51]⟩) (by kernel_rfl) ?_
  have h16 : (((beginP seq32 2 9 (⟨#[111, 119, 110]⟩)).2.2) == 0) = true := by first | kernel_rfl | decide
  rw [h16]
  refine DW.run 1 (x' := ⟨seq79, [seq16, seq24, seq30, seq37, seq44, seq51]⟩) (by kernel_rfl) ?_
  refine DW.ope (v := VI (List.length ((beginP seq32 2 9 (⟨#[111, 119, 110]⟩)).2.1) : Int)) (u := []) (acc := []) (x' := ⟨seq80, [seq16, seq24, seq30, seq37, seq44, seq51]⟩) (by kernel_rfl) (opE_len Vote.cs ((beginP seq32 2 9 (⟨#[111, 119, 110]⟩)).2.1) (.s 127) 6 (by kernel_rfl) (by kernel_rfl) (.inl rfl)) (by kernel_rfl) ?_
  refine DW.run 3 (x' := ⟨(131, .v (.bool ((List.length ((beginP seq32 2 9 (⟨#[111, 119, 110]⟩)).2.1) : Int) == 3))) :: (130, .v (.bool ((List.length ((beginP seq32 2 9 (⟨#[111, 119, 110]⟩)).2.1) : Int) == 3))) :: (129, .v (.bool ((List.length ((beginP seq32 2 9 (⟨#[111, 119, 110]⟩)).2.1) : Int) == 3))) :: seq80, [seq16, seq24, seq30, seq37, seq44, seq51]⟩) (by kernel_rfl) ?_
  have h17 : ((List.length ((beginP seq32 2 9 (⟨#[111, 119, 110]⟩)).2.1) : Int) == 3) = true := by first | kernel_rfl | decide
  rw [h17]
  refine DW.run 4 (x' := ⟨(135, .v (.bool (((hearP seq32 2 seq34 (⟨2, 2, 0, seq18⟩ : Vote)).2.2) == 0))) :: (134, .v (.bool (((hearP seq32 2 seq34 (⟨2, 2, 0, seq18⟩ : Vote)).2.2) == 0))) :: (133, .v (.bool (((hearP seq32 2 seq34 (⟨2, 2, 0, seq18⟩ : Vote)).2.2) == 0))) :: seq81, [seq16, seq24, seq30, seq37, seq44, seq51]⟩) (by kernel_rfl) ?_
  have h18 : (((hearP seq32 2 seq34 (⟨2, 2, 0, seq18⟩ : Vote)).2.2) == 0) = true := by first | kernel_rfl | decide
  rw [h18]
  refine DW.run 5 (x' := ⟨(140, .v (.bool (seq41.phase == 1))) :: (139, .v (.bool (seq41.phase == 1))) :: (138, .v (.bool (seq41.phase == 1))) :: seq82, [seq16, seq24, seq30, seq37, seq44, seq51]⟩) (by kernel_rfl) ?_
  have h19 : (seq41.phase == 1) = true := by first | kernel_rfl | decide
  rw [h19]
  refine DW.run 4 (x' := ⟨(144, .v (.bool (((hearP seq32 2 seq41 (⟨2, 2, 2, (⟨(⟨0, 0⟩ : Stamp), ⟨#[]⟩⟩ : Copy)⟩ : Vote)).2.2) == 0))) :: (143, .v (.bool (((hearP seq32 2 seq41 (⟨2, 2, 2, (⟨(⟨0, 0⟩ : Stamp), ⟨#[]⟩⟩ : Copy)⟩ : Vote)).2.2) == 0))) :: (142, .v (.bool (((hearP seq32 2 seq41 (⟨2, 2, 2, (⟨(⟨0, 0⟩ : Stamp), ⟨#[]⟩⟩ : Copy)⟩ : Vote)).2.2) == 0))) :: seq83, [seq16, seq24, seq30, seq37, seq44, seq51]⟩) (by kernel_rfl) ?_
  have h20 : (((hearP seq32 2 seq41 (⟨2, 2, 2, (⟨(⟨0, 0⟩ : Stamp), ⟨#[]⟩⟩ : Copy)⟩ : Vote)).2.2) == 0) = true := by first | kernel_rfl | decide
  rw [h20]
  refine DW.run 5 (x' := ⟨(149, .v (.bool (strEq seq48.value (⟨#[118]⟩)))) :: (148, .v (.bool (strEq seq48.value (⟨#[118]⟩)))) :: (147, .v (.bool (strEq seq48.value (⟨#[118]⟩)))) :: seq84, [seq16, seq24, seq30, seq37, seq44, seq51]⟩) (by kernel_rfl) ?_
  have h21 : strEq seq48.value (⟨#[118]⟩) = true := by first | kernel_rfl | decide
  rw [h21]
  refine DW.run 1 (x' := ⟨seq85, [seq16, seq24, seq30, seq37, seq44, seq51]⟩) (by kernel_rfl) ?_
  refine DW.ope (v := VI (List.length ((hearP seq32 2 seq41 (⟨2, 2, 2, (⟨(⟨0, 0⟩ : Stamp), ⟨#[]⟩⟩ : Copy)⟩ : Vote)).2.1) : Int)) (u := []) (acc := []) (x' := ⟨seq86, [seq16, seq24, seq30, seq37, seq44, seq51]⟩) (by kernel_rfl) (opE_len Vote.cs ((hearP seq32 2 seq41 (⟨2, 2, 2, (⟨(⟨0, 0⟩ : Stamp), ⟨#[]⟩⟩ : Copy)⟩ : Vote)).2.1) (.s 150) 6 (by kernel_rfl) (by kernel_rfl) (.inl rfl)) (by kernel_rfl) ?_
  refine DW.run 3 (x' := ⟨(154, .v (.bool ((List.length ((hearP seq32 2 seq41 (⟨2, 2, 2, (⟨(⟨0, 0⟩ : Stamp), ⟨#[]⟩⟩ : Copy)⟩ : Vote)).2.1) : Int) == 3))) :: (153, .v (.bool ((List.length ((hearP seq32 2 seq41 (⟨2, 2, 2, (⟨(⟨0, 0⟩ : Stamp), ⟨#[]⟩⟩ : Copy)⟩ : Vote)).2.1) : Int) == 3))) :: (152, .v (.bool ((List.length ((hearP seq32 2 seq41 (⟨2, 2, 2, (⟨(⟨0, 0⟩ : Stamp), ⟨#[]⟩⟩ : Copy)⟩ : Vote)).2.1) : Int) == 3))) :: seq86, [seq16, seq24, seq30, seq37, seq44, seq51]⟩) (by kernel_rfl) ?_
  have h22 : ((List.length ((hearP seq32 2 seq41 (⟨2, 2, 2, (⟨(⟨0, 0⟩ : Stamp), ⟨#[]⟩⟩ : Copy)⟩ : Vote)).2.1) : Int) == 3) = true := by first | kernel_rfl | decide
  rw [h22]
  refine DW.run 1 (x' := ⟨seq88, [seq16, seq24, seq30, seq37, seq44, seq51]⟩) (by kernel_rfl) ?_
  have hq24 : ((hearP seq32 2 seq41 (⟨2, 2, 2, (⟨(⟨0, 0⟩ : Stamp), ⟨#[]⟩⟩ : Copy)⟩ : Vote)).2.1)[(1 : Int).toNat]? = some seq87 := by kernel_rfl
  refine DW.ope (v := .pim [VI seq87.kind, VI seq87.bid, VI seq87.node, VI seq87.copy.at_.time, VI seq87.copy.at_.who, .v (.string seq87.copy.data)] 0) (u := []) (acc := []) (x' := ⟨seq89, [seq16, seq24, seq30, seq37, seq44, seq51]⟩) (by kernel_rfl) (opE_iad Vote.cs ((hearP seq32 2 seq41 (⟨2, 2, 2, (⟨(⟨0, 0⟩ : Stamp), ⟨#[]⟩⟩ : Copy)⟩ : Vote)).2.1) (.s 155) (.c (VI 1)) 6 .i64 1 seq87 (by kernel_rfl) (by kernel_rfl) (.inl rfl) rfl (by first | omega | exact of_decide_eq_true (by kernel_rfl)) hq24) (by kernel_rfl) ?_
  refine DW.run 2 (x' := ⟨seq91, [seq16, seq24, seq30, seq37, seq44, seq51]⟩) (by kernel_rfl) ?_
  refine DW.fn (ar := [VI 9, VI 2, .v (.string (⟨#[118]⟩))]) (x' := ⟨(159, seq93) :: seq91, [seq16, seq24, seq30, seq37, seq44, seq51]⟩) (by kernel_rfl) (by kernel_rfl) F27_call (lblock_fn 9 2 (⟨#[118]⟩)) (by kernel_rfl) (by kernel_rfl) ?_
  refine DW.last 3 [0] (x' := ⟨[(0, .v (.bool ((seq87.copy.at_.time == seq92.at_.time) && ((seq87.copy.at_.who == seq92.at_.who) && (strEq seq87.copy.data seq92.data && true)))))], [seq16, seq24, seq30, seq37, seq44, seq51]⟩) (by kernel_rfl) (by kernel_rfl) ?_
  refine EL.ret ?_
  refine ⟨.inr rfl, .v (.bool ((seq87.copy.at_.time == seq92.at_.time) && ((seq87.copy.at_.who == seq92.at_.who) && (strEq seq87.copy.data seq92.data && true)))), by kernel_rfl, Ale.of_eq ?_⟩
  focus (rfl)
end Go.Proofs.YtejilglnpdjepaaDoor
