/- Plain laws of synods behind steps: who keeps what is done, what stays, what seats promise. No condition. -/
import Derived.Test.YtligepciannclaaDoorPSynD
import Derived.Test.YtligepciannclaaDoorPSeatC
import Derived.Test.YtligepciannclaaDoorTie
import Derived.Test.YtligepciannclaaDoorCards
import Derived.Lib.LaidTab
import Derived.LaidMore
import Derived.Stop.Joined
set_option linter.unusedSimpArgs false
set_option linter.unusedVariables false
set_option maxHeartbeats 4000000
set_option maxRecDepth 100000
namespace Go.Proofs.YtligepciannclaaDoor
section
variable (a17 : Seat) (a25 : Bid) (a26 : Bid) (a9 : Vote) (d : ByteArray) (n : Int) (s : Syn)
abbrev O116 := (hearP s.voters a9.bid a26 a9)
abbrev O118 := (s.votes.eraseIdx n.toNat)
abbrev O119 := (((a17.serveP a9).2.1).map Vote.cs)
abbrev O0 : OB := some ⟨5, [[.lst 1 (s.voters.weights.map cI), VI s.voters.need, .lst 5 (s.seats.map Seat.cs), .lst 8 (s.bids.map Bid.cs), .lst 6 (s.votes.map Vote.cs)]]⟩
abbrev O1 : OB := some ⟨3, [[VI 3, VI n, .v (.string d)]]⟩
abbrev O2 : OB := some ⟨5, [[.emp, VI 0, .emp, .emp, .emp]]⟩
abbrev O3 : LS := [(4, .ref 2 5 0 0), (3, .ref 1 3 0 0), (2, .ref 0 5 0 0)]
abbrev O4 : AV := .agg [.lst 1 (s.voters.weights.map cI), VI s.voters.need, .lst 5 (s.seats.map Seat.cs), .lst 8 (s.bids.map Bid.cs), .lst 6 (s.votes.map Vote.cs)]
abbrev O8 : AV := .agg [.emp, VI 0, .emp, .emp, .emp]
abbrev O9 : LS := (86, VI n) :: (85, .ref 1 3 0 1) :: (46, .v (.bool false)) :: O3
abbrev O10 : LS := (95, .v (.bool true)) :: (94, .v undef) :: (93, .v undef) :: (92, .v undef) :: (91, .v undef) :: (90, .v undef) :: (89, .v undef) :: (88, .v (.bool true)) :: (87, .v (.bool true)) :: (O9 n)
abbrev O11 : LS := (92, .lst 6 (s.votes.map Vote.cs)) :: (91, .ref 0 5 0 4) :: (90, VI n) :: (89, .ref 1 3 0 1) :: (88, .v (.bool false)) :: (87, .v (.bool false)) :: (O9 n)
abbrev O12 : LS := [(2, .ref 0 5 0 0), (3, .ref 1 3 0 0), (4, .ref 2 5 0 0), (95, .v (.bool true))]
abbrev O13 : LS := [(2, .ref 0 5 0 0), (3, .ref 1 3 0 0), (4, .ref 2 5 0 0), (95, .v (.bool false))]
abbrev O14 : LS := (100, VI n) :: (99, .ref 1 3 0 1) :: (98, .lst 6 (s.votes.map Vote.cs)) :: (97, .ref 0 5 0 4) :: O13
abbrev O15 : LS := (101, .pim [VI a9.kind, VI a9.bid, VI a9.node, VI a9.copy.at_.time, VI a9.copy.at_.who, .v (.string a9.copy.data)] 0) :: (O14 n s)
abbrev O16 : OB := some ⟨6, [[VI a9.kind, VI a9.bid, VI a9.node, VI a9.copy.at_.time, VI a9.copy.at_.who, .v (.string a9.copy.data)]]⟩
abbrev O17 : LB := [(O0 s), (O1 d n), O2, (O16 a9)]
abbrev O18 : LS := [(10, .ref 3 6 0 0), (2, .ref 0 5 0 0), (3, .ref 1 3 0 0), (4, .ref 2 5 0 0)]
abbrev O19 : LS := (117, VI n) :: (116, .ref 1 3 0 1) :: (115, .lst 6 (s.votes.map Vote.cs)) :: (114, .ref 0 5 0 4) :: (105, .v (.bool false)) :: O18
abbrev O20 : OB := some ⟨6, ((O118 n s).map Vote.cs)⟩
abbrev O21 : LB := [(O0 s), (O1 d n), O2, (O16 a9), (O20 n s)]
abbrev O22 : LS := (118, .own 4 6 0 (List.length (O118 n s))) :: (O19 n s)
abbrev O23 : OB := some ⟨5, [[.lst 1 (s.voters.weights.map cI), VI s.voters.need, .lst 5 (s.seats.map Seat.cs), .lst 8 (s.bids.map Bid.cs), .own 4 6 0 (List.length (O118 n s))]]⟩
abbrev O24 : LB := [(O23 n s), (O1 d n), O2, (O16 a9), (O20 n s)]
abbrev O25 : LS := (125, VI a9.kind) :: (124, .ref 3 6 0 0) :: (123, .v (.bool true)) :: (122, .v (.bool true)) :: (121, VI 3) :: (120, .ref 1 3 0 0) :: (119, .ref 0 5 0 4) :: (O22 n s)
abbrev O26 : LS := (132, .v (.bool true)) :: (131, .v (.bool true)) :: (130, .v undef) :: (129, .v undef) :: (128, .v undef) :: (127, .v (.bool true)) :: (126, .v (.bool true)) :: (O25 a9 n s)
abbrev O27 : LS := (129, VI a9.kind) :: (128, .ref 3 6 0 0) :: (127, .v (.bool false)) :: (126, .v (.bool false)) :: (O25 a9 n s)
abbrev O28 : LS := [(2, .ref 0 5 0 0), (3, .ref 1 3 0 0), (4, .ref 2 5 0 0), (10, .ref 3 6 0 0), (132, .v (.bool true))]
abbrev O29 : LS := [(2, .ref 0 5 0 0), (3, .ref 1 3 0 0), (4, .ref 2 5 0 0), (10, .ref 3 6 0 0), (132, .v (.bool false))]
abbrev O30 : LB := [(O23 n s), (O1 d n), O2, (O16 a9), (O20 n s), some ⟨5, []⟩]
abbrev O31 : LS := (135, .lst 5 (s.seats.map Seat.cs)) :: (134, .ref 0 5 0 2) :: (133, .own 5 5 0 0) :: O28
abbrev O32 : OB := some ⟨5, (s.seats.map Seat.cs)⟩
abbrev O33 : LB := [(O23 n s), (O1 d n), O2, (O16 a9), (O20 n s), none, (O32 s)]
abbrev O34 : LS := [(11, .own 6 5 0 (List.length s.seats)), (2, .ref 0 5 0 0), (3, .ref 1 3 0 0), (4, .ref 2 5 0 0), (10, .ref 3 6 0 0)]
abbrev O35 : LS := (140, VI a9.node) :: (139, .ref 3 6 0 2) :: (138, .own 6 5 0 (List.length s.seats)) :: (O34 s)
abbrev O36 : LS := (141, .ref 6 5 (0 + Int.toNat a9.node) 0) :: (O35 a9 s)
abbrev O37 : AV := .agg [VI a17.promised.time, VI a17.promised.who, VI a17.kept.at_.time, VI a17.kept.at_.who, .v (.string a17.kept.data)]
abbrev O38 : AV := .agg [VI a9.kind, VI a9.bid, VI a9.node, VI a9.copy.at_.time, VI a9.copy.at_.who, .v (.string a9.copy.data)]
abbrev O39 : AV := .agg [VI ((((a17.serveP a9).1).promised).time), VI ((((a17.serveP a9).1).promised).who), VI (((((a17.serveP a9).1).kept).at_).time), VI (((((a17.serveP a9).1).kept).at_).who), .v (.string ((((a17.serveP a9).1).kept).data))]
abbrev O40 : LS := (144, .tup [(O39 a17 a9), .lst 6 (O119 a17 a9), VI ((a17.serveP a9).2.2)]) :: (143, (O38 a9)) :: (142, (O37 a17)) :: (O36 a9 s)
abbrev O41 : OB := some ⟨5, [[VI ((((a17.serveP a9).1).promised).time), VI ((((a17.serveP a9).1).promised).who), VI (((((a17.serveP a9).1).kept).at_).time), VI (((((a17.serveP a9).1).kept).at_).who), .v (.string ((((a17.serveP a9).1).kept).data))]]⟩
abbrev O42 : LB := [(O23 n s), (O1 d n), O2, (O16 a9), (O20 n s), none, (O32 s), (O41 a17 a9)]
abbrev O43 : LS := (13, .lst 6 (O119 a17 a9)) :: (12, .ref 7 5 0 0) :: (O34 s)
abbrev O44 : LS := (151, (O39 a17 a9)) :: (150, VI a9.node) :: (149, .ref 3 6 0 2) :: (148, .own 6 5 0 (List.length s.seats)) :: (O43 a17 a9 s)
abbrev O45 : LS := (152, .ref 6 5 (0 + Int.toNat a9.node) 0) :: (O44 a17 a9 s)
abbrev O46 : OB := some ⟨5, ((List.set s.seats (0 + Int.toNat a9.node) ((a17.serveP a9).1)).map Seat.cs)⟩
abbrev O47 : LB := [(O23 n s), (O1 d n), O2, (O16 a9), (O20 n s), none, (O46 a17 a9 s), (O41 a17 a9)]
abbrev O48 : LS := (13, .lst 6 (O119 a17 a9)) :: (O34 s)
abbrev O49 : OB := some ⟨5, [[.lst 1 (s.voters.weights.map cI), VI s.voters.need, .own 6 5 0 (List.length s.seats), .lst 8 (s.bids.map Bid.cs), .own 4 6 0 (List.length (O118 n s))]]⟩
abbrev O50 : LB := [(O49 n s), (O1 d n), O2, (O16 a9), (O20 n s), none, (O46 a17 a9 s), (O41 a17 a9)]
abbrev O51 : LS := [(13, .lst 6 (O119 a17 a9)), (2, .ref 0 5 0 0), (3, .ref 1 3 0 0), (4, .ref 2 5 0 0), (10, .ref 3 6 0 0)]
abbrev O52 : LS := (157, .lst 6 (O119 a17 a9)) :: (156, .own 4 6 0 (List.length (O118 n s))) :: (155, .ref 0 5 0 4) :: (O51 a17 a9)
abbrev O53 : OB := some ⟨6, (((O118 n s) ++ ((a17.serveP a9).2.1)).map Vote.cs)⟩
abbrev O54 : LB := [(O49 n s), (O1 d n), O2, (O16 a9), none, none, (O46 a17 a9 s), (O41 a17 a9), (O53 a17 a9 n s)]
abbrev O55 : LS := (158, .own 8 6 0 (List.length ((O118 n s) ++ ((a17.serveP a9).2.1)))) :: (O52 a17 a9 n s)
abbrev O56 : OB := some ⟨5, [[.lst 1 (s.voters.weights.map cI), VI s.voters.need, .own 6 5 0 (List.length s.seats), .lst 8 (s.bids.map Bid.cs), .own 8 6 0 (List.length ((O118 n s) ++ ((a17.serveP a9).2.1)))]]⟩
abbrev O57 : LB := [(O56 a17 a9 n s), (O1 d n), O2, (O16 a9), none, none, (O46 a17 a9 s), (O41 a17 a9), (O53 a17 a9 n s)]
abbrev O58 : LS := (165, VI a9.kind) :: (164, .ref 3 6 0 0) :: (163, .v (.bool true)) :: (162, .v (.bool true)) :: (161, VI 3) :: (160, .ref 1 3 0 0) :: (159, .ref 0 5 0 4) :: (O55 a17 a9 n s)
abbrev O60 : LS := [(2, .ref 0 5 0 0), (4, .ref 2 5 0 0), (10, .ref 3 6 0 0)]
abbrev O61 : LS := (165, VI a9.kind) :: (164, .ref 3 6 0 0) :: (163, .v (.bool true)) :: (162, .v (.bool true)) :: (161, VI 3) :: (160, .ref 1 3 0 0) :: O29
abbrev O62 : LS := (172, .v (.bool true)) :: (171, .v (.bool true)) :: (170, .v undef) :: (169, .v undef) :: (168, .v undef) :: (167, .v (.bool true)) :: (166, .v (.bool true)) :: (O61 a9)
abbrev O63 : LS := (169, VI a9.kind) :: (168, .ref 3 6 0 0) :: (167, .v (.bool false)) :: (166, .v (.bool false)) :: (O61 a9)
abbrev O64 : LS := [(2, .ref 0 5 0 0), (4, .ref 2 5 0 0), (10, .ref 3 6 0 0), (172, .v (.bool true))]
abbrev O65 : LB := [(O23 n s), (O1 d n), O2, (O16 a9), (O20 n s), some ⟨8, []⟩]
abbrev O66 : LS := (175, .lst 8 (s.bids.map Bid.cs)) :: (174, .ref 0 5 0 3) :: (173, .own 5 8 0 0) :: O64
abbrev O67 : LB := [(O23 n s), (O1 d n), O2, (O16 a9), (O20 n s), none, some ⟨8, (s.bids.map Bid.cs)⟩]
abbrev O68 : AV := .agg [.lst 1 (s.voters.weights.map cI), VI s.voters.need]
abbrev O69 : LS := (184, VI a9.bid) :: (183, .ref 3 6 0 1) :: (182, .own 6 8 0 (List.length s.bids)) :: (181, VI a9.bid) :: (180, .ref 3 6 0 1) :: (179, (O68 s)) :: (178, .ref 0 5 0 0) :: (15, .own 6 8 0 (List.length s.bids)) :: O60
abbrev O70 : LS := (185, .ref 6 8 (0 + Int.toNat a9.bid) 0) :: (O69 a9 s)
abbrev O82 : OB := some ⟨5, [[.lst 1 (s.voters.weights.map cI), VI s.voters.need, .lst 5 (s.seats.map Seat.cs), .own 6 8 0 (List.length s.bids), .own 4 6 0 (List.length (O118 n s))]]⟩
abbrev O91 : LB := [(O56 a17 a9 n s), (O1 d n), (O56 a17 a9 n s), (O16 a9), none, none, (O46 a17 a9 s), (O41 a17 a9), (O53 a17 a9 n s)]
abbrev O92 : AV := .agg [.lst 1 (s.voters.weights.map cI), VI s.voters.need, .own 6 5 0 (List.length s.seats), .lst 8 (s.bids.map Bid.cs), .own 8 6 0 (List.length ((O118 n s) ++ ((a17.serveP a9).2.1)))]
abbrev O93 : AV := .agg [.lst 1 (s.voters.weights.map cI), VI s.voters.need, .lst 5 ((List.set s.seats (0 + Int.toNat a9.node) ((a17.serveP a9).1)).map Seat.cs), .lst 8 (s.bids.map Bid.cs), .lst 6 (((O118 n s) ++ ((a17.serveP a9).2.1)).map Vote.cs)]
abbrev O94 : AV := .agg [VI a26.time, VI a26.phase, .v (.string a26.own), .v (.string a26.value), VI a26.best.at_.time, VI a26.best.at_.who, .v (.string a26.best.data), .v (.int .u64 (a26.heard.n : Int))]
abbrev O95 : AV := .agg [VI (((O116 a26 a9 s).1).time), VI (((O116 a26 a9 s).1).phase), .v (.string (((O116 a26 a9 s).1).own)), .v (.string (((O116 a26 a9 s).1).value)), VI (((((O116 a26 a9 s).1).best).at_).time), VI (((((O116 a26 a9 s).1).best).at_).who), .v (.string ((((O116 a26 a9 s).1).best).data)), .v (.int .u64 (((O116 a26 a9 s).1).heard.n : Int))]
abbrev O96 : LS := (188, .tup [(O95 a26 a9 s), .lst 6 (((O116 a26 a9 s).2.1).map Vote.cs), VI ((O116 a26 a9 s).2.2)]) :: (187, (O38 a9)) :: (186, (O94 a26)) :: (O70 a9 s)
abbrev O97 : OB := some ⟨8, [[VI (((O116 a26 a9 s).1).time), VI (((O116 a26 a9 s).1).phase), .v (.string (((O116 a26 a9 s).1).own)), .v (.string (((O116 a26 a9 s).1).value)), VI (((((O116 a26 a9 s).1).best).at_).time), VI (((((O116 a26 a9 s).1).best).at_).who), .v (.string ((((O116 a26 a9 s).1).best).data)), .v (.int .u64 (((O116 a26 a9 s).1).heard.n : Int))]]⟩
abbrev O98 : LB := [(O23 n s), (O1 d n), O2, (O16 a9), (O20 n s), none, some ⟨8, (s.bids.map Bid.cs)⟩, (O97 a26 a9 s)]
abbrev O99 : LS := (17, .lst 6 (((O116 a26 a9 s).2.1).map Vote.cs)) :: (16, .ref 7 8 0 0) :: (15, .own 6 8 0 (List.length s.bids)) :: O60
abbrev O100 : LS := (195, (O95 a26 a9 s)) :: (194, VI a9.bid) :: (193, .ref 3 6 0 1) :: (192, .own 6 8 0 (List.length s.bids)) :: (O99 a26 a9 s)
abbrev O101 : LS := (196, .ref 6 8 (0 + Int.toNat a9.bid) 0) :: (O100 a26 a9 s)
abbrev O102 : OB := some ⟨8, ((List.set s.bids (0 + Int.toNat a9.bid) ((O116 a26 a9 s).1)).map Bid.cs)⟩
abbrev O103 : LB := [(O23 n s), (O1 d n), O2, (O16 a9), (O20 n s), none, (O102 a26 a9 s), (O97 a26 a9 s)]
abbrev O104 : LS := [(17, .lst 6 (((O116 a26 a9 s).2.1).map Vote.cs)), (15, .own 6 8 0 (List.length s.bids)), (2, .ref 0 5 0 0), (4, .ref 2 5 0 0)]
abbrev O105 : LB := [(O82 n s), (O1 d n), O2, (O16 a9), (O20 n s), none, (O102 a26 a9 s), (O97 a26 a9 s)]
abbrev O106 : LS := [(17, .lst 6 (((O116 a26 a9 s).2.1).map Vote.cs)), (2, .ref 0 5 0 0), (4, .ref 2 5 0 0)]
abbrev O107 : LS := (201, .lst 6 (((O116 a26 a9 s).2.1).map Vote.cs)) :: (200, .own 4 6 0 (List.length (O118 n s))) :: (199, .ref 0 5 0 4) :: (O106 a26 a9 s)
abbrev O108 : OB := some ⟨6, (((O118 n s) ++ ((O116 a26 a9 s).2.1)).map Vote.cs)⟩
abbrev O109 : LB := [(O82 n s), (O1 d n), O2, (O16 a9), none, none, (O102 a26 a9 s), (O97 a26 a9 s), (O108 a26 a9 n s)]
abbrev O110 : LS := (202, .own 8 6 0 (List.length ((O118 n s) ++ ((O116 a26 a9 s).2.1)))) :: (O107 a26 a9 n s)
abbrev O111 : OB := some ⟨5, [[.lst 1 (s.voters.weights.map cI), VI s.voters.need, .lst 5 (s.seats.map Seat.cs), .own 6 8 0 (List.length s.bids), .own 8 6 0 (List.length ((O118 n s) ++ ((O116 a26 a9 s).2.1)))]]⟩
abbrev O112 : LB := [(O111 a26 a9 n s), (O1 d n), O2, (O16 a9), none, none, (O102 a26 a9 s), (O97 a26 a9 s), (O108 a26 a9 n s)]
abbrev O113 : LB := [(O111 a26 a9 n s), (O1 d n), (O111 a26 a9 n s), (O16 a9), none, none, (O102 a26 a9 s), (O97 a26 a9 s), (O108 a26 a9 n s)]
abbrev O114 : AV := .agg [.lst 1 (s.voters.weights.map cI), VI s.voters.need, .lst 5 (s.seats.map Seat.cs), .own 6 8 0 (List.length s.bids), .own 8 6 0 (List.length ((O118 n s) ++ ((O116 a26 a9 s).2.1)))]
abbrev O115 : AV := .agg [.lst 1 (s.voters.weights.map cI), VI s.voters.need, .lst 5 (s.seats.map Seat.cs), .lst 8 ((List.set s.bids (0 + Int.toNat a9.bid) ((O116 a26 a9 s).1)).map Bid.cs), .lst 6 (((O118 n s) ++ ((O116 a26 a9 s).2.1)).map Vote.cs)]
end
theorem rstep3_fn (s : Syn) (n : Int) (d : ByteArray) (ok : s.Ok) : Fn Tryd.prog 15 [.agg [.lst 1 (s.voters.weights.map cI), VI s.voters.need, .lst 5 (s.seats.map Seat.cs), .lst 8 (s.bids.map Bid.cs), .lst 6 (s.votes.map Vote.cs)], .agg [VI 3, VI n, .v (.string d)]] (.tup [.agg [.lst 1 (((((s.stepP 3 n d).1).voters).weights).map cI), VI ((((s.stepP 3 n d).1).voters).need), .lst 5 ((((s.stepP 3 n d).1).seats).map Seat.cs), .lst 8 ((((s.stepP 3 n d).1).bids).map Bid.cs), .lst 6 ((((s.stepP 3 n d).1).votes).map Vote.cs)], VI ((s.stepP 3 n d).2)]) := by
 have hbig := ok.big
 have hc0 := Syn.ok_iff.2 ok
 have hc : (s.checkE != 0) = false := by rw [hc0]; rfl
 have q1 := qc_len ok.q
 have q2 := ok.len
 have q3 := ok.few
 have q4 := ok.many
 have vv := ok.vv
 have hx1 : s.voters.weights.length ≤ 9223372036854775807 := by omega
 refine fnw F15_ok ?_
 refine srl 4 [2, 3, 4] ⟨O3, [(O0 s), (O1 d n), O2]⟩ ?_
 refine srr 1 ⟨(19, (O4 s)) :: O3, [(O0 s), (O1 d n), O2]⟩ ?_
 refine owg [(O4 s)] ⟨(20, VI s.checkE) :: (19, (O4 s)) :: O3, [(O0 s), (O1 d n), O2]⟩ (rcheck_fn s (by first | assumption | exact hbig | exact hbig.1)) ?_
 refine owl 1 [2, 3, 4, 6] ⟨(6, VI s.checkE) :: O3, [(O0 s), (O1 d n), O2]⟩ ?_
 refine EL.seq ?_
 refine srl 2 [2, 3, 4, 6, 22] ⟨(22, .v (.bool (s.checkE != 0))) :: (6, VI s.checkE) :: O3, [(O0 s), (O1 d n), O2]⟩ ?_
 rw [hc]
 refine cnF ?_
 refine skn ?_
 refine EL.seq ?_
 refine srl 8 [2, 3, 4, 32] ⟨(32, .v (.bool false)) :: O3, [(O0 s), (O1 d n), O2]⟩ ?_
 refine cnF ?_
 refine skn ?_
 refine EL.seq ?_
 refine srl 9 [2, 3, 4, 42] ⟨(42, .v (.bool (decide ((ByteArray.size d : Int) > 0)))) :: O3, [(O0 s), (O1 d n), O2]⟩ ?_
 cases h1 : (decide ((ByteArray.size d : Int) > 0))
 have g1 := of_decide_eq_false h1
 have n1 : ¬ ((ByteArray.size d) > 0) := by omega
 refine cnF ?_
 refine skn ?_
 refine EL.seq ?_
 refine srl 3 [2, 3, 4, 46] ⟨(46, .v (.bool false)) :: O3, [(O0 s), (O1 d n), O2]⟩ ?_
 refine cnF ?_
 refine EL.seq ?_
 refine EL.seqG [2, 3, 4, 95] (fun y => (y = ⟨O12, [(O0 s), (O1 d n), O2]⟩ ∧ (((n < 0)) ∨ (¬ (n < 0) ∧ (n ≥ (List.length s.votes : Int))))) ∨ (y = ⟨O13, [(O0 s), (O1 d n), O2]⟩ ∧ decide (n < 0) = false ∧ decide (n ≥ (List.length s.votes : Int)) = false)) ?_ ?_
 intro IHJ2 HJ2
 refine EL.reg0 ?_
 refine owr 4 ⟨(88, .v (.bool (decide (n < 0)))) :: (87, .v (.bool (decide (n < 0)))) :: (O9 n), [(O0 s), (O1 d n), O2]⟩ ?_
 cases h3 : (decide (n < 0))
 have g3 := of_decide_eq_false h3
 refine owr 4 ⟨(O11 n s), [(O0 s), (O1 d n), O2]⟩ ?_
 refine ow2 ⟨(93, VI (List.length s.votes : Int)) :: (O11 n s), [(O0 s), (O1 d n), O2]⟩ (oln Vote.cs s.votes (.s 92) 6) ?_
 refine owe 2 ⟨(95, .v (.bool (decide (n ≥ (List.length s.votes : Int))))) :: (94, .v (.bool (decide (n ≥ (List.length s.votes : Int))))) :: (93, VI (List.length s.votes : Int)) :: (O11 n s), [(O0 s), (O1 d n), O2]⟩ ?_
 cases h4 : (decide (n ≥ (List.length s.votes : Int)))
 have g4 := of_decide_eq_false h4
 exact tN (HJ2.get (Or.inr ⟨by kernel_rfl, h3, h4⟩))
 have g4 := of_decide_eq_true h4
 exact tN (HJ2.get (Or.inl ⟨by kernel_rfl, (Or.inr (by refine ⟨(by first | exact g3 | exact h3 | simp_all | omega), (by first | exact g4 | exact h4 | simp_all | omega)⟩))⟩))
 have g3 := of_decide_eq_true h3
 refine owe 7 ⟨(O10 n), [(O0 s), (O1 d n), O2]⟩ ?_
 exact tN (HJ2.get (Or.inl ⟨by kernel_rfl, (Or.inl (by first | exact g3 | exact h3 | simp_all | omega))⟩))
 rintro _ (⟨rfl, hD5⟩ | ⟨rfl, h6, h7⟩)
 refine cnT ?_
 refine srl 3 [4, 5] ⟨[(5, VI 3), (4, .ref 2 5 0 0)], [(O0 s), (O1 d n), O2]⟩ ?_
 refine rtr ?_
 refine tR ?_
 refine rqa (.tup [O8, VI 3]) (Ale.tup (aT (aE 1 (aR (aE 5 (aE 8 (aE 6 (.nil)))))) (aR .nil))) ?_
 rotate_left
 have g6 := of_decide_eq_false h6
 have g7 := of_decide_eq_false h7
 refine cnF ?_
 refine skn ?_
 refine srr 4 ⟨(O14 n s), [(O0 s), (O1 d n), O2]⟩ ?_
 obtain ⟨a9, ha9⟩ : ∃ y, s.votes[(n : Int).toNat]? = some y := idx_ex ⟨by omega, by omega⟩
 have ma9 := vv _ (List.mem_of_getElem? ha9)
 refine ow2 ⟨(O15 a9 n s), [(O0 s), (O1 d n), O2]⟩ (oid Vote.cs s.votes (.s 98) (.s 100) 6 .i64 n a9 (by omega) ha9) ?_
 refine owl 3 [2, 3, 4, 10] ⟨O18, (O17 a9 d n s)⟩ ?_
 refine EL.seq ?_
 refine srl 3 [2, 3, 4, 10, 105] ⟨(105, .v (.bool false)) :: O18, (O17 a9 d n s)⟩ ?_
 refine cnF ?_
 refine EL.reg0 ?_
 refine owr 4 ⟨(O19 n s), (O17 a9 d n s)⟩ ?_
 refine OW.fo (ar := [.lst 6 (s.votes.map Vote.cs), VI n]) (fe := Vote.cs) (xs := (O118 n s)) (x' := ⟨(O22 n s), (O21 a9 d n s)⟩) (by kernel_rfl) (by kernel_rfl) F31_call (withoutV_fo s.votes n (by omega) (by omega)) (by intro y; kernel_rfl) (by kernel_rfl) (by kernel_rfl) ?_
 refine owe 2 ⟨(119, .ref 0 5 0 4) :: (O22 n s), (O24 a9 d n s)⟩ ?_
 refine tN ?_
 refine EL.seq ?_
 refine EL.seqG [2, 3, 4, 10, 132] (fun y => (y = ⟨O28, (O24 a9 d n s)⟩ ∧ ((a9.kind = 1) ∨ (¬ a9.kind = 1 ∧ a9.kind = 3))) ∨ (y = ⟨O29, (O24 a9 d n s)⟩ ∧ (a9.kind == 1) = false ∧ (a9.kind == 3) = false)) ?_ ?_
 intro IHJ10 HJ10
 refine EL.reg0 ?_
 refine owr 8 ⟨(127, .v (.bool (a9.kind == 1))) :: (126, .v (.bool (a9.kind == 1))) :: (O25 a9 n s), (O24 a9 d n s)⟩ ?_
 cases h11 : (a9.kind == 1)
 have g11 := bqF h11
 refine owe 5 ⟨(132, .v (.bool (a9.kind == 3))) :: (131, .v (.bool (a9.kind == 3))) :: (130, .v (.bool (a9.kind == 3))) :: (O27 a9 n s), (O24 a9 d n s)⟩ ?_
 cases h12 : (a9.kind == 3)
 have g12 := bqF h12
 exact tN (HJ10.get (Or.inr ⟨by kernel_rfl, h11, h12⟩))
 have g12 := bqT h12
 exact tN (HJ10.get (Or.inl ⟨by kernel_rfl, (Or.inr (by refine ⟨(by first | exact g11 | exact h11 | simp_all | omega), (by first | exact g12 | exact h12 | simp_all | omega)⟩))⟩))
 have g11 := bqT h11
 refine owe 5 ⟨(O26 a9 n s), (O24 a9 d n s)⟩ ?_
 exact tN (HJ10.get (Or.inl ⟨by kernel_rfl, (Or.inl (by first | exact g11 | exact h11 | simp_all | omega))⟩))
 rintro _ (⟨rfl, hD13⟩ | ⟨rfl, h14, h15⟩)
 refine cnT ?_
 refine srr 3 ⟨(O31 s), (O30 a9 d n s)⟩ ?_
 refine ow2 ⟨(136, .own 6 5 0 (List.length s.seats)) :: (O31 s), (O33 a9 d n s)⟩ (oap Seat.cs ([] : List Seat) s.seats (.s 133) (.s 135) 5 48 5 (.lst 5 (s.seats.map Seat.cs)) .lst (by first | (simp; omega) | omega | exact app_le (by first | exact q4 | exact ers_le q4 | omega) (by first | exact begin_len _ _ _ _ | exact Nat.le_trans (serve_len _ _) (by decide) | exact hear_len _ _ _ _ | (simp; done)) (by decide))) ?_
 refine owl 1 [2, 3, 4, 10, 11] ⟨(O34 s), (O33 a9 d n s)⟩ ?_
 refine sdr 3 ⟨(O35 a9 s), (O33 a9 d n s)⟩ ?_
 obtain ⟨a17, ha17⟩ : ∃ y, s.seats[(a9.node : Int).toNat]? = some y := idx_ex ⟨by omega, by omega⟩
 refine dw2 ⟨(O36 a9 s), (O33 a9 d n s)⟩ (opE_iado (.s 138) (.s 140) 5 6 0 (List.length s.seats) .i64 a9.node ⟨5, (s.seats.map Seat.cs)⟩ (by kernel_rfl) (by kernel_rfl) rfl rfl ⟨by omega, by omega⟩ (by kernel_rfl)) ?_
 refine dw2 ⟨(142, (O37 a17)) :: (O36 a9 s), (O33 a9 d n s)⟩ (opE_ldoS Seat.cs s.seats (some 5) (.s 141) 6 5 (0 + Int.toNat a9.node) 0 a17 ((O37 a17)) (by kernel_rfl) (by kernel_rfl) rfl (by kernel_rfl) (by simpa using ha17) (by kernel_rfl)) ?_
 refine dwr 1 ⟨(143, (O38 a9)) :: (142, (O37 a17)) :: (O36 a9 s), (O33 a9 d n s)⟩ ?_
 refine dwg [(O37 a17), (O38 a9)] ⟨(O40 a17 a9 s), (O33 a9 d n s)⟩ (rserve_fn a17 a9) ?_
 refine dwl 8 [2, 3, 4, 10, 11, 12, 13] ⟨(O43 a17 a9 s), (O42 a17 a9 d n s)⟩ ?_
 refine srr 4 ⟨(O44 a17 a9 s), (O42 a17 a9 d n s)⟩ ?_
 refine ow2 ⟨(O45 a17 a9 s), (O42 a17 a9 d n s)⟩ (opE_iado (.s 148) (.s 150) 5 6 0 (List.length s.seats) .i64 a9.node ⟨5, (s.seats.map Seat.cs)⟩ (by kernel_rfl) (by kernel_rfl) rfl rfl ⟨by omega, by omega⟩ (by kernel_rfl)) ?_
 refine ow2 ⟨(O45 a17 a9 s), (O47 a17 a9 d n s)⟩ (opE_stoS Seat.cs s.seats 5 (.s 152) (.s 151) 6 5 (0 + Int.toNat a9.node) 0 a17 ((a17.serveP a9).1) ((O39 a17 a9)) (by kernel_rfl) (by kernel_rfl) rfl rfl (by kernel_rfl) (by simpa using ha17) (by kernel_rfl) (by kernel_rfl)) ?_
 refine owl 0 [2, 3, 4, 10, 11, 13] ⟨(O48 a17 a9 s), (O47 a17 a9 d n s)⟩ ?_
 refine srl 3 [2, 3, 4, 10, 13] ⟨(O51 a17 a9), (O50 a17 a9 d n s)⟩ ?_
 refine EL.reg0 ?_
 refine owr 3 ⟨(O52 a17 a9 n s), (O50 a17 a9 d n s)⟩ ?_
 refine ow2 ⟨(O55 a17 a9 n s), (O54 a17 a9 d n s)⟩ (oap Vote.cs (O118 n s) ((a17.serveP a9).2.1) (.s 156) (.s 157) 6 56 4 (.lst 6 (O119 a17 a9)) .lst (by first | (simp; omega) | omega | exact app_le (by first | exact q4 | exact ers_le q4 | omega) (by first | exact begin_len _ _ _ _ | exact Nat.le_trans (serve_len _ _) (by decide) | exact hear_len _ _ _ _ | (simp; done)) (by decide))) ?_
 refine owe 2 ⟨(159, .ref 0 5 0 4) :: (O55 a17 a9 n s), (O57 a17 a9 d n s)⟩ ?_
 refine tN ?_
 refine srr 8 ⟨(167, .v (.bool (a9.kind == 2))) :: (166, .v (.bool (a9.kind == 2))) :: (O58 a17 a9 n s), (O57 a17 a9 d n s)⟩ ?_
 have h18 : (a9.kind == 2) = false := eq_false_of_ne_true (fun hh => absurd hh (by simp only [beq_iff_eq]; omega))
 rw [h18]
 refine owl 5 [2, 4, 10, 172] ⟨(172, .v (.bool (a9.kind == 4))) :: O60, (O57 a17 a9 d n s)⟩ ?_
 have h19 : (a9.kind == 4) = false := eq_false_of_ne_true (fun hh => absurd hh (by simp only [beq_iff_eq]; omega))
 rw [h19]
 refine cnF ?_
 refine skn ?_
 refine EL.seq ?_
 refine srl 4 [2, 4, 207] ⟨[(207, .v (.bool (decide ((List.length ((O118 n s) ++ ((a17.serveP a9).2.1)) : Int) > 200)))), (2, .ref 0 5 0 0), (4, .ref 2 5 0 0)], (O57 a17 a9 d n s)⟩ ?_
 cases h20 : (decide ((List.length ((s.votes.eraseIdx n.toNat) ++ ((a17.serveP a9).2.1)) : Int) > 200))
 have g20 := of_decide_eq_false h20
 have n20 : ¬ ((List.length ((s.votes.eraseIdx n.toNat) ++ ((a17.serveP a9).2.1))) > 200) := by omega
 refine cnF ?_
 refine skn ?_
 refine srl 3 [4, 5] ⟨[(5, VI 0), (4, .ref 2 5 0 0)], (O91 a17 a9 d n s)⟩ ?_
 refine EL.ret ?_
 refine rqs (.tup [(O93 a17 a9 n s), VI 0]) (.tup [(O92 a17 a9 n s), VI 0]) (snapR_tup (sA (snapA_agg (sC (by kernel_rfl) (sC (by kernel_rfl) (sC (smp Seat.cs (List.set s.seats (0 + Int.toNat a9.node) ((a17.serveP a9).1))) (sC (by kernel_rfl) (sC (smp Vote.cs ((s.votes.eraseIdx n.toNat) ++ ((a17.serveP a9).2.1))) (rfl))))))) (sA (by kernel_rfl) (snapAs_nil)))) ?_
 rotate_left
 have g20 := of_decide_eq_true h20
 have n20 : ((List.length ((s.votes.eraseIdx n.toNat) ++ ((a17.serveP a9).2.1))) > 200) := by omega
 refine cnT ?_
 refine srl 3 [4, 5] ⟨[(5, VI 2), (4, .ref 2 5 0 0)], (O57 a17 a9 d n s)⟩ ?_
 refine rtr ?_
 refine rqa (.tup [O8, VI 2]) (Ale.tup (aT (aE 1 (aR (aE 5 (aE 8 (aE 6 (.nil)))))) (aR .nil))) ?_
 rotate_left
 have g14 := bqF h14
 have g15 := bqF h15
 refine cnF ?_
 refine skn ?_
 refine EL.seqG [2, 4, 10, 172] (fun y => (y = ⟨O64, (O24 a9 d n s)⟩ ∧ ((a9.kind = 2) ∨ (¬ a9.kind = 2 ∧ a9.kind = 4)))) ?_ ?_
 intro IHJ21 HJ21
 refine EL.reg0 ?_
 refine owr 8 ⟨(167, .v (.bool (a9.kind == 2))) :: (166, .v (.bool (a9.kind == 2))) :: (O61 a9), (O24 a9 d n s)⟩ ?_
 cases h22 : (a9.kind == 2)
 have g22 := bqF h22
 refine owe 5 ⟨(172, .v (.bool (a9.kind == 4))) :: (171, .v (.bool (a9.kind == 4))) :: (170, .v (.bool (a9.kind == 4))) :: (O63 a9), (O24 a9 d n s)⟩ ?_
 have h23 : (a9.kind == 4) = true := eq_true_of_ne_false (fun hh => absurd hh (by simp only [beq_eq_false_iff_ne, ne_eq]; omega))
 rw [h23]
 exact tN (HJ21.get ⟨by kernel_rfl, (Or.inr (by refine ⟨(by first | exact g22 | exact h22 | simp_all | omega), (by first | exact g23 | exact h23 | simp_all | omega)⟩))⟩)
 have g22 := bqT h22
 refine owe 5 ⟨(O62 a9), (O24 a9 d n s)⟩ ?_
 exact tN (HJ21.get ⟨by kernel_rfl, (Or.inl (by first | exact g22 | exact h22 | simp_all | omega))⟩)
 rintro _ (⟨rfl, hD24⟩)
 refine cnT ?_
 refine srr 3 ⟨(O66 s), (O65 a9 d n s)⟩ ?_
 refine ow2 ⟨(176, .own 6 8 0 (List.length s.bids)) :: (O66 s), (O67 a9 d n s)⟩ (oap Bid.cs ([] : List Bid) s.bids (.s 173) (.s 175) 8 88 5 (.lst 8 (s.bids.map Bid.cs)) .lst (by first | (simp; omega) | omega | exact app_le (by first | exact q4 | exact ers_le q4 | omega) (by first | exact begin_len _ _ _ _ | exact Nat.le_trans (serve_len _ _) (by decide) | exact hear_len _ _ _ _ | (simp; done)) (by decide))) ?_
 refine owl 1 [2, 4, 10, 15] ⟨(15, .own 6 8 0 (List.length s.bids)) :: O60, (O67 a9 d n s)⟩ ?_
 refine sdr 7 ⟨(O69 a9 s), (O67 a9 d n s)⟩ ?_
 obtain ⟨a26, ha26⟩ : ∃ y, s.bids[(a9.bid : Int).toNat]? = some y := idx_ex ⟨by omega, by omega⟩
 refine dw2 ⟨(O70 a9 s), (O67 a9 d n s)⟩ (opE_iado (.s 182) (.s 184) 8 6 0 (List.length s.bids) .i64 a9.bid ⟨8, (s.bids.map Bid.cs)⟩ (by kernel_rfl) (by kernel_rfl) rfl rfl ⟨by omega, by omega⟩ (by kernel_rfl)) ?_
 refine dw2 ⟨(186, (O94 a26)) :: (O70 a9 s), (O67 a9 d n s)⟩ (opE_ldoS Bid.cs s.bids (some 8) (.s 185) 6 8 (0 + Int.toNat a9.bid) 0 a26 ((O94 a26)) (by kernel_rfl) (by kernel_rfl) rfl (by kernel_rfl) (by simpa using ha26) (by kernel_rfl)) ?_
 refine dwr 1 ⟨(187, (O38 a9)) :: (186, (O94 a26)) :: (O70 a9 s), (O67 a9 d n s)⟩ ?_
 refine dwg [(O68 s), VI a9.bid, (O94 a26), (O38 a9)] ⟨(O96 a26 a9 s), (O67 a9 d n s)⟩ (rhear_fn s.voters a9.bid a26 a9 hx1) ?_
 refine dwl 8 [2, 4, 10, 15, 16, 17] ⟨(O99 a26 a9 s), (O98 a26 a9 d n s)⟩ ?_
 refine srr 4 ⟨(O100 a26 a9 s), (O98 a26 a9 d n s)⟩ ?_
 refine ow2 ⟨(O101 a26 a9 s), (O98 a26 a9 d n s)⟩ (opE_iado (.s 192) (.s 194) 8 6 0 (List.length s.bids) .i64 a9.bid ⟨8, (s.bids.map Bid.cs)⟩ (by kernel_rfl) (by kernel_rfl) rfl rfl ⟨by omega, by omega⟩ (by kernel_rfl)) ?_
 refine ow2 ⟨(O101 a26 a9 s), (O103 a26 a9 d n s)⟩ (opE_stoS Bid.cs s.bids 8 (.s 196) (.s 195) 6 8 (0 + Int.toNat a9.bid) 0 a26 ((O116 a26 a9 s).1) ((O95 a26 a9 s)) (by kernel_rfl) (by kernel_rfl) rfl rfl (by kernel_rfl) (by simpa using ha26) (by kernel_rfl) (by kernel_rfl)) ?_
 refine owl 0 [2, 4, 15, 17] ⟨(O104 a26 a9 s), (O103 a26 a9 d n s)⟩ ?_
 refine srl 3 [2, 4, 17] ⟨(O106 a26 a9 s), (O105 a26 a9 d n s)⟩ ?_
 refine EL.reg0 ?_
 refine owr 3 ⟨(O107 a26 a9 n s), (O105 a26 a9 d n s)⟩ ?_
 refine ow2 ⟨(O110 a26 a9 n s), (O109 a26 a9 d n s)⟩ (oap Vote.cs (O118 n s) ((O116 a26 a9 s).2.1) (.s 200) (.s 201) 6 56 4 (.lst 6 (((O116 a26 a9 s).2.1).map Vote.cs)) .lst (by first | (simp; omega) | omega | exact app_le (by first | exact q4 | exact ers_le q4 | omega) (by first | exact begin_len _ _ _ _ | exact Nat.le_trans (serve_len _ _) (by decide) | exact hear_len _ _ _ _ | (simp; done)) (by decide))) ?_
 refine owe 2 ⟨(203, .ref 0 5 0 4) :: (O110 a26 a9 n s), (O112 a26 a9 d n s)⟩ ?_
 refine tN ?_
 refine EL.seq ?_
 refine srl 4 [2, 4, 207] ⟨[(207, .v (.bool (decide ((List.length ((O118 n s) ++ ((O116 a26 a9 s).2.1)) : Int) > 200)))), (2, .ref 0 5 0 0), (4, .ref 2 5 0 0)], (O112 a26 a9 d n s)⟩ ?_
 cases h27 : (decide ((List.length ((s.votes.eraseIdx n.toNat) ++ ((hearP s.voters a9.bid a26 a9).2.1)) : Int) > 200))
 have g27 := of_decide_eq_false h27
 have n27 : ¬ ((List.length ((s.votes.eraseIdx n.toNat) ++ ((hearP s.voters a9.bid a26 a9).2.1))) > 200) := by omega
 refine cnF ?_
 refine skn ?_
 refine srl 3 [4, 5] ⟨[(5, VI 0), (4, .ref 2 5 0 0)], (O113 a26 a9 d n s)⟩ ?_
 refine EL.ret ?_
 refine rqs (.tup [(O115 a26 a9 n s), VI 0]) (.tup [(O114 a26 a9 n s), VI 0]) (snapR_tup (sA (snapA_agg (sC (by kernel_rfl) (sC (by kernel_rfl) (sC (by kernel_rfl) (sC (smp Bid.cs (List.set s.bids (0 + Int.toNat a9.bid) ((hearP s.voters a9.bid a26 a9).1))) (sC (smp Vote.cs ((s.votes.eraseIdx n.toNat) ++ ((hearP s.voters a9.bid a26 a9).2.1))) (rfl))))))) (sA (by kernel_rfl) (snapAs_nil)))) ?_
 rotate_left
 have g27 := of_decide_eq_true h27
 have n27 : ((List.length ((s.votes.eraseIdx n.toNat) ++ ((hearP s.voters a9.bid a26 a9).2.1))) > 200) := by omega
 refine cnT ?_
 refine srl 3 [4, 5] ⟨[(5, VI 2), (4, .ref 2 5 0 0)], (O112 a26 a9 d n s)⟩ ?_
 refine rtr ?_
 refine rqa (.tup [O8, VI 2]) (Ale.tup (aT (aE 1 (aR (aE 5 (aE 8 (aE 6 (.nil)))))) (aR .nil))) ?_
 rotate_left
 have g1 := of_decide_eq_true h1
 have n1 : ((ByteArray.size d) > 0) := by omega
 refine cnT ?_
 refine srl 3 [4, 5] ⟨[(5, VI 1), (4, .ref 2 5 0 0)], [(O0 s), (O1 d n), O2]⟩ ?_
 refine rtr ?_
 refine rqa (.tup [O8, VI 1]) (Ale.tup (aT (aE 1 (aR (aE 5 (aE 8 (aE 6 (.nil)))))) (aR .nil))) ?_
 rotate_left
 all_goals (first | (exfalso; omega) | (rw [Syn.step_1 (by omega) (by omega) (by omega)] <;> rfl) | (rw [Syn.step_r (by omega) (by omega) (by omega) (by omega)] <;> rfl) | (rw [Syn.step_s (by omega) (by assumption) (by omega) (by omega) (by assumption)]; first | (rw [Syn.many_0] <;> first | rfl | (dsimp only; omega)) | (rw [Syn.many_2] <;> first | rfl | (dsimp only; omega))) | (rw [Syn.step_b (by omega) (by assumption) (by omega) (by omega) (by assumption)]; first | (rw [Syn.many_0] <;> first | rfl | (dsimp only; omega)) | (rw [Syn.many_2] <;> first | rfl | (dsimp only; omega))))
section
variable (a5 : Vote) (d : ByteArray) (n : Int) (s : Syn)
abbrev O120 : OB := some ⟨3, [[VI 4, VI n, .v (.string d)]]⟩
abbrev O121 : LS := (100, VI n) :: (99, .ref 1 3 0 1) :: (98, .lst 6 (s.votes.map Vote.cs)) :: (97, .ref 0 5 0 4) :: (95, .v (.bool false)) :: O3
abbrev O122 : LS := (101, .pim [VI a5.kind, VI a5.bid, VI a5.node, VI a5.copy.at_.time, VI a5.copy.at_.who, .v (.string a5.copy.data)] 0) :: (O121 n s)
abbrev O123 : OB := some ⟨6, [[VI a5.kind, VI a5.bid, VI a5.node, VI a5.copy.at_.time, VI a5.copy.at_.who, .v (.string a5.copy.data)]]⟩
abbrev O124 : LB := [(O0 s), (O120 d n), O2, (O123 a5)]
abbrev O125 : LS := (105, .v (.bool false)) :: (10, .ref 3 6 0 0) :: O3
abbrev O126 : LS := (117, VI n) :: (116, .ref 1 3 0 1) :: (115, .lst 6 (s.votes.map Vote.cs)) :: (114, .ref 0 5 0 4) :: O125
abbrev O127 : LB := [(O0 s), (O120 d n), O2, (O123 a5), (O20 n s)]
abbrev O128 : LS := (118, .own 4 6 0 (List.length (s.votes.eraseIdx n.toNat))) :: (O126 n s)
abbrev O129 : LB := [(O23 n s), (O120 d n), O2, (O123 a5), (O20 n s)]
abbrev O130 : LS := (132, .v (.bool false)) :: (10, .ref 3 6 0 0) :: O3
abbrev O131 : LS := [(172, .v (.bool false)), (10, .ref 3 6 0 0), (4, .ref 2 5 0 0), (2, .ref 0 5 0 0)]
abbrev O132 : LB := [(O23 n s), (O120 d n), (O23 n s), (O123 a5), (O20 n s)]
abbrev O133 : AV := .agg [.lst 1 (s.voters.weights.map cI), VI s.voters.need, .lst 5 (s.seats.map Seat.cs), .lst 8 (s.bids.map Bid.cs), .own 4 6 0 (List.length (s.votes.eraseIdx n.toNat))]
abbrev O134 : AV := .agg [.lst 1 (s.voters.weights.map cI), VI s.voters.need, .lst 5 (s.seats.map Seat.cs), .lst 8 (s.bids.map Bid.cs), .lst 6 ((s.votes.eraseIdx n.toNat).map Vote.cs)]
end
theorem rstep4_fn (s : Syn) (n : Int) (d : ByteArray) (ok : s.Ok) : Fn Tryd.prog 15 [.agg [.lst 1 (s.voters.weights.map cI), VI s.voters.need, .lst 5 (s.seats.map Seat.cs), .lst 8 (s.bids.map Bid.cs), .lst 6 (s.votes.map Vote.cs)], .agg [VI 4, VI n, .v (.string d)]] (.tup [.agg [.lst 1 (((((s.stepP 4 n d).1).voters).weights).map cI), VI ((((s.stepP 4 n d).1).voters).need), .lst 5 ((((s.stepP 4 n d).1).seats).map Seat.cs), .lst 8 ((((s.stepP 4 n d).1).bids).map Bid.cs), .lst 6 ((((s.stepP 4 n d).1).votes).map Vote.cs)], VI ((s.stepP 4 n d).2)]) := by
 have hbig := ok.big
 have hc0 := Syn.ok_iff.2 ok
 have hc : (s.checkE != 0) = false := by rw [hc0]; rfl
 have q1 := qc_len ok.q
 have q2 := ok.len
 have q3 := ok.few
 have q4 := ok.many
 have vv := ok.vv
 have hx1 : s.voters.weights.length ≤ 9223372036854775807 := by omega
 refine fnw F15_ok ?_
 refine srl 4 [2, 3, 4] ⟨O3, [(O0 s), (O120 d n), O2]⟩ ?_
 refine srr 1 ⟨(19, (O4 s)) :: O3, [(O0 s), (O120 d n), O2]⟩ ?_
 refine owg [(O4 s)] ⟨(20, VI s.checkE) :: (19, (O4 s)) :: O3, [(O0 s), (O120 d n), O2]⟩ (rcheck_fn s (by first | assumption | exact hbig | exact hbig.1)) ?_
 refine owl 1 [2, 3, 4, 6] ⟨(6, VI s.checkE) :: O3, [(O0 s), (O120 d n), O2]⟩ ?_
 refine EL.seq ?_
 refine srl 2 [2, 3, 4, 6, 22] ⟨(22, .v (.bool (s.checkE != 0))) :: (6, VI s.checkE) :: O3, [(O0 s), (O120 d n), O2]⟩ ?_
 rw [hc]
 refine cnF ?_
 refine skn ?_
 refine EL.seq ?_
 refine srl 8 [2, 3, 4, 32] ⟨(32, .v (.bool false)) :: O3, [(O0 s), (O120 d n), O2]⟩ ?_
 refine cnF ?_
 refine skn ?_
 refine EL.seq ?_
 refine srl 9 [2, 3, 4, 42] ⟨(42, .v (.bool (decide ((ByteArray.size d : Int) > 0)))) :: O3, [(O0 s), (O120 d n), O2]⟩ ?_
 cases h1 : (decide ((ByteArray.size d : Int) > 0))
 have g1 := of_decide_eq_false h1
 have n1 : ¬ ((ByteArray.size d) > 0) := by omega
 refine cnF ?_
 refine skn ?_
 refine EL.seq ?_
 refine srl 3 [2, 3, 4, 46] ⟨(46, .v (.bool false)) :: O3, [(O0 s), (O120 d n), O2]⟩ ?_
 refine cnF ?_
 refine EL.seq ?_
 refine srr 4 ⟨(88, .v (.bool (decide (n < 0)))) :: (87, .v (.bool (decide (n < 0)))) :: (O9 n), [(O0 s), (O120 d n), O2]⟩ ?_
 cases h2 : (decide (n < 0))
 have g2 := of_decide_eq_false h2
 refine owr 4 ⟨(O11 n s), [(O0 s), (O120 d n), O2]⟩ ?_
 refine ow2 ⟨(93, VI (List.length s.votes : Int)) :: (O11 n s), [(O0 s), (O120 d n), O2]⟩ (oln Vote.cs s.votes (.s 92) 6) ?_
 refine owl 2 [2, 3, 4, 95] ⟨(95, .v (.bool (decide (n ≥ (List.length s.votes : Int))))) :: O3, [(O0 s), (O120 d n), O2]⟩ ?_
 cases h3 : (decide (n ≥ (List.length s.votes : Int)))
 have g3 := of_decide_eq_false h3
 refine cnF ?_
 refine skn ?_
 refine srr 4 ⟨(O121 n s), [(O0 s), (O120 d n), O2]⟩ ?_
 obtain ⟨a5, ha5⟩ : ∃ y, s.votes[(n : Int).toNat]? = some y := idx_ex ⟨by omega, by omega⟩
 have ma5 := vv _ (List.mem_of_getElem? ha5)
 refine ow2 ⟨(O122 a5 n s), [(O0 s), (O120 d n), O2]⟩ (oid Vote.cs s.votes (.s 98) (.s 100) 6 .i64 n a5 (by omega) ha5) ?_
 refine owl 3 [2, 3, 4, 10] ⟨(10, .ref 3 6 0 0) :: O3, (O124 a5 d n s)⟩ ?_
 refine EL.seq ?_
 refine srl 3 [2, 3, 4, 10, 105] ⟨O125, (O124 a5 d n s)⟩ ?_
 refine cnF ?_
 refine EL.reg0 ?_
 refine owr 4 ⟨(O126 n s), (O124 a5 d n s)⟩ ?_
 refine OW.fo (ar := [.lst 6 (s.votes.map Vote.cs), VI n]) (fe := Vote.cs) (xs := (s.votes.eraseIdx n.toNat)) (x' := ⟨(O128 n s), (O127 a5 d n s)⟩) (by kernel_rfl) (by kernel_rfl) F31_call (withoutV_fo s.votes n (by omega) (by omega)) (by intro y; kernel_rfl) (by kernel_rfl) (by kernel_rfl) ?_
 refine owe 2 ⟨(119, .ref 0 5 0 4) :: (O128 n s), (O129 a5 d n s)⟩ ?_
 refine tN ?_
 refine EL.seq ?_
 refine srl 13 [2, 3, 4, 10, 132] ⟨O130, (O129 a5 d n s)⟩ ?_
 refine cnF ?_
 refine skn ?_
 refine srl 13 [2, 4, 10, 172] ⟨O131, (O129 a5 d n s)⟩ ?_
 refine cnF ?_
 refine skn ?_
 refine EL.seq ?_
 refine srl 4 [2, 4, 207] ⟨[(207, .v (.bool (decide ((List.length (s.votes.eraseIdx n.toNat) : Int) > 200)))), (4, .ref 2 5 0 0), (2, .ref 0 5 0 0)], (O129 a5 d n s)⟩ ?_
 cases h6 : (decide ((List.length (s.votes.eraseIdx n.toNat) : Int) > 200))
 have g6 := of_decide_eq_false h6
 have n6 : ¬ ((List.length (s.votes.eraseIdx n.toNat)) > 200) := by omega
 refine cnF ?_
 refine skn ?_
 refine srl 3 [4, 5] ⟨[(5, VI 0), (4, .ref 2 5 0 0)], (O132 a5 d n s)⟩ ?_
 refine EL.ret ?_
 refine rqs (.tup [(O134 n s), VI 0]) (.tup [(O133 n s), VI 0]) (snapR_tup (sA (snapA_agg (sC (by kernel_rfl) (sC (by kernel_rfl) (sC (by kernel_rfl) (sC (by kernel_rfl) (sC (smp Vote.cs (s.votes.eraseIdx n.toNat)) (rfl))))))) (sA (by kernel_rfl) (snapAs_nil)))) ?_
 rotate_left
 have g6 := of_decide_eq_true h6
 have n6 : ((List.length (s.votes.eraseIdx n.toNat)) > 200) := by omega
 refine cnT ?_
 refine srl 3 [4, 5] ⟨[(5, VI 2), (4, .ref 2 5 0 0)], (O129 a5 d n s)⟩ ?_
 refine rtr ?_
 refine rqa (.tup [O8, VI 2]) (Ale.tup (aT (aE 1 (aR (aE 5 (aE 8 (aE 6 (.nil)))))) (aR .nil))) ?_
 rotate_left
 have g3 := of_decide_eq_true h3
 refine cnT ?_
 refine srl 3 [4, 5] ⟨[(5, VI 3), (4, .ref 2 5 0 0)], [(O0 s), (O120 d n), O2]⟩ ?_
 refine rtr ?_
 refine tR ?_
 refine rqa (.tup [O8, VI 3]) (Ale.tup (aT (aE 1 (aR (aE 5 (aE 8 (aE 6 (.nil)))))) (aR .nil))) ?_
 rotate_left
 have g2 := of_decide_eq_true h2
 refine owl 7 [2, 3, 4, 95] ⟨(95, .v (.bool true)) :: O3, [(O0 s), (O120 d n), O2]⟩ ?_
 refine cnT ?_
 refine srl 3 [4, 5] ⟨[(5, VI 3), (4, .ref 2 5 0 0)], [(O0 s), (O120 d n), O2]⟩ ?_
 refine rtr ?_
 refine tR ?_
 refine rqa (.tup [O8, VI 3]) (Ale.tup (aT (aE 1 (aR (aE 5 (aE 8 (aE 6 (.nil)))))) (aR .nil))) ?_
 rotate_left
 have g1 := of_decide_eq_true h1
 have n1 : ((ByteArray.size d) > 0) := by omega
 refine cnT ?_
 refine srl 3 [4, 5] ⟨[(5, VI 1), (4, .ref 2 5 0 0)], [(O0 s), (O120 d n), O2]⟩ ?_
 refine rtr ?_
 refine rqa (.tup [O8, VI 1]) (Ale.tup (aT (aE 1 (aR (aE 5 (aE 8 (aE 6 (.nil)))))) (aR .nil))) ?_
 rotate_left
 all_goals (first | (exfalso; omega) | (exfalso; have hh := ers_le (n := n.toNat) q4; omega) | (rw [Syn.step_1 (by omega) (by omega) (by omega)] <;> rfl) | (rw [Syn.step_r (by omega) (by omega) (by omega) (by omega)] <;> rfl) | (rw [Syn.step_4 (by omega) (by assumption) (by omega) q4] <;> rfl))
section
variable (a5 : Vote) (d : ByteArray) (n : Int) (s : Syn)
abbrev O135 : OB := some ⟨3, [[VI 5, VI n, .v (.string d)]]⟩
abbrev O136 : LB := [(O0 s), (O135 d n), O2, (O123 a5)]
abbrev O137 : LS := (105, .v (.bool true)) :: (10, .ref 3 6 0 0) :: O3
abbrev O138 : LB := [(O0 s), (O135 d n), O2, (O123 a5), some ⟨6, []⟩]
abbrev O139 : LS := (108, .lst 6 (s.votes.map Vote.cs)) :: (107, .ref 0 5 0 4) :: (106, .own 4 6 0 0) :: O137
abbrev O140 : OB := some ⟨6, (s.votes.map Vote.cs)⟩
abbrev O141 : LB := [(O0 s), (O135 d n), O2, (O123 a5), none, (O140 s)]
abbrev O142 : AV := .agg [VI a5.kind, VI a5.bid, VI a5.node, VI a5.copy.at_.time, VI a5.copy.at_.who, .v (.string a5.copy.data)]
abbrev O143 : LB := [(O0 s), (O135 d n), O2, (O123 a5), none, (O140 s), (O123 a5)]
abbrev O144 : LS := (111, .own 6 6 0 1) :: (110, (O142 a5)) :: (109, .own 5 6 0 (List.length s.votes)) :: (O139 s)
abbrev O145 : OB := some ⟨6, ((s.votes ++ ([a5])).map Vote.cs)⟩
abbrev O146 : LB := [(O0 s), (O135 d n), O2, (O123 a5), none, none, (O123 a5), (O145 a5 s)]
abbrev O147 : LS := (112, .own 7 6 0 (List.length (s.votes ++ ([a5])))) :: (O144 a5 s)
abbrev O148 : OB := some ⟨5, [[.lst 1 (s.voters.weights.map cI), VI s.voters.need, .lst 5 (s.seats.map Seat.cs), .lst 8 (s.bids.map Bid.cs), .own 7 6 0 (List.length (s.votes ++ ([a5])))]]⟩
abbrev O149 : LB := [(O148 a5 s), (O135 d n), O2, (O123 a5), none, none, (O123 a5), (O145 a5 s)]
abbrev O150 : LB := [(O148 a5 s), (O135 d n), (O148 a5 s), (O123 a5), none, none, (O123 a5), (O145 a5 s)]
abbrev O151 : AV := .agg [.lst 1 (s.voters.weights.map cI), VI s.voters.need, .lst 5 (s.seats.map Seat.cs), .lst 8 (s.bids.map Bid.cs), .own 7 6 0 (List.length (s.votes ++ ([a5])))]
abbrev O152 : AV := .agg [.lst 1 (s.voters.weights.map cI), VI s.voters.need, .lst 5 (s.seats.map Seat.cs), .lst 8 (s.bids.map Bid.cs), .lst 6 ((s.votes ++ ([a5])).map Vote.cs)]
end
theorem rstep5_fn (s : Syn) (n : Int) (d : ByteArray) (ok : s.Ok) : Fn Tryd.prog 15 [.agg [.lst 1 (s.voters.weights.map cI), VI s.voters.need, .lst 5 (s.seats.map Seat.cs), .lst 8 (s.bids.map Bid.cs), .lst 6 (s.votes.map Vote.cs)], .agg [VI 5, VI n, .v (.string d)]] (.tup [.agg [.lst 1 (((((s.stepP 5 n d).1).voters).weights).map cI), VI ((((s.stepP 5 n d).1).voters).need), .lst 5 ((((s.stepP 5 n d).1).seats).map Seat.cs), .lst 8 ((((s.stepP 5 n d).1).bids).map Bid.cs), .lst 6 ((((s.stepP 5 n d).1).votes).map Vote.cs)], VI ((s.stepP 5 n d).2)]) := by
 have hbig := ok.big
 have hc0 := Syn.ok_iff.2 ok
 have hc : (s.checkE != 0) = false := by rw [hc0]; rfl
 have q1 := qc_len ok.q
 have q2 := ok.len
 have q3 := ok.few
 have q4 := ok.many
 have vv := ok.vv
 have hx1 : s.voters.weights.length ≤ 9223372036854775807 := by omega
 refine fnw F15_ok ?_
 refine srl 4 [2, 3, 4] ⟨O3, [(O0 s), (O135 d n), O2]⟩ ?_
 refine srr 1 ⟨(19, (O4 s)) :: O3, [(O0 s), (O135 d n), O2]⟩ ?_
 refine owg [(O4 s)] ⟨(20, VI s.checkE) :: (19, (O4 s)) :: O3, [(O0 s), (O135 d n), O2]⟩ (rcheck_fn s (by first | assumption | exact hbig | exact hbig.1)) ?_
 refine owl 1 [2, 3, 4, 6] ⟨(6, VI s.checkE) :: O3, [(O0 s), (O135 d n), O2]⟩ ?_
 refine EL.seq ?_
 refine srl 2 [2, 3, 4, 6, 22] ⟨(22, .v (.bool (s.checkE != 0))) :: (6, VI s.checkE) :: O3, [(O0 s), (O135 d n), O2]⟩ ?_
 rw [hc]
 refine cnF ?_
 refine skn ?_
 refine EL.seq ?_
 refine srl 8 [2, 3, 4, 32] ⟨(32, .v (.bool false)) :: O3, [(O0 s), (O135 d n), O2]⟩ ?_
 refine cnF ?_
 refine skn ?_
 refine EL.seq ?_
 refine srl 9 [2, 3, 4, 42] ⟨(42, .v (.bool (decide ((ByteArray.size d : Int) > 0)))) :: O3, [(O0 s), (O135 d n), O2]⟩ ?_
 cases h1 : (decide ((ByteArray.size d : Int) > 0))
 have g1 := of_decide_eq_false h1
 have n1 : ¬ ((ByteArray.size d) > 0) := by omega
 refine cnF ?_
 refine skn ?_
 refine EL.seq ?_
 refine srl 3 [2, 3, 4, 46] ⟨(46, .v (.bool false)) :: O3, [(O0 s), (O135 d n), O2]⟩ ?_
 refine cnF ?_
 refine EL.seq ?_
 refine srr 4 ⟨(88, .v (.bool (decide (n < 0)))) :: (87, .v (.bool (decide (n < 0)))) :: (O9 n), [(O0 s), (O135 d n), O2]⟩ ?_
 cases h2 : (decide (n < 0))
 have g2 := of_decide_eq_false h2
 refine owr 4 ⟨(O11 n s), [(O0 s), (O135 d n), O2]⟩ ?_
 refine ow2 ⟨(93, VI (List.length s.votes : Int)) :: (O11 n s), [(O0 s), (O135 d n), O2]⟩ (oln Vote.cs s.votes (.s 92) 6) ?_
 refine owl 2 [2, 3, 4, 95] ⟨(95, .v (.bool (decide (n ≥ (List.length s.votes : Int))))) :: O3, [(O0 s), (O135 d n), O2]⟩ ?_
 cases h3 : (decide (n ≥ (List.length s.votes : Int)))
 have g3 := of_decide_eq_false h3
 refine cnF ?_
 refine skn ?_
 refine srr 4 ⟨(O121 n s), [(O0 s), (O135 d n), O2]⟩ ?_
 obtain ⟨a5, ha5⟩ : ∃ y, s.votes[(n : Int).toNat]? = some y := idx_ex ⟨by omega, by omega⟩
 have ma5 := vv _ (List.mem_of_getElem? ha5)
 refine ow2 ⟨(O122 a5 n s), [(O0 s), (O135 d n), O2]⟩ (oid Vote.cs s.votes (.s 98) (.s 100) 6 .i64 n a5 (by omega) ha5) ?_
 refine owl 3 [2, 3, 4, 10] ⟨(10, .ref 3 6 0 0) :: O3, (O136 a5 d n s)⟩ ?_
 refine EL.seq ?_
 refine srl 3 [2, 3, 4, 10, 105] ⟨O137, (O136 a5 d n s)⟩ ?_
 refine cnT ?_
 refine EL.draw0 ?_
 refine dwr 3 ⟨(O139 s), (O138 a5 d n s)⟩ ?_
 refine dw2 ⟨(109, .own 5 6 0 (List.length s.votes)) :: (O139 s), (O141 a5 d n s)⟩ (oap Vote.cs ([] : List Vote) s.votes (.s 106) (.s 108) 6 56 4 (.lst 6 (s.votes.map Vote.cs)) .lst (by first | (simp; omega) | omega | exact app_le (by first | exact q4 | exact ers_le q4 | omega) (by first | exact begin_len _ _ _ _ | exact Nat.le_trans (serve_len _ _) (by decide) | exact hear_len _ _ _ _ | (simp; done)) (by decide))) ?_
 refine dwr 2 ⟨(O144 a5 s), (O143 a5 d n s)⟩ ?_
 refine dw2 ⟨(O147 a5 s), (O146 a5 d n s)⟩ (oap Vote.cs s.votes ([a5]) (.s 109) (.s 111) 6 56 5 (.own 6 6 0 1) (.own (els := [[VI a5.kind, VI a5.bid, VI a5.node, VI a5.copy.at_.time, VI a5.copy.at_.who, .v (.string a5.copy.data)]]) (by kernel_rfl) (by kernel_rfl) (of_decide_eq_true (by kernel_rfl))) (by first | (simp; omega) | omega | exact app_le (by first | exact q4 | exact ers_le q4 | omega) (by first | exact begin_len _ _ _ _ | exact Nat.le_trans (serve_len _ _) (by decide) | exact hear_len _ _ _ _ | (simp; done)) (by decide))) ?_
 refine dwe 2 ⟨(113, .ref 0 5 0 4) :: (O147 a5 s), (O149 a5 d n s)⟩ ?_
 refine tN ?_
 refine EL.seq ?_
 refine srl 13 [2, 3, 4, 10, 132] ⟨O130, (O149 a5 d n s)⟩ ?_
 refine cnF ?_
 refine skn ?_
 refine srl 13 [2, 4, 10, 172] ⟨O131, (O149 a5 d n s)⟩ ?_
 refine cnF ?_
 refine skn ?_
 refine EL.seq ?_
 refine srl 4 [2, 4, 207] ⟨[(207, .v (.bool (decide ((List.length (s.votes ++ ([a5])) : Int) > 200)))), (4, .ref 2 5 0 0), (2, .ref 0 5 0 0)], (O149 a5 d n s)⟩ ?_
 cases h6 : (decide ((List.length (s.votes ++ ([a5])) : Int) > 200))
 have g6 := of_decide_eq_false h6
 have n6 : ¬ ((List.length (s.votes ++ ([a5]))) > 200) := by omega
 refine cnF ?_
 refine skn ?_
 refine srl 3 [4, 5] ⟨[(5, VI 0), (4, .ref 2 5 0 0)], (O150 a5 d n s)⟩ ?_
 refine EL.ret ?_
 refine rqs (.tup [(O152 a5 s), VI 0]) (.tup [(O151 a5 s), VI 0]) (snapR_tup (sA (snapA_agg (sC (by kernel_rfl) (sC (by kernel_rfl) (sC (by kernel_rfl) (sC (by kernel_rfl) (sC (smp Vote.cs (s.votes ++ ([a5]))) (rfl))))))) (sA (by kernel_rfl) (snapAs_nil)))) ?_
 rotate_left
 have g6 := of_decide_eq_true h6
 have n6 : ((List.length (s.votes ++ ([a5]))) > 200) := by omega
 refine cnT ?_
 refine srl 3 [4, 5] ⟨[(5, VI 2), (4, .ref 2 5 0 0)], (O149 a5 d n s)⟩ ?_
 refine rtr ?_
 refine rqa (.tup [O8, VI 2]) (Ale.tup (aT (aE 1 (aR (aE 5 (aE 8 (aE 6 (.nil)))))) (aR .nil))) ?_
 rotate_left
 have g3 := of_decide_eq_true h3
 refine cnT ?_
 refine srl 3 [4, 5] ⟨[(5, VI 3), (4, .ref 2 5 0 0)], [(O0 s), (O135 d n), O2]⟩ ?_
 refine rtr ?_
 refine tR ?_
 refine rqa (.tup [O8, VI 3]) (Ale.tup (aT (aE 1 (aR (aE 5 (aE 8 (aE 6 (.nil)))))) (aR .nil))) ?_
 rotate_left
 have g2 := of_decide_eq_true h2
 refine owl 7 [2, 3, 4, 95] ⟨(95, .v (.bool true)) :: O3, [(O0 s), (O135 d n), O2]⟩ ?_
 refine cnT ?_
 refine srl 3 [4, 5] ⟨[(5, VI 3), (4, .ref 2 5 0 0)], [(O0 s), (O135 d n), O2]⟩ ?_
 refine rtr ?_
 refine tR ?_
 refine rqa (.tup [O8, VI 3]) (Ale.tup (aT (aE 1 (aR (aE 5 (aE 8 (aE 6 (.nil)))))) (aR .nil))) ?_
 rotate_left
 have g1 := of_decide_eq_true h1
 have n1 : ((ByteArray.size d) > 0) := by omega
 refine cnT ?_
 refine srl 3 [4, 5] ⟨[(5, VI 1), (4, .ref 2 5 0 0)], [(O0 s), (O135 d n), O2]⟩ ?_
 refine rtr ?_
 refine rqa (.tup [O8, VI 1]) (Ale.tup (aT (aE 1 (aR (aE 5 (aE 8 (aE 6 (.nil)))))) (aR .nil))) ?_
 rotate_left
 all_goals (first | (exfalso; omega) | (rw [Syn.step_1 (by omega) (by omega) (by omega)] <;> rfl) | (rw [Syn.step_r (by omega) (by omega) (by omega) (by omega)] <;> rfl) | (rw [Syn.step_5 (by omega) (by assumption) (by omega)]; first | (rw [Syn.many_0] <;> first | rfl | (dsimp only; omega)) | (rw [Syn.many_2] <;> first | rfl | (dsimp only; omega))))
section
variable (d : ByteArray) (n : Int) (s : Syn)
abbrev O185 := (beginP s.voters (List.length s.bids : Int) n d)
abbrev O153 : OB := some ⟨3, [[VI 6, VI n, .v (.string d)]]⟩
abbrev O154 : LS := (48, .lst 8 (s.bids.map Bid.cs)) :: (47, .ref 0 5 0 3) :: (46, .v (.bool true)) :: O3
abbrev O155 : LS := (56, .lst 8 (s.bids.map Bid.cs)) :: (55, .ref 0 5 0 3) :: (54, (O68 s)) :: (53, .ref 0 5 0 0) :: (50, .v (.bool false)) :: O3
abbrev O156 : LS := (61, .v (.string d)) :: (60, .ref 1 3 0 2) :: (59, VI n) :: (58, .ref 1 3 0 1) :: (57, VI (List.length s.bids : Int)) :: (O155 s)
abbrev O157 : AV := .agg [VI (((O185 d n s).1).time), VI (((O185 d n s).1).phase), .v (.string (((O185 d n s).1).own)), .v (.string (((O185 d n s).1).value)), VI (((((O185 d n s).1).best).at_).time), VI (((((O185 d n s).1).best).at_).who), .v (.string ((((O185 d n s).1).best).data)), .v (.int .u64 (((O185 d n s).1).heard.n : Int))]
abbrev O158 : LS := (62, .tup [(O157 d n s), .lst 6 (((O185 d n s).2.1).map Vote.cs), VI ((O185 d n s).2.2)]) :: (O156 d n s)
abbrev O159 : OB := some ⟨8, [[VI (((O185 d n s).1).time), VI (((O185 d n s).1).phase), .v (.string (((O185 d n s).1).own)), .v (.string (((O185 d n s).1).value)), VI (((((O185 d n s).1).best).at_).time), VI (((((O185 d n s).1).best).at_).who), .v (.string ((((O185 d n s).1).best).data)), .v (.int .u64 (((O185 d n s).1).heard.n : Int))]]⟩
abbrev O160 : LB := [(O0 s), (O153 d n), O2, (O159 d n s)]
abbrev O161 : LS := [(9, VI ((O185 d n s).2.2)), (8, .lst 6 (((O185 d n s).2.1).map Vote.cs)), (7, .ref 3 8 0 0), (4, .ref 2 5 0 0), (2, .ref 0 5 0 0)]
abbrev O162 : LB := [(O0 s), (O153 d n), O2, (O159 d n s), some ⟨8, []⟩]
abbrev O163 : LS := (72, .lst 8 (s.bids.map Bid.cs)) :: (71, .ref 0 5 0 3) :: (70, .own 4 8 0 0) :: (67, .v (.bool false)) :: (O161 d n s)
abbrev O164 : LB := [(O0 s), (O153 d n), O2, (O159 d n s), none, some ⟨8, (s.bids.map Bid.cs)⟩]
abbrev O165 : LB := [(O0 s), (O153 d n), O2, (O159 d n s), none, some ⟨8, (s.bids.map Bid.cs)⟩, (O159 d n s)]
abbrev O166 : LS := (75, .own 6 8 0 1) :: (74, (O157 d n s)) :: (73, .own 5 8 0 (List.length s.bids)) :: (O163 d n s)
abbrev O167 : OB := some ⟨8, ((s.bids ++ ([(O185 d n s).1])).map Bid.cs)⟩
abbrev O168 : LB := [(O0 s), (O153 d n), O2, (O159 d n s), none, none, (O159 d n s), (O167 d n s)]
abbrev O169 : LS := (76, .own 7 8 0 (List.length (s.bids ++ ([(O185 d n s).1])))) :: (O166 d n s)
abbrev O170 : OB := some ⟨5, [[.lst 1 (s.voters.weights.map cI), VI s.voters.need, .lst 5 (s.seats.map Seat.cs), .own 7 8 0 (List.length (s.bids ++ ([(O185 d n s).1]))), .lst 6 (s.votes.map Vote.cs)]]⟩
abbrev O171 : LB := [(O170 d n s), (O153 d n), O2, (O159 d n s), none, none, (O159 d n s), (O167 d n s)]
abbrev O172 : LS := [(8, .lst 6 (((O185 d n s).2.1).map Vote.cs)), (4, .ref 2 5 0 0), (2, .ref 0 5 0 0)]
abbrev O173 : LB := [(O170 d n s), (O153 d n), O2, (O159 d n s), none, none, (O159 d n s), (O167 d n s), some ⟨6, []⟩]
abbrev O174 : LS := (80, .lst 6 (s.votes.map Vote.cs)) :: (79, .ref 0 5 0 4) :: (78, .own 8 6 0 0) :: (O172 d n s)
abbrev O175 : LB := [(O170 d n s), (O153 d n), O2, (O159 d n s), none, none, (O159 d n s), (O167 d n s), none, (O140 s)]
abbrev O176 : LS := (82, .lst 6 (((O185 d n s).2.1).map Vote.cs)) :: (81, .own 9 6 0 (List.length s.votes)) :: (O174 d n s)
abbrev O177 : OB := some ⟨6, ((s.votes ++ ((O185 d n s).2.1)).map Vote.cs)⟩
abbrev O178 : LB := [(O170 d n s), (O153 d n), O2, (O159 d n s), none, none, (O159 d n s), (O167 d n s), none, none, (O177 d n s)]
abbrev O179 : LS := (83, .own 10 6 0 (List.length (s.votes ++ ((O185 d n s).2.1)))) :: (O176 d n s)
abbrev O180 : OB := some ⟨5, [[.lst 1 (s.voters.weights.map cI), VI s.voters.need, .lst 5 (s.seats.map Seat.cs), .own 7 8 0 (List.length (s.bids ++ ([(O185 d n s).1]))), .own 10 6 0 (List.length (s.votes ++ ((O185 d n s).2.1)))]]⟩
abbrev O181 : LB := [(O180 d n s), (O153 d n), O2, (O159 d n s), none, none, (O159 d n s), (O167 d n s), none, none, (O177 d n s)]
abbrev O182 : LB := [(O180 d n s), (O153 d n), (O180 d n s), (O159 d n s), none, none, (O159 d n s), (O167 d n s), none, none, (O177 d n s)]
abbrev O183 : AV := .agg [.lst 1 (s.voters.weights.map cI), VI s.voters.need, .lst 5 (s.seats.map Seat.cs), .own 7 8 0 (List.length (s.bids ++ ([(O185 d n s).1]))), .own 10 6 0 (List.length (s.votes ++ ((O185 d n s).2.1)))]
abbrev O184 : AV := .agg [.lst 1 (s.voters.weights.map cI), VI s.voters.need, .lst 5 (s.seats.map Seat.cs), .lst 8 ((s.bids ++ ([(O185 d n s).1])).map Bid.cs), .lst 6 ((s.votes ++ ((O185 d n s).2.1)).map Vote.cs)]
end
theorem rstep6_fn (s : Syn) (n : Int) (d : ByteArray) (ok : s.Ok) : Fn Tryd.prog 15 [.agg [.lst 1 (s.voters.weights.map cI), VI s.voters.need, .lst 5 (s.seats.map Seat.cs), .lst 8 (s.bids.map Bid.cs), .lst 6 (s.votes.map Vote.cs)], .agg [VI 6, VI n, .v (.string d)]] (.tup [.agg [.lst 1 (((((s.stepP 6 n d).1).voters).weights).map cI), VI ((((s.stepP 6 n d).1).voters).need), .lst 5 ((((s.stepP 6 n d).1).seats).map Seat.cs), .lst 8 ((((s.stepP 6 n d).1).bids).map Bid.cs), .lst 6 ((((s.stepP 6 n d).1).votes).map Vote.cs)], VI ((s.stepP 6 n d).2)]) := by
 have hbig := ok.big
 have hc0 := Syn.ok_iff.2 ok
 have hc : (s.checkE != 0) = false := by rw [hc0]; rfl
 have q1 := qc_len ok.q
 have q2 := ok.len
 have q3 := ok.few
 have q4 := ok.many
 have vv := ok.vv
 have hx1 : s.voters.weights.length ≤ 9223372036854775807 := by omega
 refine fnw F15_ok ?_
 refine srl 4 [2, 3, 4] ⟨O3, [(O0 s), (O153 d n), O2]⟩ ?_
 refine srr 1 ⟨(19, (O4 s)) :: O3, [(O0 s), (O153 d n), O2]⟩ ?_
 refine owg [(O4 s)] ⟨(20, VI s.checkE) :: (19, (O4 s)) :: O3, [(O0 s), (O153 d n), O2]⟩ (rcheck_fn s (by first | assumption | exact hbig | exact hbig.1)) ?_
 refine owl 1 [2, 3, 4, 6] ⟨(6, VI s.checkE) :: O3, [(O0 s), (O153 d n), O2]⟩ ?_
 refine EL.seq ?_
 refine srl 2 [2, 3, 4, 6, 22] ⟨(22, .v (.bool (s.checkE != 0))) :: (6, VI s.checkE) :: O3, [(O0 s), (O153 d n), O2]⟩ ?_
 rw [hc]
 refine cnF ?_
 refine skn ?_
 refine EL.seq ?_
 refine srl 8 [2, 3, 4, 32] ⟨(32, .v (.bool false)) :: O3, [(O0 s), (O153 d n), O2]⟩ ?_
 refine cnF ?_
 refine skn ?_
 refine EL.seq ?_
 refine srl 9 [2, 3, 4, 42] ⟨(42, .v (.bool false)) :: O3, [(O0 s), (O153 d n), O2]⟩ ?_
 refine cnF ?_
 refine skn ?_
 refine EL.seq ?_
 refine srl 3 [2, 3, 4, 46] ⟨(46, .v (.bool true)) :: O3, [(O0 s), (O153 d n), O2]⟩ ?_
 refine cnT ?_
 refine EL.seq ?_
 refine srr 2 ⟨(O154 s), [(O0 s), (O153 d n), O2]⟩ ?_
 refine ow2 ⟨(49, VI (List.length s.bids : Int)) :: (O154 s), [(O0 s), (O153 d n), O2]⟩ (oln Bid.cs s.bids (.s 48) 8) ?_
 refine owl 1 [2, 3, 4, 50] ⟨(50, .v (.bool ((List.length s.bids : Int) == 31))) :: O3, [(O0 s), (O153 d n), O2]⟩ ?_
 cases h1 : ((List.length s.bids : Int) == 31)
 have g1 := bqF h1
 have n1 : ¬ ((List.length s.bids) = 31) := by omega
 refine cnF ?_
 refine skn ?_
 refine srr 4 ⟨(O155 s), [(O0 s), (O153 d n), O2]⟩ ?_
 refine ow2 ⟨(57, VI (List.length s.bids : Int)) :: (O155 s), [(O0 s), (O153 d n), O2]⟩ (oln Bid.cs s.bids (.s 56) 8) ?_
 refine owr 4 ⟨(O156 d n s), [(O0 s), (O153 d n), O2]⟩ ?_
 refine owg [(O68 s), VI (List.length s.bids : Int), VI n, .v (.string d)] ⟨(O158 d n s), [(O0 s), (O153 d n), O2]⟩ (rbegin_fn s.voters (List.length s.bids : Int) n d hx1) ?_
 refine owl 8 [2, 4, 7, 8, 9] ⟨(O161 d n s), (O160 d n s)⟩ ?_
 refine EL.seq ?_
 refine srl 2 [2, 4, 7, 8, 9, 67] ⟨(67, .v (.bool (((O185 d n s).2.2) != 0))) :: (O161 d n s), (O160 d n s)⟩ ?_
 cases h2 : (((beginP s.voters (List.length s.bids : Int) n d).2.2) != 0)
 have g2 := bnF h2
 refine cnF ?_
 refine skn ?_
 refine sdr 3 ⟨(O163 d n s), (O162 d n s)⟩ ?_
 refine dw2 ⟨(73, .own 5 8 0 (List.length s.bids)) :: (O163 d n s), (O164 d n s)⟩ (oap Bid.cs ([] : List Bid) s.bids (.s 70) (.s 72) 8 88 4 (.lst 8 (s.bids.map Bid.cs)) .lst (by first | (simp; omega) | omega | exact app_le (by first | exact q4 | exact ers_le q4 | omega) (by first | exact begin_len _ _ _ _ | exact Nat.le_trans (serve_len _ _) (by decide) | exact hear_len _ _ _ _ | (simp; done)) (by decide))) ?_
 refine dwr 2 ⟨(O166 d n s), (O165 d n s)⟩ ?_
 refine dw2 ⟨(O169 d n s), (O168 d n s)⟩ (oap Bid.cs s.bids ([(O185 d n s).1]) (.s 73) (.s 75) 8 88 5 (.own 6 8 0 1) (.own (els := [[VI (((O185 d n s).1).time), VI (((O185 d n s).1).phase), .v (.string (((O185 d n s).1).own)), .v (.string (((O185 d n s).1).value)), VI (((((O185 d n s).1).best).at_).time), VI (((((O185 d n s).1).best).at_).who), .v (.string ((((O185 d n s).1).best).data)), .v (.int .u64 (((O185 d n s).1).heard.n : Int))]]) (by kernel_rfl) (by kernel_rfl) (of_decide_eq_true (by kernel_rfl))) (by first | (simp; omega) | omega | exact app_le (by first | exact q4 | exact ers_le q4 | omega) (by first | exact begin_len _ _ _ _ | exact Nat.le_trans (serve_len _ _) (by decide) | exact hear_len _ _ _ _ | (simp; done)) (by decide))) ?_
 refine dwl 2 [2, 4, 8] ⟨(O172 d n s), (O171 d n s)⟩ ?_
 refine EL.reg0 ?_
 refine owr 3 ⟨(O174 d n s), (O173 d n s)⟩ ?_
 refine ow2 ⟨(81, .own 9 6 0 (List.length s.votes)) :: (O174 d n s), (O175 d n s)⟩ (oap Vote.cs ([] : List Vote) s.votes (.s 78) (.s 80) 6 56 8 (.lst 6 (s.votes.map Vote.cs)) .lst (by first | (simp; omega) | omega | exact app_le (by first | exact q4 | exact ers_le q4 | omega) (by first | exact begin_len _ _ _ _ | exact Nat.le_trans (serve_len _ _) (by decide) | exact hear_len _ _ _ _ | (simp; done)) (by decide))) ?_
 refine owr 1 ⟨(O176 d n s), (O175 d n s)⟩ ?_
 refine ow2 ⟨(O179 d n s), (O178 d n s)⟩ (oap Vote.cs s.votes ((O185 d n s).2.1) (.s 81) (.s 82) 6 56 9 (.lst 6 (((O185 d n s).2.1).map Vote.cs)) .lst (by first | (simp; omega) | omega | exact app_le (by first | exact q4 | exact ers_le q4 | omega) (by first | exact begin_len _ _ _ _ | exact Nat.le_trans (serve_len _ _) (by decide) | exact hear_len _ _ _ _ | (simp; done)) (by decide))) ?_
 refine owe 2 ⟨(84, .ref 0 5 0 4) :: (O179 d n s), (O181 d n s)⟩ ?_
 refine tN ?_
 refine EL.seq ?_
 refine srl 4 [2, 4, 207] ⟨[(207, .v (.bool (decide ((List.length (s.votes ++ ((O185 d n s).2.1)) : Int) > 200)))), (4, .ref 2 5 0 0), (2, .ref 0 5 0 0)], (O181 d n s)⟩ ?_
 cases h3 : (decide ((List.length (s.votes ++ ((beginP s.voters (List.length s.bids : Int) n d).2.1)) : Int) > 200))
 have g3 := of_decide_eq_false h3
 refine cnF ?_
 refine skn ?_
 refine srl 3 [4, 5] ⟨[(5, VI 0), (4, .ref 2 5 0 0)], (O182 d n s)⟩ ?_
 refine EL.ret ?_
 refine rqs (.tup [(O184 d n s), VI 0]) (.tup [(O183 d n s), VI 0]) (snapR_tup (sA (snapA_agg (sC (by kernel_rfl) (sC (by kernel_rfl) (sC (by kernel_rfl) (sC (smp Bid.cs (s.bids ++ ([(beginP s.voters (List.length s.bids : Int) n d).1]))) (sC (smp Vote.cs (s.votes ++ ((beginP s.voters (List.length s.bids : Int) n d).2.1))) (rfl))))))) (sA (by kernel_rfl) (snapAs_nil)))) ?_
 rotate_left
 have g3 := of_decide_eq_true h3
 refine cnT ?_
 refine srl 3 [4, 5] ⟨[(5, VI 2), (4, .ref 2 5 0 0)], (O181 d n s)⟩ ?_
 refine rtr ?_
 refine rqa (.tup [O8, VI 2]) (Ale.tup (aT (aE 1 (aR (aE 5 (aE 8 (aE 6 (.nil)))))) (aR .nil))) ?_
 rotate_left
 have g2 := bnT h2
 refine cnT ?_
 refine srl 4 [4, 5] ⟨[(5, VI ((O185 d n s).2.2)), (4, .ref 2 5 0 0)], (O160 d n s)⟩ ?_
 refine rtr ?_
 refine tR ?_
 refine rqa (.tup [O8, VI ((beginP s.voters (List.length s.bids : Int) n d).2.2)]) (Ale.tup (aT (aE 1 (aR (aE 5 (aE 8 (aE 6 (.nil)))))) (aR .nil))) ?_
 rotate_left
 have g1 := bqT h1
 have n1 : ((List.length s.bids) = 31) := by omega
 refine cnT ?_
 refine srl 3 [4, 5] ⟨[(5, VI 2), (4, .ref 2 5 0 0)], [(O0 s), (O153 d n), O2]⟩ ?_
 refine rtr ?_
 refine tR ?_
 refine rqa (.tup [O8, VI 2]) (Ale.tup (aT (aE 1 (aR (aE 5 (aE 8 (aE 6 (.nil)))))) (aR .nil))) ?_
 rotate_left
 all_goals (first | (exfalso; omega) | (rw [Syn.step_6m (by omega)] <;> rfl) | (rw [Syn.step_6e (by omega) (by assumption)] <;> rfl) | (rw [Syn.step_6 (by omega) (by assumption)]; first | (rw [Syn.many_0] <;> first | rfl | (dsimp only; omega)) | (rw [Syn.many_2] <;> first | rfl | (dsimp only; omega))))
section
variable (x : Step)
abbrev O186 : OB := some ⟨3, [[VI x.kind, VI x.n, .v (.string x.data)]]⟩
end
theorem rstepE_fn (s : Syn) (x : Step) (hx : s.Big) (h0 : ¬ s.checkE = 0) : Fn Tryd.prog 15 [.agg [.lst 1 (s.voters.weights.map cI), VI s.voters.need, .lst 5 (s.seats.map Seat.cs), .lst 8 (s.bids.map Bid.cs), .lst 6 (s.votes.map Vote.cs)], .agg [VI x.kind, VI x.n, .v (.string x.data)]] (.tup [.agg [.lst 1 (Syn.zero.voters.weights.map cI), VI Syn.zero.voters.need, .lst 5 (Syn.zero.seats.map Seat.cs), .lst 8 (Syn.zero.bids.map Bid.cs), .lst 6 (Syn.zero.votes.map Vote.cs)], VI s.checkE]) := by
 have hc : (s.checkE != 0) = true := by simpa using h0
 refine fnw F15_ok ?_
 refine srl 4 [2, 3, 4] ⟨O3, [(O0 s), (O186 x), O2]⟩ ?_
 refine srr 1 ⟨(19, (O4 s)) :: O3, [(O0 s), (O186 x), O2]⟩ ?_
 refine owg [(O4 s)] ⟨(20, VI s.checkE) :: (19, (O4 s)) :: O3, [(O0 s), (O186 x), O2]⟩ (rcheck_fn s (by first | assumption | exact hbig | exact hbig.1)) ?_
 refine owl 1 [2, 3, 4, 6] ⟨(6, VI s.checkE) :: O3, [(O0 s), (O186 x), O2]⟩ ?_
 refine EL.seq ?_
 refine srl 2 [2, 3, 4, 6, 22] ⟨(22, .v (.bool (s.checkE != 0))) :: (6, VI s.checkE) :: O3, [(O0 s), (O186 x), O2]⟩ ?_
 rw [hc]
 refine cnT ?_
 refine srl 4 [4, 5] ⟨[(5, VI s.checkE), (4, .ref 2 5 0 0)], [(O0 s), (O186 x), O2]⟩ ?_
 refine rtr ?_
 refine rqa (.tup [O8, VI s.checkE]) (Ale.tup (aT (aE 1 (aR (aE 5 (aE 8 (aE 6 (.nil)))))) (aR .nil))) ?_
 focus (rfl)
section
variable (s : Syn) (x : Step)
abbrev O187 : LS := (26, VI x.kind) :: (25, .ref 1 3 0 0) :: (22, .v (.bool false)) :: (6, VI s.checkE) :: O3
end
theorem rstepL_fn (s : Syn) (x : Step) (ok : s.Ok) (hk : x.kind < 3) : Fn Tryd.prog 15 [.agg [.lst 1 (s.voters.weights.map cI), VI s.voters.need, .lst 5 (s.seats.map Seat.cs), .lst 8 (s.bids.map Bid.cs), .lst 6 (s.votes.map Vote.cs)], .agg [VI x.kind, VI x.n, .v (.string x.data)]] (.tup [.agg [.lst 1 (Syn.zero.voters.weights.map cI), VI Syn.zero.voters.need, .lst 5 (Syn.zero.seats.map Seat.cs), .lst 8 (Syn.zero.bids.map Bid.cs), .lst 6 (Syn.zero.votes.map Vote.cs)], VI 7]) := by
 have hbig := ok.big
 have hc0 := Syn.ok_iff.2 ok
 have hc : (s.checkE != 0) = false := by rw [hc0]; rfl
 have hk1 : decide (x.kind < 3) = true := decide_eq_true hk
 refine fnw F15_ok ?_
 refine srl 4 [2, 3, 4] ⟨O3, [(O0 s), (O186 x), O2]⟩ ?_
 refine srr 1 ⟨(19, (O4 s)) :: O3, [(O0 s), (O186 x), O2]⟩ ?_
 refine owg [(O4 s)] ⟨(20, VI s.checkE) :: (19, (O4 s)) :: O3, [(O0 s), (O186 x), O2]⟩ (rcheck_fn s (by first | assumption | exact hbig | exact hbig.1)) ?_
 refine owl 1 [2, 3, 4, 6] ⟨(6, VI s.checkE) :: O3, [(O0 s), (O186 x), O2]⟩ ?_
 refine EL.seq ?_
 refine srl 2 [2, 3, 4, 6, 22] ⟨(22, .v (.bool (s.checkE != 0))) :: (6, VI s.checkE) :: O3, [(O0 s), (O186 x), O2]⟩ ?_
 rw [hc]
 refine cnF ?_
 refine skn ?_
 refine EL.seq ?_
 refine srr 4 ⟨(28, .v (.bool (decide (x.kind < 3)))) :: (27, .v (.bool (decide (x.kind < 3)))) :: (O187 s x), [(O0 s), (O186 x), O2]⟩ ?_
 rw [hk1]
 refine owl 4 [2, 3, 4, 32] ⟨(32, .v (.bool true)) :: O3, [(O0 s), (O186 x), O2]⟩ ?_
 refine cnT ?_
 refine srl 3 [4, 5] ⟨[(5, VI 7), (4, .ref 2 5 0 0)], [(O0 s), (O186 x), O2]⟩ ?_
 refine rtr ?_
 refine rqa (.tup [O8, VI 7]) (Ale.tup (aT (aE 1 (aR (aE 5 (aE 8 (aE 6 (.nil)))))) (aR .nil))) ?_
 focus (rfl)
theorem rstepG_fn (s : Syn) (x : Step) (ok : s.Ok) (hk : x.kind > 6) : Fn Tryd.prog 15 [.agg [.lst 1 (s.voters.weights.map cI), VI s.voters.need, .lst 5 (s.seats.map Seat.cs), .lst 8 (s.bids.map Bid.cs), .lst 6 (s.votes.map Vote.cs)], .agg [VI x.kind, VI x.n, .v (.string x.data)]] (.tup [.agg [.lst 1 (Syn.zero.voters.weights.map cI), VI Syn.zero.voters.need, .lst 5 (Syn.zero.seats.map Seat.cs), .lst 8 (Syn.zero.bids.map Bid.cs), .lst 6 (Syn.zero.votes.map Vote.cs)], VI 7]) := by
 have hbig := ok.big
 have hc0 := Syn.ok_iff.2 ok
 have hc : (s.checkE != 0) = false := by rw [hc0]; rfl
 have hk1 : decide (x.kind < 3) = false := decide_eq_false (by omega)
 have hk2 : decide (x.kind > 6) = true := decide_eq_true hk
 refine fnw F15_ok ?_
 refine srl 4 [2, 3, 4] ⟨O3, [(O0 s), (O186 x), O2]⟩ ?_
 refine srr 1 ⟨(19, (O4 s)) :: O3, [(O0 s), (O186 x), O2]⟩ ?_
 refine owg [(O4 s)] ⟨(20, VI s.checkE) :: (19, (O4 s)) :: O3, [(O0 s), (O186 x), O2]⟩ (rcheck_fn s (by first | assumption | exact hbig | exact hbig.1)) ?_
 refine owl 1 [2, 3, 4, 6] ⟨(6, VI s.checkE) :: O3, [(O0 s), (O186 x), O2]⟩ ?_
 refine EL.seq ?_
 refine srl 2 [2, 3, 4, 6, 22] ⟨(22, .v (.bool (s.checkE != 0))) :: (6, VI s.checkE) :: O3, [(O0 s), (O186 x), O2]⟩ ?_
 rw [hc]
 refine cnF ?_
 refine skn ?_
 refine EL.seq ?_
 refine srr 4 ⟨(28, .v (.bool (decide (x.kind < 3)))) :: (27, .v (.bool (decide (x.kind < 3)))) :: (O187 s x), [(O0 s), (O186 x), O2]⟩ ?_
 rw [hk1]
 refine owl 4 [2, 3, 4, 32] ⟨(32, .v (.bool (decide (x.kind > 6)))) :: O3, [(O0 s), (O186 x), O2]⟩ ?_
 rw [hk2]
 refine cnT ?_
 refine srl 3 [4, 5] ⟨[(5, VI 7), (4, .ref 2 5 0 0)], [(O0 s), (O186 x), O2]⟩ ?_
 refine rtr ?_
 refine rqa (.tup [O8, VI 7]) (Ale.tup (aT (aE 1 (aR (aE 5 (aE 8 (aE 6 (.nil)))))) (aR .nil))) ?_
 focus (rfl)
theorem rstep_fn (s : Syn) (x : Step) (hx : s.Big) : Fn Tryd.prog 15 [.agg [.lst 1 (s.voters.weights.map cI), VI s.voters.need, .lst 5 (s.seats.map Seat.cs), .lst 8 (s.bids.map Bid.cs), .lst 6 (s.votes.map Vote.cs)], .agg [VI x.kind, VI x.n, .v (.string x.data)]] (.tup [.agg [.lst 1 ((s.doP x.kind x.n x.data).1.voters.weights.map cI), VI (s.doP x.kind x.n x.data).1.voters.need, .lst 5 ((s.doP x.kind x.n x.data).1.seats.map Seat.cs), .lst 8 ((s.doP x.kind x.n x.data).1.bids.map Bid.cs), .lst 6 ((s.doP x.kind x.n x.data).1.votes.map Vote.cs)], VI (s.doP x.kind x.n x.data).2]) := by
  by_cases h0 : s.checkE = 0
  · have ok := Syn.check_0 h0
    rw [Syn.doP_0 h0]
    by_cases hk : 3 ≤ x.kind ∧ x.kind ≤ 6
    · obtain ⟨k, n, d⟩ := x
      simp only at hk
      have : k = 3 ∨ k = 4 ∨ k = 5 ∨ k = 6 := by omega
      rcases this with rfl | rfl | rfl | rfl
      · exact rstep3_fn s n d ok
      · exact rstep4_fn s n d ok
      · exact rstep5_fn s n d ok
      · exact rstep6_fn s n d ok
    · rw [Syn.step_7 hk]
      by_cases hk2 : x.kind < 3
      · exact rstepL_fn s x ok hk2
      · exact rstepG_fn s x ok (by omega)
  · rw [Syn.doP_n h0]
    exact rstepE_fn s x hx h0
theorem same_all {α : Type} {xs ys : List α} (hl : xs.length = ys.length) (h : ∀ j, j < xs.length → xs[j]? = ys[j]?) : xs = ys := by
  apply List.ext_getElem?
  intro j
  by_cases hj : j < xs.length
  · exact h j hj
  · rw [List.getElem?_eq_none (by omega), List.getElem?_eq_none (by omega)]
theorem same_next {α : Type} {xs ys : List α} {k : Nat} {a b : α} (h : ∀ j, j < k → xs[j]? = ys[j]?) (ha : xs[k]? = some a) (hb : ys[k]? = some b) (e : a = b) : ∀ j, j < k + 1 → xs[j]? = ys[j]? := by
  intro j hj
  by_cases hjk : j = k
  · subst hjk; rw [ha, hb, e]
  · exact h j (by omega)
theorem same_not {α : Type} {xs ys : List α} {k : Nat} {a b : α} (ha : xs[k]? = some a) (hb : ys[k]? = some b) (e : xs = ys) : a = b := by
  subst e; rw [ha] at hb; exact Option.some.inj hb
def Syn.same (a b : Syn) : Prop := a.voters.weights = b.voters.weights ∧ a.voters.need = b.voters.need ∧ a.seats = b.seats ∧ a.bids = b.bids ∧ a.votes = b.votes
theorem u64_eq {a b : U64} : a = b ↔ a.n = b.n := by
  cases a; cases b; simp
instance : DecidableEq Bid := fun a b => decidable_of_iff (a.time = b.time ∧ a.phase = b.phase ∧ a.own = b.own ∧ a.value = b.value ∧ a.best = b.best ∧ a.heard.n = b.heard.n) (by cases a; cases b; simp [u64_eq])
instance (a b : Syn) : Decidable (Syn.same a b) := by unfold Syn.same; exact inferInstance
theorem Syn.same_self (a : Syn) : Syn.same a a := ⟨rfl, rfl, rfl, rfl, rfl⟩
section
variable (a11 : Step) (c : Syn) (k : Nat) (l : List Step) (n : Int) (s : Syn)
abbrev P28 := (c.doP a11.kind a11.n a11.data)
abbrev P0 : OB := some ⟨5, [[.lst 1 (s.voters.weights.map cI), VI s.voters.need, .lst 5 (s.seats.map Seat.cs), .lst 8 (s.bids.map Bid.cs), .lst 6 (s.votes.map Vote.cs)]]⟩
abbrev P1 : OB := some ⟨5, [[.emp, VI 0, .emp, .emp, .emp]]⟩
abbrev P2 : LS := [(4, .ref 1 5 0 0), (2, .ref 0 5 0 0), (1, .lst 3 (l.map Step.cs))]
abbrev P3 : AV := .agg [.lst 1 (s.voters.weights.map cI), VI s.voters.need, .lst 5 (s.seats.map Seat.cs), .lst 8 (s.bids.map Bid.cs), .lst 6 (s.votes.map Vote.cs)]
abbrev P4 : LS := (17, .lst 3 (l.map Step.cs)) :: (16, .v (.bool true)) :: (15, .v (.bool true)) :: (14, VI s.checkE) :: (7, VI s.checkE) :: (P2 l)
abbrev P5 : LS := [(1, .lst 3 (l.map Step.cs)), (2, .ref 0 5 0 0), (4, .ref 1 5 0 0), (7, VI 2)]
abbrev P6 : LS := [(1, .lst 3 (l.map Step.cs)), (2, .ref 0 5 0 0), (4, .ref 1 5 0 0), (7, VI s.checkE)]
abbrev P8 : AV := .agg [.emp, VI 0, .emp, .emp, .emp]
abbrev P9 : LS := [(6, VI s.checkE), (5, VI 0), (4, .ref 1 5 0 0)]
abbrev P10 : LS := [(8, VI 0), (1, .lst 3 (l.map Step.cs)), (2, .ref 0 5 0 0), (4, .ref 1 5 0 0)]
abbrev P11 : OB := some ⟨5, [[.lst 1 (c.voters.weights.map cI), VI c.voters.need, .lst 5 (c.seats.map Seat.cs), .lst 8 (c.bids.map Bid.cs), .lst 6 (c.votes.map Vote.cs)]]⟩
abbrev P12 : LS := [(1, .lst 3 (l.map Step.cs)), (2, .ref 0 5 0 0), (4, .ref 1 5 0 0), (8, VI n), (9, VI (k : Int))]
abbrev P13 : LS := (26, .lst 3 (l.map Step.cs)) :: (25, VI (k : Int)) :: (P12 k l n)
abbrev P14 : AV := .agg [.lst 1 (c.voters.weights.map cI), VI c.voters.need, .lst 5 (c.seats.map Seat.cs), .lst 8 (c.bids.map Bid.cs), .lst 6 (c.votes.map Vote.cs)]
abbrev P15 : LS := (34, VI (k : Int)) :: (33, .lst 3 (l.map Step.cs)) :: (32, (P14 c)) :: (28, .v (.bool true)) :: (P12 k l n)
abbrev P16 : LS := (35, .pim [VI a11.kind, VI a11.n, .v (.string a11.data)] 0) :: (P15 c k l n)
abbrev P17 : AV := .agg [VI a11.kind, VI a11.n, .v (.string a11.data)]
abbrev P18 : AV := .agg [.lst 1 (((((P28 a11 c).1).voters).weights).map cI), VI ((((P28 a11 c).1).voters).need), .lst 5 ((((P28 a11 c).1).seats).map Seat.cs), .lst 8 ((((P28 a11 c).1).bids).map Bid.cs), .lst 6 ((((P28 a11 c).1).votes).map Vote.cs)]
abbrev P19 : LS := (37, .tup [(P18 a11 c), VI ((P28 a11 c).2)]) :: (36, (P17 a11)) :: (P16 a11 c k l n)
abbrev P20 : OB := some ⟨5, [[.lst 1 (((((P28 a11 c).1).voters).weights).map cI), VI ((((P28 a11 c).1).voters).need), .lst 5 ((((P28 a11 c).1).seats).map Seat.cs), .lst 8 ((((P28 a11 c).1).bids).map Bid.cs), .lst 6 ((((P28 a11 c).1).votes).map Vote.cs)]]⟩
abbrev P21 : LS := (11, VI ((P28 a11 c).2)) :: (10, .ref 2 5 0 0) :: (P12 k l n)
abbrev P22 : LB := [(P20 a11 c), P1, (P20 a11 c)]
abbrev P23 : LS := [(43, VI n), (1, .lst 3 (l.map Step.cs)), (2, .ref 0 5 0 0), (4, .ref 1 5 0 0), (9, VI (k : Int))]
abbrev P24 : LS := [(29, VI (k : Int)), (8, VI (n + 1)), (44, VI (n + 1)), (43, VI n), (1, .lst 3 (l.map Step.cs)), (2, .ref 0 5 0 0), (4, .ref 1 5 0 0)]
abbrev P25 : LS := (9, VI ((k : Int) + 1)) :: (30, VI ((k : Int) + 1)) :: (P24 k l n)
abbrev P26 : LS := [(29, VI (k : Int)), (41, .v (.bool false)), (10, .ref 2 5 0 0), (1, .lst 3 (l.map Step.cs)), (2, .ref 0 5 0 0), (4, .ref 1 5 0 0), (8, VI n)]
abbrev P27 : LS := (9, VI ((k : Int) + 1)) :: (30, VI ((k : Int) + 1)) :: (P26 k l n)
end
theorem rran_fn (s : Syn) (l : List Step) (hx : s.Big) (hl : l.length ≤ 9223372036854775807) : Fn Tryd.prog 21 [.agg [.lst 1 (s.voters.weights.map cI), VI s.voters.need, .lst 5 (s.seats.map Seat.cs), .lst 8 (s.bids.map Bid.cs), .lst 6 (s.votes.map Vote.cs)], .lst 3 (l.map Step.cs)] (.tup [.agg [.lst 1 (((((s.runP l).1).voters).weights).map cI), VI ((((s.runP l).1).voters).need), .lst 5 ((((s.runP l).1).seats).map Seat.cs), .lst 8 ((((s.runP l).1).bids).map Bid.cs), .lst 6 ((((s.runP l).1).votes).map Vote.cs)], VI ((s.runP l).2.1), VI ((s.runP l).2.2)]) := by
 refine fnw F21_ok ?_
 refine srl 4 [1, 2, 4] ⟨(P2 l), [(P0 s), P1]⟩ ?_
 refine srr 1 ⟨(12, (P3 s)) :: (P2 l), [(P0 s), P1]⟩ ?_
 refine owg [(P3 s)] ⟨(13, VI s.checkE) :: (12, (P3 s)) :: (P2 l), [(P0 s), P1]⟩ (rcheck_fn s (by first | assumption | exact Syn.Ok.big (by assumption))) ?_
 refine owl 1 [1, 2, 4, 7] ⟨(7, VI s.checkE) :: (P2 l), [(P0 s), P1]⟩ ?_
 refine EL.seqG [1, 2, 4, 7] (fun y => (y = ⟨(P5 l), [(P0 s), P1]⟩ ∧ (s.checkE == 0) = true ∧ decide ((List.length l : Int) > 200) = true) ∨ (y = ⟨(P6 l s), [(P0 s), P1]⟩ ∧ ((s.checkE = 0 ∧ ¬ ((List.length l : Int) > 200)) ∨ (¬ s.checkE = 0)))) ?_ ?_
 intro IHJ1 HJ1
 refine srr 3 ⟨(16, .v (.bool (s.checkE == 0))) :: (15, .v (.bool (s.checkE == 0))) :: (14, VI s.checkE) :: (7, VI s.checkE) :: (P2 l), [(P0 s), P1]⟩ ?_
 cases h2 : (s.checkE == 0)
 have g2 := bqF h2
 refine owl 4 [1, 2, 4, 7, 20] ⟨(20, .v (.bool false)) :: (7, VI s.checkE) :: (P2 l), [(P0 s), P1]⟩ ?_
 refine cnF ?_
 refine EL.skip ?_
 exact tN (HJ1.get (Or.inr ⟨by kernel_rfl, (Or.inr (by first | exact g2 | exact h2 | simp_all | omega))⟩))
 have g2 := bqT h2
 refine owr 1 ⟨(P4 l s), [(P0 s), P1]⟩ ?_
 refine ow2 ⟨(18, VI (List.length l : Int)) :: (P4 l s), [(P0 s), P1]⟩ (oln Step.cs l (.s 17) 3) ?_
 refine owl 2 [1, 2, 4, 7, 20] ⟨(20, .v (.bool (decide ((List.length l : Int) > 200)))) :: (7, VI s.checkE) :: (P2 l), [(P0 s), P1]⟩ ?_
 cases h3 : (decide ((List.length l : Int) > 200))
 have g3 := of_decide_eq_false h3
 have n3 : ¬ ((List.length l) > 200) := by omega
 refine cnF ?_
 refine EL.skip ?_
 exact tN (HJ1.get (Or.inr ⟨by kernel_rfl, (Or.inl (by refine ⟨(by first | exact g2 | exact h2 | simp_all | omega), (by first | exact g3 | exact h3 | simp_all | omega)⟩))⟩))
 have g3 := of_decide_eq_true h3
 have n3 : ((List.length l) > 200) := by omega
 refine cnT ?_
 refine roe 1 ⟨(7, VI 2) :: (20, .v (.bool true)) :: (P2 l), [(P0 s), P1]⟩ ?_
 exact tN (HJ1.get (Or.inl ⟨by kernel_rfl, h2, h3⟩))
 rintro _ (⟨rfl, h4, h5⟩ | ⟨rfl, hD6⟩)
 have g4 := bqT h4
 have g5 := of_decide_eq_true h5
 have n5 : ((List.length l) > 200) := by omega
 refine EL.seq ?_
 refine srl 2 [1, 2, 4, 7, 22] ⟨(22, .v (.bool true)) :: (P5 l), [(P0 s), P1]⟩ ?_
 refine cnT ?_
 refine srl 5 [4, 5, 6] ⟨[(6, VI 2), (5, VI 0), (4, .ref 1 5 0 0)], [(P0 s), P1]⟩ ?_
 refine rtr ?_
 refine rqa (.tup [P8, VI 0, VI 2]) (Ale.tup (aT (aE 1 (aR (aE 5 (aE 8 (aE 6 (.nil)))))) (aR (aR .nil)))) ?_
 rotate_left
 refine EL.seq ?_
 refine srl 2 [1, 2, 4, 7, 22] ⟨(22, .v (.bool (s.checkE != 0))) :: (P6 l s), [(P0 s), P1]⟩ ?_
 cases h7 : (s.checkE != 0)
 have g7 := bnF h7
 refine cnF ?_
 refine skn ?_
 refine srl 1 [1, 2, 4, 8] ⟨(P10 l), [(P0 s), P1]⟩ ?_
 refine EL.seq ?_
 refine srl 1 [1, 2, 4, 8, 9] ⟨(9, VI 0) :: (P10 l), [(P0 s), P1]⟩ ?_
 refine EL.block ?_
 refine EL.loopN (fun mM xX => ∃ (k : Nat) (c : Syn) (n : Int), mM = l.length - k ∧ (k ≤ l.length ∧ l.length ≤ 200 ∧ s.checkE = 0 ∧ c.Ok ∧ 0 ≤ n ∧ n ≤ k ∧ s.runGo l 0 = c.runGo (l.drop k) n) ∧ xX = ⟨(P12 k l n), [(P11 c), P1]⟩) (y := (fun (k : Nat) (c : Syn) (n : Int) => (⟨(P12 k l n), [(P11 c), P1]⟩ : L3)) 0 s 0) [1, 2, 4, 8, 9] [uf 0, uf 1] [] (by kernel_rfl) trivial ⟨0, s, 0, rfl, by have hc0 : s.checkE = 0 := ‹_›; refine ⟨by omega, by omega, hc0, Syn.check_0 hc0, by omega, by omega, by simp⟩, rfl⟩ ?_
 rintro _ _ ⟨k, c, n, rfl, hI8, rfl⟩
 obtain ⟨hk, hl2, hc0, hok, hn0, hn1, hs⟩ := hI8
 have hcc := Syn.ok_iff.2 hok
 refine EL.seq ?_
 refine srr 2 ⟨(P13 k l n), [(P11 c), P1]⟩ ?_
 refine ow2 ⟨(27, VI (List.length l : Int)) :: (P13 k l n), [(P11 c), P1]⟩ (oln Step.cs l (.s 26) 3) ?_
 refine owl 1 [1, 2, 4, 8, 9, 28] ⟨(28, .v (.bool (decide ((k : Int) < (List.length l : Int))))) :: (P12 k l n), [(P11 c), P1]⟩ ?_
 cases h9 : (decide ((k : Int) < (List.length l : Int)))
 have g9 := of_decide_eq_false h9
 have n9 : ¬ ((k) < (List.length l)) := by omega
 refine cnF ?_
 refine EL.exit ?_
 refine tX ?_
 refine tX ?_
 refine iH ?_
 refine tN ?_
 refine srl 5 [4, 5, 6] ⟨[(6, VI 0), (5, VI n), (4, .ref 1 5 0 0)], [(P11 c), (P11 c)]⟩ ?_
 refine EL.ret ?_
 refine rqe (.tup [(P14 c), VI n, VI 0]) ?_
 rotate_left
 have g9 := of_decide_eq_true h9
 have n9 : ((k) < (List.length l)) := by omega
 refine cnT ?_
 refine skn ?_
 refine EL.seq ?_
 refine EL.block ?_
 refine sdr 3 ⟨(P15 c k l n), [(P11 c), P1]⟩ ?_
 obtain ⟨a11, ha11⟩ : ∃ y, l[((k : Int) : Int).toNat]? = some y := idx_ex ⟨by omega, by omega⟩
 have iha11 : l[k]? = some a11 := by simpa using ha11
 have dha11 := drop_get iha11
 refine dw2 ⟨(P16 a11 c k l n), [(P11 c), P1]⟩ (oid Step.cs l (.s 33) (.s 34) 3 .i64 (k : Int) a11 (by omega) ha11) ?_
 refine dwr 1 ⟨(36, (P17 a11)) :: (P16 a11 c k l n), [(P11 c), P1]⟩ ?_
 refine dwg [(P14 c), (P17 a11)] ⟨(P19 a11 c k l n), [(P11 c), P1]⟩ (rstep_fn c a11 (by first | assumption | exact Syn.Ok.big (by assumption))) ?_
 refine dwl 6 [1, 2, 4, 8, 9, 10, 11] ⟨(P21 a11 c k l n), [(P11 c), P1, (P20 a11 c)]⟩ ?_
 refine srl 2 [1, 2, 4, 8, 9, 10, 41] ⟨(41, .v (.bool (((P28 a11 c).2) == 0))) :: (10, .ref 2 5 0 0) :: (P12 k l n), [(P11 c), P1, (P20 a11 c)]⟩ ?_
 cases h12 : (((c.doP a11.kind a11.n a11.data).2) == 0)
 have g12 := bqF h12
 refine cnF ?_
 refine EL.skip ?_
 refine iN ?_
 refine tN ?_
 refine EL.reg0 ?_
 refine owr 3 ⟨(9, VI (IntKind.i64.wrap ((k : Int) + 1))) :: (30, VI (IntKind.i64.wrap ((k : Int) + 1))) :: (P26 k l n), [(P11 c), P1, (P20 a11 c)]⟩ ?_
 have e15 := wr64 (n := (k : Int) + 1) (by omega)
 rw [e15]
 refine owe 0 ⟨(P27 k l n), [(P11 c), P1, (P20 a11 c)]⟩ ?_
 refine tN ?_
 refine rE (live := [1, 2, 4, 8, 9]) (src := [uf 0, uf 1]) (es := []) (y := (fun (k : Nat) (c : Syn) (n : Int) => (⟨(P12 k l n), [(P11 c), P1]⟩ : L3)) (k + 1) c n) ?_ trivial ?_ ⟨(k + 1), c, n, rfl, ?_, rfl⟩
 kernel_rfl
 omega
 focus ((try rw [Syn.doP_0 hcc] at *); first | (refine ⟨by omega, by omega, hc0, Syn.step_ok hok ‹_›, by omega, by omega, ?_⟩; rw [hs]; simp [Syn.runGo, *]; done) | (refine ⟨by omega, by omega, hc0, hok, by omega, by omega, ?_⟩; rw [hs]; simp [Syn.runGo, *]; done))
 have g12 := bqT h12
 refine cnT ?_
 refine srl 2 [1, 2, 4, 8, 9] ⟨(P12 k l n), (P22 a11 c)⟩ ?_
 refine EL.reg0 ?_
 refine owr 3 ⟨(8, VI (IntKind.i64.wrap (n + 1))) :: (44, VI (IntKind.i64.wrap (n + 1))) :: (P23 k l n), (P22 a11 c)⟩ ?_
 have e13 := wr64 (n := n + 1) (by omega)
 rw [e13]
 refine owe 0 ⟨(8, VI (n + 1)) :: (44, VI (n + 1)) :: (P23 k l n), (P22 a11 c)⟩ ?_
 refine iN ?_
 refine tN ?_
 refine EL.reg0 ?_
 refine owr 3 ⟨(9, VI (IntKind.i64.wrap ((k : Int) + 1))) :: (30, VI (IntKind.i64.wrap ((k : Int) + 1))) :: (P24 k l n), (P22 a11 c)⟩ ?_
 have e14 := wr64 (n := (k : Int) + 1) (by omega)
 rw [e14]
 refine owe 0 ⟨(P25 k l n), (P22 a11 c)⟩ ?_
 refine tN ?_
 refine rE (live := [1, 2, 4, 8, 9]) (src := [uf 0, uf 1]) (es := []) (y := (fun (k : Nat) (c : Syn) (n : Int) => (⟨(P12 k l n), [(P11 c), P1]⟩ : L3)) (k + 1) ((c.doP a11.kind a11.n a11.data).1) (n + 1)) ?_ trivial ?_ ⟨(k + 1), ((c.doP a11.kind a11.n a11.data).1), (n + 1), rfl, ?_, rfl⟩
 kernel_rfl
 omega
 focus ((try rw [Syn.doP_0 hcc] at *); first | (refine ⟨by omega, by omega, hc0, Syn.step_ok hok ‹_›, by omega, by omega, ?_⟩; rw [hs]; simp [Syn.runGo, *]; done) | (refine ⟨by omega, by omega, hc0, hok, by omega, by omega, ?_⟩; rw [hs]; simp [Syn.runGo, *]; done))
 have g7 := bnT h7
 refine cnT ?_
 refine srl 5 [4, 5, 6] ⟨(P9 s), [(P0 s), P1]⟩ ?_
 refine rtr ?_
 refine rqa (.tup [P8, VI 0, VI s.checkE]) (Ale.tup (aT (aE 1 (aR (aE 5 (aE 8 (aE 6 (.nil)))))) (aR (aR .nil)))) ?_
 rotate_left
 all_goals (first | (rw [Syn.runP_n ‹_›]; rfl) | (rw [Syn.runP_2 ‹_› (by omega)]; rfl) | (rw [Syn.runP_0 hc0 (by omega), hs, List.drop_eq_nil_of_le (by omega)]; rfl))
section
variable (a5 : Int) (k : Nat) (xs : List Int) (ys : List Int)
abbrev P29 : LS := [(6, .lst 1 (xs.map cI)), (0, .lst 1 (xs.map cI)), (1, .lst 1 (ys.map cI))]
abbrev P30 : LS := (8, .lst 1 (ys.map cI)) :: (7, VI (List.length xs : Int)) :: (P29 xs ys)
abbrev P31 : LS := [(5, VI 0), (0, .lst 1 (xs.map cI)), (1, .lst 1 (ys.map cI))]
abbrev P32 : LS := [(0, .lst 1 (xs.map cI)), (1, .lst 1 (ys.map cI)), (5, VI (k : Int))]
abbrev P33 : LS := (12, .lst 1 (xs.map cI)) :: (11, VI (k : Int)) :: (P32 k xs ys)
abbrev P34 : LS := (18, VI (k : Int)) :: (17, .lst 1 (xs.map cI)) :: (14, .v (.bool true)) :: (P32 k xs ys)
abbrev P35 : LS := (22, VI (k : Int)) :: (21, .lst 1 (ys.map cI)) :: (20, VI a5) :: (19, .pim [VI a5] 0) :: (P34 k xs ys)
abbrev P36 : LS := [(15, VI (k : Int)), (25, .v (.bool false)), (0, .lst 1 (xs.map cI)), (1, .lst 1 (ys.map cI))]
abbrev P37 : LS := (5, VI ((k : Int) + 1)) :: (16, VI ((k : Int) + 1)) :: (P36 k xs ys)
end
theorem sameInts_fn (xs : List Int) (ys : List Int) (hx : xs.length ≤ 9223372036854775807) : Fn Tryd.prog 36 [.lst 1 (xs.map cI), .lst 1 (ys.map cI)] (.v (.bool (decide (xs = ys)))) := by
 refine fnw F36_ok ?_
 refine srl 1 [0, 1] ⟨[(0, .lst 1 (xs.map cI)), (1, .lst 1 (ys.map cI))], []⟩ ?_
 refine EL.seq ?_
 refine srr 1 ⟨(P29 xs ys), []⟩ ?_
 refine ow2 ⟨(7, VI (List.length xs : Int)) :: (P29 xs ys), []⟩ (oln cI xs (.s 6) 1) ?_
 refine owr 1 ⟨(P30 xs ys), []⟩ ?_
 refine ow2 ⟨(9, VI (List.length ys : Int)) :: (P30 xs ys), []⟩ (oln cI ys (.s 8) 1) ?_
 refine owl 1 [0, 1, 10] ⟨[(10, .v (.bool ((List.length xs : Int) != (List.length ys : Int)))), (0, .lst 1 (xs.map cI)), (1, .lst 1 (ys.map cI))], []⟩ ?_
 cases h1 : ((List.length xs : Int) != (List.length ys : Int))
 have g1 := bnF h1
 have n1 : ((List.length xs) = (List.length ys)) := by omega
 refine cnF ?_
 refine skn ?_
 refine EL.seq ?_
 refine srl 1 [0, 1, 5] ⟨(P31 xs ys), []⟩ ?_
 refine EL.block ?_
 refine EL.loopN (fun mM xX => ∃ (k : Nat), mM = xs.length - k ∧ (k ≤ xs.length ∧ xs.length = ys.length ∧ decide (xs = ys) = decide (xs.drop k = ys.drop k)) ∧ xX = ⟨(P32 k xs ys), []⟩) (y := (fun (k : Nat) => (⟨(P32 k xs ys), []⟩ : L3)) 0) [0, 1, 5] [] [] (by kernel_rfl) trivial ⟨0, rfl, by simp; omega, rfl⟩ ?_
 rintro _ _ ⟨k, rfl, hI2, rfl⟩
 obtain ⟨hk, hl, hs⟩ := hI2
 refine EL.seq ?_
 refine srr 2 ⟨(P33 k xs ys), []⟩ ?_
 refine ow2 ⟨(13, VI (List.length xs : Int)) :: (P33 k xs ys), []⟩ (oln cI xs (.s 12) 1) ?_
 refine owl 1 [0, 1, 5, 14] ⟨(14, .v (.bool (decide ((k : Int) < (List.length xs : Int))))) :: (P32 k xs ys), []⟩ ?_
 cases h3 : (decide ((k : Int) < (List.length xs : Int)))
 have g3 := of_decide_eq_false h3
 have n3 : ¬ ((k) < (List.length xs)) := by omega
 refine cnF ?_
 refine EL.exit ?_
 refine tX ?_
 refine tX ?_
 refine iH ?_
 refine tN ?_
 refine srl 1 [4] ⟨[(4, .v (.bool true))], []⟩ ?_
 refine EL.ret ?_
 refine rqe (.v (.bool true)) ?_
 rotate_left
 have g3 := of_decide_eq_true h3
 have n3 : ((k) < (List.length xs)) := by omega
 refine cnT ?_
 refine skn ?_
 refine EL.seq ?_
 refine EL.block ?_
 refine sdr 2 ⟨(P34 k xs ys), []⟩ ?_
 obtain ⟨a5, ha5⟩ : ∃ y, xs[((k : Int) : Int).toNat]? = some y := idx_ex ⟨by omega, by omega⟩
 have iha5 : xs[k]? = some a5 := by simpa using ha5
 have dha5 := drop_get iha5
 refine dw2 ⟨(19, .pim [VI a5] 0) :: (P34 k xs ys), []⟩ (oid cI xs (.s 17) (.s 18) 1 .i64 (k : Int) a5 (by omega) ha5) ?_
 refine dwr 3 ⟨(P35 a5 k xs ys), []⟩ ?_
 obtain ⟨a7, ha7⟩ : ∃ y, ys[((k : Int) : Int).toNat]? = some y := idx_ex ⟨by omega, by omega⟩
 have iha7 : ys[k]? = some a7 := by simpa using ha7
 have dha7 := drop_get iha7
 refine dw2 ⟨(23, .pim [VI a7] 0) :: (P35 a5 k xs ys), []⟩ (oid cI ys (.s 21) (.s 22) 1 .i64 (k : Int) a7 (by omega) ha7) ?_
 refine dwl 2 [0, 1, 5, 25] ⟨(25, .v (.bool (a5 != a7))) :: (P32 k xs ys), []⟩ ?_
 cases h8 : (a5 != a7)
 have g8 := bnF h8
 refine cnF ?_
 refine EL.skip ?_
 refine iN ?_
 refine tN ?_
 refine EL.reg0 ?_
 refine owr 3 ⟨(5, VI (IntKind.i64.wrap ((k : Int) + 1))) :: (16, VI (IntKind.i64.wrap ((k : Int) + 1))) :: (P36 k xs ys), []⟩ ?_
 have e9 := wr64 (n := (k : Int) + 1) (by omega)
 rw [e9]
 refine owe 0 ⟨(P37 k xs ys), []⟩ ?_
 refine tN ?_
 refine rE (live := [0, 1, 5]) (src := []) (es := []) (y := (fun (k : Nat) => (⟨(P32 k xs ys), []⟩ : L3)) (k + 1)) ?_ trivial ?_ ⟨(k + 1), rfl, ?_, rfl⟩
 kernel_rfl
 omega
 focus (refine ⟨by omega, by omega, ?_⟩; rw [hs]; simp [*])
 have g8 := bnT h8
 refine cnT ?_
 refine srl 1 [4] ⟨[(4, .v (.bool false))], []⟩ ?_
 refine EL.ret ?_
 refine iR ?_
 refine tR ?_
 refine tR ?_
 refine iR ?_
 refine tR ?_
 refine rqe (.v (.bool false)) ?_
 rotate_left
 have g1 := bnT h1
 have n1 : ¬ ((List.length xs) = (List.length ys)) := by omega
 refine cnT ?_
 refine srl 1 [4] ⟨[(4, .v (.bool false))], []⟩ ?_
 refine rtr ?_
 refine rqe (.v (.bool false)) ?_
 rotate_left
 all_goals ((refine congrArg (fun b => AV.v (Value.bool b)) ?_; first | (have hne : xs ≠ ys := (fun h => by subst h; omega); simp [hne]; done) | (rw [hs, List.drop_eq_nil_of_le (by omega), List.drop_eq_nil_of_le (by omega)]; simp; done) | (rw [hs]; simp [*]; done)))
section
variable (a : Syn) (a11 : Seat) (a17 : Bid) (a19 : Bid) (a9 : Seat) (b : Syn) (i : Nat) (k : Nat)
abbrev P38 : OB := some ⟨5, [[.lst 1 (a.voters.weights.map cI), VI a.voters.need, .lst 5 (a.seats.map Seat.cs), .lst 8 (a.bids.map Bid.cs), .lst 6 (a.votes.map Vote.cs)]]⟩
abbrev P39 : OB := some ⟨5, [[.lst 1 (b.voters.weights.map cI), VI b.voters.need, .lst 5 (b.seats.map Seat.cs), .lst 8 (b.bids.map Bid.cs), .lst 6 (b.votes.map Vote.cs)]]⟩
abbrev P40 : LS := [(12, .lst 1 (b.voters.weights.map cI)), (11, .ref 1 5 0 0), (10, .ref 1 5 0 0), (9, .lst 1 (a.voters.weights.map cI)), (8, .ref 0 5 0 0), (7, .ref 0 5 0 0), (3, .ref 1 5 0 0), (2, .ref 0 5 0 0)]
abbrev P41 : LS := (21, VI b.voters.need) :: (20, .ref 1 5 0 1) :: (19, .ref 1 5 0 0) :: (18, VI a.voters.need) :: (17, .ref 0 5 0 1) :: (16, .ref 0 5 0 0) :: (15, .v (.bool false)) :: (14, .v (.bool false)) :: (13, .v (.bool true)) :: (P40 a b)
abbrev P42 : LS := [(49, .v (.bool true)), (3, .ref 1 5 0 0), (2, .ref 0 5 0 0)]
abbrev P43 : LS := (26, .lst 5 (a.seats.map Seat.cs)) :: (25, .ref 0 5 0 2) :: (24, .v (.bool false)) :: (23, .v (.bool false)) :: (22, .v (.bool false)) :: (P41 a b)
abbrev P44 : LS := (29, .lst 5 (b.seats.map Seat.cs)) :: (28, .ref 1 5 0 2) :: (27, VI (List.length a.seats : Int)) :: (P43 a b)
abbrev P45 : LS := (35, .lst 8 (a.bids.map Bid.cs)) :: (34, .ref 0 5 0 3) :: (33, .v (.bool false)) :: (32, .v (.bool false)) :: (31, .v (.bool false)) :: (30, VI (List.length b.seats : Int)) :: (P44 a b)
abbrev P46 : LS := (38, .lst 8 (b.bids.map Bid.cs)) :: (37, .ref 1 5 0 3) :: (36, VI (List.length a.bids : Int)) :: (P45 a b)
abbrev P47 : LS := (46, .lst 6 (b.votes.map Vote.cs)) :: (45, .ref 1 5 0 4) :: (44, .lst 6 (a.votes.map Vote.cs)) :: (43, .ref 0 5 0 4) :: (42, .v (.bool false)) :: (41, .v (.bool false)) :: (40, .v (.bool false)) :: (39, VI (List.length b.bids : Int)) :: (P46 a b)
abbrev P48 : LS := [(5, VI 0), (3, .ref 1 5 0 0), (2, .ref 0 5 0 0)]
abbrev P49 : LS := [(2, .ref 0 5 0 0), (3, .ref 1 5 0 0), (5, VI (k : Int))]
abbrev P50 : LS := (52, .lst 5 (a.seats.map Seat.cs)) :: (51, .ref 0 5 0 2) :: (50, VI (k : Int)) :: (P49 k)
abbrev P51 : LS := (59, VI (k : Int)) :: (58, .lst 5 (a.seats.map Seat.cs)) :: (57, .ref 0 5 0 2) :: (54, .v (.bool true)) :: (P49 k)
abbrev P52 : LS := (60, .pim [VI a9.promised.time, VI a9.promised.who, VI a9.kept.at_.time, VI a9.kept.at_.who, .v (.string a9.kept.data)] 0) :: (P51 a k)
abbrev P53 : AV := .agg [VI a9.promised.time, VI a9.promised.who, VI a9.kept.at_.time, VI a9.kept.at_.who, .v (.string a9.kept.data)]
abbrev P54 : LS := (64, VI (k : Int)) :: (63, .lst 5 (b.seats.map Seat.cs)) :: (62, .ref 1 5 0 2) :: (61, (P53 a9)) :: (P52 a a9 k)
abbrev P55 : LS := (65, .pim [VI a11.promised.time, VI a11.promised.who, VI a11.kept.at_.time, VI a11.kept.at_.who, .v (.string a11.kept.data)] 0) :: (P54 a a9 b k)
abbrev P56 : LS := [(55, VI (k : Int)), (67, .v (.bool false)), (2, .ref 0 5 0 0), (3, .ref 1 5 0 0)]
abbrev P57 : LS := (5, VI ((k : Int) + 1)) :: (56, VI ((k : Int) + 1)) :: (P56 k)
abbrev P58 : LS := [(6, VI 0), (2, .ref 0 5 0 0), (3, .ref 1 5 0 0)]
abbrev P59 : LS := [(2, .ref 0 5 0 0), (3, .ref 1 5 0 0), (6, VI (i : Int))]
abbrev P60 : LS := (70, .lst 8 (a.bids.map Bid.cs)) :: (69, .ref 0 5 0 3) :: (68, VI (i : Int)) :: (P59 i)
abbrev P61 : LS := (77, VI (i : Int)) :: (76, .lst 8 (a.bids.map Bid.cs)) :: (75, .ref 0 5 0 3) :: (72, .v (.bool true)) :: (P59 i)
abbrev P62 : LS := (78, .pim [VI a17.time, VI a17.phase, .v (.string a17.own), .v (.string a17.value), VI a17.best.at_.time, VI a17.best.at_.who, .v (.string a17.best.data), .v (.int .u64 (a17.heard.n : Int))] 0) :: (P61 a i)
abbrev P63 : AV := .agg [VI a17.time, VI a17.phase, .v (.string a17.own), .v (.string a17.value), VI a17.best.at_.time, VI a17.best.at_.who, .v (.string a17.best.data), .v (.int .u64 (a17.heard.n : Int))]
abbrev P64 : LS := (82, VI (i : Int)) :: (81, .lst 8 (b.bids.map Bid.cs)) :: (80, .ref 1 5 0 3) :: (79, (P63 a17)) :: (P62 a a17 i)
abbrev P65 : LS := (83, .pim [VI a19.time, VI a19.phase, .v (.string a19.own), .v (.string a19.value), VI a19.best.at_.time, VI a19.best.at_.who, .v (.string a19.best.data), .v (.int .u64 (a19.heard.n : Int))] 0) :: (P64 a a17 b i)
abbrev P66 : LS := [(73, VI (i : Int)), (85, .v (.bool false)), (2, .ref 0 5 0 0), (3, .ref 1 5 0 0)]
abbrev P67 : LS := (6, VI ((i : Int) + 1)) :: (74, VI ((i : Int) + 1)) :: (P66 i)
end
theorem sameSynod_fn (a : Syn) (b : Syn) (hx : a.Big) : Fn Tryd.prog 17 [.agg [.lst 1 (a.voters.weights.map cI), VI a.voters.need, .lst 5 (a.seats.map Seat.cs), .lst 8 (a.bids.map Bid.cs), .lst 6 (a.votes.map Vote.cs)], .agg [.lst 1 (b.voters.weights.map cI), VI b.voters.need, .lst 5 (b.seats.map Seat.cs), .lst 8 (b.bids.map Bid.cs), .lst 6 (b.votes.map Vote.cs)]] (.v (.bool (decide (Syn.same a b)))) := by
 refine fnw F17_ok ?_
 refine srl 3 [2, 3] ⟨[(3, .ref 1 5 0 0), (2, .ref 0 5 0 0)], [(P38 a), (P39 b)]⟩ ?_
 refine EL.seq ?_
 refine srr 6 ⟨(P40 a b), [(P38 a), (P39 b)]⟩ ?_
 refine owg [.lst 1 (a.voters.weights.map cI), .lst 1 (b.voters.weights.map cI)] ⟨(13, .v (.bool (decide (a.voters.weights = b.voters.weights)))) :: (P40 a b), [(P38 a), (P39 b)]⟩ (sameInts_fn a.voters.weights b.voters.weights (by first | omega | exact hx.1)) ?_
 refine owr 2 ⟨(15, .v (.bool (!(decide (a.voters.weights = b.voters.weights))))) :: (14, .v (.bool (!(decide (a.voters.weights = b.voters.weights))))) :: (13, .v (.bool (decide (a.voters.weights = b.voters.weights)))) :: (P40 a b), [(P38 a), (P39 b)]⟩ ?_
 cases h1 : (decide (a.voters.weights = b.voters.weights))
 have g1 := of_decide_eq_false h1
 refine owl 34 [2, 3, 49] ⟨P42, [(P38 a), (P39 b)]⟩ ?_
 refine cnT ?_
 refine srl 1 [4] ⟨[(4, .v (.bool false))], [(P38 a), (P39 b)]⟩ ?_
 refine rtr ?_
 refine rqe (.v (.bool false)) ?_
 rotate_left
 have g1 := of_decide_eq_true h1
 refine owr 9 ⟨(24, .v (.bool (a.voters.need != b.voters.need))) :: (23, .v (.bool (a.voters.need != b.voters.need))) :: (22, .v (.bool (a.voters.need != b.voters.need))) :: (P41 a b), [(P38 a), (P39 b)]⟩ ?_
 cases h2 : (a.voters.need != b.voters.need)
 have g2 := bnF h2
 refine owr 2 ⟨(P43 a b), [(P38 a), (P39 b)]⟩ ?_
 refine ow2 ⟨(27, VI (List.length a.seats : Int)) :: (P43 a b), [(P38 a), (P39 b)]⟩ (oln Seat.cs a.seats (.s 26) 5) ?_
 refine owr 2 ⟨(P44 a b), [(P38 a), (P39 b)]⟩ ?_
 refine ow2 ⟨(30, VI (List.length b.seats : Int)) :: (P44 a b), [(P38 a), (P39 b)]⟩ (oln Seat.cs b.seats (.s 29) 5) ?_
 refine owr 3 ⟨(33, .v (.bool ((List.length a.seats : Int) != (List.length b.seats : Int)))) :: (32, .v (.bool ((List.length a.seats : Int) != (List.length b.seats : Int)))) :: (31, .v (.bool ((List.length a.seats : Int) != (List.length b.seats : Int)))) :: (30, VI (List.length b.seats : Int)) :: (P44 a b), [(P38 a), (P39 b)]⟩ ?_
 cases h3 : ((List.length a.seats : Int) != (List.length b.seats : Int))
 have g3 := bnF h3
 have n3 : ((List.length a.seats) = (List.length b.seats)) := by omega
 refine owr 2 ⟨(P45 a b), [(P38 a), (P39 b)]⟩ ?_
 refine ow2 ⟨(36, VI (List.length a.bids : Int)) :: (P45 a b), [(P38 a), (P39 b)]⟩ (oln Bid.cs a.bids (.s 35) 8) ?_
 refine owr 2 ⟨(P46 a b), [(P38 a), (P39 b)]⟩ ?_
 refine ow2 ⟨(39, VI (List.length b.bids : Int)) :: (P46 a b), [(P38 a), (P39 b)]⟩ (oln Bid.cs b.bids (.s 38) 8) ?_
 refine owr 3 ⟨(42, .v (.bool ((List.length a.bids : Int) != (List.length b.bids : Int)))) :: (41, .v (.bool ((List.length a.bids : Int) != (List.length b.bids : Int)))) :: (40, .v (.bool ((List.length a.bids : Int) != (List.length b.bids : Int)))) :: (39, VI (List.length b.bids : Int)) :: (P46 a b), [(P38 a), (P39 b)]⟩ ?_
 cases h4 : ((List.length a.bids : Int) != (List.length b.bids : Int))
 have g4 := bnF h4
 have n4 : ((List.length a.bids) = (List.length b.bids)) := by omega
 refine owr 4 ⟨(P47 a b), [(P38 a), (P39 b)]⟩ ?_
 refine owg [.lst 6 (a.votes.map Vote.cs), .lst 6 (b.votes.map Vote.cs)] ⟨(47, .v (.bool (decide (a.votes = b.votes)))) :: (P47 a b), [(P38 a), (P39 b)]⟩ (sameVotes_fn a.votes b.votes (by first | omega | exact hx.2.2.2)) ?_
 refine owl 2 [2, 3, 49] ⟨[(49, .v (.bool (!(decide (a.votes = b.votes))))), (3, .ref 1 5 0 0), (2, .ref 0 5 0 0)], [(P38 a), (P39 b)]⟩ ?_
 cases h5 : (decide (a.votes = b.votes))
 have g5 := of_decide_eq_false h5
 refine cnT ?_
 refine srl 1 [4] ⟨[(4, .v (.bool false))], [(P38 a), (P39 b)]⟩ ?_
 refine rtr ?_
 refine rqe (.v (.bool false)) ?_
 rotate_left
 have g5 := of_decide_eq_true h5
 refine cnF ?_
 refine skn ?_
 refine EL.seq ?_
 refine srl 1 [2, 3, 5] ⟨P48, [(P38 a), (P39 b)]⟩ ?_
 refine EL.block ?_
 refine EL.loopN (fun mM xX => ∃ (k : Nat), mM = a.seats.length - k ∧ (k ≤ a.seats.length ∧ a.seats.length = b.seats.length ∧ (∀ j, j < k → a.seats[j]? = b.seats[j]?)) ∧ xX = ⟨(P49 k), [(P38 a), (P39 b)]⟩) (y := (fun (k : Nat) => (⟨(P49 k), [(P38 a), (P39 b)]⟩ : L3)) 0) [2, 3, 5] [uf 0, uf 1] [] (by kernel_rfl) trivial ⟨0, rfl, by first | exact ⟨by omega, by omega, fun j hj => absurd hj (Nat.not_lt_zero _)⟩, rfl⟩ ?_
 rintro _ _ ⟨k, rfl, hI6, rfl⟩
 obtain ⟨hkk, hls, hsk⟩ := hI6
 refine EL.seq ?_
 refine srr 3 ⟨(P50 a k), [(P38 a), (P39 b)]⟩ ?_
 refine ow2 ⟨(53, VI (List.length a.seats : Int)) :: (P50 a k), [(P38 a), (P39 b)]⟩ (oln Seat.cs a.seats (.s 52) 5) ?_
 refine owl 1 [2, 3, 5, 54] ⟨(54, .v (.bool (decide ((k : Int) < (List.length a.seats : Int))))) :: (P49 k), [(P38 a), (P39 b)]⟩ ?_
 cases h7 : (decide ((k : Int) < (List.length a.seats : Int)))
 have g7 := of_decide_eq_false h7
 have n7 : ¬ ((k) < (List.length a.seats)) := by omega
 refine cnF ?_
 refine EL.exit ?_
 refine tX ?_
 refine tX ?_
 refine iH ?_
 refine tN ?_
 refine EL.seq ?_
 refine srl 1 [2, 3, 6] ⟨P58, [(P38 a), (P39 b)]⟩ ?_
 refine EL.block ?_
 refine EL.loopN (fun mM xX => ∃ (i : Nat), mM = a.bids.length - i ∧ (i ≤ a.bids.length ∧ a.bids.length = b.bids.length ∧ (∀ j, j < i → a.bids[j]? = b.bids[j]?)) ∧ xX = ⟨(P59 i), [(P38 a), (P39 b)]⟩) (y := (fun (i : Nat) => (⟨(P59 i), [(P38 a), (P39 b)]⟩ : L3)) 0) [2, 3, 6] [uf 0, uf 1] [] (by kernel_rfl) trivial ⟨0, rfl, by first | exact ⟨by omega, by omega, fun j hj => absurd hj (Nat.not_lt_zero _)⟩, rfl⟩ ?_
 rintro _ _ ⟨i, rfl, hI14, rfl⟩
 obtain ⟨hki, hlb, hsi⟩ := hI14
 refine EL.seq ?_
 refine srr 3 ⟨(P60 a i), [(P38 a), (P39 b)]⟩ ?_
 refine ow2 ⟨(71, VI (List.length a.bids : Int)) :: (P60 a i), [(P38 a), (P39 b)]⟩ (oln Bid.cs a.bids (.s 70) 8) ?_
 refine owl 1 [2, 3, 6, 72] ⟨(72, .v (.bool (decide ((i : Int) < (List.length a.bids : Int))))) :: (P59 i), [(P38 a), (P39 b)]⟩ ?_
 cases h15 : (decide ((i : Int) < (List.length a.bids : Int)))
 have g15 := of_decide_eq_false h15
 have n15 : ¬ ((i) < (List.length a.bids)) := by omega
 refine cnF ?_
 refine EL.exit ?_
 refine tX ?_
 refine tX ?_
 refine iH ?_
 refine tN ?_
 refine srl 1 [4] ⟨[(4, .v (.bool true))], [(P38 a), (P39 b)]⟩ ?_
 refine EL.ret ?_
 refine rqe (.v (.bool true)) ?_
 rotate_left
 have g15 := of_decide_eq_true h15
 have n15 : ((i) < (List.length a.bids)) := by omega
 refine cnT ?_
 refine skn ?_
 refine EL.seq ?_
 refine EL.block ?_
 refine sdr 3 ⟨(P61 a i), [(P38 a), (P39 b)]⟩ ?_
 obtain ⟨a17, ha17⟩ : ∃ y, a.bids[((i : Int) : Int).toNat]? = some y := idx_ex ⟨by omega, by omega⟩
 have iha17 : a.bids[i]? = some a17 := by simpa using ha17
 have dha17 := drop_get iha17
 refine dw2 ⟨(P62 a a17 i), [(P38 a), (P39 b)]⟩ (oid Bid.cs a.bids (.s 76) (.s 77) 8 .i64 (i : Int) a17 (by omega) ha17) ?_
 refine dwr 4 ⟨(P64 a a17 b i), [(P38 a), (P39 b)]⟩ ?_
 obtain ⟨a19, ha19⟩ : ∃ y, b.bids[((i : Int) : Int).toNat]? = some y := idx_ex ⟨by omega, by omega⟩
 have iha19 : b.bids[i]? = some a19 := by simpa using ha19
 have dha19 := drop_get iha19
 refine dw2 ⟨(P65 a a17 a19 b i), [(P38 a), (P39 b)]⟩ (oid Bid.cs b.bids (.s 81) (.s 82) 8 .i64 (i : Int) a19 (by omega) ha19) ?_
 refine dwl 2 [2, 3, 6, 85] ⟨(85, .v (.bool (!((a17.time == a19.time) && ((a17.phase == a19.phase) && (strEq a17.own a19.own && (strEq a17.value a19.value && ((a17.best.at_.time == a19.best.at_.time) && ((a17.best.at_.who == a19.best.at_.who) && (strEq a17.best.data a19.best.data && (((a17.heard.n : Int) == (a19.heard.n : Int)) && true))))))))))) :: (P59 i), [(P38 a), (P39 b)]⟩ ?_
 cases h20 : ((a17.time == a19.time) && ((a17.phase == a19.phase) && (strEq a17.own a19.own && (strEq a17.value a19.value && ((a17.best.at_.time == a19.best.at_.time) && ((a17.best.at_.who == a19.best.at_.who) && (strEq a17.best.data a19.best.data && (((a17.heard.n : Int) == (a19.heard.n : Int)) && true))))))))
 have g20 : ¬ (a17.time = a19.time ∧ a17.phase = a19.phase ∧ a17.own = a19.own ∧ a17.value = a19.value ∧ a17.best.at_.time = a19.best.at_.time ∧ a17.best.at_.who = a19.best.at_.who ∧ a17.best.data = a19.best.data ∧ (a17.heard.n : Int) = (a19.heard.n : Int)) := fun ⟨q0, q1, q2, q3, q4, q5, q6, q7⟩ => Bool.noConfusion ((show (((a17.time == a19.time) && ((a17.phase == a19.phase) && (strEq a17.own a19.own && (strEq a17.value a19.value && ((a17.best.at_.time == a19.best.at_.time) && ((a17.best.at_.who == a19.best.at_.who) && (strEq a17.best.data a19.best.data && (((a17.heard.n : Int) == (a19.heard.n : Int)) && true))))))))) = true by first | (simp [q0, q1, q2, q3, q4, q5, q6, q7, strEq_iff]; done) | (simp only [q0, q1, q2, q3, q4, q5, q6, q7, beq_self_eq_true, Bool.and_self, Bool.and_true, Bool.true_and]; done)).symm.trans h20)
 refine cnT ?_
 refine srl 1 [4] ⟨[(4, .v (.bool false))], [(P38 a), (P39 b)]⟩ ?_
 refine EL.ret ?_
 refine iR ?_
 refine tR ?_
 refine tR ?_
 refine iR ?_
 refine tR ?_
 refine rqe (.v (.bool false)) ?_
 rotate_left
 have g20 : a17.time = a19.time ∧ a17.phase = a19.phase ∧ a17.own = a19.own ∧ a17.value = a19.value ∧ a17.best.at_.time = a19.best.at_.time ∧ a17.best.at_.who = a19.best.at_.who ∧ a17.best.data = a19.best.data ∧ (a17.heard.n : Int) = (a19.heard.n : Int) := by simpa [strEq_iff] using h20
 refine cnF ?_
 refine EL.skip ?_
 refine iN ?_
 refine tN ?_
 refine EL.reg0 ?_
 refine owr 3 ⟨(6, VI (IntKind.i64.wrap ((i : Int) + 1))) :: (74, VI (IntKind.i64.wrap ((i : Int) + 1))) :: (P66 i), [(P38 a), (P39 b)]⟩ ?_
 have e21 := wr64 (n := (i : Int) + 1) (by omega)
 rw [e21]
 refine owe 0 ⟨(P67 i), [(P38 a), (P39 b)]⟩ ?_
 refine tN ?_
 refine rE (live := [2, 3, 6]) (src := [uf 0, uf 1]) (es := []) (y := (fun (i : Nat) => (⟨(P59 i), [(P38 a), (P39 b)]⟩ : L3)) (i + 1)) ?_ trivial ?_ ⟨(i + 1), rfl, ?_, rfl⟩
 kernel_rfl
 omega
 focus (first | (exact ⟨by omega, by omega, same_next hsi (by assumption) (by assumption) (by simp only [u64_eq, Seat.ext_iff, Bid.ext_iff, Copy.ext_iff, Stp.ext_iff, *, and_self, true_and] <;> omega)⟩))
 have g7 := of_decide_eq_true h7
 have n7 : ((k) < (List.length a.seats)) := by omega
 refine cnT ?_
 refine skn ?_
 refine EL.seq ?_
 refine EL.block ?_
 refine sdr 3 ⟨(P51 a k), [(P38 a), (P39 b)]⟩ ?_
 obtain ⟨a9, ha9⟩ : ∃ y, a.seats[((k : Int) : Int).toNat]? = some y := idx_ex ⟨by omega, by omega⟩
 have iha9 : a.seats[k]? = some a9 := by simpa using ha9
 have dha9 := drop_get iha9
 refine dw2 ⟨(P52 a a9 k), [(P38 a), (P39 b)]⟩ (oid Seat.cs a.seats (.s 58) (.s 59) 5 .i64 (k : Int) a9 (by omega) ha9) ?_
 refine dwr 4 ⟨(P54 a a9 b k), [(P38 a), (P39 b)]⟩ ?_
 obtain ⟨a11, ha11⟩ : ∃ y, b.seats[((k : Int) : Int).toNat]? = some y := idx_ex ⟨by omega, by omega⟩
 have iha11 : b.seats[k]? = some a11 := by simpa using ha11
 have dha11 := drop_get iha11
 refine dw2 ⟨(P55 a a11 a9 b k), [(P38 a), (P39 b)]⟩ (oid Seat.cs b.seats (.s 63) (.s 64) 5 .i64 (k : Int) a11 (by omega) ha11) ?_
 refine dwl 2 [2, 3, 5, 67] ⟨(67, .v (.bool (!((a9.promised.time == a11.promised.time) && ((a9.promised.who == a11.promised.who) && ((a9.kept.at_.time == a11.kept.at_.time) && ((a9.kept.at_.who == a11.kept.at_.who) && (strEq a9.kept.data a11.kept.data && true)))))))) :: (P49 k), [(P38 a), (P39 b)]⟩ ?_
 cases h12 : ((a9.promised.time == a11.promised.time) && ((a9.promised.who == a11.promised.who) && ((a9.kept.at_.time == a11.kept.at_.time) && ((a9.kept.at_.who == a11.kept.at_.who) && (strEq a9.kept.data a11.kept.data && true)))))
 have g12 : ¬ (a9.promised.time = a11.promised.time ∧ a9.promised.who = a11.promised.who ∧ a9.kept.at_.time = a11.kept.at_.time ∧ a9.kept.at_.who = a11.kept.at_.who ∧ a9.kept.data = a11.kept.data) := fun ⟨q0, q1, q2, q3, q4⟩ => Bool.noConfusion ((show (((a9.promised.time == a11.promised.time) && ((a9.promised.who == a11.promised.who) && ((a9.kept.at_.time == a11.kept.at_.time) && ((a9.kept.at_.who == a11.kept.at_.who) && (strEq a9.kept.data a11.kept.data && true)))))) = true by first | (simp [q0, q1, q2, q3, q4, strEq_iff]; done) | (simp only [q0, q1, q2, q3, q4, beq_self_eq_true, Bool.and_self, Bool.and_true, Bool.true_and]; done)).symm.trans h12)
 refine cnT ?_
 refine srl 1 [4] ⟨[(4, .v (.bool false))], [(P38 a), (P39 b)]⟩ ?_
 refine EL.ret ?_
 refine iR ?_
 refine tR ?_
 refine tR ?_
 refine iR ?_
 refine tR ?_
 refine rqe (.v (.bool false)) ?_
 rotate_left
 have g12 : a9.promised.time = a11.promised.time ∧ a9.promised.who = a11.promised.who ∧ a9.kept.at_.time = a11.kept.at_.time ∧ a9.kept.at_.who = a11.kept.at_.who ∧ a9.kept.data = a11.kept.data := by simpa [strEq_iff] using h12
 refine cnF ?_
 refine EL.skip ?_
 refine iN ?_
 refine tN ?_
 refine EL.reg0 ?_
 refine owr 3 ⟨(5, VI (IntKind.i64.wrap ((k : Int) + 1))) :: (56, VI (IntKind.i64.wrap ((k : Int) + 1))) :: (P56 k), [(P38 a), (P39 b)]⟩ ?_
 have e13 := wr64 (n := (k : Int) + 1) (by omega)
 rw [e13]
 refine owe 0 ⟨(P57 k), [(P38 a), (P39 b)]⟩ ?_
 refine tN ?_
 refine rE (live := [2, 3, 5]) (src := [uf 0, uf 1]) (es := []) (y := (fun (k : Nat) => (⟨(P49 k), [(P38 a), (P39 b)]⟩ : L3)) (k + 1)) ?_ trivial ?_ ⟨(k + 1), rfl, ?_, rfl⟩
 kernel_rfl
 omega
 focus (first | (exact ⟨by omega, by omega, same_next hsk (by assumption) (by assumption) (by simp only [u64_eq, Seat.ext_iff, Bid.ext_iff, Copy.ext_iff, Stp.ext_iff, *, and_self, true_and] <;> omega)⟩))
 have g4 := bnT h4
 have n4 : ¬ ((List.length a.bids) = (List.length b.bids)) := by omega
 refine owl 7 [2, 3, 49] ⟨P42, [(P38 a), (P39 b)]⟩ ?_
 refine cnT ?_
 refine srl 1 [4] ⟨[(4, .v (.bool false))], [(P38 a), (P39 b)]⟩ ?_
 refine rtr ?_
 refine rqe (.v (.bool false)) ?_
 rotate_left
 have g3 := bnT h3
 have n3 : ¬ ((List.length a.seats) = (List.length b.seats)) := by omega
 refine owl 16 [2, 3, 49] ⟨P42, [(P38 a), (P39 b)]⟩ ?_
 refine cnT ?_
 refine srl 1 [4] ⟨[(4, .v (.bool false))], [(P38 a), (P39 b)]⟩ ?_
 refine rtr ?_
 refine rqe (.v (.bool false)) ?_
 rotate_left
 have g2 := bnT h2
 refine owl 25 [2, 3, 49] ⟨P42, [(P38 a), (P39 b)]⟩ ?_
 refine cnT ?_
 refine srl 1 [4] ⟨[(4, .v (.bool false))], [(P38 a), (P39 b)]⟩ ?_
 refine rtr ?_
 refine rqe (.v (.bool false)) ?_
 rotate_left
 all_goals ((refine congrArg (fun b => AV.v (Value.bool b)) ?_; first | (rw [eq_comm, decide_eq_true_eq]; exact ⟨of_decide_eq_true (by assumption), by assumption, same_all hls (fun j hj => hsk j (by omega)), same_all hlb (fun j hj => hsi j (by omega)), of_decide_eq_true (by assumption)⟩) | (rw [eq_comm, decide_eq_false_iff_not]; rintro ⟨e1, e2, e3, e4, e5⟩; first | contradiction | (exact absurd e1 (of_decide_eq_false (by assumption))) | (exact absurd e5 (of_decide_eq_false (by assumption))) | (have e6 := congrArg List.length e3; have e7 := congrArg List.length e4; omega) | (have e8 := same_not ‹a.seats[k]? = some _› ‹b.seats[k]? = some _› e3; subst e8; simp at *; done) | (have e8 := same_not ‹a.bids[i]? = some _› ‹b.bids[i]? = some _› e4; subst e8; simp at *; done))))
theorem Syn.new_big {v : Vtr} (h : v.weights.length ≤ 9223372036854775807) : (Syn.newP v).1.Big := by
  unfold Syn.newP
  split
  · exact (Syn.new_ok ‹_›).big
  · exact Syn.zero_big
theorem Syn.run_cases (s : Syn) (l : List Step) : (s.runP l).2.2 = 0 ∧ s.Ok ∧ l.length ≤ 200 ∧ s.runP l = ((s.runGo l 0).1, (s.runGo l 0).2, 0) ∧ (s.runP l).1.Ok ∨ (s.runP l).2.2 ≠ 0 ∧ (s.runP l).1 = Syn.zero ∧ (s.runP l).2.1 = 0 := by
  by_cases h : s.checkE = 0
  · by_cases h2 : 200 < l.length
    · rw [Syn.runP_2 h h2]; right; simp
    · rw [Syn.runP_0 h h2]; left; exact ⟨rfl, Syn.check_0 h, by omega, rfl, (Syn.run_go l 0 (Syn.check_0 h)).2⟩
  · rw [Syn.runP_n h]; right; exact ⟨h, rfl, rfl⟩
theorem Syn.run_big (s : Syn) (l : List Step) : (s.runP l).1.Big := by
  rcases Syn.run_cases s l with ⟨_, _, _, _, h⟩ | ⟨_, h, _⟩
  · exact h.big
  · rw [h]; exact Syn.zero_big
theorem Syn.many_zero {s : Syn} (h : s.manyP.2 ≠ 0) : s.manyP.1 = Syn.zero := by
  unfold Syn.manyP at h ⊢
  split at h
  · rename_i h1; rw [if_pos h1]
  · exact absurd rfl h
theorem Syn.bid_zero {s : Syn} {t : Int} {d : ByteArray} (h : (s.bidP t d).2 ≠ 0) : (s.bidP t d).1 = Syn.zero := by
  unfold Syn.bidP at h ⊢
  by_cases h1 : s.bids.length = 31
  · rw [if_pos h1]
  · rw [if_neg h1] at h ⊢
    by_cases h2 : (beginP s.voters s.bids.length t d).2.2 ≠ 0
    · rw [if_pos h2]
    · rw [if_neg h2] at h ⊢; exact Syn.many_zero h
theorem Syn.step_zero {s : Syn} {k n : Int} {d : ByteArray} (h : (s.stepP k n d).2 ≠ 0) : (s.stepP k n d).1 = Syn.zero := by
  unfold Syn.stepP at h ⊢
  by_cases h1 : ¬ (3 ≤ k ∧ k ≤ 6)
  · rw [if_pos h1]
  · rw [if_neg h1] at h ⊢
    by_cases h2 : k ≠ 6 ∧ d.size ≠ 0
    · rw [if_pos h2]
    · rw [if_neg h2] at h ⊢
      by_cases h3 : k = 6
      · rw [if_pos h3] at h ⊢; exact Syn.bid_zero h
      · rw [if_neg h3] at h ⊢
        by_cases h4 : ¬ (0 ≤ n ∧ n < s.votes.length)
        · rw [if_pos h4]
        · rw [if_neg h4] at h ⊢
          cases hv : s.votes[n.toNat]? with
          | none => rfl
          | some v =>
            rw [hv] at h
            dsimp only at h ⊢
            split
            · rename_i h5; rw [if_pos h5] at h; exact Syn.many_zero h
            · rename_i h5; rw [if_neg h5] at h
              split
              · rename_i h6; rw [if_pos h6] at h; exact Syn.many_zero h
              · rename_i h6; rw [if_neg h6] at h; exact Syn.many_zero h
theorem Syn.do_cases (s : Syn) (k n : Int) (d : ByteArray) : (s.doP k n d).2 = 0 ∧ s.Ok ∧ s.doP k n d = s.stepP k n d ∧ (s.doP k n d).1.Ok ∨ (s.doP k n d).2 ≠ 0 ∧ (s.doP k n d).1 = Syn.zero := by
  by_cases h : s.checkE = 0
  · rw [Syn.doP_0 h]
    by_cases h2 : (s.stepP k n d).2 = 0
    · exact .inl ⟨h2, Syn.check_0 h, rfl, Syn.step_ok (Syn.check_0 h) h2⟩
    · exact .inr ⟨h2, Syn.step_zero h2⟩
  · rw [Syn.doP_n h]; exact .inr ⟨h, rfl⟩
theorem Syn.do_big (s : Syn) (k n : Int) (d : ByteArray) : (s.doP k n d).1.Big := by
  rcases Syn.do_cases s k n d with ⟨_, _, _, h⟩ | ⟨_, h⟩
  · exact h.big
  · rw [h]; exact Syn.zero_big
def Syn.satP (v : Vtr) (l : List Step) : Syn × Bool :=
  if (Syn.newP v).2 = 0 then (((Syn.newP v).1.runP l).1, ((Syn.newP v).1.runP l).2.2 == 0) else ((Syn.newP v).1, false)
theorem Syn.sat_big {v : Vtr} {l : List Step} (h : v.weights.length ≤ 9223372036854775807) : (Syn.satP v l).1.Big := by
  unfold Syn.satP
  split
  · exact Syn.run_big _ _
  · exact Syn.new_big h
section
variable (l : List Step) (v : Vtr)
end
section
variable (k : Nat) (n : Int) (out : List Step)
abbrev T17 : LS := [(0, VI n), (3, .own 0 3 0 (List.length out)), (4, VI (k : Int))]
abbrev T18 : AV := .agg [VI 3, VI 0, .v (.string (⟨#[]⟩))]
abbrev T19 : OB := some ⟨3, [[VI 3, VI 0, .v (.string (⟨#[]⟩))]]⟩
abbrev T20 : LB := [some ⟨3, (out.map Step.cs)⟩, T19]
abbrev T21 : LS := (12, .own 1 3 0 1) :: (11, T18) :: (10, .own 0 3 0 (List.length out)) :: (7, .v (.bool true)) :: (T17 k n out)
abbrev T22 : OB := some ⟨3, ((out ++ ([(⟨3, 0, ⟨#[]⟩⟩ : Step)])).map Step.cs)⟩
abbrev T23 : LS := (13, .own 2 3 0 (List.length (out ++ ([(⟨3, 0, ⟨#[]⟩⟩ : Step)])))) :: (T21 k n out)
abbrev T24 : LS := [(3, .own 2 3 0 (List.length (out ++ ([(⟨3, 0, ⟨#[]⟩⟩ : Step)])))), (13, .own 2 3 0 (List.length (out ++ ([(⟨3, 0, ⟨#[]⟩⟩ : Step)])))), (12, .own 1 3 0 1), (11, T18), (10, .own 0 3 0 (List.length out)), (7, .v (.bool true)), (0, VI n), (4, VI (k : Int))]
abbrev T25 : LS := [(8, VI (k : Int)), (3, .own 2 3 0 (List.length (out ++ ([(⟨3, 0, ⟨#[]⟩⟩ : Step)])))), (13, .own 2 3 0 (List.length (out ++ ([(⟨3, 0, ⟨#[]⟩⟩ : Step)])))), (12, .own 1 3 0 1), (11, T18), (10, .own 0 3 0 (List.length out)), (7, .v (.bool true)), (0, VI n)]
abbrev T26 : LS := (4, VI ((k : Int) + 1)) :: (9, VI ((k : Int) + 1)) :: (T25 k n out)
end
theorem passes_fo (n : Int) (hn : 0 ≤ n ∧ n ≤ 1000) : Fo Tryd.prog 35 [VI n] 3 ((List.replicate (Int.toNat n) (⟨3, 0, ⟨#[]⟩⟩ : Step)).map Step.cs) := by
 refine fo_of ?_
 rw [List.length_map]
 refine fV (m := []) (m' := [some ⟨3, ((List.replicate (Int.toNat n) (⟨3, 0, ⟨#[]⟩⟩ : Step)).map Step.cs)⟩]) F35_ok (of_decide_eq_true (by kernel_rfl)) ?_
 refine srl 1 [0] ⟨[(0, VI n)], []⟩ ?_
 refine srl 1 [0, 3] ⟨[(3, .emp), (0, VI n)], []⟩ ?_
 refine EL.seq ?_
 refine srl 1 [0, 3, 4] ⟨[(4, VI 0), (3, .emp), (0, VI n)], []⟩ ?_
 refine EL.block ?_
 refine EL.loopN (fun mM xX => ∃ (k : Nat) (out : List Step), mM = n.toNat - k ∧ (k ≤ n.toNat ∧ out = List.replicate k (⟨3, 0, ⟨#[]⟩⟩ : Step)) ∧ xX = ⟨(T17 k n out), [some ⟨3, (out.map Step.cs)⟩]⟩) (y := (fun (k : Nat) (out : List Step) => (⟨(T17 k n out), [some ⟨3, (out.map Step.cs)⟩]⟩ : L3)) 0 []) [0, 3, 4] [.new 3] [(3, 0)] (by kernel_rfl) trivial ⟨0, [], rfl, by simp, rfl⟩ ?_
 rintro _ _ ⟨k, out, rfl, hI1, rfl⟩
 obtain ⟨hk, ho⟩ := hI1
 have hol : out.length = k := by rw [ho]; simp
 refine EL.seq ?_
 refine srl 3 [0, 3, 4, 7] ⟨(7, .v (.bool (decide ((k : Int) < n)))) :: (T17 k n out), [some ⟨3, (out.map Step.cs)⟩]⟩ ?_
 cases h2 : (decide ((k : Int) < n))
 have g2 := of_decide_eq_false h2
 refine cnF ?_
 refine EL.exit ?_
 refine tX ?_
 refine tX ?_
 refine iH ?_
 refine tN ?_
 refine srl 2 [2] ⟨[(2, .own 0 3 0 (List.length out))], [some ⟨3, (out.map Step.cs)⟩]⟩ ?_
 refine EL.ret ?_
 (have hkn : k = n.toNat := (by omega)); rw [hkn] at ho; rw [← ho]
 exact fne [2] [ut 0] ⟨[(2, .own 0 3 0 (List.length out))], [some ⟨3, (out.map Step.cs)⟩]⟩ ⟨pq 3 Step.cs out, trivial⟩
 have g2 := of_decide_eq_true h2
 refine cnT ?_
 refine skn ?_
 refine EL.seq ?_
 refine EL.block ?_
 refine EL.reg0 ?_
 refine owr 3 ⟨(T21 k n out), (T20 out)⟩ ?_
 refine ow2 ⟨(T23 k n out), [none, T19, (T22 out)]⟩ (oap Step.cs out ([(⟨3, 0, ⟨#[]⟩⟩ : Step)]) (.s 10) (.s 12) 3 32 0 (.own 1 3 0 1) (.own (els := [[VI 3, VI 0, .v (.string (⟨#[]⟩))]]) (by kernel_rfl) (by kernel_rfl) (of_decide_eq_true (by kernel_rfl))) (by simp; omega)) ?_
 refine owe 1 ⟨(T24 k n out), [none, T19, (T22 out)]⟩ ?_
 refine iN ?_
 refine tN ?_
 refine EL.reg0 ?_
 refine owr 3 ⟨(4, VI (IntKind.i64.wrap ((k : Int) + 1))) :: (9, VI (IntKind.i64.wrap ((k : Int) + 1))) :: (T25 k n out), [none, T19, (T22 out)]⟩ ?_
 have e3 := wr64 (n := (k : Int) + 1) (by omega)
 rw [e3]
 refine owe 0 ⟨(T26 k n out), [none, T19, (T22 out)]⟩ ?_
 refine tN ?_
 refine rE (live := [0, 3, 4]) (src := [ut 2]) (es := []) (y := (fun (k : Nat) (out : List Step) => (⟨(T17 k n out), [some ⟨3, (out.map Step.cs)⟩]⟩ : L3)) (k + 1) (out ++ ([(⟨3, 0, ⟨#[]⟩⟩ : Step)]))) ?_ ⟨pq 3 Step.cs (out ++ ([(⟨3, 0, ⟨#[]⟩⟩ : Step)])), trivial⟩ ?_ ⟨(k + 1), (out ++ ([(⟨3, 0, ⟨#[]⟩⟩ : Step)])), rfl, ?_, rfl⟩
 kernel_rfl
 omega
 focus (refine ⟨by omega, ?_⟩; rw [ho, List.replicate_succ'])
abbrev T27 : Vtr := (⟨[1, 1, 1], 2⟩ : Vtr)
abbrev T28 : AV := .agg [.lst 1 (T27.weights.map cI), VI T27.need]
abbrev T29 : AV := .agg [.lst 1 (((((Syn.newP T27).1).voters).weights).map cI), VI ((((Syn.newP T27).1).voters).need), .lst 5 ((((Syn.newP T27).1).seats).map Seat.cs), .lst 8 ((((Syn.newP T27).1).bids).map Bid.cs), .lst 6 ((((Syn.newP T27).1).votes).map Vote.cs)]
abbrev T30 : OB := some ⟨5, [[.lst 1 (((((Syn.newP T27).1).voters).weights).map cI), VI ((((Syn.newP T27).1).voters).need), .lst 5 ((((Syn.newP T27).1).seats).map Seat.cs), .lst 8 ((((Syn.newP T27).1).bids).map Bid.cs), .lst 6 ((((Syn.newP T27).1).votes).map Vote.cs)]]⟩
abbrev T31 : AV := .agg [VI 6, VI 1, .v (.string (⟨#[97]⟩))]
abbrev T32 : OB := some ⟨3, [[VI 6, VI 1, .v (.string (⟨#[97]⟩))]]⟩
abbrev T33 : LS := [(15, .own 1 3 0 1), (14, T31), (2, VI ((Syn.newP T27).2)), (1, .ref 0 5 0 0)]
abbrev T34 : OB := some ⟨3, ((List.replicate (Int.toNat 12) (⟨3, 0, ⟨#[]⟩⟩ : Step)).map Step.cs)⟩
abbrev T35 : LS := (16, .own 2 3 0 (List.length (List.replicate (Int.toNat 12) (⟨3, 0, ⟨#[]⟩⟩ : Step)))) :: T33
abbrev T36 : OB := some ⟨3, ((([(⟨6, 1, ⟨#[97]⟩⟩ : Step)]) ++ (List.replicate (Int.toNat 12) (⟨3, 0, ⟨#[]⟩⟩ : Step))).map Step.cs)⟩
abbrev T37 : LS := (17, .own 3 3 0 (List.length (([(⟨6, 1, ⟨#[97]⟩⟩ : Step)]) ++ (List.replicate (Int.toNat 12) (⟨3, 0, ⟨#[]⟩⟩ : Step))))) :: T35
abbrev T38 : LS := [(3, .own 3 3 0 (List.length (([(⟨6, 1, ⟨#[97]⟩⟩ : Step)]) ++ (List.replicate (Int.toNat 12) (⟨3, 0, ⟨#[]⟩⟩ : Step))))), (2, VI ((Syn.newP T27).2)), (1, .ref 0 5 0 0)]
abbrev T39 : AV := .agg [VI 6, VI 5, .v (.string (⟨#[98]⟩))]
abbrev T40 : OB := some ⟨3, [[VI 6, VI 5, .v (.string (⟨#[98]⟩))]]⟩
abbrev T41 : LS := (22, .own 4 3 0 1) :: (21, T39) :: (20, .own 3 3 0 (List.length (([(⟨6, 1, ⟨#[97]⟩⟩ : Step)]) ++ (List.replicate (Int.toNat 12) (⟨3, 0, ⟨#[]⟩⟩ : Step))))) :: (19, T29) :: T38
abbrev T42 : OB := some ⟨3, (((([(⟨6, 1, ⟨#[97]⟩⟩ : Step)]) ++ (List.replicate (Int.toNat 12) (⟨3, 0, ⟨#[]⟩⟩ : Step))) ++ ([(⟨6, 5, ⟨#[98]⟩⟩ : Step)])).map Step.cs)⟩
abbrev T43 : LB := [T30, none, T34, none, T40, T42]
abbrev T44 : LS := (23, .own 5 3 0 (List.length ((([(⟨6, 1, ⟨#[97]⟩⟩ : Step)]) ++ (List.replicate (Int.toNat 12) (⟨3, 0, ⟨#[]⟩⟩ : Step))) ++ ([(⟨6, 5, ⟨#[98]⟩⟩ : Step)])))) :: T41
abbrev T45 : LB := [T30, none, T34, none, T40, T42, T34]
abbrev T46 : LS := (24, .own 6 3 0 (List.length (List.replicate (Int.toNat 12) (⟨3, 0, ⟨#[]⟩⟩ : Step)))) :: T44
abbrev T47 : OB := some ⟨3, ((((([(⟨6, 1, ⟨#[97]⟩⟩ : Step)]) ++ (List.replicate (Int.toNat 12) (⟨3, 0, ⟨#[]⟩⟩ : Step))) ++ ([(⟨6, 5, ⟨#[98]⟩⟩ : Step)])) ++ (List.replicate (Int.toNat 12) (⟨3, 0, ⟨#[]⟩⟩ : Step))).map Step.cs)⟩
abbrev T48 : LB := [T30, none, T34, none, T40, none, T34, T47]
abbrev T49 : LS := (25, .own 7 3 0 (List.length (((([(⟨6, 1, ⟨#[97]⟩⟩ : Step)]) ++ (List.replicate (Int.toNat 12) (⟨3, 0, ⟨#[]⟩⟩ : Step))) ++ ([(⟨6, 5, ⟨#[98]⟩⟩ : Step)])) ++ (List.replicate (Int.toNat 12) (⟨3, 0, ⟨#[]⟩⟩ : Step))))) :: T46
abbrev T50 : Syn := (((Syn.newP T27).1).runP (((([(⟨6, 1, ⟨#[97]⟩⟩ : Step)]) ++ (List.replicate (Int.toNat 12) (⟨3, 0, ⟨#[]⟩⟩ : Step))) ++ ([(⟨6, 5, ⟨#[98]⟩⟩ : Step)])) ++ (List.replicate (Int.toNat 12) (⟨3, 0, ⟨#[]⟩⟩ : Step)))).1
abbrev T51 : AV := .agg [.lst 1 (T50.voters.weights.map cI), VI T50.voters.need, .lst 5 (T50.seats.map Seat.cs), .lst 8 (T50.bids.map Bid.cs), .lst 6 (T50.votes.map Vote.cs)]
abbrev T52 : LB := [T30, none, T34, none, T40, none, T34, none]
abbrev T53 : LS := (26, .tup [T51, VI ((((Syn.newP T27).1).runP (((([(⟨6, 1, ⟨#[97]⟩⟩ : Step)]) ++ (List.replicate (Int.toNat 12) (⟨3, 0, ⟨#[]⟩⟩ : Step))) ++ ([(⟨6, 5, ⟨#[98]⟩⟩ : Step)])) ++ (List.replicate (Int.toNat 12) (⟨3, 0, ⟨#[]⟩⟩ : Step)))).2.1), VI ((((Syn.newP T27).1).runP (((([(⟨6, 1, ⟨#[97]⟩⟩ : Step)]) ++ (List.replicate (Int.toNat 12) (⟨3, 0, ⟨#[]⟩⟩ : Step))) ++ ([(⟨6, 5, ⟨#[98]⟩⟩ : Step)])) ++ (List.replicate (Int.toNat 12) (⟨3, 0, ⟨#[]⟩⟩ : Step)))).2.2)]) :: T49
abbrev T54 : OB := some ⟨5, [[.lst 1 (T50.voters.weights.map cI), VI T50.voters.need, .lst 5 (T50.seats.map Seat.cs), .lst 8 (T50.bids.map Bid.cs), .lst 6 (T50.votes.map Vote.cs)]]⟩
abbrev T55 : LB := [T30, none, T34, none, T40, none, T34, none, T54]
abbrev T56 : LS := [(6, VI ((((Syn.newP T27).1).runP (((([(⟨6, 1, ⟨#[97]⟩⟩ : Step)]) ++ (List.replicate (Int.toNat 12) (⟨3, 0, ⟨#[]⟩⟩ : Step))) ++ ([(⟨6, 5, ⟨#[98]⟩⟩ : Step)])) ++ (List.replicate (Int.toNat 12) (⟨3, 0, ⟨#[]⟩⟩ : Step)))).2.2)), (5, VI ((((Syn.newP T27).1).runP (((([(⟨6, 1, ⟨#[97]⟩⟩ : Step)]) ++ (List.replicate (Int.toNat 12) (⟨3, 0, ⟨#[]⟩⟩ : Step))) ++ ([(⟨6, 5, ⟨#[98]⟩⟩ : Step)])) ++ (List.replicate (Int.toNat 12) (⟨3, 0, ⟨#[]⟩⟩ : Step)))).2.1)), (4, .ref 8 5 0 0), (2, VI ((Syn.newP T27).2)), (1, .ref 0 5 0 0)]
abbrev T57 : AV := .agg [VI 1, VI 0, .v (.string (⟨#[]⟩))]
abbrev T58 : Syn := (((Syn.newP T27).1).doP (⟨1, 0, ⟨#[]⟩⟩ : Step).kind (⟨1, 0, ⟨#[]⟩⟩ : Step).n (⟨1, 0, ⟨#[]⟩⟩ : Step).data).1
abbrev T59 : AV := .agg [.lst 1 (T58.voters.weights.map cI), VI T58.voters.need, .lst 5 (T58.seats.map Seat.cs), .lst 8 (T58.bids.map Bid.cs), .lst 6 (T58.votes.map Vote.cs)]
abbrev T60 : LS := (33, .tup [T59, VI ((((Syn.newP T27).1).doP (⟨1, 0, ⟨#[]⟩⟩ : Step).kind (⟨1, 0, ⟨#[]⟩⟩ : Step).n (⟨1, 0, ⟨#[]⟩⟩ : Step).data).2)]) :: (32, T57) :: (31, T29) :: T56
abbrev T61 : OB := some ⟨5, [[.lst 1 (T58.voters.weights.map cI), VI T58.voters.need, .lst 5 (T58.seats.map Seat.cs), .lst 8 (T58.bids.map Bid.cs), .lst 6 (T58.votes.map Vote.cs)]]⟩
abbrev T62 : LB := [T30, none, T34, none, T40, none, T34, none, T54, T61]
abbrev T63 : LS := (8, VI ((((Syn.newP T27).1).doP (⟨1, 0, ⟨#[]⟩⟩ : Step).kind (⟨1, 0, ⟨#[]⟩⟩ : Step).n (⟨1, 0, ⟨#[]⟩⟩ : Step).data).2)) :: T56
abbrev T64 : LS := (39, VI ((((Syn.newP T27).1).runP (((([(⟨6, 1, ⟨#[97]⟩⟩ : Step)]) ++ (List.replicate (Int.toNat 12) (⟨3, 0, ⟨#[]⟩⟩ : Step))) ++ ([(⟨6, 5, ⟨#[98]⟩⟩ : Step)])) ++ (List.replicate (Int.toNat 12) (⟨3, 0, ⟨#[]⟩⟩ : Step)))).2.2)) :: (38, .v (.bool true)) :: (37, .v (.bool true)) :: (36, VI ((Syn.newP T27).2)) :: T63
abbrev T65 : LS := (43, VI ((((Syn.newP T27).1).runP (((([(⟨6, 1, ⟨#[97]⟩⟩ : Step)]) ++ (List.replicate (Int.toNat 12) (⟨3, 0, ⟨#[]⟩⟩ : Step))) ++ ([(⟨6, 5, ⟨#[98]⟩⟩ : Step)])) ++ (List.replicate (Int.toNat 12) (⟨3, 0, ⟨#[]⟩⟩ : Step)))).2.1)) :: (42, .v (.bool true)) :: (41, .v (.bool true)) :: (40, .v (.bool true)) :: T64
abbrev T66 : LS := (48, .lst 8 (T50.bids.map Bid.cs)) :: (47, .ref 8 5 0 3) :: (46, .v (.bool true)) :: (45, .v (.bool true)) :: (44, .v (.bool true)) :: T65
abbrev T67 : Bid := List.getD T50.bids (Int.toNat 0) (⟨0, 0, ⟨#[]⟩, ⟨#[]⟩, (⟨(⟨0, 0⟩ : Stp), ⟨#[]⟩⟩ : Copy), ⟨0, by decide⟩⟩ : Bid)
abbrev T68 : LS := (54, .lst 8 (T50.bids.map Bid.cs)) :: (53, .ref 8 5 0 3) :: (52, .v (.bool true)) :: (51, .v (.bool true)) :: (50, .v (.bool true)) :: (49, VI (List.length T50.bids : Int)) :: T66
abbrev T69 : LS := (55, .pim [VI T67.time, VI T67.phase, .v (.string T67.own), .v (.string T67.value), VI T67.best.at_.time, VI T67.best.at_.who, .v (.string T67.best.data), .v (.int .u64 (T67.heard.n : Int))] 0) :: T68
abbrev T70 : LS := (57, VI T67.phase) :: (56, .pim [VI T67.time, VI T67.phase, .v (.string T67.own), .v (.string T67.value), VI T67.best.at_.time, VI T67.best.at_.who, .v (.string T67.best.data), .v (.int .u64 (T67.heard.n : Int))] 1) :: T69
abbrev T71 : Bid := List.getD T50.bids (Int.toNat 1) (⟨0, 0, ⟨#[]⟩, ⟨#[]⟩, (⟨(⟨0, 0⟩ : Stp), ⟨#[]⟩⟩ : Copy), ⟨0, by decide⟩⟩ : Bid)
abbrev T72 : LS := (62, .lst 8 (T50.bids.map Bid.cs)) :: (61, .ref 8 5 0 3) :: (60, .v (.bool true)) :: (59, .v (.bool true)) :: (58, .v (.bool true)) :: T70
abbrev T73 : LS := (63, .pim [VI T71.time, VI T71.phase, .v (.string T71.own), .v (.string T71.value), VI T71.best.at_.time, VI T71.best.at_.who, .v (.string T71.best.data), .v (.int .u64 (T71.heard.n : Int))] 0) :: T72
abbrev T74 : LS := (65, VI T71.phase) :: (64, .pim [VI T71.time, VI T71.phase, .v (.string T71.own), .v (.string T71.value), VI T71.best.at_.time, VI T71.best.at_.who, .v (.string T71.best.data), .v (.int .u64 (T71.heard.n : Int))] 1) :: T73
abbrev T75 : LS := (70, .lst 8 (T50.bids.map Bid.cs)) :: (69, .ref 8 5 0 3) :: (68, .v (.bool true)) :: (67, .v (.bool true)) :: (66, .v (.bool true)) :: T74
abbrev T76 : LS := (71, .pim [VI T71.time, VI T71.phase, .v (.string T71.own), .v (.string T71.value), VI T71.best.at_.time, VI T71.best.at_.who, .v (.string T71.best.data), .v (.int .u64 (T71.heard.n : Int))] 0) :: T75
abbrev T77 : LS := (73, .v (.string T71.value)) :: (72, .pim [VI T71.time, VI T71.phase, .v (.string T71.own), .v (.string T71.value), VI T71.best.at_.time, VI T71.best.at_.who, .v (.string T71.best.data), .v (.int .u64 (T71.heard.n : Int))] 3) :: T76
abbrev T78 : LS := (78, .lst 6 (T50.votes.map Vote.cs)) :: (77, .ref 8 5 0 4) :: (76, .v (.bool true)) :: (75, .v (.bool true)) :: (74, .v (.bool true)) :: T77
abbrev T79 : LS := (83, VI ((((Syn.newP T27).1).doP (⟨1, 0, ⟨#[]⟩⟩ : Step).kind (⟨1, 0, ⟨#[]⟩⟩ : Step).n (⟨1, 0, ⟨#[]⟩⟩ : Step).data).2)) :: (82, .v (.bool true)) :: (81, .v (.bool true)) :: (80, .v (.bool true)) :: (79, VI (List.length T50.votes : Int)) :: T78
abbrev T80 : LS := (87, T29) :: (86, .v (.bool true)) :: (85, .v (.bool true)) :: (84, .v (.bool true)) :: T79
theorem sbegun_fn : Fn Tryd.prog 16 [] (.v (.bool true)) := by
 refine fnw F16_ok ?_
 refine srl 1 [] ⟨[], []⟩ ?_
 refine EL.sreg ?_
 refine owg [] ⟨[(10, T28)], []⟩ (three_fn) ?_
 refine owg [T28] ⟨[(11, .tup [T29, VI ((Syn.newP T27).2)]), (10, T28)], []⟩ (new_fn T27 (by first | assumption | decide)) ?_
 refine owl 6 [1, 2] ⟨[(2, VI ((Syn.newP T27).2)), (1, .ref 0 5 0 0)], [T30]⟩ ?_
 refine srr 2 ⟨T33, [T30, T32]⟩ ?_
 refine OW.fo (ar := [VI 12]) (fe := Step.cs) (xs := (List.replicate (Int.toNat 12) (⟨3, 0, ⟨#[]⟩⟩ : Step))) (x' := ⟨T35, [T30, T32, T34]⟩) (by kernel_rfl) (by kernel_rfl) F35_call (passes_fo 12 (by first | omega | decide)) (by intro y; kernel_rfl) (by kernel_rfl) (by kernel_rfl) ?_
 refine ow2 ⟨T37, [T30, none, T34, T36]⟩ (oap Step.cs ([(⟨6, 1, ⟨#[97]⟩⟩ : Step)]) (List.replicate (Int.toNat 12) (⟨3, 0, ⟨#[]⟩⟩ : Step)) (.s 15) (.s 16) 3 32 1 (.own 2 3 0 (List.length (List.replicate (Int.toNat 12) (⟨3, 0, ⟨#[]⟩⟩ : Step)))) (.own (els := ((List.replicate (Int.toNat 12) (⟨3, 0, ⟨#[]⟩⟩ : Step)).map Step.cs)) (by kernel_rfl) (by simp) (by simp)) (by first | (simp; done) | (simp; omega))) ?_
 refine owl 1 [1, 2, 3] ⟨T38, [T30, none, T34, T36]⟩ ?_
 refine sdr 4 ⟨T41, [T30, none, T34, T36, T40]⟩ ?_
 refine dw2 ⟨T44, T43⟩ (oap Step.cs (([(⟨6, 1, ⟨#[97]⟩⟩ : Step)]) ++ (List.replicate (Int.toNat 12) (⟨3, 0, ⟨#[]⟩⟩ : Step))) ([(⟨6, 5, ⟨#[98]⟩⟩ : Step)]) (.s 20) (.s 22) 3 32 3 (.own 4 3 0 1) (.own (els := [[VI 6, VI 5, .v (.string (⟨#[98]⟩))]]) (by kernel_rfl) (by kernel_rfl) (of_decide_eq_true (by kernel_rfl))) (by first | (simp; done) | (simp; omega))) ?_
 refine DW.fo (ar := [VI 12]) (fe := Step.cs) (xs := (List.replicate (Int.toNat 12) (⟨3, 0, ⟨#[]⟩⟩ : Step))) (x' := ⟨T46, T45⟩) (by kernel_rfl) (by kernel_rfl) F35_call (passes_fo 12 (by first | omega | decide)) (by intro y; kernel_rfl) (by kernel_rfl) (by kernel_rfl) ?_
 refine dw2 ⟨T49, T48⟩ (oap Step.cs ((([(⟨6, 1, ⟨#[97]⟩⟩ : Step)]) ++ (List.replicate (Int.toNat 12) (⟨3, 0, ⟨#[]⟩⟩ : Step))) ++ ([(⟨6, 5, ⟨#[98]⟩⟩ : Step)])) (List.replicate (Int.toNat 12) (⟨3, 0, ⟨#[]⟩⟩ : Step)) (.s 23) (.s 24) 3 32 5 (.own 6 3 0 (List.length (List.replicate (Int.toNat 12) (⟨3, 0, ⟨#[]⟩⟩ : Step)))) (.own (els := ((List.replicate (Int.toNat 12) (⟨3, 0, ⟨#[]⟩⟩ : Step)).map Step.cs)) (by kernel_rfl) (by simp) (by simp)) (by first | (simp; done) | (simp; omega))) ?_
 refine DW.fn (ar := [T29, .own 7 3 0 (List.length (((([(⟨6, 1, ⟨#[97]⟩⟩ : Step)]) ++ (List.replicate (Int.toNat 12) (⟨3, 0, ⟨#[]⟩⟩ : Step))) ++ ([(⟨6, 5, ⟨#[98]⟩⟩ : Step)])) ++ (List.replicate (Int.toNat 12) (⟨3, 0, ⟨#[]⟩⟩ : Step))))]) (x' := ⟨T53, T52⟩) (by kernel_rfl) (by kernel_rfl) F20_call (run_fn ((Syn.newP T27).1) (((([(⟨6, 1, ⟨#[97]⟩⟩ : Step)]) ++ (List.replicate (Int.toNat 12) (⟨3, 0, ⟨#[]⟩⟩ : Step))) ++ ([(⟨6, 5, ⟨#[98]⟩⟩ : Step)])) ++ (List.replicate (Int.toNat 12) (⟨3, 0, ⟨#[]⟩⟩ : Step))) (by first | assumption | exact Syn.new_big (by first | assumption | decide) | exact Syn.run_big _ _ | exact Syn.do_big _ _ _ _ | exact Syn.sat_big (by assumption) | exact Syn.zero_big | exact Syn.Ok.big (by assumption)) (by first | omega | decide | (simp; omega))) (sA (by kernel_rfl) (sA (snapA_map Step.cs (((([(⟨6, 1, ⟨#[97]⟩⟩ : Step)]) ++ (List.replicate (Int.toNat 12) (⟨3, 0, ⟨#[]⟩⟩ : Step))) ++ ([(⟨6, 5, ⟨#[98]⟩⟩ : Step)])) ++ (List.replicate (Int.toNat 12) (⟨3, 0, ⟨#[]⟩⟩ : Step))) (by kernel_rfl) (by intro y; kernel_rfl) (by simp)) (snapAs_nil))) (by kernel_rfl) ?_
 refine dwl 8 [1, 2, 4, 5, 6] ⟨T56, T55⟩ ?_
 refine srr 2 ⟨(32, T57) :: (31, T29) :: T56, T55⟩ ?_
 refine owg [T29, T57] ⟨T60, T55⟩ (do_fn ((Syn.newP T27).1) (⟨1, 0, ⟨#[]⟩⟩ : Step) (by first | assumption | exact Syn.new_big (by first | assumption | decide) | exact Syn.run_big _ _ | exact Syn.do_big _ _ _ _ | exact Syn.sat_big (by assumption) | exact Syn.zero_big | exact Syn.Ok.big (by assumption))) ?_
 refine owl 6 [1, 2, 4, 5, 6, 8] ⟨T63, T62⟩ ?_
 refine srr 3 ⟨(38, .v (.bool (((Syn.newP T27).2) == 0))) :: (37, .v (.bool (((Syn.newP T27).2) == 0))) :: (36, VI ((Syn.newP T27).2)) :: T63, T62⟩ ?_
 have h1 : (((Syn.newP T27).2) == 0) = true := by first | kernel_rfl | decide
 rw [h1]
 refine owr 4 ⟨(42, .v (.bool (((((Syn.newP T27).1).runP (((([(⟨6, 1, ⟨#[97]⟩⟩ : Step)]) ++ (List.replicate (Int.toNat 12) (⟨3, 0, ⟨#[]⟩⟩ : Step))) ++ ([(⟨6, 5, ⟨#[98]⟩⟩ : Step)])) ++ (List.replicate (Int.toNat 12) (⟨3, 0, ⟨#[]⟩⟩ : Step)))).2.2) == 0))) :: (41, .v (.bool (((((Syn.newP T27).1).runP (((([(⟨6, 1, ⟨#[97]⟩⟩ : Step)]) ++ (List.replicate (Int.toNat 12) (⟨3, 0, ⟨#[]⟩⟩ : Step))) ++ ([(⟨6, 5, ⟨#[98]⟩⟩ : Step)])) ++ (List.replicate (Int.toNat 12) (⟨3, 0, ⟨#[]⟩⟩ : Step)))).2.2) == 0))) :: (40, .v (.bool (((((Syn.newP T27).1).runP (((([(⟨6, 1, ⟨#[97]⟩⟩ : Step)]) ++ (List.replicate (Int.toNat 12) (⟨3, 0, ⟨#[]⟩⟩ : Step))) ++ ([(⟨6, 5, ⟨#[98]⟩⟩ : Step)])) ++ (List.replicate (Int.toNat 12) (⟨3, 0, ⟨#[]⟩⟩ : Step)))).2.2) == 0))) :: T64, T62⟩ ?_
 have h2 : (((((Syn.newP T27).1).runP (((([(⟨6, 1, ⟨#[97]⟩⟩ : Step)]) ++ (List.replicate (Int.toNat 12) (⟨3, 0, ⟨#[]⟩⟩ : Step))) ++ ([(⟨6, 5, ⟨#[98]⟩⟩ : Step)])) ++ (List.replicate (Int.toNat 12) (⟨3, 0, ⟨#[]⟩⟩ : Step)))).2.2) == 0) = true := by first | kernel_rfl | decide
 rw [h2]
 refine owr 4 ⟨(46, .v (.bool (((((Syn.newP T27).1).runP (((([(⟨6, 1, ⟨#[97]⟩⟩ : Step)]) ++ (List.replicate (Int.toNat 12) (⟨3, 0, ⟨#[]⟩⟩ : Step))) ++ ([(⟨6, 5, ⟨#[98]⟩⟩ : Step)])) ++ (List.replicate (Int.toNat 12) (⟨3, 0, ⟨#[]⟩⟩ : Step)))).2.1) == 26))) :: (45, .v (.bool (((((Syn.newP T27).1).runP (((([(⟨6, 1, ⟨#[97]⟩⟩ : Step)]) ++ (List.replicate (Int.toNat 12) (⟨3, 0, ⟨#[]⟩⟩ : Step))) ++ ([(⟨6, 5, ⟨#[98]⟩⟩ : Step)])) ++ (List.replicate (Int.toNat 12) (⟨3, 0, ⟨#[]⟩⟩ : Step)))).2.1) == 26))) :: (44, .v (.bool (((((Syn.newP T27).1).runP (((([(⟨6, 1, ⟨#[97]⟩⟩ : Step)]) ++ (List.replicate (Int.toNat 12) (⟨3, 0, ⟨#[]⟩⟩ : Step))) ++ ([(⟨6, 5, ⟨#[98]⟩⟩ : Step)])) ++ (List.replicate (Int.toNat 12) (⟨3, 0, ⟨#[]⟩⟩ : Step)))).2.1) == 26))) :: T65, T62⟩ ?_
 have h3 : (((((Syn.newP T27).1).runP (((([(⟨6, 1, ⟨#[97]⟩⟩ : Step)]) ++ (List.replicate (Int.toNat 12) (⟨3, 0, ⟨#[]⟩⟩ : Step))) ++ ([(⟨6, 5, ⟨#[98]⟩⟩ : Step)])) ++ (List.replicate (Int.toNat 12) (⟨3, 0, ⟨#[]⟩⟩ : Step)))).2.1) == 26) = true := by first | kernel_rfl | decide
 rw [h3]
 refine owr 2 ⟨T66, T62⟩ ?_
 refine ow2 ⟨(49, VI (List.length T50.bids : Int)) :: T66, T62⟩ (oln Bid.cs T50.bids (.s 48) 8) ?_
 refine owr 3 ⟨(52, .v (.bool ((List.length T50.bids : Int) == 2))) :: (51, .v (.bool ((List.length T50.bids : Int) == 2))) :: (50, .v (.bool ((List.length T50.bids : Int) == 2))) :: (49, VI (List.length T50.bids : Int)) :: T66, T62⟩ ?_
 have h4 : ((List.length T50.bids : Int) == 2) = true := by first | kernel_rfl | decide
 rw [h4]
 refine owr 2 ⟨T68, T62⟩ ?_
 have hq6 : T50.bids[(0 : Int).toNat]? = some T67 := by kernel_rfl
 refine ow2 ⟨T69, T62⟩ (oid Bid.cs T50.bids (.s 54) (.c (VI 0)) 8 .i64 0 T67 (by first | omega | exact of_decide_eq_true (by kernel_rfl)) hq6) ?_
 refine owr 5 ⟨(60, .v (.bool (T67.phase == 3))) :: (59, .v (.bool (T67.phase == 3))) :: (58, .v (.bool (T67.phase == 3))) :: T70, T62⟩ ?_
 have h7 : (T67.phase == 3) = true := by first | kernel_rfl | decide
 rw [h7]
 refine owr 2 ⟨T72, T62⟩ ?_
 have hq9 : T50.bids[(1 : Int).toNat]? = some T71 := by kernel_rfl
 refine ow2 ⟨T73, T62⟩ (oid Bid.cs T50.bids (.s 62) (.c (VI 1)) 8 .i64 1 T71 (by first | omega | exact of_decide_eq_true (by kernel_rfl)) hq9) ?_
 refine owr 5 ⟨(68, .v (.bool (T71.phase == 3))) :: (67, .v (.bool (T71.phase == 3))) :: (66, .v (.bool (T71.phase == 3))) :: T74, T62⟩ ?_
 have h10 : (T71.phase == 3) = true := by first | kernel_rfl | decide
 rw [h10]
 refine owr 2 ⟨T75, T62⟩ ?_
 refine ow2 ⟨T76, T62⟩ (oid Bid.cs T50.bids (.s 70) (.c (VI 1)) 8 .i64 1 T71 (by first | omega | exact of_decide_eq_true (by kernel_rfl)) hq9) ?_
 refine owr 5 ⟨(76, .v (.bool (strEq T71.value (⟨#[97]⟩)))) :: (75, .v (.bool (strEq T71.value (⟨#[97]⟩)))) :: (74, .v (.bool (strEq T71.value (⟨#[97]⟩)))) :: T77, T62⟩ ?_
 have h11 : strEq T71.value (⟨#[97]⟩) = true := by first | kernel_rfl | decide
 rw [h11]
 refine owr 2 ⟨T78, T62⟩ ?_
 refine ow2 ⟨(79, VI (List.length T50.votes : Int)) :: T78, T62⟩ (oln Vote.cs T50.votes (.s 78) 6) ?_
 refine owr 3 ⟨(82, .v (.bool ((List.length T50.votes : Int) == 0))) :: (81, .v (.bool ((List.length T50.votes : Int) == 0))) :: (80, .v (.bool ((List.length T50.votes : Int) == 0))) :: (79, VI (List.length T50.votes : Int)) :: T78, T62⟩ ?_
 have h12 : ((List.length T50.votes : Int) == 0) = true := by first | kernel_rfl | decide
 rw [h12]
 refine owr 4 ⟨(86, .v (.bool (((((Syn.newP T27).1).doP (⟨1, 0, ⟨#[]⟩⟩ : Step).kind (⟨1, 0, ⟨#[]⟩⟩ : Step).n (⟨1, 0, ⟨#[]⟩⟩ : Step).data).2) == 7))) :: (85, .v (.bool (((((Syn.newP T27).1).doP (⟨1, 0, ⟨#[]⟩⟩ : Step).kind (⟨1, 0, ⟨#[]⟩⟩ : Step).n (⟨1, 0, ⟨#[]⟩⟩ : Step).data).2) == 7))) :: (84, .v (.bool (((((Syn.newP T27).1).doP (⟨1, 0, ⟨#[]⟩⟩ : Step).kind (⟨1, 0, ⟨#[]⟩⟩ : Step).n (⟨1, 0, ⟨#[]⟩⟩ : Step).data).2) == 7))) :: T79, T62⟩ ?_
 have h13 : (((((Syn.newP T27).1).doP (⟨1, 0, ⟨#[]⟩⟩ : Step).kind (⟨1, 0, ⟨#[]⟩⟩ : Step).n (⟨1, 0, ⟨#[]⟩⟩ : Step).data).2) == 7) = true := by first | kernel_rfl | decide
 rw [h13]
 refine owr 1 ⟨T80, T62⟩ ?_
 refine owg [T29] ⟨(88, VI (((Syn.newP T27).1).checkE)) :: T80, T62⟩ (check_fn ((Syn.newP T27).1) (by first | assumption | exact Syn.new_big (by first | assumption | decide) | exact Syn.run_big _ _ | exact Syn.do_big _ _ _ _ | exact Syn.sat_big (by assumption) | exact Syn.zero_big | exact Syn.Ok.big (by assumption))) ?_
 refine owl 3 [0] ⟨[(0, .v (.bool ((((Syn.newP T27).1).checkE) == 0)))], T62⟩ ?_
 refine EL.ret ?_
 refine rqe (.v (.bool ((((Syn.newP T27).1).checkE) == 0))) ?_
 focus (rfl)
instance : GoT Vtr := GoT.via (fun x => (x.weights, x.need))
theorem opens_i64 : Opens Tryd.prog 3 Int := GoT_i64 Tryd.underlying3 (by kernel_rfl)
theorem opens_Stamp : Opens Tryd.prog 47 Stp := Opens.via (opens_struct Tryd.underlying47 rfl (by kernel_rfl) (opens_cons opens_i64 rfl (opens_last opens_i64 rfl))) _ (fun p => ⟨p.1, p.2⟩) (fun _ => rfl)
theorem opens_str : Opens Tryd.prog 9 ByteArray := GoT_str Tryd.underlying9 (by kernel_rfl)
theorem opens_Copy : Opens Tryd.prog 49 Copy := Opens.via (opens_struct Tryd.underlying49 rfl (by kernel_rfl) (opens_cons opens_Stamp rfl (opens_last opens_str rfl))) _ (fun p => ⟨p.1, p.2⟩) (fun _ => rfl)
theorem opens_Vote : Opens Tryd.prog 70 Vote := Opens.via (opens_struct Tryd.underlying70 rfl (by kernel_rfl) (opens_cons opens_i64 rfl (opens_cons opens_i64 rfl (opens_cons opens_i64 rfl (opens_last opens_Copy rfl))))) _ (fun p => ⟨p.1, p.2.1, p.2.2.1, p.2.2.2⟩) (fun _ => rfl)
theorem opens_Seat : Opens Tryd.prog 56 Seat := Opens.via (opens_struct Tryd.underlying56 rfl (by kernel_rfl) (opens_cons opens_Stamp rfl (opens_last opens_Copy rfl))) _ (fun p => ⟨p.1, p.2⟩) (fun _ => rfl)
theorem opens_u64 : Opens Tryd.prog 50 U64 := GoT_u64 Tryd.underlying50 (by kernel_rfl)
theorem opens_Bid : Opens Tryd.prog 52 Bid := Opens.via (opens_struct Tryd.underlying52 rfl (by kernel_rfl) (opens_cons opens_i64 rfl (opens_cons opens_i64 rfl (opens_cons opens_str rfl (opens_cons opens_str rfl (opens_cons opens_Copy rfl (opens_last opens_u64 rfl))))))) _ (fun p => ⟨p.1, p.2.1, p.2.2.1, p.2.2.2.1, p.2.2.2.2.1, p.2.2.2.2.2⟩) (fun _ => rfl)
theorem opens_Step : Opens Tryd.prog 31 Step := Opens.via (opens_struct Tryd.underlying31 rfl (by kernel_rfl) (opens_cons opens_i64 rfl (opens_cons opens_i64 rfl (opens_last opens_str rfl)))) _ (fun p => ⟨p.1, p.2.1, p.2.2⟩) (fun _ => rfl)
theorem opens_Li64 : Opens Tryd.prog 22 (List Int) := opens_slice Tryd.underlying22 (by kernel_rfl) opens_i64 (by decide)
theorem opens_LSeat : Opens Tryd.prog 25 (List Seat) := opens_slice Tryd.underlying25 (by kernel_rfl) opens_Seat (by decide)
theorem opens_LBid : Opens Tryd.prog 26 (List Bid) := opens_slice Tryd.underlying26 (by kernel_rfl) opens_Bid (by decide)
theorem opens_LVote : Opens Tryd.prog 27 (List Vote) := opens_slice Tryd.underlying27 (by kernel_rfl) opens_Vote (by decide)
theorem opens_LStep : Opens Tryd.prog 40 (List Step) := opens_slice Tryd.underlying40 (by kernel_rfl) opens_Step (by decide)
theorem opens_Voters : Opens Tryd.prog 24 Vtr := Opens.via (opens_struct Tryd.underlying24 rfl (by kernel_rfl) (opens_cons opens_Li64 rfl (opens_last opens_i64 rfl))) _ (fun p => ⟨p.1, p.2⟩) (fun _ => rfl)
instance : GoT Syn := GoT.via (fun x => (x.voters, x.seats, x.bids, x.votes))
theorem opens_Synod : Opens Tryd.prog 29 Syn := Opens.via (opens_struct Tryd.underlying29 rfl (by kernel_rfl) (opens_cons opens_Voters rfl (opens_cons opens_LSeat rfl (opens_cons opens_LBid rfl (opens_last opens_LVote rfl))))) _ (fun p => ⟨p.1, p.2.1, p.2.2.1, p.2.2.2⟩) (fun _ => rfl)
theorem rep_ints {w : World} {A : Option Addr} {n c : Nat} {xs : List Int} (h : GoT.rep w w.heap.size [.slice A n c] xs) : Rep (E0 w fun b => b < w.heap.size) (.slice A n c) (.lst 1 (xs.map cI)) :=
  rep_list (fun x : Int => [I x]) (fun x => -9223372036854775808 ≤ x ∧ x ≤ 9223372036854775807) (fun h => h) (fun _ => rfl) (by intro x v hv; simp at hv; subst hv; exact ⟨rfl, rfl⟩) h
theorem rep_seats {w : World} {A : Option Addr} {n c : Nat} {xs : List Seat} (h : GoT.rep w w.heap.size [.slice A n c] xs) : Rep (E0 w fun b => b < w.heap.size) (.slice A n c) (.lst 5 (xs.map Seat.cs)) :=
  rep_list (fun x : Seat => [I x.promised.time, I x.promised.who, I x.kept.at_.time, I x.kept.at_.who, .string x.kept.data]) _ Seat.flat (fun _ => rfl) (by intro x v hv; simp at hv; rcases hv with rfl | rfl | rfl | rfl | rfl <;> exact ⟨rfl, rfl⟩) h
theorem rep_bids {w : World} {A : Option Addr} {n c : Nat} {xs : List Bid} (h : GoT.rep w w.heap.size [.slice A n c] xs) : Rep (E0 w fun b => b < w.heap.size) (.slice A n c) (.lst 8 (xs.map Bid.cs)) :=
  rep_list (fun x : Bid => [I x.time, I x.phase, .string x.own, .string x.value, I x.best.at_.time, I x.best.at_.who, .string x.best.data, .int .u64 (x.heard.n : Int)]) _ Bid.flat (fun _ => rfl) (by intro x v hv; simp at hv; rcases hv with rfl | rfl | rfl | rfl | rfl | rfl | rfl | rfl <;> exact ⟨rfl, rfl⟩) h
theorem rep_votes {w : World} {A : Option Addr} {n c : Nat} {xs : List Vote} (h : GoT.rep w w.heap.size [.slice A n c] xs) : Rep (E0 w fun b => b < w.heap.size) (.slice A n c) (.lst 6 (xs.map Vote.cs)) :=
  rep_list (fun x : Vote => [I x.kind, I x.bid, I x.node, I x.copy.at_.time, I x.copy.at_.who, .string x.copy.data]) _ Vote.flat (fun _ => rfl) (by intro x v hv; simp at hv; rcases hv with rfl | rfl | rfl | rfl | rfl | rfl <;> exact ⟨rfl, rfl⟩) h
theorem Syn.av {w : World} {cs : List Value} {s : Syn} (h : GoT.rep w w.heap.size cs s) :
    Rep (E0 w fun b => b < w.heap.size) (.agg cs.toArray) (.agg [.lst 1 (s.voters.weights.map cI), VI s.voters.need, .lst 5 (s.seats.map Seat.cs), .lst 8 (s.bids.map Bid.cs), .lst 6 (s.votes.map Vote.cs)]) ∧ s.Big := by
  obtain ⟨cv, rv, rfl, hv, c2, r2, rfl, h2, c3, r3, rfl, h3, h4⟩ := h
  obtain ⟨c0, r0, rfl, h0, h1⟩ := hv
  obtain ⟨A0, n0, k0, rfl, g0⟩ := h0
  obtain ⟨rfl, _⟩ := h1
  obtain ⟨A2, n2, k2, rfl, g2⟩ := h2
  obtain ⟨A3, n3, k3, rfl, g3⟩ := h3
  obtain ⟨A4, n4, k4, rfl, g4⟩ := h4
  refine ⟨?_, ?_⟩
  · exact R2.agg (.cons (rep_ints ⟨_, _, _, rfl, g0⟩) (.cons (.v rfl) (.cons (rep_seats ⟨_, _, _, rfl, g2⟩) (.cons (rep_bids ⟨_, _, _, rfl, g3⟩) (.cons (rep_votes ⟨_, _, _, rfl, g4⟩) .nil)))))
  · have := g0.1; have := g0.2.1; have := g0.2.2.1; have := g2.1; have := g2.2.1; have := g2.2.2.1; have := g3.1; have := g3.2.1; have := g3.2.2.1; have := g4.1; have := g4.2.1; have := g4.2.2.1
    unfold Syn.Big
    dsimp only at *
    omega
theorem gl_gN : Tryd.prog.globalNamed "math/bits.deBruijn64tab" = some 0 := by kernel_rfl
theorem gl_cells {W : World} (h : laidMetH Tryd.prog [("math/bits.deBruijn64tab", Rows.laid_math_bits_deBruijn64tab)] W) : ∀ (i : Nat) v, glT[i]? = some v → W.cell? ⟨0, i, none⟩ = some v := by
  rw [MakeChecks.laidMetH_plain _ _ _ (by kernel_rfl)] at h
  have hT := Lib.tabIs_of_head (k := .u8) (zs := glZ) gl_gN (by kernel_rfl) Tryd.underlying118 Tryd.underlying5 (by kernel_rfl) (by kernel_rfl) h
  intro i v hv
  have hi : i < glZ.length := by
    have := (List.getElem?_eq_some_iff.1 hv).1; simpa [glT] using this
  have := hT.cell gl_gN i hi
  rw [this]
  simp only [glT, List.getElem?_map, Option.map_eq_some_iff] at hv
  obtain ⟨z, hz, rfl⟩ := hv
  simp [List.getD, hz]
theorem glE_of {W : World} (h : laidMetH Tryd.prog [("math/bits.deBruijn64tab", Rows.laid_math_bits_deBruijn64tab)] W) : GlE (E0 W fun b => b < W.heap.size) :=
  ⟨cell_lt (gl_cells h 0 _ rfl), gl_cells h⟩
theorem Syn.run_le : ∀ (l : List Step) (s : Syn), 0 ≤ (s.runGo l 0).2 ∧ (s.runGo l 0).2 ≤ l.length
  | [], s => by simp [Syn.runGo]
  | a :: l, s => by
    rw [Syn.runGo_cons]
    by_cases h : (s.stepP a.kind a.n a.data).2 = 0
    · rw [if_pos h]
      have := Syn.run_from l (s := (s.stepP a.kind a.n a.data).1) 0 1
      have b := Syn.run_le l (s.stepP a.kind a.n a.data).1
      rw [this]; simp only [List.length_cons]; omega
    · rw [if_neg h]
      have b := Syn.run_le l s
      simp only [List.length_cons]; omega
theorem Syn.run_parts {s : Syn} {l : List Step} (h : (s.runP l).2.2 = 0) (k : Nat) : (s.runP (l.take k)).2.2 = 0 ∧ ((s.runP (l.take k)).1.runP (l.drop k)).2.2 = 0 ∧ ((s.runP (l.take k)).1.runP (l.drop k)).1 = (s.runP l).1 ∧ (s.runP (l.take k)).2.1 + ((s.runP (l.take k)).1.runP (l.drop k)).2.1 = (s.runP l).2.1 ∧ (s.runP l).1.checkE = 0 ∧
    0 ≤ (s.runP (l.take k)).2.1 ∧ (s.runP (l.take k)).2.1 ≤ 200 ∧ 0 ≤ ((s.runP (l.take k)).1.runP (l.drop k)).2.1 ∧ ((s.runP (l.take k)).1.runP (l.drop k)).2.1 ≤ 200 := by
  rcases Syn.run_cases s l with ⟨_, ok, hl, e, ok2⟩ | ⟨h1, _⟩
  · have hc := Syn.ok_iff.2 ok
    have e1 := Syn.runP_0 (l := l.take k) hc (by rw [List.length_take]; omega)
    have ok1 := (Syn.run_go (l.take k) 0 ok).2
    have e2 := Syn.runP_0 (s := (s.runGo (l.take k) 0).1) (l := l.drop k) (Syn.ok_iff.2 ok1) (by rw [List.length_drop]; omega)
    have ea := Syn.run_split (l.take k) (l.drop k) (s := s) 0
    rw [List.take_append_drop] at ea
    have eb := Syn.run_from (l.drop k) (s := (s.runGo (l.take k) 0).1) 0 (s.runGo (l.take k) 0).2
    rw [Int.zero_add] at eb
    have b1 := Syn.run_le (l.take k) s
    have b2 := Syn.run_le (l.drop k) (s.runGo (l.take k) 0).1
    rw [List.length_take] at b1
    rw [List.length_drop] at b2
    refine ⟨by rw [e1], by rw [e1, e2], ?_, ?_, Syn.ok_iff.2 ok2, ?_, ?_, ?_, ?_⟩
    · rw [e1, e, e2, ea, eb]
    · rw [e1, e, e2, ea, eb]; simp only; omega
    · rw [e1]; exact b1.1
    · rw [e1]; simp only; omega
    · rw [e1, e2]; exact b2.1
    · rw [e1, e2]; simp only; omega
  · exact absurd h h1
end Go.Proofs.YtligepciannclaaDoor
