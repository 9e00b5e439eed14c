/- What the references for operations answer. No condition. -/
import Derived.Test.YtgepadjkegfokaaDoorPAskC
set_option maxRecDepth 100000
set_option maxHeartbeats 4000000
set_option linter.unusedVariables false
set_option linter.unusedSimpArgs false
namespace Go.Proofs.YtgepadjkegfokaaDoor
theorem msg_kind {m : Msg} (h : m.checkE = 0) : 1 ≤ m.kind ∧ m.kind ≤ 4 := by
  unfold Msg.checkE at h
  by_cases h1 : 1 ≤ m.kind ∧ m.kind ≤ 4
  · exact h1
  · rw [if_pos h1] at h; simp at h
theorem hearA_eq {v : Voters} {a : Ask} {m : Msg} (ha : a.checkE v.weights v.need = 0) (hm : m.checkE = 0) : hearA v a m = if (hearT v a m).2.2 = true then ((hearT v a m).1, (hearT v a m).2.1, 0) else (a, [], 0) := by
  unfold hearA; rw [if_neg (fun hh => hh ha), if_neg (fun hh => hh hm)]
theorem lat_fn (t : Int) (w : Int) : Fn Tryd.prog 48 [VI t, VI w] (.agg [VI ((⟨t, w⟩ : Stamp).time), VI ((⟨t, w⟩ : Stamp).who)]) := by
  refine fn_walkW F48_ok (of_decide_eq_true (by kernel_rfl)) ?_
  refine EL.sreg ?_
  refine OW.last 1 [0, 1, 4] (x' := ⟨[(4, .ref 0 2 0 0), (0, VI t), (1, VI w)], [some ⟨2, [[VI 0, VI 0]]⟩]⟩) (by kernel_rfl) (by kernel_rfl) ?_
  refine EL.sreg ?_
  refine OW.last 4 [4] (x' := ⟨[(4, .ref 0 2 0 0)], [some ⟨2, [[VI t, VI w]]⟩]⟩) (by kernel_rfl) (by kernel_rfl) ?_
  refine EL.ret ?_
  refine ⟨.inr rfl, .agg [VI t, VI w], by kernel_rfl, Ale.of_eq ?_⟩
  focus (rfl)
abbrev adq131 (t : Int) (w : Int) (d : ByteArray) : LS := [(6, .ref 0 3 0 0), (0, VI t), (1, VI w), (2, .v (.string d))]
abbrev adq132 (t : Int) (w : Int) : AV := .agg [VI ((⟨t, w⟩ : Stamp).time), VI ((⟨t, w⟩ : Stamp).who)]
abbrev adq133 (t : Int) (w : Int) (d : ByteArray) : OB := some ⟨3, [[VI ((⟨t, w⟩ : Stamp).time), VI ((⟨t, w⟩ : Stamp).who), .v (.string d)]]⟩
abbrev adq134 (t : Int) (w : Int) (d : ByteArray) : AV := .agg [VI ((⟨t, w⟩ : Stamp).time), VI ((⟨t, w⟩ : Stamp).who), .v (.string d)]
theorem lblock_fn (t : Int) (w : Int) (d : ByteArray) : Fn Tryd.prog 31 [VI t, VI w, .v (.string d)] (.agg [VI (((⟨⟨t, w⟩, d⟩ : Copy).at_).time), VI (((⟨⟨t, w⟩, d⟩ : Copy).at_).who), .v (.string ((⟨⟨t, w⟩, d⟩ : Copy).data))]) := by
  refine fn_walkW F31_ok (of_decide_eq_true (by kernel_rfl)) ?_
  refine EL.sreg ?_
  refine OW.last 1 [0, 1, 2, 6] (x' := ⟨(adq131 t w d), [some ⟨3, [[VI 0, VI 0, .v (.string (⟨#[]⟩))]]⟩]⟩) (by kernel_rfl) (by kernel_rfl) ?_
  refine EL.sreg ?_
  refine OW.run 2 (x' := ⟨(8, VI w) :: (7, VI t) :: (adq131 t w d), [some ⟨3, [[VI 0, VI 0, .v (.string (⟨#[]⟩))]]⟩]⟩) (by kernel_rfl) ?_
  refine OW.fn (ar := [VI t, VI w]) (x' := ⟨(9, (adq132 t w)) :: (8, VI w) :: (7, VI t) :: (adq131 t w d), [some ⟨3, [[VI 0, VI 0, .v (.string (⟨#[]⟩))]]⟩]⟩) (by kernel_rfl) (by kernel_rfl) F48_call (lat_fn t w) (by kernel_rfl) (by kernel_rfl) ?_
  refine OW.last 3 [6] (x' := ⟨[(6, .ref 0 3 0 0)], [(adq133 t w d)]⟩) (by kernel_rfl) (by kernel_rfl) ?_
  refine EL.ret ?_
  refine ⟨.inr rfl, (adq134 t w d), by kernel_rfl, Ale.of_eq ?_⟩
  focus (rfl)
abbrev adq135 : LB := [some ⟨2, [[.own 1 1 0 3, VI 2]]⟩, some ⟨1, [[VI 1], [VI 1], [VI 1]]⟩]
theorem three_fn : Fn Tryd.prog 29 [] (.agg [.lst 1 (((⟨[1, 1, 1], 2⟩ : Voters).weights).map cI), VI ((⟨[1, 1, 1], 2⟩ : Voters).need)]) := by
  refine fn_walkW F29_ok (of_decide_eq_true (by kernel_rfl)) ?_
  refine EL.sreg ?_
  refine OW.last 1 [0] (x' := ⟨[(0, .ref 0 2 0 0)], [some ⟨2, [[.emp, VI 0]]⟩]⟩) (by kernel_rfl) (by kernel_rfl) ?_
  refine EL.sreg ?_
  refine OW.last 3 [0] (x' := ⟨[(0, .ref 0 2 0 0)], adq135⟩) (by kernel_rfl) (by kernel_rfl) ?_
  refine EL.ret ?_
  refine ⟨.inr rfl, .agg [.lst 1 [[VI 1], [VI 1], [VI 1]], VI 2], by kernel_rfl, Ale.of_eq ?_⟩
  focus (rfl)
abbrev adq136 (c : Copy) : OB := some ⟨3, [[VI c.at_.time, VI c.at_.who, .v (.string c.data)]]⟩
abbrev adq137 : OB := some ⟨6, [[VI 0, VI 0, VI 0, VI 0, VI 0, .v (.string (⟨#[]⟩))]]⟩
abbrev adq138 (op : Int) (node : Int) : LS := [(6, .ref 1 6 0 0), (5, .ref 0 3 0 0), (0, VI op), (1, VI node)]
abbrev adq139 (op : Int) (node : Int) (c : Copy) : OB := some ⟨6, [[VI 2, VI op, VI node, VI c.at_.time, VI c.at_.who, .v (.string c.data)]]⟩
abbrev adq140 (op : Int) (node : Int) (c : Copy) : AV := .agg [VI 2, VI op, VI node, VI c.at_.time, VI c.at_.who, .v (.string c.data)]
theorem answer_fn (op : Int) (node : Int) (c : Copy) : Fn Tryd.prog 30 [VI op, VI node, .agg [VI c.at_.time, VI c.at_.who, .v (.string c.data)]] (.agg [VI ((⟨2, op, node, c⟩ : Msg).kind), VI ((⟨2, op, node, c⟩ : Msg).op), VI ((⟨2, op, node, c⟩ : Msg).node), VI ((((⟨2, op, node, c⟩ : Msg).copy).at_).time), VI ((((⟨2, op, node, c⟩ : Msg).copy).at_).who), .v (.string (((⟨2, op, node, c⟩ : Msg).copy).data))]) := by
  refine fn_walkW F30_ok (of_decide_eq_true (by kernel_rfl)) ?_
  refine EL.sreg ?_
  refine OW.last 2 [0, 1, 5, 6] (x' := ⟨(adq138 op node), [(adq136 c), adq137]⟩) (by kernel_rfl) (by kernel_rfl) ?_
  refine EL.sreg ?_
  refine OW.last 5 [6] (x' := ⟨[(6, .ref 1 6 0 0)], [(adq136 c), (adq139 op node c)]⟩) (by kernel_rfl) (by kernel_rfl) ?_
  refine EL.ret ?_
  refine ⟨.inr rfl, (adq140 op node c), by kernel_rfl, Ale.of_eq ?_⟩
  focus (rfl)
abbrev adq141 : Voters := (⟨[1, 1, 1], 2⟩ : Voters)
abbrev adq142 : Ask := (beginA adq141 5 2 (⟨#[110, 101, 119]⟩)).1
abbrev adq143 : AV := .agg [VI adq142.op, VI adq142.kind, VI adq142.phase, .v (.string adq142.data), VI adq142.best.at_.time, VI adq142.best.at_.who, .v (.string adq142.best.data), .v (.int .u64 (adq142.heard.n : Int))]
abbrev adq144 : OB := some ⟨8, [[VI adq142.op, VI adq142.kind, VI adq142.phase, .v (.string adq142.data), VI adq142.best.at_.time, VI adq142.best.at_.who, .v (.string adq142.best.data), .v (.int .u64 (adq142.heard.n : Int))]]⟩
abbrev adq145 : LS := [(3, VI ((beginA adq141 5 2 (⟨#[110, 101, 119]⟩)).2.2)), (2, .lst 6 (((beginA adq141 5 2 (⟨#[110, 101, 119]⟩)).2.1).map Msg.cs)), (1, .ref 0 8 0 0)]
abbrev adq146 : LS := (29, .agg [.lst 1 (adq141.weights.map cI), VI adq141.need]) :: adq145
abbrev adq147 : Copy := (⟨⟨3, 2⟩, (⟨#[111, 108, 100]⟩)⟩ : Copy)
abbrev adq148 : AV := .agg [VI adq147.at_.time, VI adq147.at_.who, .v (.string adq147.data)]
abbrev adq149 : Msg := (⟨2, 5, 1, adq147⟩ : Msg)
abbrev adq150 : AV := .agg [VI adq149.kind, VI adq149.op, VI adq149.node, VI adq149.copy.at_.time, VI adq149.copy.at_.who, .v (.string adq149.copy.data)]
abbrev adq151 : Ask := (hearA adq141 adq142 adq149).1
abbrev adq152 : AV := .agg [VI adq151.op, VI adq151.kind, VI adq151.phase, .v (.string adq151.data), VI adq151.best.at_.time, VI adq151.best.at_.who, .v (.string adq151.best.data), .v (.int .u64 (adq151.heard.n : Int))]
abbrev adq153 : LS := (33, .tup [adq152, .lst 6 (((hearA adq141 adq142 adq149).2.1).map Msg.cs), VI ((hearA adq141 adq142 adq149).2.2)]) :: (32, adq150) :: (31, adq148) :: (30, adq143) :: adq146
abbrev adq154 : OB := some ⟨8, [[VI adq151.op, VI adq151.kind, VI adq151.phase, .v (.string adq151.data), VI adq151.best.at_.time, VI adq151.best.at_.who, .v (.string adq151.best.data), .v (.int .u64 (adq151.heard.n : Int))]]⟩
abbrev adq155 : LS := [(6, VI ((hearA adq141 adq142 adq149).2.2)), (5, .lst 6 (((hearA adq141 adq142 adq149).2.1).map Msg.cs)), (4, .ref 1 8 0 0), (3, VI ((beginA adq141 5 2 (⟨#[110, 101, 119]⟩)).2.2)), (2, .lst 6 (((beginA adq141 5 2 (⟨#[110, 101, 119]⟩)).2.1).map Msg.cs))]
abbrev adq156 : LS := (38, .agg [.lst 1 (adq141.weights.map cI), VI adq141.need]) :: adq155
abbrev adq157 : Copy := (⟨⟨9, 2⟩, (⟨#[120]⟩)⟩ : Copy)
abbrev adq158 : AV := .agg [VI adq157.at_.time, VI adq157.at_.who, .v (.string adq157.data)]
abbrev adq159 : Msg := (⟨2, 5, 1, adq157⟩ : Msg)
abbrev adq160 : AV := .agg [VI adq159.kind, VI adq159.op, VI adq159.node, VI adq159.copy.at_.time, VI adq159.copy.at_.who, .v (.string adq159.copy.data)]
abbrev adq161 : Ask := (hearA adq141 adq151 adq159).1
abbrev adq162 : AV := .agg [VI adq161.op, VI adq161.kind, VI adq161.phase, .v (.string adq161.data), VI adq161.best.at_.time, VI adq161.best.at_.who, .v (.string adq161.best.data), .v (.int .u64 (adq161.heard.n : Int))]
abbrev adq163 : LS := (42, .tup [adq162, .lst 6 (((hearA adq141 adq151 adq159).2.1).map Msg.cs), VI ((hearA adq141 adq151 adq159).2.2)]) :: (41, adq160) :: (40, adq158) :: (39, adq152) :: adq156
abbrev adq164 : OB := some ⟨8, [[VI adq161.op, VI adq161.kind, VI adq161.phase, .v (.string adq161.data), VI adq161.best.at_.time, VI adq161.best.at_.who, .v (.string adq161.best.data), .v (.int .u64 (adq161.heard.n : Int))]]⟩
abbrev adq165 : LS := (9, VI ((hearA adq141 adq151 adq159).2.2)) :: (7, .ref 2 8 0 0) :: adq155
abbrev adq166 : LS := (47, .agg [.lst 1 (adq141.weights.map cI), VI adq141.need]) :: adq165
abbrev adq167 : LS := (49, .agg [VI 0, VI 0, .v (.string (⟨#[]⟩))]) :: (48, adq152) :: adq166
abbrev adq168 : Msg := (⟨2, 5, 2, (⟨(⟨0, 0⟩ : Stamp), ⟨#[]⟩⟩ : Copy)⟩ : Msg)
abbrev adq169 : AV := .agg [VI adq168.kind, VI adq168.op, VI adq168.node, VI adq168.copy.at_.time, VI adq168.copy.at_.who, .v (.string adq168.copy.data)]
abbrev adq170 : Ask := (hearA adq141 adq151 adq168).1
abbrev adq171 : AV := .agg [VI adq170.op, VI adq170.kind, VI adq170.phase, .v (.string adq170.data), VI adq170.best.at_.time, VI adq170.best.at_.who, .v (.string adq170.best.data), .v (.int .u64 (adq170.heard.n : Int))]
abbrev adq172 : LS := (51, .tup [adq171, .lst 6 (((hearA adq141 adq151 adq168).2.1).map Msg.cs), VI ((hearA adq141 adq151 adq168).2.2)]) :: (50, adq169) :: adq167
abbrev adq173 : OB := some ⟨8, [[VI adq170.op, VI adq170.kind, VI adq170.phase, .v (.string adq170.data), VI adq170.best.at_.time, VI adq170.best.at_.who, .v (.string adq170.best.data), .v (.int .u64 (adq170.heard.n : Int))]]⟩
abbrev adq174 : LS := (12, VI ((hearA adq141 adq151 adq168).2.2)) :: (11, .lst 6 (((hearA adq141 adq151 adq168).2.1).map Msg.cs)) :: (10, .ref 3 8 0 0) :: adq165
abbrev adq175 : LS := (56, .agg [.lst 1 (adq141.weights.map cI), VI adq141.need]) :: adq174
abbrev adq176 : LS := (58, .agg [VI 4, VI 5, VI 0, VI 0, VI 0, .v (.string (⟨#[]⟩))]) :: (57, adq171) :: adq175
abbrev adq177 : Ask := (hearA adq141 adq170 (⟨4, 5, 0, (⟨(⟨0, 0⟩ : Stamp), ⟨#[]⟩⟩ : Copy)⟩ : Msg)).1
abbrev adq178 : AV := .agg [VI adq177.op, VI adq177.kind, VI adq177.phase, .v (.string adq177.data), VI adq177.best.at_.time, VI adq177.best.at_.who, .v (.string adq177.best.data), .v (.int .u64 (adq177.heard.n : Int))]
abbrev adq179 : LS := (59, .tup [adq178, .lst 6 (((hearA adq141 adq170 (⟨4, 5, 0, (⟨(⟨0, 0⟩ : Stamp), ⟨#[]⟩⟩ : Copy)⟩ : Msg)).2.1).map Msg.cs), VI ((hearA adq141 adq170 (⟨4, 5, 0, (⟨(⟨0, 0⟩ : Stamp), ⟨#[]⟩⟩ : Copy)⟩ : Msg)).2.2)]) :: adq176
abbrev adq180 : OB := some ⟨8, [[VI adq177.op, VI adq177.kind, VI adq177.phase, .v (.string adq177.data), VI adq177.best.at_.time, VI adq177.best.at_.who, .v (.string adq177.best.data), .v (.int .u64 (adq177.heard.n : Int))]]⟩
abbrev adq181 : LS := (15, VI ((hearA adq141 adq170 (⟨4, 5, 0, (⟨(⟨0, 0⟩ : Stamp), ⟨#[]⟩⟩ : Copy)⟩ : Msg)).2.2)) :: (13, .ref 4 8 0 0) :: adq174
abbrev adq182 : LS := (64, .agg [.lst 1 (adq141.weights.map cI), VI adq141.need]) :: adq181
abbrev adq183 : LS := (66, .agg [VI 4, VI 5, VI 2, VI 0, VI 0, .v (.string (⟨#[]⟩))]) :: (65, adq178) :: adq182
abbrev adq184 : Ask := (hearA adq141 adq177 (⟨4, 5, 2, (⟨(⟨0, 0⟩ : Stamp), ⟨#[]⟩⟩ : Copy)⟩ : Msg)).1
abbrev adq185 : AV := .agg [VI adq184.op, VI adq184.kind, VI adq184.phase, .v (.string adq184.data), VI adq184.best.at_.time, VI adq184.best.at_.who, .v (.string adq184.best.data), .v (.int .u64 (adq184.heard.n : Int))]
abbrev adq186 : LS := (67, .tup [adq185, .lst 6 (((hearA adq141 adq177 (⟨4, 5, 2, (⟨(⟨0, 0⟩ : Stamp), ⟨#[]⟩⟩ : Copy)⟩ : Msg)).2.1).map Msg.cs), VI ((hearA adq141 adq177 (⟨4, 5, 2, (⟨(⟨0, 0⟩ : Stamp), ⟨#[]⟩⟩ : Copy)⟩ : Msg)).2.2)]) :: adq183
abbrev adq187 : OB := some ⟨8, [[VI adq184.op, VI adq184.kind, VI adq184.phase, .v (.string adq184.data), VI adq184.best.at_.time, VI adq184.best.at_.who, .v (.string adq184.best.data), .v (.int .u64 (adq184.heard.n : Int))]]⟩
abbrev adq188 : LS := (18, VI ((hearA adq141 adq177 (⟨4, 5, 2, (⟨(⟨0, 0⟩ : Stamp), ⟨#[]⟩⟩ : Copy)⟩ : Msg)).2.2)) :: (16, .ref 5 8 0 0) :: adq181
abbrev adq189 : Copy := (⟨⟨1, 1⟩, (⟨#[97]⟩)⟩ : Copy)
abbrev adq190 : AV := .agg [VI adq189.at_.time, VI adq189.at_.who, .v (.string adq189.data)]
abbrev adq191 : Copy := (⟨⟨4, 5⟩, (⟨#[110, 101, 119]⟩)⟩ : Copy)
abbrev adq192 : AV := .agg [VI adq191.at_.time, VI adq191.at_.who, .v (.string adq191.data)]
abbrev adq193 : AV := .agg [VI 3, VI 5, VI 2, VI adq191.at_.time, VI adq191.at_.who, .v (.string adq191.data)]
abbrev adq194 : Copy := (serveA adq189 (⟨3, 5, 2, adq191⟩ : Msg)).1
abbrev adq195 : AV := .agg [VI adq194.at_.time, VI adq194.at_.who, .v (.string adq194.data)]
abbrev adq196 : LS := (75, .tup [adq195, .lst 6 (((serveA adq189 (⟨3, 5, 2, adq191⟩ : Msg)).2.1).map Msg.cs), VI ((serveA adq189 (⟨3, 5, 2, adq191⟩ : Msg)).2.2)]) :: (74, adq193) :: (73, adq192) :: (72, adq190) :: adq188
abbrev adq197 : OB := some ⟨3, [[VI adq194.at_.time, VI adq194.at_.who, .v (.string adq194.data)]]⟩
abbrev adq198 : LS := (21, VI ((serveA adq189 (⟨3, 5, 2, adq191⟩ : Msg)).2.2)) :: (20, .lst 6 (((serveA adq189 (⟨3, 5, 2, adq191⟩ : Msg)).2.1).map Msg.cs)) :: (19, .ref 6 3 0 0) :: adq188
abbrev adq199 : LS := (79, VI ((beginA adq141 5 2 (⟨#[110, 101, 119]⟩)).2.2)) :: adq198
abbrev adq200 : LS := (82, .lst 6 (((beginA adq141 5 2 (⟨#[110, 101, 119]⟩)).2.1).map Msg.cs)) :: (81, .v (.bool true)) :: (80, .v (.bool true)) :: adq199
abbrev adq201 : LS := (83, VI (List.length ((beginA adq141 5 2 (⟨#[110, 101, 119]⟩)).2.1) : Int)) :: adq200
abbrev adq202 : LS := (87, VI ((hearA adq141 adq142 adq149).2.2)) :: (86, .v (.bool true)) :: (85, .v (.bool true)) :: (84, .v (.bool true)) :: adq201
abbrev adq203 : LS := (91, .lst 6 (((hearA adq141 adq142 adq149).2.1).map Msg.cs)) :: (90, .v (.bool true)) :: (89, .v (.bool true)) :: (88, .v (.bool true)) :: adq202
abbrev adq204 : LS := (92, VI (List.length ((hearA adq141 adq142 adq149).2.1) : Int)) :: adq203
abbrev adq205 : LS := (96, VI ((hearA adq141 adq151 adq159).2.2)) :: (95, .v (.bool true)) :: (94, .v (.bool true)) :: (93, .v (.bool true)) :: adq204
abbrev adq206 : LS := (101, adq152) :: (100, adq162) :: (99, .v (.bool true)) :: (98, .v (.bool true)) :: (97, .v (.bool true)) :: adq205
abbrev adq207 : LS := (105, VI ((hearA adq141 adq151 adq168).2.2)) :: (104, .v (.bool true)) :: (103, .v (.bool true)) :: (102, .v (.bool true)) :: adq206
abbrev adq208 : AV := .agg [VI adq170.best.at_.time, VI adq170.best.at_.who, .v (.string adq170.best.data)]
abbrev adq209 : LS := (110, adq208) :: (109, .ref 3 8 0 4) :: (108, .v (.bool true)) :: (107, .v (.bool true)) :: (106, .v (.bool true)) :: adq207
abbrev adq210 : LS := (115, .lst 6 (((hearA adq141 adq151 adq168).2.1).map Msg.cs)) :: (114, .v (.bool true)) :: (113, .v (.bool true)) :: (112, .v (.bool true)) :: (111, adq192) :: adq209
abbrev adq211 : LS := (116, VI (List.length ((hearA adq141 adq151 adq168).2.1) : Int)) :: adq210
abbrev adq212 : Msg := List.getD ((hearA adq141 adq151 adq168).2.1) (Int.toNat 2) (⟨0, 0, 0, (⟨(⟨0, 0⟩ : Stamp), ⟨#[]⟩⟩ : Copy)⟩ : Msg)
abbrev adq213 : LS := (120, .lst 6 (((hearA adq141 adq151 adq168).2.1).map Msg.cs)) :: (119, .v (.bool true)) :: (118, .v (.bool true)) :: (117, .v (.bool true)) :: adq211
abbrev adq214 : LS := (121, .pim [VI adq212.kind, VI adq212.op, VI adq212.node, VI adq212.copy.at_.time, VI adq212.copy.at_.who, .v (.string adq212.copy.data)] 0) :: adq213
abbrev adq215 : AV := .agg [VI adq212.copy.at_.time, VI adq212.copy.at_.who, .v (.string adq212.copy.data)]
abbrev adq216 : LS := (125, adq208) :: (124, .ref 3 8 0 4) :: (123, adq215) :: (122, .pim [VI adq212.kind, VI adq212.op, VI adq212.node, VI adq212.copy.at_.time, VI adq212.copy.at_.who, .v (.string adq212.copy.data)] 3) :: adq214
abbrev adq217 : LS := (129, VI ((hearA adq141 adq170 (⟨4, 5, 0, (⟨(⟨0, 0⟩ : Stamp), ⟨#[]⟩⟩ : Copy)⟩ : Msg)).2.2)) :: (128, .v (.bool true)) :: (127, .v (.bool true)) :: (126, .v (.bool true)) :: adq216
abbrev adq218 : LS := (134, VI adq177.phase) :: (133, .ref 4 8 0 2) :: (132, .v (.bool true)) :: (131, .v (.bool true)) :: (130, .v (.bool true)) :: adq217
abbrev adq219 : LS := (138, VI ((hearA adq141 adq177 (⟨4, 5, 2, (⟨(⟨0, 0⟩ : Stamp), ⟨#[]⟩⟩ : Copy)⟩ : Msg)).2.2)) :: (137, .v (.bool true)) :: (136, .v (.bool true)) :: (135, .v (.bool true)) :: adq218
abbrev adq220 : LS := (143, VI adq184.phase) :: (142, .ref 5 8 0 2) :: (141, .v (.bool true)) :: (140, .v (.bool true)) :: (139, .v (.bool true)) :: adq219
abbrev adq221 : LS := (147, VI ((serveA adq189 (⟨3, 5, 2, adq191⟩ : Msg)).2.2)) :: (146, .v (.bool true)) :: (145, .v (.bool true)) :: (144, .v (.bool true)) :: adq220
abbrev adq222 : LS := (153, adq208) :: (152, .ref 3 8 0 4) :: (151, adq195) :: (150, .v (.bool true)) :: (149, .v (.bool true)) :: (148, .v (.bool true)) :: adq221
abbrev adq223 : LS := (157, .lst 6 (((serveA adq189 (⟨3, 5, 2, adq191⟩ : Msg)).2.1).map Msg.cs)) :: (156, .v (.bool true)) :: (155, .v (.bool true)) :: (154, .v (.bool true)) :: adq222
abbrev adq224 : LS := (158, VI (List.length ((serveA adq189 (⟨3, 5, 2, adq191⟩ : Msg)).2.1) : Int)) :: adq223
abbrev adq225 : Msg := List.getD ((serveA adq189 (⟨3, 5, 2, adq191⟩ : Msg)).2.1) (Int.toNat 0) (⟨0, 0, 0, (⟨(⟨0, 0⟩ : Stamp), ⟨#[]⟩⟩ : Copy)⟩ : Msg)
abbrev adq226 : LS := (162, .lst 6 (((serveA adq189 (⟨3, 5, 2, adq191⟩ : Msg)).2.1).map Msg.cs)) :: (161, .v (.bool true)) :: (160, .v (.bool true)) :: (159, .v (.bool true)) :: adq224
abbrev adq227 : LS := (163, .pim [VI adq225.kind, VI adq225.op, VI adq225.node, VI adq225.copy.at_.time, VI adq225.copy.at_.who, .v (.string adq225.copy.data)] 0) :: adq226
theorem begun_fn : Fn Tryd.prog 12 [] (.v (.bool true)) := by
  refine fn_walkW F12_ok (of_decide_eq_true (by kernel_rfl)) ?_
  refine EL.sreg ?_
  refine OW.last 1 [] (x' := ⟨[], []⟩) (by kernel_rfl) (by kernel_rfl) ?_
  refine EL.sreg ?_
  refine OW.fn (ar := []) (x' := ⟨[(23, .agg [.lst 1 (adq141.weights.map cI), VI adq141.need])], []⟩) (by kernel_rfl) (by kernel_rfl) F29_call (three_fn) (by kernel_rfl) (by kernel_rfl) ?_
  refine OW.fn (ar := [.agg [.lst 1 (adq141.weights.map cI), VI adq141.need], VI 5, VI 2, .v (.string (⟨#[110, 101, 119]⟩))]) (x' := ⟨[(24, .tup [adq143, .lst 6 (((beginA adq141 5 2 (⟨#[110, 101, 119]⟩)).2.1).map Msg.cs), VI ((beginA adq141 5 2 (⟨#[110, 101, 119]⟩)).2.2)]), (23, .agg [.lst 1 (adq141.weights.map cI), VI adq141.need])], []⟩) (by kernel_rfl) (by kernel_rfl) F9_call (begin_fn adq141 5 2 (⟨#[110, 101, 119]⟩) (by first | assumption | decide)) (by kernel_rfl) (by kernel_rfl) ?_
  refine OW.last 8 [1, 2, 3] (x' := ⟨adq145, [adq144]⟩) (by kernel_rfl) (by kernel_rfl) ?_
  refine EL.sdraw ?_
  refine DW.fn (ar := []) (x' := ⟨adq146, [adq144]⟩) (by kernel_rfl) (by kernel_rfl) F29_call (three_fn) (by kernel_rfl) (by kernel_rfl) ?_
  refine DW.run 1 (x' := ⟨(30, adq143) :: adq146, [adq144]⟩) (by kernel_rfl) ?_
  refine DW.fn (ar := [VI 3, VI 2, .v (.string (⟨#[111, 108, 100]⟩))]) (x' := ⟨(31, adq148) :: (30, adq143) :: adq146, [adq144]⟩) (by kernel_rfl) (by kernel_rfl) F31_call (lblock_fn 3 2 (⟨#[111, 108, 100]⟩)) (by kernel_rfl) (by kernel_rfl) ?_
  refine DW.fn (ar := [VI 5, VI 1, adq148]) (x' := ⟨(32, adq150) :: (31, adq148) :: (30, adq143) :: adq146, [adq144]⟩) (by kernel_rfl) (by kernel_rfl) F30_call (answer_fn 5 1 adq147) (by kernel_rfl) (by kernel_rfl) ?_
  refine DW.fn (ar := [.agg [.lst 1 (adq141.weights.map cI), VI adq141.need], adq143, adq150]) (x' := ⟨adq153, [adq144]⟩) (by kernel_rfl) (by kernel_rfl) F8_call (hear_fn adq141 adq142 adq149 (by first | assumption | decide)) (by kernel_rfl) (by kernel_rfl) ?_
  refine DW.last 8 [2, 3, 4, 5, 6] (x' := ⟨adq155, [adq144, adq154]⟩) (by kernel_rfl) (by kernel_rfl) ?_
  refine EL.sdraw ?_
  refine DW.fn (ar := []) (x' := ⟨adq156, [adq144, adq154]⟩) (by kernel_rfl) (by kernel_rfl) F29_call (three_fn) (by kernel_rfl) (by kernel_rfl) ?_
  refine DW.run 1 (x' := ⟨(39, adq152) :: adq156, [adq144, adq154]⟩) (by kernel_rfl) ?_
  refine DW.fn (ar := [VI 9, VI 2, .v (.string (⟨#[120]⟩))]) (x' := ⟨(40, adq158) :: (39, adq152) :: adq156, [adq144, adq154]⟩) (by kernel_rfl) (by kernel_rfl) F31_call (lblock_fn 9 2 (⟨#[120]⟩)) (by kernel_rfl) (by kernel_rfl) ?_
  refine DW.fn (ar := [VI 5, VI 1, adq158]) (x' := ⟨(41, adq160) :: (40, adq158) :: (39, adq152) :: adq156, [adq144, adq154]⟩) (by kernel_rfl) (by kernel_rfl) F30_call (answer_fn 5 1 adq157) (by kernel_rfl) (by kernel_rfl) ?_
  refine DW.fn (ar := [.agg [.lst 1 (adq141.weights.map cI), VI adq141.need], adq152, adq160]) (x' := ⟨adq163, [adq144, adq154]⟩) (by kernel_rfl) (by kernel_rfl) F8_call (hear_fn adq141 adq151 adq159 (by first | assumption | decide)) (by kernel_rfl) (by kernel_rfl) ?_
  refine DW.last 8 [2, 3, 4, 5, 6, 7, 9] (x' := ⟨adq165, [adq144, adq154, adq164]⟩) (by kernel_rfl) (by kernel_rfl) ?_
  refine EL.sdraw ?_
  refine DW.fn (ar := []) (x' := ⟨adq166, [adq144, adq154, adq164]⟩) (by kernel_rfl) (by kernel_rfl) F29_call (three_fn) (by kernel_rfl) (by kernel_rfl) ?_
  refine DW.run 2 (x' := ⟨adq167, [adq144, adq154, adq164]⟩) (by kernel_rfl) ?_
  refine DW.fn (ar := [VI 5, VI 2, .agg [VI 0, VI 0, .v (.string (⟨#[]⟩))]]) (x' := ⟨(50, adq169) :: adq167, [adq144, adq154, adq164]⟩) (by kernel_rfl) (by kernel_rfl) F30_call (answer_fn 5 2 (⟨(⟨0, 0⟩ : Stamp), ⟨#[]⟩⟩ : Copy)) (by kernel_rfl) (by kernel_rfl) ?_
  refine DW.fn (ar := [.agg [.lst 1 (adq141.weights.map cI), VI adq141.need], adq152, adq169]) (x' := ⟨adq172, [adq144, adq154, adq164]⟩) (by kernel_rfl) (by kernel_rfl) F8_call (hear_fn adq141 adq151 adq168 (by first | assumption | decide)) (by kernel_rfl) (by kernel_rfl) ?_
  refine DW.last 8 [2, 3, 4, 5, 6, 7, 9, 10, 11, 12] (x' := ⟨adq174, [adq144, adq154, adq164, adq173]⟩) (by kernel_rfl) (by kernel_rfl) ?_
  refine EL.sdraw ?_
  refine DW.fn (ar := []) (x' := ⟨adq175, [adq144, adq154, adq164, adq173]⟩) (by kernel_rfl) (by kernel_rfl) F29_call (three_fn) (by kernel_rfl) (by kernel_rfl) ?_
  refine DW.run 2 (x' := ⟨adq176, [adq144, adq154, adq164, adq173]⟩) (by kernel_rfl) ?_
  refine DW.fn (ar := [.agg [.lst 1 (adq141.weights.map cI), VI adq141.need], adq171, .agg [VI 4, VI 5, VI 0, VI 0, VI 0, .v (.string (⟨#[]⟩))]]) (x' := ⟨adq179, [adq144, adq154, adq164, adq173]⟩) (by kernel_rfl) (by kernel_rfl) F8_call (hear_fn adq141 adq170 (⟨4, 5, 0, (⟨(⟨0, 0⟩ : Stamp), ⟨#[]⟩⟩ : Copy)⟩ : Msg) (by first | assumption | decide)) (by kernel_rfl) (by kernel_rfl) ?_
  refine DW.last 8 [2, 3, 4, 5, 6, 7, 9, 10, 11, 12, 13, 15] (x' := ⟨adq181, [adq144, adq154, adq164, adq173, adq180]⟩) (by kernel_rfl) (by kernel_rfl) ?_
  refine EL.sdraw ?_
  refine DW.fn (ar := []) (x' := ⟨adq182, [adq144, adq154, adq164, adq173, adq180]⟩) (by kernel_rfl) (by kernel_rfl) F29_call (three_fn) (by kernel_rfl) (by kernel_rfl) ?_
  refine DW.run 2 (x' := ⟨adq183, [adq144, adq154, adq164, adq173, adq180]⟩) (by kernel_rfl) ?_
  refine DW.fn (ar := [.agg [.lst 1 (adq141.weights.map cI), VI adq141.need], adq178, .agg [VI 4, VI 5, VI 2, VI 0, VI 0, .v (.string (⟨#[]⟩))]]) (x' := ⟨adq186, [adq144, adq154, adq164, adq173, adq180]⟩) (by kernel_rfl) (by kernel_rfl) F8_call (hear_fn adq141 adq177 (⟨4, 5, 2, (⟨(⟨0, 0⟩ : Stamp), ⟨#[]⟩⟩ : Copy)⟩ : Msg) (by first | assumption | decide)) (by kernel_rfl) (by kernel_rfl) ?_
  refine DW.last 8 [2, 3, 4, 5, 6, 7, 9, 10, 11, 12, 13, 15, 16, 18] (x' := ⟨adq188, [adq144, adq154, adq164, adq173, adq180, adq187]⟩) (by kernel_rfl) (by kernel_rfl) ?_
  refine EL.sreg ?_
  refine OW.fn (ar := [VI 1, VI 1, .v (.string (⟨#[97]⟩))]) (x' := ⟨(72, adq190) :: adq188, [adq144, adq154, adq164, adq173, adq180, adq187]⟩) (by kernel_rfl) (by kernel_rfl) F31_call (lblock_fn 1 1 (⟨#[97]⟩)) (by kernel_rfl) (by kernel_rfl) ?_
  refine OW.fn (ar := [VI 4, VI 5, .v (.string (⟨#[110, 101, 119]⟩))]) (x' := ⟨(73, adq192) :: (72, adq190) :: adq188, [adq144, adq154, adq164, adq173, adq180, adq187]⟩) (by kernel_rfl) (by kernel_rfl) F31_call (lblock_fn 4 5 (⟨#[110, 101, 119]⟩)) (by kernel_rfl) (by kernel_rfl) ?_
  refine OW.run 1 (x' := ⟨(74, adq193) :: (73, adq192) :: (72, adq190) :: adq188, [adq144, adq154, adq164, adq173, adq180, adq187]⟩) (by kernel_rfl) ?_
  refine OW.fn (ar := [adq190, adq193]) (x' := ⟨adq196, [adq144, adq154, adq164, adq173, adq180, adq187]⟩) (by kernel_rfl) (by kernel_rfl) F16_call (serve_fn adq189 (⟨3, 5, 2, adq191⟩ : Msg)) (by kernel_rfl) (by kernel_rfl) ?_
  refine OW.last 8 [2, 3, 4, 5, 6, 7, 9, 10, 11, 12, 13, 15, 16, 18, 19, 20, 21] (x' := ⟨adq198, [adq144, adq154, adq164, adq173, adq180, adq187, adq197]⟩) (by kernel_rfl) (by kernel_rfl) ?_
  refine EL.sdraw ?_
  refine DW.run 3 (x' := ⟨(81, .v (.bool (((beginA adq141 5 2 (⟨#[110, 101, 119]⟩)).2.2) == 0))) :: (80, .v (.bool (((beginA adq141 5 2 (⟨#[110, 101, 119]⟩)).2.2) == 0))) :: adq199, [adq144, adq154, adq164, adq173, adq180, adq187, adq197]⟩) (by kernel_rfl) ?_
  have h1 : (((beginA adq141 5 2 (⟨#[110, 101, 119]⟩)).2.2) == 0) = true := by first | kernel_rfl | decide
  rw [h1]
  refine DW.run 1 (x' := ⟨adq200, [adq144, adq154, adq164, adq173, adq180, adq187, adq197]⟩) (by kernel_rfl) ?_
  refine DW.ope (v := VI (List.length ((beginA adq141 5 2 (⟨#[110, 101, 119]⟩)).2.1) : Int)) (u := []) (acc := []) (x' := ⟨adq201, [adq144, adq154, adq164, adq173, adq180, adq187, adq197]⟩) (by kernel_rfl) (opE_len Msg.cs ((beginA adq141 5 2 (⟨#[110, 101, 119]⟩)).2.1) (.s 82) 6 (by kernel_rfl) (by kernel_rfl) (.inl rfl)) (by kernel_rfl) ?_
  refine DW.run 3 (x' := ⟨(86, .v (.bool ((List.length ((beginA adq141 5 2 (⟨#[110, 101, 119]⟩)).2.1) : Int) == 3))) :: (85, .v (.bool ((List.length ((beginA adq141 5 2 (⟨#[110, 101, 119]⟩)).2.1) : Int) == 3))) :: (84, .v (.bool ((List.length ((beginA adq141 5 2 (⟨#[110, 101, 119]⟩)).2.1) : Int) == 3))) :: adq201, [adq144, adq154, adq164, adq173, adq180, adq187, adq197]⟩) (by kernel_rfl) ?_
  have h2 : ((List.length ((beginA adq141 5 2 (⟨#[110, 101, 119]⟩)).2.1) : Int) == 3) = true := by first | kernel_rfl | decide
  rw [h2]
  refine DW.run 4 (x' := ⟨(90, .v (.bool (((hearA adq141 adq142 adq149).2.2) == 0))) :: (89, .v (.bool (((hearA adq141 adq142 adq149).2.2) == 0))) :: (88, .v (.bool (((hearA adq141 adq142 adq149).2.2) == 0))) :: adq202, [adq144, adq154, adq164, adq173, adq180, adq187, adq197]⟩) (by kernel_rfl) ?_
  have h3 : (((hearA adq141 adq142 adq149).2.2) == 0) = true := by first | kernel_rfl | decide
  rw [h3]
  refine DW.run 1 (x' := ⟨adq203, [adq144, adq154, adq164, adq173, adq180, adq187, adq197]⟩) (by kernel_rfl) ?_
  refine DW.ope (v := VI (List.length ((hearA adq141 adq142 adq149).2.1) : Int)) (u := []) (acc := []) (x' := ⟨adq204, [adq144, adq154, adq164, adq173, adq180, adq187, adq197]⟩) (by kernel_rfl) (opE_len Msg.cs ((hearA adq141 adq142 adq149).2.1) (.s 91) 6 (by kernel_rfl) (by kernel_rfl) (.inl rfl)) (by kernel_rfl) ?_
  refine DW.run 3 (x' := ⟨(95, .v (.bool ((List.length ((hearA adq141 adq142 adq149).2.1) : Int) == 0))) :: (94, .v (.bool ((List.length ((hearA adq141 adq142 adq149).2.1) : Int) == 0))) :: (93, .v (.bool ((List.length ((hearA adq141 adq142 adq149).2.1) : Int) == 0))) :: adq204, [adq144, adq154, adq164, adq173, adq180, adq187, adq197]⟩) (by kernel_rfl) ?_
  have h4 : ((List.length ((hearA adq141 adq142 adq149).2.1) : Int) == 0) = true := by first | kernel_rfl | decide
  rw [h4]
  refine DW.run 4 (x' := ⟨(99, .v (.bool (((hearA adq141 adq151 adq159).2.2) == 0))) :: (98, .v (.bool (((hearA adq141 adq151 adq159).2.2) == 0))) :: (97, .v (.bool (((hearA adq141 adq151 adq159).2.2) == 0))) :: adq205, [adq144, adq154, adq164, adq173, adq180, adq187, adq197]⟩) (by kernel_rfl) ?_
  have h5 : (((hearA adq141 adq151 adq159).2.2) == 0) = true := by first | kernel_rfl | decide
  rw [h5]
  refine DW.run 5 (x' := ⟨(104, .v (.bool ((adq161.op == adq151.op) && ((adq161.kind == adq151.kind) && ((adq161.phase == adq151.phase) && (strEq adq161.data adq151.data && ((adq161.best.at_.time == adq151.best.at_.time) && ((adq161.best.at_.who == adq151.best.at_.who) && (strEq adq161.best.data adq151.best.data && (((adq161.heard.n : Int) == (adq151.heard.n : Int)) && true)))))))))) :: (103, .v (.bool ((adq161.op == adq151.op) && ((adq161.kind == adq151.kind) && ((adq161.phase == adq151.phase) && (strEq adq161.data adq151.data && ((adq161.best.at_.time == adq151.best.at_.time) && ((adq161.best.at_.who == adq151.best.at_.who) && (strEq adq161.best.data adq151.best.data && (((adq161.heard.n : Int) == (adq151.heard.n : Int)) && true)))))))))) :: (102, .v (.bool ((adq161.op == adq151.op) && ((adq161.kind == adq151.kind) && ((adq161.phase == adq151.phase) && (strEq adq161.data adq151.data && ((adq161.best.at_.time == adq151.best.at_.time) && ((adq161.best.at_.who == adq151.best.at_.who) && (strEq adq161.best.data adq151.best.data && (((adq161.heard.n : Int) == (adq151.heard.n : Int)) && true)))))))))) :: adq206, [adq144, adq154, adq164, adq173, adq180, adq187, adq197]⟩) (by kernel_rfl) ?_
  have h6 : ((adq161.op == adq151.op) && ((adq161.kind == adq151.kind) && ((adq161.phase == adq151.phase) && (strEq adq161.data adq151.data && ((adq161.best.at_.time == adq151.best.at_.time) && ((adq161.best.at_.who == adq151.best.at_.who) && (strEq adq161.best.data adq151.best.data && (((adq161.heard.n : Int) == (adq151.heard.n : Int)) && true)))))))) = true := by first | kernel_rfl | decide
  rw [h6]
  refine DW.run 4 (x' := ⟨(108, .v (.bool (((hearA adq141 adq151 adq168).2.2) == 0))) :: (107, .v (.bool (((hearA adq141 adq151 adq168).2.2) == 0))) :: (106, .v (.bool (((hearA adq141 adq151 adq168).2.2) == 0))) :: adq207, [adq144, adq154, adq164, adq173, adq180, adq187, adq197]⟩) (by kernel_rfl) ?_
  have h7 : (((hearA adq141 adq151 adq168).2.2) == 0) = true := by first | kernel_rfl | decide
  rw [h7]
  refine DW.run 2 (x' := ⟨adq209, [adq144, adq154, adq164, adq173, adq180, adq187, adq197]⟩) (by kernel_rfl) ?_
  refine DW.fn (ar := [VI 4, VI 5, .v (.string (⟨#[110, 101, 119]⟩))]) (x' := ⟨(111, adq192) :: adq209, [adq144, adq154, adq164, adq173, adq180, adq187, adq197]⟩) (by kernel_rfl) (by kernel_rfl) F31_call (lblock_fn 4 5 (⟨#[110, 101, 119]⟩)) (by kernel_rfl) (by kernel_rfl) ?_
  refine DW.run 3 (x' := ⟨(114, .v (.bool ((adq170.best.at_.time == adq191.at_.time) && ((adq170.best.at_.who == adq191.at_.who) && (strEq adq170.best.data adq191.data && true))))) :: (113, .v (.bool ((adq170.best.at_.time == adq191.at_.time) && ((adq170.best.at_.who == adq191.at_.who) && (strEq adq170.best.data adq191.data && true))))) :: (112, .v (.bool ((adq170.best.at_.time == adq191.at_.time) && ((adq170.best.at_.who == adq191.at_.who) && (strEq adq170.best.data adq191.data && true))))) :: (111, adq192) :: adq209, [adq144, adq154, adq164, adq173, adq180, adq187, adq197]⟩) (by kernel_rfl) ?_
  have h8 : ((adq170.best.at_.time == adq191.at_.time) && ((adq170.best.at_.who == adq191.at_.who) && (strEq adq170.best.data adq191.data && true))) = true := by first | kernel_rfl | decide
  rw [h8]
  refine DW.run 1 (x' := ⟨adq210, [adq144, adq154, adq164, adq173, adq180, adq187, adq197]⟩) (by kernel_rfl) ?_
  refine DW.ope (v := VI (List.length ((hearA adq141 adq151 adq168).2.1) : Int)) (u := []) (acc := []) (x' := ⟨adq211, [adq144, adq154, adq164, adq173, adq180, adq187, adq197]⟩) (by kernel_rfl) (opE_len Msg.cs ((hearA adq141 adq151 adq168).2.1) (.s 115) 6 (by kernel_rfl) (by kernel_rfl) (.inl rfl)) (by kernel_rfl) ?_
  refine DW.run 3 (x' := ⟨(119, .v (.bool ((List.length ((hearA adq141 adq151 adq168).2.1) : Int) == 3))) :: (118, .v (.bool ((List.length ((hearA adq141 adq151 adq168).2.1) : Int) == 3))) :: (117, .v (.bool ((List.length ((hearA adq141 adq151 adq168).2.1) : Int) == 3))) :: adq211, [adq144, adq154, adq164, adq173, adq180, adq187, adq197]⟩) (by kernel_rfl) ?_
  have h9 : ((List.length ((hearA adq141 adq151 adq168).2.1) : Int) == 3) = true := by first | kernel_rfl | decide
  rw [h9]
  refine DW.run 1 (x' := ⟨adq213, [adq144, adq154, adq164, adq173, adq180, adq187, adq197]⟩) (by kernel_rfl) ?_
  have hq11 : ((hearA adq141 adq151 adq168).2.1)[(2 : Int).toNat]? = some adq212 := by kernel_rfl
  refine DW.ope (v := .pim [VI adq212.kind, VI adq212.op, VI adq212.node, VI adq212.copy.at_.time, VI adq212.copy.at_.who, .v (.string adq212.copy.data)] 0) (u := []) (acc := []) (x' := ⟨adq214, [adq144, adq154, adq164, adq173, adq180, adq187, adq197]⟩) (by kernel_rfl) (opE_iad Msg.cs ((hearA adq141 adq151 adq168).2.1) (.s 120) (.c (VI 2)) 6 .i64 2 adq212 (by kernel_rfl) (by kernel_rfl) (.inl rfl) rfl (by first | omega | exact of_decide_eq_true (by kernel_rfl)) hq11) (by kernel_rfl) ?_
  refine DW.run 7 (x' := ⟨(128, .v (.bool ((adq212.copy.at_.time == adq170.best.at_.time) && ((adq212.copy.at_.who == adq170.best.at_.who) && (strEq adq212.copy.data adq170.best.data && true))))) :: (127, .v (.bool ((adq212.copy.at_.time == adq170.best.at_.time) && ((adq212.copy.at_.who == adq170.best.at_.who) && (strEq adq212.copy.data adq170.best.data && true))))) :: (126, .v (.bool ((adq212.copy.at_.time == adq170.best.at_.time) && ((adq212.copy.at_.who == adq170.best.at_.who) && (strEq adq212.copy.data adq170.best.data && true))))) :: adq216, [adq144, adq154, adq164, adq173, adq180, adq187, adq197]⟩) (by kernel_rfl) ?_
  have h12 : ((adq212.copy.at_.time == adq170.best.at_.time) && ((adq212.copy.at_.who == adq170.best.at_.who) && (strEq adq212.copy.data adq170.best.data && true))) = true := by first | kernel_rfl | decide
  rw [h12]
  refine DW.run 4 (x' := ⟨(132, .v (.bool (((hearA adq141 adq170 (⟨4, 5, 0, (⟨(⟨0, 0⟩ : Stamp), ⟨#[]⟩⟩ : Copy)⟩ : Msg)).2.2) == 0))) :: (131, .v (.bool (((hearA adq141 adq170 (⟨4, 5, 0, (⟨(⟨0, 0⟩ : Stamp), ⟨#[]⟩⟩ : Copy)⟩ : Msg)).2.2) == 0))) :: (130, .v (.bool (((hearA adq141 adq170 (⟨4, 5, 0, (⟨(⟨0, 0⟩ : Stamp), ⟨#[]⟩⟩ : Copy)⟩ : Msg)).2.2) == 0))) :: adq217, [adq144, adq154, adq164, adq173, adq180, adq187, adq197]⟩) (by kernel_rfl) ?_
  have h13 : (((hearA adq141 adq170 (⟨4, 5, 0, (⟨(⟨0, 0⟩ : Stamp), ⟨#[]⟩⟩ : Copy)⟩ : Msg)).2.2) == 0) = true := by first | kernel_rfl | decide
  rw [h13]
  refine DW.run 5 (x' := ⟨(137, .v (.bool (adq177.phase == 2))) :: (136, .v (.bool (adq177.phase == 2))) :: (135, .v (.bool (adq177.phase == 2))) :: adq218, [adq144, adq154, adq164, adq173, adq180, adq187, adq197]⟩) (by kernel_rfl) ?_
  have h14 : (adq177.phase == 2) = true := by first | kernel_rfl | decide
  rw [h14]
  refine DW.run 4 (x' := ⟨(141, .v (.bool (((hearA adq141 adq177 (⟨4, 5, 2, (⟨(⟨0, 0⟩ : Stamp), ⟨#[]⟩⟩ : Copy)⟩ : Msg)).2.2) == 0))) :: (140, .v (.bool (((hearA adq141 adq177 (⟨4, 5, 2, (⟨(⟨0, 0⟩ : Stamp), ⟨#[]⟩⟩ : Copy)⟩ : Msg)).2.2) == 0))) :: (139, .v (.bool (((hearA adq141 adq177 (⟨4, 5, 2, (⟨(⟨0, 0⟩ : Stamp), ⟨#[]⟩⟩ : Copy)⟩ : Msg)).2.2) == 0))) :: adq219, [adq144, adq154, adq164, adq173, adq180, adq187, adq197]⟩) (by kernel_rfl) ?_
  have h15 : (((hearA adq141 adq177 (⟨4, 5, 2, (⟨(⟨0, 0⟩ : Stamp), ⟨#[]⟩⟩ : Copy)⟩ : Msg)).2.2) == 0) = true := by first | kernel_rfl | decide
  rw [h15]
  refine DW.run 5 (x' := ⟨(146, .v (.bool (adq184.phase == 3))) :: (145, .v (.bool (adq184.phase == 3))) :: (144, .v (.bool (adq184.phase == 3))) :: adq220, [adq144, adq154, adq164, adq173, adq180, adq187, adq197]⟩) (by kernel_rfl) ?_
  have h16 : (adq184.phase == 3) = true := by first | kernel_rfl | decide
  rw [h16]
  refine DW.run 4 (x' := ⟨(150, .v (.bool (((serveA adq189 (⟨3, 5, 2, adq191⟩ : Msg)).2.2) == 0))) :: (149, .v (.bool (((serveA adq189 (⟨3, 5, 2, adq191⟩ : Msg)).2.2) == 0))) :: (148, .v (.bool (((serveA adq189 (⟨3, 5, 2, adq191⟩ : Msg)).2.2) == 0))) :: adq221, [adq144, adq154, adq164, adq173, adq180, adq187, adq197]⟩) (by kernel_rfl) ?_
  have h17 : (((serveA adq189 (⟨3, 5, 2, adq191⟩ : Msg)).2.2) == 0) = true := by first | kernel_rfl | decide
  rw [h17]
  refine DW.run 6 (x' := ⟨(156, .v (.bool ((adq194.at_.time == adq170.best.at_.time) && ((adq194.at_.who == adq170.best.at_.who) && (strEq adq194.data adq170.best.data && true))))) :: (155, .v (.bool ((adq194.at_.time == adq170.best.at_.time) && ((adq194.at_.who == adq170.best.at_.who) && (strEq adq194.data adq170.best.data && true))))) :: (154, .v (.bool ((adq194.at_.time == adq170.best.at_.time) && ((adq194.at_.who == adq170.best.at_.who) && (strEq adq194.data adq170.best.data && true))))) :: adq222, [adq144, adq154, adq164, adq173, adq180, adq187, adq197]⟩) (by kernel_rfl) ?_
  have h18 : ((adq194.at_.time == adq170.best.at_.time) && ((adq194.at_.who == adq170.best.at_.who) && (strEq adq194.data adq170.best.data && true))) = true := by first | kernel_rfl | decide
  rw [h18]
  refine DW.run 1 (x' := ⟨adq223, [adq144, adq154, adq164, adq173, adq180, adq187, adq197]⟩) (by kernel_rfl) ?_
  refine DW.ope (v := VI (List.length ((serveA adq189 (⟨3, 5, 2, adq191⟩ : Msg)).2.1) : Int)) (u := []) (acc := []) (x' := ⟨adq224, [adq144, adq154, adq164, adq173, adq180, adq187, adq197]⟩) (by kernel_rfl) (opE_len Msg.cs ((serveA adq189 (⟨3, 5, 2, adq191⟩ : Msg)).2.1) (.s 157) 6 (by kernel_rfl) (by kernel_rfl) (.inl rfl)) (by kernel_rfl) ?_
  refine DW.run 3 (x' := ⟨(161, .v (.bool ((List.length ((serveA adq189 (⟨3, 5, 2, adq191⟩ : Msg)).2.1) : Int) == 1))) :: (160, .v (.bool ((List.length ((serveA adq189 (⟨3, 5, 2, adq191⟩ : Msg)).2.1) : Int) == 1))) :: (159, .v (.bool ((List.length ((serveA adq189 (⟨3, 5, 2, adq191⟩ : Msg)).2.1) : Int) == 1))) :: adq224, [adq144, adq154, adq164, adq173, adq180, adq187, adq197]⟩) (by kernel_rfl) ?_
  have h19 : ((List.length ((serveA adq189 (⟨3, 5, 2, adq191⟩ : Msg)).2.1) : Int) == 1) = true := by first | kernel_rfl | decide
  rw [h19]
  refine DW.run 1 (x' := ⟨adq226, [adq144, adq154, adq164, adq173, adq180, adq187, adq197]⟩) (by kernel_rfl) ?_
  have hq21 : ((serveA adq189 (⟨3, 5, 2, adq191⟩ : Msg)).2.1)[(0 : Int).toNat]? = some adq225 := by kernel_rfl
  refine DW.ope (v := .pim [VI adq225.kind, VI adq225.op, VI adq225.node, VI adq225.copy.at_.time, VI adq225.copy.at_.who, .v (.string adq225.copy.data)] 0) (u := []) (acc := []) (x' := ⟨adq227, [adq144, adq154, adq164, adq173, adq180, adq187, adq197]⟩) (by kernel_rfl) (opE_iad Msg.cs ((serveA adq189 (⟨3, 5, 2, adq191⟩ : Msg)).2.1) (.s 162) (.c (VI 0)) 6 .i64 0 adq225 (by kernel_rfl) (by kernel_rfl) (.inl rfl) rfl (by first | omega | exact of_decide_eq_true (by kernel_rfl)) hq21) (by kernel_rfl) ?_
  refine DW.last 5 [0] (x' := ⟨[(0, .v (.bool ((adq225.kind == 4) && ((adq225.op == 5) && ((adq225.node == 2) && ((adq225.copy.at_.time == 0) && ((adq225.copy.at_.who == 0) && (strEq adq225.copy.data (⟨#[]⟩) && true))))))))], [adq144, adq154, adq164, adq173, adq180, adq187, adq197]⟩) (by kernel_rfl) (by kernel_rfl) ?_
  refine EL.ret ?_
  refine ⟨.inr rfl, .v (.bool ((adq225.kind == 4) && ((adq225.op == 5) && ((adq225.node == 2) && ((adq225.copy.at_.time == 0) && ((adq225.copy.at_.who == 0) && (strEq adq225.copy.data (⟨#[]⟩) && true))))))), by kernel_rfl, Ale.of_eq ?_⟩
  focus (rfl)
end Go.Proofs.YtgepadjkegfokaaDoor
