/- What the references for operations answer. No condition. -/
import Derived.Test.YtgepadjkegfokaaDoorPAskC
set_option maxRecDepth 100000
set_option maxHeartbeats 4000000
set_option linter.unusedVariables false
set_option linter.unusedSimpArgs false
namespace Go.Proofs.YtgepadjkegfokaaDoor
def badC : List Copy → Int
  | [] => 0
  | c :: r => if c.checkE ≠ 0 then c.checkE else badC r
/-- Is one of these above a stamp? -/
def aboveC (s : Stamp) : List Copy → Bool
  | [] => false
  | c :: r => decide (s.lt c.at_) || aboveC s r
def topC (l : List Copy) : List Copy → Copy
  | [] => Copy.zero
  | c :: r => if aboveC c.at_ l = true then topC l r else c
def mergedP (l : List Copy) : Copy × Int := if l.length > 12 then (Copy.zero, 2) else if badC l ≠ 0 then (Copy.zero, badC l) else (topC l l, 0)
theorem lt_irrefl' {s : Stamp} : ¬ s.lt s := by unfold Stamp.lt; omega
theorem lt_asymm' {s t : Stamp} (h : s.lt t) : ¬ t.lt s := by unfold Stamp.lt at *; omega
theorem merged_two {c d : Copy} (hc : c.checkE = 0) (hd : d.checkE = 0) : mergedP [c, d] = (c.raw d, 0) := by
  have hb : badC [c, d] = 0 := by simp [badC, hc, hd]
  unfold mergedP
  rw [if_neg (by simp), if_neg (fun h => h hb)]
  unfold Copy.raw
  by_cases h : c.at_.lt d.at_
  · simp [topC, aboveC, h, lt_irrefl', lt_asymm' h]
  · simp [topC, aboveC, h, lt_irrefl']
theorem enough_iff {ws : List Int} {need : Int} {x : Nat} (h : qcheckP ws need = 0) (hx : x < 2 ^ ws.length) : (enoughP ws need x).1 = true ↔ ¬ bsum ws x < need := by
  unfold enoughP
  rw [if_neg (fun hh => hh h), sumP_0 (qc_nodes h) hx]
  simp
theorem msg_kind {m : Msg} (h : m.checkE = 0) : 1 ≤ m.kind ∧ m.kind ≤ 4 := by
  unfold Msg.checkE at h
  by_cases h1 : 1 ≤ m.kind ∧ m.kind ≤ 4
  · exact h1
  · rw [if_pos h1] at h; simp at h
theorem max_zero {s : Stamp} (h : s.okS) (hl : ¬ (⟨0, 0⟩ : Stamp).lt s) : s = ⟨0, 0⟩ := by
  unfold Stamp.okS at h; unfold Stamp.lt at hl
  obtain ⟨t, w⟩ := s
  dsimp only at *
  rw [Stamp.mk.injEq]; omega
theorem hearA_eq {v : Voters} {a : Ask} {m : Msg} (ha : a.checkE v.weights v.need = 0) (hm : m.checkE = 0) : hearA v a m = if (hearT v a m).2.2 = true then ((hearT v a m).1, (hearT v a m).2.1, 0) else (a, [], 0) := by
  unfold hearA; rw [if_neg (fun hh => hh ha), if_neg (fun hh => hh hm)]
theorem hearT_no {v : Voters} {a : Ask} {m : Msg} (h : m.op ≠ a.op ∨ m.kind ≠ wantsA a.phase ∨ m.node ≥ v.weights.length ∨ inS a.heard.n m.node.toNat = true) : hearT v a m = (a, [], false) := by
  unfold hearT
  rw [if_pos]
  rcases h with h | h | h | h
  · exact .inl h
  · exact .inr (.inl h)
  · exact .inr (.inr (.inl h))
  · exact .inr (.inr (.inr fun hh => by rw [and_bit.1 hh] at h; simp at h))
theorem hearT_few {v : Voters} {a : Ask} {m : Msg} (ha : a.checkE v.weights v.need = 0) (hm : m.checkE = 0) (h1 : m.op = a.op) (h2 : m.kind = wantsA a.phase) (h3 : ¬ m.node ≥ v.weights.length) (h4 : inS a.heard.n m.node.toNat = false) :
    hearT v a m = if bsum v.weights (orU a.heard m.node.toNat).n < v.need then (heardA a m, [], true)
      else if a.phase = 2 then ({ heardA a m with phase := 3 }, [], true)
      else if a.kind = 1 then ({ heardA a m with phase := 2, heard := ⟨0, by decide⟩ }, toAllM v.weights.length ⟨3, a.op, 0, (heardA a m).best⟩, true)
      else if (nextP (heardA a m).best.at_ a.op).2 = 0 then ({ heardA a m with phase := 2, heard := ⟨0, by decide⟩, best := ⟨(nextP (heardA a m).best.at_ a.op).1, a.data⟩ }, toAllM v.weights.length ⟨3, a.op, 0, ⟨(nextP (heardA a m).best.at_ a.op).1, a.data⟩⟩, true)
      else ({ heardA a m with best := ⟨(nextP (heardA a m).best.at_ a.op).1, a.data⟩ }, [], false) := by
  have hq := ask_ok ha
  have hn := (msg_node hm).1
  have hs : (orU a.heard m.node.toNat).n < 2 ^ v.weights.length := or_sub hq.2.2.2.2.2.2.2 (by omega) (qc_len hq.1)
  have he := enough_iff hq.1 hs
  unfold hearT
  rw [if_neg]
  · by_cases hb : bsum v.weights (orU a.heard m.node.toNat).n < v.need
    · rw [if_pos (fun hh => he.1 hh hb), if_pos hb]
    · rw [if_neg (fun hh => hh (he.2 hb)), if_neg hb]
  · rintro (h | h | h | h)
    · exact h h1
    · exact h h2
    · exact h3 h
    · exact h (and_bit.2 h4)
abbrev adq0 (l : List Copy) : LS := [(9, .lst 3 (l.map Copy.cs)), (2, .ref 0 3 0 0), (0, .lst 3 (l.map Copy.cs))]
abbrev adq1 (l : List Copy) : LS := [(4, VI 0), (2, .ref 0 3 0 0), (0, .lst 3 (l.map Copy.cs))]
abbrev adq2 (l : List Copy) (k : Nat) : LS := [(0, .lst 3 (l.map Copy.cs)), (2, .ref 0 3 0 0), (4, VI (k : Int))]
abbrev adq3 (l : List Copy) (k : Nat) : LS := (14, .lst 3 (l.map Copy.cs)) :: (13, VI (k : Int)) :: (adq2 l k)
abbrev adq4 (k : Nat) (l : List Copy) : LS := (20, VI (k : Int)) :: (19, .lst 3 (l.map Copy.cs)) :: (16, .v (.bool true)) :: (adq2 l k)
abbrev adq5 (a5 : Copy) (k : Nat) (l : List Copy) : LS := (21, .pim [VI a5.at_.time, VI a5.at_.who, .v (.string a5.data)] 0) :: (adq4 k l)
abbrev adq6 (a5 : Copy) (k : Nat) (l : List Copy) : LS := (22, .agg [VI a5.at_.time, VI a5.at_.who, .v (.string a5.data)]) :: (adq5 a5 k l)
abbrev adq7 (k : Nat) (a5 : Copy) (l : List Copy) : LS := [(17, VI (k : Int)), (25, .v (.bool false)), (5, VI a5.checkE), (0, .lst 3 (l.map Copy.cs)), (2, .ref 0 3 0 0)]
abbrev adq8 (k : Nat) (a5 : Copy) (l : List Copy) : LS := (4, VI ((k : Int) + 1)) :: (18, VI ((k : Int) + 1)) :: (adq7 k a5 l)
abbrev adq9 (l : List Copy) : LS := [(6, VI 0), (0, .lst 3 (l.map Copy.cs)), (2, .ref 0 3 0 0)]
abbrev adq10 (l : List Copy) (j : Nat) : LS := [(0, .lst 3 (l.map Copy.cs)), (2, .ref 0 3 0 0), (6, VI (j : Int))]
abbrev adq11 (l : List Copy) (j : Nat) : LS := (29, .lst 3 (l.map Copy.cs)) :: (28, VI (j : Int)) :: (adq10 l j)
abbrev adq12 (l : List Copy) (j : Nat) (i : Nat) : LS := [(7, .v (.bool true)), (53, .v (.bool true)), (52, .v undef), (51, .v undef), (50, .v undef), (49, .v undef), (48, .v undef), (47, .v undef), (46, .v undef), (45, .v undef), (44, .v undef), (43, .v undef), (42, .v undef), (41, .v (.bool true)), (40, .v (.bool true)), (37, .v (.bool true)), (0, .lst 3 (l.map Copy.cs)), (2, .ref 0 3 0 0), (6, VI (j : Int)), (8, VI (i : Int))]
abbrev adq13 (i : Nat) (l : List Copy) (j : Nat) : LS := (38, VI (i : Int)) :: (7, .v (.bool true)) :: (53, .v (.bool true)) :: (52, .v undef) :: (51, .v undef) :: (50, .v undef) :: (49, .v undef) :: (48, .v undef) :: (47, .v undef) :: (46, .v undef) :: (45, .v undef) :: (44, .v undef) :: (43, .v undef) :: (42, .v undef) :: (41, .v (.bool true)) :: (40, .v (.bool true)) :: (37, .v (.bool true)) :: (adq10 l j)
abbrev adq14 (i : Nat) (l : List Copy) (j : Nat) : LS := (8, VI ((i : Int) + 1)) :: (39, VI ((i : Int) + 1)) :: (adq13 i l j)
abbrev adq15 (j : Nat) (l : List Copy) (i : Nat) : LS := [(43, VI (j : Int)), (42, .lst 3 (l.map Copy.cs)), (41, .v (.bool false)), (40, .v (.bool false)), (37, .v (.bool true)), (0, .lst 3 (l.map Copy.cs)), (2, .ref 0 3 0 0), (6, VI (j : Int)), (7, .v (.bool false)), (8, VI (i : Int))]
abbrev adq16 (a15 : Copy) (j : Nat) (l : List Copy) (i : Nat) : LS := (44, .pim [VI a15.at_.time, VI a15.at_.who, .v (.string a15.data)] 0) :: (adq15 j l i)
abbrev adq17 (i : Nat) (l : List Copy) (a15 : Copy) (j : Nat) : LS := (48, VI (i : Int)) :: (47, .lst 3 (l.map Copy.cs)) :: (46, .agg [VI a15.at_.time, VI a15.at_.who]) :: (45, .pim [VI a15.at_.time, VI a15.at_.who, .v (.string a15.data)] 0) :: (adq16 a15 j l i)
abbrev adq18 (a17 : Copy) (i : Nat) (l : List Copy) (a15 : Copy) (j : Nat) : LS := (49, .pim [VI a17.at_.time, VI a17.at_.who, .v (.string a17.data)] 0) :: (adq17 i l a15 j)
abbrev adq19 (a17 : Copy) (i : Nat) (l : List Copy) (a15 : Copy) (j : Nat) : LS := (51, .agg [VI a17.at_.time, VI a17.at_.who]) :: (50, .pim [VI a17.at_.time, VI a17.at_.who, .v (.string a17.data)] 0) :: (adq18 a17 i l a15 j)
abbrev adq20 (a17 : Copy) (i : Nat) (l : List Copy) (a15 : Copy) (j : Nat) : LS := [(51, .agg [VI a17.at_.time, VI a17.at_.who]), (50, .pim [VI a17.at_.time, VI a17.at_.who, .v (.string a17.data)] 0), (49, .pim [VI a17.at_.time, VI a17.at_.who, .v (.string a17.data)] 0), (48, VI (i : Int)), (47, .lst 3 (l.map Copy.cs)), (46, .agg [VI a15.at_.time, VI a15.at_.who]), (45, .pim [VI a15.at_.time, VI a15.at_.who, .v (.string a15.data)] 0), (44, .pim [VI a15.at_.time, VI a15.at_.who, .v (.string a15.data)] 0), (43, VI (j : Int)), (42, .lst 3 (l.map Copy.cs)), (41, .v (.bool false)), (40, .v (.bool false)), (37, .v (.bool true)), (0, .lst 3 (l.map Copy.cs)), (2, .ref 0 3 0 0), (6, VI (j : Int)), (8, VI (i : Int))]
abbrev adq21 (a17 : Copy) (i : Nat) (l : List Copy) (a15 : Copy) (j : Nat) : LS := (51, .agg [VI a17.at_.time, VI a17.at_.who]) :: (50, .pim [VI a17.at_.time, VI a17.at_.who, .v (.string a17.data)] 0) :: (49, .pim [VI a17.at_.time, VI a17.at_.who, .v (.string a17.data)] 0) :: (48, VI (i : Int)) :: (47, .lst 3 (l.map Copy.cs)) :: (46, .agg [VI a15.at_.time, VI a15.at_.who]) :: (45, .pim [VI a15.at_.time, VI a15.at_.who, .v (.string a15.data)] 0) :: (44, .pim [VI a15.at_.time, VI a15.at_.who, .v (.string a15.data)] 0) :: (43, VI (j : Int)) :: (42, .lst 3 (l.map Copy.cs)) :: (41, .v (.bool false)) :: (40, .v (.bool false)) :: (37, .v (.bool true)) :: (adq10 l j)
abbrev adq22 (j : Nat) (l : List Copy) : LS := [(32, VI (j : Int)), (55, .v (.bool false)), (0, .lst 3 (l.map Copy.cs)), (2, .ref 0 3 0 0)]
abbrev adq23 (j : Nat) (l : List Copy) : LS := (6, VI ((j : Int) + 1)) :: (33, VI ((j : Int) + 1)) :: (adq22 j l)
abbrev adq24 (j : Nat) (l : List Copy) : LS := (57, VI (j : Int)) :: (56, .lst 3 (l.map Copy.cs)) :: (55, .v (.bool true)) :: (adq10 l j)
abbrev adq25 (a22 : Copy) (j : Nat) (l : List Copy) : LS := (58, .pim [VI a22.at_.time, VI a22.at_.who, .v (.string a22.data)] 0) :: (adq24 j l)
abbrev adq26 (a22 : Copy) : OB := some ⟨3, [[VI a22.at_.time, VI a22.at_.who, .v (.string a22.data)]]⟩
abbrev adq27 (a22 : Copy) : AV := .agg [VI a22.at_.time, VI a22.at_.who, .v (.string a22.data)]
theorem merged_fn (l : List Copy) (hx : l.length ≤ 9223372036854775807) : Fn Tryd.prog 25 [.lst 3 (l.map Copy.cs)] (.tup [.agg [VI ((((mergedP l).1).at_).time), VI ((((mergedP l).1).at_).who), .v (.string (((mergedP l).1).data))], VI ((mergedP l).2)]) := by
  refine fn_walkW F25_ok (of_decide_eq_true (by kernel_rfl)) ?_
  refine EL.sreg ?_
  refine OW.last 2 [0, 2] (x' := ⟨[(2, .ref 0 3 0 0), (0, .lst 3 (l.map Copy.cs))], [some ⟨3, [[VI 0, VI 0, .v (.string (⟨#[]⟩))]]⟩]⟩) (by kernel_rfl) (by kernel_rfl) ?_
  refine EL.seq ?_
  refine EL.sreg ?_
  refine OW.run 1 (x' := ⟨(adq0 l), [some ⟨3, [[VI 0, VI 0, .v (.string (⟨#[]⟩))]]⟩]⟩) (by kernel_rfl) ?_
  refine OW.ope (v := VI (List.length l : Int)) (u := []) (acc := []) (x' := ⟨(10, VI (List.length l : Int)) :: (adq0 l), [some ⟨3, [[VI 0, VI 0, .v (.string (⟨#[]⟩))]]⟩]⟩) (by kernel_rfl) (opE_len Copy.cs l (.s 9) 3 (by kernel_rfl) (by kernel_rfl) (.inl rfl)) (by kernel_rfl) ?_
  refine OW.last 1 [0, 2, 11] (x' := ⟨[(11, .v (.bool (decide ((List.length l : Int) > 12)))), (2, .ref 0 3 0 0), (0, .lst 3 (l.map Copy.cs))], [some ⟨3, [[VI 0, VI 0, .v (.string (⟨#[]⟩))]]⟩]⟩) (by kernel_rfl) (by kernel_rfl) ?_
  rcases Bool.eq_false_or_eq_true (decide ((List.length l : Int) > 12)) with h1 | h1
  rw [h1]
  have g1 : ((List.length l : Int) > 12) := of_decide_eq_true h1
  have n1 : ((List.length l) > 12) := by omega
  refine EL.condT (by kernel_rfl) ?_
  refine EL.sreg ?_
  refine OW.last 3 [2, 3] (x' := ⟨[(3, VI 2), (2, .ref 0 3 0 0)], [some ⟨3, [[VI 0, VI 0, .v (.string (⟨#[]⟩))]]⟩]⟩) (by kernel_rfl) (by kernel_rfl) ?_
  refine EL.ret ?_
  refine thenL_ret ?_
  refine ⟨.inr rfl, .tup [.agg [VI 0, VI 0, .v (.string (⟨#[]⟩))], VI 2], by kernel_rfl, Ale.of_eq ?_⟩
  focus (first | (rw [mergedP, if_pos (by omega)]; rfl) | (have hb9 : badC l ≠ 0 := (by rw [hs, ‹l.drop k = _›, badC, if_pos (by assumption)]; assumption); rw [mergedP, if_neg (by omega), if_pos hb9, hs, ‹l.drop k = _›, badC, if_pos (by assumption)]; rfl) | (rw [mergedP, if_neg (by omega), if_neg (fun hh => hh hb), ht, List.drop_eq_nil_of_le (by omega)]; rfl) | (have hq := ha _ (by assumption); rw [List.drop_eq_nil_of_le (by omega)] at hq; rw [mergedP, if_neg (by omega), if_neg (fun hh => hh hb), ht, ‹l.drop j = _›, topC, if_neg (by rw [← hq]; simp [*, aboveC])]))
  rw [h1]
  have g1 : ¬ ((List.length l : Int) > 12) := of_decide_eq_false h1
  have n1 : ¬ ((List.length l) > 12) := by omega
  refine EL.condF (by kernel_rfl) ?_
  refine EL.skip ?_
  refine thenL_norm ?_
  refine EL.seq ?_
  refine EL.sreg ?_
  refine OW.last 1 [0, 2, 4] (x' := ⟨(adq1 l), [some ⟨3, [[VI 0, VI 0, .v (.string (⟨#[]⟩))]]⟩]⟩) (by kernel_rfl) (by kernel_rfl) ?_
  refine EL.block ?_
  refine EL.loopN (fun mM xX => ∃ (k : Nat), mM = l.length - k ∧ (k ≤ l.length ∧ l.length ≤ 12 ∧ badC l = badC (l.drop k)) ∧ xX = ⟨(adq2 l k), [some ⟨3, [[VI 0, VI 0, .v (.string (⟨#[]⟩))]]⟩]⟩) (y := (fun (k : Nat) => (⟨(adq2 l k), [some ⟨3, [[VI 0, VI 0, .v (.string (⟨#[]⟩))]]⟩]⟩ : L3)) 0) [0, 2, 4] [.old 0 false] [] (by kernel_rfl) trivial ⟨0, rfl, by simp; omega, rfl⟩ ?_
  rintro _ _ ⟨k, rfl, hI2, rfl⟩
  obtain ⟨hk, hl, hs⟩ := hI2
  refine EL.seq ?_
  refine EL.sreg ?_
  refine OW.run 2 (x' := ⟨(adq3 l k), [some ⟨3, [[VI 0, VI 0, .v (.string (⟨#[]⟩))]]⟩]⟩) (by kernel_rfl) ?_
  refine OW.ope (v := VI (List.length l : Int)) (u := []) (acc := []) (x' := ⟨(15, VI (List.length l : Int)) :: (adq3 l k), [some ⟨3, [[VI 0, VI 0, .v (.string (⟨#[]⟩))]]⟩]⟩) (by kernel_rfl) (opE_len Copy.cs l (.s 14) 3 (by kernel_rfl) (by kernel_rfl) (.inl rfl)) (by kernel_rfl) ?_
  refine OW.last 1 [0, 2, 4, 16] (x' := ⟨(16, .v (.bool (decide ((k : Int) < (List.length l : Int))))) :: (adq2 l k), [some ⟨3, [[VI 0, VI 0, .v (.string (⟨#[]⟩))]]⟩]⟩) (by kernel_rfl) (by kernel_rfl) ?_
  rcases Bool.eq_false_or_eq_true (decide ((k : Int) < (List.length l : Int))) with h3 | h3
  rw [h3]
  have g3 : ((k : Int) < (List.length l : Int)) := of_decide_eq_true h3
  have n3 : ((k) < (List.length l)) := by omega
  refine EL.condT (by kernel_rfl) ?_
  refine EL.skip ?_
  refine thenL_norm ?_
  refine EL.seq ?_
  refine EL.block ?_
  refine EL.sreg ?_
  refine OW.run 2 (x' := ⟨(adq4 k l), [some ⟨3, [[VI 0, VI 0, .v (.string (⟨#[]⟩))]]⟩]⟩) (by kernel_rfl) ?_
  obtain ⟨a5, ha5⟩ : ∃ y, l[((k : Int) : Int).toNat]? = some y := idx_ex ⟨by omega, by omega⟩
  have iha5 : l[k]? = some a5 := by simpa using ha5
  have dha5 := drop_get iha5
  refine OW.ope (v := .pim [VI a5.at_.time, VI a5.at_.who, .v (.string a5.data)] 0) (u := []) (acc := []) (x' := ⟨(adq5 a5 k l), [some ⟨3, [[VI 0, VI 0, .v (.string (⟨#[]⟩))]]⟩]⟩) (by kernel_rfl) (opE_iad Copy.cs l (.s 19) (.s 20) 3 .i64 (k : Int) a5 (by kernel_rfl) (by kernel_rfl) (.inl rfl) rfl (by omega) ha5) (by kernel_rfl) ?_
  refine OW.run 1 (x' := ⟨(adq6 a5 k l), [some ⟨3, [[VI 0, VI 0, .v (.string (⟨#[]⟩))]]⟩]⟩) (by kernel_rfl) ?_
  refine OW.fn (ar := [.agg [VI a5.at_.time, VI a5.at_.who, .v (.string a5.data)]]) (x' := ⟨(23, VI a5.checkE) :: (adq6 a5 k l), [some ⟨3, [[VI 0, VI 0, .v (.string (⟨#[]⟩))]]⟩]⟩) (by kernel_rfl) (by kernel_rfl) F37_call (rccheck_fn a5) (by kernel_rfl) (by kernel_rfl) ?_
  refine OW.last 1 [0, 2, 4, 5] (x' := ⟨(5, VI a5.checkE) :: (adq2 l k), [some ⟨3, [[VI 0, VI 0, .v (.string (⟨#[]⟩))]]⟩]⟩) (by kernel_rfl) (by kernel_rfl) ?_
  refine EL.sreg ?_
  refine OW.last 2 [0, 2, 4, 5, 25] (x' := ⟨(25, .v (.bool (a5.checkE != 0))) :: (5, VI a5.checkE) :: (adq2 l k), [some ⟨3, [[VI 0, VI 0, .v (.string (⟨#[]⟩))]]⟩]⟩) (by kernel_rfl) (by kernel_rfl) ?_
  rcases Bool.eq_false_or_eq_true ((a5.checkE != 0)) with h6 | h6
  rw [h6]
  have g6 : ¬ (a5.checkE = 0) := by simpa using h6
  refine EL.condT (by kernel_rfl) ?_
  refine EL.sreg ?_
  refine OW.last 4 [2, 3] (x' := ⟨[(3, VI a5.checkE), (2, .ref 0 3 0 0)], [some ⟨3, [[VI 0, VI 0, .v (.string (⟨#[]⟩))]]⟩]⟩) (by kernel_rfl) (by kernel_rfl) ?_
  refine EL.ret ?_
  refine inBlk_ret ?_
  refine thenL_ret ?_
  refine thenL_ret ?_
  refine inBlk_ret ?_
  refine thenL_ret ?_
  refine ⟨.inr rfl, .tup [.agg [VI 0, VI 0, .v (.string (⟨#[]⟩))], VI a5.checkE], by kernel_rfl, Ale.of_eq ?_⟩
  focus (first | (rw [mergedP, if_pos (by omega)]; rfl) | (have hb9 : badC l ≠ 0 := (by rw [hs, ‹l.drop k = _›, badC, if_pos (by assumption)]; assumption); rw [mergedP, if_neg (by omega), if_pos hb9, hs, ‹l.drop k = _›, badC, if_pos (by assumption)]; rfl) | (rw [mergedP, if_neg (by omega), if_neg (fun hh => hh hb), ht, List.drop_eq_nil_of_le (by omega)]; rfl) | (have hq := ha _ (by assumption); rw [List.drop_eq_nil_of_le (by omega)] at hq; rw [mergedP, if_neg (by omega), if_neg (fun hh => hh hb), ht, ‹l.drop j = _›, topC, if_neg (by rw [← hq]; simp [*, aboveC])]))
  rw [h6]
  have g6 : (a5.checkE = 0) := by simpa using h6
  refine EL.condF (by kernel_rfl) ?_
  refine EL.skip ?_
  refine inBlk_norm ?_
  refine thenL_norm ?_
  refine EL.reg0 ?_
  refine OW.run 3 (x' := ⟨(4, VI (IntKind.i64.wrap ((k : Int) + 1))) :: (18, VI (IntKind.i64.wrap ((k : Int) + 1))) :: (adq7 k a5 l), [some ⟨3, [[VI 0, VI 0, .v (.string (⟨#[]⟩))]]⟩]⟩) (by kernel_rfl) ?_
  have e7 : IntKind.i64.wrap ((k : Int) + 1) = (k : Int) + 1 := wr64 (by omega)
  rw [e7]
  refine OW.end 0 (x' := ⟨(adq8 k a5 l), [some ⟨3, [[VI 0, VI 0, .v (.string (⟨#[]⟩))]]⟩]⟩) (by kernel_rfl) (by kernel_rfl) ?_
  refine thenL_norm ?_
  refine round_end (live := [0, 2, 4]) (src := [.old 0 false]) (es := []) (y := (fun (k : Nat) => (⟨(adq2 l k), [some ⟨3, [[VI 0, VI 0, .v (.string (⟨#[]⟩))]]⟩]⟩ : L3)) (k + 1)) ?_ trivial ?_ ⟨(k + 1), rfl, ?_, rfl⟩
  kernel_rfl
  omega
  focus ((refine ⟨by omega, hl, ?_⟩; rw [hs, ‹l.drop k = _›, badC, if_neg (by omega)]))
  rw [h3]
  have g3 : ¬ ((k : Int) < (List.length l : Int)) := of_decide_eq_false h3
  have n3 : ¬ ((k) < (List.length l)) := by omega
  refine EL.condF (by kernel_rfl) ?_
  refine EL.exit ?_
  refine thenL_exit ?_
  refine thenL_exit ?_
  refine inBlk_hit ?_
  refine thenL_norm ?_
  refine EL.seq ?_
  refine EL.sreg ?_
  refine OW.last 1 [0, 2, 6] (x' := ⟨(adq9 l), [some ⟨3, [[VI 0, VI 0, .v (.string (⟨#[]⟩))]]⟩]⟩) (by kernel_rfl) (by kernel_rfl) ?_
  refine EL.block ?_
  refine EL.loopN (fun mM xX => ∃ (j : Nat), mM = l.length - j ∧ (j ≤ l.length ∧ l.length ≤ 12 ∧ badC l = 0 ∧ topC l l = topC l (l.drop j)) ∧ xX = ⟨(adq10 l j), [some ⟨3, [[VI 0, VI 0, .v (.string (⟨#[]⟩))]]⟩]⟩) (y := (fun (j : Nat) => (⟨(adq10 l j), [some ⟨3, [[VI 0, VI 0, .v (.string (⟨#[]⟩))]]⟩]⟩ : L3)) 0) [0, 2, 6] [.old 0 false] [] (by kernel_rfl) trivial ⟨0, rfl, by rw [List.drop_eq_nil_of_le (by omega)] at hs; exact ⟨by omega, by omega, hs, by simp⟩, rfl⟩ ?_
  rintro _ _ ⟨j, rfl, hI8, rfl⟩
  obtain ⟨hj, hl', hb, ht⟩ := hI8
  refine EL.seq ?_
  refine EL.sreg ?_
  refine OW.run 2 (x' := ⟨(adq11 l j), [some ⟨3, [[VI 0, VI 0, .v (.string (⟨#[]⟩))]]⟩]⟩) (by kernel_rfl) ?_
  refine OW.ope (v := VI (List.length l : Int)) (u := []) (acc := []) (x' := ⟨(30, VI (List.length l : Int)) :: (adq11 l j), [some ⟨3, [[VI 0, VI 0, .v (.string (⟨#[]⟩))]]⟩]⟩) (by kernel_rfl) (opE_len Copy.cs l (.s 29) 3 (by kernel_rfl) (by kernel_rfl) (.inl rfl)) (by kernel_rfl) ?_
  refine OW.last 1 [0, 2, 6, 31] (x' := ⟨(31, .v (.bool (decide ((j : Int) < (List.length l : Int))))) :: (adq10 l j), [some ⟨3, [[VI 0, VI 0, .v (.string (⟨#[]⟩))]]⟩]⟩) (by kernel_rfl) (by kernel_rfl) ?_
  rcases Bool.eq_false_or_eq_true (decide ((j : Int) < (List.length l : Int))) with h9 | h9
  rw [h9]
  have g9 : ((j : Int) < (List.length l : Int)) := of_decide_eq_true h9
  have n9 : ((j) < (List.length l)) := by omega
  refine EL.condT (by kernel_rfl) ?_
  refine EL.skip ?_
  refine thenL_norm ?_
  refine EL.seq ?_
  refine EL.block ?_
  refine EL.sreg ?_
  refine OW.last 1 [0, 2, 6, 7] (x' := ⟨(7, .v (.bool false)) :: (adq10 l j), [some ⟨3, [[VI 0, VI 0, .v (.string (⟨#[]⟩))]]⟩]⟩) (by kernel_rfl) (by kernel_rfl) ?_
  refine EL.seq ?_
  refine EL.sreg ?_
  refine OW.last 1 [0, 2, 6, 7, 8] (x' := ⟨(8, VI 0) :: (7, .v (.bool false)) :: (adq10 l j), [some ⟨3, [[VI 0, VI 0, .v (.string (⟨#[]⟩))]]⟩]⟩) (by kernel_rfl) (by kernel_rfl) ?_
  refine EL.block ?_
  refine EL.loopN (fun mM xX => ∃ (i : Nat) (b : Bool), mM = l.length - i ∧ (i ≤ l.length ∧ j < l.length ∧ ∀ c, l[j]? = some c → (b || aboveC c.at_ (l.drop i)) = aboveC c.at_ l) ∧ xX = ⟨[(0, .lst 3 (l.map Copy.cs)), (2, .ref 0 3 0 0), (6, VI (j : Int)), (7, .v (.bool b)), (8, VI (i : Int))], [some ⟨3, [[VI 0, VI 0, .v (.string (⟨#[]⟩))]]⟩]⟩) (y := (fun (i : Nat) (b : Bool) => (⟨[(0, .lst 3 (l.map Copy.cs)), (2, .ref 0 3 0 0), (6, VI (j : Int)), (7, .v (.bool b)), (8, VI (i : Int))], [some ⟨3, [[VI 0, VI 0, .v (.string (⟨#[]⟩))]]⟩]⟩ : L3)) 0 false) [0, 2, 6, 7, 8] [.old 0 false] [] (by kernel_rfl) trivial ⟨0, false, rfl, by exact ⟨by omega, by omega, fun c hc => by simp⟩, rfl⟩ ?_
  rintro _ _ ⟨i, b, rfl, hI10, rfl⟩
  obtain ⟨hi, hj2, ha⟩ := hI10
  refine EL.seq ?_
  refine EL.sreg ?_
  refine OW.run 2 (x' := ⟨[(35, .lst 3 (l.map Copy.cs)), (34, VI (i : Int)), (0, .lst 3 (l.map Copy.cs)), (2, .ref 0 3 0 0), (6, VI (j : Int)), (7, .v (.bool b)), (8, VI (i : Int))], [some ⟨3, [[VI 0, VI 0, .v (.string (⟨#[]⟩))]]⟩]⟩) (by kernel_rfl) ?_
  refine OW.ope (v := VI (List.length l : Int)) (u := []) (acc := []) (x' := ⟨[(36, VI (List.length l : Int)), (35, .lst 3 (l.map Copy.cs)), (34, VI (i : Int)), (0, .lst 3 (l.map Copy.cs)), (2, .ref 0 3 0 0), (6, VI (j : Int)), (7, .v (.bool b)), (8, VI (i : Int))], [some ⟨3, [[VI 0, VI 0, .v (.string (⟨#[]⟩))]]⟩]⟩) (by kernel_rfl) (opE_len Copy.cs l (.s 35) 3 (by kernel_rfl) (by kernel_rfl) (.inl rfl)) (by kernel_rfl) ?_
  refine OW.last 1 [0, 2, 6, 7, 8, 37] (x' := ⟨[(37, .v (.bool (decide ((i : Int) < (List.length l : Int))))), (0, .lst 3 (l.map Copy.cs)), (2, .ref 0 3 0 0), (6, VI (j : Int)), (7, .v (.bool b)), (8, VI (i : Int))], [some ⟨3, [[VI 0, VI 0, .v (.string (⟨#[]⟩))]]⟩]⟩) (by kernel_rfl) (by kernel_rfl) ?_
  rcases Bool.eq_false_or_eq_true (decide ((i : Int) < (List.length l : Int))) with h11 | h11
  rw [h11]
  have g11 : ((i : Int) < (List.length l : Int)) := of_decide_eq_true h11
  have n11 : ((i) < (List.length l)) := by omega
  refine EL.condT (by kernel_rfl) ?_
  refine EL.skip ?_
  refine thenL_norm ?_
  refine EL.seq ?_
  refine EL.block ?_
  refine EL.draw0 ?_
  refine DW.run 2 (x' := ⟨[(41, .v (.bool b)), (40, .v (.bool b)), (37, .v (.bool true)), (0, .lst 3 (l.map Copy.cs)), (2, .ref 0 3 0 0), (6, VI (j : Int)), (7, .v (.bool b)), (8, VI (i : Int))], [some ⟨3, [[VI 0, VI 0, .v (.string (⟨#[]⟩))]]⟩]⟩) (by kernel_rfl) ?_
  rcases Bool.eq_false_or_eq_true (b) with h12 | h12
  rw [h12]
  refine DW.end 13 (x' := ⟨(adq12 l j i), [some ⟨3, [[VI 0, VI 0, .v (.string (⟨#[]⟩))]]⟩]⟩) (by kernel_rfl) (by kernel_rfl) ?_
  refine inBlk_norm ?_
  refine thenL_norm ?_
  refine EL.reg0 ?_
  refine OW.run 3 (x' := ⟨(8, VI (IntKind.i64.wrap ((i : Int) + 1))) :: (39, VI (IntKind.i64.wrap ((i : Int) + 1))) :: (adq13 i l j), [some ⟨3, [[VI 0, VI 0, .v (.string (⟨#[]⟩))]]⟩]⟩) (by kernel_rfl) ?_
  have e13 : IntKind.i64.wrap ((i : Int) + 1) = (i : Int) + 1 := wr64 (by omega)
  rw [e13]
  refine OW.end 0 (x' := ⟨(adq14 i l j), [some ⟨3, [[VI 0, VI 0, .v (.string (⟨#[]⟩))]]⟩]⟩) (by kernel_rfl) (by kernel_rfl) ?_
  refine thenL_norm ?_
  refine round_end (live := [0, 2, 6, 7, 8]) (src := [.old 0 false]) (es := []) (y := (fun (i : Nat) (b : Bool) => (⟨[(0, .lst 3 (l.map Copy.cs)), (2, .ref 0 3 0 0), (6, VI (j : Int)), (7, .v (.bool b)), (8, VI (i : Int))], [some ⟨3, [[VI 0, VI 0, .v (.string (⟨#[]⟩))]]⟩]⟩ : L3)) (i + 1) true) ?_ trivial ?_ ⟨(i + 1), true, rfl, ?_, rfl⟩
  kernel_rfl
  omega
  focus ((refine ⟨by omega, by omega, fun c hc => ?_⟩; have hq := ha c hc; first | (simp_all; done) | (rw [‹l.drop i = _›, aboveC] at hq; simp_all; done)))
  rw [h12]
  refine DW.run 2 (x' := ⟨(adq15 j l i), [some ⟨3, [[VI 0, VI 0, .v (.string (⟨#[]⟩))]]⟩]⟩) (by kernel_rfl) ?_
  obtain ⟨a15, ha15⟩ : ∃ y, l[((j : Int) : Int).toNat]? = some y := idx_ex ⟨by omega, by omega⟩
  have iha15 : l[j]? = some a15 := by simpa using ha15
  have dha15 := drop_get iha15
  refine DW.ope (v := .pim [VI a15.at_.time, VI a15.at_.who, .v (.string a15.data)] 0) (u := []) (acc := []) (x' := ⟨(adq16 a15 j l i), [some ⟨3, [[VI 0, VI 0, .v (.string (⟨#[]⟩))]]⟩]⟩) (by kernel_rfl) (opE_iad Copy.cs l (.s 42) (.s 43) 3 .i64 (j : Int) a15 (by kernel_rfl) (by kernel_rfl) (.inl rfl) rfl (by omega) ha15) (by kernel_rfl) ?_
  refine DW.run 4 (x' := ⟨(adq17 i l a15 j), [some ⟨3, [[VI 0, VI 0, .v (.string (⟨#[]⟩))]]⟩]⟩) (by kernel_rfl) ?_
  obtain ⟨a17, ha17⟩ : ∃ y, l[((i : Int) : Int).toNat]? = some y := idx_ex ⟨by omega, by omega⟩
  have iha17 : l[i]? = some a17 := by simpa using ha17
  have dha17 := drop_get iha17
  refine DW.ope (v := .pim [VI a17.at_.time, VI a17.at_.who, .v (.string a17.data)] 0) (u := []) (acc := []) (x' := ⟨(adq18 a17 i l a15 j), [some ⟨3, [[VI 0, VI 0, .v (.string (⟨#[]⟩))]]⟩]⟩) (by kernel_rfl) (opE_iad Copy.cs l (.s 47) (.s 48) 3 .i64 (i : Int) a17 (by kernel_rfl) (by kernel_rfl) (.inl rfl) rfl (by omega) ha17) (by kernel_rfl) ?_
  refine DW.run 2 (x' := ⟨(adq19 a17 i l a15 j), [some ⟨3, [[VI 0, VI 0, .v (.string (⟨#[]⟩))]]⟩]⟩) (by kernel_rfl) ?_
  refine DW.fn (ar := [.agg [VI a15.at_.time, VI a15.at_.who], .agg [VI a17.at_.time, VI a17.at_.who]]) (x' := ⟨(52, .v (.bool (decide (a15.at_.lt a17.at_)))) :: (adq19 a17 i l a15 j), [some ⟨3, [[VI 0, VI 0, .v (.string (⟨#[]⟩))]]⟩]⟩) (by kernel_rfl) (by kernel_rfl) F46_call (rless_fn a15.at_ a17.at_) (by kernel_rfl) (by kernel_rfl) ?_
  refine DW.end 2 (x' := ⟨(7, .v (.bool (decide (a15.at_.lt a17.at_)))) :: (53, .v (.bool (decide (a15.at_.lt a17.at_)))) :: (52, .v (.bool (decide (a15.at_.lt a17.at_)))) :: (adq20 a17 i l a15 j), [some ⟨3, [[VI 0, VI 0, .v (.string (⟨#[]⟩))]]⟩]⟩) (by kernel_rfl) (by kernel_rfl) ?_
  refine inBlk_norm ?_
  refine thenL_norm ?_
  refine EL.reg0 ?_
  refine OW.run 3 (x' := ⟨(8, VI (IntKind.i64.wrap ((i : Int) + 1))) :: (39, VI (IntKind.i64.wrap ((i : Int) + 1))) :: (38, VI (i : Int)) :: (7, .v (.bool (decide (a15.at_.lt a17.at_)))) :: (53, .v (.bool (decide (a15.at_.lt a17.at_)))) :: (52, .v (.bool (decide (a15.at_.lt a17.at_)))) :: (adq21 a17 i l a15 j), [some ⟨3, [[VI 0, VI 0, .v (.string (⟨#[]⟩))]]⟩]⟩) (by kernel_rfl) ?_
  have e18 : IntKind.i64.wrap ((i : Int) + 1) = (i : Int) + 1 := wr64 (by omega)
  rw [e18]
  refine OW.end 0 (x' := ⟨(8, VI ((i : Int) + 1)) :: (39, VI ((i : Int) + 1)) :: (38, VI (i : Int)) :: (7, .v (.bool (decide (a15.at_.lt a17.at_)))) :: (53, .v (.bool (decide (a15.at_.lt a17.at_)))) :: (52, .v (.bool (decide (a15.at_.lt a17.at_)))) :: (adq21 a17 i l a15 j), [some ⟨3, [[VI 0, VI 0, .v (.string (⟨#[]⟩))]]⟩]⟩) (by kernel_rfl) (by kernel_rfl) ?_
  refine thenL_norm ?_
  refine round_end (live := [0, 2, 6, 7, 8]) (src := [.old 0 false]) (es := []) (y := (fun (i : Nat) (b : Bool) => (⟨[(0, .lst 3 (l.map Copy.cs)), (2, .ref 0 3 0 0), (6, VI (j : Int)), (7, .v (.bool b)), (8, VI (i : Int))], [some ⟨3, [[VI 0, VI 0, .v (.string (⟨#[]⟩))]]⟩]⟩ : L3)) (i + 1) (decide (a15.at_.lt a17.at_))) ?_ trivial ?_ ⟨(i + 1), (decide (a15.at_.lt a17.at_)), rfl, ?_, rfl⟩
  kernel_rfl
  omega
  focus ((refine ⟨by omega, by omega, fun c hc => ?_⟩; have hq := ha c hc; first | (simp_all; done) | (rw [‹l.drop i = _›, aboveC] at hq; simp_all; done)))
  rw [h11]
  have g11 : ¬ ((i : Int) < (List.length l : Int)) := of_decide_eq_false h11
  have n11 : ¬ ((i) < (List.length l)) := by omega
  refine EL.condF (by kernel_rfl) ?_
  refine EL.exit ?_
  refine thenL_exit ?_
  refine thenL_exit ?_
  refine inBlk_hit ?_
  refine thenL_norm ?_
  refine EL.sreg ?_
  refine OW.last 2 [0, 2, 6, 55] (x' := ⟨(55, .v (.bool (!b))) :: (adq10 l j), [some ⟨3, [[VI 0, VI 0, .v (.string (⟨#[]⟩))]]⟩]⟩) (by kernel_rfl) (by kernel_rfl) ?_
  rcases Bool.eq_false_or_eq_true (b) with h19 | h19
  rw [h19]
  refine EL.condF (by kernel_rfl) ?_
  refine EL.skip ?_
  refine inBlk_norm ?_
  refine thenL_norm ?_
  refine EL.reg0 ?_
  refine OW.run 3 (x' := ⟨(6, VI (IntKind.i64.wrap ((j : Int) + 1))) :: (33, VI (IntKind.i64.wrap ((j : Int) + 1))) :: (adq22 j l), [some ⟨3, [[VI 0, VI 0, .v (.string (⟨#[]⟩))]]⟩]⟩) (by kernel_rfl) ?_
  have e20 : IntKind.i64.wrap ((j : Int) + 1) = (j : Int) + 1 := wr64 (by omega)
  rw [e20]
  refine OW.end 0 (x' := ⟨(adq23 j l), [some ⟨3, [[VI 0, VI 0, .v (.string (⟨#[]⟩))]]⟩]⟩) (by kernel_rfl) (by kernel_rfl) ?_
  refine thenL_norm ?_
  refine round_end (live := [0, 2, 6]) (src := [.old 0 false]) (es := []) (y := (fun (j : Nat) => (⟨(adq10 l j), [some ⟨3, [[VI 0, VI 0, .v (.string (⟨#[]⟩))]]⟩]⟩ : L3)) (j + 1)) ?_ trivial ?_ ⟨(j + 1), rfl, ?_, rfl⟩
  kernel_rfl
  omega
  focus ((refine ⟨by omega, hl', hb, ?_⟩; have hq := ha _ (List.getElem?_eq_getElem hj2); rw [List.drop_eq_nil_of_le (by omega)] at hq; rw [ht, List.drop_eq_getElem_cons hj2, topC, if_pos (by rw [← hq]; simp [*])]))
  rw [h19]
  refine EL.condT (by kernel_rfl) ?_
  refine EL.sreg ?_
  refine OW.run 2 (x' := ⟨(adq24 j l), [some ⟨3, [[VI 0, VI 0, .v (.string (⟨#[]⟩))]]⟩]⟩) (by kernel_rfl) ?_
  obtain ⟨a22, ha22⟩ : ∃ y, l[((j : Int) : Int).toNat]? = some y := idx_ex ⟨by omega, by omega⟩
  have iha22 : l[j]? = some a22 := by simpa using ha22
  have dha22 := drop_get iha22
  refine OW.ope (v := .pim [VI a22.at_.time, VI a22.at_.who, .v (.string a22.data)] 0) (u := []) (acc := []) (x' := ⟨(adq25 a22 j l), [some ⟨3, [[VI 0, VI 0, .v (.string (⟨#[]⟩))]]⟩]⟩) (by kernel_rfl) (opE_iad Copy.cs l (.s 56) (.s 57) 3 .i64 (j : Int) a22 (by kernel_rfl) (by kernel_rfl) (.inl rfl) rfl (by omega) ha22) (by kernel_rfl) ?_
  refine OW.last 3 [2, 3] (x' := ⟨[(3, VI 0), (2, .ref 0 3 0 0)], [(adq26 a22)]⟩) (by kernel_rfl) (by kernel_rfl) ?_
  refine EL.ret ?_
  refine inBlk_ret ?_
  refine thenL_ret ?_
  refine thenL_ret ?_
  refine inBlk_ret ?_
  refine thenL_ret ?_
  refine ⟨.inr rfl, .tup [(adq27 a22), VI 0], by kernel_rfl, Ale.of_eq ?_⟩
  focus (first | (rw [mergedP, if_pos (by omega)]; rfl) | (have hb9 : badC l ≠ 0 := (by rw [hs, ‹l.drop k = _›, badC, if_pos (by assumption)]; assumption); rw [mergedP, if_neg (by omega), if_pos hb9, hs, ‹l.drop k = _›, badC, if_pos (by assumption)]; rfl) | (rw [mergedP, if_neg (by omega), if_neg (fun hh => hh hb), ht, List.drop_eq_nil_of_le (by omega)]; rfl) | (have hq := ha _ (by assumption); rw [List.drop_eq_nil_of_le (by omega)] at hq; rw [mergedP, if_neg (by omega), if_neg (fun hh => hh hb), ht, ‹l.drop j = _›, topC, if_neg (by rw [← hq]; simp [*, aboveC])]))
  rw [h9]
  have g9 : ¬ ((j : Int) < (List.length l : Int)) := of_decide_eq_false h9
  have n9 : ¬ ((j) < (List.length l)) := by omega
  refine EL.condF (by kernel_rfl) ?_
  refine EL.exit ?_
  refine thenL_exit ?_
  refine thenL_exit ?_
  refine inBlk_hit ?_
  refine thenL_norm ?_
  refine EL.sreg ?_
  refine OW.last 3 [2, 3] (x' := ⟨[(3, VI 0), (2, .ref 0 3 0 0)], [some ⟨3, [[VI 0, VI 0, .v (.string (⟨#[]⟩))]]⟩]⟩) (by kernel_rfl) (by kernel_rfl) ?_
  refine EL.ret ?_
  refine ⟨.inr rfl, .tup [.agg [VI 0, VI 0, .v (.string (⟨#[]⟩))], VI 0], by kernel_rfl, Ale.of_eq ?_⟩
  focus (first | (rw [mergedP, if_pos (by omega)]; rfl) | (have hb9 : badC l ≠ 0 := (by rw [hs, ‹l.drop k = _›, badC, if_pos (by assumption)]; assumption); rw [mergedP, if_neg (by omega), if_pos hb9, hs, ‹l.drop k = _›, badC, if_pos (by assumption)]; rfl) | (rw [mergedP, if_neg (by omega), if_neg (fun hh => hh hb), ht, List.drop_eq_nil_of_le (by omega)]; rfl) | (have hq := ha _ (by assumption); rw [List.drop_eq_nil_of_le (by omega)] at hq; rw [mergedP, if_neg (by omega), if_neg (fun hh => hh hb), ht, ‹l.drop j = _›, topC, if_neg (by rw [← hq]; simp [*, aboveC])]))
abbrev adq28 (s : Stamp) : LS := [(9, .v (.bool false)), (2, .ref 0 2 0 0), (0, .lst 2 [[VI s.time, VI s.who]])]
abbrev adq29 (s : Stamp) : LS := [(4, .ref 1 2 0 0), (2, .ref 0 2 0 0), (0, .lst 2 [[VI s.time, VI s.who]])]
abbrev adq30 (s : Stamp) : LS := (23, .agg [VI s.time, VI s.who]) :: (22, .pim [VI s.time, VI s.who] 0) :: (21, VI 0) :: (20, .lst 2 [[VI s.time, VI s.who]]) :: (19, .agg [VI 0, VI 0]) :: (16, .v (.bool true)) :: (5, VI 0) :: (adq29 s)
abbrev adq31 (s : Stamp) : LB := [some ⟨2, [[VI 0, VI 0]]⟩, some ⟨2, [[VI s.time, VI s.who]]⟩]
abbrev adq32 (s : Stamp) : LS := (28, .agg [VI s.time, VI s.who]) :: (27, .pim [VI s.time, VI s.who] 0) :: (26, VI 0) :: (25, .lst 2 [[VI s.time, VI s.who]]) :: (24, .v (.bool true)) :: (5, VI 0) :: (adq29 s)
abbrev adq33 (s : Stamp) : LS := (5, VI (-1)) :: (18, VI (-1)) :: (17, VI 0) :: (28, .agg [VI s.time, VI s.who]) :: (27, .pim [VI s.time, VI s.who] 0) :: (26, VI 0) :: (25, .lst 2 [[VI s.time, VI s.who]]) :: (24, .v (.bool true)) :: (adq29 s)
abbrev adq34 (s : Stamp) : LS := (38, .agg [VI s.time, VI s.who]) :: (37, .pim [VI s.time, VI s.who] 0) :: (36, VI 0) :: (35, .lst 2 [[VI s.time, VI s.who]]) :: (32, .v (.bool true)) :: (6, VI 0) :: (adq29 s)
abbrev adq35 (s : Stamp) : LS := (6, VI 1) :: (34, VI 1) :: (33, VI 0) :: (40, .v (.bool false)) :: (adq29 s)
abbrev adq36 (s : Stamp) : LB := [some ⟨2, [[VI s.time, VI s.who]]⟩, some ⟨2, [[VI s.time, VI s.who]]⟩]
abbrev adq37 (s : Stamp) : LS := (5, VI (-1)) :: (18, VI (-1)) :: (17, VI 0) :: (24, .v (.bool false)) :: (adq29 s)
theorem rmax_fn (s : Stamp) : Fn Tryd.prog 47 [.lst 2 [[VI s.time, VI s.who]]] (.tup [.agg [VI ((max1 s).time), VI ((max1 s).who)], VI s.checkE]) := by
  refine fn_walkW F47_ok (of_decide_eq_true (by kernel_rfl)) ?_
  refine EL.sreg ?_
  refine OW.last 2 [0, 2] (x' := ⟨[(2, .ref 0 2 0 0), (0, .lst 2 [[VI s.time, VI s.who]])], [some ⟨2, [[VI 0, VI 0]]⟩]⟩) (by kernel_rfl) (by kernel_rfl) ?_
  refine EL.seq ?_
  refine EL.sreg ?_
  refine OW.last 3 [0, 2, 9] (x' := ⟨(adq28 s), [some ⟨2, [[VI 0, VI 0]]⟩]⟩) (by kernel_rfl) (by kernel_rfl) ?_
  refine EL.condF (by kernel_rfl) ?_
  refine EL.skip ?_
  refine thenL_norm ?_
  refine EL.sreg ?_
  refine OW.last 3 [0, 2, 4] (x' := ⟨(adq29 s), [some ⟨2, [[VI 0, VI 0]]⟩, some ⟨2, [[VI 0, VI 0]]⟩]⟩) (by kernel_rfl) (by kernel_rfl) ?_
  refine EL.seq ?_
  refine EL.sreg ?_
  refine OW.last 4 [0, 2, 4, 5] (x' := ⟨(5, VI 0) :: (adq29 s), [some ⟨2, [[VI 0, VI 0]]⟩, some ⟨2, [[VI 0, VI 0]]⟩]⟩) (by kernel_rfl) (by kernel_rfl) ?_
  refine EL.block ?_
  refine EL.unroll 3 ?_
  refine JU.step ?_
  refine EL.seq ?_
  refine EL.sreg ?_
  refine OW.last 2 [0, 2, 4, 5, 16] (x' := ⟨(16, .v (.bool true)) :: (5, VI 0) :: (adq29 s), [some ⟨2, [[VI 0, VI 0]]⟩, some ⟨2, [[VI 0, VI 0]]⟩]⟩) (by kernel_rfl) (by kernel_rfl) ?_
  refine EL.condT (by kernel_rfl) ?_
  refine EL.skip ?_
  refine thenL_norm ?_
  refine EL.seq ?_
  refine EL.block ?_
  refine EL.sdraw ?_
  refine DW.run 5 (x' := ⟨(adq30 s), [some ⟨2, [[VI 0, VI 0]]⟩, some ⟨2, [[VI 0, VI 0]]⟩]⟩) (by kernel_rfl) ?_
  refine DW.fn (ar := [.agg [VI 0, VI 0], .agg [VI s.time, VI s.who]]) (x' := ⟨(24, .v (.bool (decide ((⟨0, 0⟩ : Stamp).lt s)))) :: (adq30 s), [some ⟨2, [[VI 0, VI 0]]⟩, some ⟨2, [[VI 0, VI 0]]⟩]⟩) (by kernel_rfl) (by kernel_rfl) F46_call (rless_fn (⟨0, 0⟩ : Stamp) s) (by kernel_rfl) (by kernel_rfl) ?_
  refine DW.last 0 [0, 2, 4, 5, 24] (x' := ⟨(24, .v (.bool (decide ((⟨0, 0⟩ : Stamp).lt s)))) :: (5, VI 0) :: (adq29 s), [some ⟨2, [[VI 0, VI 0]]⟩, some ⟨2, [[VI 0, VI 0]]⟩]⟩) (by kernel_rfl) (by kernel_rfl) ?_
  rcases Bool.eq_false_or_eq_true (decide ((⟨0, 0⟩ : Stamp).lt s)) with h1 | h1
  rw [h1]
  have g1 : ((⟨0, 0⟩ : Stamp).lt s) := of_decide_eq_true h1
  refine EL.condT (by kernel_rfl) ?_
  refine EL.reg0 ?_
  refine OW.end 5 (x' := ⟨(adq32 s), (adq31 s)⟩) (by kernel_rfl) (by kernel_rfl) ?_
  refine inBlk_norm ?_
  refine thenL_norm ?_
  refine EL.reg0 ?_
  refine OW.end 3 (x' := ⟨(adq33 s), (adq31 s)⟩) (by kernel_rfl) (by kernel_rfl) ?_
  refine thenL_norm ?_
  refine JU.step ?_
  refine EL.seq ?_
  refine EL.sreg ?_
  refine OW.last 2 [0, 2, 4, 5, 16] (x' := ⟨(16, .v (.bool false)) :: (5, VI (-1)) :: (adq29 s), (adq31 s)⟩) (by kernel_rfl) (by kernel_rfl) ?_
  refine EL.condF (by kernel_rfl) ?_
  refine EL.exit ?_
  refine thenL_exit ?_
  refine thenL_exit ?_
  refine inBlk_hit ?_
  refine thenL_norm ?_
  refine EL.seq ?_
  refine EL.sreg ?_
  refine OW.last 1 [0, 2, 4, 6] (x' := ⟨(6, VI 0) :: (adq29 s), (adq31 s)⟩) (by kernel_rfl) (by kernel_rfl) ?_
  refine EL.block ?_
  refine EL.unroll 3 ?_
  refine JU.step ?_
  refine EL.seq ?_
  refine EL.sreg ?_
  refine OW.last 4 [0, 2, 4, 6, 32] (x' := ⟨(32, .v (.bool true)) :: (6, VI 0) :: (adq29 s), (adq31 s)⟩) (by kernel_rfl) (by kernel_rfl) ?_
  refine EL.condT (by kernel_rfl) ?_
  refine EL.skip ?_
  refine thenL_norm ?_
  refine EL.seq ?_
  refine EL.block ?_
  refine EL.sreg ?_
  refine OW.run 4 (x' := ⟨(adq34 s), (adq31 s)⟩) (by kernel_rfl) ?_
  refine OW.fn (ar := [.agg [VI s.time, VI s.who]]) (x' := ⟨(39, VI s.checkE) :: (adq34 s), (adq31 s)⟩) (by kernel_rfl) (by kernel_rfl) F52_call (rscheck_fn s) (by kernel_rfl) (by kernel_rfl) ?_
  refine OW.last 1 [0, 2, 4, 6, 40] (x' := ⟨(40, .v (.bool (s.checkE != 0))) :: (6, VI 0) :: (adq29 s), (adq31 s)⟩) (by kernel_rfl) (by kernel_rfl) ?_
  rcases Bool.eq_false_or_eq_true ((s.checkE != 0)) with h2 | h2
  rw [h2]
  have g2 : ¬ (s.checkE = 0) := by simpa using h2
  refine EL.condT (by kernel_rfl) ?_
  refine EL.sreg ?_
  refine OW.last 3 [2, 3] (x' := ⟨[(3, VI 3), (2, .ref 0 2 0 0)], (adq31 s)⟩) (by kernel_rfl) (by kernel_rfl) ?_
  refine EL.ret ?_
  refine inBlk_ret ?_
  refine thenL_ret ?_
  refine thenL_ret ?_
  refine inBlk_ret ?_
  refine thenL_ret ?_
  refine ⟨.inr rfl, .tup [.agg [VI 0, VI 0], VI 3], by kernel_rfl, Ale.of_eq ?_⟩
  focus (first | (have ho : s.okS := sck.1 (by assumption); simp [max1, Stamp.checkE, ho]; done) | (have ho : s.okS := sck.1 (by assumption); have hz9 := max_zero ho (by assumption); subst hz9; simp [max1, Stamp.checkE, Stamp.okS]; done) | (have ho : ¬ s.okS := (fun h => absurd (sck.2 h) (by assumption)); simp [max1, Stamp.checkE, ho]; done))
  rw [h2]
  have g2 : (s.checkE = 0) := by simpa using h2
  refine EL.condF (by kernel_rfl) ?_
  refine EL.skip ?_
  refine inBlk_norm ?_
  refine thenL_norm ?_
  refine EL.reg0 ?_
  refine OW.end 3 (x' := ⟨(adq35 s), (adq31 s)⟩) (by kernel_rfl) (by kernel_rfl) ?_
  refine thenL_norm ?_
  refine JU.step ?_
  refine EL.seq ?_
  refine EL.sreg ?_
  refine OW.last 4 [0, 2, 4, 6, 32] (x' := ⟨(32, .v (.bool false)) :: (6, VI 1) :: (adq29 s), (adq31 s)⟩) (by kernel_rfl) (by kernel_rfl) ?_
  refine EL.condF (by kernel_rfl) ?_
  refine EL.exit ?_
  refine thenL_exit ?_
  refine thenL_exit ?_
  refine inBlk_hit ?_
  refine thenL_norm ?_
  refine EL.sreg ?_
  refine OW.last 3 [2, 3] (x' := ⟨[(3, VI 0), (2, .ref 0 2 0 0)], (adq36 s)⟩) (by kernel_rfl) (by kernel_rfl) ?_
  refine EL.ret ?_
  refine ⟨.inr rfl, .tup [.agg [VI s.time, VI s.who], VI 0], by kernel_rfl, Ale.of_eq ?_⟩
  focus (first | (have ho : s.okS := sck.1 (by assumption); simp [max1, Stamp.checkE, ho]; done) | (have ho : s.okS := sck.1 (by assumption); have hz9 := max_zero ho (by assumption); subst hz9; simp [max1, Stamp.checkE, Stamp.okS]; done) | (have ho : ¬ s.okS := (fun h => absurd (sck.2 h) (by assumption)); simp [max1, Stamp.checkE, ho]; done))
  rw [h1]
  have g1 : ¬ ((⟨0, 0⟩ : Stamp).lt s) := of_decide_eq_false h1
  refine EL.condF (by kernel_rfl) ?_
  refine EL.skip ?_
  refine inBlk_norm ?_
  refine thenL_norm ?_
  refine EL.reg0 ?_
  refine OW.end 3 (x' := ⟨(adq37 s), [some ⟨2, [[VI 0, VI 0]]⟩, some ⟨2, [[VI 0, VI 0]]⟩]⟩) (by kernel_rfl) (by kernel_rfl) ?_
  refine thenL_norm ?_
  refine JU.step ?_
  refine EL.seq ?_
  refine EL.sreg ?_
  refine OW.last 2 [0, 2, 4, 5, 16] (x' := ⟨(16, .v (.bool false)) :: (5, VI (-1)) :: (adq29 s), [some ⟨2, [[VI 0, VI 0]]⟩, some ⟨2, [[VI 0, VI 0]]⟩]⟩) (by kernel_rfl) (by kernel_rfl) ?_
  refine EL.condF (by kernel_rfl) ?_
  refine EL.exit ?_
  refine thenL_exit ?_
  refine thenL_exit ?_
  refine inBlk_hit ?_
  refine thenL_norm ?_
  refine EL.seq ?_
  refine EL.sreg ?_
  refine OW.last 1 [0, 2, 4, 6] (x' := ⟨(6, VI 0) :: (adq29 s), [some ⟨2, [[VI 0, VI 0]]⟩, some ⟨2, [[VI 0, VI 0]]⟩]⟩) (by kernel_rfl) (by kernel_rfl) ?_
  refine EL.block ?_
  refine EL.unroll 3 ?_
  refine JU.step ?_
  refine EL.seq ?_
  refine EL.sreg ?_
  refine OW.last 4 [0, 2, 4, 6, 32] (x' := ⟨(32, .v (.bool true)) :: (6, VI 0) :: (adq29 s), [some ⟨2, [[VI 0, VI 0]]⟩, some ⟨2, [[VI 0, VI 0]]⟩]⟩) (by kernel_rfl) (by kernel_rfl) ?_
  refine EL.condT (by kernel_rfl) ?_
  refine EL.skip ?_
  refine thenL_norm ?_
  refine EL.seq ?_
  refine EL.block ?_
  refine EL.sreg ?_
  refine OW.run 4 (x' := ⟨(adq34 s), [some ⟨2, [[VI 0, VI 0]]⟩, some ⟨2, [[VI 0, VI 0]]⟩]⟩) (by kernel_rfl) ?_
  refine OW.fn (ar := [.agg [VI s.time, VI s.who]]) (x' := ⟨(39, VI s.checkE) :: (adq34 s), [some ⟨2, [[VI 0, VI 0]]⟩, some ⟨2, [[VI 0, VI 0]]⟩]⟩) (by kernel_rfl) (by kernel_rfl) F52_call (rscheck_fn s) (by kernel_rfl) (by kernel_rfl) ?_
  refine OW.last 1 [0, 2, 4, 6, 40] (x' := ⟨(40, .v (.bool (s.checkE != 0))) :: (6, VI 0) :: (adq29 s), [some ⟨2, [[VI 0, VI 0]]⟩, some ⟨2, [[VI 0, VI 0]]⟩]⟩) (by kernel_rfl) (by kernel_rfl) ?_
  rcases Bool.eq_false_or_eq_true ((s.checkE != 0)) with h3 | h3
  rw [h3]
  have g3 : ¬ (s.checkE = 0) := by simpa using h3
  refine EL.condT (by kernel_rfl) ?_
  refine EL.sreg ?_
  refine OW.last 3 [2, 3] (x' := ⟨[(3, VI 3), (2, .ref 0 2 0 0)], [some ⟨2, [[VI 0, VI 0]]⟩, some ⟨2, [[VI 0, VI 0]]⟩]⟩) (by kernel_rfl) (by kernel_rfl) ?_
  refine EL.ret ?_
  refine inBlk_ret ?_
  refine thenL_ret ?_
  refine thenL_ret ?_
  refine inBlk_ret ?_
  refine thenL_ret ?_
  refine ⟨.inr rfl, .tup [.agg [VI 0, VI 0], VI 3], by kernel_rfl, Ale.of_eq ?_⟩
  focus (first | (have ho : s.okS := sck.1 (by assumption); simp [max1, Stamp.checkE, ho]; done) | (have ho : s.okS := sck.1 (by assumption); have hz9 := max_zero ho (by assumption); subst hz9; simp [max1, Stamp.checkE, Stamp.okS]; done) | (have ho : ¬ s.okS := (fun h => absurd (sck.2 h) (by assumption)); simp [max1, Stamp.checkE, ho]; done))
  rw [h3]
  have g3 : (s.checkE = 0) := by simpa using h3
  refine EL.condF (by kernel_rfl) ?_
  refine EL.skip ?_
  refine inBlk_norm ?_
  refine thenL_norm ?_
  refine EL.reg0 ?_
  refine OW.end 3 (x' := ⟨(adq35 s), [some ⟨2, [[VI 0, VI 0]]⟩, some ⟨2, [[VI 0, VI 0]]⟩]⟩) (by kernel_rfl) (by kernel_rfl) ?_
  refine thenL_norm ?_
  refine JU.step ?_
  refine EL.seq ?_
  refine EL.sreg ?_
  refine OW.last 4 [0, 2, 4, 6, 32] (x' := ⟨(32, .v (.bool false)) :: (6, VI 1) :: (adq29 s), [some ⟨2, [[VI 0, VI 0]]⟩, some ⟨2, [[VI 0, VI 0]]⟩]⟩) (by kernel_rfl) (by kernel_rfl) ?_
  refine EL.condF (by kernel_rfl) ?_
  refine EL.exit ?_
  refine thenL_exit ?_
  refine thenL_exit ?_
  refine inBlk_hit ?_
  refine thenL_norm ?_
  refine EL.sreg ?_
  refine OW.last 3 [2, 3] (x' := ⟨[(3, VI 0), (2, .ref 0 2 0 0)], [some ⟨2, [[VI 0, VI 0]]⟩, some ⟨2, [[VI 0, VI 0]]⟩]⟩) (by kernel_rfl) (by kernel_rfl) ?_
  refine EL.ret ?_
  refine ⟨.inr rfl, .tup [.agg [VI 0, VI 0], VI 0], by kernel_rfl, Ale.of_eq ?_⟩
  focus (first | (have ho : s.okS := sck.1 (by assumption); simp [max1, Stamp.checkE, ho]; done) | (have ho : s.okS := sck.1 (by assumption); have hz9 := max_zero ho (by assumption); subst hz9; simp [max1, Stamp.checkE, Stamp.okS]; done) | (have ho : ¬ s.okS := (fun h => absurd (sck.2 h) (by assumption)); simp [max1, Stamp.checkE, ho]; done))
abbrev adq38 (s : Stamp) (who : Int) : LS := [(4, .ref 0 2 0 0), (0, .lst 2 [[VI s.time, VI s.who]]), (1, VI who)]
abbrev adq39 (s : Stamp) (who : Int) : LS := (10, .tup [.agg [VI ((max1 s).time), VI ((max1 s).who)], VI s.checkE]) :: (9, .lst 2 [[VI s.time, VI s.who]]) :: (adq38 s who)
abbrev adq40 (s : Stamp) : LB := [some ⟨2, [[VI 0, VI 0]]⟩, some ⟨2, [[VI ((max1 s).time), VI ((max1 s).who)]]⟩]
abbrev adq41 (s : Stamp) (who : Int) : LS := [(7, VI s.checkE), (6, .ref 1 2 0 0), (4, .ref 0 2 0 0), (1, VI who)]
abbrev adq42 (who : Int) : LS := [(27, .v (.bool true)), (6, .ref 1 2 0 0), (4, .ref 0 2 0 0), (1, VI who)]
abbrev adq43 (who : Int) (s : Stamp) : LS := (20, VI who) :: (19, .v (.bool false)) :: (18, .v (.bool false)) :: (17, VI who) :: (14, .v (.bool false)) :: (adq41 s who)
abbrev adq44 (who : Int) : LS := [(6, .ref 1 2 0 0), (4, .ref 0 2 0 0), (1, VI who)]
abbrev adq45 (s : Stamp) (who : Int) : LS := (30, VI ((max1 s).time)) :: (29, .ref 1 2 0 0) :: (27, .v (.bool false)) :: (adq44 who)
abbrev adq46 (s : Stamp) (who : Int) : LB := [some ⟨2, [[VI (((max1 s).time) + 1), VI who]]⟩, some ⟨2, [[VI ((max1 s).time), VI ((max1 s).who)]]⟩]
theorem rnext_fn (s : Stamp) (who : Int) : Fn Tryd.prog 27 [.lst 2 [[VI s.time, VI s.who]], VI who] (.tup [.agg [VI (((nextP s who).1).time), VI (((nextP s who).1).who)], VI ((nextP s who).2)]) := by
  refine fn_walkW F27_ok (of_decide_eq_true (by kernel_rfl)) ?_
  refine EL.sreg ?_
  refine OW.last 2 [0, 1, 4] (x' := ⟨(adq38 s who), [some ⟨2, [[VI 0, VI 0]]⟩]⟩) (by kernel_rfl) (by kernel_rfl) ?_
  refine EL.sreg ?_
  refine OW.run 1 (x' := ⟨(9, .lst 2 [[VI s.time, VI s.who]]) :: (adq38 s who), [some ⟨2, [[VI 0, VI 0]]⟩]⟩) (by kernel_rfl) ?_
  refine OW.fn (ar := [.lst 2 [[VI s.time, VI s.who]]]) (x' := ⟨(adq39 s who), [some ⟨2, [[VI 0, VI 0]]⟩]⟩) (by kernel_rfl) (by kernel_rfl) F47_call (rmax_fn s) (by kernel_rfl) (by kernel_rfl) ?_
  refine OW.last 6 [1, 4, 6, 7] (x' := ⟨(adq41 s who), (adq40 s)⟩) (by kernel_rfl) (by kernel_rfl) ?_
  refine EL.seq ?_
  refine EL.sreg ?_
  refine OW.last 2 [1, 4, 6, 7, 14] (x' := ⟨(14, .v (.bool (s.checkE != 0))) :: (adq41 s who), (adq40 s)⟩) (by kernel_rfl) (by kernel_rfl) ?_
  rcases Bool.eq_false_or_eq_true ((s.checkE != 0)) with h1 | h1
  rw [h1]
  have g1 : ¬ (s.checkE = 0) := by simpa using h1
  refine EL.condT (by kernel_rfl) ?_
  refine EL.sreg ?_
  refine OW.last 4 [4, 5] (x' := ⟨[(5, VI s.checkE), (4, .ref 0 2 0 0)], (adq40 s)⟩) (by kernel_rfl) (by kernel_rfl) ?_
  refine EL.ret ?_
  refine thenL_ret ?_
  refine ⟨.inr rfl, .tup [.agg [VI 0, VI 0], VI s.checkE], by kernel_rfl, Ale.of_eq ?_⟩
  focus (first | (have ho : s.okS := sck.1 (by assumption); (try simp only [max1, if_pos ho] at *); first | (simp [nextP, ho, *]; done) | (have hn9 : nextP s who = (⟨0, 0⟩, 3) := if_neg (fun ⟨_, k1, k2⟩ => by unfold Stamp.okS at ho; omega); first | (rw [hn9]; done) | (rw [hn9]; rfl)) | (simp only [nextP]; split <;> first | rfl | (exfalso; omega) | (simp_all; done) | (simp_all; omega))) | (have ho : ¬ s.okS := (fun h => absurd (sck.2 h) (by assumption)); simp [nextP, Stamp.checkE, ho]; done))
  rw [h1]
  have g1 : (s.checkE = 0) := by simpa using h1
  refine EL.condF (by kernel_rfl) ?_
  refine EL.skip ?_
  refine thenL_norm ?_
  refine EL.seq ?_
  refine EL.sreg ?_
  refine OW.run 3 (x' := ⟨(19, .v (.bool (decide (who < 0)))) :: (18, .v (.bool (decide (who < 0)))) :: (17, VI who) :: (14, .v (.bool false)) :: (adq41 s who), (adq40 s)⟩) (by kernel_rfl) ?_
  rcases Bool.eq_false_or_eq_true (decide (who < 0)) with h2 | h2
  rw [h2]
  have g2 : (who < 0) := of_decide_eq_true h2
  refine OW.last 8 [1, 4, 6, 27] (x' := ⟨(adq42 who), (adq40 s)⟩) (by kernel_rfl) (by kernel_rfl) ?_
  refine EL.condT (by kernel_rfl) ?_
  refine EL.sreg ?_
  refine OW.last 3 [4, 5] (x' := ⟨[(5, VI 3), (4, .ref 0 2 0 0)], (adq40 s)⟩) (by kernel_rfl) (by kernel_rfl) ?_
  refine EL.ret ?_
  refine thenL_ret ?_
  refine ⟨.inr rfl, .tup [.agg [VI 0, VI 0], VI 3], by kernel_rfl, Ale.of_eq ?_⟩
  focus (first | (have ho : s.okS := sck.1 (by assumption); (try simp only [max1, if_pos ho] at *); first | (simp [nextP, ho, *]; done) | (have hn9 : nextP s who = (⟨0, 0⟩, 3) := if_neg (fun ⟨_, k1, k2⟩ => by unfold Stamp.okS at ho; omega); first | (rw [hn9]; done) | (rw [hn9]; rfl)) | (simp only [nextP]; split <;> first | rfl | (exfalso; omega) | (simp_all; done) | (simp_all; omega))) | (have ho : ¬ s.okS := (fun h => absurd (sck.2 h) (by assumption)); simp [nextP, Stamp.checkE, ho]; done))
  rw [h2]
  have g2 : ¬ (who < 0) := of_decide_eq_false h2
  refine OW.run 4 (x' := ⟨(23, .v (.bool (decide (who > 31)))) :: (22, .v (.bool (decide (who > 31)))) :: (21, .v (.bool (decide (who > 31)))) :: (adq43 who s), (adq40 s)⟩) (by kernel_rfl) ?_
  rcases Bool.eq_false_or_eq_true (decide (who > 31)) with h3 | h3
  rw [h3]
  have g3 : (who > 31) := of_decide_eq_true h3
  refine OW.last 4 [1, 4, 6, 27] (x' := ⟨(adq42 who), (adq40 s)⟩) (by kernel_rfl) (by kernel_rfl) ?_
  refine EL.condT (by kernel_rfl) ?_
  refine EL.sreg ?_
  refine OW.last 3 [4, 5] (x' := ⟨[(5, VI 3), (4, .ref 0 2 0 0)], (adq40 s)⟩) (by kernel_rfl) (by kernel_rfl) ?_
  refine EL.ret ?_
  refine thenL_ret ?_
  refine ⟨.inr rfl, .tup [.agg [VI 0, VI 0], VI 3], by kernel_rfl, Ale.of_eq ?_⟩
  focus (first | (have ho : s.okS := sck.1 (by assumption); (try simp only [max1, if_pos ho] at *); first | (simp [nextP, ho, *]; done) | (have hn9 : nextP s who = (⟨0, 0⟩, 3) := if_neg (fun ⟨_, k1, k2⟩ => by unfold Stamp.okS at ho; omega); first | (rw [hn9]; done) | (rw [hn9]; rfl)) | (simp only [nextP]; split <;> first | rfl | (exfalso; omega) | (simp_all; done) | (simp_all; omega))) | (have ho : ¬ s.okS := (fun h => absurd (sck.2 h) (by assumption)); simp [nextP, Stamp.checkE, ho]; done))
  rw [h3]
  have g3 : ¬ (who > 31) := of_decide_eq_false h3
  refine OW.last 4 [1, 4, 6, 27] (x' := ⟨(27, .v (.bool (decide (((max1 s).time) ≥ 1000000)))) :: (adq44 who), (adq40 s)⟩) (by kernel_rfl) (by kernel_rfl) ?_
  rcases Bool.eq_false_or_eq_true (decide (((max1 s).time) ≥ 1000000)) with h4 | h4
  rw [h4]
  have g4 : (((max1 s).time) ≥ 1000000) := of_decide_eq_true h4
  refine EL.condT (by kernel_rfl) ?_
  refine EL.sreg ?_
  refine OW.last 3 [4, 5] (x' := ⟨[(5, VI 3), (4, .ref 0 2 0 0)], (adq40 s)⟩) (by kernel_rfl) (by kernel_rfl) ?_
  refine EL.ret ?_
  refine thenL_ret ?_
  refine ⟨.inr rfl, .tup [.agg [VI 0, VI 0], VI 3], by kernel_rfl, Ale.of_eq ?_⟩
  focus (first | (have ho : s.okS := sck.1 (by assumption); (try simp only [max1, if_pos ho] at *); first | (simp [nextP, ho, *]; done) | (have hn9 : nextP s who = (⟨0, 0⟩, 3) := if_neg (fun ⟨_, k1, k2⟩ => by unfold Stamp.okS at ho; omega); first | (rw [hn9]; done) | (rw [hn9]; rfl)) | (simp only [nextP]; split <;> first | rfl | (exfalso; omega) | (simp_all; done) | (simp_all; omega))) | (have ho : ¬ s.okS := (fun h => absurd (sck.2 h) (by assumption)); simp [nextP, Stamp.checkE, ho]; done))
  rw [h4]
  have g4 : ¬ (((max1 s).time) ≥ 1000000) := of_decide_eq_false h4
  refine EL.condF (by kernel_rfl) ?_
  refine EL.skip ?_
  refine thenL_norm ?_
  refine EL.sreg ?_
  refine OW.run 7 (x' := ⟨(5, VI 0) :: (33, .agg [VI (IntKind.i64.wrap (((max1 s).time) + 1)), VI who]) :: (32, VI who) :: (31, VI (IntKind.i64.wrap (((max1 s).time) + 1))) :: (adq45 s who), [some ⟨2, [[VI (IntKind.i64.wrap (((max1 s).time) + 1)), VI who]]⟩, some ⟨2, [[VI ((max1 s).time), VI ((max1 s).who)]]⟩]⟩) (by kernel_rfl) ?_
  have e5 : IntKind.i64.wrap (((max1 s).time) + 1) = ((max1 s).time) + 1 := wr64 (by unfold max1; split <;> (try unfold Stamp.okS at *) <;> first | omega | (simp; done))
  rw [e5]
  refine OW.last 0 [4, 5] (x' := ⟨[(5, VI 0), (4, .ref 0 2 0 0)], (adq46 s who)⟩) (by kernel_rfl) (by kernel_rfl) ?_
  refine EL.ret ?_
  refine ⟨.inr rfl, .tup [.agg [VI (((max1 s).time) + 1), VI who], VI 0], by kernel_rfl, Ale.of_eq ?_⟩
  focus (first | (have ho : s.okS := sck.1 (by assumption); (try simp only [max1, if_pos ho] at *); first | (simp [nextP, ho, *]; done) | (have hn9 : nextP s who = (⟨0, 0⟩, 3) := if_neg (fun ⟨_, k1, k2⟩ => by unfold Stamp.okS at ho; omega); first | (rw [hn9]; done) | (rw [hn9]; rfl)) | (simp only [nextP]; split <;> first | rfl | (exfalso; omega) | (simp_all; done) | (simp_all; omega))) | (have ho : ¬ s.okS := (fun h => absurd (sck.2 h) (by assumption)); simp [nextP, Stamp.checkE, ho]; done))
abbrev adq47 (a : Ask) : OB := some ⟨8, [[VI a.op, VI a.kind, VI a.phase, .v (.string a.data), VI a.best.at_.time, VI a.best.at_.who, .v (.string a.best.data), .v (.int .u64 (a.heard.n : Int))]]⟩
abbrev adq48 (m : Msg) : OB := some ⟨6, [[VI m.kind, VI m.op, VI m.node, VI m.copy.at_.time, VI m.copy.at_.who, .v (.string m.copy.data)]]⟩
abbrev adq49 : OB := some ⟨8, [[VI 0, VI 0, VI 0, .v (.string (⟨#[]⟩)), VI 0, VI 0, .v (.string (⟨#[]⟩)), .v (.int .u64 0)]]⟩
abbrev adq50 (v : Voters) (a : Ask) (m : Msg) : LB := [some ⟨2, [[.lst 1 (v.weights.map cI), VI v.need]]⟩, (adq47 a), (adq48 m), adq49]
abbrev adq51 : LS := [(6, .ref 3 8 0 0), (5, .ref 2 6 0 0), (4, .ref 1 8 0 0), (3, .ref 0 2 0 0)]
abbrev adq52 (a : Ask) : AV := .agg [VI a.op, VI a.kind, VI a.phase, .v (.string a.data), VI a.best.at_.time, VI a.best.at_.who, .v (.string a.best.data), .v (.int .u64 (a.heard.n : Int))]
abbrev adq53 (a : Ask) (v : Voters) : LS := (15, (adq52 a)) :: (14, .agg [.lst 1 (v.weights.map cI), VI v.need]) :: adq51
abbrev adq54 (m : Msg) : AV := .agg [VI m.kind, VI m.op, VI m.node, VI m.copy.at_.time, VI m.copy.at_.who, .v (.string m.copy.data)]
abbrev adq55 (m : Msg) (a : Ask) (v : Voters) : LS := (19, (adq54 m)) :: (18, .v (.bool true)) :: (9, VI (a.checkE v.weights v.need)) :: adq51
abbrev adq56 (m : Msg) : LS := (9, VI m.checkE) :: (20, VI m.checkE) :: (19, (adq54 m)) :: (18, .v (.bool true)) :: adq51
abbrev adq57 (m : Msg) : LS := [(8, VI m.checkE), (7, .emp), (6, .ref 3 8 0 0)]
abbrev adq58 (a : Ask) (m : Msg) : LS := (26, VI a.phase) :: (25, .ref 1 8 0 2) :: (22, .v (.bool false)) :: (9, VI m.checkE) :: adq51
abbrev adq59 (m : Msg) (a : Ask) : LS := (30, VI m.kind) :: (29, .ref 2 6 0 0) :: (28, .v (.bool true)) :: (27, .v (.bool true)) :: (adq58 a m)
abbrev adq60 (a : Ask) (m : Msg) : LS := (49, VI a.op) :: (48, .ref 1 8 0 0) :: (47, VI m.op) :: (46, .ref 2 6 0 1) :: (45, .v (.bool false)) :: (44, .v (.bool false)) :: (43, .v (.bool true)) :: (10, .v (.bool true)) :: adq51
abbrev adq61 (v : Voters) (a : Ask) (m : Msg) : LB := [some ⟨2, [[.lst 1 (v.weights.map cI), VI v.need]]⟩, (adq47 a), (adq48 m), (adq47 a)]
abbrev adq62 (v : Voters) (m : Msg) (a : Ask) : LS := (56, .lst 1 (v.weights.map cI)) :: (55, .ref 0 2 0 0) :: (54, VI m.node) :: (53, .ref 2 6 0 2) :: (52, .v (.bool false)) :: (51, .v (.bool false)) :: (50, .v (.bool false)) :: (adq60 a m)
abbrev adq63 (m : Msg) (a : Ask) (v : Voters) : LS := (64, VI m.node) :: (63, .ref 2 6 0 2) :: (62, .v (.int .u64 (a.heard.n : Int))) :: (61, .ref 1 8 0 7) :: (60, .v (.bool false)) :: (59, .v (.bool false)) :: (58, .v (.bool false)) :: (57, VI (List.length v.weights : Int)) :: (adq62 v m a)
abbrev adq64 (v : Voters) (a : Ask) (m : Msg) : LB := [some ⟨2, [[.lst 1 (v.weights.map cI), VI v.need]]⟩, (adq47 a), (adq48 m), adq49, (adq47 a)]
abbrev adq65 (m : Msg) (a : Ask) : LS := (72, VI m.node) :: (71, .ref 2 6 0 2) :: (70, .v (.int .u64 (a.heard.n : Int))) :: (69, .ref 4 8 0 7) :: (11, .ref 4 8 0 0) :: adq51
abbrev adq66 (m : Msg) (a : Ask) : LS := (73, .v (.int .u64 ((2 ^ (Int.toNat m.node) : Nat) : Int))) :: (adq65 m a)
abbrev adq67 (a : Ask) (m : Msg) : OB := some ⟨8, [[VI a.op, VI a.kind, VI a.phase, .v (.string a.data), VI a.best.at_.time, VI a.best.at_.who, .v (.string a.best.data), .v (.int .u64 ((orU a.heard (Int.toNat m.node)).n : Int))]]⟩
abbrev adq68 (v : Voters) (a : Ask) (m : Msg) : LB := [some ⟨2, [[.lst 1 (v.weights.map cI), VI v.need]]⟩, (adq47 a), (adq48 m), adq49, (adq67 a m)]
abbrev adq69 (m : Msg) : AV := .agg [VI m.copy.at_.time, VI m.copy.at_.who, .v (.string m.copy.data)]
abbrev adq70 (a : Ask) : AV := .agg [VI a.best.at_.time, VI a.best.at_.who, .v (.string a.best.data)]
abbrev adq71 (a : Ask) (m : Msg) : OB := some ⟨3, [[VI a.best.at_.time, VI a.best.at_.who, .v (.string a.best.data)], [VI m.copy.at_.time, VI m.copy.at_.who, .v (.string m.copy.data)]]⟩
abbrev adq72 (v : Voters) (a : Ask) (m : Msg) : LB := [some ⟨2, [[.lst 1 (v.weights.map cI), VI v.need]]⟩, (adq47 a), (adq48 m), adq49, (adq67 a m), (adq71 a m)]
abbrev adq73 (m : Msg) (a : Ask) : LS := (84, .own 5 3 0 2) :: (83, (adq69 m)) :: (82, .ref 2 6 0 3) :: (81, (adq70 a)) :: (80, .ref 1 8 0 4) :: (78, .v (.bool true)) :: (11, .ref 4 8 0 0) :: adq51
abbrev adq74 (a : Ask) (m : Msg) : AV := .agg [VI ((((mergedP ([a.best, m.copy])).1).at_).time), VI ((((mergedP ([a.best, m.copy])).1).at_).who), .v (.string (((mergedP ([a.best, m.copy])).1).data))]
abbrev adq75 (a : Ask) (m : Msg) : LS := (85, .tup [(adq74 a m), VI ((mergedP ([a.best, m.copy])).2)]) :: (adq73 m a)
abbrev adq76 (a : Ask) (m : Msg) : OB := some ⟨8, [[VI a.op, VI a.kind, VI a.phase, .v (.string a.data), VI ((((mergedP ([a.best, m.copy])).1).at_).time), VI ((((mergedP ([a.best, m.copy])).1).at_).who), .v (.string (((mergedP ([a.best, m.copy])).1).data)), .v (.int .u64 ((orU a.heard (Int.toNat m.node)).n : Int))]]⟩
abbrev adq77 (v : Voters) (a : Ask) (m : Msg) : LB := [some ⟨2, [[.lst 1 (v.weights.map cI), VI v.need]]⟩, (adq47 a), (adq48 m), adq49, (adq76 a m), (adq71 a m)]
abbrev adq78 (a : Ask) (m : Msg) : LS := (88, .ref 4 8 0 4) :: (87, VI ((mergedP ([a.best, m.copy])).2)) :: (86, (adq74 a m)) :: (79, .tup [(adq74 a m), VI ((mergedP ([a.best, m.copy])).2)]) :: (adq75 a m)
abbrev adq79 (a : Ask) (m : Msg) (v : Voters) : LS := (92, .v (.int .u64 ((orU a.heard (Int.toNat m.node)).n : Int))) :: (91, .ref 4 8 0 7) :: (90, .lst 1 (v.weights.map cI)) :: (89, .ref 0 2 0 0) :: (adq78 a m)
abbrev adq80 (v : Voters) (a : Ask) (m : Msg) : LS := (93, VI (bsum v.weights (orU a.heard (Int.toNat m.node)).n)) :: (adq79 a m v)
abbrev adq81 : LS := [(11, .ref 4 8 0 0), (6, .ref 3 8 0 0), (4, .ref 1 8 0 0), (3, .ref 0 2 0 0)]
abbrev adq82 (v : Voters) (a : Ask) (m : Msg) : LB := [some ⟨2, [[.lst 1 (v.weights.map cI), VI v.need]]⟩, (adq47 a), (adq48 m), (adq76 a m), (adq76 a m), (adq71 a m)]
abbrev adq83 (a : Ask) (m : Msg) : OB := some ⟨8, [[VI a.op, VI a.kind, VI 3, .v (.string a.data), VI ((((mergedP ([a.best, m.copy])).1).at_).time), VI ((((mergedP ([a.best, m.copy])).1).at_).who), .v (.string (((mergedP ([a.best, m.copy])).1).data)), .v (.int .u64 ((orU a.heard (Int.toNat m.node)).n : Int))]]⟩
abbrev adq84 (v : Voters) (a : Ask) (m : Msg) : LB := [some ⟨2, [[.lst 1 (v.weights.map cI), VI v.need]]⟩, (adq47 a), (adq48 m), adq49, (adq83 a m), (adq71 a m)]
abbrev adq85 (v : Voters) (a : Ask) (m : Msg) : LB := [some ⟨2, [[.lst 1 (v.weights.map cI), VI v.need]]⟩, (adq47 a), (adq48 m), (adq83 a m), (adq83 a m), (adq71 a m)]
abbrev adq86 (a : Ask) (m : Msg) : AV := .agg [VI ((((mergedP ([a.best, m.copy])).1).at_).time), VI ((((mergedP ([a.best, m.copy])).1).at_).who)]
abbrev adq87 (a : Ask) (m : Msg) : OB := some ⟨2, [[VI ((((mergedP ([a.best, m.copy])).1).at_).time), VI ((((mergedP ([a.best, m.copy])).1).at_).who)]]⟩
abbrev adq88 (v : Voters) (a : Ask) (m : Msg) : LB := [some ⟨2, [[.lst 1 (v.weights.map cI), VI v.need]]⟩, (adq47 a), (adq48 m), adq49, (adq76 a m), (adq71 a m), (adq87 a m)]
abbrev adq89 (a : Ask) (m : Msg) : LS := (112, VI a.op) :: (111, .ref 1 8 0 0) :: (110, .own 6 2 0 1) :: (109, (adq86 a m)) :: (108, .ref 4 8 0 4) :: (107, .ref 4 8 0 4) :: (105, .v (.bool true)) :: adq81
abbrev adq90 (a : Ask) (m : Msg) : AV := .agg [VI (((nextP (((mergedP ([a.best, m.copy])).1).at_) a.op).1).time), VI (((nextP (((mergedP ([a.best, m.copy])).1).at_) a.op).1).who)]
abbrev adq91 (a : Ask) (m : Msg) : LS := (113, .tup [(adq90 a m), VI ((nextP (((mergedP ([a.best, m.copy])).1).at_) a.op).2)]) :: (adq89 a m)
abbrev adq92 (a : Ask) (m : Msg) : OB := some ⟨2, [[VI (((nextP (((mergedP ([a.best, m.copy])).1).at_) a.op).1).time), VI (((nextP (((mergedP ([a.best, m.copy])).1).at_) a.op).1).who)]]⟩
abbrev adq93 (v : Voters) (a : Ask) (m : Msg) : LB := [some ⟨2, [[.lst 1 (v.weights.map cI), VI v.need]]⟩, (adq47 a), (adq48 m), adq49, (adq76 a m), (adq71 a m), (adq87 a m), (adq92 a m)]
abbrev adq94 (a : Ask) (m : Msg) : LS := (13, VI ((nextP (((mergedP ([a.best, m.copy])).1).at_) a.op).2)) :: (12, .ref 7 2 0 0) :: adq81
abbrev adq95 (v : Voters) (a : Ask) (m : Msg) : LB := [some ⟨2, [[.lst 1 (v.weights.map cI), VI v.need]]⟩, (adq47 a), (adq48 m), (adq47 a), (adq76 a m), (adq71 a m), (adq87 a m), (adq92 a m)]
abbrev adq96 (a : Ask) (m : Msg) : AV := .agg [VI (((nextP (((mergedP ([a.best, m.copy])).1).at_) a.op).1).time), VI (((nextP (((mergedP ([a.best, m.copy])).1).at_) a.op).1).who), .v (.string a.data)]
abbrev adq97 (a : Ask) (m : Msg) : OB := some ⟨8, [[VI a.op, VI a.kind, VI a.phase, .v (.string a.data), VI (((nextP (((mergedP ([a.best, m.copy])).1).at_) a.op).1).time), VI (((nextP (((mergedP ([a.best, m.copy])).1).at_) a.op).1).who), .v (.string a.data), .v (.int .u64 ((orU a.heard (Int.toNat m.node)).n : Int))]]⟩
abbrev adq98 (v : Voters) (a : Ask) (m : Msg) : LB := [some ⟨2, [[.lst 1 (v.weights.map cI), VI v.need]]⟩, (adq47 a), (adq48 m), adq49, (adq97 a m), (adq71 a m), (adq87 a m), (adq92 a m)]
abbrev adq99 (a : Ask) (m : Msg) : LS := (123, .ref 4 8 0 4) :: (122, (adq96 a m)) :: (121, .v (.string a.data)) :: (120, .ref 1 8 0 3) :: (119, (adq90 a m)) :: (117, .v (.bool false)) :: (12, .ref 7 2 0 0) :: adq81
abbrev adq100 (a : Ask) (m : Msg) : OB := some ⟨8, [[VI a.op, VI a.kind, VI 2, .v (.string a.data), VI (((nextP (((mergedP ([a.best, m.copy])).1).at_) a.op).1).time), VI (((nextP (((mergedP ([a.best, m.copy])).1).at_) a.op).1).who), .v (.string a.data), .v (.int .u64 ((orU a.heard (Int.toNat m.node)).n : Int))]]⟩
abbrev adq101 (v : Voters) (a : Ask) (m : Msg) : LB := [some ⟨2, [[.lst 1 (v.weights.map cI), VI v.need]]⟩, (adq47 a), (adq48 m), adq49, (adq100 a m), (adq71 a m), (adq87 a m), (adq92 a m)]
abbrev adq102 (a : Ask) (m : Msg) : OB := some ⟨8, [[VI a.op, VI a.kind, VI 2, .v (.string a.data), VI (((nextP (((mergedP ([a.best, m.copy])).1).at_) a.op).1).time), VI (((nextP (((mergedP ([a.best, m.copy])).1).at_) a.op).1).who), .v (.string a.data), .v (.int .u64 0)]]⟩
abbrev adq103 (v : Voters) (a : Ask) (m : Msg) : LB := [some ⟨2, [[.lst 1 (v.weights.map cI), VI v.need]]⟩, (adq47 a), (adq48 m), adq49, (adq102 a m), (adq71 a m), (adq87 a m), (adq92 a m)]
abbrev adq104 (a : Ask) (m : Msg) : AV := .agg [VI a.op, VI a.kind, VI 2, .v (.string a.data), VI (((nextP (((mergedP ([a.best, m.copy])).1).at_) a.op).1).time), VI (((nextP (((mergedP ([a.best, m.copy])).1).at_) a.op).1).who), .v (.string a.data), .v (.int .u64 0)]
abbrev adq105 (v : Voters) (a : Ask) (m : Msg) : LS := (128, .lst 1 (v.weights.map cI)) :: (127, .ref 0 2 0 0) :: (126, (adq104 a m)) :: adq81
abbrev adq106 (a : Ask) (m : Msg) : AV := .agg [VI 3, VI a.op, VI 0, VI (((nextP (((mergedP ([a.best, m.copy])).1).at_) a.op).1).time), VI (((nextP (((mergedP ([a.best, m.copy])).1).at_) a.op).1).who), .v (.string a.data)]
abbrev adq107 (a : Ask) (m : Msg) (v : Voters) : LS := (134, (adq106 a m)) :: (133, (adq96 a m)) :: (132, .ref 4 8 0 4) :: (131, VI a.op) :: (130, .ref 1 8 0 0) :: (129, VI (List.length v.weights : Int)) :: (adq105 v a m)
abbrev adq108 (v : Voters) (a : Ask) (m : Msg) : LS := (135, .lst 6 ((toAllM (List.length v.weights : Int).toNat (⟨3, a.op, 0, (⟨((nextP (((mergedP ([a.best, m.copy])).1).at_) a.op).1), a.data⟩ : Copy)⟩ : Msg)).map Msg.cs)) :: (adq107 a m v)
abbrev adq109 (v : Voters) (a : Ask) (m : Msg) : LB := [some ⟨2, [[.lst 1 (v.weights.map cI), VI v.need]]⟩, (adq47 a), (adq48 m), (adq102 a m), (adq102 a m), (adq71 a m), (adq87 a m), (adq92 a m)]
abbrev adq110 (v : Voters) (a : Ask) (m : Msg) : LS := [(8, VI 0), (7, .lst 6 ((toAllM (List.length v.weights : Int).toNat (⟨3, a.op, 0, (⟨((nextP (((mergedP ([a.best, m.copy])).1).at_) a.op).1), a.data⟩ : Copy)⟩ : Msg)).map Msg.cs)), (6, .ref 3 8 0 0)]
abbrev adq111 (a : Ask) (m : Msg) : OB := some ⟨8, [[VI a.op, VI a.kind, VI 2, .v (.string a.data), VI ((((mergedP ([a.best, m.copy])).1).at_).time), VI ((((mergedP ([a.best, m.copy])).1).at_).who), .v (.string (((mergedP ([a.best, m.copy])).1).data)), .v (.int .u64 ((orU a.heard (Int.toNat m.node)).n : Int))]]⟩
abbrev adq112 (v : Voters) (a : Ask) (m : Msg) : LB := [some ⟨2, [[.lst 1 (v.weights.map cI), VI v.need]]⟩, (adq47 a), (adq48 m), adq49, (adq111 a m), (adq71 a m)]
abbrev adq113 (a : Ask) (m : Msg) : OB := some ⟨8, [[VI a.op, VI a.kind, VI 2, .v (.string a.data), VI ((((mergedP ([a.best, m.copy])).1).at_).time), VI ((((mergedP ([a.best, m.copy])).1).at_).who), .v (.string (((mergedP ([a.best, m.copy])).1).data)), .v (.int .u64 0)]]⟩
abbrev adq114 (v : Voters) (a : Ask) (m : Msg) : LB := [some ⟨2, [[.lst 1 (v.weights.map cI), VI v.need]]⟩, (adq47 a), (adq48 m), adq49, (adq113 a m), (adq71 a m)]
abbrev adq115 (a : Ask) (m : Msg) : AV := .agg [VI a.op, VI a.kind, VI 2, .v (.string a.data), VI ((((mergedP ([a.best, m.copy])).1).at_).time), VI ((((mergedP ([a.best, m.copy])).1).at_).who), .v (.string (((mergedP ([a.best, m.copy])).1).data)), .v (.int .u64 0)]
abbrev adq116 (v : Voters) (a : Ask) (m : Msg) : LS := (128, .lst 1 (v.weights.map cI)) :: (127, .ref 0 2 0 0) :: (126, (adq115 a m)) :: adq81
abbrev adq117 (a : Ask) (m : Msg) : AV := .agg [VI 3, VI a.op, VI 0, VI ((((mergedP ([a.best, m.copy])).1).at_).time), VI ((((mergedP ([a.best, m.copy])).1).at_).who), .v (.string (((mergedP ([a.best, m.copy])).1).data))]
abbrev adq118 (a : Ask) (m : Msg) (v : Voters) : LS := (134, (adq117 a m)) :: (133, (adq74 a m)) :: (132, .ref 4 8 0 4) :: (131, VI a.op) :: (130, .ref 1 8 0 0) :: (129, VI (List.length v.weights : Int)) :: (adq116 v a m)
abbrev adq119 (v : Voters) (a : Ask) (m : Msg) : LS := (135, .lst 6 ((toAllM (List.length v.weights : Int).toNat (⟨3, a.op, 0, (⟨(((mergedP ([a.best, m.copy])).1).at_), ((mergedP ([a.best, m.copy])).1).data⟩ : Copy)⟩ : Msg)).map Msg.cs)) :: (adq118 a m v)
abbrev adq120 (v : Voters) (a : Ask) (m : Msg) : LB := [some ⟨2, [[.lst 1 (v.weights.map cI), VI v.need]]⟩, (adq47 a), (adq48 m), (adq113 a m), (adq113 a m), (adq71 a m)]
abbrev adq121 (v : Voters) (a : Ask) (m : Msg) : LS := [(8, VI 0), (7, .lst 6 ((toAllM (List.length v.weights : Int).toNat (⟨3, a.op, 0, (⟨(((mergedP ([a.best, m.copy])).1).at_), ((mergedP ([a.best, m.copy])).1).data⟩ : Copy)⟩ : Msg)).map Msg.cs)), (6, .ref 3 8 0 0)]
abbrev adq122 (a : Ask) (m : Msg) : LS := (35, VI a.phase) :: (34, .ref 1 8 0 2) :: (33, .v (.bool false)) :: (32, .v (.bool false)) :: (31, .v (.bool false)) :: (adq59 m a)
abbrev adq123 (a : Ask) (m : Msg) : LS := (35, VI a.phase) :: (34, .ref 1 8 0 2) :: (33, .v (.bool false)) :: (32, .v (.bool false)) :: (31, .v undef) :: (30, .v undef) :: (29, .v undef) :: (28, .v (.bool false)) :: (27, .v (.bool false)) :: (adq58 a m)
abbrev adq124 (a : Ask) (m : Msg) (v : Voters) : LS := (92, .v (.int .u64 ((orU a.heard (Int.toNat m.node)).n : Int))) :: (91, .ref 4 8 0 7) :: (90, .lst 1 (v.weights.map cI)) :: (89, .ref 0 2 0 0) :: (78, .v (.bool false)) :: (11, .ref 4 8 0 0) :: adq51
abbrev adq125 (v : Voters) (a : Ask) (m : Msg) : LS := (93, VI (bsum v.weights (orU a.heard (Int.toNat m.node)).n)) :: (adq124 a m v)
abbrev adq126 (v : Voters) (a : Ask) (m : Msg) : LB := [some ⟨2, [[.lst 1 (v.weights.map cI), VI v.need]]⟩, (adq47 a), (adq48 m), (adq67 a m), (adq67 a m)]
abbrev adq127 (a : Ask) (m : Msg) : OB := some ⟨8, [[VI a.op, VI a.kind, VI 3, .v (.string a.data), VI a.best.at_.time, VI a.best.at_.who, .v (.string a.best.data), .v (.int .u64 ((orU a.heard (Int.toNat m.node)).n : Int))]]⟩
abbrev adq128 (v : Voters) (a : Ask) (m : Msg) : LB := [some ⟨2, [[.lst 1 (v.weights.map cI), VI v.need]]⟩, (adq47 a), (adq48 m), adq49, (adq127 a m)]
abbrev adq129 (v : Voters) (a : Ask) (m : Msg) : LB := [some ⟨2, [[.lst 1 (v.weights.map cI), VI v.need]]⟩, (adq47 a), (adq48 m), (adq127 a m), (adq127 a m)]
abbrev adq130 (a : Ask) (v : Voters) : LS := [(8, VI (a.checkE v.weights v.need)), (7, .emp), (6, .ref 3 8 0 0)]
theorem rhear_fn (v : Voters) (a : Ask) (m : Msg) (hx : v.weights.length ≤ 9223372036854775807) : Fn Tryd.prog 10 [.agg [.lst 1 (v.weights.map cI), VI v.need], .agg [VI a.op, VI a.kind, VI a.phase, .v (.string a.data), VI a.best.at_.time, VI a.best.at_.who, .v (.string a.best.data), .v (.int .u64 (a.heard.n : Int))], .agg [VI m.kind, VI m.op, VI m.node, VI m.copy.at_.time, VI m.copy.at_.who, .v (.string m.copy.data)]] (.tup [.agg [VI (((hearA v a m).1).op), VI (((hearA v a m).1).kind), VI (((hearA v a m).1).phase), .v (.string (((hearA v a m).1).data)), VI (((((hearA v a m).1).best).at_).time), VI (((((hearA v a m).1).best).at_).who), .v (.string ((((hearA v a m).1).best).data)), .v (.int .u64 (((hearA v a m).1).heard.n : Int))], .lst 6 (((hearA v a m).2.1).map Msg.cs), VI ((hearA v a m).2.2)]) := by
  refine fn_walkW F10_ok (of_decide_eq_true (by kernel_rfl)) ?_
  refine EL.sreg ?_
  refine OW.last 6 [3, 4, 5, 6] (x' := ⟨adq51, (adq50 v a m)⟩) (by kernel_rfl) (by kernel_rfl) ?_
  refine EL.sreg ?_
  refine OW.run 2 (x' := ⟨(adq53 a v), (adq50 v a m)⟩) (by kernel_rfl) ?_
  refine OW.fn (ar := [.agg [.lst 1 (v.weights.map cI), VI v.need], (adq52 a)]) (x' := ⟨(16, VI (a.checkE v.weights v.need)) :: (adq53 a v), (adq50 v a m)⟩) (by kernel_rfl) (by kernel_rfl) F14_call (racheck_fn v a hx) (by kernel_rfl) (by kernel_rfl) ?_
  refine OW.last 1 [3, 4, 5, 6, 9] (x' := ⟨(9, VI (a.checkE v.weights v.need)) :: adq51, (adq50 v a m)⟩) (by kernel_rfl) (by kernel_rfl) ?_
  refine EL.seq ?_
  refine EL.sreg ?_
  refine OW.last 2 [3, 4, 5, 6, 9, 18] (x' := ⟨(18, .v (.bool ((a.checkE v.weights v.need) == 0))) :: (9, VI (a.checkE v.weights v.need)) :: adq51, (adq50 v a m)⟩) (by kernel_rfl) (by kernel_rfl) ?_
  rcases Bool.eq_false_or_eq_true (((a.checkE v.weights v.need) == 0)) with h1 | h1
  rw [h1]
  have g1 : ((a.checkE v.weights v.need) = 0) := by simpa using h1
  refine EL.condT (by kernel_rfl) ?_
  refine EL.reg0 ?_
  refine OW.run 1 (x' := ⟨(adq55 m a v), (adq50 v a m)⟩) (by kernel_rfl) ?_
  refine OW.fn (ar := [(adq54 m)]) (x' := ⟨(20, VI m.checkE) :: (adq55 m a v), (adq50 v a m)⟩) (by kernel_rfl) (by kernel_rfl) F23_call (rmcheck_fn m) (by kernel_rfl) (by kernel_rfl) ?_
  refine OW.end 1 (x' := ⟨(adq56 m), (adq50 v a m)⟩) (by kernel_rfl) (by kernel_rfl) ?_
  refine thenL_norm ?_
  refine EL.seq ?_
  refine EL.sreg ?_
  refine OW.last 2 [3, 4, 5, 6, 9, 22] (x' := ⟨(22, .v (.bool (m.checkE != 0))) :: (9, VI m.checkE) :: adq51, (adq50 v a m)⟩) (by kernel_rfl) (by kernel_rfl) ?_
  rcases Bool.eq_false_or_eq_true ((m.checkE != 0)) with h2 | h2
  rw [h2]
  have g2 : ¬ (m.checkE = 0) := by simpa using h2
  refine EL.condT (by kernel_rfl) ?_
  refine EL.sreg ?_
  refine OW.last 5 [6, 7, 8] (x' := ⟨(adq57 m), (adq50 v a m)⟩) (by kernel_rfl) (by kernel_rfl) ?_
  refine EL.ret ?_
  refine thenL_ret ?_
  refine ⟨.inr rfl, .tup [.agg [VI 0, VI 0, VI 0, .v (.string (⟨#[]⟩)), VI 0, VI 0, .v (.string (⟨#[]⟩)), .v (.int .u64 0)], .emp, VI m.checkE], by kernel_rfl, Ale.trans (b := .tup [.agg [VI 0, VI 0, VI 0, .v (.string (⟨#[]⟩)), VI 0, VI 0, .v (.string (⟨#[]⟩)), .v (.int .u64 0)], .lst 6 [], VI m.checkE]) (Ale.tup (.cons (Ale.refl) (.cons (Ale.emp) (.cons (Ale.refl) (.nil))))) (Ale.of_eq ?_)⟩
  focus (first | (exfalso; omega) | ((try have hmt := merged_two (ask_ok (a := a) (ws := v.weights) (need := v.need) (by assumption)).2.2.2.2.2.2.1 (msg_node (m := m) (by assumption)).2); (try simp only [hmt] at *); rw [hearA_eq (by assumption) (by assumption), hearT_few (by assumption) (by assumption) (by omega) (by first | (simp [wantsA, *]; done) | (simp_all [wantsA]; done)) (by omega) (by assumption)]; first | (have hk9 : a.kind = 1 := (by have := (ask_ok (a := a) (ws := v.weights) (need := v.need) (by assumption)).2.2.1; omega); simp [heardA, *]; done) | (simp [heardA, *]; done) | (simp_all [heardA]; done)) | (rw [hearA_eq (by assumption) (by assumption), hearT_no (by first | (left; omega) | (right; left; unfold wantsA; rw [if_neg (by omega), if_neg (by omega)]; have := msg_kind (m := m) (by assumption); omega) | (simp [wantsA, *]; done) | (simp_all [wantsA]; done) | omega)]; rfl) | (simp only [hearA]; (repeat' split) <;> first | rfl | (exfalso; omega) | contradiction | (simp_all [Ask.zero]; done)))
  rw [h2]
  have g2 : (m.checkE = 0) := by simpa using h2
  refine EL.condF (by kernel_rfl) ?_
  refine EL.skip ?_
  refine thenL_norm ?_
  refine EL.sreg ?_
  refine OW.run 4 (x' := ⟨(28, .v (.bool (a.phase == 1))) :: (27, .v (.bool (a.phase == 1))) :: (adq58 a m), (adq50 v a m)⟩) (by kernel_rfl) ?_
  rcases Bool.eq_false_or_eq_true ((a.phase == 1)) with h3 | h3
  rw [h3]
  have g3 : (a.phase = 1) := by simpa using h3
  refine OW.run 5 (x' := ⟨(33, .v (.bool (m.kind == 2))) :: (32, .v (.bool (m.kind == 2))) :: (31, .v (.bool (m.kind == 2))) :: (adq59 m a), (adq50 v a m)⟩) (by kernel_rfl) ?_
  rcases Bool.eq_false_or_eq_true ((m.kind == 2)) with h4 | h4
  rw [h4]
  have g4 : (m.kind = 2) := by simpa using h4
  refine OW.last 10 [3, 4, 5, 6, 10] (x' := ⟨(10, .v (.bool true)) :: adq51, (adq50 v a m)⟩) (by kernel_rfl) (by kernel_rfl) ?_
  refine EL.seq ?_
  refine EL.sreg ?_
  refine OW.run 10 (x' := ⟨(52, .v (.bool (m.op != a.op))) :: (51, .v (.bool (m.op != a.op))) :: (50, .v (.bool (m.op != a.op))) :: (adq60 a m), (adq50 v a m)⟩) (by kernel_rfl) ?_
  rcases Bool.eq_false_or_eq_true ((m.op != a.op)) with h5 | h5
  rw [h5]
  have g5 : ¬ (m.op = a.op) := by simpa using h5
  refine OW.last 14 [3, 4, 5, 6, 66] (x' := ⟨(66, .v (.bool true)) :: adq51, (adq50 v a m)⟩) (by kernel_rfl) (by kernel_rfl) ?_
  refine EL.condT (by kernel_rfl) ?_
  refine EL.sreg ?_
  refine OW.last 4 [6, 7, 8] (x' := ⟨[(8, VI 0), (7, .emp), (6, .ref 3 8 0 0)], (adq61 v a m)⟩) (by kernel_rfl) (by kernel_rfl) ?_
  refine EL.ret ?_
  refine thenL_ret ?_
  refine ⟨.inr rfl, .tup [.agg [VI a.op, VI a.kind, VI a.phase, .v (.string a.data), VI a.best.at_.time, VI a.best.at_.who, .v (.string a.best.data), .v (.int .u64 (a.heard.n : Int))], .emp, VI 0], by kernel_rfl, Ale.trans (b := .tup [.agg [VI a.op, VI a.kind, VI a.phase, .v (.string a.data), VI a.best.at_.time, VI a.best.at_.who, .v (.string a.best.data), .v (.int .u64 (a.heard.n : Int))], .lst 6 [], VI 0]) (Ale.tup (.cons (Ale.refl) (.cons (Ale.emp) (.cons (Ale.refl) (.nil))))) (Ale.of_eq ?_)⟩
  focus (first | (exfalso; omega) | ((try have hmt := merged_two (ask_ok (a := a) (ws := v.weights) (need := v.need) (by assumption)).2.2.2.2.2.2.1 (msg_node (m := m) (by assumption)).2); (try simp only [hmt] at *); rw [hearA_eq (by assumption) (by assumption), hearT_few (by assumption) (by assumption) (by omega) (by first | (simp [wantsA, *]; done) | (simp_all [wantsA]; done)) (by omega) (by assumption)]; first | (have hk9 : a.kind = 1 := (by have := (ask_ok (a := a) (ws := v.weights) (need := v.need) (by assumption)).2.2.1; omega); simp [heardA, *]; done) | (simp [heardA, *]; done) | (simp_all [heardA]; done)) | (rw [hearA_eq (by assumption) (by assumption), hearT_no (by first | (left; omega) | (right; left; unfold wantsA; rw [if_neg (by omega), if_neg (by omega)]; have := msg_kind (m := m) (by assumption); omega) | (simp [wantsA, *]; done) | (simp_all [wantsA]; done) | omega)]; rfl) | (simp only [hearA]; (repeat' split) <;> first | rfl | (exfalso; omega) | contradiction | (simp_all [Ask.zero]; done)))
  rw [h5]
  have g5 : (m.op = a.op) := by simpa using h5
  refine OW.run 4 (x' := ⟨(adq62 v m a), (adq50 v a m)⟩) (by kernel_rfl) ?_
  refine OW.ope (v := VI (List.length v.weights : Int)) (u := []) (acc := []) (x' := ⟨(57, VI (List.length v.weights : Int)) :: (adq62 v m a), (adq50 v a m)⟩) (by kernel_rfl) (opE_len cI v.weights (.s 56) 1 (by kernel_rfl) (by kernel_rfl) (.inl rfl)) (by kernel_rfl) ?_
  refine OW.run 3 (x' := ⟨(60, .v (.bool (decide (m.node ≥ (List.length v.weights : Int))))) :: (59, .v (.bool (decide (m.node ≥ (List.length v.weights : Int))))) :: (58, .v (.bool (decide (m.node ≥ (List.length v.weights : Int))))) :: (57, VI (List.length v.weights : Int)) :: (adq62 v m a), (adq50 v a m)⟩) (by kernel_rfl) ?_
  rcases Bool.eq_false_or_eq_true (decide (m.node ≥ (List.length v.weights : Int))) with h6 | h6
  rw [h6]
  have g6 : (m.node ≥ (List.length v.weights : Int)) := of_decide_eq_true h6
  refine OW.last 6 [3, 4, 5, 6, 66] (x' := ⟨(66, .v (.bool true)) :: adq51, (adq50 v a m)⟩) (by kernel_rfl) (by kernel_rfl) ?_
  refine EL.condT (by kernel_rfl) ?_
  refine EL.sreg ?_
  refine OW.last 4 [6, 7, 8] (x' := ⟨[(8, VI 0), (7, .emp), (6, .ref 3 8 0 0)], (adq61 v a m)⟩) (by kernel_rfl) (by kernel_rfl) ?_
  refine EL.ret ?_
  refine thenL_ret ?_
  refine ⟨.inr rfl, .tup [.agg [VI a.op, VI a.kind, VI a.phase, .v (.string a.data), VI a.best.at_.time, VI a.best.at_.who, .v (.string a.best.data), .v (.int .u64 (a.heard.n : Int))], .emp, VI 0], by kernel_rfl, Ale.trans (b := .tup [.agg [VI a.op, VI a.kind, VI a.phase, .v (.string a.data), VI a.best.at_.time, VI a.best.at_.who, .v (.string a.best.data), .v (.int .u64 (a.heard.n : Int))], .lst 6 [], VI 0]) (Ale.tup (.cons (Ale.refl) (.cons (Ale.emp) (.cons (Ale.refl) (.nil))))) (Ale.of_eq ?_)⟩
  focus (first | (exfalso; omega) | ((try have hmt := merged_two (ask_ok (a := a) (ws := v.weights) (need := v.need) (by assumption)).2.2.2.2.2.2.1 (msg_node (m := m) (by assumption)).2); (try simp only [hmt] at *); rw [hearA_eq (by assumption) (by assumption), hearT_few (by assumption) (by assumption) (by omega) (by first | (simp [wantsA, *]; done) | (simp_all [wantsA]; done)) (by omega) (by assumption)]; first | (have hk9 : a.kind = 1 := (by have := (ask_ok (a := a) (ws := v.weights) (need := v.need) (by assumption)).2.2.1; omega); simp [heardA, *]; done) | (simp [heardA, *]; done) | (simp_all [heardA]; done)) | (rw [hearA_eq (by assumption) (by assumption), hearT_no (by first | (left; omega) | (right; left; unfold wantsA; rw [if_neg (by omega), if_neg (by omega)]; have := msg_kind (m := m) (by assumption); omega) | (simp [wantsA, *]; done) | (simp_all [wantsA]; done) | omega)]; rfl) | (simp only [hearA]; (repeat' split) <;> first | rfl | (exfalso; omega) | contradiction | (simp_all [Ask.zero]; done)))
  rw [h6]
  have g6 : ¬ (m.node ≥ (List.length v.weights : Int)) := of_decide_eq_false h6
  refine OW.run 4 (x' := ⟨(adq63 m a v), (adq50 v a m)⟩) (by kernel_rfl) ?_
  refine OW.fn (ar := [.v (.int .u64 (a.heard.n : Int)), VI m.node]) (x' := ⟨(65, .v (.bool (inS a.heard.n (Int.toNat m.node)))) :: (adq63 m a v), (adq50 v a m)⟩) (by kernel_rfl) (by kernel_rfl) F24_call (inset_fn a.heard m.node (msg_node (m := m) (by assumption)).1.1) (by kernel_rfl) (by kernel_rfl) ?_
  refine OW.last 1 [3, 4, 5, 6, 66] (x' := ⟨(66, .v (.bool (inS a.heard.n (Int.toNat m.node)))) :: adq51, (adq50 v a m)⟩) (by kernel_rfl) (by kernel_rfl) ?_
  rcases Bool.eq_false_or_eq_true (inS a.heard.n (Int.toNat m.node)) with h7 | h7
  rw [h7]
  refine EL.condT (by kernel_rfl) ?_
  refine EL.sreg ?_
  refine OW.last 4 [6, 7, 8] (x' := ⟨[(8, VI 0), (7, .emp), (6, .ref 3 8 0 0)], (adq61 v a m)⟩) (by kernel_rfl) (by kernel_rfl) ?_
  refine EL.ret ?_
  refine thenL_ret ?_
  refine ⟨.inr rfl, .tup [.agg [VI a.op, VI a.kind, VI a.phase, .v (.string a.data), VI a.best.at_.time, VI a.best.at_.who, .v (.string a.best.data), .v (.int .u64 (a.heard.n : Int))], .emp, VI 0], by kernel_rfl, Ale.trans (b := .tup [.agg [VI a.op, VI a.kind, VI a.phase, .v (.string a.data), VI a.best.at_.time, VI a.best.at_.who, .v (.string a.best.data), .v (.int .u64 (a.heard.n : Int))], .lst 6 [], VI 0]) (Ale.tup (.cons (Ale.refl) (.cons (Ale.emp) (.cons (Ale.refl) (.nil))))) (Ale.of_eq ?_)⟩
  focus (first | (exfalso; omega) | ((try have hmt := merged_two (ask_ok (a := a) (ws := v.weights) (need := v.need) (by assumption)).2.2.2.2.2.2.1 (msg_node (m := m) (by assumption)).2); (try simp only [hmt] at *); rw [hearA_eq (by assumption) (by assumption), hearT_few (by assumption) (by assumption) (by omega) (by first | (simp [wantsA, *]; done) | (simp_all [wantsA]; done)) (by omega) (by assumption)]; first | (have hk9 : a.kind = 1 := (by have := (ask_ok (a := a) (ws := v.weights) (need := v.need) (by assumption)).2.2.1; omega); simp [heardA, *]; done) | (simp [heardA, *]; done) | (simp_all [heardA]; done)) | (rw [hearA_eq (by assumption) (by assumption), hearT_no (by first | (left; omega) | (right; left; unfold wantsA; rw [if_neg (by omega), if_neg (by omega)]; have := msg_kind (m := m) (by assumption); omega) | (simp [wantsA, *]; done) | (simp_all [wantsA]; done) | omega)]; rfl) | (simp only [hearA]; (repeat' split) <;> first | rfl | (exfalso; omega) | contradiction | (simp_all [Ask.zero]; done)))
  rw [h7]
  refine EL.condF (by kernel_rfl) ?_
  refine EL.skip ?_
  refine thenL_norm ?_
  refine EL.sreg ?_
  refine OW.last 3 [3, 4, 5, 6, 11] (x' := ⟨(11, .ref 4 8 0 0) :: adq51, (adq64 v a m)⟩) (by kernel_rfl) (by kernel_rfl) ?_
  refine EL.sdraw ?_
  refine DW.run 4 (x' := ⟨(adq65 m a), (adq64 v a m)⟩) (by kernel_rfl) ?_
  refine DW.ope (v := .v (.int .u64 (IntKind.u64.wrap (1 * 2 ^ (min (Int.toNat m.node) IntKind.u64.bits))))) (u := []) (acc := []) (x' := ⟨(73, .v (.int .u64 (IntKind.u64.wrap (1 * 2 ^ (min (Int.toNat m.node) IntKind.u64.bits))))) :: (adq65 m a), (adq64 v a m)⟩) (by kernel_rfl) (opE_shl (.c (.v (.int .u64 1))) (.s 72) .u64 .i64 1 m.node (by kernel_rfl) (by kernel_rfl) (by kernel_rfl) (by kernel_rfl) (by have hvn := (msg_node (m := m) (by assumption)).1; have hq9 := ask_ok (a := a) (ws := v.weights) (need := v.need) (by assumption); have := qc_len hq9.1; first | omega | exact ⟨by omega, by assumption⟩)) (by kernel_rfl) ?_
  have e8 : IntKind.u64.wrap (1 * 2 ^ (min (Int.toNat m.node) IntKind.u64.bits)) = ((2 ^ (Int.toNat m.node) : Nat) : Int) := shl1 (by have hvn := (msg_node (m := m) (by assumption)).1; have hq9 := ask_ok (a := a) (ws := v.weights) (need := v.need) (by assumption); have := qc_len hq9.1; first | omega | exact ⟨by omega, by assumption⟩)
  rw [e8]
  refine DW.run 3 (x' := ⟨(75, .ref 4 8 0 7) :: (74, .v (.int .u64 (IntKind.u64.wrap ((a.heard.n : Int) + ((2 ^ (Int.toNat m.node) : Nat) : Int))))) :: (adq66 m a), [some ⟨2, [[.lst 1 (v.weights.map cI), VI v.need]]⟩, (adq47 a), (adq48 m), adq49, some ⟨8, [[VI a.op, VI a.kind, VI a.phase, .v (.string a.data), VI a.best.at_.time, VI a.best.at_.who, .v (.string a.best.data), .v (.int .u64 (IntKind.u64.wrap ((a.heard.n : Int) + ((2 ^ (Int.toNat m.node) : Nat) : Int))))]]⟩]⟩) (by kernel_rfl) ?_
  have e9 : IntKind.u64.wrap ((a.heard.n : Int) + ((2 ^ (Int.toNat m.node) : Nat) : Int)) = ((orU a.heard (Int.toNat m.node)).n : Int) := addU (by have hvn := (msg_node (m := m) (by assumption)).1; have hq9 := ask_ok (a := a) (ws := v.weights) (need := v.need) (by assumption); have := qc_len hq9.1; first | omega | exact ⟨by omega, by assumption⟩)
  rw [e9]
  refine DW.last 0 [3, 4, 5, 6, 11] (x' := ⟨(11, .ref 4 8 0 0) :: adq51, (adq68 v a m)⟩) (by kernel_rfl) (by kernel_rfl) ?_
  refine EL.seq ?_
  refine EL.sreg ?_
  refine OW.last 3 [3, 4, 5, 6, 11, 78] (x' := ⟨(78, .v (.bool (a.phase == 1))) :: (11, .ref 4 8 0 0) :: adq51, (adq68 v a m)⟩) (by kernel_rfl) (by kernel_rfl) ?_
  rw [h3]
  refine EL.condT (by kernel_rfl) ?_
  refine EL.reg0 ?_
  refine OW.run 5 (x' := ⟨(adq73 m a), (adq72 v a m)⟩) (by kernel_rfl) ?_
  refine OW.fn (ar := [.own 5 3 0 2]) (x' := ⟨(adq75 a m), (adq72 v a m)⟩) (by kernel_rfl) (by kernel_rfl) F25_call (merged_fn ([a.best, m.copy]) (by first | omega | (simp; done))) (by kernel_rfl) (by kernel_rfl) ?_
  refine OW.end 5 (x' := ⟨(adq78 a m), (adq77 v a m)⟩) (by kernel_rfl) (by kernel_rfl) ?_
  refine thenL_norm ?_
  refine EL.seq ?_
  refine EL.sdraw ?_
  refine DW.run 4 (x' := ⟨(adq79 a m v), (adq77 v a m)⟩) (by kernel_rfl) ?_
  refine DW.fn (ar := [.lst 1 (v.weights.map cI), .v (.int .u64 ((orU a.heard (Int.toNat m.node)).n : Int))]) (x' := ⟨(adq80 v a m), (adq77 v a m)⟩) (by kernel_rfl) (by kernel_rfl) F26_call (sumof_fn v.weights (orU a.heard (Int.toNat m.node)) (qc_nodes (ask_ok (a := a) (ws := v.weights) (need := v.need) (by assumption)).1)) (by kernel_rfl) (by kernel_rfl) ?_
  refine DW.last 3 [3, 4, 6, 11, 96] (x' := ⟨(96, .v (.bool (decide ((bsum v.weights (orU a.heard (Int.toNat m.node)).n) < v.need)))) :: adq81, (adq77 v a m)⟩) (by kernel_rfl) (by kernel_rfl) ?_
  rcases Bool.eq_false_or_eq_true (decide ((bsum v.weights (orU a.heard (Int.toNat m.node)).n) < v.need)) with h10 | h10
  rw [h10]
  have g10 : ((bsum v.weights (orU a.heard (Int.toNat m.node)).n) < v.need) := of_decide_eq_true h10
  refine EL.condT (by kernel_rfl) ?_
  refine EL.sreg ?_
  refine OW.last 4 [6, 7, 8] (x' := ⟨[(8, VI 0), (7, .emp), (6, .ref 3 8 0 0)], (adq82 v a m)⟩) (by kernel_rfl) (by kernel_rfl) ?_
  refine EL.ret ?_
  refine thenL_ret ?_
  refine ⟨.inr rfl, .tup [.agg [VI a.op, VI a.kind, VI a.phase, .v (.string a.data), VI ((((mergedP ([a.best, m.copy])).1).at_).time), VI ((((mergedP ([a.best, m.copy])).1).at_).who), .v (.string (((mergedP ([a.best, m.copy])).1).data)), .v (.int .u64 ((orU a.heard (Int.toNat m.node)).n : Int))], .emp, VI 0], by kernel_rfl, Ale.trans (b := .tup [.agg [VI a.op, VI a.kind, VI a.phase, .v (.string a.data), VI ((((mergedP ([a.best, m.copy])).1).at_).time), VI ((((mergedP ([a.best, m.copy])).1).at_).who), .v (.string (((mergedP ([a.best, m.copy])).1).data)), .v (.int .u64 ((orU a.heard (Int.toNat m.node)).n : Int))], .lst 6 [], VI 0]) (Ale.tup (.cons (Ale.refl) (.cons (Ale.emp) (.cons (Ale.refl) (.nil))))) (Ale.of_eq ?_)⟩
  focus (first | (exfalso; omega) | ((try have hmt := merged_two (ask_ok (a := a) (ws := v.weights) (need := v.need) (by assumption)).2.2.2.2.2.2.1 (msg_node (m := m) (by assumption)).2); (try simp only [hmt] at *); rw [hearA_eq (by assumption) (by assumption), hearT_few (by assumption) (by assumption) (by omega) (by first | (simp [wantsA, *]; done) | (simp_all [wantsA]; done)) (by omega) (by assumption)]; first | (have hk9 : a.kind = 1 := (by have := (ask_ok (a := a) (ws := v.weights) (need := v.need) (by assumption)).2.2.1; omega); simp [heardA, *]; done) | (simp [heardA, *]; done) | (simp_all [heardA]; done)) | (rw [hearA_eq (by assumption) (by assumption), hearT_no (by first | (left; omega) | (right; left; unfold wantsA; rw [if_neg (by omega), if_neg (by omega)]; have := msg_kind (m := m) (by assumption); omega) | (simp [wantsA, *]; done) | (simp_all [wantsA]; done) | omega)]; rfl) | (simp only [hearA]; (repeat' split) <;> first | rfl | (exfalso; omega) | contradiction | (simp_all [Ask.zero]; done)))
  rw [h10]
  have g10 : ¬ ((bsum v.weights (orU a.heard (Int.toNat m.node)).n) < v.need) := of_decide_eq_false h10
  refine EL.condF (by kernel_rfl) ?_
  refine EL.skip ?_
  refine thenL_norm ?_
  refine EL.seq ?_
  refine EL.sreg ?_
  refine OW.last 3 [3, 4, 6, 11, 100] (x' := ⟨(100, .v (.bool (a.phase == 2))) :: adq81, (adq77 v a m)⟩) (by kernel_rfl) (by kernel_rfl) ?_
  rcases Bool.eq_false_or_eq_true ((a.phase == 2)) with h11 | h11
  rw [h11]
  have g11 : (a.phase = 2) := by simpa using h11
  refine EL.condT (by kernel_rfl) ?_
  refine EL.sreg ?_
  refine OW.last 2 [6, 11] (x' := ⟨[(11, .ref 4 8 0 0), (6, .ref 3 8 0 0)], (adq84 v a m)⟩) (by kernel_rfl) (by kernel_rfl) ?_
  refine EL.sreg ?_
  refine OW.last 4 [6, 7, 8] (x' := ⟨[(8, VI 0), (7, .emp), (6, .ref 3 8 0 0)], (adq85 v a m)⟩) (by kernel_rfl) (by kernel_rfl) ?_
  refine EL.ret ?_
  refine thenL_ret ?_
  refine ⟨.inr rfl, .tup [.agg [VI a.op, VI a.kind, VI 3, .v (.string a.data), VI ((((mergedP ([a.best, m.copy])).1).at_).time), VI ((((mergedP ([a.best, m.copy])).1).at_).who), .v (.string (((mergedP ([a.best, m.copy])).1).data)), .v (.int .u64 ((orU a.heard (Int.toNat m.node)).n : Int))], .emp, VI 0], by kernel_rfl, Ale.trans (b := .tup [.agg [VI a.op, VI a.kind, VI 3, .v (.string a.data), VI ((((mergedP ([a.best, m.copy])).1).at_).time), VI ((((mergedP ([a.best, m.copy])).1).at_).who), .v (.string (((mergedP ([a.best, m.copy])).1).data)), .v (.int .u64 ((orU a.heard (Int.toNat m.node)).n : Int))], .lst 6 [], VI 0]) (Ale.tup (.cons (Ale.refl) (.cons (Ale.emp) (.cons (Ale.refl) (.nil))))) (Ale.of_eq ?_)⟩
  focus (first | (exfalso; omega) | ((try have hmt := merged_two (ask_ok (a := a) (ws := v.weights) (need := v.need) (by assumption)).2.2.2.2.2.2.1 (msg_node (m := m) (by assumption)).2); (try simp only [hmt] at *); rw [hearA_eq (by assumption) (by assumption), hearT_few (by assumption) (by assumption) (by omega) (by first | (simp [wantsA, *]; done) | (simp_all [wantsA]; done)) (by omega) (by assumption)]; first | (have hk9 : a.kind = 1 := (by have := (ask_ok (a := a) (ws := v.weights) (need := v.need) (by assumption)).2.2.1; omega); simp [heardA, *]; done) | (simp [heardA, *]; done) | (simp_all [heardA]; done)) | (rw [hearA_eq (by assumption) (by assumption), hearT_no (by first | (left; omega) | (right; left; unfold wantsA; rw [if_neg (by omega), if_neg (by omega)]; have := msg_kind (m := m) (by assumption); omega) | (simp [wantsA, *]; done) | (simp_all [wantsA]; done) | omega)]; rfl) | (simp only [hearA]; (repeat' split) <;> first | rfl | (exfalso; omega) | contradiction | (simp_all [Ask.zero]; done)))
  rw [h11]
  have g11 : ¬ (a.phase = 2) := by simpa using h11
  refine EL.condF (by kernel_rfl) ?_
  refine EL.skip ?_
  refine thenL_norm ?_
  refine EL.seq ?_
  refine EL.sreg ?_
  refine OW.last 3 [3, 4, 6, 11, 105] (x' := ⟨(105, .v (.bool (a.kind == 2))) :: adq81, (adq77 v a m)⟩) (by kernel_rfl) (by kernel_rfl) ?_
  rcases Bool.eq_false_or_eq_true ((a.kind == 2)) with h12 | h12
  rw [h12]
  have g12 : (a.kind = 2) := by simpa using h12
  refine EL.condT (by kernel_rfl) ?_
  refine EL.sreg ?_
  refine OW.run 6 (x' := ⟨(adq89 a m), (adq88 v a m)⟩) (by kernel_rfl) ?_
  refine OW.fn (ar := [.own 6 2 0 1, VI a.op]) (x' := ⟨(adq91 a m), (adq88 v a m)⟩) (by kernel_rfl) (by kernel_rfl) F27_call (rnext_fn (((mergedP ([a.best, m.copy])).1).at_) a.op) (by kernel_rfl) (by kernel_rfl) ?_
  refine OW.last 6 [3, 4, 6, 11, 12, 13] (x' := ⟨(adq94 a m), (adq93 v a m)⟩) (by kernel_rfl) (by kernel_rfl) ?_
  refine EL.seq ?_
  refine EL.sreg ?_
  refine OW.last 2 [3, 4, 6, 11, 12, 117] (x' := ⟨(117, .v (.bool (((nextP (((mergedP ([a.best, m.copy])).1).at_) a.op).2) != 0))) :: (12, .ref 7 2 0 0) :: adq81, (adq93 v a m)⟩) (by kernel_rfl) (by kernel_rfl) ?_
  rcases Bool.eq_false_or_eq_true ((((nextP (((mergedP ([a.best, m.copy])).1).at_) a.op).2) != 0)) with h13 | h13
  rw [h13]
  have g13 : ¬ (((nextP (((mergedP ([a.best, m.copy])).1).at_) a.op).2) = 0) := by simpa using h13
  refine EL.condT (by kernel_rfl) ?_
  refine EL.sreg ?_
  refine OW.last 4 [6, 7, 8] (x' := ⟨[(8, VI 0), (7, .emp), (6, .ref 3 8 0 0)], (adq95 v a m)⟩) (by kernel_rfl) (by kernel_rfl) ?_
  refine EL.ret ?_
  refine thenL_ret ?_
  refine thenL_ret ?_
  refine ⟨.inr rfl, .tup [.agg [VI a.op, VI a.kind, VI a.phase, .v (.string a.data), VI a.best.at_.time, VI a.best.at_.who, .v (.string a.best.data), .v (.int .u64 (a.heard.n : Int))], .emp, VI 0], by kernel_rfl, Ale.trans (b := .tup [.agg [VI a.op, VI a.kind, VI a.phase, .v (.string a.data), VI a.best.at_.time, VI a.best.at_.who, .v (.string a.best.data), .v (.int .u64 (a.heard.n : Int))], .lst 6 [], VI 0]) (Ale.tup (.cons (Ale.refl) (.cons (Ale.emp) (.cons (Ale.refl) (.nil))))) (Ale.of_eq ?_)⟩
  focus (first | (exfalso; omega) | ((try have hmt := merged_two (ask_ok (a := a) (ws := v.weights) (need := v.need) (by assumption)).2.2.2.2.2.2.1 (msg_node (m := m) (by assumption)).2); (try simp only [hmt] at *); rw [hearA_eq (by assumption) (by assumption), hearT_few (by assumption) (by assumption) (by omega) (by first | (simp [wantsA, *]; done) | (simp_all [wantsA]; done)) (by omega) (by assumption)]; first | (have hk9 : a.kind = 1 := (by have := (ask_ok (a := a) (ws := v.weights) (need := v.need) (by assumption)).2.2.1; omega); simp [heardA, *]; done) | (simp [heardA, *]; done) | (simp_all [heardA]; done)) | (rw [hearA_eq (by assumption) (by assumption), hearT_no (by first | (left; omega) | (right; left; unfold wantsA; rw [if_neg (by omega), if_neg (by omega)]; have := msg_kind (m := m) (by assumption); omega) | (simp [wantsA, *]; done) | (simp_all [wantsA]; done) | omega)]; rfl) | (simp only [hearA]; (repeat' split) <;> first | rfl | (exfalso; omega) | contradiction | (simp_all [Ask.zero]; done)))
  rw [h13]
  have g13 : (((nextP (((mergedP ([a.best, m.copy])).1).at_) a.op).2) = 0) := by simpa using h13
  refine EL.condF (by kernel_rfl) ?_
  refine EL.skip ?_
  refine thenL_norm ?_
  refine EL.reg0 ?_
  refine OW.end 6 (x' := ⟨(adq99 a m), (adq98 v a m)⟩) (by kernel_rfl) (by kernel_rfl) ?_
  refine thenL_norm ?_
  refine EL.sreg ?_
  refine OW.last 2 [3, 4, 6, 11] (x' := ⟨adq81, (adq101 v a m)⟩) (by kernel_rfl) (by kernel_rfl) ?_
  refine EL.sreg ?_
  refine OW.last 2 [3, 4, 6, 11] (x' := ⟨adq81, (adq103 v a m)⟩) (by kernel_rfl) (by kernel_rfl) ?_
  refine EL.sdraw ?_
  refine DW.run 3 (x' := ⟨(adq105 v a m), (adq103 v a m)⟩) (by kernel_rfl) ?_
  refine DW.ope (v := VI (List.length v.weights : Int)) (u := []) (acc := []) (x' := ⟨(129, VI (List.length v.weights : Int)) :: (adq105 v a m), (adq103 v a m)⟩) (by kernel_rfl) (opE_len cI v.weights (.s 128) 1 (by kernel_rfl) (by kernel_rfl) (.inl rfl)) (by kernel_rfl) ?_
  refine DW.run 5 (x' := ⟨(adq107 a m v), (adq103 v a m)⟩) (by kernel_rfl) ?_
  refine DW.fn (ar := [VI (List.length v.weights : Int), (adq106 a m)]) (x' := ⟨(adq108 v a m), (adq103 v a m)⟩) (by kernel_rfl) (by kernel_rfl) F28_call (every_fn (List.length v.weights : Int) (⟨3, a.op, 0, (⟨((nextP (((mergedP ([a.best, m.copy])).1).at_) a.op).1), a.data⟩ : Copy)⟩ : Msg) (by have := qc_len (ask_ok (a := a) (ws := v.weights) (need := v.need) (by assumption)).1; omega)) (by kernel_rfl) (by kernel_rfl) ?_
  refine DW.last 3 [6, 7, 8] (x' := ⟨(adq110 v a m), (adq109 v a m)⟩) (by kernel_rfl) (by kernel_rfl) ?_
  refine EL.ret ?_
  refine ⟨.inr rfl, .tup [.agg [VI a.op, VI a.kind, VI 2, .v (.string a.data), VI (((nextP (((mergedP ([a.best, m.copy])).1).at_) a.op).1).time), VI (((nextP (((mergedP ([a.best, m.copy])).1).at_) a.op).1).who), .v (.string a.data), .v (.int .u64 0)], .lst 6 ((toAllM (List.length v.weights : Int).toNat (⟨3, a.op, 0, (⟨((nextP (((mergedP ([a.best, m.copy])).1).at_) a.op).1), a.data⟩ : Copy)⟩ : Msg)).map Msg.cs), VI 0], by kernel_rfl, Ale.of_eq ?_⟩
  focus (first | (exfalso; omega) | ((try have hmt := merged_two (ask_ok (a := a) (ws := v.weights) (need := v.need) (by assumption)).2.2.2.2.2.2.1 (msg_node (m := m) (by assumption)).2); (try simp only [hmt] at *); rw [hearA_eq (by assumption) (by assumption), hearT_few (by assumption) (by assumption) (by omega) (by first | (simp [wantsA, *]; done) | (simp_all [wantsA]; done)) (by omega) (by assumption)]; first | (have hk9 : a.kind = 1 := (by have := (ask_ok (a := a) (ws := v.weights) (need := v.need) (by assumption)).2.2.1; omega); simp [heardA, *]; done) | (simp [heardA, *]; done) | (simp_all [heardA]; done)) | (rw [hearA_eq (by assumption) (by assumption), hearT_no (by first | (left; omega) | (right; left; unfold wantsA; rw [if_neg (by omega), if_neg (by omega)]; have := msg_kind (m := m) (by assumption); omega) | (simp [wantsA, *]; done) | (simp_all [wantsA]; done) | omega)]; rfl) | (simp only [hearA]; (repeat' split) <;> first | rfl | (exfalso; omega) | contradiction | (simp_all [Ask.zero]; done)))
  rw [h12]
  have g12 : ¬ (a.kind = 2) := by simpa using h12
  refine EL.condF (by kernel_rfl) ?_
  refine EL.skip ?_
  refine thenL_norm ?_
  refine EL.sreg ?_
  refine OW.last 2 [3, 4, 6, 11] (x' := ⟨adq81, (adq112 v a m)⟩) (by kernel_rfl) (by kernel_rfl) ?_
  refine EL.sreg ?_
  refine OW.last 2 [3, 4, 6, 11] (x' := ⟨adq81, (adq114 v a m)⟩) (by kernel_rfl) (by kernel_rfl) ?_
  refine EL.sdraw ?_
  refine DW.run 3 (x' := ⟨(adq116 v a m), (adq114 v a m)⟩) (by kernel_rfl) ?_
  refine DW.ope (v := VI (List.length v.weights : Int)) (u := []) (acc := []) (x' := ⟨(129, VI (List.length v.weights : Int)) :: (adq116 v a m), (adq114 v a m)⟩) (by kernel_rfl) (opE_len cI v.weights (.s 128) 1 (by kernel_rfl) (by kernel_rfl) (.inl rfl)) (by kernel_rfl) ?_
  refine DW.run 5 (x' := ⟨(adq118 a m v), (adq114 v a m)⟩) (by kernel_rfl) ?_
  refine DW.fn (ar := [VI (List.length v.weights : Int), (adq117 a m)]) (x' := ⟨(adq119 v a m), (adq114 v a m)⟩) (by kernel_rfl) (by kernel_rfl) F28_call (every_fn (List.length v.weights : Int) (⟨3, a.op, 0, (⟨(((mergedP ([a.best, m.copy])).1).at_), ((mergedP ([a.best, m.copy])).1).data⟩ : Copy)⟩ : Msg) (by have := qc_len (ask_ok (a := a) (ws := v.weights) (need := v.need) (by assumption)).1; omega)) (by kernel_rfl) (by kernel_rfl) ?_
  refine DW.last 3 [6, 7, 8] (x' := ⟨(adq121 v a m), (adq120 v a m)⟩) (by kernel_rfl) (by kernel_rfl) ?_
  refine EL.ret ?_
  refine ⟨.inr rfl, .tup [.agg [VI a.op, VI a.kind, VI 2, .v (.string a.data), VI ((((mergedP ([a.best, m.copy])).1).at_).time), VI ((((mergedP ([a.best, m.copy])).1).at_).who), .v (.string (((mergedP ([a.best, m.copy])).1).data)), .v (.int .u64 0)], .lst 6 ((toAllM (List.length v.weights : Int).toNat (⟨3, a.op, 0, (⟨(((mergedP ([a.best, m.copy])).1).at_), ((mergedP ([a.best, m.copy])).1).data⟩ : Copy)⟩ : Msg)).map Msg.cs), VI 0], by kernel_rfl, Ale.of_eq ?_⟩
  focus (first | (exfalso; omega) | ((try have hmt := merged_two (ask_ok (a := a) (ws := v.weights) (need := v.need) (by assumption)).2.2.2.2.2.2.1 (msg_node (m := m) (by assumption)).2); (try simp only [hmt] at *); rw [hearA_eq (by assumption) (by assumption), hearT_few (by assumption) (by assumption) (by omega) (by first | (simp [wantsA, *]; done) | (simp_all [wantsA]; done)) (by omega) (by assumption)]; first | (have hk9 : a.kind = 1 := (by have := (ask_ok (a := a) (ws := v.weights) (need := v.need) (by assumption)).2.2.1; omega); simp [heardA, *]; done) | (simp [heardA, *]; done) | (simp_all [heardA]; done)) | (rw [hearA_eq (by assumption) (by assumption), hearT_no (by first | (left; omega) | (right; left; unfold wantsA; rw [if_neg (by omega), if_neg (by omega)]; have := msg_kind (m := m) (by assumption); omega) | (simp [wantsA, *]; done) | (simp_all [wantsA]; done) | omega)]; rfl) | (simp only [hearA]; (repeat' split) <;> first | rfl | (exfalso; omega) | contradiction | (simp_all [Ask.zero]; done)))
  rw [h4]
  have g4 : ¬ (m.kind = 2) := by simpa using h4
  refine OW.run 4 (x' := ⟨(37, .v (.bool (a.phase == 2))) :: (36, .v (.bool (a.phase == 2))) :: (adq122 a m), (adq50 v a m)⟩) (by kernel_rfl) ?_
  rcases Bool.eq_false_or_eq_true ((a.phase == 2)) with h14 | h14
  rw [h14]
  have g14 : (a.phase = 2) := by simpa using h14
  refine OW.last 6 [3, 4, 5, 6, 10] (x' := ⟨(10, .v (.bool (m.kind == 4))) :: adq51, (adq50 v a m)⟩) (by kernel_rfl) (by kernel_rfl) ?_
  refine EL.seq ?_
  refine EL.sreg ?_
  refine OW.run 3 (x' := ⟨(45, .v (.bool (!(m.kind == 4)))) :: (44, .v (.bool (!(m.kind == 4)))) :: (43, .v (.bool (m.kind == 4))) :: (10, .v (.bool (m.kind == 4))) :: adq51, (adq50 v a m)⟩) (by kernel_rfl) ?_
  rcases Bool.eq_false_or_eq_true ((m.kind == 4)) with h15 | h15
  rw [h15]
  have g15 : (m.kind = 4) := by simpa using h15
  refine OW.run 7 (x' := ⟨(52, .v (.bool (m.op != a.op))) :: (51, .v (.bool (m.op != a.op))) :: (50, .v (.bool (m.op != a.op))) :: (adq60 a m), (adq50 v a m)⟩) (by kernel_rfl) ?_
  rcases Bool.eq_false_or_eq_true ((m.op != a.op)) with h16 | h16
  rw [h16]
  have g16 : ¬ (m.op = a.op) := by simpa using h16
  refine OW.last 14 [3, 4, 5, 6, 66] (x' := ⟨(66, .v (.bool true)) :: adq51, (adq50 v a m)⟩) (by kernel_rfl) (by kernel_rfl) ?_
  refine EL.condT (by kernel_rfl) ?_
  refine EL.sreg ?_
  refine OW.last 4 [6, 7, 8] (x' := ⟨[(8, VI 0), (7, .emp), (6, .ref 3 8 0 0)], (adq61 v a m)⟩) (by kernel_rfl) (by kernel_rfl) ?_
  refine EL.ret ?_
  refine thenL_ret ?_
  refine ⟨.inr rfl, .tup [.agg [VI a.op, VI a.kind, VI a.phase, .v (.string a.data), VI a.best.at_.time, VI a.best.at_.who, .v (.string a.best.data), .v (.int .u64 (a.heard.n : Int))], .emp, VI 0], by kernel_rfl, Ale.trans (b := .tup [.agg [VI a.op, VI a.kind, VI a.phase, .v (.string a.data), VI a.best.at_.time, VI a.best.at_.who, .v (.string a.best.data), .v (.int .u64 (a.heard.n : Int))], .lst 6 [], VI 0]) (Ale.tup (.cons (Ale.refl) (.cons (Ale.emp) (.cons (Ale.refl) (.nil))))) (Ale.of_eq ?_)⟩
  focus (first | (exfalso; omega) | ((try have hmt := merged_two (ask_ok (a := a) (ws := v.weights) (need := v.need) (by assumption)).2.2.2.2.2.2.1 (msg_node (m := m) (by assumption)).2); (try simp only [hmt] at *); rw [hearA_eq (by assumption) (by assumption), hearT_few (by assumption) (by assumption) (by omega) (by first | (simp [wantsA, *]; done) | (simp_all [wantsA]; done)) (by omega) (by assumption)]; first | (have hk9 : a.kind = 1 := (by have := (ask_ok (a := a) (ws := v.weights) (need := v.need) (by assumption)).2.2.1; omega); simp [heardA, *]; done) | (simp [heardA, *]; done) | (simp_all [heardA]; done)) | (rw [hearA_eq (by assumption) (by assumption), hearT_no (by first | (left; omega) | (right; left; unfold wantsA; rw [if_neg (by omega), if_neg (by omega)]; have := msg_kind (m := m) (by assumption); omega) | (simp [wantsA, *]; done) | (simp_all [wantsA]; done) | omega)]; rfl) | (simp only [hearA]; (repeat' split) <;> first | rfl | (exfalso; omega) | contradiction | (simp_all [Ask.zero]; done)))
  rw [h16]
  have g16 : (m.op = a.op) := by simpa using h16
  refine OW.run 4 (x' := ⟨(adq62 v m a), (adq50 v a m)⟩) (by kernel_rfl) ?_
  refine OW.ope (v := VI (List.length v.weights : Int)) (u := []) (acc := []) (x' := ⟨(57, VI (List.length v.weights : Int)) :: (adq62 v m a), (adq50 v a m)⟩) (by kernel_rfl) (opE_len cI v.weights (.s 56) 1 (by kernel_rfl) (by kernel_rfl) (.inl rfl)) (by kernel_rfl) ?_
  refine OW.run 3 (x' := ⟨(60, .v (.bool (decide (m.node ≥ (List.length v.weights : Int))))) :: (59, .v (.bool (decide (m.node ≥ (List.length v.weights : Int))))) :: (58, .v (.bool (decide (m.node ≥ (List.length v.weights : Int))))) :: (57, VI (List.length v.weights : Int)) :: (adq62 v m a), (adq50 v a m)⟩) (by kernel_rfl) ?_
  rcases Bool.eq_false_or_eq_true (decide (m.node ≥ (List.length v.weights : Int))) with h17 | h17
  rw [h17]
  have g17 : (m.node ≥ (List.length v.weights : Int)) := of_decide_eq_true h17
  refine OW.last 6 [3, 4, 5, 6, 66] (x' := ⟨(66, .v (.bool true)) :: adq51, (adq50 v a m)⟩) (by kernel_rfl) (by kernel_rfl) ?_
  refine EL.condT (by kernel_rfl) ?_
  refine EL.sreg ?_
  refine OW.last 4 [6, 7, 8] (x' := ⟨[(8, VI 0), (7, .emp), (6, .ref 3 8 0 0)], (adq61 v a m)⟩) (by kernel_rfl) (by kernel_rfl) ?_
  refine EL.ret ?_
  refine thenL_ret ?_
  refine ⟨.inr rfl, .tup [.agg [VI a.op, VI a.kind, VI a.phase, .v (.string a.data), VI a.best.at_.time, VI a.best.at_.who, .v (.string a.best.data), .v (.int .u64 (a.heard.n : Int))], .emp, VI 0], by kernel_rfl, Ale.trans (b := .tup [.agg [VI a.op, VI a.kind, VI a.phase, .v (.string a.data), VI a.best.at_.time, VI a.best.at_.who, .v (.string a.best.data), .v (.int .u64 (a.heard.n : Int))], .lst 6 [], VI 0]) (Ale.tup (.cons (Ale.refl) (.cons (Ale.emp) (.cons (Ale.refl) (.nil))))) (Ale.of_eq ?_)⟩
  focus (first | (exfalso; omega) | ((try have hmt := merged_two (ask_ok (a := a) (ws := v.weights) (need := v.need) (by assumption)).2.2.2.2.2.2.1 (msg_node (m := m) (by assumption)).2); (try simp only [hmt] at *); rw [hearA_eq (by assumption) (by assumption), hearT_few (by assumption) (by assumption) (by omega) (by first | (simp [wantsA, *]; done) | (simp_all [wantsA]; done)) (by omega) (by assumption)]; first | (have hk9 : a.kind = 1 := (by have := (ask_ok (a := a) (ws := v.weights) (need := v.need) (by assumption)).2.2.1; omega); simp [heardA, *]; done) | (simp [heardA, *]; done) | (simp_all [heardA]; done)) | (rw [hearA_eq (by assumption) (by assumption), hearT_no (by first | (left; omega) | (right; left; unfold wantsA; rw [if_neg (by omega), if_neg (by omega)]; have := msg_kind (m := m) (by assumption); omega) | (simp [wantsA, *]; done) | (simp_all [wantsA]; done) | omega)]; rfl) | (simp only [hearA]; (repeat' split) <;> first | rfl | (exfalso; omega) | contradiction | (simp_all [Ask.zero]; done)))
  rw [h17]
  have g17 : ¬ (m.node ≥ (List.length v.weights : Int)) := of_decide_eq_false h17
  refine OW.run 4 (x' := ⟨(adq63 m a v), (adq50 v a m)⟩) (by kernel_rfl) ?_
  refine OW.fn (ar := [.v (.int .u64 (a.heard.n : Int)), VI m.node]) (x' := ⟨(65, .v (.bool (inS a.heard.n (Int.toNat m.node)))) :: (adq63 m a v), (adq50 v a m)⟩) (by kernel_rfl) (by kernel_rfl) F24_call (inset_fn a.heard m.node (msg_node (m := m) (by assumption)).1.1) (by kernel_rfl) (by kernel_rfl) ?_
  refine OW.last 1 [3, 4, 5, 6, 66] (x' := ⟨(66, .v (.bool (inS a.heard.n (Int.toNat m.node)))) :: adq51, (adq50 v a m)⟩) (by kernel_rfl) (by kernel_rfl) ?_
  rcases Bool.eq_false_or_eq_true (inS a.heard.n (Int.toNat m.node)) with h18 | h18
  rw [h18]
  refine EL.condT (by kernel_rfl) ?_
  refine EL.sreg ?_
  refine OW.last 4 [6, 7, 8] (x' := ⟨[(8, VI 0), (7, .emp), (6, .ref 3 8 0 0)], (adq61 v a m)⟩) (by kernel_rfl) (by kernel_rfl) ?_
  refine EL.ret ?_
  refine thenL_ret ?_
  refine ⟨.inr rfl, .tup [.agg [VI a.op, VI a.kind, VI a.phase, .v (.string a.data), VI a.best.at_.time, VI a.best.at_.who, .v (.string a.best.data), .v (.int .u64 (a.heard.n : Int))], .emp, VI 0], by kernel_rfl, Ale.trans (b := .tup [.agg [VI a.op, VI a.kind, VI a.phase, .v (.string a.data), VI a.best.at_.time, VI a.best.at_.who, .v (.string a.best.data), .v (.int .u64 (a.heard.n : Int))], .lst 6 [], VI 0]) (Ale.tup (.cons (Ale.refl) (.cons (Ale.emp) (.cons (Ale.refl) (.nil))))) (Ale.of_eq ?_)⟩
  focus (first | (exfalso; omega) | ((try have hmt := merged_two (ask_ok (a := a) (ws := v.weights) (need := v.need) (by assumption)).2.2.2.2.2.2.1 (msg_node (m := m) (by assumption)).2); (try simp only [hmt] at *); rw [hearA_eq (by assumption) (by assumption), hearT_few (by assumption) (by assumption) (by omega) (by first | (simp [wantsA, *]; done) | (simp_all [wantsA]; done)) (by omega) (by assumption)]; first | (have hk9 : a.kind = 1 := (by have := (ask_ok (a := a) (ws := v.weights) (need := v.need) (by assumption)).2.2.1; omega); simp [heardA, *]; done) | (simp [heardA, *]; done) | (simp_all [heardA]; done)) | (rw [hearA_eq (by assumption) (by assumption), hearT_no (by first | (left; omega) | (right; left; unfold wantsA; rw [if_neg (by omega), if_neg (by omega)]; have := msg_kind (m := m) (by assumption); omega) | (simp [wantsA, *]; done) | (simp_all [wantsA]; done) | omega)]; rfl) | (simp only [hearA]; (repeat' split) <;> first | rfl | (exfalso; omega) | contradiction | (simp_all [Ask.zero]; done)))
  rw [h18]
  refine EL.condF (by kernel_rfl) ?_
  refine EL.skip ?_
  refine thenL_norm ?_
  refine EL.sreg ?_
  refine OW.last 3 [3, 4, 5, 6, 11] (x' := ⟨(11, .ref 4 8 0 0) :: adq51, (adq64 v a m)⟩) (by kernel_rfl) (by kernel_rfl) ?_
  refine EL.sdraw ?_
  refine DW.run 4 (x' := ⟨(adq65 m a), (adq64 v a m)⟩) (by kernel_rfl) ?_
  refine DW.ope (v := .v (.int .u64 (IntKind.u64.wrap (1 * 2 ^ (min (Int.toNat m.node) IntKind.u64.bits))))) (u := []) (acc := []) (x' := ⟨(73, .v (.int .u64 (IntKind.u64.wrap (1 * 2 ^ (min (Int.toNat m.node) IntKind.u64.bits))))) :: (adq65 m a), (adq64 v a m)⟩) (by kernel_rfl) (opE_shl (.c (.v (.int .u64 1))) (.s 72) .u64 .i64 1 m.node (by kernel_rfl) (by kernel_rfl) (by kernel_rfl) (by kernel_rfl) (by have hvn := (msg_node (m := m) (by assumption)).1; have hq9 := ask_ok (a := a) (ws := v.weights) (need := v.need) (by assumption); have := qc_len hq9.1; first | omega | exact ⟨by omega, by assumption⟩)) (by kernel_rfl) ?_
  have e19 : IntKind.u64.wrap (1 * 2 ^ (min (Int.toNat m.node) IntKind.u64.bits)) = ((2 ^ (Int.toNat m.node) : Nat) : Int) := shl1 (by have hvn := (msg_node (m := m) (by assumption)).1; have hq9 := ask_ok (a := a) (ws := v.weights) (need := v.need) (by assumption); have := qc_len hq9.1; first | omega | exact ⟨by omega, by assumption⟩)
  rw [e19]
  refine DW.run 3 (x' := ⟨(75, .ref 4 8 0 7) :: (74, .v (.int .u64 (IntKind.u64.wrap ((a.heard.n : Int) + ((2 ^ (Int.toNat m.node) : Nat) : Int))))) :: (adq66 m a), [some ⟨2, [[.lst 1 (v.weights.map cI), VI v.need]]⟩, (adq47 a), (adq48 m), adq49, some ⟨8, [[VI a.op, VI a.kind, VI a.phase, .v (.string a.data), VI a.best.at_.time, VI a.best.at_.who, .v (.string a.best.data), .v (.int .u64 (IntKind.u64.wrap ((a.heard.n : Int) + ((2 ^ (Int.toNat m.node) : Nat) : Int))))]]⟩]⟩) (by kernel_rfl) ?_
  have e20 : IntKind.u64.wrap ((a.heard.n : Int) + ((2 ^ (Int.toNat m.node) : Nat) : Int)) = ((orU a.heard (Int.toNat m.node)).n : Int) := addU (by have hvn := (msg_node (m := m) (by assumption)).1; have hq9 := ask_ok (a := a) (ws := v.weights) (need := v.need) (by assumption); have := qc_len hq9.1; first | omega | exact ⟨by omega, by assumption⟩)
  rw [e20]
  refine DW.last 0 [3, 4, 5, 6, 11] (x' := ⟨(11, .ref 4 8 0 0) :: adq51, (adq68 v a m)⟩) (by kernel_rfl) (by kernel_rfl) ?_
  refine EL.seq ?_
  refine EL.sreg ?_
  refine OW.last 3 [3, 4, 5, 6, 11, 78] (x' := ⟨(78, .v (.bool (a.phase == 1))) :: (11, .ref 4 8 0 0) :: adq51, (adq68 v a m)⟩) (by kernel_rfl) (by kernel_rfl) ?_
  rw [h3]
  refine EL.condT (by kernel_rfl) ?_
  refine EL.reg0 ?_
  refine OW.run 5 (x' := ⟨(adq73 m a), (adq72 v a m)⟩) (by kernel_rfl) ?_
  refine OW.fn (ar := [.own 5 3 0 2]) (x' := ⟨(adq75 a m), (adq72 v a m)⟩) (by kernel_rfl) (by kernel_rfl) F25_call (merged_fn ([a.best, m.copy]) (by first | omega | (simp; done))) (by kernel_rfl) (by kernel_rfl) ?_
  refine OW.end 5 (x' := ⟨(adq78 a m), (adq77 v a m)⟩) (by kernel_rfl) (by kernel_rfl) ?_
  refine thenL_norm ?_
  refine EL.seq ?_
  refine EL.sdraw ?_
  refine DW.run 4 (x' := ⟨(adq79 a m v), (adq77 v a m)⟩) (by kernel_rfl) ?_
  refine DW.fn (ar := [.lst 1 (v.weights.map cI), .v (.int .u64 ((orU a.heard (Int.toNat m.node)).n : Int))]) (x' := ⟨(adq80 v a m), (adq77 v a m)⟩) (by kernel_rfl) (by kernel_rfl) F26_call (sumof_fn v.weights (orU a.heard (Int.toNat m.node)) (qc_nodes (ask_ok (a := a) (ws := v.weights) (need := v.need) (by assumption)).1)) (by kernel_rfl) (by kernel_rfl) ?_
  refine DW.last 3 [3, 4, 6, 11, 96] (x' := ⟨(96, .v (.bool (decide ((bsum v.weights (orU a.heard (Int.toNat m.node)).n) < v.need)))) :: adq81, (adq77 v a m)⟩) (by kernel_rfl) (by kernel_rfl) ?_
  rcases Bool.eq_false_or_eq_true (decide ((bsum v.weights (orU a.heard (Int.toNat m.node)).n) < v.need)) with h21 | h21
  rw [h21]
  have g21 : ((bsum v.weights (orU a.heard (Int.toNat m.node)).n) < v.need) := of_decide_eq_true h21
  refine EL.condT (by kernel_rfl) ?_
  refine EL.sreg ?_
  refine OW.last 4 [6, 7, 8] (x' := ⟨[(8, VI 0), (7, .emp), (6, .ref 3 8 0 0)], (adq82 v a m)⟩) (by kernel_rfl) (by kernel_rfl) ?_
  refine EL.ret ?_
  refine thenL_ret ?_
  refine ⟨.inr rfl, .tup [.agg [VI a.op, VI a.kind, VI a.phase, .v (.string a.data), VI ((((mergedP ([a.best, m.copy])).1).at_).time), VI ((((mergedP ([a.best, m.copy])).1).at_).who), .v (.string (((mergedP ([a.best, m.copy])).1).data)), .v (.int .u64 ((orU a.heard (Int.toNat m.node)).n : Int))], .emp, VI 0], by kernel_rfl, Ale.trans (b := .tup [.agg [VI a.op, VI a.kind, VI a.phase, .v (.string a.data), VI ((((mergedP ([a.best, m.copy])).1).at_).time), VI ((((mergedP ([a.best, m.copy])).1).at_).who), .v (.string (((mergedP ([a.best, m.copy])).1).data)), .v (.int .u64 ((orU a.heard (Int.toNat m.node)).n : Int))], .lst 6 [], VI 0]) (Ale.tup (.cons (Ale.refl) (.cons (Ale.emp) (.cons (Ale.refl) (.nil))))) (Ale.of_eq ?_)⟩
  focus (first | (exfalso; omega) | ((try have hmt := merged_two (ask_ok (a := a) (ws := v.weights) (need := v.need) (by assumption)).2.2.2.2.2.2.1 (msg_node (m := m) (by assumption)).2); (try simp only [hmt] at *); rw [hearA_eq (by assumption) (by assumption), hearT_few (by assumption) (by assumption) (by omega) (by first | (simp [wantsA, *]; done) | (simp_all [wantsA]; done)) (by omega) (by assumption)]; first | (have hk9 : a.kind = 1 := (by have := (ask_ok (a := a) (ws := v.weights) (need := v.need) (by assumption)).2.2.1; omega); simp [heardA, *]; done) | (simp [heardA, *]; done) | (simp_all [heardA]; done)) | (rw [hearA_eq (by assumption) (by assumption), hearT_no (by first | (left; omega) | (right; left; unfold wantsA; rw [if_neg (by omega), if_neg (by omega)]; have := msg_kind (m := m) (by assumption); omega) | (simp [wantsA, *]; done) | (simp_all [wantsA]; done) | omega)]; rfl) | (simp only [hearA]; (repeat' split) <;> first | rfl | (exfalso; omega) | contradiction | (simp_all [Ask.zero]; done)))
  rw [h21]
  have g21 : ¬ ((bsum v.weights (orU a.heard (Int.toNat m.node)).n) < v.need) := of_decide_eq_false h21
  refine EL.condF (by kernel_rfl) ?_
  refine EL.skip ?_
  refine thenL_norm ?_
  refine EL.seq ?_
  refine EL.sreg ?_
  refine OW.last 3 [3, 4, 6, 11, 100] (x' := ⟨(100, .v (.bool (a.phase == 2))) :: adq81, (adq77 v a m)⟩) (by kernel_rfl) (by kernel_rfl) ?_
  rw [h14]
  refine EL.condT (by kernel_rfl) ?_
  refine EL.sreg ?_
  refine OW.last 2 [6, 11] (x' := ⟨[(11, .ref 4 8 0 0), (6, .ref 3 8 0 0)], (adq84 v a m)⟩) (by kernel_rfl) (by kernel_rfl) ?_
  refine EL.sreg ?_
  refine OW.last 4 [6, 7, 8] (x' := ⟨[(8, VI 0), (7, .emp), (6, .ref 3 8 0 0)], (adq85 v a m)⟩) (by kernel_rfl) (by kernel_rfl) ?_
  refine EL.ret ?_
  refine thenL_ret ?_
  refine ⟨.inr rfl, .tup [.agg [VI a.op, VI a.kind, VI 3, .v (.string a.data), VI ((((mergedP ([a.best, m.copy])).1).at_).time), VI ((((mergedP ([a.best, m.copy])).1).at_).who), .v (.string (((mergedP ([a.best, m.copy])).1).data)), .v (.int .u64 ((orU a.heard (Int.toNat m.node)).n : Int))], .emp, VI 0], by kernel_rfl, Ale.trans (b := .tup [.agg [VI a.op, VI a.kind, VI 3, .v (.string a.data), VI ((((mergedP ([a.best, m.copy])).1).at_).time), VI ((((mergedP ([a.best, m.copy])).1).at_).who), .v (.string (((mergedP ([a.best, m.copy])).1).data)), .v (.int .u64 ((orU a.heard (Int.toNat m.node)).n : Int))], .lst 6 [], VI 0]) (Ale.tup (.cons (Ale.refl) (.cons (Ale.emp) (.cons (Ale.refl) (.nil))))) (Ale.of_eq ?_)⟩
  focus (first | (exfalso; omega) | ((try have hmt := merged_two (ask_ok (a := a) (ws := v.weights) (need := v.need) (by assumption)).2.2.2.2.2.2.1 (msg_node (m := m) (by assumption)).2); (try simp only [hmt] at *); rw [hearA_eq (by assumption) (by assumption), hearT_few (by assumption) (by assumption) (by omega) (by first | (simp [wantsA, *]; done) | (simp_all [wantsA]; done)) (by omega) (by assumption)]; first | (have hk9 : a.kind = 1 := (by have := (ask_ok (a := a) (ws := v.weights) (need := v.need) (by assumption)).2.2.1; omega); simp [heardA, *]; done) | (simp [heardA, *]; done) | (simp_all [heardA]; done)) | (rw [hearA_eq (by assumption) (by assumption), hearT_no (by first | (left; omega) | (right; left; unfold wantsA; rw [if_neg (by omega), if_neg (by omega)]; have := msg_kind (m := m) (by assumption); omega) | (simp [wantsA, *]; done) | (simp_all [wantsA]; done) | omega)]; rfl) | (simp only [hearA]; (repeat' split) <;> first | rfl | (exfalso; omega) | contradiction | (simp_all [Ask.zero]; done)))
  rw [h15]
  have g15 : ¬ (m.kind = 4) := by simpa using h15
  refine OW.last 21 [3, 4, 5, 6, 66] (x' := ⟨(66, .v (.bool true)) :: adq51, (adq50 v a m)⟩) (by kernel_rfl) (by kernel_rfl) ?_
  refine EL.condT (by kernel_rfl) ?_
  refine EL.sreg ?_
  refine OW.last 4 [6, 7, 8] (x' := ⟨[(8, VI 0), (7, .emp), (6, .ref 3 8 0 0)], (adq61 v a m)⟩) (by kernel_rfl) (by kernel_rfl) ?_
  refine EL.ret ?_
  refine thenL_ret ?_
  refine ⟨.inr rfl, .tup [.agg [VI a.op, VI a.kind, VI a.phase, .v (.string a.data), VI a.best.at_.time, VI a.best.at_.who, .v (.string a.best.data), .v (.int .u64 (a.heard.n : Int))], .emp, VI 0], by kernel_rfl, Ale.trans (b := .tup [.agg [VI a.op, VI a.kind, VI a.phase, .v (.string a.data), VI a.best.at_.time, VI a.best.at_.who, .v (.string a.best.data), .v (.int .u64 (a.heard.n : Int))], .lst 6 [], VI 0]) (Ale.tup (.cons (Ale.refl) (.cons (Ale.emp) (.cons (Ale.refl) (.nil))))) (Ale.of_eq ?_)⟩
  focus (first | (exfalso; omega) | ((try have hmt := merged_two (ask_ok (a := a) (ws := v.weights) (need := v.need) (by assumption)).2.2.2.2.2.2.1 (msg_node (m := m) (by assumption)).2); (try simp only [hmt] at *); rw [hearA_eq (by assumption) (by assumption), hearT_few (by assumption) (by assumption) (by omega) (by first | (simp [wantsA, *]; done) | (simp_all [wantsA]; done)) (by omega) (by assumption)]; first | (have hk9 : a.kind = 1 := (by have := (ask_ok (a := a) (ws := v.weights) (need := v.need) (by assumption)).2.2.1; omega); simp [heardA, *]; done) | (simp [heardA, *]; done) | (simp_all [heardA]; done)) | (rw [hearA_eq (by assumption) (by assumption), hearT_no (by first | (left; omega) | (right; left; unfold wantsA; rw [if_neg (by omega), if_neg (by omega)]; have := msg_kind (m := m) (by assumption); omega) | (simp [wantsA, *]; done) | (simp_all [wantsA]; done) | omega)]; rfl) | (simp only [hearA]; (repeat' split) <;> first | rfl | (exfalso; omega) | contradiction | (simp_all [Ask.zero]; done)))
  rw [h14]
  have g14 : ¬ (a.phase = 2) := by simpa using h14
  refine OW.last 6 [3, 4, 5, 6, 10] (x' := ⟨(10, .v (.bool false)) :: adq51, (adq50 v a m)⟩) (by kernel_rfl) (by kernel_rfl) ?_
  refine EL.seq ?_
  refine EL.sreg ?_
  refine OW.last 24 [3, 4, 5, 6, 66] (x' := ⟨(66, .v (.bool true)) :: adq51, (adq50 v a m)⟩) (by kernel_rfl) (by kernel_rfl) ?_
  refine EL.condT (by kernel_rfl) ?_
  refine EL.sreg ?_
  refine OW.last 4 [6, 7, 8] (x' := ⟨[(8, VI 0), (7, .emp), (6, .ref 3 8 0 0)], (adq61 v a m)⟩) (by kernel_rfl) (by kernel_rfl) ?_
  refine EL.ret ?_
  refine thenL_ret ?_
  refine ⟨.inr rfl, .tup [.agg [VI a.op, VI a.kind, VI a.phase, .v (.string a.data), VI a.best.at_.time, VI a.best.at_.who, .v (.string a.best.data), .v (.int .u64 (a.heard.n : Int))], .emp, VI 0], by kernel_rfl, Ale.trans (b := .tup [.agg [VI a.op, VI a.kind, VI a.phase, .v (.string a.data), VI a.best.at_.time, VI a.best.at_.who, .v (.string a.best.data), .v (.int .u64 (a.heard.n : Int))], .lst 6 [], VI 0]) (Ale.tup (.cons (Ale.refl) (.cons (Ale.emp) (.cons (Ale.refl) (.nil))))) (Ale.of_eq ?_)⟩
  focus (first | (exfalso; omega) | ((try have hmt := merged_two (ask_ok (a := a) (ws := v.weights) (need := v.need) (by assumption)).2.2.2.2.2.2.1 (msg_node (m := m) (by assumption)).2); (try simp only [hmt] at *); rw [hearA_eq (by assumption) (by assumption), hearT_few (by assumption) (by assumption) (by omega) (by first | (simp [wantsA, *]; done) | (simp_all [wantsA]; done)) (by omega) (by assumption)]; first | (have hk9 : a.kind = 1 := (by have := (ask_ok (a := a) (ws := v.weights) (need := v.need) (by assumption)).2.2.1; omega); simp [heardA, *]; done) | (simp [heardA, *]; done) | (simp_all [heardA]; done)) | (rw [hearA_eq (by assumption) (by assumption), hearT_no (by first | (left; omega) | (right; left; unfold wantsA; rw [if_neg (by omega), if_neg (by omega)]; have := msg_kind (m := m) (by assumption); omega) | (simp [wantsA, *]; done) | (simp_all [wantsA]; done) | omega)]; rfl) | (simp only [hearA]; (repeat' split) <;> first | rfl | (exfalso; omega) | contradiction | (simp_all [Ask.zero]; done)))
  rw [h3]
  have g3 : ¬ (a.phase = 1) := by simpa using h3
  refine OW.run 9 (x' := ⟨(37, .v (.bool (a.phase == 2))) :: (36, .v (.bool (a.phase == 2))) :: (adq123 a m), (adq50 v a m)⟩) (by kernel_rfl) ?_
  rcases Bool.eq_false_or_eq_true ((a.phase == 2)) with h22 | h22
  rw [h22]
  have g22 : (a.phase = 2) := by simpa using h22
  refine OW.last 6 [3, 4, 5, 6, 10] (x' := ⟨(10, .v (.bool (m.kind == 4))) :: adq51, (adq50 v a m)⟩) (by kernel_rfl) (by kernel_rfl) ?_
  refine EL.seq ?_
  refine EL.sreg ?_
  refine OW.run 3 (x' := ⟨(45, .v (.bool (!(m.kind == 4)))) :: (44, .v (.bool (!(m.kind == 4)))) :: (43, .v (.bool (m.kind == 4))) :: (10, .v (.bool (m.kind == 4))) :: adq51, (adq50 v a m)⟩) (by kernel_rfl) ?_
  rcases Bool.eq_false_or_eq_true ((m.kind == 4)) with h23 | h23
  rw [h23]
  have g23 : (m.kind = 4) := by simpa using h23
  refine OW.run 7 (x' := ⟨(52, .v (.bool (m.op != a.op))) :: (51, .v (.bool (m.op != a.op))) :: (50, .v (.bool (m.op != a.op))) :: (adq60 a m), (adq50 v a m)⟩) (by kernel_rfl) ?_
  rcases Bool.eq_false_or_eq_true ((m.op != a.op)) with h24 | h24
  rw [h24]
  have g24 : ¬ (m.op = a.op) := by simpa using h24
  refine OW.last 14 [3, 4, 5, 6, 66] (x' := ⟨(66, .v (.bool true)) :: adq51, (adq50 v a m)⟩) (by kernel_rfl) (by kernel_rfl) ?_
  refine EL.condT (by kernel_rfl) ?_
  refine EL.sreg ?_
  refine OW.last 4 [6, 7, 8] (x' := ⟨[(8, VI 0), (7, .emp), (6, .ref 3 8 0 0)], (adq61 v a m)⟩) (by kernel_rfl) (by kernel_rfl) ?_
  refine EL.ret ?_
  refine thenL_ret ?_
  refine ⟨.inr rfl, .tup [.agg [VI a.op, VI a.kind, VI a.phase, .v (.string a.data), VI a.best.at_.time, VI a.best.at_.who, .v (.string a.best.data), .v (.int .u64 (a.heard.n : Int))], .emp, VI 0], by kernel_rfl, Ale.trans (b := .tup [.agg [VI a.op, VI a.kind, VI a.phase, .v (.string a.data), VI a.best.at_.time, VI a.best.at_.who, .v (.string a.best.data), .v (.int .u64 (a.heard.n : Int))], .lst 6 [], VI 0]) (Ale.tup (.cons (Ale.refl) (.cons (Ale.emp) (.cons (Ale.refl) (.nil))))) (Ale.of_eq ?_)⟩
  focus (first | (exfalso; omega) | ((try have hmt := merged_two (ask_ok (a := a) (ws := v.weights) (need := v.need) (by assumption)).2.2.2.2.2.2.1 (msg_node (m := m) (by assumption)).2); (try simp only [hmt] at *); rw [hearA_eq (by assumption) (by assumption), hearT_few (by assumption) (by assumption) (by omega) (by first | (simp [wantsA, *]; done) | (simp_all [wantsA]; done)) (by omega) (by assumption)]; first | (have hk9 : a.kind = 1 := (by have := (ask_ok (a := a) (ws := v.weights) (need := v.need) (by assumption)).2.2.1; omega); simp [heardA, *]; done) | (simp [heardA, *]; done) | (simp_all [heardA]; done)) | (rw [hearA_eq (by assumption) (by assumption), hearT_no (by first | (left; omega) | (right; left; unfold wantsA; rw [if_neg (by omega), if_neg (by omega)]; have := msg_kind (m := m) (by assumption); omega) | (simp [wantsA, *]; done) | (simp_all [wantsA]; done) | omega)]; rfl) | (simp only [hearA]; (repeat' split) <;> first | rfl | (exfalso; omega) | contradiction | (simp_all [Ask.zero]; done)))
  rw [h24]
  have g24 : (m.op = a.op) := by simpa using h24
  refine OW.run 4 (x' := ⟨(adq62 v m a), (adq50 v a m)⟩) (by kernel_rfl) ?_
  refine OW.ope (v := VI (List.length v.weights : Int)) (u := []) (acc := []) (x' := ⟨(57, VI (List.length v.weights : Int)) :: (adq62 v m a), (adq50 v a m)⟩) (by kernel_rfl) (opE_len cI v.weights (.s 56) 1 (by kernel_rfl) (by kernel_rfl) (.inl rfl)) (by kernel_rfl) ?_
  refine OW.run 3 (x' := ⟨(60, .v (.bool (decide (m.node ≥ (List.length v.weights : Int))))) :: (59, .v (.bool (decide (m.node ≥ (List.length v.weights : Int))))) :: (58, .v (.bool (decide (m.node ≥ (List.length v.weights : Int))))) :: (57, VI (List.length v.weights : Int)) :: (adq62 v m a), (adq50 v a m)⟩) (by kernel_rfl) ?_
  rcases Bool.eq_false_or_eq_true (decide (m.node ≥ (List.length v.weights : Int))) with h25 | h25
  rw [h25]
  have g25 : (m.node ≥ (List.length v.weights : Int)) := of_decide_eq_true h25
  refine OW.last 6 [3, 4, 5, 6, 66] (x' := ⟨(66, .v (.bool true)) :: adq51, (adq50 v a m)⟩) (by kernel_rfl) (by kernel_rfl) ?_
  refine EL.condT (by kernel_rfl) ?_
  refine EL.sreg ?_
  refine OW.last 4 [6, 7, 8] (x' := ⟨[(8, VI 0), (7, .emp), (6, .ref 3 8 0 0)], (adq61 v a m)⟩) (by kernel_rfl) (by kernel_rfl) ?_
  refine EL.ret ?_
  refine thenL_ret ?_
  refine ⟨.inr rfl, .tup [.agg [VI a.op, VI a.kind, VI a.phase, .v (.string a.data), VI a.best.at_.time, VI a.best.at_.who, .v (.string a.best.data), .v (.int .u64 (a.heard.n : Int))], .emp, VI 0], by kernel_rfl, Ale.trans (b := .tup [.agg [VI a.op, VI a.kind, VI a.phase, .v (.string a.data), VI a.best.at_.time, VI a.best.at_.who, .v (.string a.best.data), .v (.int .u64 (a.heard.n : Int))], .lst 6 [], VI 0]) (Ale.tup (.cons (Ale.refl) (.cons (Ale.emp) (.cons (Ale.refl) (.nil))))) (Ale.of_eq ?_)⟩
  focus (first | (exfalso; omega) | ((try have hmt := merged_two (ask_ok (a := a) (ws := v.weights) (need := v.need) (by assumption)).2.2.2.2.2.2.1 (msg_node (m := m) (by assumption)).2); (try simp only [hmt] at *); rw [hearA_eq (by assumption) (by assumption), hearT_few (by assumption) (by assumption) (by omega) (by first | (simp [wantsA, *]; done) | (simp_all [wantsA]; done)) (by omega) (by assumption)]; first | (have hk9 : a.kind = 1 := (by have := (ask_ok (a := a) (ws := v.weights) (need := v.need) (by assumption)).2.2.1; omega); simp [heardA, *]; done) | (simp [heardA, *]; done) | (simp_all [heardA]; done)) | (rw [hearA_eq (by assumption) (by assumption), hearT_no (by first | (left; omega) | (right; left; unfold wantsA; rw [if_neg (by omega), if_neg (by omega)]; have := msg_kind (m := m) (by assumption); omega) | (simp [wantsA, *]; done) | (simp_all [wantsA]; done) | omega)]; rfl) | (simp only [hearA]; (repeat' split) <;> first | rfl | (exfalso; omega) | contradiction | (simp_all [Ask.zero]; done)))
  rw [h25]
  have g25 : ¬ (m.node ≥ (List.length v.weights : Int)) := of_decide_eq_false h25
  refine OW.run 4 (x' := ⟨(adq63 m a v), (adq50 v a m)⟩) (by kernel_rfl) ?_
  refine OW.fn (ar := [.v (.int .u64 (a.heard.n : Int)), VI m.node]) (x' := ⟨(65, .v (.bool (inS a.heard.n (Int.toNat m.node)))) :: (adq63 m a v), (adq50 v a m)⟩) (by kernel_rfl) (by kernel_rfl) F24_call (inset_fn a.heard m.node (msg_node (m := m) (by assumption)).1.1) (by kernel_rfl) (by kernel_rfl) ?_
  refine OW.last 1 [3, 4, 5, 6, 66] (x' := ⟨(66, .v (.bool (inS a.heard.n (Int.toNat m.node)))) :: adq51, (adq50 v a m)⟩) (by kernel_rfl) (by kernel_rfl) ?_
  rcases Bool.eq_false_or_eq_true (inS a.heard.n (Int.toNat m.node)) with h26 | h26
  rw [h26]
  refine EL.condT (by kernel_rfl) ?_
  refine EL.sreg ?_
  refine OW.last 4 [6, 7, 8] (x' := ⟨[(8, VI 0), (7, .emp), (6, .ref 3 8 0 0)], (adq61 v a m)⟩) (by kernel_rfl) (by kernel_rfl) ?_
  refine EL.ret ?_
  refine thenL_ret ?_
  refine ⟨.inr rfl, .tup [.agg [VI a.op, VI a.kind, VI a.phase, .v (.string a.data), VI a.best.at_.time, VI a.best.at_.who, .v (.string a.best.data), .v (.int .u64 (a.heard.n : Int))], .emp, VI 0], by kernel_rfl, Ale.trans (b := .tup [.agg [VI a.op, VI a.kind, VI a.phase, .v (.string a.data), VI a.best.at_.time, VI a.best.at_.who, .v (.string a.best.data), .v (.int .u64 (a.heard.n : Int))], .lst 6 [], VI 0]) (Ale.tup (.cons (Ale.refl) (.cons (Ale.emp) (.cons (Ale.refl) (.nil))))) (Ale.of_eq ?_)⟩
  focus (first | (exfalso; omega) | ((try have hmt := merged_two (ask_ok (a := a) (ws := v.weights) (need := v.need) (by assumption)).2.2.2.2.2.2.1 (msg_node (m := m) (by assumption)).2); (try simp only [hmt] at *); rw [hearA_eq (by assumption) (by assumption), hearT_few (by assumption) (by assumption) (by omega) (by first | (simp [wantsA, *]; done) | (simp_all [wantsA]; done)) (by omega) (by assumption)]; first | (have hk9 : a.kind = 1 := (by have := (ask_ok (a := a) (ws := v.weights) (need := v.need) (by assumption)).2.2.1; omega); simp [heardA, *]; done) | (simp [heardA, *]; done) | (simp_all [heardA]; done)) | (rw [hearA_eq (by assumption) (by assumption), hearT_no (by first | (left; omega) | (right; left; unfold wantsA; rw [if_neg (by omega), if_neg (by omega)]; have := msg_kind (m := m) (by assumption); omega) | (simp [wantsA, *]; done) | (simp_all [wantsA]; done) | omega)]; rfl) | (simp only [hearA]; (repeat' split) <;> first | rfl | (exfalso; omega) | contradiction | (simp_all [Ask.zero]; done)))
  rw [h26]
  refine EL.condF (by kernel_rfl) ?_
  refine EL.skip ?_
  refine thenL_norm ?_
  refine EL.sreg ?_
  refine OW.last 3 [3, 4, 5, 6, 11] (x' := ⟨(11, .ref 4 8 0 0) :: adq51, (adq64 v a m)⟩) (by kernel_rfl) (by kernel_rfl) ?_
  refine EL.sdraw ?_
  refine DW.run 4 (x' := ⟨(adq65 m a), (adq64 v a m)⟩) (by kernel_rfl) ?_
  refine DW.ope (v := .v (.int .u64 (IntKind.u64.wrap (1 * 2 ^ (min (Int.toNat m.node) IntKind.u64.bits))))) (u := []) (acc := []) (x' := ⟨(73, .v (.int .u64 (IntKind.u64.wrap (1 * 2 ^ (min (Int.toNat m.node) IntKind.u64.bits))))) :: (adq65 m a), (adq64 v a m)⟩) (by kernel_rfl) (opE_shl (.c (.v (.int .u64 1))) (.s 72) .u64 .i64 1 m.node (by kernel_rfl) (by kernel_rfl) (by kernel_rfl) (by kernel_rfl) (by have hvn := (msg_node (m := m) (by assumption)).1; have hq9 := ask_ok (a := a) (ws := v.weights) (need := v.need) (by assumption); have := qc_len hq9.1; first | omega | exact ⟨by omega, by assumption⟩)) (by kernel_rfl) ?_
  have e27 : IntKind.u64.wrap (1 * 2 ^ (min (Int.toNat m.node) IntKind.u64.bits)) = ((2 ^ (Int.toNat m.node) : Nat) : Int) := shl1 (by have hvn := (msg_node (m := m) (by assumption)).1; have hq9 := ask_ok (a := a) (ws := v.weights) (need := v.need) (by assumption); have := qc_len hq9.1; first | omega | exact ⟨by omega, by assumption⟩)
  rw [e27]
  refine DW.run 3 (x' := ⟨(75, .ref 4 8 0 7) :: (74, .v (.int .u64 (IntKind.u64.wrap ((a.heard.n : Int) + ((2 ^ (Int.toNat m.node) : Nat) : Int))))) :: (adq66 m a), [some ⟨2, [[.lst 1 (v.weights.map cI), VI v.need]]⟩, (adq47 a), (adq48 m), adq49, some ⟨8, [[VI a.op, VI a.kind, VI a.phase, .v (.string a.data), VI a.best.at_.time, VI a.best.at_.who, .v (.string a.best.data), .v (.int .u64 (IntKind.u64.wrap ((a.heard.n : Int) + ((2 ^ (Int.toNat m.node) : Nat) : Int))))]]⟩]⟩) (by kernel_rfl) ?_
  have e28 : IntKind.u64.wrap ((a.heard.n : Int) + ((2 ^ (Int.toNat m.node) : Nat) : Int)) = ((orU a.heard (Int.toNat m.node)).n : Int) := addU (by have hvn := (msg_node (m := m) (by assumption)).1; have hq9 := ask_ok (a := a) (ws := v.weights) (need := v.need) (by assumption); have := qc_len hq9.1; first | omega | exact ⟨by omega, by assumption⟩)
  rw [e28]
  refine DW.last 0 [3, 4, 5, 6, 11] (x' := ⟨(11, .ref 4 8 0 0) :: adq51, (adq68 v a m)⟩) (by kernel_rfl) (by kernel_rfl) ?_
  refine EL.seq ?_
  refine EL.sreg ?_
  refine OW.last 3 [3, 4, 5, 6, 11, 78] (x' := ⟨(78, .v (.bool (a.phase == 1))) :: (11, .ref 4 8 0 0) :: adq51, (adq68 v a m)⟩) (by kernel_rfl) (by kernel_rfl) ?_
  rw [h3]
  refine EL.condF (by kernel_rfl) ?_
  refine EL.skip ?_
  refine thenL_norm ?_
  refine EL.seq ?_
  refine EL.sdraw ?_
  refine DW.run 4 (x' := ⟨(adq124 a m v), (adq68 v a m)⟩) (by kernel_rfl) ?_
  refine DW.fn (ar := [.lst 1 (v.weights.map cI), .v (.int .u64 ((orU a.heard (Int.toNat m.node)).n : Int))]) (x' := ⟨(adq125 v a m), (adq68 v a m)⟩) (by kernel_rfl) (by kernel_rfl) F26_call (sumof_fn v.weights (orU a.heard (Int.toNat m.node)) (qc_nodes (ask_ok (a := a) (ws := v.weights) (need := v.need) (by assumption)).1)) (by kernel_rfl) (by kernel_rfl) ?_
  refine DW.last 3 [3, 4, 6, 11, 96] (x' := ⟨(96, .v (.bool (decide ((bsum v.weights (orU a.heard (Int.toNat m.node)).n) < v.need)))) :: adq81, (adq68 v a m)⟩) (by kernel_rfl) (by kernel_rfl) ?_
  rcases Bool.eq_false_or_eq_true (decide ((bsum v.weights (orU a.heard (Int.toNat m.node)).n) < v.need)) with h29 | h29
  rw [h29]
  have g29 : ((bsum v.weights (orU a.heard (Int.toNat m.node)).n) < v.need) := of_decide_eq_true h29
  refine EL.condT (by kernel_rfl) ?_
  refine EL.sreg ?_
  refine OW.last 4 [6, 7, 8] (x' := ⟨[(8, VI 0), (7, .emp), (6, .ref 3 8 0 0)], (adq126 v a m)⟩) (by kernel_rfl) (by kernel_rfl) ?_
  refine EL.ret ?_
  refine thenL_ret ?_
  refine ⟨.inr rfl, .tup [.agg [VI a.op, VI a.kind, VI a.phase, .v (.string a.data), VI a.best.at_.time, VI a.best.at_.who, .v (.string a.best.data), .v (.int .u64 ((orU a.heard (Int.toNat m.node)).n : Int))], .emp, VI 0], by kernel_rfl, Ale.trans (b := .tup [.agg [VI a.op, VI a.kind, VI a.phase, .v (.string a.data), VI a.best.at_.time, VI a.best.at_.who, .v (.string a.best.data), .v (.int .u64 ((orU a.heard (Int.toNat m.node)).n : Int))], .lst 6 [], VI 0]) (Ale.tup (.cons (Ale.refl) (.cons (Ale.emp) (.cons (Ale.refl) (.nil))))) (Ale.of_eq ?_)⟩
  focus (first | (exfalso; omega) | ((try have hmt := merged_two (ask_ok (a := a) (ws := v.weights) (need := v.need) (by assumption)).2.2.2.2.2.2.1 (msg_node (m := m) (by assumption)).2); (try simp only [hmt] at *); rw [hearA_eq (by assumption) (by assumption), hearT_few (by assumption) (by assumption) (by omega) (by first | (simp [wantsA, *]; done) | (simp_all [wantsA]; done)) (by omega) (by assumption)]; first | (have hk9 : a.kind = 1 := (by have := (ask_ok (a := a) (ws := v.weights) (need := v.need) (by assumption)).2.2.1; omega); simp [heardA, *]; done) | (simp [heardA, *]; done) | (simp_all [heardA]; done)) | (rw [hearA_eq (by assumption) (by assumption), hearT_no (by first | (left; omega) | (right; left; unfold wantsA; rw [if_neg (by omega), if_neg (by omega)]; have := msg_kind (m := m) (by assumption); omega) | (simp [wantsA, *]; done) | (simp_all [wantsA]; done) | omega)]; rfl) | (simp only [hearA]; (repeat' split) <;> first | rfl | (exfalso; omega) | contradiction | (simp_all [Ask.zero]; done)))
  rw [h29]
  have g29 : ¬ ((bsum v.weights (orU a.heard (Int.toNat m.node)).n) < v.need) := of_decide_eq_false h29
  refine EL.condF (by kernel_rfl) ?_
  refine EL.skip ?_
  refine thenL_norm ?_
  refine EL.seq ?_
  refine EL.sreg ?_
  refine OW.last 3 [3, 4, 6, 11, 100] (x' := ⟨(100, .v (.bool (a.phase == 2))) :: adq81, (adq68 v a m)⟩) (by kernel_rfl) (by kernel_rfl) ?_
  rw [h22]
  refine EL.condT (by kernel_rfl) ?_
  refine EL.sreg ?_
  refine OW.last 2 [6, 11] (x' := ⟨[(11, .ref 4 8 0 0), (6, .ref 3 8 0 0)], (adq128 v a m)⟩) (by kernel_rfl) (by kernel_rfl) ?_
  refine EL.sreg ?_
  refine OW.last 4 [6, 7, 8] (x' := ⟨[(8, VI 0), (7, .emp), (6, .ref 3 8 0 0)], (adq129 v a m)⟩) (by kernel_rfl) (by kernel_rfl) ?_
  refine EL.ret ?_
  refine thenL_ret ?_
  refine ⟨.inr rfl, .tup [.agg [VI a.op, VI a.kind, VI 3, .v (.string a.data), VI a.best.at_.time, VI a.best.at_.who, .v (.string a.best.data), .v (.int .u64 ((orU a.heard (Int.toNat m.node)).n : Int))], .emp, VI 0], by kernel_rfl, Ale.trans (b := .tup [.agg [VI a.op, VI a.kind, VI 3, .v (.string a.data), VI a.best.at_.time, VI a.best.at_.who, .v (.string a.best.data), .v (.int .u64 ((orU a.heard (Int.toNat m.node)).n : Int))], .lst 6 [], VI 0]) (Ale.tup (.cons (Ale.refl) (.cons (Ale.emp) (.cons (Ale.refl) (.nil))))) (Ale.of_eq ?_)⟩
  focus (first | (exfalso; omega) | ((try have hmt := merged_two (ask_ok (a := a) (ws := v.weights) (need := v.need) (by assumption)).2.2.2.2.2.2.1 (msg_node (m := m) (by assumption)).2); (try simp only [hmt] at *); rw [hearA_eq (by assumption) (by assumption), hearT_few (by assumption) (by assumption) (by omega) (by first | (simp [wantsA, *]; done) | (simp_all [wantsA]; done)) (by omega) (by assumption)]; first | (have hk9 : a.kind = 1 := (by have := (ask_ok (a := a) (ws := v.weights) (need := v.need) (by assumption)).2.2.1; omega); simp [heardA, *]; done) | (simp [heardA, *]; done) | (simp_all [heardA]; done)) | (rw [hearA_eq (by assumption) (by assumption), hearT_no (by first | (left; omega) | (right; left; unfold wantsA; rw [if_neg (by omega), if_neg (by omega)]; have := msg_kind (m := m) (by assumption); omega) | (simp [wantsA, *]; done) | (simp_all [wantsA]; done) | omega)]; rfl) | (simp only [hearA]; (repeat' split) <;> first | rfl | (exfalso; omega) | contradiction | (simp_all [Ask.zero]; done)))
  rw [h23]
  have g23 : ¬ (m.kind = 4) := by simpa using h23
  refine OW.last 21 [3, 4, 5, 6, 66] (x' := ⟨(66, .v (.bool true)) :: adq51, (adq50 v a m)⟩) (by kernel_rfl) (by kernel_rfl) ?_
  refine EL.condT (by kernel_rfl) ?_
  refine EL.sreg ?_
  refine OW.last 4 [6, 7, 8] (x' := ⟨[(8, VI 0), (7, .emp), (6, .ref 3 8 0 0)], (adq61 v a m)⟩) (by kernel_rfl) (by kernel_rfl) ?_
  refine EL.ret ?_
  refine thenL_ret ?_
  refine ⟨.inr rfl, .tup [.agg [VI a.op, VI a.kind, VI a.phase, .v (.string a.data), VI a.best.at_.time, VI a.best.at_.who, .v (.string a.best.data), .v (.int .u64 (a.heard.n : Int))], .emp, VI 0], by kernel_rfl, Ale.trans (b := .tup [.agg [VI a.op, VI a.kind, VI a.phase, .v (.string a.data), VI a.best.at_.time, VI a.best.at_.who, .v (.string a.best.data), .v (.int .u64 (a.heard.n : Int))], .lst 6 [], VI 0]) (Ale.tup (.cons (Ale.refl) (.cons (Ale.emp) (.cons (Ale.refl) (.nil))))) (Ale.of_eq ?_)⟩
  focus (first | (exfalso; omega) | ((try have hmt := merged_two (ask_ok (a := a) (ws := v.weights) (need := v.need) (by assumption)).2.2.2.2.2.2.1 (msg_node (m := m) (by assumption)).2); (try simp only [hmt] at *); rw [hearA_eq (by assumption) (by assumption), hearT_few (by assumption) (by assumption) (by omega) (by first | (simp [wantsA, *]; done) | (simp_all [wantsA]; done)) (by omega) (by assumption)]; first | (have hk9 : a.kind = 1 := (by have := (ask_ok (a := a) (ws := v.weights) (need := v.need) (by assumption)).2.2.1; omega); simp [heardA, *]; done) | (simp [heardA, *]; done) | (simp_all [heardA]; done)) | (rw [hearA_eq (by assumption) (by assumption), hearT_no (by first | (left; omega) | (right; left; unfold wantsA; rw [if_neg (by omega), if_neg (by omega)]; have := msg_kind (m := m) (by assumption); omega) | (simp [wantsA, *]; done) | (simp_all [wantsA]; done) | omega)]; rfl) | (simp only [hearA]; (repeat' split) <;> first | rfl | (exfalso; omega) | contradiction | (simp_all [Ask.zero]; done)))
  rw [h22]
  have g22 : ¬ (a.phase = 2) := by simpa using h22
  refine OW.last 6 [3, 4, 5, 6, 10] (x' := ⟨(10, .v (.bool false)) :: adq51, (adq50 v a m)⟩) (by kernel_rfl) (by kernel_rfl) ?_
  refine EL.seq ?_
  refine EL.sreg ?_
  refine OW.last 24 [3, 4, 5, 6, 66] (x' := ⟨(66, .v (.bool true)) :: adq51, (adq50 v a m)⟩) (by kernel_rfl) (by kernel_rfl) ?_
  refine EL.condT (by kernel_rfl) ?_
  refine EL.sreg ?_
  refine OW.last 4 [6, 7, 8] (x' := ⟨[(8, VI 0), (7, .emp), (6, .ref 3 8 0 0)], (adq61 v a m)⟩) (by kernel_rfl) (by kernel_rfl) ?_
  refine EL.ret ?_
  refine thenL_ret ?_
  refine ⟨.inr rfl, .tup [.agg [VI a.op, VI a.kind, VI a.phase, .v (.string a.data), VI a.best.at_.time, VI a.best.at_.who, .v (.string a.best.data), .v (.int .u64 (a.heard.n : Int))], .emp, VI 0], by kernel_rfl, Ale.trans (b := .tup [.agg [VI a.op, VI a.kind, VI a.phase, .v (.string a.data), VI a.best.at_.time, VI a.best.at_.who, .v (.string a.best.data), .v (.int .u64 (a.heard.n : Int))], .lst 6 [], VI 0]) (Ale.tup (.cons (Ale.refl) (.cons (Ale.emp) (.cons (Ale.refl) (.nil))))) (Ale.of_eq ?_)⟩
  focus (first | (exfalso; omega) | ((try have hmt := merged_two (ask_ok (a := a) (ws := v.weights) (need := v.need) (by assumption)).2.2.2.2.2.2.1 (msg_node (m := m) (by assumption)).2); (try simp only [hmt] at *); rw [hearA_eq (by assumption) (by assumption), hearT_few (by assumption) (by assumption) (by omega) (by first | (simp [wantsA, *]; done) | (simp_all [wantsA]; done)) (by omega) (by assumption)]; first | (have hk9 : a.kind = 1 := (by have := (ask_ok (a := a) (ws := v.weights) (need := v.need) (by assumption)).2.2.1; omega); simp [heardA, *]; done) | (simp [heardA, *]; done) | (simp_all [heardA]; done)) | (rw [hearA_eq (by assumption) (by assumption), hearT_no (by first | (left; omega) | (right; left; unfold wantsA; rw [if_neg (by omega), if_neg (by omega)]; have := msg_kind (m := m) (by assumption); omega) | (simp [wantsA, *]; done) | (simp_all [wantsA]; done) | omega)]; rfl) | (simp only [hearA]; (repeat' split) <;> first | rfl | (exfalso; omega) | contradiction | (simp_all [Ask.zero]; done)))
  rw [h1]
  have g1 : ¬ ((a.checkE v.weights v.need) = 0) := by simpa using h1
  refine EL.condF (by kernel_rfl) ?_
  refine EL.skip ?_
  refine thenL_norm ?_
  refine EL.seq ?_
  refine EL.sreg ?_
  refine OW.last 2 [3, 4, 5, 6, 9, 22] (x' := ⟨(22, .v (.bool ((a.checkE v.weights v.need) != 0))) :: (9, VI (a.checkE v.weights v.need)) :: adq51, (adq50 v a m)⟩) (by kernel_rfl) (by kernel_rfl) ?_
  have h30 : ((a.checkE v.weights v.need) != 0) = true := (by show (!((a.checkE v.weights v.need) == 0)) = _; rw [h1]; rfl)
  rw [h30]
  refine EL.condT (by kernel_rfl) ?_
  refine EL.sreg ?_
  refine OW.last 5 [6, 7, 8] (x' := ⟨(adq130 a v), (adq50 v a m)⟩) (by kernel_rfl) (by kernel_rfl) ?_
  refine EL.ret ?_
  refine thenL_ret ?_
  refine ⟨.inr rfl, .tup [.agg [VI 0, VI 0, VI 0, .v (.string (⟨#[]⟩)), VI 0, VI 0, .v (.string (⟨#[]⟩)), .v (.int .u64 0)], .emp, VI (a.checkE v.weights v.need)], by kernel_rfl, Ale.trans (b := .tup [.agg [VI 0, VI 0, VI 0, .v (.string (⟨#[]⟩)), VI 0, VI 0, .v (.string (⟨#[]⟩)), .v (.int .u64 0)], .lst 6 [], VI (a.checkE v.weights v.need)]) (Ale.tup (.cons (Ale.refl) (.cons (Ale.emp) (.cons (Ale.refl) (.nil))))) (Ale.of_eq ?_)⟩
  focus (first | (exfalso; omega) | ((try have hmt := merged_two (ask_ok (a := a) (ws := v.weights) (need := v.need) (by assumption)).2.2.2.2.2.2.1 (msg_node (m := m) (by assumption)).2); (try simp only [hmt] at *); rw [hearA_eq (by assumption) (by assumption), hearT_few (by assumption) (by assumption) (by omega) (by first | (simp [wantsA, *]; done) | (simp_all [wantsA]; done)) (by omega) (by assumption)]; first | (have hk9 : a.kind = 1 := (by have := (ask_ok (a := a) (ws := v.weights) (need := v.need) (by assumption)).2.2.1; omega); simp [heardA, *]; done) | (simp [heardA, *]; done) | (simp_all [heardA]; done)) | (rw [hearA_eq (by assumption) (by assumption), hearT_no (by first | (left; omega) | (right; left; unfold wantsA; rw [if_neg (by omega), if_neg (by omega)]; have := msg_kind (m := m) (by assumption); omega) | (simp [wantsA, *]; done) | (simp_all [wantsA]; done) | omega)]; rfl) | (simp only [hearA]; (repeat' split) <;> first | rfl | (exfalso; omega) | contradiction | (simp_all [Ask.zero]; done)))
theorem lat_fn (t : Int) (w : Int) : Fn Tryd.prog 48 [VI t, VI w] (.agg [VI ((⟨t, w⟩ : Stamp).time), VI ((⟨t, w⟩ : Stamp).who)]) := by
  refine fn_walkW F48_ok (of_decide_eq_true (by kernel_rfl)) ?_
  refine EL.sreg ?_
  refine OW.last 1 [0, 1, 4] (x' := ⟨[(4, .ref 0 2 0 0), (0, VI t), (1, VI w)], [some ⟨2, [[VI 0, VI 0]]⟩]⟩) (by kernel_rfl) (by kernel_rfl) ?_
  refine EL.sreg ?_
  refine OW.last 4 [4] (x' := ⟨[(4, .ref 0 2 0 0)], [some ⟨2, [[VI t, VI w]]⟩]⟩) (by kernel_rfl) (by kernel_rfl) ?_
  refine EL.ret ?_
  refine ⟨.inr rfl, .agg [VI t, VI w], by kernel_rfl, Ale.of_eq ?_⟩
  focus (rfl)
abbrev adq131 (t : Int) (w : Int) (d : ByteArray) : LS := [(6, .ref 0 3 0 0), (0, VI t), (1, VI w), (2, .v (.string d))]
abbrev adq132 (t : Int) (w : Int) : AV := .agg [VI ((⟨t, w⟩ : Stamp).time), VI ((⟨t, w⟩ : Stamp).who)]
abbrev adq133 (t : Int) (w : Int) (d : ByteArray) : OB := some ⟨3, [[VI ((⟨t, w⟩ : Stamp).time), VI ((⟨t, w⟩ : Stamp).who), .v (.string d)]]⟩
abbrev adq134 (t : Int) (w : Int) (d : ByteArray) : AV := .agg [VI ((⟨t, w⟩ : Stamp).time), VI ((⟨t, w⟩ : Stamp).who), .v (.string d)]
theorem lblock_fn (t : Int) (w : Int) (d : ByteArray) : Fn Tryd.prog 31 [VI t, VI w, .v (.string d)] (.agg [VI (((⟨⟨t, w⟩, d⟩ : Copy).at_).time), VI (((⟨⟨t, w⟩, d⟩ : Copy).at_).who), .v (.string ((⟨⟨t, w⟩, d⟩ : Copy).data))]) := by
  refine fn_walkW F31_ok (of_decide_eq_true (by kernel_rfl)) ?_
  refine EL.sreg ?_
  refine OW.last 1 [0, 1, 2, 6] (x' := ⟨(adq131 t w d), [some ⟨3, [[VI 0, VI 0, .v (.string (⟨#[]⟩))]]⟩]⟩) (by kernel_rfl) (by kernel_rfl) ?_
  refine EL.sreg ?_
  refine OW.run 2 (x' := ⟨(8, VI w) :: (7, VI t) :: (adq131 t w d), [some ⟨3, [[VI 0, VI 0, .v (.string (⟨#[]⟩))]]⟩]⟩) (by kernel_rfl) ?_
  refine OW.fn (ar := [VI t, VI w]) (x' := ⟨(9, (adq132 t w)) :: (8, VI w) :: (7, VI t) :: (adq131 t w d), [some ⟨3, [[VI 0, VI 0, .v (.string (⟨#[]⟩))]]⟩]⟩) (by kernel_rfl) (by kernel_rfl) F48_call (lat_fn t w) (by kernel_rfl) (by kernel_rfl) ?_
  refine OW.last 3 [6] (x' := ⟨[(6, .ref 0 3 0 0)], [(adq133 t w d)]⟩) (by kernel_rfl) (by kernel_rfl) ?_
  refine EL.ret ?_
  refine ⟨.inr rfl, (adq134 t w d), by kernel_rfl, Ale.of_eq ?_⟩
  focus (rfl)
abbrev adq135 : LB := [some ⟨2, [[.own 1 1 0 3, VI 2]]⟩, some ⟨1, [[VI 1], [VI 1], [VI 1]]⟩]
theorem three_fn : Fn Tryd.prog 29 [] (.agg [.lst 1 (((⟨[1, 1, 1], 2⟩ : Voters).weights).map cI), VI ((⟨[1, 1, 1], 2⟩ : Voters).need)]) := by
  refine fn_walkW F29_ok (of_decide_eq_true (by kernel_rfl)) ?_
  refine EL.sreg ?_
  refine OW.last 1 [0] (x' := ⟨[(0, .ref 0 2 0 0)], [some ⟨2, [[.emp, VI 0]]⟩]⟩) (by kernel_rfl) (by kernel_rfl) ?_
  refine EL.sreg ?_
  refine OW.last 3 [0] (x' := ⟨[(0, .ref 0 2 0 0)], adq135⟩) (by kernel_rfl) (by kernel_rfl) ?_
  refine EL.ret ?_
  refine ⟨.inr rfl, .agg [.lst 1 [[VI 1], [VI 1], [VI 1]], VI 2], by kernel_rfl, Ale.of_eq ?_⟩
  focus (rfl)
abbrev adq136 (c : Copy) : OB := some ⟨3, [[VI c.at_.time, VI c.at_.who, .v (.string c.data)]]⟩
abbrev adq137 : OB := some ⟨6, [[VI 0, VI 0, VI 0, VI 0, VI 0, .v (.string (⟨#[]⟩))]]⟩
abbrev adq138 (op : Int) (node : Int) : LS := [(6, .ref 1 6 0 0), (5, .ref 0 3 0 0), (0, VI op), (1, VI node)]
abbrev adq139 (op : Int) (node : Int) (c : Copy) : OB := some ⟨6, [[VI 2, VI op, VI node, VI c.at_.time, VI c.at_.who, .v (.string c.data)]]⟩
abbrev adq140 (op : Int) (node : Int) (c : Copy) : AV := .agg [VI 2, VI op, VI node, VI c.at_.time, VI c.at_.who, .v (.string c.data)]
theorem answer_fn (op : Int) (node : Int) (c : Copy) : Fn Tryd.prog 30 [VI op, VI node, .agg [VI c.at_.time, VI c.at_.who, .v (.string c.data)]] (.agg [VI ((⟨2, op, node, c⟩ : Msg).kind), VI ((⟨2, op, node, c⟩ : Msg).op), VI ((⟨2, op, node, c⟩ : Msg).node), VI ((((⟨2, op, node, c⟩ : Msg).copy).at_).time), VI ((((⟨2, op, node, c⟩ : Msg).copy).at_).who), .v (.string (((⟨2, op, node, c⟩ : Msg).copy).data))]) := by
  refine fn_walkW F30_ok (of_decide_eq_true (by kernel_rfl)) ?_
  refine EL.sreg ?_
  refine OW.last 2 [0, 1, 5, 6] (x' := ⟨(adq138 op node), [(adq136 c), adq137]⟩) (by kernel_rfl) (by kernel_rfl) ?_
  refine EL.sreg ?_
  refine OW.last 5 [6] (x' := ⟨[(6, .ref 1 6 0 0)], [(adq136 c), (adq139 op node c)]⟩) (by kernel_rfl) (by kernel_rfl) ?_
  refine EL.ret ?_
  refine ⟨.inr rfl, (adq140 op node c), by kernel_rfl, Ale.of_eq ?_⟩
  focus (rfl)
abbrev adq141 : Voters := (⟨[1, 1, 1], 2⟩ : Voters)
abbrev adq142 : Ask := (beginA adq141 5 2 (⟨#[110, 101, 119]⟩)).1
abbrev adq143 : AV := .agg [VI adq142.op, VI adq142.kind, VI adq142.phase, .v (.string adq142.data), VI adq142.best.at_.time, VI adq142.best.at_.who, .v (.string adq142.best.data), .v (.int .u64 (adq142.heard.n : Int))]
abbrev adq144 : OB := some ⟨8, [[VI adq142.op, VI adq142.kind, VI adq142.phase, .v (.string adq142.data), VI adq142.best.at_.time, VI adq142.best.at_.who, .v (.string adq142.best.data), .v (.int .u64 (adq142.heard.n : Int))]]⟩
abbrev adq145 : LS := [(3, VI ((beginA adq141 5 2 (⟨#[110, 101, 119]⟩)).2.2)), (2, .lst 6 (((beginA adq141 5 2 (⟨#[110, 101, 119]⟩)).2.1).map Msg.cs)), (1, .ref 0 8 0 0)]
abbrev adq146 : LS := (29, .agg [.lst 1 (adq141.weights.map cI), VI adq141.need]) :: adq145
abbrev adq147 : Copy := (⟨⟨3, 2⟩, (⟨#[111, 108, 100]⟩)⟩ : Copy)
abbrev adq148 : AV := .agg [VI adq147.at_.time, VI adq147.at_.who, .v (.string adq147.data)]
abbrev adq149 : Msg := (⟨2, 5, 1, adq147⟩ : Msg)
abbrev adq150 : AV := .agg [VI adq149.kind, VI adq149.op, VI adq149.node, VI adq149.copy.at_.time, VI adq149.copy.at_.who, .v (.string adq149.copy.data)]
abbrev adq151 : Ask := (hearA adq141 adq142 adq149).1
abbrev adq152 : AV := .agg [VI adq151.op, VI adq151.kind, VI adq151.phase, .v (.string adq151.data), VI adq151.best.at_.time, VI adq151.best.at_.who, .v (.string adq151.best.data), .v (.int .u64 (adq151.heard.n : Int))]
abbrev adq153 : LS := (33, .tup [adq152, .lst 6 (((hearA adq141 adq142 adq149).2.1).map Msg.cs), VI ((hearA adq141 adq142 adq149).2.2)]) :: (32, adq150) :: (31, adq148) :: (30, adq143) :: adq146
abbrev adq154 : OB := some ⟨8, [[VI adq151.op, VI adq151.kind, VI adq151.phase, .v (.string adq151.data), VI adq151.best.at_.time, VI adq151.best.at_.who, .v (.string adq151.best.data), .v (.int .u64 (adq151.heard.n : Int))]]⟩
abbrev adq155 : LS := [(6, VI ((hearA adq141 adq142 adq149).2.2)), (5, .lst 6 (((hearA adq141 adq142 adq149).2.1).map Msg.cs)), (4, .ref 1 8 0 0), (3, VI ((beginA adq141 5 2 (⟨#[110, 101, 119]⟩)).2.2)), (2, .lst 6 (((beginA adq141 5 2 (⟨#[110, 101, 119]⟩)).2.1).map Msg.cs))]
abbrev adq156 : LS := (38, .agg [.lst 1 (adq141.weights.map cI), VI adq141.need]) :: adq155
abbrev adq157 : Copy := (⟨⟨9, 2⟩, (⟨#[120]⟩)⟩ : Copy)
abbrev adq158 : AV := .agg [VI adq157.at_.time, VI adq157.at_.who, .v (.string adq157.data)]
abbrev adq159 : Msg := (⟨2, 5, 1, adq157⟩ : Msg)
abbrev adq160 : AV := .agg [VI adq159.kind, VI adq159.op, VI adq159.node, VI adq159.copy.at_.time, VI adq159.copy.at_.who, .v (.string adq159.copy.data)]
abbrev adq161 : Ask := (hearA adq141 adq151 adq159).1
abbrev adq162 : AV := .agg [VI adq161.op, VI adq161.kind, VI adq161.phase, .v (.string adq161.data), VI adq161.best.at_.time, VI adq161.best.at_.who, .v (.string adq161.best.data), .v (.int .u64 (adq161.heard.n : Int))]
abbrev adq163 : LS := (42, .tup [adq162, .lst 6 (((hearA adq141 adq151 adq159).2.1).map Msg.cs), VI ((hearA adq141 adq151 adq159).2.2)]) :: (41, adq160) :: (40, adq158) :: (39, adq152) :: adq156
abbrev adq164 : OB := some ⟨8, [[VI adq161.op, VI adq161.kind, VI adq161.phase, .v (.string adq161.data), VI adq161.best.at_.time, VI adq161.best.at_.who, .v (.string adq161.best.data), .v (.int .u64 (adq161.heard.n : Int))]]⟩
abbrev adq165 : LS := (9, VI ((hearA adq141 adq151 adq159).2.2)) :: (7, .ref 2 8 0 0) :: adq155
abbrev adq166 : LS := (47, .agg [.lst 1 (adq141.weights.map cI), VI adq141.need]) :: adq165
abbrev adq167 : LS := (49, .agg [VI 0, VI 0, .v (.string (⟨#[]⟩))]) :: (48, adq152) :: adq166
abbrev adq168 : Msg := (⟨2, 5, 2, (⟨(⟨0, 0⟩ : Stamp), ⟨#[]⟩⟩ : Copy)⟩ : Msg)
abbrev adq169 : AV := .agg [VI adq168.kind, VI adq168.op, VI adq168.node, VI adq168.copy.at_.time, VI adq168.copy.at_.who, .v (.string adq168.copy.data)]
abbrev adq170 : Ask := (hearA adq141 adq151 adq168).1
abbrev adq171 : AV := .agg [VI adq170.op, VI adq170.kind, VI adq170.phase, .v (.string adq170.data), VI adq170.best.at_.time, VI adq170.best.at_.who, .v (.string adq170.best.data), .v (.int .u64 (adq170.heard.n : Int))]
abbrev adq172 : LS := (51, .tup [adq171, .lst 6 (((hearA adq141 adq151 adq168).2.1).map Msg.cs), VI ((hearA adq141 adq151 adq168).2.2)]) :: (50, adq169) :: adq167
abbrev adq173 : OB := some ⟨8, [[VI adq170.op, VI adq170.kind, VI adq170.phase, .v (.string adq170.data), VI adq170.best.at_.time, VI adq170.best.at_.who, .v (.string adq170.best.data), .v (.int .u64 (adq170.heard.n : Int))]]⟩
abbrev adq174 : LS := (12, VI ((hearA adq141 adq151 adq168).2.2)) :: (11, .lst 6 (((hearA adq141 adq151 adq168).2.1).map Msg.cs)) :: (10, .ref 3 8 0 0) :: adq165
abbrev adq175 : LS := (56, .agg [.lst 1 (adq141.weights.map cI), VI adq141.need]) :: adq174
abbrev adq176 : LS := (58, .agg [VI 4, VI 5, VI 0, VI 0, VI 0, .v (.string (⟨#[]⟩))]) :: (57, adq171) :: adq175
abbrev adq177 : Ask := (hearA adq141 adq170 (⟨4, 5, 0, (⟨(⟨0, 0⟩ : Stamp), ⟨#[]⟩⟩ : Copy)⟩ : Msg)).1
abbrev adq178 : AV := .agg [VI adq177.op, VI adq177.kind, VI adq177.phase, .v (.string adq177.data), VI adq177.best.at_.time, VI adq177.best.at_.who, .v (.string adq177.best.data), .v (.int .u64 (adq177.heard.n : Int))]
abbrev adq179 : LS := (59, .tup [adq178, .lst 6 (((hearA adq141 adq170 (⟨4, 5, 0, (⟨(⟨0, 0⟩ : Stamp), ⟨#[]⟩⟩ : Copy)⟩ : Msg)).2.1).map Msg.cs), VI ((hearA adq141 adq170 (⟨4, 5, 0, (⟨(⟨0, 0⟩ : Stamp), ⟨#[]⟩⟩ : Copy)⟩ : Msg)).2.2)]) :: adq176
abbrev adq180 : OB := some ⟨8, [[VI adq177.op, VI adq177.kind, VI adq177.phase, .v (.string adq177.data), VI adq177.best.at_.time, VI adq177.best.at_.who, .v (.string adq177.best.data), .v (.int .u64 (adq177.heard.n : Int))]]⟩
abbrev adq181 : LS := (15, VI ((hearA adq141 adq170 (⟨4, 5, 0, (⟨(⟨0, 0⟩ : Stamp), ⟨#[]⟩⟩ : Copy)⟩ : Msg)).2.2)) :: (13, .ref 4 8 0 0) :: adq174
abbrev adq182 : LS := (64, .agg [.lst 1 (adq141.weights.map cI), VI adq141.need]) :: adq181
abbrev adq183 : LS := (66, .agg [VI 4, VI 5, VI 2, VI 0, VI 0, .v (.string (⟨#[]⟩))]) :: (65, adq178) :: adq182
abbrev adq184 : Ask := (hearA adq141 adq177 (⟨4, 5, 2, (⟨(⟨0, 0⟩ : Stamp), ⟨#[]⟩⟩ : Copy)⟩ : Msg)).1
abbrev adq185 : AV := .agg [VI adq184.op, VI adq184.kind, VI adq184.phase, .v (.string adq184.data), VI adq184.best.at_.time, VI adq184.best.at_.who, .v (.string adq184.best.data), .v (.int .u64 (adq184.heard.n : Int))]
abbrev adq186 : LS := (67, .tup [adq185, .lst 6 (((hearA adq141 adq177 (⟨4, 5, 2, (⟨(⟨0, 0⟩ : Stamp), ⟨#[]⟩⟩ : Copy)⟩ : Msg)).2.1).map Msg.cs), VI ((hearA adq141 adq177 (⟨4, 5, 2, (⟨(⟨0, 0⟩ : Stamp), ⟨#[]⟩⟩ : Copy)⟩ : Msg)).2.2)]) :: adq183
abbrev adq187 : OB := some ⟨8, [[VI adq184.op, VI adq184.kind, VI adq184.phase, .v (.string adq184.data), VI adq184.best.at_.time, VI adq184.best.at_.who, .v (.string adq184.best.data), .v (.int .u64 (adq184.heard.n : Int))]]⟩
abbrev adq188 : LS := (18, VI ((hearA adq141 adq177 (⟨4, 5, 2, (⟨(⟨0, 0⟩ : Stamp), ⟨#[]⟩⟩ : Copy)⟩ : Msg)).2.2)) :: (16, .ref 5 8 0 0) :: adq181
abbrev adq189 : Copy := (⟨⟨1, 1⟩, (⟨#[97]⟩)⟩ : Copy)
abbrev adq190 : AV := .agg [VI adq189.at_.time, VI adq189.at_.who, .v (.string adq189.data)]
abbrev adq191 : Copy := (⟨⟨4, 5⟩, (⟨#[110, 101, 119]⟩)⟩ : Copy)
abbrev adq192 : AV := .agg [VI adq191.at_.time, VI adq191.at_.who, .v (.string adq191.data)]
abbrev adq193 : AV := .agg [VI 3, VI 5, VI 2, VI adq191.at_.time, VI adq191.at_.who, .v (.string adq191.data)]
abbrev adq194 : Copy := (serveA adq189 (⟨3, 5, 2, adq191⟩ : Msg)).1
abbrev adq195 : AV := .agg [VI adq194.at_.time, VI adq194.at_.who, .v (.string adq194.data)]
abbrev adq196 : LS := (75, .tup [adq195, .lst 6 (((serveA adq189 (⟨3, 5, 2, adq191⟩ : Msg)).2.1).map Msg.cs), VI ((serveA adq189 (⟨3, 5, 2, adq191⟩ : Msg)).2.2)]) :: (74, adq193) :: (73, adq192) :: (72, adq190) :: adq188
abbrev adq197 : OB := some ⟨3, [[VI adq194.at_.time, VI adq194.at_.who, .v (.string adq194.data)]]⟩
abbrev adq198 : LS := (21, VI ((serveA adq189 (⟨3, 5, 2, adq191⟩ : Msg)).2.2)) :: (20, .lst 6 (((serveA adq189 (⟨3, 5, 2, adq191⟩ : Msg)).2.1).map Msg.cs)) :: (19, .ref 6 3 0 0) :: adq188
abbrev adq199 : LS := (79, VI ((beginA adq141 5 2 (⟨#[110, 101, 119]⟩)).2.2)) :: adq198
abbrev adq200 : LS := (82, .lst 6 (((beginA adq141 5 2 (⟨#[110, 101, 119]⟩)).2.1).map Msg.cs)) :: (81, .v (.bool true)) :: (80, .v (.bool true)) :: adq199
abbrev adq201 : LS := (83, VI (List.length ((beginA adq141 5 2 (⟨#[110, 101, 119]⟩)).2.1) : Int)) :: adq200
abbrev adq202 : LS := (87, VI ((hearA adq141 adq142 adq149).2.2)) :: (86, .v (.bool true)) :: (85, .v (.bool true)) :: (84, .v (.bool true)) :: adq201
abbrev adq203 : LS := (91, .lst 6 (((hearA adq141 adq142 adq149).2.1).map Msg.cs)) :: (90, .v (.bool true)) :: (89, .v (.bool true)) :: (88, .v (.bool true)) :: adq202
abbrev adq204 : LS := (92, VI (List.length ((hearA adq141 adq142 adq149).2.1) : Int)) :: adq203
abbrev adq205 : LS := (96, VI ((hearA adq141 adq151 adq159).2.2)) :: (95, .v (.bool true)) :: (94, .v (.bool true)) :: (93, .v (.bool true)) :: adq204
abbrev adq206 : LS := (101, adq152) :: (100, adq162) :: (99, .v (.bool true)) :: (98, .v (.bool true)) :: (97, .v (.bool true)) :: adq205
abbrev adq207 : LS := (105, VI ((hearA adq141 adq151 adq168).2.2)) :: (104, .v (.bool true)) :: (103, .v (.bool true)) :: (102, .v (.bool true)) :: adq206
abbrev adq208 : AV := .agg [VI adq170.best.at_.time, VI adq170.best.at_.who, .v (.string adq170.best.data)]
abbrev adq209 : LS := (110, adq208) :: (109, .ref 3 8 0 4) :: (108, .v (.bool true)) :: (107, .v (.bool true)) :: (106, .v (.bool true)) :: adq207
abbrev adq210 : LS := (115, .lst 6 (((hearA adq141 adq151 adq168).2.1).map Msg.cs)) :: (114, .v (.bool true)) :: (113, .v (.bool true)) :: (112, .v (.bool true)) :: (111, adq192) :: adq209
abbrev adq211 : LS := (116, VI (List.length ((hearA adq141 adq151 adq168).2.1) : Int)) :: adq210
abbrev adq212 : Msg := List.getD ((hearA adq141 adq151 adq168).2.1) (Int.toNat 2) (⟨0, 0, 0, (⟨(⟨0, 0⟩ : Stamp), ⟨#[]⟩⟩ : Copy)⟩ : Msg)
abbrev adq213 : LS := (120, .lst 6 (((hearA adq141 adq151 adq168).2.1).map Msg.cs)) :: (119, .v (.bool true)) :: (118, .v (.bool true)) :: (117, .v (.bool true)) :: adq211
abbrev adq214 : LS := (121, .pim [VI adq212.kind, VI adq212.op, VI adq212.node, VI adq212.copy.at_.time, VI adq212.copy.at_.who, .v (.string adq212.copy.data)] 0) :: adq213
abbrev adq215 : AV := .agg [VI adq212.copy.at_.time, VI adq212.copy.at_.who, .v (.string adq212.copy.data)]
abbrev adq216 : LS := (125, adq208) :: (124, .ref 3 8 0 4) :: (123, adq215) :: (122, .pim [VI adq212.kind, VI adq212.op, VI adq212.node, VI adq212.copy.at_.time, VI adq212.copy.at_.who, .v (.string adq212.copy.data)] 3) :: adq214
abbrev adq217 : LS := (129, VI ((hearA adq141 adq170 (⟨4, 5, 0, (⟨(⟨0, 0⟩ : Stamp), ⟨#[]⟩⟩ : Copy)⟩ : Msg)).2.2)) :: (128, .v (.bool true)) :: (127, .v (.bool true)) :: (126, .v (.bool true)) :: adq216
abbrev adq218 : LS := (134, VI adq177.phase) :: (133, .ref 4 8 0 2) :: (132, .v (.bool true)) :: (131, .v (.bool true)) :: (130, .v (.bool true)) :: adq217
abbrev adq219 : LS := (138, VI ((hearA adq141 adq177 (⟨4, 5, 2, (⟨(⟨0, 0⟩ : Stamp), ⟨#[]⟩⟩ : Copy)⟩ : Msg)).2.2)) :: (137, .v (.bool true)) :: (136, .v (.bool true)) :: (135, .v (.bool true)) :: adq218
abbrev adq220 : LS := (143, VI adq184.phase) :: (142, .ref 5 8 0 2) :: (141, .v (.bool true)) :: (140, .v (.bool true)) :: (139, .v (.bool true)) :: adq219
abbrev adq221 : LS := (147, VI ((serveA adq189 (⟨3, 5, 2, adq191⟩ : Msg)).2.2)) :: (146, .v (.bool true)) :: (145, .v (.bool true)) :: (144, .v (.bool true)) :: adq220
abbrev adq222 : LS := (153, adq208) :: (152, .ref 3 8 0 4) :: (151, adq195) :: (150, .v (.bool true)) :: (149, .v (.bool true)) :: (148, .v (.bool true)) :: adq221
abbrev adq223 : LS := (157, .lst 6 (((serveA adq189 (⟨3, 5, 2, adq191⟩ : Msg)).2.1).map Msg.cs)) :: (156, .v (.bool true)) :: (155, .v (.bool true)) :: (154, .v (.bool true)) :: adq222
abbrev adq224 : LS := (158, VI (List.length ((serveA adq189 (⟨3, 5, 2, adq191⟩ : Msg)).2.1) : Int)) :: adq223
abbrev adq225 : Msg := List.getD ((serveA adq189 (⟨3, 5, 2, adq191⟩ : Msg)).2.1) (Int.toNat 0) (⟨0, 0, 0, (⟨(⟨0, 0⟩ : Stamp), ⟨#[]⟩⟩ : Copy)⟩ : Msg)
abbrev adq226 : LS := (162, .lst 6 (((serveA adq189 (⟨3, 5, 2, adq191⟩ : Msg)).2.1).map Msg.cs)) :: (161, .v (.bool true)) :: (160, .v (.bool true)) :: (159, .v (.bool true)) :: adq224
abbrev adq227 : LS := (163, .pim [VI adq225.kind, VI adq225.op, VI adq225.node, VI adq225.copy.at_.time, VI adq225.copy.at_.who, .v (.string adq225.copy.data)] 0) :: adq226
theorem begun_fn : Fn Tryd.prog 12 [] (.v (.bool true)) := by
  refine fn_walkW F12_ok (of_decide_eq_true (by kernel_rfl)) ?_
  refine EL.sreg ?_
  refine OW.last 1 [] (x' := ⟨[], []⟩) (by kernel_rfl) (by kernel_rfl) ?_
  refine EL.sreg ?_
  refine OW.fn (ar := []) (x' := ⟨[(23, .agg [.lst 1 (adq141.weights.map cI), VI adq141.need])], []⟩) (by kernel_rfl) (by kernel_rfl) F29_call (three_fn) (by kernel_rfl) (by kernel_rfl) ?_
  refine OW.fn (ar := [.agg [.lst 1 (adq141.weights.map cI), VI adq141.need], VI 5, VI 2, .v (.string (⟨#[110, 101, 119]⟩))]) (x' := ⟨[(24, .tup [adq143, .lst 6 (((beginA adq141 5 2 (⟨#[110, 101, 119]⟩)).2.1).map Msg.cs), VI ((beginA adq141 5 2 (⟨#[110, 101, 119]⟩)).2.2)]), (23, .agg [.lst 1 (adq141.weights.map cI), VI adq141.need])], []⟩) (by kernel_rfl) (by kernel_rfl) F9_call (begin_fn adq141 5 2 (⟨#[110, 101, 119]⟩) (by first | assumption | decide)) (by kernel_rfl) (by kernel_rfl) ?_
  refine OW.last 8 [1, 2, 3] (x' := ⟨adq145, [adq144]⟩) (by kernel_rfl) (by kernel_rfl) ?_
  refine EL.sdraw ?_
  refine DW.fn (ar := []) (x' := ⟨adq146, [adq144]⟩) (by kernel_rfl) (by kernel_rfl) F29_call (three_fn) (by kernel_rfl) (by kernel_rfl) ?_
  refine DW.run 1 (x' := ⟨(30, adq143) :: adq146, [adq144]⟩) (by kernel_rfl) ?_
  refine DW.fn (ar := [VI 3, VI 2, .v (.string (⟨#[111, 108, 100]⟩))]) (x' := ⟨(31, adq148) :: (30, adq143) :: adq146, [adq144]⟩) (by kernel_rfl) (by kernel_rfl) F31_call (lblock_fn 3 2 (⟨#[111, 108, 100]⟩)) (by kernel_rfl) (by kernel_rfl) ?_
  refine DW.fn (ar := [VI 5, VI 1, adq148]) (x' := ⟨(32, adq150) :: (31, adq148) :: (30, adq143) :: adq146, [adq144]⟩) (by kernel_rfl) (by kernel_rfl) F30_call (answer_fn 5 1 adq147) (by kernel_rfl) (by kernel_rfl) ?_
  refine DW.fn (ar := [.agg [.lst 1 (adq141.weights.map cI), VI adq141.need], adq143, adq150]) (x' := ⟨adq153, [adq144]⟩) (by kernel_rfl) (by kernel_rfl) F8_call (hear_fn adq141 adq142 adq149 (by first | assumption | decide)) (by kernel_rfl) (by kernel_rfl) ?_
  refine DW.last 8 [2, 3, 4, 5, 6] (x' := ⟨adq155, [adq144, adq154]⟩) (by kernel_rfl) (by kernel_rfl) ?_
  refine EL.sdraw ?_
  refine DW.fn (ar := []) (x' := ⟨adq156, [adq144, adq154]⟩) (by kernel_rfl) (by kernel_rfl) F29_call (three_fn) (by kernel_rfl) (by kernel_rfl) ?_
  refine DW.run 1 (x' := ⟨(39, adq152) :: adq156, [adq144, adq154]⟩) (by kernel_rfl) ?_
  refine DW.fn (ar := [VI 9, VI 2, .v (.string (⟨#[120]⟩))]) (x' := ⟨(40, adq158) :: (39, adq152) :: adq156, [adq144, adq154]⟩) (by kernel_rfl) (by kernel_rfl) F31_call (lblock_fn 9 2 (⟨#[120]⟩)) (by kernel_rfl) (by kernel_rfl) ?_
  refine DW.fn (ar := [VI 5, VI 1, adq158]) (x' := ⟨(41, adq160) :: (40, adq158) :: (39, adq152) :: adq156, [adq144, adq154]⟩) (by kernel_rfl) (by kernel_rfl) F30_call (answer_fn 5 1 adq157) (by kernel_rfl) (by kernel_rfl) ?_
  refine DW.fn (ar := [.agg [.lst 1 (adq141.weights.map cI), VI adq141.need], adq152, adq160]) (x' := ⟨adq163, [adq144, adq154]⟩) (by kernel_rfl) (by kernel_rfl) F8_call (hear_fn adq141 adq151 adq159 (by first | assumption | decide)) (by kernel_rfl) (by kernel_rfl) ?_
  refine DW.last 8 [2, 3, 4, 5, 6, 7, 9] (x' := ⟨adq165, [adq144, adq154, adq164]⟩) (by kernel_rfl) (by kernel_rfl) ?_
  refine EL.sdraw ?_
  refine DW.fn (ar := []) (x' := ⟨adq166, [adq144, adq154, adq164]⟩) (by kernel_rfl) (by kernel_rfl) F29_call (three_fn) (by kernel_rfl) (by kernel_rfl) ?_
  refine DW.run 2 (x' := ⟨adq167, [adq144, adq154, adq164]⟩) (by kernel_rfl) ?_
  refine DW.fn (ar := [VI 5, VI 2, .agg [VI 0, VI 0, .v (.string (⟨#[]⟩))]]) (x' := ⟨(50, adq169) :: adq167, [adq144, adq154, adq164]⟩) (by kernel_rfl) (by kernel_rfl) F30_call (answer_fn 5 2 (⟨(⟨0, 0⟩ : Stamp), ⟨#[]⟩⟩ : Copy)) (by kernel_rfl) (by kernel_rfl) ?_
  refine DW.fn (ar := [.agg [.lst 1 (adq141.weights.map cI), VI adq141.need], adq152, adq169]) (x' := ⟨adq172, [adq144, adq154, adq164]⟩) (by kernel_rfl) (by kernel_rfl) F8_call (hear_fn adq141 adq151 adq168 (by first | assumption | decide)) (by kernel_rfl) (by kernel_rfl) ?_
  refine DW.last 8 [2, 3, 4, 5, 6, 7, 9, 10, 11, 12] (x' := ⟨adq174, [adq144, adq154, adq164, adq173]⟩) (by kernel_rfl) (by kernel_rfl) ?_
  refine EL.sdraw ?_
  refine DW.fn (ar := []) (x' := ⟨adq175, [adq144, adq154, adq164, adq173]⟩) (by kernel_rfl) (by kernel_rfl) F29_call (three_fn) (by kernel_rfl) (by kernel_rfl) ?_
  refine DW.run 2 (x' := ⟨adq176, [adq144, adq154, adq164, adq173]⟩) (by kernel_rfl) ?_
  refine DW.fn (ar := [.agg [.lst 1 (adq141.weights.map cI), VI adq141.need], adq171, .agg [VI 4, VI 5, VI 0, VI 0, VI 0, .v (.string (⟨#[]⟩))]]) (x' := ⟨adq179, [adq144, adq154, adq164, adq173]⟩) (by kernel_rfl) (by kernel_rfl) F8_call (hear_fn adq141 adq170 (⟨4, 5, 0, (⟨(⟨0, 0⟩ : Stamp), ⟨#[]⟩⟩ : Copy)⟩ : Msg) (by first | assumption | decide)) (by kernel_rfl) (by kernel_rfl) ?_
  refine DW.last 8 [2, 3, 4, 5, 6, 7, 9, 10, 11, 12, 13, 15] (x' := ⟨adq181, [adq144, adq154, adq164, adq173, adq180]⟩) (by kernel_rfl) (by kernel_rfl) ?_
  refine EL.sdraw ?_
  refine DW.fn (ar := []) (x' := ⟨adq182, [adq144, adq154, adq164, adq173, adq180]⟩) (by kernel_rfl) (by kernel_rfl) F29_call (three_fn) (by kernel_rfl) (by kernel_rfl) ?_
  refine DW.run 2 (x' := ⟨adq183, [adq144, adq154, adq164, adq173, adq180]⟩) (by kernel_rfl) ?_
  refine DW.fn (ar := [.agg [.lst 1 (adq141.weights.map cI), VI adq141.need], adq178, .agg [VI 4, VI 5, VI 2, VI 0, VI 0, .v (.string (⟨#[]⟩))]]) (x' := ⟨adq186, [adq144, adq154, adq164, adq173, adq180]⟩) (by kernel_rfl) (by kernel_rfl) F8_call (hear_fn adq141 adq177 (⟨4, 5, 2, (⟨(⟨0, 0⟩ : Stamp), ⟨#[]⟩⟩ : Copy)⟩ : Msg) (by first | assumption | decide)) (by kernel_rfl) (by kernel_rfl) ?_
  refine DW.last 8 [2, 3, 4, 5, 6, 7, 9, 10, 11, 12, 13, 15, 16, 18] (x' := ⟨adq188, [adq144, adq154, adq164, adq173, adq180, adq187]⟩) (by kernel_rfl) (by kernel_rfl) ?_
  refine EL.sreg ?_
  refine OW.fn (ar := [VI 1, VI 1, .v (.string (⟨#[97]⟩))]) (x' := ⟨(72, adq190) :: adq188, [adq144, adq154, adq164, adq173, adq180, adq187]⟩) (by kernel_rfl) (by kernel_rfl) F31_call (lblock_fn 1 1 (⟨#[97]⟩)) (by kernel_rfl) (by kernel_rfl) ?_
  refine OW.fn (ar := [VI 4, VI 5, .v (.string (⟨#[110, 101, 119]⟩))]) (x' := ⟨(73, adq192) :: (72, adq190) :: adq188, [adq144, adq154, adq164, adq173, adq180, adq187]⟩) (by kernel_rfl) (by kernel_rfl) F31_call (lblock_fn 4 5 (⟨#[110, 101, 119]⟩)) (by kernel_rfl) (by kernel_rfl) ?_
  refine OW.run 1 (x' := ⟨(74, adq193) :: (73, adq192) :: (72, adq190) :: adq188, [adq144, adq154, adq164, adq173, adq180, adq187]⟩) (by kernel_rfl) ?_
  refine OW.fn (ar := [adq190, adq193]) (x' := ⟨adq196, [adq144, adq154, adq164, adq173, adq180, adq187]⟩) (by kernel_rfl) (by kernel_rfl) F16_call (serve_fn adq189 (⟨3, 5, 2, adq191⟩ : Msg)) (by kernel_rfl) (by kernel_rfl) ?_
  refine OW.last 8 [2, 3, 4, 5, 6, 7, 9, 10, 11, 12, 13, 15, 16, 18, 19, 20, 21] (x' := ⟨adq198, [adq144, adq154, adq164, adq173, adq180, adq187, adq197]⟩) (by kernel_rfl) (by kernel_rfl) ?_
  refine EL.sdraw ?_
  refine DW.run 3 (x' := ⟨(81, .v (.bool (((beginA adq141 5 2 (⟨#[110, 101, 119]⟩)).2.2) == 0))) :: (80, .v (.bool (((beginA adq141 5 2 (⟨#[110, 101, 119]⟩)).2.2) == 0))) :: adq199, [adq144, adq154, adq164, adq173, adq180, adq187, adq197]⟩) (by kernel_rfl) ?_
  have h1 : (((beginA adq141 5 2 (⟨#[110, 101, 119]⟩)).2.2) == 0) = true := by first | kernel_rfl | decide
  rw [h1]
  refine DW.run 1 (x' := ⟨adq200, [adq144, adq154, adq164, adq173, adq180, adq187, adq197]⟩) (by kernel_rfl) ?_
  refine DW.ope (v := VI (List.length ((beginA adq141 5 2 (⟨#[110, 101, 119]⟩)).2.1) : Int)) (u := []) (acc := []) (x' := ⟨adq201, [adq144, adq154, adq164, adq173, adq180, adq187, adq197]⟩) (by kernel_rfl) (opE_len Msg.cs ((beginA adq141 5 2 (⟨#[110, 101, 119]⟩)).2.1) (.s 82) 6 (by kernel_rfl) (by kernel_rfl) (.inl rfl)) (by kernel_rfl) ?_
  refine DW.run 3 (x' := ⟨(86, .v (.bool ((List.length ((beginA adq141 5 2 (⟨#[110, 101, 119]⟩)).2.1) : Int) == 3))) :: (85, .v (.bool ((List.length ((beginA adq141 5 2 (⟨#[110, 101, 119]⟩)).2.1) : Int) == 3))) :: (84, .v (.bool ((List.length ((beginA adq141 5 2 (⟨#[110, 101, 119]⟩)).2.1) : Int) == 3))) :: adq201, [adq144, adq154, adq164, adq173, adq180, adq187, adq197]⟩) (by kernel_rfl) ?_
  have h2 : ((List.length ((beginA adq141 5 2 (⟨#[110, 101, 119]⟩)).2.1) : Int) == 3) = true := by first | kernel_rfl | decide
  rw [h2]
  refine DW.run 4 (x' := ⟨(90, .v (.bool (((hearA adq141 adq142 adq149).2.2) == 0))) :: (89, .v (.bool (((hearA adq141 adq142 adq149).2.2) == 0))) :: (88, .v (.bool (((hearA adq141 adq142 adq149).2.2) == 0))) :: adq202, [adq144, adq154, adq164, adq173, adq180, adq187, adq197]⟩) (by kernel_rfl) ?_
  have h3 : (((hearA adq141 adq142 adq149).2.2) == 0) = true := by first | kernel_rfl | decide
  rw [h3]
  refine DW.run 1 (x' := ⟨adq203, [adq144, adq154, adq164, adq173, adq180, adq187, adq197]⟩) (by kernel_rfl) ?_
  refine DW.ope (v := VI (List.length ((hearA adq141 adq142 adq149).2.1) : Int)) (u := []) (acc := []) (x' := ⟨adq204, [adq144, adq154, adq164, adq173, adq180, adq187, adq197]⟩) (by kernel_rfl) (opE_len Msg.cs ((hearA adq141 adq142 adq149).2.1) (.s 91) 6 (by kernel_rfl) (by kernel_rfl) (.inl rfl)) (by kernel_rfl) ?_
  refine DW.run 3 (x' := ⟨(95, .v (.bool ((List.length ((hearA adq141 adq142 adq149).2.1) : Int) == 0))) :: (94, .v (.bool ((List.length ((hearA adq141 adq142 adq149).2.1) : Int) == 0))) :: (93, .v (.bool ((List.length ((hearA adq141 adq142 adq149).2.1) : Int) == 0))) :: adq204, [adq144, adq154, adq164, adq173, adq180, adq187, adq197]⟩) (by kernel_rfl) ?_
  have h4 : ((List.length ((hearA adq141 adq142 adq149).2.1) : Int) == 0) = true := by first | kernel_rfl | decide
  rw [h4]
  refine DW.run 4 (x' := ⟨(99, .v (.bool (((hearA adq141 adq151 adq159).2.2) == 0))) :: (98, .v (.bool (((hearA adq141 adq151 adq159).2.2) == 0))) :: (97, .v (.bool (((hearA adq141 adq151 adq159).2.2) == 0))) :: adq205, [adq144, adq154, adq164, adq173, adq180, adq187, adq197]⟩) (by kernel_rfl) ?_
  have h5 : (((hearA adq141 adq151 adq159).2.2) == 0) = true := by first | kernel_rfl | decide
  rw [h5]
  refine DW.run 5 (x' := ⟨(104, .v (.bool ((adq161.op == adq151.op) && ((adq161.kind == adq151.kind) && ((adq161.phase == adq151.phase) && (strEq adq161.data adq151.data && ((adq161.best.at_.time == adq151.best.at_.time) && ((adq161.best.at_.who == adq151.best.at_.who) && (strEq adq161.best.data adq151.best.data && (((adq161.heard.n : Int) == (adq151.heard.n : Int)) && true)))))))))) :: (103, .v (.bool ((adq161.op == adq151.op) && ((adq161.kind == adq151.kind) && ((adq161.phase == adq151.phase) && (strEq adq161.data adq151.data && ((adq161.best.at_.time == adq151.best.at_.time) && ((adq161.best.at_.who == adq151.best.at_.who) && (strEq adq161.best.data adq151.best.data && (((adq161.heard.n : Int) == (adq151.heard.n : Int)) && true)))))))))) :: (102, .v (.bool ((adq161.op == adq151.op) && ((adq161.kind == adq151.kind) && ((adq161.phase == adq151.phase) && (strEq adq161.data adq151.data && ((adq161.best.at_.time == adq151.best.at_.time) && ((adq161.best.at_.who == adq151.best.at_.who) && (strEq adq161.best.data adq151.best.data && (((adq161.heard.n : Int) == (adq151.heard.n : Int)) && true)))))))))) :: adq206, [adq144, adq154, adq164, adq173, adq180, adq187, adq197]⟩) (by kernel_rfl) ?_
  have h6 : ((adq161.op == adq151.op) && ((adq161.kind == adq151.kind) && ((adq161.phase == adq151.phase) && (strEq adq161.data adq151.data && ((adq161.best.at_.time == adq151.best.at_.time) && ((adq161.best.at_.who == adq151.best.at_.who) && (strEq adq161.best.data adq151.best.data && (((adq161.heard.n : Int) == (adq151.heard.n : Int)) && true)))))))) = true := by first | kernel_rfl | decide
  rw [h6]
  refine DW.run 4 (x' := ⟨(108, .v (.bool (((hearA adq141 adq151 adq168).2.2) == 0))) :: (107, .v (.bool (((hearA adq141 adq151 adq168).2.2) == 0))) :: (106, .v (.bool (((hearA adq141 adq151 adq168).2.2) == 0))) :: adq207, [adq144, adq154, adq164, adq173, adq180, adq187, adq197]⟩) (by kernel_rfl) ?_
  have h7 : (((hearA adq141 adq151 adq168).2.2) == 0) = true := by first | kernel_rfl | decide
  rw [h7]
  refine DW.run 2 (x' := ⟨adq209, [adq144, adq154, adq164, adq173, adq180, adq187, adq197]⟩) (by kernel_rfl) ?_
  refine DW.fn (ar := [VI 4, VI 5, .v (.string (⟨#[110, 101, 119]⟩))]) (x' := ⟨(111, adq192) :: adq209, [adq144, adq154, adq164, adq173, adq180, adq187, adq197]⟩) (by kernel_rfl) (by kernel_rfl) F31_call (lblock_fn 4 5 (⟨#[110, 101, 119]⟩)) (by kernel_rfl) (by kernel_rfl) ?_
  refine DW.run 3 (x' := ⟨(114, .v (.bool ((adq170.best.at_.time == adq191.at_.time) && ((adq170.best.at_.who == adq191.at_.who) && (strEq adq170.best.data adq191.data && true))))) :: (113, .v (.bool ((adq170.best.at_.time == adq191.at_.time) && ((adq170.best.at_.who == adq191.at_.who) && (strEq adq170.best.data adq191.data && true))))) :: (112, .v (.bool ((adq170.best.at_.time == adq191.at_.time) && ((adq170.best.at_.who == adq191.at_.who) && (strEq adq170.best.data adq191.data && true))))) :: (111, adq192) :: adq209, [adq144, adq154, adq164, adq173, adq180, adq187, adq197]⟩) (by kernel_rfl) ?_
  have h8 : ((adq170.best.at_.time == adq191.at_.time) && ((adq170.best.at_.who == adq191.at_.who) && (strEq adq170.best.data adq191.data && true))) = true := by first | kernel_rfl | decide
  rw [h8]
  refine DW.run 1 (x' := ⟨adq210, [adq144, adq154, adq164, adq173, adq180, adq187, adq197]⟩) (by kernel_rfl) ?_
  refine DW.ope (v := VI (List.length ((hearA adq141 adq151 adq168).2.1) : Int)) (u := []) (acc := []) (x' := ⟨adq211, [adq144, adq154, adq164, adq173, adq180, adq187, adq197]⟩) (by kernel_rfl) (opE_len Msg.cs ((hearA adq141 adq151 adq168).2.1) (.s 115) 6 (by kernel_rfl) (by kernel_rfl) (.inl rfl)) (by kernel_rfl) ?_
  refine DW.run 3 (x' := ⟨(119, .v (.bool ((List.length ((hearA adq141 adq151 adq168).2.1) : Int) == 3))) :: (118, .v (.bool ((List.length ((hearA adq141 adq151 adq168).2.1) : Int) == 3))) :: (117, .v (.bool ((List.length ((hearA adq141 adq151 adq168).2.1) : Int) == 3))) :: adq211, [adq144, adq154, adq164, adq173, adq180, adq187, adq197]⟩) (by kernel_rfl) ?_
  have h9 : ((List.length ((hearA adq141 adq151 adq168).2.1) : Int) == 3) = true := by first | kernel_rfl | decide
  rw [h9]
  refine DW.run 1 (x' := ⟨adq213, [adq144, adq154, adq164, adq173, adq180, adq187, adq197]⟩) (by kernel_rfl) ?_
  have hq11 : ((hearA adq141 adq151 adq168).2.1)[(2 : Int).toNat]? = some adq212 := by kernel_rfl
  refine DW.ope (v := .pim [VI adq212.kind, VI adq212.op, VI adq212.node, VI adq212.copy.at_.time, VI adq212.copy.at_.who, .v (.string adq212.copy.data)] 0) (u := []) (acc := []) (x' := ⟨adq214, [adq144, adq154, adq164, adq173, adq180, adq187, adq197]⟩) (by kernel_rfl) (opE_iad Msg.cs ((hearA adq141 adq151 adq168).2.1) (.s 120) (.c (VI 2)) 6 .i64 2 adq212 (by kernel_rfl) (by kernel_rfl) (.inl rfl) rfl (by first | omega | exact of_decide_eq_true (by kernel_rfl)) hq11) (by kernel_rfl) ?_
  refine DW.run 7 (x' := ⟨(128, .v (.bool ((adq212.copy.at_.time == adq170.best.at_.time) && ((adq212.copy.at_.who == adq170.best.at_.who) && (strEq adq212.copy.data adq170.best.data && true))))) :: (127, .v (.bool ((adq212.copy.at_.time == adq170.best.at_.time) && ((adq212.copy.at_.who == adq170.best.at_.who) && (strEq adq212.copy.data adq170.best.data && true))))) :: (126, .v (.bool ((adq212.copy.at_.time == adq170.best.at_.time) && ((adq212.copy.at_.who == adq170.best.at_.who) && (strEq adq212.copy.data adq170.best.data && true))))) :: adq216, [adq144, adq154, adq164, adq173, adq180, adq187, adq197]⟩) (by kernel_rfl) ?_
  have h12 : ((adq212.copy.at_.time == adq170.best.at_.time) && ((adq212.copy.at_.who == adq170.best.at_.who) && (strEq adq212.copy.data adq170.best.data && true))) = true := by first | kernel_rfl | decide
  rw [h12]
  refine DW.run 4 (x' := ⟨(132, .v (.bool (((hearA adq141 adq170 (⟨4, 5, 0, (⟨(⟨0, 0⟩ : Stamp), ⟨#[]⟩⟩ : Copy)⟩ : Msg)).2.2) == 0))) :: (131, .v (.bool (((hearA adq141 adq170 (⟨4, 5, 0, (⟨(⟨0, 0⟩ : Stamp), ⟨#[]⟩⟩ : Copy)⟩ : Msg)).2.2) == 0))) :: (130, .v (.bool (((hearA adq141 adq170 (⟨4, 5, 0, (⟨(⟨0, 0⟩ : Stamp), ⟨#[]⟩⟩ : Copy)⟩ : Msg)).2.2) == 0))) :: adq217, [adq144, adq154, adq164, adq173, adq180, adq187, adq197]⟩) (by kernel_rfl) ?_
  have h13 : (((hearA adq141 adq170 (⟨4, 5, 0, (⟨(⟨0, 0⟩ : Stamp), ⟨#[]⟩⟩ : Copy)⟩ : Msg)).2.2) == 0) = true := by first | kernel_rfl | decide
  rw [h13]
  refine DW.run 5 (x' := ⟨(137, .v (.bool (adq177.phase == 2))) :: (136, .v (.bool (adq177.phase == 2))) :: (135, .v (.bool (adq177.phase == 2))) :: adq218, [adq144, adq154, adq164, adq173, adq180, adq187, adq197]⟩) (by kernel_rfl) ?_
  have h14 : (adq177.phase == 2) = true := by first | kernel_rfl | decide
  rw [h14]
  refine DW.run 4 (x' := ⟨(141, .v (.bool (((hearA adq141 adq177 (⟨4, 5, 2, (⟨(⟨0, 0⟩ : Stamp), ⟨#[]⟩⟩ : Copy)⟩ : Msg)).2.2) == 0))) :: (140, .v (.bool (((hearA adq141 adq177 (⟨4, 5, 2, (⟨(⟨0, 0⟩ : Stamp), ⟨#[]⟩⟩ : Copy)⟩ : Msg)).2.2) == 0))) :: (139, .v (.bool (((hearA adq141 adq177 (⟨4, 5, 2, (⟨(⟨0, 0⟩ : Stamp), ⟨#[]⟩⟩ : Copy)⟩ : Msg)).2.2) == 0))) :: adq219, [adq144, adq154, adq164, adq173, adq180, adq187, adq197]⟩) (by kernel_rfl) ?_
  have h15 : (((hearA adq141 adq177 (⟨4, 5, 2, (⟨(⟨0, 0⟩ : Stamp), ⟨#[]⟩⟩ : Copy)⟩ : Msg)).2.2) == 0) = true := by first | kernel_rfl | decide
  rw [h15]
  refine DW.run 5 (x' := ⟨(146, .v (.bool (adq184.phase == 3))) :: (145, .v (.bool (adq184.phase == 3))) :: (144, .v (.bool (adq184.phase == 3))) :: adq220, [adq144, adq154, adq164, adq173, adq180, adq187, adq197]⟩) (by kernel_rfl) ?_
  have h16 : (adq184.phase == 3) = true := by first | kernel_rfl | decide
  rw [h16]
  refine DW.run 4 (x' := ⟨(150, .v (.bool (((serveA adq189 (⟨3, 5, 2, adq191⟩ : Msg)).2.2) == 0))) :: (149, .v (.bool (((serveA adq189 (⟨3, 5, 2, adq191⟩ : Msg)).2.2) == 0))) :: (148, .v (.bool (((serveA adq189 (⟨3, 5, 2, adq191⟩ : Msg)).2.2) == 0))) :: adq221, [adq144, adq154, adq164, adq173, adq180, adq187, adq197]⟩) (by kernel_rfl) ?_
  have h17 : (((serveA adq189 (⟨3, 5, 2, adq191⟩ : Msg)).2.2) == 0) = true := by first | kernel_rfl | decide
  rw [h17]
  refine DW.run 6 (x' := ⟨(156, .v (.bool ((adq194.at_.time == adq170.best.at_.time) && ((adq194.at_.who == adq170.best.at_.who) && (strEq adq194.data adq170.best.data && true))))) :: (155, .v (.bool ((adq194.at_.time == adq170.best.at_.time) && ((adq194.at_.who == adq170.best.at_.who) && (strEq adq194.data adq170.best.data && true))))) :: (154, .v (.bool ((adq194.at_.time == adq170.best.at_.time) && ((adq194.at_.who == adq170.best.at_.who) && (strEq adq194.data adq170.best.data && true))))) :: adq222, [adq144, adq154, adq164, adq173, adq180, adq187, adq197]⟩) (by kernel_rfl) ?_
  have h18 : ((adq194.at_.time == adq170.best.at_.time) && ((adq194.at_.who == adq170.best.at_.who) && (strEq adq194.data adq170.best.data && true))) = true := by first | kernel_rfl | decide
  rw [h18]
  refine DW.run 1 (x' := ⟨adq223, [adq144, adq154, adq164, adq173, adq180, adq187, adq197]⟩) (by kernel_rfl) ?_
  refine DW.ope (v := VI (List.length ((serveA adq189 (⟨3, 5, 2, adq191⟩ : Msg)).2.1) : Int)) (u := []) (acc := []) (x' := ⟨adq224, [adq144, adq154, adq164, adq173, adq180, adq187, adq197]⟩) (by kernel_rfl) (opE_len Msg.cs ((serveA adq189 (⟨3, 5, 2, adq191⟩ : Msg)).2.1) (.s 157) 6 (by kernel_rfl) (by kernel_rfl) (.inl rfl)) (by kernel_rfl) ?_
  refine DW.run 3 (x' := ⟨(161, .v (.bool ((List.length ((serveA adq189 (⟨3, 5, 2, adq191⟩ : Msg)).2.1) : Int) == 1))) :: (160, .v (.bool ((List.length ((serveA adq189 (⟨3, 5, 2, adq191⟩ : Msg)).2.1) : Int) == 1))) :: (159, .v (.bool ((List.length ((serveA adq189 (⟨3, 5, 2, adq191⟩ : Msg)).2.1) : Int) == 1))) :: adq224, [adq144, adq154, adq164, adq173, adq180, adq187, adq197]⟩) (by kernel_rfl) ?_
  have h19 : ((List.length ((serveA adq189 (⟨3, 5, 2, adq191⟩ : Msg)).2.1) : Int) == 1) = true := by first | kernel_rfl | decide
  rw [h19]
  refine DW.run 1 (x' := ⟨adq226, [adq144, adq154, adq164, adq173, adq180, adq187, adq197]⟩) (by kernel_rfl) ?_
  have hq21 : ((serveA adq189 (⟨3, 5, 2, adq191⟩ : Msg)).2.1)[(0 : Int).toNat]? = some adq225 := by kernel_rfl
  refine DW.ope (v := .pim [VI adq225.kind, VI adq225.op, VI adq225.node, VI adq225.copy.at_.time, VI adq225.copy.at_.who, .v (.string adq225.copy.data)] 0) (u := []) (acc := []) (x' := ⟨adq227, [adq144, adq154, adq164, adq173, adq180, adq187, adq197]⟩) (by kernel_rfl) (opE_iad Msg.cs ((serveA adq189 (⟨3, 5, 2, adq191⟩ : Msg)).2.1) (.s 162) (.c (VI 0)) 6 .i64 0 adq225 (by kernel_rfl) (by kernel_rfl) (.inl rfl) rfl (by first | omega | exact of_decide_eq_true (by kernel_rfl)) hq21) (by kernel_rfl) ?_
  refine DW.last 5 [0] (x' := ⟨[(0, .v (.bool ((adq225.kind == 4) && ((adq225.op == 5) && ((adq225.node == 2) && ((adq225.copy.at_.time == 0) && ((adq225.copy.at_.who == 0) && (strEq adq225.copy.data (⟨#[]⟩) && true))))))))], [adq144, adq154, adq164, adq173, adq180, adq187, adq197]⟩) (by kernel_rfl) (by kernel_rfl) ?_
  refine EL.ret ?_
  refine ⟨.inr rfl, .v (.bool ((adq225.kind == 4) && ((adq225.op == 5) && ((adq225.node == 2) && ((adq225.copy.at_.time == 0) && ((adq225.copy.at_.who == 0) && (strEq adq225.copy.data (⟨#[]⟩) && true))))))), by kernel_rfl, Ale.of_eq ?_⟩
  focus (rfl)
end Go.Proofs.YtgepadjkegfokaaDoor
