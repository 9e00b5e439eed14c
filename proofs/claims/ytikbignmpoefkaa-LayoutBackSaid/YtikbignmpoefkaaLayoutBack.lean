/- Piece and Node are inverse; no node has two pieces of a stripe: the law LayoutBack returns true. No condition. -/
import Derived.Test.YtikbignmpoefkaaLayoutTurns
import Derived.Outline
namespace Go.Proofs.Ytikbignmpoefkaa
open Go.ChangeShapes Go.WideShapes Go.ChangeAt Go.RowKit
open Go.ChangeMaps (open_string shut_string)
theorem raw_place {l : Layout} (h : l.checkE = 0) (s p : Int) (hp : 0 ≤ p ∧ p ≤ l.data + l.more - 1) : l.place s (l.raw s p) = p := by
  have hg := Layout.good h
  obtain ⟨⟨g1, g2⟩, ⟨g3, g4⟩, ⟨g5, g6⟩, g7, _⟩ := hg
  exact (Layout.raw_iff s p (l.raw s p) ⟨hp.1, by omega⟩ (Layout.raw_lt h s p)).1 rfl
theorem back_node {l : Layout} {s a b : Int} (h1 : l.nodeE s a = 0) (h2 : l.nodeE s b = 0) : (l.nodeN s a == l.nodeN s b) = (a == b) := by
  obtain ⟨h0, e1, _, p1⟩ := node_ok h1
  obtain ⟨_, e2, _, p2⟩ := node_ok h2
  rw [e1, e2, Bool.eq_iff_iff, beq_iff_eq, beq_iff_eq]
  constructor
  · intro h
    rw [← raw_place h0 s a p1, h, raw_place h0 s b p2]
  · rintro rfl; rfl
theorem back_piece {l : Layout} {s a : Int} (h : l.nodeE s a = 0) : l.pieceN s (l.nodeN s a) = a ∧ l.pieceB s (l.nodeN s a) = true ∧ l.pieceE s (l.nodeN s a) = 0 := by
  obtain ⟨h0, e1, hs, p1⟩ := node_ok h
  have hr := Layout.raw_lt h0 s a
  have hpl := raw_place h0 s a p1
  rw [e1]
  have hk : l.okPiece s (l.raw s a) = true := by rw [Layout.okPiece, wi_yes hs, wi_yes ⟨hr.1, by omega⟩]; rfl
  have hh : l.has s (l.raw s a) = true := by rw [Layout.has, hpl]; exact decide_eq_true (by omega)
  have hb : l.pieceB s (l.raw s a) = true := by simp [Layout.pieceB, h0, hk, hh]
  refine ⟨by rw [Layout.pieceN, if_pos hb, hpl], hb, by simp [Layout.pieceE, h0, hk]⟩
theorem back_again {l : Layout} {s n : Int} (_h : l.pieceE s n = 0) (hb : l.pieceB s n = true) : l.nodeE s (l.pieceN s n) = 0 ∧ l.nodeN s (l.pieceN s n) = n := by
  have hb2 := hb
  simp only [Layout.pieceB, Bool.and_eq_true, decide_eq_true_eq] at hb2
  obtain ⟨⟨h0, hk⟩, hh⟩ := hb2
  have hk2 := hk
  simp only [Layout.okPiece, Bool.and_eq_true] at hk2
  have hs := wi_bd hk2.1
  have hn := wi_bd hk2.2
  have hpl := Layout.place_lt h0 s n
  have hlt : l.place s n < l.data + l.more := of_decide_eq_true hh
  have hok : l.okNode s (l.place s n) = true := by rw [Layout.okNode, wi_yes hs, wi_yes ⟨hpl.1, by omega⟩]; rfl
  rw [Layout.pieceN, if_pos hb]
  refine ⟨by simp [Layout.nodeE, h0, hok], ?_⟩
  rw [Layout.nodeN, if_pos ⟨h0, hok⟩]
  exact (Layout.raw_iff s _ n hpl ⟨hn.1, by omega⟩).2 rfl
set_option maxRecDepth 100000 in
set_option maxHeartbeats 4000000 in
theorem LayoutBack_walk (l : Layout) (_ : l.ok) (s : Int) (_ws : (Lit.int .i64 s).wf = true) (a : Int) (_wa : (Lit.int .i64 a).wf = true) (b : Int) (_wb : (Lit.int .i64 b).wf = true) (nd : Int) (_wn : (Lit.int .i64 nd).wf = true) (w : World) :
    Calls Try.prog 4 #[l.v, I s, I a, I b, I nd] w fun e w' => e = .returned (.bool true) ∧ Below w.heap.size w w' := by
  have kN : ((l.pieceE s nd != 0) = true ∧ (l.pieceN s nd == 0) = true) ∨ ((l.pieceE s nd != 0) = false ∧ (l.pieceE s nd == 0) = true ∧ l.pieceB s nd = false ∧ (l.pieceN s nd == 0) = true) ∨ ((l.pieceE s nd != 0) = false ∧ l.pieceB s nd = true ∧ (l.nodeE s (l.pieceN s nd) == 0) = true ∧ (l.nodeN s (l.pieceN s nd) == nd) = true) := by
    by_cases h : l.pieceE s nd = 0
    · cases hb : l.pieceB s nd
      · exact .inr (.inl ⟨by simpa using h, by simpa using h, rfl, by rw [Layout.pieceN, hb]; rfl⟩)
      · obtain ⟨k1, k2⟩ := back_again h hb
        exact .inr (.inr ⟨by simpa using h, rfl, by simpa using k1, by simpa using k2⟩)
    · refine .inl ⟨by simpa using h, ?_⟩
      have hb : l.pieceB s nd = false := by
        cases hb : l.pieceB s nd
        · rfl
        · simp only [Layout.pieceB, Bool.and_eq_true, decide_eq_true_eq] at hb
          exact absurd (by simp [Layout.pieceE, hb.1.1, hb.1.2]) h
      rw [Layout.pieceN, hb]; rfl
  have kA : ((l.nodeE s a == 0) = false) ∨ ((l.nodeE s a == 0) = true ∧ (l.nodeE s b == 0) = false ∧ (l.pieceN s (l.nodeN s a) != a) = false ∧ l.pieceB s (l.nodeN s a) = true ∧ (l.pieceE s (l.nodeN s a) != 0) = false) ∨ ((l.nodeE s a == 0) = true ∧ (l.nodeE s b == 0) = true ∧ (l.nodeN s a == l.nodeN s b) = (a == b) ∧ (l.pieceN s (l.nodeN s a) != a) = false ∧ l.pieceB s (l.nodeN s a) = true ∧ (l.pieceE s (l.nodeN s a) != 0) = false) := by
    by_cases h : l.nodeE s a = 0
    · obtain ⟨p1, p2, p3⟩ := back_piece h
      by_cases h2 : l.nodeE s b = 0
      · exact .inr (.inr ⟨by simpa using h, by simpa using h2, back_node h h2, by simpa using p1, p2, by simpa using p3⟩)
      · exact .inr (.inl ⟨by simpa using h, by simpa using h2, by simpa using p1, p2, by simpa using p3⟩)
    · exact .inl (by simpa using h)
  rcases kA with a1 | ⟨a1, a2, a3, a4, a5⟩ | ⟨a1, a2, a6, a3, a4, a5⟩
  all_goals rcases kN with ⟨n1, n2⟩ | ⟨n1, n2, n3, n4⟩ | ⟨n1, n2, n3, n4⟩
  all_goals
    go_enter Try.func4, Try.ntmps4
    go_wp2_with (first
      | (go_at_call 8; (with_reducible refine (node_any l _ _ _).mono ?_); rintro e w1 ⟨rfl, b1⟩; ((try clear c0 f0); first | (replace b0 := bt b0 b1) | (replace b0 := bt (ba b0 _) b1) | (replace b0 := bt (ba (ba b0 _) _) b1) | (replace b0 := bt (bdr b0) b1) | (have b0 := b1)); (try replace hr := GoT.step hr b1); (try replace hs := GoT.step hs b1); (try replace HR := Lib.hid (HR.out.of_block (b1.block _ HR.out.lt))); clear b1; obtain ⟨c0, f0⟩ := bcell b0)
      | (go_at_call 9; (with_reducible refine (piece_any l _ _ _).mono ?_); rintro e w1 ⟨rfl, b1⟩; ((try clear c0 f0); first | (replace b0 := bt b0 b1) | (replace b0 := bt (ba b0 _) b1) | (replace b0 := bt (ba (ba b0 _) _) b1) | (replace b0 := bt (bdr b0) b1) | (have b0 := b1)); (try replace hr := GoT.step hr b1); (try replace hs := GoT.step hs b1); (try replace HR := Lib.hid (HR.out.of_block (b1.block _ HR.out.lt))); clear b1; obtain ⟨c0, f0⟩ := bcell b0)
      | (go_at_call 16; (with_reducible refine (begun_any _).mono ?_); rintro e w1 ⟨rfl, b1⟩; ((try clear c0 f0); first | (replace b0 := bt b0 b1) | (replace b0 := bt (ba b0 _) b1) | (replace b0 := bt (ba (ba b0 _) _) b1) | (replace b0 := bt (bdr b0) b1) | (have b0 := b1)); (try replace hr := GoT.step hr b1); (try replace hs := GoT.step hs b1); (try replace HR := Lib.hid (HR.out.of_block (b1.block _ HR.out.lt))); clear b1; obtain ⟨c0, f0⟩ := bcell b0))
    go_ret
    exact ⟨by simp, by (repeat' (first | exact Below.refl _ _ | assumption | (refine ba ?_ _) | (refine bdr ?_) | (refine bset ?_ _ ?_ _) | (refine bt ?_ (by assumption)) | (simp; done) | (simp; omega)))⟩
theorem LayoutBack_own : ownKnob Try.prog.godebug = none := by kernel_rfl
theorem LayoutBack_laidOut : laidOutB Try.prog = true := by kernel_rfl
set_option maxRecDepth 100000 in
set_option linter.unusedVariables false in
theorem LayoutBack_lifted (os : Os) (started : os.Started) (H : Type) (enc : TypeId × Value → H) :
    ReturnsInHanded {} Try.checked os 4 .any (Rows.layoutBackSpec.pre6 enc Try.prog Try.f4 Rows.layoutBackRow.domain false) (Rows.layoutBackSpec.post enc Try.prog Try.f4 false true false false) := by
  refine returnsInHanded_of_change (C := Try.checked) LayoutBack_own started (by kernel_rfl) Try.func4
    (ChangeSpec.witness6 (enc := enc) (C := Try.checked) false ⟨#[], #[.agg #[.int .i64 0, .int .i64 0, .int .i64 0, .int .i64 0], .int .i64 0, .int .i64 0, .int .i64 0, .int .i64 0], []⟩ 8 (by kernel_rfl) (by kernel_rfl) (by kernel_rfl) (by kernel_rfl)) ?_
  intro W base args ds gs before hval0 hW hcnd _
  have hval : ∀ (j : Nat) t v, Try.f4.params[j]? = some t → args[j]? = some v → Value.okWide Try.prog W .any base t v := hval0
  have hW' := hW
  obtain ⟨p, q, hA0, hV, rfl, hfz, hnd⟩ := hW
  have hA : DataW.TrodAll enc Try.prog W 0 (fun _ => true) true Try.f4.params.toList args.toList ds p := hA0
  rw [Try.params4] at hA hval
  obtain ⟨v0, vs0, d0, ds0, p0, q0, hargs, rfl, rfl, h0, r0⟩ := trodAll_cons hA
  obtain ⟨v1, vs1, d1, ds1, p1, q1, rfl, rfl, rfl, h1, r1⟩ := trodAll_cons r0
  obtain ⟨v2, vs2, d2, ds2, p2, q2, rfl, rfl, rfl, h2, r2⟩ := trodAll_cons r1
  obtain ⟨v3, vs3, d3, ds3, p3, q3, rfl, rfl, rfl, h3, r3⟩ := trodAll_cons r2
  obtain ⟨v4, vs4, d4, ds4, p4, q4, rfl, rfl, rfl, h4, r4⟩ := trodAll_cons r3
  obtain ⟨rfl, rfl, rfl⟩ := trodAll_nil r4
  obtain rfl : args = #[v0, v1, v2, v3, v4] := by cases args; simp_all
  obtain ⟨rfl, rfl⟩ := trodVars_none hV
  have k0 := h0
  have lt0 : ∀ x ∈ p0, x.block < W.heap.size := by obtain ⟨m, hm⟩ := k0; exact DataW.trod_lt m _ _ _ hm
  obtain ⟨x0, cs0, rfl, w0⟩ := open_agg opens_Layout Try.underlying23 (hval 0 23 v0 rfl rfl) h0
  obtain ⟨rfl, ok0⟩ := Layout.flat w0
  have k1 := h1
  have lt1 : ∀ x ∈ p1, x.block < W.heap.size := by obtain ⟨m, hm⟩ := k1; exact DataW.trod_lt m _ _ _ hm
  obtain ⟨a1, rfl, e1, e1', w1⟩ := open_int Try.underlying3 (hval 1 3 v1 rfl rfl) h1
  have k2 := h2
  have lt2 : ∀ x ∈ p2, x.block < W.heap.size := by obtain ⟨m, hm⟩ := k2; exact DataW.trod_lt m _ _ _ hm
  obtain ⟨a2, rfl, e2, e2', w2⟩ := open_int Try.underlying3 (hval 2 3 v2 rfl rfl) h2
  have k3 := h3
  have lt3 : ∀ x ∈ p3, x.block < W.heap.size := by obtain ⟨m, hm⟩ := k3; exact DataW.trod_lt m _ _ _ hm
  obtain ⟨a3, rfl, e3, e3', w3⟩ := open_int Try.underlying3 (hval 3 3 v3 rfl rfl) h3
  have k4 := h4
  have lt4 : ∀ x ∈ p4, x.block < W.heap.size := by obtain ⟨m, hm⟩ := k4; exact DataW.trod_lt m _ _ _ hm
  obtain ⟨a4, rfl, e4, e4', w4⟩ := open_int Try.underlying3 (hval 4 3 v4 rfl rfl) h4
  clear hA0 hval0
  refine (LayoutBack_walk x0 ok0 a1 w1 a2 w2 a3 w3 a4 w4 W).mono fun e W' ⟨he, bel⟩ => ?_
  subst he
  exact ⟨_, rfl, _, _, _, [], _, [], hW', trodAll_mk1 (shut_bool Try.underlying4 _), (trodAll_cons_mk (Below.trod LayoutBack_laidOut (by kernel_rfl) (of_decide_eq_true (by kernel_rfl)) k0 bel lt0) (trodAll_cons_mk (Below.trod LayoutBack_laidOut (by kernel_rfl) (of_decide_eq_true (by kernel_rfl)) k1 bel lt1) (trodAll_cons_mk (Below.trod LayoutBack_laidOut (by kernel_rfl) (of_decide_eq_true (by kernel_rfl)) k2 bel lt2) (trodAll_cons_mk (Below.trod LayoutBack_laidOut (by kernel_rfl) (of_decide_eq_true (by kernel_rfl)) k3 bel lt3) (trodAll_cons_mk (Below.trod LayoutBack_laidOut (by kernel_rfl) (of_decide_eq_true (by kernel_rfl)) k4 bel lt4) trodAll_mk0))))), rfl, bel.frame _, fun h => by cases h⟩
theorem LayoutBack_closed : joinedFacts Try.prog 4 Try.f4 Rows.layoutBackSpec Rows.layoutBackRow = true := by
  unfold joinedFacts
  repeat' (with_reducible refine and_tt ?_ ?_)
  all_goals as_aux_lemma => kernel_rfl
theorem LayoutBack_over : Rows.layoutBackRow.holds Try.pinned (OpenSpec.ofChange Rows.layoutBackSpec) :=
  OpenClaim.holds_of_wide 4 Try.f4 rfl rfl rfl rfl rfl rfl rfl ⟨rfl, rfl, rfl, rfl, rfl⟩ rfl rfl rfl rfl rfl (by as_aux_lemma => kernel_rfl) Try.func4 LayoutBack_closed
    (of_decide_eq_true (by as_aux_lemma => kernel_rfl)) (by unfold Func.isWrapper; rw [if_neg (of_decide_eq_false (by as_aux_lemma => kernel_rfl))]; exact ⟨rfl, rfl⟩)
    (fun os started H enc _ => LayoutBack_lifted os started H enc)
theorem LayoutBack_holds : Rows.LayoutBackSaid := LayoutBack_over
end Go.Proofs.Ytikbignmpoefkaa
