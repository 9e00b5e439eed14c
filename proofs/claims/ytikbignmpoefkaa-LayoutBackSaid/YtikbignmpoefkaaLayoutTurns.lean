/- Incrementing Turn shifts the layout by one stripe: the law LayoutTurns returns true. No condition. -/
import Derived.Test.YtikbignmpoefkaaLayoutB
import Derived.Outline
namespace Go.Proofs.Ytikbignmpoefkaa
open Go.ChangeShapes Go.WideShapes Go.ChangeAt Go.RowKit
open Go.ChangeMaps (open_string shut_string)
theorem node_ok {l : Layout} {s p : Int} (h : l.nodeE s p = 0) : l.checkE = 0 ∧ l.nodeN s p = l.raw s p ∧ (0 ≤ s ∧ s ≤ 63) ∧ 0 ≤ p ∧ p ≤ l.data + l.more - 1 := by
  unfold Layout.nodeE at h
  split at h
  · rename_i h0
    split at h
    · rename_i h1
      have h2 := h1
      unfold Layout.okNode at h2
      rw [Bool.and_eq_true] at h2
      exact ⟨h0, by simp [Layout.nodeN, h0, h1], wi_bd h2.1, wi_bd h2.2⟩
    · simp at h
  · rename_i h0; exact absurd h h0
set_option maxRecDepth 100000 in
set_option maxHeartbeats 1600000 in
theorem LayoutTurns_walk (l : Layout) (_ : l.ok) (s : Int) (_ws : (Lit.int .i64 s).wf = true) (p : Int) (_wp : (Lit.int .i64 p).wf = true) (w : World) :
    Calls Try.prog 7 #[l.v, I s, I p] w fun e w' => e = .returned (.bool true) ∧ Below w.heap.size w w' := by
  have h_key : ((l.turn < 0)) ∨ (¬ (l.turn < 0) ∧ (12 < l.turn)) ∨ (¬ (l.turn < 0) ∧ ¬ (12 < l.turn) ∧ (l.turn = wrap64 (l.nodes - 1))) ∨ (¬ (l.turn < 0) ∧ ¬ (12 < l.turn) ∧ ¬ (l.turn = wrap64 (l.nodes - 1)) ∧ (s < 0)) ∨ (¬ (l.turn < 0) ∧ ¬ (12 < l.turn) ∧ ¬ (l.turn = wrap64 (l.nodes - 1)) ∧ ¬ (s < 0) ∧ (64 < s)) ∨ (¬ (l.turn < 0) ∧ ¬ (12 < l.turn) ∧ ¬ (l.turn = wrap64 (l.nodes - 1)) ∧ ¬ (s < 0) ∧ ¬ (64 < s)) := by omega
  rcases h_key with h1 | ⟨h1, h2⟩ | ⟨h1, h2, h3⟩ | ⟨h1, h2, h3, h4⟩ | ⟨h1, h2, h3, h4, h5⟩ | ⟨h1, h2, h3, h4, h5⟩
  case inr.inr.inr.inr.inr =>
    have q3 : (l.turn == wrap64 (l.nodes - 1)) = false := by rw [beq_eq_false_iff_ne]; exact h3
    have key : ((Layout.mk l.nodes l.data l.more (l.turn + 1)).nodeE s p != 0) = true ∨ ((Layout.mk l.nodes l.data l.more (l.turn + 1)).nodeE s p != 0) = false ∧ (l.nodeE (s + 1) p != 0) = true ∨ ((Layout.mk l.nodes l.data l.more (l.turn + 1)).nodeE s p != 0) = false ∧ (l.nodeE (s + 1) p != 0) = false ∧ ((Layout.mk l.nodes l.data l.more (l.turn + 1)).nodeN s p == l.nodeN (s + 1) p) = true := by
      by_cases k1 : (Layout.mk l.nodes l.data l.more (l.turn + 1)).nodeE s p = 0
      · by_cases k2 : l.nodeE (s + 1) p = 0
        · refine .inr (.inr ⟨by simpa using k1, by simpa using k2, ?_⟩)
          rw [(node_ok k1).2.1, (node_ok k2).2.1, beq_iff_eq]
          unfold Layout.raw
          show (l.turn + 1 + s + p) % l.nodes = _
          congr 1; omega
        · exact .inr (.inl ⟨by simpa using k1, by simpa using k2⟩)
      · exact .inl (by simpa using k1)
    clear h3
    rcases key with k1 | ⟨k1, k2⟩ | ⟨k1, k2, k3⟩
    all_goals
      go_enter Try.func7, Try.ntmps7
      go_wp2_with (first
        | (go_at_call 8; (with_reducible refine (node_any l _ _ _).mono ?_); rintro e w1 ⟨rfl, b1⟩; ((try clear c0 f0); first | (replace b0 := bt b0 b1) | (replace b0 := bt (ba b0 _) b1) | (replace b0 := bt (ba (ba b0 _) _) b1) | (replace b0 := bt (bdr b0) b1) | (have b0 := b1)); (try replace hr := GoT.step hr b1); (try replace hs := GoT.step hs b1); (try replace HR := Lib.hid (HR.out.of_block (b1.block _ HR.out.lt))); clear b1; obtain ⟨c0, f0⟩ := bcell b0)
        | (go_at_call 8; (with_reducible refine (node_any ⟨l.nodes, l.data, l.more, l.turn + 1⟩ _ _ _).mono ?_); rintro e w1 ⟨rfl, b1⟩; ((try clear c0 f0); first | (replace b0 := bt b0 b1) | (replace b0 := bt (ba b0 _) b1) | (replace b0 := bt (ba (ba b0 _) _) b1) | (replace b0 := bt (bdr b0) b1) | (have b0 := b1)); (try replace hr := GoT.step hr b1); (try replace hs := GoT.step hs b1); (try replace HR := Lib.hid (HR.out.of_block (b1.block _ HR.out.lt))); clear b1; obtain ⟨c0, f0⟩ := bcell b0)
        | (go_at_call 16; (with_reducible refine (begun_any _).mono ?_); rintro e w1 ⟨rfl, b1⟩; ((try clear c0 f0); first | (replace b0 := bt b0 b1) | (replace b0 := bt (ba b0 _) b1) | (replace b0 := bt (ba (ba b0 _) _) b1) | (replace b0 := bt (bdr b0) b1) | (have b0 := b1)); (try replace hr := GoT.step hr b1); (try replace hs := GoT.step hs b1); (try replace HR := Lib.hid (HR.out.of_block (b1.block _ HR.out.lt))); clear b1; obtain ⟨c0, f0⟩ := bcell b0))
      go_ret
      exact ⟨by simp, by (repeat' (first | exact Below.refl _ _ | assumption | (refine ba ?_ _) | (refine bdr ?_) | (refine bset ?_ _ ?_ _) | (refine bt ?_ (by assumption)) | (simp; done) | (simp; omega)))⟩
  case inr.inr.inl =>
    have q3 : (l.turn == wrap64 (l.nodes - 1)) = true := by rw [beq_iff_eq]; exact h3
    clear h3
    go_enter Try.func7, Try.ntmps7
    go_wp2_with (first
      | (go_at_call 16; (with_reducible refine (begun_any _).mono ?_); rintro e w1 ⟨rfl, b1⟩; ((try clear c0 f0); first | (replace b0 := bt b0 b1) | (replace b0 := bt (ba b0 _) b1) | (replace b0 := bt (ba (ba b0 _) _) b1) | (replace b0 := bt (bdr b0) b1) | (have b0 := b1)); (try replace hr := GoT.step hr b1); (try replace hs := GoT.step hs b1); (try replace HR := Lib.hid (HR.out.of_block (b1.block _ HR.out.lt))); clear b1; obtain ⟨c0, f0⟩ := bcell b0))
    go_ret
    exact ⟨rfl, by (repeat' (first | exact Below.refl _ _ | assumption | (refine ba ?_ _) | (refine bdr ?_) | (refine bset ?_ _ ?_ _) | (refine bt ?_ (by assumption)) | (simp; done) | (simp; omega)))⟩
  all_goals
    first | (have q3 : (l.turn == wrap64 (l.nodes - 1)) = false := by rw [beq_eq_false_iff_ne]; exact h3) | skip
    go_enter Try.func7, Try.ntmps7
    go_wp2_with (first
      | (go_at_call 16; (with_reducible refine (begun_any _).mono ?_); rintro e w1 ⟨rfl, b1⟩; ((try clear c0 f0); first | (replace b0 := bt b0 b1) | (replace b0 := bt (ba b0 _) b1) | (replace b0 := bt (ba (ba b0 _) _) b1) | (replace b0 := bt (bdr b0) b1) | (have b0 := b1)); (try replace hr := GoT.step hr b1); (try replace hs := GoT.step hs b1); (try replace HR := Lib.hid (HR.out.of_block (b1.block _ HR.out.lt))); clear b1; obtain ⟨c0, f0⟩ := bcell b0))
    go_ret
    exact ⟨rfl, by (repeat' (first | exact Below.refl _ _ | assumption | (refine ba ?_ _) | (refine bdr ?_) | (refine bset ?_ _ ?_ _) | (refine bt ?_ (by assumption)) | (simp; done) | (simp; omega)))⟩
theorem LayoutTurns_own : ownKnob Try.prog.godebug = none := by kernel_rfl
theorem LayoutTurns_laidOut : laidOutB Try.prog = true := by kernel_rfl
set_option maxRecDepth 100000 in
set_option linter.unusedVariables false in
theorem LayoutTurns_lifted (os : Os) (started : os.Started) (H : Type) (enc : TypeId × Value → H) :
    ReturnsInHanded {} Try.checked os 7 .any (Rows.layoutTurnsSpec.pre6 enc Try.prog Try.f7 Rows.layoutTurnsRow.domain false) (Rows.layoutTurnsSpec.post enc Try.prog Try.f7 false true false false) := by
  refine returnsInHanded_of_change (C := Try.checked) LayoutTurns_own started (by kernel_rfl) Try.func7
    (ChangeSpec.witness6 (enc := enc) (C := Try.checked) false ⟨#[], #[.agg #[.int .i64 0, .int .i64 0, .int .i64 0, .int .i64 0], .int .i64 0, .int .i64 0], []⟩ 8 (by kernel_rfl) (by kernel_rfl) (by kernel_rfl) (by kernel_rfl)) ?_
  intro W base args ds gs before hval0 hW hcnd _
  have hval : ∀ (j : Nat) t v, Try.f7.params[j]? = some t → args[j]? = some v → Value.okWide Try.prog W .any base t v := hval0
  have hW' := hW
  obtain ⟨p, q, hA0, hV, rfl, hfz, hnd⟩ := hW
  have hA : DataW.TrodAll enc Try.prog W 0 (fun _ => true) true Try.f7.params.toList args.toList ds p := hA0
  rw [Try.params7] at hA hval
  obtain ⟨v0, vs0, d0, ds0, p0, q0, hargs, rfl, rfl, h0, r0⟩ := trodAll_cons hA
  obtain ⟨v1, vs1, d1, ds1, p1, q1, rfl, rfl, rfl, h1, r1⟩ := trodAll_cons r0
  obtain ⟨v2, vs2, d2, ds2, p2, q2, rfl, rfl, rfl, h2, r2⟩ := trodAll_cons r1
  obtain ⟨rfl, rfl, rfl⟩ := trodAll_nil r2
  obtain rfl : args = #[v0, v1, v2] := by cases args; simp_all
  obtain ⟨rfl, rfl⟩ := trodVars_none hV
  have k0 := h0
  have lt0 : ∀ x ∈ p0, x.block < W.heap.size := by obtain ⟨m, hm⟩ := k0; exact DataW.trod_lt m _ _ _ hm
  obtain ⟨x0, cs0, rfl, w0⟩ := open_agg opens_Layout Try.underlying23 (hval 0 23 v0 rfl rfl) h0
  obtain ⟨rfl, ok0⟩ := Layout.flat w0
  have k1 := h1
  have lt1 : ∀ x ∈ p1, x.block < W.heap.size := by obtain ⟨m, hm⟩ := k1; exact DataW.trod_lt m _ _ _ hm
  obtain ⟨a1, rfl, e1, e1', w1⟩ := open_int Try.underlying3 (hval 1 3 v1 rfl rfl) h1
  have k2 := h2
  have lt2 : ∀ x ∈ p2, x.block < W.heap.size := by obtain ⟨m, hm⟩ := k2; exact DataW.trod_lt m _ _ _ hm
  obtain ⟨a2, rfl, e2, e2', w2⟩ := open_int Try.underlying3 (hval 2 3 v2 rfl rfl) h2
  clear hA0 hval0
  refine (LayoutTurns_walk x0 ok0 a1 w1 a2 w2 W).mono fun e W' ⟨he, bel⟩ => ?_
  subst he
  exact ⟨_, rfl, _, _, _, [], _, [], hW', trodAll_mk1 (shut_bool Try.underlying4 _), (trodAll_cons_mk (Below.trod LayoutTurns_laidOut (by kernel_rfl) (of_decide_eq_true (by kernel_rfl)) k0 bel lt0) (trodAll_cons_mk (Below.trod LayoutTurns_laidOut (by kernel_rfl) (of_decide_eq_true (by kernel_rfl)) k1 bel lt1) (trodAll_cons_mk (Below.trod LayoutTurns_laidOut (by kernel_rfl) (of_decide_eq_true (by kernel_rfl)) k2 bel lt2) trodAll_mk0))), rfl, bel.frame _, fun h => by cases h⟩
theorem LayoutTurns_closed : joinedFacts Try.prog 7 Try.f7 Rows.layoutTurnsSpec Rows.layoutTurnsRow = true := by
  unfold joinedFacts
  repeat' (with_reducible refine and_tt ?_ ?_)
  all_goals as_aux_lemma => kernel_rfl
theorem LayoutTurns_over : Rows.layoutTurnsRow.holds Try.pinned (OpenSpec.ofChange Rows.layoutTurnsSpec) :=
  OpenClaim.holds_of_wide 7 Try.f7 rfl rfl rfl rfl rfl rfl rfl ⟨rfl, rfl, rfl, rfl, rfl⟩ rfl rfl rfl rfl rfl (by as_aux_lemma => kernel_rfl) Try.func7 LayoutTurns_closed
    (of_decide_eq_true (by as_aux_lemma => kernel_rfl)) (by unfold Func.isWrapper; rw [if_neg (of_decide_eq_false (by as_aux_lemma => kernel_rfl))]; exact ⟨rfl, rfl⟩)
    (fun os started H enc _ => LayoutTurns_lifted os started H enc)
theorem LayoutTurns_holds : Rows.LayoutTurnsSaid := LayoutTurns_over
end Go.Proofs.Ytikbignmpoefkaa
