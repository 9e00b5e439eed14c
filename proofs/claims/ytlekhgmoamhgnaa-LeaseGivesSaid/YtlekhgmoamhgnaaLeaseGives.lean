/- A returned lease can be taken at once by anybody, with a greater token, and cannot be returned again: the law LeaseGives returns true. No condition. -/
import Derived.Test.YtlekhgmoamhgnaaLeaseB
import Derived.Test.YtlekhgmoamhgnaaLeaseL
import Derived.Outline
namespace Go.Proofs.Ytlekhgmoamhgnaa
set_option linter.unusedSimpArgs false
set_option linter.unusedVariables false
open Go.ChangeShapes Go.WideShapes Go.ChangeAt Go.RowKit
open Go.ChangeMaps (open_string shut_string)
set_option maxRecDepth 100000 in
set_option maxHeartbeats 4000000 in
theorem LeaseGives_walk (l : Lease) (_ : l.ok) (who : Int) (_ : (Lit.int .i64 who).wf = true) (token : Int) (_ : (Lit.int .i64 token).wf = true) (now : Int) (_ : (Lit.int .i64 now).wf = true) (other : Int) (_ : (Lit.int .i64 other).wf = true) (term : Int) (_ : (Lit.int .i64 term).wf = true) (w : World) :
    Calls Try.prog 6 #[l.v, I who, I token, I now, I other, I term] w fun e w' => e = .returned (.bool true) ∧ Below w.heap.size w w' := by
  rcases l.give_cases who token now with ⟨e, he, hA⟩ | ⟨hA, h1, h2, hw, rfl⟩
  · have b0 := Below.refl w.heap.size w
    have HK := Known.nil w
    go_enter Try.func6, Try.ntmps6
    go_wp2_with (first | (go_at_call 11; (with_reducible refine (give_any ⟨_, _, _⟩ _ _ _ _).mono ?_); rintro e w1 ⟨rfl, b1⟩; have bw := Known.bw HK (by (repeat' (first | exact Below.refl _ _ | assumption | (refine ba ?_ _) | (refine bdr ?_) | (refine bset ?_ _ ?_ _) | (refine bt ?_ (by assumption)) | (simp; done) | (simp; omega)))) b1; have HK' := Known.step b1 (by (repeat' (first | (with_reducible exact HK) | (with_reducible apply Known.drew) | (with_reducible apply Known.alloc) | (with_reducible apply Known.allocO) | (with_reducible apply Known.setCell)))); (try replace hr := GoT.step hr bw); (try replace hs := GoT.step hs bw); (try replace ht := GoT.step ht bw); (try replace hu := GoT.step hu bw); replace b0 := bt b0 bw; clear bw b1; (try clear kn); (try clear c0 f0 hz); replace HK := HK'; clear HK'; ((try simp only [World.size_alloc, World.size_setCell, World.size_drew] at HK); have kn := HK; simp [Known, setL, NeAll] at kn); obtain ⟨c0, f0⟩ := bcell b0; have hz := b0.size) | (go_at_call 17; (with_reducible refine (begun_any  _).mono ?_); rintro e w1 ⟨rfl, b1⟩; have bw := Known.bw HK (by (repeat' (first | exact Below.refl _ _ | assumption | (refine ba ?_ _) | (refine bdr ?_) | (refine bset ?_ _ ?_ _) | (refine bt ?_ (by assumption)) | (simp; done) | (simp; omega)))) b1; have HK' := Known.step b1 (by (repeat' (first | (with_reducible exact HK) | (with_reducible apply Known.drew) | (with_reducible apply Known.alloc) | (with_reducible apply Known.allocO) | (with_reducible apply Known.setCell)))); (try replace hr := GoT.step hr bw); (try replace hs := GoT.step hs bw); (try replace ht := GoT.step ht bw); (try replace hu := GoT.step hu bw); replace b0 := bt b0 bw; clear bw b1; (try clear kn); (try clear c0 f0 hz); replace HK := HK'; clear HK'; ((try simp only [World.size_alloc, World.size_setCell, World.size_drew] at HK); have kn := HK; simp [Known, setL, NeAll] at kn); obtain ⟨c0, f0⟩ := bcell b0; have hz := b0.size) | (go_at_call 10; (with_reducible refine (take_any ⟨_, _, _⟩ _ _ _ _).mono ?_); rintro e w1 ⟨rfl, b1⟩; have bw := Known.bw HK (by (repeat' (first | exact Below.refl _ _ | assumption | (refine ba ?_ _) | (refine bdr ?_) | (refine bset ?_ _ ?_ _) | (refine bt ?_ (by assumption)) | (simp; done) | (simp; omega)))) b1; have HK' := Known.step b1 (by (repeat' (first | (with_reducible exact HK) | (with_reducible apply Known.drew) | (with_reducible apply Known.alloc) | (with_reducible apply Known.allocO) | (with_reducible apply Known.setCell)))); (try replace hr := GoT.step hr bw); (try replace hs := GoT.step hs bw); (try replace ht := GoT.step ht bw); (try replace hu := GoT.step hu bw); replace b0 := bt b0 bw; clear bw b1; (try clear kn); (try clear c0 f0 hz); replace HK := HK'; clear HK'; ((try simp only [World.size_alloc, World.size_setCell, World.size_drew] at HK); have kn := HK; simp [Known, setL, NeAll] at kn); obtain ⟨c0, f0⟩ := bcell b0; have hz := b0.size))
    all_goals first | (go_ret; refine ⟨rb ?_, by (repeat' (first | exact Below.refl _ _ | assumption | (refine ba ?_ _) | (refine bdr ?_) | (refine bset ?_ _ ?_ _) | (refine bt ?_ (by assumption)) | (simp; done) | (simp; omega)))⟩; (first | rfl | (simp; done) | (simp [*]; done) | ((try simp only [bne_iff_ne, beq_iff_eq, Bool.not_eq_true', bne_eq_false_iff_eq, beq_eq_false_iff_ne, ne_eq, Bool.not_eq_true, Bool.not_eq_false', Bool.not_true, Bool.not_false, decide_eq_true_eq, decide_eq_false_iff_not, Bool.and_eq_true, Bool.or_eq_true, Bool.and_eq_false_imp, Bool.or_eq_false_iff] at *); simp; omega) | (exfalso; (try simp only [bne_iff_ne, beq_iff_eq, Bool.not_eq_true', bne_eq_false_iff_eq, beq_eq_false_iff_ne, ne_eq, Bool.not_eq_true, Bool.not_eq_false', Bool.not_true, Bool.not_false, decide_eq_true_eq, decide_eq_false_iff_not, Bool.and_eq_true, Bool.or_eq_true, Bool.and_eq_false_imp, Bool.or_eq_false_iff] at *); omega) | (simp_all; done) | (simp_all; omega))) | (exfalso; (try simp only [bne_iff_ne, beq_iff_eq, Bool.not_eq_true', bne_eq_false_iff_eq, beq_eq_false_iff_ne, ne_eq, Bool.not_eq_true, Bool.not_eq_false', Bool.not_true, Bool.not_false, decide_eq_true_eq, decide_eq_false_iff_not, Bool.and_eq_true, Bool.or_eq_true, Bool.and_eq_false_imp, Bool.or_eq_false_iff] at *); omega) | (exfalso; simp_all; done) | (exfalso; simp_all; omega)
  · obtain ⟨_, _, g5, g6⟩ := Lease.good h1
    have hn := tm_bd h2
    have hck : (⟨0, now, l.token⟩ : Lease).checkE = 0 := if_pos ⟨wi_yes (n := 0) ⟨by omega, by omega⟩, h2, wi_yes (n := l.token) ⟨g5, g6⟩⟩
    have hh : (⟨0, now, l.token⟩ : Lease).held now = 0 := by simp [Lease.held]
    have q1 : (⟨0, now, l.token⟩ : Lease).give who l.token now = (⟨0, 0, 0⟩, 4) := by
      simp only [Lease.give]
      rw [if_pos ⟨hck, h2⟩, if_pos (by rw [hh]; omega)]
    have q2 : (⟨0, now, l.token⟩ : Lease).take other now term = (⟨0, 0, 0⟩, 3) ∨ ((l.token == 1000000) = true ∧ (⟨0, now, l.token⟩ : Lease).take other now term = (⟨0, 0, 0⟩, 2)) ∨ l.token < 1000000 ∧ ∃ t, (⟨0, now, l.token⟩ : Lease).take other now term = (⟨other, t, l.token + 1⟩, 0) := by
      by_cases ho : (⟨0, now, l.token⟩ : Lease).okTake other now term
      · have := wi_bd ho.2.2.1
        by_cases h3 : l.token = 1000000
        · exact .inr (.inl ⟨by simpa using h3, by simp only [Lease.take, if_pos ho, hh, if_pos h3, if_neg (show ¬ 0 = other by omega), if_true]⟩)
        · exact .inr (.inr ⟨by omega, _, by simp only [Lease.take, if_pos ho, hh, if_neg h3, if_neg (show ¬ 0 = other by omega), if_true]; rfl⟩)
      · exact .inl (by simp only [Lease.take, if_neg ho])
    clear hck hh h1 h2
    rcases q2 with q2 | ⟨q3, q2⟩ | ⟨q3, t, q2⟩
    all_goals
      have b0 := Below.refl w.heap.size w
      have HK := Known.nil w
      go_enter Try.func6, Try.ntmps6
      go_wp2_with (first | (go_at_call 11; (with_reducible refine (give_any ⟨_, _, _⟩ _ _ _ _).mono ?_); rintro e w1 ⟨rfl, b1⟩; have bw := Known.bw HK (by (repeat' (first | exact Below.refl _ _ | assumption | (refine ba ?_ _) | (refine bdr ?_) | (refine bset ?_ _ ?_ _) | (refine bt ?_ (by assumption)) | (simp; done) | (simp; omega)))) b1; have HK' := Known.step b1 (by (repeat' (first | (with_reducible exact HK) | (with_reducible apply Known.drew) | (with_reducible apply Known.alloc) | (with_reducible apply Known.allocO) | (with_reducible apply Known.setCell)))); (try replace hr := GoT.step hr bw); (try replace hs := GoT.step hs bw); (try replace ht := GoT.step ht bw); (try replace hu := GoT.step hu bw); replace b0 := bt b0 bw; clear bw b1; (try clear kn); (try clear c0 f0 hz); replace HK := HK'; clear HK'; ((try simp only [World.size_alloc, World.size_setCell, World.size_drew] at HK); have kn := HK; simp [Known, setL, NeAll] at kn); obtain ⟨c0, f0⟩ := bcell b0; have hz := b0.size) | (go_at_call 17; (with_reducible refine (begun_any  _).mono ?_); rintro e w1 ⟨rfl, b1⟩; have bw := Known.bw HK (by (repeat' (first | exact Below.refl _ _ | assumption | (refine ba ?_ _) | (refine bdr ?_) | (refine bset ?_ _ ?_ _) | (refine bt ?_ (by assumption)) | (simp; done) | (simp; omega)))) b1; have HK' := Known.step b1 (by (repeat' (first | (with_reducible exact HK) | (with_reducible apply Known.drew) | (with_reducible apply Known.alloc) | (with_reducible apply Known.allocO) | (with_reducible apply Known.setCell)))); (try replace hr := GoT.step hr bw); (try replace hs := GoT.step hs bw); (try replace ht := GoT.step ht bw); (try replace hu := GoT.step hu bw); replace b0 := bt b0 bw; clear bw b1; (try clear kn); (try clear c0 f0 hz); replace HK := HK'; clear HK'; ((try simp only [World.size_alloc, World.size_setCell, World.size_drew] at HK); have kn := HK; simp [Known, setL, NeAll] at kn); obtain ⟨c0, f0⟩ := bcell b0; have hz := b0.size) | (go_at_call 10; (with_reducible refine (take_any ⟨_, _, _⟩ _ _ _ _).mono ?_); rintro e w1 ⟨rfl, b1⟩; have bw := Known.bw HK (by (repeat' (first | exact Below.refl _ _ | assumption | (refine ba ?_ _) | (refine bdr ?_) | (refine bset ?_ _ ?_ _) | (refine bt ?_ (by assumption)) | (simp; done) | (simp; omega)))) b1; have HK' := Known.step b1 (by (repeat' (first | (with_reducible exact HK) | (with_reducible apply Known.drew) | (with_reducible apply Known.alloc) | (with_reducible apply Known.allocO) | (with_reducible apply Known.setCell)))); (try replace hr := GoT.step hr bw); (try replace hs := GoT.step hs bw); (try replace ht := GoT.step ht bw); (try replace hu := GoT.step hu bw); replace b0 := bt b0 bw; clear bw b1; (try clear kn); (try clear c0 f0 hz); replace HK := HK'; clear HK'; ((try simp only [World.size_alloc, World.size_setCell, World.size_drew] at HK); have kn := HK; simp [Known, setL, NeAll] at kn); obtain ⟨c0, f0⟩ := bcell b0; have hz := b0.size))
      all_goals first | (go_ret; refine ⟨rb ?_, by (repeat' (first | exact Below.refl _ _ | assumption | (refine ba ?_ _) | (refine bdr ?_) | (refine bset ?_ _ ?_ _) | (refine bt ?_ (by assumption)) | (simp; done) | (simp; omega)))⟩; (first | rfl | (simp; done) | (simp [*]; done) | ((try simp only [bne_iff_ne, beq_iff_eq, Bool.not_eq_true', bne_eq_false_iff_eq, beq_eq_false_iff_ne, ne_eq, Bool.not_eq_true, Bool.not_eq_false', Bool.not_true, Bool.not_false, decide_eq_true_eq, decide_eq_false_iff_not, Bool.and_eq_true, Bool.or_eq_true, Bool.and_eq_false_imp, Bool.or_eq_false_iff] at *); simp; omega) | (exfalso; (try simp only [bne_iff_ne, beq_iff_eq, Bool.not_eq_true', bne_eq_false_iff_eq, beq_eq_false_iff_ne, ne_eq, Bool.not_eq_true, Bool.not_eq_false', Bool.not_true, Bool.not_false, decide_eq_true_eq, decide_eq_false_iff_not, Bool.and_eq_true, Bool.or_eq_true, Bool.and_eq_false_imp, Bool.or_eq_false_iff] at *); omega) | (simp_all; done) | (simp_all; omega))) | (exfalso; (try simp only [bne_iff_ne, beq_iff_eq, Bool.not_eq_true', bne_eq_false_iff_eq, beq_eq_false_iff_ne, ne_eq, Bool.not_eq_true, Bool.not_eq_false', Bool.not_true, Bool.not_false, decide_eq_true_eq, decide_eq_false_iff_not, Bool.and_eq_true, Bool.or_eq_true, Bool.and_eq_false_imp, Bool.or_eq_false_iff] at *); omega) | (exfalso; simp_all; done) | (exfalso; simp_all; omega)
theorem LeaseGives_own : ownKnob Try.prog.godebug = none := by kernel_rfl
theorem LeaseGives_laidOut : laidOutB Try.prog = true := by kernel_rfl
set_option maxRecDepth 100000 in
set_option linter.unusedVariables false in
theorem LeaseGives_lifted (os : Os) (started : os.Started) (H : Type) (enc : TypeId × Value → H) :
    ReturnsInHanded {} Try.checked os 6 .any (Rows.leaseGivesSpec.pre6 enc Try.prog Try.f6 Rows.leaseGivesRow.domain false) (Rows.leaseGivesSpec.post enc Try.prog Try.f6 false true false false) := by
  refine returnsInHanded_of_change (C := Try.checked) LeaseGives_own started (by kernel_rfl) Try.func6
    (ChangeSpec.witness6 (enc := enc) (C := Try.checked) false ⟨#[], #[.agg #[.int .i64 0, .int .i64 0, .int .i64 0], .int .i64 0, .int .i64 0, .int .i64 0, .int .i64 0, .int .i64 0], []⟩ 8 (by kernel_rfl) (by kernel_rfl) (by kernel_rfl) (by kernel_rfl)) ?_
  intro W base args ds gs before hval0 hW hcnd _
  have hval : ∀ (j : Nat) t v, Try.f6.params[j]? = some t → args[j]? = some v → Value.okWide Try.prog W .any base t v := hval0
  have hW' := hW
  obtain ⟨p, q, hA0, hV, rfl, hfz, hnd⟩ := hW
  have hA : DataW.TrodAll enc Try.prog W 0 (fun _ => true) true Try.f6.params.toList args.toList ds p := hA0
  rw [Try.params6] at hA hval
  obtain ⟨v0, vs0, d0, ds0, p0, q0, hargs, rfl, rfl, h0, r0⟩ := trodAll_cons hA
  obtain ⟨v1, vs1, d1, ds1, p1, q1, rfl, rfl, rfl, h1, r1⟩ := trodAll_cons r0
  obtain ⟨v2, vs2, d2, ds2, p2, q2, rfl, rfl, rfl, h2, r2⟩ := trodAll_cons r1
  obtain ⟨v3, vs3, d3, ds3, p3, q3, rfl, rfl, rfl, h3, r3⟩ := trodAll_cons r2
  obtain ⟨v4, vs4, d4, ds4, p4, q4, rfl, rfl, rfl, h4, r4⟩ := trodAll_cons r3
  obtain ⟨v5, vs5, d5, ds5, p5, q5, rfl, rfl, rfl, h5, r5⟩ := trodAll_cons r4
  obtain ⟨rfl, rfl, rfl⟩ := trodAll_nil r5
  obtain rfl : args = #[v0, v1, v2, v3, v4, v5] := by cases args; simp_all
  obtain ⟨rfl, rfl⟩ := trodVars_none hV
  have k0 := h0
  have lt0 : ∀ x ∈ p0, x.block < W.heap.size := by obtain ⟨m, hm⟩ := k0; exact DataW.trod_lt m _ _ _ hm
  obtain ⟨x0, cs0, rfl, w0⟩ := open_agg opens_Lease Try.underlying23 (hval 0 23 v0 rfl rfl) h0
  obtain ⟨rfl, ok0⟩ := Lease.flat w0
  have k1 := h1
  have lt1 : ∀ x ∈ p1, x.block < W.heap.size := by obtain ⟨m, hm⟩ := k1; exact DataW.trod_lt m _ _ _ hm
  obtain ⟨a1, rfl, e1, e1', w1⟩ := open_int Try.underlying3 (hval 1 3 v1 rfl rfl) h1
  have k2 := h2
  have lt2 : ∀ x ∈ p2, x.block < W.heap.size := by obtain ⟨m, hm⟩ := k2; exact DataW.trod_lt m _ _ _ hm
  obtain ⟨a2, rfl, e2, e2', w2⟩ := open_int Try.underlying3 (hval 2 3 v2 rfl rfl) h2
  have k3 := h3
  have lt3 : ∀ x ∈ p3, x.block < W.heap.size := by obtain ⟨m, hm⟩ := k3; exact DataW.trod_lt m _ _ _ hm
  obtain ⟨a3, rfl, e3, e3', w3⟩ := open_int Try.underlying3 (hval 3 3 v3 rfl rfl) h3
  have k4 := h4
  have lt4 : ∀ x ∈ p4, x.block < W.heap.size := by obtain ⟨m, hm⟩ := k4; exact DataW.trod_lt m _ _ _ hm
  obtain ⟨a4, rfl, e4, e4', w4⟩ := open_int Try.underlying3 (hval 4 3 v4 rfl rfl) h4
  have k5 := h5
  have lt5 : ∀ x ∈ p5, x.block < W.heap.size := by obtain ⟨m, hm⟩ := k5; exact DataW.trod_lt m _ _ _ hm
  obtain ⟨a5, rfl, e5, e5', w5⟩ := open_int Try.underlying3 (hval 5 3 v5 rfl rfl) h5
  clear hA0 hval0
  refine (LeaseGives_walk x0 ok0 a1 w1 a2 w2 a3 w3 a4 w4 a5 w5 W).mono fun e W' ⟨he, bel⟩ => ?_
  subst he
  exact ⟨_, rfl, _, _, _, [], _, [], hW', trodAll_mk1 (shut_bool Try.underlying4 _), (trodAll_cons_mk (Below.trod LeaseGives_laidOut (by kernel_rfl) (of_decide_eq_true (by kernel_rfl)) k0 bel lt0) (trodAll_cons_mk (Below.trod LeaseGives_laidOut (by kernel_rfl) (of_decide_eq_true (by kernel_rfl)) k1 bel lt1) (trodAll_cons_mk (Below.trod LeaseGives_laidOut (by kernel_rfl) (of_decide_eq_true (by kernel_rfl)) k2 bel lt2) (trodAll_cons_mk (Below.trod LeaseGives_laidOut (by kernel_rfl) (of_decide_eq_true (by kernel_rfl)) k3 bel lt3) (trodAll_cons_mk (Below.trod LeaseGives_laidOut (by kernel_rfl) (of_decide_eq_true (by kernel_rfl)) k4 bel lt4) (trodAll_cons_mk (Below.trod LeaseGives_laidOut (by kernel_rfl) (of_decide_eq_true (by kernel_rfl)) k5 bel lt5) trodAll_mk0)))))), rfl, bel.frame _, fun h => by cases h⟩
theorem LeaseGives_closed : joinedFacts Try.prog 6 Try.f6 Rows.leaseGivesSpec Rows.leaseGivesRow = true := by
  unfold joinedFacts
  repeat' (with_reducible refine and_tt ?_ ?_)
  all_goals as_aux_lemma => kernel_rfl
theorem LeaseGives_over : Rows.leaseGivesRow.holds Try.pinned (OpenSpec.ofChange Rows.leaseGivesSpec) :=
  OpenClaim.holds_of_wide 6 Try.f6 rfl rfl rfl rfl rfl rfl rfl ⟨rfl, rfl, rfl, rfl, rfl⟩ rfl rfl rfl rfl rfl (by as_aux_lemma => kernel_rfl) Try.func6 LeaseGives_closed
    (of_decide_eq_true (by as_aux_lemma => kernel_rfl)) (by unfold Func.isWrapper; rw [if_neg (of_decide_eq_false (by as_aux_lemma => kernel_rfl))]; exact ⟨rfl, rfl⟩)
    (fun os started H enc _ => LeaseGives_lifted os started H enc)
theorem LeaseGives_holds : Rows.LeaseGivesSaid := LeaseGives_over
end Go.Proofs.Ytlekhgmoamhgnaa
