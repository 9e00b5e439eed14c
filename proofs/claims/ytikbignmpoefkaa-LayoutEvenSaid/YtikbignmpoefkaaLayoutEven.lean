/- The load is balanced: equal for as many stripes as nodes, and never different by more than the pieces of a stripe; all pieces are counted: the law LayoutEven returns true. No condition. -/
import Derived.Test.YtikbignmpoefkaaLayoutB
import Derived.Test.YtikbignmpoefkaaLayoutE
import Derived.Outline
namespace Go.Proofs.Ytikbignmpoefkaa
open Go.ChangeShapes Go.WideShapes Go.ChangeAt Go.RowKit
open Go.ChangeMaps (open_string shut_string)
def lowT (f : Nat → Int) : Nat → Int
  | 0 => f 0
  | k+1 => if f k < lowT f k then f k else lowT f k
def highT (f : Nat → Int) : Nat → Int
  | 0 => f 0
  | k+1 => if highT f k < f k then f k else highT f k
theorem lowT_mem (f : Nat → Int) (k : Nat) : ∃ i, i < k + 1 ∧ (i < k ∨ i = 0) ∧ lowT f k = f i := by
  induction k with
  | zero => exact ⟨0, by omega, .inr rfl, rfl⟩
  | succ k ih =>
    obtain ⟨i, h1, h2, h3⟩ := ih
    rw [lowT]
    split
    · exact ⟨k, by omega, .inl (by omega), rfl⟩
    · exact ⟨i, by omega, by omega, h3⟩
theorem highT_mem (f : Nat → Int) (k : Nat) : ∃ i, i < k + 1 ∧ (i < k ∨ i = 0) ∧ highT f k = f i := by
  induction k with
  | zero => exact ⟨0, by omega, .inr rfl, rfl⟩
  | succ k ih =>
    obtain ⟨i, h1, h2, h3⟩ := ih
    rw [highT]
    split
    · exact ⟨k, by omega, .inl (by omega), rfl⟩
    · exact ⟨i, by omega, by omega, h3⟩
theorem sumT_bd (f : Nat → Int) (b : Int) (_hb : 0 ≤ b) (k : Nat) (h : ∀ n, n < k → 0 ≤ f n ∧ f n ≤ b) : 0 ≤ Layout.sumT f k ∧ Layout.sumT f k ≤ k * b := by
  induction k with
  | zero => simp [Layout.sumT]
  | succ k ih =>
    have h1 := ih (fun n hn => h n (by omega))
    have h2 := h k (by omega)
    rw [Layout.sumT, Int.natCast_add, Int.add_mul]
    omega
theorem even_law {l : Layout} (h : l.checkE = 0) (S : Nat) (hS : S ≤ 64) :
    highT (fun n => l.cnt n S) l.nodes.toNat - lowT (fun n => l.cnt n S) l.nodes.toNat ≤ l.data + l.more ∧ ((S : Int) % l.nodes = 0 → lowT (fun n => l.cnt n S) l.nodes.toNat = highT (fun n => l.cnt n S) l.nodes.toNat) := by
  obtain ⟨i, _, _, e1⟩ := lowT_mem (fun n => l.cnt n S) l.nodes.toNat
  obtain ⟨j, _, _, e2⟩ := highT_mem (fun n => l.cnt n S) l.nodes.toNat
  rw [e1, e2]
  have hi := Layout.cnt_fine h i S hS
  have hj := Layout.cnt_fine h j S hS
  exact ⟨by omega, fun h0 => by rw [hi.2.2 h0, hj.2.2 h0]⟩
theorem lowT_bd (f : Nat → Int) (h : ∀ n, 0 ≤ f n ∧ f n ≤ 64) (k : Nat) : 0 ≤ lowT f k ∧ lowT f k ≤ 64 := by
  obtain ⟨i, _, _, e⟩ := lowT_mem f k
  rw [e]; exact h i
theorem highT_bd (f : Nat → Int) (h : ∀ n, 0 ≤ f n ∧ f n ≤ 64) (k : Nat) : 0 ≤ highT f k ∧ highT f k ≤ 64 := by
  obtain ⟨i, _, _, e⟩ := highT_mem f k
  rw [e]; exact h i
set_option maxRecDepth 100000 in
set_option maxHeartbeats 4000000 in
theorem even_core (l : Layout) (N S : Nat) (f : Nat → Int) (hN : (N : Int) = l.nodes) (hS : S ≤ 64) (g1 : 1 ≤ l.nodes) (g2 : l.nodes ≤ 12) (g3 : 1 ≤ l.data) (g4 : l.data ≤ 8) (g5 : 1 ≤ l.more) (g6 : l.more ≤ 6)
    (hL : Hid (∀ w, Calls Try.prog 11 #[l.v, I S] w fun e w' => ∃ g, e = .returned (.tuple #[.slice (some ⟨g, 0, none⟩) N N, I 0]) ∧ w'.rowIs g 3 N (fun n => I (f n)) ∧ w.heap.size ≤ g ∧ Below w.heap.size w w'))
    (hcb : Hid (∀ n : Nat, 0 ≤ f n ∧ f n ≤ 64)) (Hlaw : Hid (highT f N - lowT f N ≤ l.data + l.more ∧ ((S : Int) % l.nodes = 0 → lowT f N = highT f N))) (Hsum : Hid (Layout.sumT f N = S * (l.data + l.more))) (w : World) :
    Calls Try.prog 5 #[l.v, I S] w fun e w' => e = .returned (.bool true) ∧ Below w.heap.size w w' := by
  have t1 : ((N : Int) == l.nodes) = true := by rw [beq_iff_eq]; exact hN
  have t2 : (l.nodes == 0) = false := by rw [beq_eq_false_iff_ne]; omega
  have n1 : 1 ≤ (N : Int) ∧ (N : Int) ≤ 12 := by omega
  clear hN
  have n2 : (0 : Int) < (N : Int) := by omega
  have n3 : 0 < N := by omega
  have sb := Layout.sumT_list
  go_enter Try.func5, Try.ntmps5
  go_wp2_with (first
    | (go_at_call 11; (with_reducible refine (hL.out _).mono ?_); rintro e w1 ⟨g, rfl, hrow, hge, b1⟩; ((try clear c0 f0); first | (replace b0 := bt b0 b1) | (replace b0 := bt (ba b0 _) b1) | (replace b0 := bt (ba (ba b0 _) _) b1) | (replace b0 := bt (bdr b0) b1) | (have b0 := b1)); (try replace hr := GoT.step hr b1); (try replace hs := GoT.step hs b1); (try replace HR := Lib.hid (HR.out.of_block (b1.block _ HR.out.lt))); clear b1; obtain ⟨c0, f0⟩ := bcell b0; have HR := Lib.hid hrow; clear hrow)
    | (go_at_call 16; (with_reducible refine (begun_any _).mono ?_); rintro e w1 ⟨rfl, b1⟩; ((try clear c0 f0); first | (replace b0 := bt b0 b1) | (replace b0 := bt (ba b0 _) b1) | (replace b0 := bt (ba (ba b0 _) _) b1) | (replace b0 := bt (bdr b0) b1) | (have b0 := b1)); (try replace hr := GoT.step hr b1); (try replace hs := GoT.step hs b1); (try replace HR := Lib.hid (HR.out.of_block (b1.block _ HR.out.lt))); clear b1; obtain ⟨c0, f0⟩ := bcell b0))
  have q0 := HR.out.cell (i := 0) n3
  have z0 := HR.out.lt
  have k0 : LayoutAt w1 w.heap.size l := ⟨by first | assumption | (simp [go_sem, *]; done), by first | assumption | (simp [go_sem, *]; done), by first | assumption | (simp [go_sem, *]; done), by first | assumption | (simp [go_sem, *]; done)⟩
  obtain ⟨k2, k3, k4, k5⟩ := k0
  (refine wp_region_quiet_below (by kernel_rfl) (by kernel_rfl) ?_
   repeat (any_goals (first | go_big_quiet_step (fail) | quiet_step (fail)))
   refine wpQuiet_nil ?_
   intro w6 hq6
   have b6 := below_of_regrown hq6
   clear hq6
   obtain ⟨c6, f6⟩ := bcell b6)
  have HR6 := Lib.hid (HR.out.of_block (b6.block _ z0))
  have k0 : LayoutAt w6 w.heap.size l := ⟨(b6.cell (cell_lt k2)).trans k2, (b6.cell (cell_lt k3)).trans k3, (b6.cell (cell_lt k4)).trans k4, (b6.cell (cell_lt k5)).trans k5⟩
  have b7 : Below w.heap.size w w6 := by (repeat' (first | exact Below.refl _ _ | assumption | (refine ba ?_ _) | (refine bdr ?_) | (refine bset ?_ _ ?_ _) | (refine bt ?_ (by assumption)) | (simp; done) | (simp; omega)))
  clear HR k2 k3 k4 k5 c6 f6 b6 b0 c0 f0 q0
  obtain ⟨k2, k3, k4, k5⟩ := k0
  go_wp2
  go_loopw [7, 8, 9, 10] (fun a lo hi i wr => ∃ k : Nat, k ≤ N ∧ i = I k ∧ a = I (Layout.sumT f k) ∧ lo = I (lowT f k) ∧ hi = I (highT f k) ∧ Below w6.heap.size w6 wr) (fun _ _ _ i _ => (N - intOf i).toNat)
  case atStart => exact ⟨0, by omega, rfl, rfl, rfl, rfl, Below.refl _ _⟩
  case round =>
    obtain ⟨k, hk, rfl, rfl, rfl, rfl, br⟩ := hrel
    have HRr := Lib.hid (HR6.out.of_block (br.block _ HR6.out.lt))
    have s1 := sumT_bd f 64 (by omega) k (fun n _ => hcb.out n)
    have s2 := lowT_bd f hcb.out k
    have s3 := highT_bd f hcb.out k
    by_cases hlt : k < N
    · have s4 := hcb.out k
      have d1 := HRr.out.cell hlt
      have d2 : (k : Int) < (N : Int) := by omega
      clear sb
      go_wp2
      go_region
      all_goals go_wp2
      all_goals
        go_roundw
        case rel => exact ⟨k + 1, by omega, by go_num, rfl, rfl, rfl, br.drew⟩
        case measure => simp [intOf]; omega
    · obtain rfl : k = N := by omega
      obtain ⟨h1, h2⟩ := Hlaw.out
      have m0 : 0 ≤ (S : Int) * (l.data + l.more) := Int.mul_nonneg (by omega) (by omega)
      have m1 : (S : Int) * (l.data + l.more) ≤ 64 * (l.data + l.more) := Int.mul_le_mul_of_nonneg_right (by omega) (by omega)
      have e1 : (Layout.sumT f k == (S : Int) * (l.data + l.more)) = true := by rw [beq_iff_eq]; exact Hsum.out
      have e2 : decide (highT f k - lowT f k ≤ l.data + l.more) = true := decide_eq_true h1
      have q2 := (br.cell (p := ⟨w.heap.size, 0, none⟩) (cell_lt k2)).trans k2
      have q3 := (br.cell (p := ⟨w.heap.size, 1, none⟩) (cell_lt k3)).trans k3
      have q4 := (br.cell (p := ⟨w.heap.size, 2, none⟩) (cell_lt k4)).trans k4
      have q5 := (br.cell (p := ⟨w.heap.size, 3, none⟩) (cell_lt k5)).trans k5
      clear sb
      by_cases hz : (S : Int) % l.nodes = 0
      · have e3 : ((S : Int) % l.nodes != 0) = false := by simpa using hz
        have e4 : (lowT f k == highT f k) = true := by rw [beq_iff_eq]; exact h2 hz
        clear h1 h2 hz
        go_wp2
        go_ret
        exact ⟨by simp, b7.trans (br.mono b7.size)⟩
      · have e3 : ((S : Int) % l.nodes != 0) = true := by simpa using hz
        clear h1 h2 hz
        go_wp2
        go_ret
        exact ⟨by simp, b7.trans (br.mono b7.size)⟩
theorem even_ok (l : Layout) (h0 : l.checkE = 0) (S : Nat) (hS : S ≤ 64) (w : World) :
    Calls Try.prog 5 #[l.v, I S] w fun e w' => e = .returned (.bool true) ∧ Below w.heap.size w w' := by
  obtain ⟨⟨g1, g2⟩, ⟨g3, g4⟩, ⟨g5, g6⟩, g7, g8, g9⟩ := Layout.good h0
  exact even_core l l.nodes.toNat S (fun n => l.cnt n S) (by omega) hS g1 g2 g3 g4 g5 g6 (Lib.hid fun w => load_ok l h0 S hS w) (Lib.hid fun n => by have := l.cnt_bd n S; omega) (Lib.hid (even_law h0 S hS)) (Lib.hid (Layout.sum_cnt h0 S)) w
theorem LayoutEven_walk (l : Layout) (_ : l.ok) (s : Int) (_ws : (Lit.int .i64 s).wf = true) (w : World) :
    Calls Try.prog 5 #[l.v, I s] w fun e w' => e = .returned (.bool true) ∧ Below w.heap.size w w' := by
  by_cases h : l.checkE = 0 ∧ wi s 0 64 = true
  · obtain ⟨S, rfl⟩ := Int.eq_ofNat_of_zero_le (wi_bd h.2).1
    exact even_ok l h.1 S (by have := (wi_bd h.2).2; omega) w
  · have he : (l.loadE s != 0) = true := by
      rw [bne_iff_ne]
      intro h2
      apply h
      unfold Layout.loadE at h2
      split at h2
      · rename_i h3
        split at h2
        · rename_i h4; exact ⟨h3, h4⟩
        · simp at h2
      · rename_i h3; exact absurd h2 h3
    have H := Lib.hid h
    clear h
    go_enter Try.func5, Try.ntmps5
    go_wp2_with (first
      | (go_at_call 11; (with_reducible refine (load_bad l s H.out _).mono ?_); rintro e w1 ⟨rfl, b1⟩; ((try clear c0 f0); first | (replace b0 := bt b0 b1) | (replace b0 := bt (ba b0 _) b1) | (replace b0 := bt (ba (ba b0 _) _) b1) | (replace b0 := bt (bdr b0) b1) | (have b0 := b1)); (try replace hr := GoT.step hr b1); (try replace hs := GoT.step hs b1); (try replace HR := Lib.hid (HR.out.of_block (b1.block _ HR.out.lt))); clear b1; obtain ⟨c0, f0⟩ := bcell b0)
      | (go_at_call 16; (with_reducible refine (begun_any _).mono ?_); rintro e w1 ⟨rfl, b1⟩; ((try clear c0 f0); first | (replace b0 := bt b0 b1) | (replace b0 := bt (ba b0 _) b1) | (replace b0 := bt (ba (ba b0 _) _) b1) | (replace b0 := bt (bdr b0) b1) | (have b0 := b1)); (try replace hr := GoT.step hr b1); (try replace hs := GoT.step hs b1); (try replace HR := Lib.hid (HR.out.of_block (b1.block _ HR.out.lt))); clear b1; obtain ⟨c0, f0⟩ := bcell b0))
    go_ret
    exact ⟨rfl, by (repeat' (first | exact Below.refl _ _ | assumption | (refine ba ?_ _) | (refine bdr ?_) | (refine bset ?_ _ ?_ _) | (refine bt ?_ (by assumption)) | (simp; done) | (simp; omega)))⟩
theorem LayoutEven_own : ownKnob Try.prog.godebug = none := by kernel_rfl
theorem LayoutEven_laidOut : laidOutB Try.prog = true := by kernel_rfl
set_option maxRecDepth 100000 in
set_option linter.unusedVariables false in
theorem LayoutEven_lifted (os : Os) (started : os.Started) (H : Type) (enc : TypeId × Value → H) :
    ReturnsInHanded {} Try.checked os 5 .any (Rows.layoutEvenSpec.pre6 enc Try.prog Try.f5 Rows.layoutEvenRow.domain false) (Rows.layoutEvenSpec.post enc Try.prog Try.f5 false true false false) := by
  refine returnsInHanded_of_change (C := Try.checked) LayoutEven_own started (by kernel_rfl) Try.func5
    (ChangeSpec.witness6 (enc := enc) (C := Try.checked) false ⟨#[], #[.agg #[.int .i64 0, .int .i64 0, .int .i64 0, .int .i64 0], .int .i64 0], []⟩ 8 (by kernel_rfl) (by kernel_rfl) (by kernel_rfl) (by kernel_rfl)) ?_
  intro W base args ds gs before hval0 hW hcnd _
  have hval : ∀ (j : Nat) t v, Try.f5.params[j]? = some t → args[j]? = some v → Value.okWide Try.prog W .any base t v := hval0
  have hW' := hW
  obtain ⟨p, q, hA0, hV, rfl, hfz, hnd⟩ := hW
  have hA : DataW.TrodAll enc Try.prog W 0 (fun _ => true) true Try.f5.params.toList args.toList ds p := hA0
  rw [Try.params5] at hA hval
  obtain ⟨v0, vs0, d0, ds0, p0, q0, hargs, rfl, rfl, h0, r0⟩ := trodAll_cons hA
  obtain ⟨v1, vs1, d1, ds1, p1, q1, rfl, rfl, rfl, h1, r1⟩ := trodAll_cons r0
  obtain ⟨rfl, rfl, rfl⟩ := trodAll_nil r1
  obtain rfl : args = #[v0, v1] := by cases args; simp_all
  obtain ⟨rfl, rfl⟩ := trodVars_none hV
  have k0 := h0
  have lt0 : ∀ x ∈ p0, x.block < W.heap.size := by obtain ⟨m, hm⟩ := k0; exact DataW.trod_lt m _ _ _ hm
  obtain ⟨x0, cs0, rfl, w0⟩ := open_agg opens_Layout Try.underlying23 (hval 0 23 v0 rfl rfl) h0
  obtain ⟨rfl, ok0⟩ := Layout.flat w0
  have k1 := h1
  have lt1 : ∀ x ∈ p1, x.block < W.heap.size := by obtain ⟨m, hm⟩ := k1; exact DataW.trod_lt m _ _ _ hm
  obtain ⟨a1, rfl, e1, e1', w1⟩ := open_int Try.underlying3 (hval 1 3 v1 rfl rfl) h1
  clear hA0 hval0
  refine (LayoutEven_walk x0 ok0 a1 w1 W).mono fun e W' ⟨he, bel⟩ => ?_
  subst he
  exact ⟨_, rfl, _, _, _, [], _, [], hW', trodAll_mk1 (shut_bool Try.underlying4 _), (trodAll_cons_mk (Below.trod LayoutEven_laidOut (by kernel_rfl) (of_decide_eq_true (by kernel_rfl)) k0 bel lt0) (trodAll_cons_mk (Below.trod LayoutEven_laidOut (by kernel_rfl) (of_decide_eq_true (by kernel_rfl)) k1 bel lt1) trodAll_mk0)), rfl, bel.frame _, fun h => by cases h⟩
theorem LayoutEven_closed : joinedFacts Try.prog 5 Try.f5 Rows.layoutEvenSpec Rows.layoutEvenRow = true := by
  unfold joinedFacts
  repeat' (with_reducible refine and_tt ?_ ?_)
  all_goals as_aux_lemma => kernel_rfl
theorem LayoutEven_over : Rows.layoutEvenRow.holds Try.pinned (OpenSpec.ofChange Rows.layoutEvenSpec) :=
  OpenClaim.holds_of_wide 5 Try.f5 rfl rfl rfl rfl rfl rfl rfl ⟨rfl, rfl, rfl, rfl, rfl⟩ rfl rfl rfl rfl rfl (by as_aux_lemma => kernel_rfl) Try.func5 LayoutEven_closed
    (of_decide_eq_true (by as_aux_lemma => kernel_rfl)) (by unfold Func.isWrapper; rw [if_neg (of_decide_eq_false (by as_aux_lemma => kernel_rfl))]; exact ⟨rfl, rfl⟩)
    (fun os started H enc _ => LayoutEven_lifted os started H enc)
theorem LayoutEven_holds : Rows.LayoutEvenSaid := LayoutEven_over
end Go.Proofs.Ytikbignmpoefkaa
