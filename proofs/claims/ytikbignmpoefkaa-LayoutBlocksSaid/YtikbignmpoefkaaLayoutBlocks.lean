/- Different blocks are different pieces; adjacent blocks are in the same or in adjacent stripes: the law LayoutBlocks returns true. No condition. -/
import Derived.Test.YtikbignmpoefkaaLayoutB
import Derived.Outline
namespace Go.Proofs.Ytikbignmpoefkaa
open Go.ChangeShapes Go.WideShapes Go.ChangeAt Go.RowKit
open Go.ChangeMaps (open_string shut_string)
theorem div_mod_inj {a b d : Int} (h1 : a / d = b / d) (h2 : a % d = b % d) : a = b := by
  have h3 := Int.emod_add_mul_ediv a d
  have h4 := Int.emod_add_mul_ediv b d
  rw [h1] at h3
  omega
theorem next_block {a d : Int} (hd : 1 ≤ d) (_ha : 0 ≤ a) : ((a + 1) / d = a / d ∧ (a + 1) % d = a % d + 1) ∨ ((a + 1) / d = a / d + 1 ∧ (a + 1) % d = 0 ∧ a % d = d - 1) := by
  have h3 := Int.emod_add_mul_ediv a d
  have h4 := Int.emod_nonneg a (show d ≠ 0 by omega)
  have h5 := Int.emod_lt_of_pos a (show 0 < d by omega)
  by_cases h : a % d = d - 1
  · right
    have h6 : (a + 1) % d = 0 := Layout.emod_uniq (by omega) (by omega) ⟨a / d + 1, by rw [Int.mul_add]; omega⟩
    have h7 := Int.emod_add_mul_ediv (a + 1) d
    refine ⟨Int.eq_of_mul_eq_mul_left (a := d) (by omega) (by rw [Int.mul_add]; omega), h6, h⟩
  · left
    have h6 : (a + 1) % d = a % d + 1 := Layout.emod_uniq (by omega) (by omega) ⟨a / d, by omega⟩
    have h7 := Int.emod_add_mul_ediv (a + 1) d
    exact ⟨Int.eq_of_mul_eq_mul_left (a := d) (by omega) (by omega), h6⟩
set_option maxRecDepth 100000 in
set_option maxHeartbeats 1600000 in
theorem LayoutBlocks_walk (l : Layout) (_ : l.ok) (a : Int) (_wa : (Lit.int .i64 a).wf = true) (b : Int) (_wb : (Lit.int .i64 b).wf = true) (w : World) :
    Calls Try.prog 6 #[l.v, I a, I b] w fun e w' => e = .returned (.bool true) ∧ Below w.heap.size w w' := by
  by_cases ha : l.blockE a = 0
  · by_cases hb : l.blockE b = 0
    · have key : ∀ n, l.blockE n = 0 → l.checkE = 0 ∧ 0 ≤ n ∧ n ≤ 64 * l.data - 1 ∧ l.blockS n = n / l.data ∧ l.blockP n = n % l.data := by
        intro n hn
        unfold Layout.blockE at hn
        split at hn
        · rename_i h0
          split at hn
          · rename_i h1
            have := wi_bd h1
            exact ⟨h0, this.1, this.2, by simp [Layout.blockS, h0, h1], by simp [Layout.blockP, h0, h1]⟩
          · simp at hn
        · rename_i h0; exact absurd hn h0
      obtain ⟨h0, a1, a2, a3, a4⟩ := key a ha
      obtain ⟨_, c1, c2, c3, c4⟩ := key b hb
      obtain ⟨_, ⟨g1, g2⟩, _⟩ := Layout.good h0
      have p1 := Int.emod_nonneg a (show l.data ≠ 0 by omega)
      have p2 := Int.emod_lt_of_pos a (show 0 < l.data by omega)
      have p3 := Int.emod_add_mul_ediv a l.data
      have q1 := Int.ediv_nonneg a1 (show 0 ≤ l.data by omega)
      have q2 : a / l.data ≤ a := Int.ediv_le_self _ a1
      have q3 := Int.ediv_nonneg c1 (show 0 ≤ l.data by omega)
      have q4 : b / l.data ≤ b := Int.ediv_le_self _ c1
      have p4 := Int.emod_nonneg b (show l.data ≠ 0 by omega)
      have p5 := Int.emod_lt_of_pos b (show 0 < l.data by omega)
      have hM : a / l.data * l.data = a - a % l.data := by rw [Int.mul_comm]; omega
      have hsame : a = b → a / l.data = b / l.data ∧ a % l.data = b % l.data := fun h => by rw [h]; exact ⟨rfl, rfl⟩
      have hab : a = b ∨ (a ≠ b ∧ a / l.data ≠ b / l.data) ∨ (a ≠ b ∧ a / l.data = b / l.data ∧ a % l.data ≠ b % l.data) := by
        by_cases h : a = b
        · exact .inl h
        · by_cases h2 : a / l.data = b / l.data
          · exact .inr (.inr ⟨h, h2, fun h3 => h (div_mod_inj h2 h3)⟩)
          · exact .inr (.inl ⟨h, h2⟩)
      have hnx : b = a + 1 → (b / l.data = a / l.data ∧ b % l.data = a % l.data + 1) ∨ (b / l.data = a / l.data + 1 ∧ b % l.data = 0 ∧ a % l.data = l.data - 1) := by
        rintro rfl; exact next_block g1 a1
      have kA : Hid (∀ w, Calls Try.prog 10 #[l.v, I a] w fun e w' => e = .returned (.tuple #[I (a / l.data), I (a % l.data), I 0]) ∧ Below w.heap.size w w') := Lib.hid fun w => by
        have h := block_any l a w
        rwa [a3, a4, ha] at h
      have kB : Hid (∀ w, Calls Try.prog 10 #[l.v, I b] w fun e w' => e = .returned (.tuple #[I (b / l.data), I (b % l.data), I 0]) ∧ Below w.heap.size w w') := Lib.hid fun w => by
        have h := block_any l b w
        rwa [c3, c4, hb] at h
      clear a3 a4 c3 c4 key ha hb h0 p3
      generalize a / l.data = A at *
      generalize b / l.data = Bq at *
      generalize a % l.data = C at *
      generalize b % l.data = D at *
      have key : (a = b ∧ A = Bq ∧ C = D) ∨ (b ≠ a + 1 ∧ a ≠ b ∧ A ≠ Bq) ∨ (b ≠ a + 1 ∧ a ≠ b ∧ A = Bq ∧ C ≠ D) ∨ (b = a + 1 ∧ A = Bq ∧ D = C + 1) ∨ (b = a + 1 ∧ Bq = A + 1 ∧ D = 0 ∧ C = l.data - 1) := by
        by_cases hb : b = a + 1
        · rcases hnx hb with h | h
          · exact .inr (.inr (.inr (.inl ⟨hb, h.1.symm, h.2⟩)))
          · exact .inr (.inr (.inr (.inr ⟨hb, h⟩)))
        · rcases hab with h | h | h
          · exact .inl ⟨h, hsame h⟩
          · exact .inr (.inl ⟨hb, h⟩)
          · exact .inr (.inr (.inl ⟨hb, h⟩))
      clear hab hnx hsame
      rcases key with ⟨rfl, rfl, rfl⟩ | ⟨t1, t2, t3⟩ | ⟨t1, t2, rfl, t3⟩ | ⟨rfl, rfl, rfl⟩ | ⟨rfl, rfl, rfl, rfl⟩
      · have u1 : (a != a + 1) = true := by rw [bne_iff_ne]; omega
        go_enter Try.func6, Try.ntmps6
        go_wp2_with (first
          | (go_at_call 10; (with_reducible refine (kA.out _).mono ?_); rintro e w1 ⟨rfl, b1⟩; ((try clear c0 f0); first | (replace b0 := bt b0 b1) | (replace b0 := bt (ba b0 _) b1) | (replace b0 := bt (ba (ba b0 _) _) b1) | (replace b0 := bt (bdr b0) b1) | (have b0 := b1)); (try replace hr := GoT.step hr b1); (try replace hs := GoT.step hs b1); (try replace HR := Lib.hid (HR.out.of_block (b1.block _ HR.out.lt))); clear b1; obtain ⟨c0, f0⟩ := bcell b0)
          | (go_at_call 10; (with_reducible refine (kB.out _).mono ?_); rintro e w1 ⟨rfl, b1⟩; ((try clear c0 f0); first | (replace b0 := bt b0 b1) | (replace b0 := bt (ba b0 _) b1) | (replace b0 := bt (ba (ba b0 _) _) b1) | (replace b0 := bt (bdr b0) b1) | (have b0 := b1)); (try replace hr := GoT.step hr b1); (try replace hs := GoT.step hs b1); (try replace HR := Lib.hid (HR.out.of_block (b1.block _ HR.out.lt))); clear b1; obtain ⟨c0, f0⟩ := bcell b0)
          | (go_at_call 16; (with_reducible refine (begun_any _).mono ?_); rintro e w1 ⟨rfl, b1⟩; ((try clear c0 f0); first | (replace b0 := bt b0 b1) | (replace b0 := bt (ba b0 _) b1) | (replace b0 := bt (ba (ba b0 _) _) b1) | (replace b0 := bt (bdr b0) b1) | (have b0 := b1)); (try replace hr := GoT.step hr b1); (try replace hs := GoT.step hs b1); (try replace HR := Lib.hid (HR.out.of_block (b1.block _ HR.out.lt))); clear b1; obtain ⟨c0, f0⟩ := bcell b0))
        go_ret
        exact ⟨by simp, by (repeat' (first | exact Below.refl _ _ | assumption | (refine ba ?_ _) | (refine bdr ?_) | (refine bset ?_ _ ?_ _) | (refine bt ?_ (by assumption)) | (simp; done) | (simp; omega)))⟩
      · have u1 : (b != a + 1) = true := by rw [bne_iff_ne]; omega
        have u2 : (a == b) = false := by rw [beq_eq_false_iff_ne]; omega
        have u3 : (A == Bq) = false := by rw [beq_eq_false_iff_ne]; omega
        go_enter Try.func6, Try.ntmps6
        go_wp2_with (first
          | (go_at_call 10; (with_reducible refine (kA.out _).mono ?_); rintro e w1 ⟨rfl, b1⟩; ((try clear c0 f0); first | (replace b0 := bt b0 b1) | (replace b0 := bt (ba b0 _) b1) | (replace b0 := bt (ba (ba b0 _) _) b1) | (replace b0 := bt (bdr b0) b1) | (have b0 := b1)); (try replace hr := GoT.step hr b1); (try replace hs := GoT.step hs b1); (try replace HR := Lib.hid (HR.out.of_block (b1.block _ HR.out.lt))); clear b1; obtain ⟨c0, f0⟩ := bcell b0)
          | (go_at_call 10; (with_reducible refine (kB.out _).mono ?_); rintro e w1 ⟨rfl, b1⟩; ((try clear c0 f0); first | (replace b0 := bt b0 b1) | (replace b0 := bt (ba b0 _) b1) | (replace b0 := bt (ba (ba b0 _) _) b1) | (replace b0 := bt (bdr b0) b1) | (have b0 := b1)); (try replace hr := GoT.step hr b1); (try replace hs := GoT.step hs b1); (try replace HR := Lib.hid (HR.out.of_block (b1.block _ HR.out.lt))); clear b1; obtain ⟨c0, f0⟩ := bcell b0)
          | (go_at_call 16; (with_reducible refine (begun_any _).mono ?_); rintro e w1 ⟨rfl, b1⟩; ((try clear c0 f0); first | (replace b0 := bt b0 b1) | (replace b0 := bt (ba b0 _) b1) | (replace b0 := bt (ba (ba b0 _) _) b1) | (replace b0 := bt (bdr b0) b1) | (have b0 := b1)); (try replace hr := GoT.step hr b1); (try replace hs := GoT.step hs b1); (try replace HR := Lib.hid (HR.out.of_block (b1.block _ HR.out.lt))); clear b1; obtain ⟨c0, f0⟩ := bcell b0))
        go_ret
        exact ⟨by simp, by (repeat' (first | exact Below.refl _ _ | assumption | (refine ba ?_ _) | (refine bdr ?_) | (refine bset ?_ _ ?_ _) | (refine bt ?_ (by assumption)) | (simp; done) | (simp; omega)))⟩
      · have u1 : (b != a + 1) = true := by rw [bne_iff_ne]; omega
        have u2 : (a == b) = false := by rw [beq_eq_false_iff_ne]; omega
        have u3 : (C == D) = false := by rw [beq_eq_false_iff_ne]; omega
        go_enter Try.func6, Try.ntmps6
        go_wp2_with (first
          | (go_at_call 10; (with_reducible refine (kA.out _).mono ?_); rintro e w1 ⟨rfl, b1⟩; ((try clear c0 f0); first | (replace b0 := bt b0 b1) | (replace b0 := bt (ba b0 _) b1) | (replace b0 := bt (ba (ba b0 _) _) b1) | (replace b0 := bt (bdr b0) b1) | (have b0 := b1)); (try replace hr := GoT.step hr b1); (try replace hs := GoT.step hs b1); (try replace HR := Lib.hid (HR.out.of_block (b1.block _ HR.out.lt))); clear b1; obtain ⟨c0, f0⟩ := bcell b0)
          | (go_at_call 10; (with_reducible refine (kB.out _).mono ?_); rintro e w1 ⟨rfl, b1⟩; ((try clear c0 f0); first | (replace b0 := bt b0 b1) | (replace b0 := bt (ba b0 _) b1) | (replace b0 := bt (ba (ba b0 _) _) b1) | (replace b0 := bt (bdr b0) b1) | (have b0 := b1)); (try replace hr := GoT.step hr b1); (try replace hs := GoT.step hs b1); (try replace HR := Lib.hid (HR.out.of_block (b1.block _ HR.out.lt))); clear b1; obtain ⟨c0, f0⟩ := bcell b0)
          | (go_at_call 16; (with_reducible refine (begun_any _).mono ?_); rintro e w1 ⟨rfl, b1⟩; ((try clear c0 f0); first | (replace b0 := bt b0 b1) | (replace b0 := bt (ba b0 _) b1) | (replace b0 := bt (ba (ba b0 _) _) b1) | (replace b0 := bt (bdr b0) b1) | (have b0 := b1)); (try replace hr := GoT.step hr b1); (try replace hs := GoT.step hs b1); (try replace HR := Lib.hid (HR.out.of_block (b1.block _ HR.out.lt))); clear b1; obtain ⟨c0, f0⟩ := bcell b0))
        go_ret
        exact ⟨by simp, by (repeat' (first | exact Below.refl _ _ | assumption | (refine ba ?_ _) | (refine bdr ?_) | (refine bset ?_ _ ?_ _) | (refine bt ?_ (by assumption)) | (simp; done) | (simp; omega)))⟩
      · have u2 : (a == a + 1) = false := by rw [beq_eq_false_iff_ne]; omega
        have u3 : (C == C + 1) = false := by rw [beq_eq_false_iff_ne]; omega
        go_enter Try.func6, Try.ntmps6
        go_wp2_with (first
          | (go_at_call 10; (with_reducible refine (kA.out _).mono ?_); rintro e w1 ⟨rfl, b1⟩; ((try clear c0 f0); first | (replace b0 := bt b0 b1) | (replace b0 := bt (ba b0 _) b1) | (replace b0 := bt (ba (ba b0 _) _) b1) | (replace b0 := bt (bdr b0) b1) | (have b0 := b1)); (try replace hr := GoT.step hr b1); (try replace hs := GoT.step hs b1); (try replace HR := Lib.hid (HR.out.of_block (b1.block _ HR.out.lt))); clear b1; obtain ⟨c0, f0⟩ := bcell b0)
          | (go_at_call 10; (with_reducible refine (kB.out _).mono ?_); rintro e w1 ⟨rfl, b1⟩; ((try clear c0 f0); first | (replace b0 := bt b0 b1) | (replace b0 := bt (ba b0 _) b1) | (replace b0 := bt (ba (ba b0 _) _) b1) | (replace b0 := bt (bdr b0) b1) | (have b0 := b1)); (try replace hr := GoT.step hr b1); (try replace hs := GoT.step hs b1); (try replace HR := Lib.hid (HR.out.of_block (b1.block _ HR.out.lt))); clear b1; obtain ⟨c0, f0⟩ := bcell b0)
          | (go_at_call 16; (with_reducible refine (begun_any _).mono ?_); rintro e w1 ⟨rfl, b1⟩; ((try clear c0 f0); first | (replace b0 := bt b0 b1) | (replace b0 := bt (ba b0 _) b1) | (replace b0 := bt (ba (ba b0 _) _) b1) | (replace b0 := bt (bdr b0) b1) | (have b0 := b1)); (try replace hr := GoT.step hr b1); (try replace hs := GoT.step hs b1); (try replace HR := Lib.hid (HR.out.of_block (b1.block _ HR.out.lt))); clear b1; obtain ⟨c0, f0⟩ := bcell b0))
        go_ret
        exact ⟨by simp, by (repeat' (first | exact Below.refl _ _ | assumption | (refine ba ?_ _) | (refine bdr ?_) | (refine bset ?_ _ ?_ _) | (refine bt ?_ (by assumption)) | (simp; done) | (simp; omega)))⟩
      · have u2 : (a == a + 1) = false := by rw [beq_eq_false_iff_ne]; omega
        have u3 : (A == A + 1) = false := by rw [beq_eq_false_iff_ne]; omega
        have u4 : (A + 1 == A) = false := by rw [beq_eq_false_iff_ne]; omega
        go_enter Try.func6, Try.ntmps6
        go_wp2_with (first
          | (go_at_call 10; (with_reducible refine (kA.out _).mono ?_); rintro e w1 ⟨rfl, b1⟩; ((try clear c0 f0); first | (replace b0 := bt b0 b1) | (replace b0 := bt (ba b0 _) b1) | (replace b0 := bt (ba (ba b0 _) _) b1) | (replace b0 := bt (bdr b0) b1) | (have b0 := b1)); (try replace hr := GoT.step hr b1); (try replace hs := GoT.step hs b1); (try replace HR := Lib.hid (HR.out.of_block (b1.block _ HR.out.lt))); clear b1; obtain ⟨c0, f0⟩ := bcell b0)
          | (go_at_call 10; (with_reducible refine (kB.out _).mono ?_); rintro e w1 ⟨rfl, b1⟩; ((try clear c0 f0); first | (replace b0 := bt b0 b1) | (replace b0 := bt (ba b0 _) b1) | (replace b0 := bt (ba (ba b0 _) _) b1) | (replace b0 := bt (bdr b0) b1) | (have b0 := b1)); (try replace hr := GoT.step hr b1); (try replace hs := GoT.step hs b1); (try replace HR := Lib.hid (HR.out.of_block (b1.block _ HR.out.lt))); clear b1; obtain ⟨c0, f0⟩ := bcell b0)
          | (go_at_call 16; (with_reducible refine (begun_any _).mono ?_); rintro e w1 ⟨rfl, b1⟩; ((try clear c0 f0); first | (replace b0 := bt b0 b1) | (replace b0 := bt (ba b0 _) b1) | (replace b0 := bt (ba (ba b0 _) _) b1) | (replace b0 := bt (bdr b0) b1) | (have b0 := b1)); (try replace hr := GoT.step hr b1); (try replace hs := GoT.step hs b1); (try replace HR := Lib.hid (HR.out.of_block (b1.block _ HR.out.lt))); clear b1; obtain ⟨c0, f0⟩ := bcell b0))
        go_ret
        exact ⟨by simp, by (repeat' (first | exact Below.refl _ _ | assumption | (refine ba ?_ _) | (refine bdr ?_) | (refine bset ?_ _ ?_ _) | (refine bt ?_ (by assumption)) | (simp; done) | (simp; omega)))⟩
    · have e1 : (l.blockE a != 0) = false := by simpa using ha
      have e2 : (l.blockE b != 0) = true := by simpa using hb
      clear ha hb
      go_enter Try.func6, Try.ntmps6
      go_wp2_with (first
        | (go_at_call 10; (with_reducible refine (block_any l _ _).mono ?_); rintro e w1 ⟨rfl, b1⟩; ((try clear c0 f0); first | (replace b0 := bt b0 b1) | (replace b0 := bt (ba b0 _) b1) | (replace b0 := bt (ba (ba b0 _) _) b1) | (replace b0 := bt (bdr b0) b1) | (have b0 := b1)); (try replace hr := GoT.step hr b1); (try replace hs := GoT.step hs b1); (try replace HR := Lib.hid (HR.out.of_block (b1.block _ HR.out.lt))); clear b1; obtain ⟨c0, f0⟩ := bcell b0)
        | (go_at_call 16; (with_reducible refine (begun_any _).mono ?_); rintro e w1 ⟨rfl, b1⟩; ((try clear c0 f0); first | (replace b0 := bt b0 b1) | (replace b0 := bt (ba b0 _) b1) | (replace b0 := bt (ba (ba b0 _) _) b1) | (replace b0 := bt (bdr b0) b1) | (have b0 := b1)); (try replace hr := GoT.step hr b1); (try replace hs := GoT.step hs b1); (try replace HR := Lib.hid (HR.out.of_block (b1.block _ HR.out.lt))); clear b1; obtain ⟨c0, f0⟩ := bcell b0))
      go_ret
      exact ⟨rfl, by (repeat' (first | exact Below.refl _ _ | assumption | (refine ba ?_ _) | (refine bdr ?_) | (refine bset ?_ _ ?_ _) | (refine bt ?_ (by assumption)) | (simp; done) | (simp; omega)))⟩
  · have e1 : (l.blockE a != 0) = true := by simpa using ha
    clear ha
    go_enter Try.func6, Try.ntmps6
    go_wp2_with (first
      | (go_at_call 10; (with_reducible refine (block_any l _ _).mono ?_); rintro e w1 ⟨rfl, b1⟩; ((try clear c0 f0); first | (replace b0 := bt b0 b1) | (replace b0 := bt (ba b0 _) b1) | (replace b0 := bt (ba (ba b0 _) _) b1) | (replace b0 := bt (bdr b0) b1) | (have b0 := b1)); (try replace hr := GoT.step hr b1); (try replace hs := GoT.step hs b1); (try replace HR := Lib.hid (HR.out.of_block (b1.block _ HR.out.lt))); clear b1; obtain ⟨c0, f0⟩ := bcell b0)
      | (go_at_call 16; (with_reducible refine (begun_any _).mono ?_); rintro e w1 ⟨rfl, b1⟩; ((try clear c0 f0); first | (replace b0 := bt b0 b1) | (replace b0 := bt (ba b0 _) b1) | (replace b0 := bt (ba (ba b0 _) _) b1) | (replace b0 := bt (bdr b0) b1) | (have b0 := b1)); (try replace hr := GoT.step hr b1); (try replace hs := GoT.step hs b1); (try replace HR := Lib.hid (HR.out.of_block (b1.block _ HR.out.lt))); clear b1; obtain ⟨c0, f0⟩ := bcell b0))
    go_ret
    exact ⟨rfl, by (repeat' (first | exact Below.refl _ _ | assumption | (refine ba ?_ _) | (refine bdr ?_) | (refine bset ?_ _ ?_ _) | (refine bt ?_ (by assumption)) | (simp; done) | (simp; omega)))⟩
theorem LayoutBlocks_own : ownKnob Try.prog.godebug = none := by kernel_rfl
theorem LayoutBlocks_laidOut : laidOutB Try.prog = true := by kernel_rfl
set_option maxRecDepth 100000 in
set_option linter.unusedVariables false in
theorem LayoutBlocks_lifted (os : Os) (started : os.Started) (H : Type) (enc : TypeId × Value → H) :
    ReturnsInHanded {} Try.checked os 6 .any (Rows.layoutBlocksSpec.pre6 enc Try.prog Try.f6 Rows.layoutBlocksRow.domain false) (Rows.layoutBlocksSpec.post enc Try.prog Try.f6 false true false false) := by
  refine returnsInHanded_of_change (C := Try.checked) LayoutBlocks_own started (by kernel_rfl) Try.func6
    (ChangeSpec.witness6 (enc := enc) (C := Try.checked) false ⟨#[], #[.agg #[.int .i64 0, .int .i64 0, .int .i64 0, .int .i64 0], .int .i64 0, .int .i64 0], []⟩ 8 (by kernel_rfl) (by kernel_rfl) (by kernel_rfl) (by kernel_rfl)) ?_
  intro W base args ds gs before hval0 hW hcnd _
  have hval : ∀ (j : Nat) t v, Try.f6.params[j]? = some t → args[j]? = some v → Value.okWide Try.prog W .any base t v := hval0
  have hW' := hW
  obtain ⟨p, q, hA0, hV, rfl, hfz, hnd⟩ := hW
  have hA : DataW.TrodAll enc Try.prog W 0 (fun _ => true) true Try.f6.params.toList args.toList ds p := hA0
  rw [Try.params6] at hA hval
  obtain ⟨v0, vs0, d0, ds0, p0, q0, hargs, rfl, rfl, h0, r0⟩ := trodAll_cons hA
  obtain ⟨v1, vs1, d1, ds1, p1, q1, rfl, rfl, rfl, h1, r1⟩ := trodAll_cons r0
  obtain ⟨v2, vs2, d2, ds2, p2, q2, rfl, rfl, rfl, h2, r2⟩ := trodAll_cons r1
  obtain ⟨rfl, rfl, rfl⟩ := trodAll_nil r2
  obtain rfl : args = #[v0, v1, v2] := by cases args; simp_all
  obtain ⟨rfl, rfl⟩ := trodVars_none hV
  have k0 := h0
  have lt0 : ∀ x ∈ p0, x.block < W.heap.size := by obtain ⟨m, hm⟩ := k0; exact DataW.trod_lt m _ _ _ hm
  obtain ⟨x0, cs0, rfl, w0⟩ := open_agg opens_Layout Try.underlying23 (hval 0 23 v0 rfl rfl) h0
  obtain ⟨rfl, ok0⟩ := Layout.flat w0
  have k1 := h1
  have lt1 : ∀ x ∈ p1, x.block < W.heap.size := by obtain ⟨m, hm⟩ := k1; exact DataW.trod_lt m _ _ _ hm
  obtain ⟨a1, rfl, e1, e1', w1⟩ := open_int Try.underlying3 (hval 1 3 v1 rfl rfl) h1
  have k2 := h2
  have lt2 : ∀ x ∈ p2, x.block < W.heap.size := by obtain ⟨m, hm⟩ := k2; exact DataW.trod_lt m _ _ _ hm
  obtain ⟨a2, rfl, e2, e2', w2⟩ := open_int Try.underlying3 (hval 2 3 v2 rfl rfl) h2
  clear hA0 hval0
  refine (LayoutBlocks_walk x0 ok0 a1 w1 a2 w2 W).mono fun e W' ⟨he, bel⟩ => ?_
  subst he
  exact ⟨_, rfl, _, _, _, [], _, [], hW', trodAll_mk1 (shut_bool Try.underlying4 _), (trodAll_cons_mk (Below.trod LayoutBlocks_laidOut (by kernel_rfl) (of_decide_eq_true (by kernel_rfl)) k0 bel lt0) (trodAll_cons_mk (Below.trod LayoutBlocks_laidOut (by kernel_rfl) (of_decide_eq_true (by kernel_rfl)) k1 bel lt1) (trodAll_cons_mk (Below.trod LayoutBlocks_laidOut (by kernel_rfl) (of_decide_eq_true (by kernel_rfl)) k2 bel lt2) trodAll_mk0))), rfl, bel.frame _, fun h => by cases h⟩
theorem LayoutBlocks_closed : joinedFacts Try.prog 6 Try.f6 Rows.layoutBlocksSpec Rows.layoutBlocksRow = true := by
  unfold joinedFacts
  repeat' (with_reducible refine and_tt ?_ ?_)
  all_goals as_aux_lemma => kernel_rfl
theorem LayoutBlocks_over : Rows.layoutBlocksRow.holds Try.pinned (OpenSpec.ofChange Rows.layoutBlocksSpec) :=
  OpenClaim.holds_of_wide 6 Try.f6 rfl rfl rfl rfl rfl rfl rfl ⟨rfl, rfl, rfl, rfl, rfl⟩ rfl rfl rfl rfl rfl (by as_aux_lemma => kernel_rfl) Try.func6 LayoutBlocks_closed
    (of_decide_eq_true (by as_aux_lemma => kernel_rfl)) (by unfold Func.isWrapper; rw [if_neg (of_decide_eq_false (by as_aux_lemma => kernel_rfl))]; exact ⟨rfl, rfl⟩)
    (fun os started H enc _ => LayoutBlocks_lifted os started H enc)
theorem LayoutBlocks_holds : Rows.LayoutBlocksSaid := LayoutBlocks_over
end Go.Proofs.Ytikbignmpoefkaa
