/- Plain laws of sums of sets; what must be in any case. No condition. -/
import Derived.Test.YtfgjfghljhldfaaDoorPQuorB
set_option maxRecDepth 100000
set_option maxHeartbeats 4000000
set_option linter.unusedVariables false
set_option linter.unusedSimpArgs false
namespace Go.Proofs.YtfgjfghljhldfaaDoor
def uAnd (a b : U64) : U64 := ⟨(a.n &&& b.n) % 18446744073709551616, Nat.mod_lt _ (by decide)⟩
theorem uAnd_n {a b : U64} : (uAnd a b).n = a.n &&& b.n := Nat.mod_eq_of_lt (Nat.lt_of_le_of_lt Nat.and_le_left a.lt)
theorem uAnd_bits {a b : U64} (_ : (0 : Int) ≤ 0) : bits .and .u64 (a.n : Int) (b.n : Int) = ((uAnd a b).n : Int) := by rw [bits_and_u64_nat a.n b.n a.lt b.lt, uAnd_n]
theorem or_two' (a b i k : Nat) (hi : i < 2) (hk : k < 2) : (2 * a + i) ||| (2 * b + k) = 2 * (a ||| b) + (i ||| k) := by
  have hik : i ||| k < 2 := by
    have : i = 0 ∨ i = 1 := by omega
    have : k = 0 ∨ k = 1 := by omega
    rcases ‹i = 0 ∨ i = 1› with rfl | rfl <;> rcases ‹k = 0 ∨ k = 1› with rfl | rfl <;> decide
  apply Nat.eq_of_testBit_eq
  intro j
  cases j with
  | zero =>
    rw [Nat.testBit_or, Nat.testBit_zero, Nat.testBit_zero, Nat.testBit_zero]
    have : i = 0 ∨ i = 1 := by omega
    have : k = 0 ∨ k = 1 := by omega
    rcases ‹i = 0 ∨ i = 1› with rfl | rfl <;> rcases ‹k = 0 ∨ k = 1› with rfl | rfl <;> simp <;> omega
  | succ j =>
    rw [Nat.testBit_or, Nat.testBit_succ, Nat.testBit_succ, Nat.testBit_succ, show (2 * a + i) / 2 = a by omega, show (2 * b + k) / 2 = b by omega, show (2 * (a ||| b) + (i ||| k)) / 2 = (a ||| b) by omega, Nat.testBit_or]
theorem bit_parts (a b : Nat) : (a ||| b) / 2 = a / 2 ||| b / 2 ∧ (a &&& b) / 2 = a / 2 &&& b / 2 ∧ (a ||| b) % 2 + (a &&& b) % 2 = a % 2 + b % 2 ∧ (a ||| b) % 2 ≥ a % 2 ∧ (a &&& b) % 2 ≤ a % 2 := by
  have ea : a = 2 * (a / 2) + a % 2 := by omega
  have eb : b = 2 * (b / 2) + b % 2 := by omega
  have ho : a ||| b = 2 * (a / 2 ||| b / 2) + (a % 2 ||| b % 2) := by
    conv => lhs; rw [ea, eb]
    exact or_two' _ _ _ _ (by omega) (by omega)
  have hn : a &&& b = 2 * (a / 2 &&& b / 2) + (a % 2 &&& b % 2) := by
    conv => lhs; rw [ea, eb]
    exact land_two _ _ _ _ (by omega) (by omega)
  have h1 : a % 2 = 0 ∨ a % 2 = 1 := by omega
  have h2 : b % 2 = 0 ∨ b % 2 = 1 := by omega
  rcases h1 with h1 | h1 <;> rcases h2 with h2 | h2 <;> rw [h1, h2] at ho hn <;> simp at ho hn <;> omega
theorem bsum_both : ∀ (ws : List Int) (a b : Nat), bsum ws (a ||| b) + bsum ws (a &&& b) = bsum ws a + bsum ws b
  | [], _, _ => rfl
  | w :: ws, a, b => by
    obtain ⟨h1, h2, h3, _, _⟩ := bit_parts a b
    have ih := bsum_both ws (a / 2) (b / 2)
    simp only [bsum, h1, h2]
    have q1 : a % 2 = 0 ∨ a % 2 = 1 := by omega
    have q2 : b % 2 = 0 ∨ b % 2 = 1 := by omega
    have q3 : (a ||| b) % 2 = 0 ∨ (a ||| b) % 2 = 1 := by omega
    have q4 : (a &&& b) % 2 = 0 ∨ (a &&& b) % 2 = 1 := by omega
    rcases q1 with q1 | q1 <;> rcases q2 with q2 | q2 <;> rcases q3 with q3 | q3 <;> rcases q4 with q4 | q4 <;> rw [q1, q2, q3, q4] at h3 ⊢ <;> first | (simp; omega) | omega
theorem bsum_le_all {ws : List Int} (h : ∀ w, w ∈ ws → 0 ≤ w) (a : Nat) : bsum ws a ≤ lsum ws := by
  induction ws generalizing a with
  | nil => simp [bsum, lsum]
  | cons w ws ih =>
    have := ih (fun v hv => h v (List.mem_cons_of_mem _ hv)) (a / 2)
    have hw := h w (by simp)
    simp only [bsum, lsum]; split <;> omega
theorem qc_nn {ws : List Int} {need : Int} (h : qcheckP ws need = 0) : ∀ w, w ∈ ws → 0 ≤ w := fun w hw => ((nodes_bd (qc_nodes h)).2.2.2.2 w hw).1
/-- What Enough says, where it says something. -/
theorem enough_ok {ws : List Int} {need : Int} {x : Nat} (h : (enoughP ws need x).2 = 0) : qcheckP ws need = 0 ∧ x < 2 ^ ws.length ∧ sumP ws x = (bsum ws x, 0) ∧ ((enoughP ws need x).1 = true ↔ need ≤ bsum ws x) := by
  by_cases hq : qcheckP ws need = 0
  · unfold enoughP at h ⊢
    rw [if_neg (fun hh => hh hq)] at h ⊢
    have hx : x < 2 ^ ws.length := by
      by_cases hx : x < 2 ^ ws.length
      · exact hx
      · unfold sumP at h; rw [if_neg (fun hh => hh (qc_nodes hq)), if_pos (by omega)] at h; simp at h
    have hs := sumP_0 (qc_nodes hq) hx
    refine ⟨hq, hx, hs, ?_⟩
    rw [hs]; simp
  · unfold enoughP at h; rw [if_pos hq] at h; exact absurd h hq
theorem shares {ws : List Int} {need : Int} {a b : U64} (h1 : (enoughP ws need a.n).2 = 0) (h2 : (enoughP ws need b.n).2 = 0) (h3 : (enoughP ws need a.n).1 = true) (h4 : (enoughP ws need b.n).1 = true) :
    (sumP ws (uAnd a b).n).2 = 0 ∧ (uAnd a b).n ≠ 0 ∧ 0 < (sumP ws (uAnd a b).n).1 := by
  obtain ⟨q1, q2, q3, q4⟩ := enough_ok h1
  obtain ⟨_, r2, r3, r4⟩ := enough_ok h2
  have k1 := q4.1 h3
  have k2 := r4.1 h4
  have hx : (uAnd a b).n < 2 ^ ws.length := by rw [uAnd_n]; exact Nat.lt_of_le_of_lt Nat.and_le_left q2
  have hb := bsum_both ws a.n b.n
  have hl := bsum_le_all (qc_nn q1) (a.n ||| b.n)
  have hn := qc_need q1
  have hs := sumP_0 (qc_nodes q1) hx
  rw [hs]
  have hp : 0 < bsum ws (uAnd a b).n := by rw [uAnd_n]; omega
  refine ⟨rfl, fun h0 => ?_, hp⟩
  rw [h0, bsum_zero] at hp; omega
theorem qbegun_fn : Fn Tryd.prog 17 [] (.v (.bool true)) := by
  refine fn_walkW F17_ok (of_decide_eq_true (by kernel_rfl)) ?_
  refine EL.sreg ?_
  refine OW.last 1 [] (x' := ⟨[], []⟩) (by kernel_rfl) (by kernel_rfl) ?_
  refine EL.sreg ?_
  refine OW.last 2 [1] (x' := ⟨[(1, .own 0 1 0 4)], [some ⟨1, [[VI 3], [VI 1], [VI 1], [VI 2]]⟩]⟩) (by kernel_rfl) (by kernel_rfl) ?_
  refine EL.sreg ?_
  refine OW.run 1 (x' := ⟨[(14, .own 0 1 0 4), (1, .own 0 1 0 4)], [some ⟨1, [[VI 3], [VI 1], [VI 1], [VI 2]]⟩]⟩) (by kernel_rfl) ?_
  refine OW.fn (ar := [.own 0 1 0 4, .v (.int .u64 5)]) (x' := ⟨[(15, .tup [VI ((sumP ([3, 1, 1, 2]) (⟨5, by decide⟩ : U64).n).1), VI ((sumP ([3, 1, 1, 2]) (⟨5, by decide⟩ : U64).n).2)]), (14, .own 0 1 0 4), (1, .own 0 1 0 4)], [some ⟨1, [[VI 3], [VI 1], [VI 1], [VI 2]]⟩]⟩) (by kernel_rfl) (by kernel_rfl) F9_call (sum_fn ([3, 1, 1, 2]) (⟨5, by decide⟩ : U64) (by decide)) (by kernel_rfl) (by kernel_rfl) ?_
  refine OW.last 5 [1, 2, 3] (x' := ⟨[(3, VI ((sumP ([3, 1, 1, 2]) (⟨5, by decide⟩ : U64).n).2)), (2, VI ((sumP ([3, 1, 1, 2]) (⟨5, by decide⟩ : U64).n).1)), (1, .own 0 1 0 4)], [some ⟨1, [[VI 3], [VI 1], [VI 1], [VI 2]]⟩]⟩) (by kernel_rfl) (by kernel_rfl) ?_
  refine EL.sreg ?_
  refine OW.run 1 (x' := ⟨[(19, .own 0 1 0 4), (3, VI ((sumP ([3, 1, 1, 2]) (⟨5, by decide⟩ : U64).n).2)), (2, VI ((sumP ([3, 1, 1, 2]) (⟨5, by decide⟩ : U64).n).1)), (1, .own 0 1 0 4)], [some ⟨1, [[VI 3], [VI 1], [VI 1], [VI 2]]⟩]⟩) (by kernel_rfl) ?_
  refine OW.fn (ar := [.own 0 1 0 4, VI 4, .v (.int .u64 9)]) (x' := ⟨[(20, .tup [.v (.bool ((enoughP ([3, 1, 1, 2]) 4 (⟨9, by decide⟩ : U64).n).1)), VI ((enoughP ([3, 1, 1, 2]) 4 (⟨9, by decide⟩ : U64).n).2)]), (19, .own 0 1 0 4), (3, VI ((sumP ([3, 1, 1, 2]) (⟨5, by decide⟩ : U64).n).2)), (2, VI ((sumP ([3, 1, 1, 2]) (⟨5, by decide⟩ : U64).n).1)), (1, .own 0 1 0 4)], [some ⟨1, [[VI 3], [VI 1], [VI 1], [VI 2]]⟩]⟩) (by kernel_rfl) (by kernel_rfl) F10_call (enough_fn ([3, 1, 1, 2]) 4 (⟨9, by decide⟩ : U64) (by decide)) (by kernel_rfl) (by kernel_rfl) ?_
  refine OW.last 5 [1, 2, 3, 4, 5] (x' := ⟨[(5, VI ((enoughP ([3, 1, 1, 2]) 4 (⟨9, by decide⟩ : U64).n).2)), (4, .v (.bool ((enoughP ([3, 1, 1, 2]) 4 (⟨9, by decide⟩ : U64).n).1))), (3, VI ((sumP ([3, 1, 1, 2]) (⟨5, by decide⟩ : U64).n).2)), (2, VI ((sumP ([3, 1, 1, 2]) (⟨5, by decide⟩ : U64).n).1)), (1, .own 0 1 0 4)], [some ⟨1, [[VI 3], [VI 1], [VI 1], [VI 2]]⟩]⟩) (by kernel_rfl) (by kernel_rfl) ?_
  refine EL.sreg ?_
  refine OW.run 1 (x' := ⟨[(24, .own 0 1 0 4), (5, VI ((enoughP ([3, 1, 1, 2]) 4 (⟨9, by decide⟩ : U64).n).2)), (4, .v (.bool ((enoughP ([3, 1, 1, 2]) 4 (⟨9, by decide⟩ : U64).n).1))), (3, VI ((sumP ([3, 1, 1, 2]) (⟨5, by decide⟩ : U64).n).2)), (2, VI ((sumP ([3, 1, 1, 2]) (⟨5, by decide⟩ : U64).n).1)), (1, .own 0 1 0 4)], [some ⟨1, [[VI 3], [VI 1], [VI 1], [VI 2]]⟩]⟩) (by kernel_rfl) ?_
  refine OW.fn (ar := [.own 0 1 0 4, VI 4]) (x' := ⟨[(25, .tup [VI ((leastP ([3, 1, 1, 2]) 4).1), VI ((leastP ([3, 1, 1, 2]) 4).2)]), (24, .own 0 1 0 4), (5, VI ((enoughP ([3, 1, 1, 2]) 4 (⟨9, by decide⟩ : U64).n).2)), (4, .v (.bool ((enoughP ([3, 1, 1, 2]) 4 (⟨9, by decide⟩ : U64).n).1))), (3, VI ((sumP ([3, 1, 1, 2]) (⟨5, by decide⟩ : U64).n).2)), (2, VI ((sumP ([3, 1, 1, 2]) (⟨5, by decide⟩ : U64).n).1)), (1, .own 0 1 0 4)], [some ⟨1, [[VI 3], [VI 1], [VI 1], [VI 2]]⟩]⟩) (by kernel_rfl) (by kernel_rfl) F11_call (least_fn ([3, 1, 1, 2]) 4 (by decide)) (by kernel_rfl) (by kernel_rfl) ?_
  refine OW.last 5 [1, 2, 3, 4, 5, 6, 7] (x' := ⟨[(7, VI ((leastP ([3, 1, 1, 2]) 4).2)), (6, VI ((leastP ([3, 1, 1, 2]) 4).1)), (5, VI ((enoughP ([3, 1, 1, 2]) 4 (⟨9, by decide⟩ : U64).n).2)), (4, .v (.bool ((enoughP ([3, 1, 1, 2]) 4 (⟨9, by decide⟩ : U64).n).1))), (3, VI ((sumP ([3, 1, 1, 2]) (⟨5, by decide⟩ : U64).n).2)), (2, VI ((sumP ([3, 1, 1, 2]) (⟨5, by decide⟩ : U64).n).1)), (1, .own 0 1 0 4)], [some ⟨1, [[VI 3], [VI 1], [VI 1], [VI 2]]⟩]⟩) (by kernel_rfl) (by kernel_rfl) ?_
  refine EL.sreg ?_
  refine OW.run 1 (x' := ⟨[(29, .own 0 1 0 4), (7, VI ((leastP ([3, 1, 1, 2]) 4).2)), (6, VI ((leastP ([3, 1, 1, 2]) 4).1)), (5, VI ((enoughP ([3, 1, 1, 2]) 4 (⟨9, by decide⟩ : U64).n).2)), (4, .v (.bool ((enoughP ([3, 1, 1, 2]) 4 (⟨9, by decide⟩ : U64).n).1))), (3, VI ((sumP ([3, 1, 1, 2]) (⟨5, by decide⟩ : U64).n).2)), (2, VI ((sumP ([3, 1, 1, 2]) (⟨5, by decide⟩ : U64).n).1)), (1, .own 0 1 0 4)], [some ⟨1, [[VI 3], [VI 1], [VI 1], [VI 2]]⟩]⟩) (by kernel_rfl) ?_
  refine OW.fn (ar := [.own 0 1 0 4, VI 4]) (x' := ⟨[(30, .tup [VI ((spareP ([3, 1, 1, 2]) 4).1), VI ((spareP ([3, 1, 1, 2]) 4).2)]), (29, .own 0 1 0 4), (7, VI ((leastP ([3, 1, 1, 2]) 4).2)), (6, VI ((leastP ([3, 1, 1, 2]) 4).1)), (5, VI ((enoughP ([3, 1, 1, 2]) 4 (⟨9, by decide⟩ : U64).n).2)), (4, .v (.bool ((enoughP ([3, 1, 1, 2]) 4 (⟨9, by decide⟩ : U64).n).1))), (3, VI ((sumP ([3, 1, 1, 2]) (⟨5, by decide⟩ : U64).n).2)), (2, VI ((sumP ([3, 1, 1, 2]) (⟨5, by decide⟩ : U64).n).1)), (1, .own 0 1 0 4)], [some ⟨1, [[VI 3], [VI 1], [VI 1], [VI 2]]⟩]⟩) (by kernel_rfl) (by kernel_rfl) F12_call (spare_fn ([3, 1, 1, 2]) 4 (by decide)) (by kernel_rfl) (by kernel_rfl) ?_
  refine OW.last 5 [1, 2, 3, 4, 5, 6, 7, 8, 9] (x' := ⟨[(9, VI ((spareP ([3, 1, 1, 2]) 4).2)), (8, VI ((spareP ([3, 1, 1, 2]) 4).1)), (7, VI ((leastP ([3, 1, 1, 2]) 4).2)), (6, VI ((leastP ([3, 1, 1, 2]) 4).1)), (5, VI ((enoughP ([3, 1, 1, 2]) 4 (⟨9, by decide⟩ : U64).n).2)), (4, .v (.bool ((enoughP ([3, 1, 1, 2]) 4 (⟨9, by decide⟩ : U64).n).1))), (3, VI ((sumP ([3, 1, 1, 2]) (⟨5, by decide⟩ : U64).n).2)), (2, VI ((sumP ([3, 1, 1, 2]) (⟨5, by decide⟩ : U64).n).1)), (1, .own 0 1 0 4)], [some ⟨1, [[VI 3], [VI 1], [VI 1], [VI 2]]⟩]⟩) (by kernel_rfl) (by kernel_rfl) ?_
  refine EL.sreg ?_
  refine OW.run 1 (x' := ⟨[(34, .own 0 1 0 4), (9, VI ((spareP ([3, 1, 1, 2]) 4).2)), (8, VI ((spareP ([3, 1, 1, 2]) 4).1)), (7, VI ((leastP ([3, 1, 1, 2]) 4).2)), (6, VI ((leastP ([3, 1, 1, 2]) 4).1)), (5, VI ((enoughP ([3, 1, 1, 2]) 4 (⟨9, by decide⟩ : U64).n).2)), (4, .v (.bool ((enoughP ([3, 1, 1, 2]) 4 (⟨9, by decide⟩ : U64).n).1))), (3, VI ((sumP ([3, 1, 1, 2]) (⟨5, by decide⟩ : U64).n).2)), (2, VI ((sumP ([3, 1, 1, 2]) (⟨5, by decide⟩ : U64).n).1)), (1, .own 0 1 0 4)], [some ⟨1, [[VI 3], [VI 1], [VI 1], [VI 2]]⟩]⟩) (by kernel_rfl) ?_
  refine OW.fn (ar := [.own 0 1 0 4, .v (.int .u64 16)]) (x' := ⟨[(35, .tup [VI ((sumP ([3, 1, 1, 2]) (⟨16, by decide⟩ : U64).n).1), VI ((sumP ([3, 1, 1, 2]) (⟨16, by decide⟩ : U64).n).2)]), (34, .own 0 1 0 4), (9, VI ((spareP ([3, 1, 1, 2]) 4).2)), (8, VI ((spareP ([3, 1, 1, 2]) 4).1)), (7, VI ((leastP ([3, 1, 1, 2]) 4).2)), (6, VI ((leastP ([3, 1, 1, 2]) 4).1)), (5, VI ((enoughP ([3, 1, 1, 2]) 4 (⟨9, by decide⟩ : U64).n).2)), (4, .v (.bool ((enoughP ([3, 1, 1, 2]) 4 (⟨9, by decide⟩ : U64).n).1))), (3, VI ((sumP ([3, 1, 1, 2]) (⟨5, by decide⟩ : U64).n).2)), (2, VI ((sumP ([3, 1, 1, 2]) (⟨5, by decide⟩ : U64).n).1)), (1, .own 0 1 0 4)], [some ⟨1, [[VI 3], [VI 1], [VI 1], [VI 2]]⟩]⟩) (by kernel_rfl) (by kernel_rfl) F9_call (sum_fn ([3, 1, 1, 2]) (⟨16, by decide⟩ : U64) (by decide)) (by kernel_rfl) (by kernel_rfl) ?_
  refine OW.last 5 [1, 2, 3, 4, 5, 6, 7, 8, 9, 11] (x' := ⟨[(11, VI ((sumP ([3, 1, 1, 2]) (⟨16, by decide⟩ : U64).n).2)), (9, VI ((spareP ([3, 1, 1, 2]) 4).2)), (8, VI ((spareP ([3, 1, 1, 2]) 4).1)), (7, VI ((leastP ([3, 1, 1, 2]) 4).2)), (6, VI ((leastP ([3, 1, 1, 2]) 4).1)), (5, VI ((enoughP ([3, 1, 1, 2]) 4 (⟨9, by decide⟩ : U64).n).2)), (4, .v (.bool ((enoughP ([3, 1, 1, 2]) 4 (⟨9, by decide⟩ : U64).n).1))), (3, VI ((sumP ([3, 1, 1, 2]) (⟨5, by decide⟩ : U64).n).2)), (2, VI ((sumP ([3, 1, 1, 2]) (⟨5, by decide⟩ : U64).n).1)), (1, .own 0 1 0 4)], [some ⟨1, [[VI 3], [VI 1], [VI 1], [VI 2]]⟩]⟩) (by kernel_rfl) (by kernel_rfl) ?_
  refine EL.sreg ?_
  refine OW.run 3 (x' := ⟨[(40, .v (.bool (((sumP ([3, 1, 1, 2]) (⟨5, by decide⟩ : U64).n).1) == 4))), (39, .v (.bool (((sumP ([3, 1, 1, 2]) (⟨5, by decide⟩ : U64).n).1) == 4))), (38, VI ((sumP ([3, 1, 1, 2]) (⟨5, by decide⟩ : U64).n).1)), (11, VI ((sumP ([3, 1, 1, 2]) (⟨16, by decide⟩ : U64).n).2)), (9, VI ((spareP ([3, 1, 1, 2]) 4).2)), (8, VI ((spareP ([3, 1, 1, 2]) 4).1)), (7, VI ((leastP ([3, 1, 1, 2]) 4).2)), (6, VI ((leastP ([3, 1, 1, 2]) 4).1)), (5, VI ((enoughP ([3, 1, 1, 2]) 4 (⟨9, by decide⟩ : U64).n).2)), (4, .v (.bool ((enoughP ([3, 1, 1, 2]) 4 (⟨9, by decide⟩ : U64).n).1))), (3, VI ((sumP ([3, 1, 1, 2]) (⟨5, by decide⟩ : U64).n).2)), (2, VI ((sumP ([3, 1, 1, 2]) (⟨5, by decide⟩ : U64).n).1)), (1, .own 0 1 0 4)], [some ⟨1, [[VI 3], [VI 1], [VI 1], [VI 2]]⟩]⟩) (by kernel_rfl) ?_
  have h1 : (((sumP ([3, 1, 1, 2]) (⟨5, by decide⟩ : U64).n).1) == 4) = true := by first | kernel_rfl | decide
  rw [h1]
  refine OW.run 4 (x' := ⟨[(44, .v (.bool (((sumP ([3, 1, 1, 2]) (⟨5, by decide⟩ : U64).n).2) == 0))), (43, .v (.bool (((sumP ([3, 1, 1, 2]) (⟨5, by decide⟩ : U64).n).2) == 0))), (42, .v (.bool (((sumP ([3, 1, 1, 2]) (⟨5, by decide⟩ : U64).n).2) == 0))), (41, VI ((sumP ([3, 1, 1, 2]) (⟨5, by decide⟩ : U64).n).2)), (40, .v (.bool true)), (39, .v (.bool true)), (38, VI ((sumP ([3, 1, 1, 2]) (⟨5, by decide⟩ : U64).n).1)), (11, VI ((sumP ([3, 1, 1, 2]) (⟨16, by decide⟩ : U64).n).2)), (9, VI ((spareP ([3, 1, 1, 2]) 4).2)), (8, VI ((spareP ([3, 1, 1, 2]) 4).1)), (7, VI ((leastP ([3, 1, 1, 2]) 4).2)), (6, VI ((leastP ([3, 1, 1, 2]) 4).1)), (5, VI ((enoughP ([3, 1, 1, 2]) 4 (⟨9, by decide⟩ : U64).n).2)), (4, .v (.bool ((enoughP ([3, 1, 1, 2]) 4 (⟨9, by decide⟩ : U64).n).1))), (3, VI ((sumP ([3, 1, 1, 2]) (⟨5, by decide⟩ : U64).n).2)), (2, VI ((sumP ([3, 1, 1, 2]) (⟨5, by decide⟩ : U64).n).1)), (1, .own 0 1 0 4)], [some ⟨1, [[VI 3], [VI 1], [VI 1], [VI 2]]⟩]⟩) (by kernel_rfl) ?_
  have h2 : (((sumP ([3, 1, 1, 2]) (⟨5, by decide⟩ : U64).n).2) == 0) = true := by first | kernel_rfl | decide
  rw [h2]
  refine OW.run 3 (x' := ⟨[(47, .v (.bool ((enoughP ([3, 1, 1, 2]) 4 (⟨9, by decide⟩ : U64).n).1))), (46, .v (.bool ((enoughP ([3, 1, 1, 2]) 4 (⟨9, by decide⟩ : U64).n).1))), (45, .v (.bool ((enoughP ([3, 1, 1, 2]) 4 (⟨9, by decide⟩ : U64).n).1))), (44, .v (.bool true)), (43, .v (.bool true)), (42, .v (.bool true)), (41, VI ((sumP ([3, 1, 1, 2]) (⟨5, by decide⟩ : U64).n).2)), (40, .v (.bool true)), (39, .v (.bool true)), (38, VI ((sumP ([3, 1, 1, 2]) (⟨5, by decide⟩ : U64).n).1)), (11, VI ((sumP ([3, 1, 1, 2]) (⟨16, by decide⟩ : U64).n).2)), (9, VI ((spareP ([3, 1, 1, 2]) 4).2)), (8, VI ((spareP ([3, 1, 1, 2]) 4).1)), (7, VI ((leastP ([3, 1, 1, 2]) 4).2)), (6, VI ((leastP ([3, 1, 1, 2]) 4).1)), (5, VI ((enoughP ([3, 1, 1, 2]) 4 (⟨9, by decide⟩ : U64).n).2)), (4, .v (.bool ((enoughP ([3, 1, 1, 2]) 4 (⟨9, by decide⟩ : U64).n).1))), (3, VI ((sumP ([3, 1, 1, 2]) (⟨5, by decide⟩ : U64).n).2)), (2, VI ((sumP ([3, 1, 1, 2]) (⟨5, by decide⟩ : U64).n).1)), (1, .own 0 1 0 4)], [some ⟨1, [[VI 3], [VI 1], [VI 1], [VI 2]]⟩]⟩) (by kernel_rfl) ?_
  have h3 : (enoughP ([3, 1, 1, 2]) 4 (⟨9, by decide⟩ : U64).n).1 = true := by first | kernel_rfl | decide
  rw [h3]
  refine OW.run 4 (x' := ⟨[(51, .v (.bool (((enoughP ([3, 1, 1, 2]) 4 (⟨9, by decide⟩ : U64).n).2) == 0))), (50, .v (.bool (((enoughP ([3, 1, 1, 2]) 4 (⟨9, by decide⟩ : U64).n).2) == 0))), (49, .v (.bool (((enoughP ([3, 1, 1, 2]) 4 (⟨9, by decide⟩ : U64).n).2) == 0))), (48, VI ((enoughP ([3, 1, 1, 2]) 4 (⟨9, by decide⟩ : U64).n).2)), (47, .v (.bool true)), (46, .v (.bool true)), (45, .v (.bool true)), (44, .v (.bool true)), (43, .v (.bool true)), (42, .v (.bool true)), (41, VI ((sumP ([3, 1, 1, 2]) (⟨5, by decide⟩ : U64).n).2)), (40, .v (.bool true)), (39, .v (.bool true)), (38, VI ((sumP ([3, 1, 1, 2]) (⟨5, by decide⟩ : U64).n).1)), (11, VI ((sumP ([3, 1, 1, 2]) (⟨16, by decide⟩ : U64).n).2)), (9, VI ((spareP ([3, 1, 1, 2]) 4).2)), (8, VI ((spareP ([3, 1, 1, 2]) 4).1)), (7, VI ((leastP ([3, 1, 1, 2]) 4).2)), (6, VI ((leastP ([3, 1, 1, 2]) 4).1)), (5, VI ((enoughP ([3, 1, 1, 2]) 4 (⟨9, by decide⟩ : U64).n).2)), (4, .v (.bool true)), (3, VI ((sumP ([3, 1, 1, 2]) (⟨5, by decide⟩ : U64).n).2)), (2, VI ((sumP ([3, 1, 1, 2]) (⟨5, by decide⟩ : U64).n).1)), (1, .own 0 1 0 4)], [some ⟨1, [[VI 3], [VI 1], [VI 1], [VI 2]]⟩]⟩) (by kernel_rfl) ?_
  have h4 : (((enoughP ([3, 1, 1, 2]) 4 (⟨9, by decide⟩ : U64).n).2) == 0) = true := by first | kernel_rfl | decide
  rw [h4]
  refine OW.run 4 (x' := ⟨[(55, .v (.bool (((leastP ([3, 1, 1, 2]) 4).1) == 2))), (54, .v (.bool (((leastP ([3, 1, 1, 2]) 4).1) == 2))), (53, .v (.bool (((leastP ([3, 1, 1, 2]) 4).1) == 2))), (52, VI ((leastP ([3, 1, 1, 2]) 4).1)), (51, .v (.bool true)), (50, .v (.bool true)), (49, .v (.bool true)), (48, VI ((enoughP ([3, 1, 1, 2]) 4 (⟨9, by decide⟩ : U64).n).2)), (47, .v (.bool true)), (46, .v (.bool true)), (45, .v (.bool true)), (44, .v (.bool true)), (43, .v (.bool true)), (42, .v (.bool true)), (41, VI ((sumP ([3, 1, 1, 2]) (⟨5, by decide⟩ : U64).n).2)), (40, .v (.bool true)), (39, .v (.bool true)), (38, VI ((sumP ([3, 1, 1, 2]) (⟨5, by decide⟩ : U64).n).1)), (11, VI ((sumP ([3, 1, 1, 2]) (⟨16, by decide⟩ : U64).n).2)), (9, VI ((spareP ([3, 1, 1, 2]) 4).2)), (8, VI ((spareP ([3, 1, 1, 2]) 4).1)), (7, VI ((leastP ([3, 1, 1, 2]) 4).2)), (6, VI ((leastP ([3, 1, 1, 2]) 4).1)), (5, VI ((enoughP ([3, 1, 1, 2]) 4 (⟨9, by decide⟩ : U64).n).2)), (4, .v (.bool true)), (3, VI ((sumP ([3, 1, 1, 2]) (⟨5, by decide⟩ : U64).n).2)), (2, VI ((sumP ([3, 1, 1, 2]) (⟨5, by decide⟩ : U64).n).1)), (1, .own 0 1 0 4)], [some ⟨1, [[VI 3], [VI 1], [VI 1], [VI 2]]⟩]⟩) (by kernel_rfl) ?_
  have h5 : (((leastP ([3, 1, 1, 2]) 4).1) == 2) = true := by first | kernel_rfl | decide
  rw [h5]
  refine OW.run 4 (x' := ⟨[(59, .v (.bool (((leastP ([3, 1, 1, 2]) 4).2) == 0))), (58, .v (.bool (((leastP ([3, 1, 1, 2]) 4).2) == 0))), (57, .v (.bool (((leastP ([3, 1, 1, 2]) 4).2) == 0))), (56, VI ((leastP ([3, 1, 1, 2]) 4).2)), (55, .v (.bool true)), (54, .v (.bool true)), (53, .v (.bool true)), (52, VI ((leastP ([3, 1, 1, 2]) 4).1)), (51, .v (.bool true)), (50, .v (.bool true)), (49, .v (.bool true)), (48, VI ((enoughP ([3, 1, 1, 2]) 4 (⟨9, by decide⟩ : U64).n).2)), (47, .v (.bool true)), (46, .v (.bool true)), (45, .v (.bool true)), (44, .v (.bool true)), (43, .v (.bool true)), (42, .v (.bool true)), (41, VI ((sumP ([3, 1, 1, 2]) (⟨5, by decide⟩ : U64).n).2)), (40, .v (.bool true)), (39, .v (.bool true)), (38, VI ((sumP ([3, 1, 1, 2]) (⟨5, by decide⟩ : U64).n).1)), (11, VI ((sumP ([3, 1, 1, 2]) (⟨16, by decide⟩ : U64).n).2)), (9, VI ((spareP ([3, 1, 1, 2]) 4).2)), (8, VI ((spareP ([3, 1, 1, 2]) 4).1)), (7, VI ((leastP ([3, 1, 1, 2]) 4).2)), (6, VI ((leastP ([3, 1, 1, 2]) 4).1)), (5, VI ((enoughP ([3, 1, 1, 2]) 4 (⟨9, by decide⟩ : U64).n).2)), (4, .v (.bool true)), (3, VI ((sumP ([3, 1, 1, 2]) (⟨5, by decide⟩ : U64).n).2)), (2, VI ((sumP ([3, 1, 1, 2]) (⟨5, by decide⟩ : U64).n).1)), (1, .own 0 1 0 4)], [some ⟨1, [[VI 3], [VI 1], [VI 1], [VI 2]]⟩]⟩) (by kernel_rfl) ?_
  have h6 : (((leastP ([3, 1, 1, 2]) 4).2) == 0) = true := by first | kernel_rfl | decide
  rw [h6]
  refine OW.run 4 (x' := ⟨[(63, .v (.bool (((spareP ([3, 1, 1, 2]) 4).1) == 1))), (62, .v (.bool (((spareP ([3, 1, 1, 2]) 4).1) == 1))), (61, .v (.bool (((spareP ([3, 1, 1, 2]) 4).1) == 1))), (60, VI ((spareP ([3, 1, 1, 2]) 4).1)), (59, .v (.bool true)), (58, .v (.bool true)), (57, .v (.bool true)), (56, VI ((leastP ([3, 1, 1, 2]) 4).2)), (55, .v (.bool true)), (54, .v (.bool true)), (53, .v (.bool true)), (52, VI ((leastP ([3, 1, 1, 2]) 4).1)), (51, .v (.bool true)), (50, .v (.bool true)), (49, .v (.bool true)), (48, VI ((enoughP ([3, 1, 1, 2]) 4 (⟨9, by decide⟩ : U64).n).2)), (47, .v (.bool true)), (46, .v (.bool true)), (45, .v (.bool true)), (44, .v (.bool true)), (43, .v (.bool true)), (42, .v (.bool true)), (41, VI ((sumP ([3, 1, 1, 2]) (⟨5, by decide⟩ : U64).n).2)), (40, .v (.bool true)), (39, .v (.bool true)), (38, VI ((sumP ([3, 1, 1, 2]) (⟨5, by decide⟩ : U64).n).1)), (11, VI ((sumP ([3, 1, 1, 2]) (⟨16, by decide⟩ : U64).n).2)), (9, VI ((spareP ([3, 1, 1, 2]) 4).2)), (8, VI ((spareP ([3, 1, 1, 2]) 4).1)), (7, VI ((leastP ([3, 1, 1, 2]) 4).2)), (6, VI ((leastP ([3, 1, 1, 2]) 4).1)), (5, VI ((enoughP ([3, 1, 1, 2]) 4 (⟨9, by decide⟩ : U64).n).2)), (4, .v (.bool true)), (3, VI ((sumP ([3, 1, 1, 2]) (⟨5, by decide⟩ : U64).n).2)), (2, VI ((sumP ([3, 1, 1, 2]) (⟨5, by decide⟩ : U64).n).1)), (1, .own 0 1 0 4)], [some ⟨1, [[VI 3], [VI 1], [VI 1], [VI 2]]⟩]⟩) (by kernel_rfl) ?_
  have h7 : (((spareP ([3, 1, 1, 2]) 4).1) == 1) = true := by first | kernel_rfl | decide
  rw [h7]
  refine OW.run 4 (x' := ⟨[(67, .v (.bool (((spareP ([3, 1, 1, 2]) 4).2) == 0))), (66, .v (.bool (((spareP ([3, 1, 1, 2]) 4).2) == 0))), (65, .v (.bool (((spareP ([3, 1, 1, 2]) 4).2) == 0))), (64, VI ((spareP ([3, 1, 1, 2]) 4).2)), (63, .v (.bool true)), (62, .v (.bool true)), (61, .v (.bool true)), (60, VI ((spareP ([3, 1, 1, 2]) 4).1)), (59, .v (.bool true)), (58, .v (.bool true)), (57, .v (.bool true)), (56, VI ((leastP ([3, 1, 1, 2]) 4).2)), (55, .v (.bool true)), (54, .v (.bool true)), (53, .v (.bool true)), (52, VI ((leastP ([3, 1, 1, 2]) 4).1)), (51, .v (.bool true)), (50, .v (.bool true)), (49, .v (.bool true)), (48, VI ((enoughP ([3, 1, 1, 2]) 4 (⟨9, by decide⟩ : U64).n).2)), (47, .v (.bool true)), (46, .v (.bool true)), (45, .v (.bool true)), (44, .v (.bool true)), (43, .v (.bool true)), (42, .v (.bool true)), (41, VI ((sumP ([3, 1, 1, 2]) (⟨5, by decide⟩ : U64).n).2)), (40, .v (.bool true)), (39, .v (.bool true)), (38, VI ((sumP ([3, 1, 1, 2]) (⟨5, by decide⟩ : U64).n).1)), (11, VI ((sumP ([3, 1, 1, 2]) (⟨16, by decide⟩ : U64).n).2)), (9, VI ((spareP ([3, 1, 1, 2]) 4).2)), (8, VI ((spareP ([3, 1, 1, 2]) 4).1)), (7, VI ((leastP ([3, 1, 1, 2]) 4).2)), (6, VI ((leastP ([3, 1, 1, 2]) 4).1)), (5, VI ((enoughP ([3, 1, 1, 2]) 4 (⟨9, by decide⟩ : U64).n).2)), (4, .v (.bool true)), (3, VI ((sumP ([3, 1, 1, 2]) (⟨5, by decide⟩ : U64).n).2)), (2, VI ((sumP ([3, 1, 1, 2]) (⟨5, by decide⟩ : U64).n).1)), (1, .own 0 1 0 4)], [some ⟨1, [[VI 3], [VI 1], [VI 1], [VI 2]]⟩]⟩) (by kernel_rfl) ?_
  have h8 : (((spareP ([3, 1, 1, 2]) 4).2) == 0) = true := by first | kernel_rfl | decide
  rw [h8]
  refine OW.run 4 (x' := ⟨[(71, .v (.bool (((sumP ([3, 1, 1, 2]) (⟨16, by decide⟩ : U64).n).2) == 3))), (70, .v (.bool (((sumP ([3, 1, 1, 2]) (⟨16, by decide⟩ : U64).n).2) == 3))), (69, .v (.bool (((sumP ([3, 1, 1, 2]) (⟨16, by decide⟩ : U64).n).2) == 3))), (68, VI ((sumP ([3, 1, 1, 2]) (⟨16, by decide⟩ : U64).n).2)), (67, .v (.bool true)), (66, .v (.bool true)), (65, .v (.bool true)), (64, VI ((spareP ([3, 1, 1, 2]) 4).2)), (63, .v (.bool true)), (62, .v (.bool true)), (61, .v (.bool true)), (60, VI ((spareP ([3, 1, 1, 2]) 4).1)), (59, .v (.bool true)), (58, .v (.bool true)), (57, .v (.bool true)), (56, VI ((leastP ([3, 1, 1, 2]) 4).2)), (55, .v (.bool true)), (54, .v (.bool true)), (53, .v (.bool true)), (52, VI ((leastP ([3, 1, 1, 2]) 4).1)), (51, .v (.bool true)), (50, .v (.bool true)), (49, .v (.bool true)), (48, VI ((enoughP ([3, 1, 1, 2]) 4 (⟨9, by decide⟩ : U64).n).2)), (47, .v (.bool true)), (46, .v (.bool true)), (45, .v (.bool true)), (44, .v (.bool true)), (43, .v (.bool true)), (42, .v (.bool true)), (41, VI ((sumP ([3, 1, 1, 2]) (⟨5, by decide⟩ : U64).n).2)), (40, .v (.bool true)), (39, .v (.bool true)), (38, VI ((sumP ([3, 1, 1, 2]) (⟨5, by decide⟩ : U64).n).1)), (11, VI ((sumP ([3, 1, 1, 2]) (⟨16, by decide⟩ : U64).n).2)), (9, VI ((spareP ([3, 1, 1, 2]) 4).2)), (8, VI ((spareP ([3, 1, 1, 2]) 4).1)), (7, VI ((leastP ([3, 1, 1, 2]) 4).2)), (6, VI ((leastP ([3, 1, 1, 2]) 4).1)), (5, VI ((enoughP ([3, 1, 1, 2]) 4 (⟨9, by decide⟩ : U64).n).2)), (4, .v (.bool true)), (3, VI ((sumP ([3, 1, 1, 2]) (⟨5, by decide⟩ : U64).n).2)), (2, VI ((sumP ([3, 1, 1, 2]) (⟨5, by decide⟩ : U64).n).1)), (1, .own 0 1 0 4)], [some ⟨1, [[VI 3], [VI 1], [VI 1], [VI 2]]⟩]⟩) (by kernel_rfl) ?_
  have h9 : (((sumP ([3, 1, 1, 2]) (⟨16, by decide⟩ : U64).n).2) == 3) = true := by first | kernel_rfl | decide
  rw [h9]
  refine OW.run 1 (x' := ⟨[(72, .own 0 1 0 4), (71, .v (.bool true)), (70, .v (.bool true)), (69, .v (.bool true)), (68, VI ((sumP ([3, 1, 1, 2]) (⟨16, by decide⟩ : U64).n).2)), (67, .v (.bool true)), (66, .v (.bool true)), (65, .v (.bool true)), (64, VI ((spareP ([3, 1, 1, 2]) 4).2)), (63, .v (.bool true)), (62, .v (.bool true)), (61, .v (.bool true)), (60, VI ((spareP ([3, 1, 1, 2]) 4).1)), (59, .v (.bool true)), (58, .v (.bool true)), (57, .v (.bool true)), (56, VI ((leastP ([3, 1, 1, 2]) 4).2)), (55, .v (.bool true)), (54, .v (.bool true)), (53, .v (.bool true)), (52, VI ((leastP ([3, 1, 1, 2]) 4).1)), (51, .v (.bool true)), (50, .v (.bool true)), (49, .v (.bool true)), (48, VI ((enoughP ([3, 1, 1, 2]) 4 (⟨9, by decide⟩ : U64).n).2)), (47, .v (.bool true)), (46, .v (.bool true)), (45, .v (.bool true)), (44, .v (.bool true)), (43, .v (.bool true)), (42, .v (.bool true)), (41, VI ((sumP ([3, 1, 1, 2]) (⟨5, by decide⟩ : U64).n).2)), (40, .v (.bool true)), (39, .v (.bool true)), (38, VI ((sumP ([3, 1, 1, 2]) (⟨5, by decide⟩ : U64).n).1)), (11, VI ((sumP ([3, 1, 1, 2]) (⟨16, by decide⟩ : U64).n).2)), (9, VI ((spareP ([3, 1, 1, 2]) 4).2)), (8, VI ((spareP ([3, 1, 1, 2]) 4).1)), (7, VI ((leastP ([3, 1, 1, 2]) 4).2)), (6, VI ((leastP ([3, 1, 1, 2]) 4).1)), (5, VI ((enoughP ([3, 1, 1, 2]) 4 (⟨9, by decide⟩ : U64).n).2)), (4, .v (.bool true)), (3, VI ((sumP ([3, 1, 1, 2]) (⟨5, by decide⟩ : U64).n).2)), (2, VI ((sumP ([3, 1, 1, 2]) (⟨5, by decide⟩ : U64).n).1)), (1, .own 0 1 0 4)], [some ⟨1, [[VI 3], [VI 1], [VI 1], [VI 2]]⟩]⟩) (by kernel_rfl) ?_
  refine OW.fn (ar := [.own 0 1 0 4, VI 3]) (x' := ⟨[(73, VI (qcheckP ([3, 1, 1, 2]) 3)), (72, .own 0 1 0 4), (71, .v (.bool true)), (70, .v (.bool true)), (69, .v (.bool true)), (68, VI ((sumP ([3, 1, 1, 2]) (⟨16, by decide⟩ : U64).n).2)), (67, .v (.bool true)), (66, .v (.bool true)), (65, .v (.bool true)), (64, VI ((spareP ([3, 1, 1, 2]) 4).2)), (63, .v (.bool true)), (62, .v (.bool true)), (61, .v (.bool true)), (60, VI ((spareP ([3, 1, 1, 2]) 4).1)), (59, .v (.bool true)), (58, .v (.bool true)), (57, .v (.bool true)), (56, VI ((leastP ([3, 1, 1, 2]) 4).2)), (55, .v (.bool true)), (54, .v (.bool true)), (53, .v (.bool true)), (52, VI ((leastP ([3, 1, 1, 2]) 4).1)), (51, .v (.bool true)), (50, .v (.bool true)), (49, .v (.bool true)), (48, VI ((enoughP ([3, 1, 1, 2]) 4 (⟨9, by decide⟩ : U64).n).2)), (47, .v (.bool true)), (46, .v (.bool true)), (45, .v (.bool true)), (44, .v (.bool true)), (43, .v (.bool true)), (42, .v (.bool true)), (41, VI ((sumP ([3, 1, 1, 2]) (⟨5, by decide⟩ : U64).n).2)), (40, .v (.bool true)), (39, .v (.bool true)), (38, VI ((sumP ([3, 1, 1, 2]) (⟨5, by decide⟩ : U64).n).1)), (11, VI ((sumP ([3, 1, 1, 2]) (⟨16, by decide⟩ : U64).n).2)), (9, VI ((spareP ([3, 1, 1, 2]) 4).2)), (8, VI ((spareP ([3, 1, 1, 2]) 4).1)), (7, VI ((leastP ([3, 1, 1, 2]) 4).2)), (6, VI ((leastP ([3, 1, 1, 2]) 4).1)), (5, VI ((enoughP ([3, 1, 1, 2]) 4 (⟨9, by decide⟩ : U64).n).2)), (4, .v (.bool true)), (3, VI ((sumP ([3, 1, 1, 2]) (⟨5, by decide⟩ : U64).n).2)), (2, VI ((sumP ([3, 1, 1, 2]) (⟨5, by decide⟩ : U64).n).1)), (1, .own 0 1 0 4)], [some ⟨1, [[VI 3], [VI 1], [VI 1], [VI 2]]⟩]⟩) (by kernel_rfl) (by kernel_rfl) F18_call (qcheck_fn ([3, 1, 1, 2]) 3 (by decide)) (by kernel_rfl) (by kernel_rfl) ?_
  refine OW.last 3 [0] (x' := ⟨[(0, .v (.bool ((qcheckP ([3, 1, 1, 2]) 3) == 4)))], [some ⟨1, [[VI 3], [VI 1], [VI 1], [VI 2]]⟩]⟩) (by kernel_rfl) (by kernel_rfl) ?_
  refine EL.ret ?_
  refine ⟨.inr rfl, .v (.bool ((qcheckP ([3, 1, 1, 2]) 3) == 4)), by kernel_rfl, Ale.of_eq ?_⟩
  focus (rfl)
end Go.Proofs.YtfgjfghljhldfaaDoor
