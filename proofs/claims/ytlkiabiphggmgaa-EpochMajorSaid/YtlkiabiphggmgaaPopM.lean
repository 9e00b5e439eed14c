/- How many bits are set in a number: counted one by one, and as math/bits counts them. No condition. -/
import Derived.Test.YtlkiabiphggmgaaBits
namespace Go.Proofs.Ytlkiabiphggmgaa
set_option linter.unusedSimpArgs false
set_option linter.unusedVariables false
/-- Of the lowest k bits. -/
def cnt : Nat → Nat → Nat
  | 0, _ => 0
  | k + 1, x => cnt k x + x / 2 ^ k % 2
theorem cnt_le : ∀ (k x : Nat), cnt k x ≤ k
  | 0, _ => Nat.le_refl _
  | k + 1, x => by have := cnt_le k x; simp only [cnt]; omega
theorem cnt_split (n : Nat) : ∀ (k x : Nat), cnt (n + k) x = cnt n x + cnt k (x / 2 ^ n)
  | 0, _ => by simp [cnt]
  | k + 1, x => by
    rw [← Nat.add_assoc, cnt, cnt_split n k x, cnt, Nat.div_div_eq_div_mul, ← Nat.pow_add]
    omega
theorem mod_div_bit (x n k : Nat) (h : k < n) : x % 2 ^ n / 2 ^ k % 2 = x / 2 ^ k % 2 := by
  have h1 : ∀ y, y / 2 ^ k % 2 = (y.testBit k).toNat := fun y => by
    rw [Nat.testBit_eq_decide_div_mod_eq]
    have := Nat.mod_two_eq_zero_or_one (y / 2 ^ k)
    rcases this with e | e <;> simp [e]
  rw [h1, h1, Nat.testBit_mod_two_pow]
  simp [h]
theorem cnt_mod (n x : Nat) : ∀ (k : Nat), k ≤ n → cnt k (x % 2 ^ n) = cnt k x
  | 0, _ => rfl
  | k + 1, h => by rw [cnt, cnt, cnt_mod n x k (by omega), mod_div_bit x n k (by omega)]
/-- A byte repeated. -/
def rpt (m : Nat) : Nat → Nat
  | 0 => 0
  | n + 1 => m + 256 * rpt m n
/-- A function applied to each byte. -/
def bmap (f : Nat → Nat) : Nat → Nat → Nat
  | 0, _ => 0
  | n + 1, x => f (x % 256) + 256 * bmap f n (x / 256)
theorem and_byte (z m M : Nat) (hm : m < 256) : z &&& (m + 256 * M) = (z % 256 &&& m) + 256 * (z / 256 &&& M) := by
  have h1 : (z &&& (m + 256 * M)) % 2 ^ 8 = (z % 2 ^ 8) &&& ((m + 256 * M) % 2 ^ 8) := Nat.and_mod_two_pow
  have h2 : (z &&& (m + 256 * M)) / 2 ^ 8 = (z / 2 ^ 8) &&& ((m + 256 * M) / 2 ^ 8) := Nat.and_div_two_pow
  have e1 : (m + 256 * M) % 2 ^ 8 = m := by omega
  have e2 : (m + 256 * M) / 2 ^ 8 = M := by omega
  rw [e1] at h1
  rw [e2] at h2
  simp only [show (2 : Nat) ^ 8 = 256 from rfl] at h1 h2
  omega
theorem step_byte (s m : Nat) (f : Nat → Nat) (hm : m < 256) (hd : ∀ z, (z / s &&& m) = (z / s % 256 &&& m))
    (hf : ∀ x, (x / s % 256 &&& m) + (x % 256 &&& m) = f (x % 256)) (hs : ∀ x, x / s / 256 = x / 256 / s) : ∀ (n x : Nat), (x / s &&& rpt m n) + (x &&& rpt m n) = bmap f n x
  | 0, x => by simp [rpt, bmap]
  | n + 1, x => by
    rw [rpt, and_byte _ _ _ hm, and_byte x _ _ hm, hs, bmap, ← step_byte s m f hm hd hf hs n (x / 256), ← hf]
    omega
def p1 (b : Nat) : Nat := (b / 2 &&& 0x55) + (b &&& 0x55)
def p2 (b : Nat) : Nat := (b / 4 &&& 0x33) + (b &&& 0x33)
def p3 (b : Nat) : Nat := (b / 16 + b) &&& 15
def alln (p : Nat → Bool) : Nat → Bool
  | 0 => true
  | n + 1 => p n && alln p n
theorem alln_of {p : Nat → Bool} : ∀ {n : Nat}, alln p n = true → ∀ i, i < n → p i = true
  | 0, _, i, h => absurd h (by omega)
  | n + 1, ha, i, h => by
    simp only [alln, Bool.and_eq_true] at ha
    by_cases e : i = n
    · subst e; exact ha.1
    · exact alln_of ha.2 i (by omega)
theorem p1_key : ∀ a, a < 256 → ∀ c, c < 2 → ((a / 2 + 128 * c) &&& 0x55) = (a / 2 &&& 0x55) := by
  have h : alln (fun a => alln (fun c => ((a / 2 + 128 * c) &&& 0x55) == (a / 2 &&& 0x55)) 2) 256 = true := by kernel_rfl
  exact fun a ha c hc => eq_of_beq (alln_of (alln_of h a ha) c hc)
theorem p2_key : ∀ a, a < 256 → ∀ c, c < 4 → ((a / 4 + 64 * c) &&& 0x33) = (a / 4 &&& 0x33) := by
  have h : alln (fun a => alln (fun c => ((a / 4 + 64 * c) &&& 0x33) == (a / 4 &&& 0x33)) 4) 256 = true := by kernel_rfl
  exact fun a ha c hc => eq_of_beq (alln_of (alln_of h a ha) c hc)
theorem step1 (n x : Nat) : (x / 2 &&& rpt 0x55 n) + (x &&& rpt 0x55 n) = bmap p1 n x := by
  refine step_byte 2 0x55 p1 (by decide) ?_ (fun x => ?_) (fun x => by omega) n x
  · intro z
    have := and_byte (z / 2) 0x55 0 (by decide)
    simpa using this
  · rw [show x / 2 % 256 = x % 256 / 2 + 128 * (x / 256 % 2) by omega, p1_key _ (by omega) _ (by omega)]; rfl
theorem step2 (n x : Nat) : (x / 4 &&& rpt 0x33 n) + (x &&& rpt 0x33 n) = bmap p2 n x := by
  refine step_byte 4 0x33 p2 (by decide) ?_ (fun x => ?_) (fun x => by omega) n x
  · intro z
    have := and_byte (z / 4) 0x33 0 (by decide)
    simpa using this
  · rw [show x / 4 % 256 = x % 256 / 4 + 64 * (x / 256 % 4) by omega, p2_key _ (by omega) _ (by omega)]; rfl
theorem bmap_lt {f : Nat → Nat} (hf : ∀ b, b < 256 → f b < 256) : ∀ (n x : Nat), bmap f n x < 256 ^ n
  | 0, _ => by simp [bmap]
  | n + 1, x => by have := bmap_lt hf n (x / 256); have := hf (x % 256) (by omega); rw [bmap, Nat.pow_succ]; omega
theorem bmap_comp {f g : Nat → Nat} (hf : ∀ b, b < 256 → f b < 256) : ∀ (n x : Nat), bmap g n (bmap f n x) = bmap (fun b => g (f b)) n x
  | 0, _ => rfl
  | n + 1, x => by
    have h := hf (x % 256) (by omega)
    rw [bmap, bmap, bmap, show (f (x % 256) + 256 * bmap f n (x / 256)) % 256 = f (x % 256) by omega, show (f (x % 256) + 256 * bmap f n (x / 256)) / 256 = bmap f n (x / 256) by omega, bmap_comp hf n]
/-- The bytes of which both halves are at most 4. -/
def h2 (b : Nat) : Nat := p2 (p1 b)
theorem p_all : alln (fun b => (p1 b < 256) && (h2 b < 256) && (h2 b % 16 ≤ 4) && (h2 b / 16 ≤ 4) && (p3 (h2 b) == cnt 8 b) && (cnt 8 b ≤ 8)) 256 = true := by kernel_rfl
theorem p_key (b : Nat) (hb : b < 256) : p1 b < 256 ∧ h2 b < 256 ∧ h2 b % 16 ≤ 4 ∧ h2 b / 16 ≤ 4 ∧ p3 (h2 b) = cnt 8 b ∧ cnt 8 b ≤ 8 := by
  have := alln_of p_all b hb
  simp only [Bool.and_eq_true, decide_eq_true_eq, beq_iff_eq] at this
  obtain ⟨⟨⟨⟨⟨a, b⟩, c⟩, d⟩, e⟩, f⟩ := this
  exact ⟨a, b, c, d, e, f⟩
theorem step3 : ∀ (n x : Nat), (bmap h2 n x / 16 + bmap h2 n x) &&& rpt 15 n = bmap (cnt 8) n x
  | 0, x => by simp [rpt, bmap]
  | n + 1, x => by
    have ih := step3 n (x / 256)
    have hb := p_key (x % 256) (by omega)
    have hY : bmap h2 n (x / 256) % 16 ≤ 4 := by
      cases n with
      | zero => simp [bmap]
      | succ n => rw [bmap]; have := p_key (x / 256 % 256) (by omega); omega
    rw [bmap, bmap, rpt, and_byte _ _ _ (by decide)]
    generalize bmap h2 n (x / 256) = Y at *
    rw [show ((h2 (x % 256) + 256 * Y) / 16 + (h2 (x % 256) + 256 * Y)) / 256 = Y / 16 + Y by omega, ih]
    rw [show ((h2 (x % 256) + 256 * Y) / 16 + (h2 (x % 256) + 256 * Y)) % 256 = h2 (x % 256) / 16 + 16 * (Y % 16) + h2 (x % 256) by omega]
    have e : h2 (x % 256) / 16 + 16 * (Y % 16) + h2 (x % 256) &&& 15 = p3 (h2 (x % 256)) := by
      rw [p3, show (15 : Nat) = 2 ^ 4 - 1 from rfl, Nat.and_two_pow_sub_one_eq_mod, Nat.and_two_pow_sub_one_eq_mod]
      omega
    rw [e, hb.2.2.2.2.1]
theorem bytes_sum (n m : Nat) (x : Nat) (h : m = n + 8) : cnt m x = cnt 8 (x % 256) + cnt n (x / 256) := by
  rw [h, Nat.add_comm, cnt_split, show cnt 8 (x % 256) = cnt 8 x from cnt_mod 8 x 8 (Nat.le_refl _)]
theorem bmap_le {f : Nat → Nat} {m : Nat} (hm : m < 256) (hf : ∀ b, b < 256 → f b ≤ m) : ∀ (n x : Nat), bmap f (n + 1) x < (m + 1) * 256 ^ n
  | 0, x => by have := hf (x % 256) (by omega); simp [bmap]; omega
  | n + 1, x => by
    have h1 := bmap_le hm hf n (x / 256)
    have h2 := hf (x % 256) (by omega)
    rw [bmap, Nat.pow_succ, ← Nat.mul_assoc]
    generalize (m + 1) * 256 ^ n = q at *
    omega
theorem pop_bounds (x : Nat) : bmap p1 8 x < 18446744073709551616 ∧ bmap h2 8 x < 69 * 256 ^ 7 ∧ bmap (cnt 8) 8 x < 9 * 256 ^ 7 :=
  ⟨bmap_lt (fun b h => (p_key b h).1) 8 x, bmap_le (by decide) (fun b h => by have := p_key b h; omega) 7 x, bmap_le (by decide) (fun b h => (p_key b h).2.2.2.2.2) 7 x⟩
/-- What math/bits computes: pairs, fours, bytes, and the sum of the bytes. -/
def ones (x : Nat) : Nat :=
  let a := (x / 2 &&& 0x5555555555555555) + (x &&& 0x5555555555555555)
  let b := (a / 4 &&& 0x3333333333333333) + (a &&& 0x3333333333333333)
  let c := (b / 16 + b) &&& 0x0f0f0f0f0f0f0f0f
  let d := c + c / 256
  let e := d + d / 65536
  (e + e / 4294967296) % 128
theorem sum_bytes {q0 q1 q2 q3 q4 q5 q6 q7 : Nat} (h0 : q0 ≤ 8) (h1 : q1 ≤ 8) (h2 : q2 ≤ 8) (h3 : q3 ≤ 8) (h4 : q4 ≤ 8) (h5 : q5 ≤ 8) (h6 : q6 ≤ 8) (h7 : q7 ≤ 8) :
    let C := q0 + 256 * (q1 + 256 * (q2 + 256 * (q3 + 256 * (q4 + 256 * (q5 + 256 * (q6 + 256 * (q7 + 256 * 0)))))))
    let D := C + C / 256
    let E := D + D / 65536
    (E + E / 4294967296) % 128 = q0 + (q1 + (q2 + (q3 + (q4 + (q5 + (q6 + (q7 + 0))))))) := by
  generalize e7 : q7 + 256 * 0 = R7
  generalize e6 : q6 + 256 * R7 = R6
  generalize e5 : q5 + 256 * R6 = R5
  generalize e4 : q4 + 256 * R5 = R4
  generalize e3 : q3 + 256 * R4 = R3
  generalize e2 : q2 + 256 * R3 = R2
  generalize e1 : q1 + 256 * R2 = R1
  have d1 : (q0 + 256 * R1) / 256 = R1 := by clear e1 e2 e3 e4 e5 e6 e7; omega
  have d2 : (q0 + 256 * R1 + R1) / 65536 = R2 + R3 := by clear e3 e4 e5 e6 e7 d1; omega
  have d3 : (q0 + 256 * R1 + R1 + (R2 + R3)) = (q0 + q1 + q2 + q3) + 256 * (q1 + q2 + q3 + q4) + 65536 * (R2 + R3 + R4 + R5) := by clear e5 e6 e7 d1 d2; omega
  have d4 : R2 + R3 + R4 + R5 = (q2 + q3 + q4 + q5) + 256 * (q3 + q4 + q5 + q6) + 65536 * (R4 + R5 + R6 + R7) := by clear d1 d2 d3 e1; omega
  have d5 : (q0 + 256 * R1 + R1 + (R2 + R3)) / 4294967296 = R4 + R5 + R6 + R7 := by
    rw [d3, d4]; clear d1 d2 d3 d4 e1 e2 e3 e4 e5 e6 e7; omega
  intro C D E
  show (q0 + 256 * R1 + (q0 + 256 * R1) / 256 + (q0 + 256 * R1 + (q0 + 256 * R1) / 256) / 65536 + (q0 + 256 * R1 + (q0 + 256 * R1) / 256 + (q0 + 256 * R1 + (q0 + 256 * R1) / 256) / 65536) / 4294967296) % 128 = _
  rw [d1, d2, d5, d3]
  have d6 : R4 + R5 + R6 + R7 = (q4 + q5 + q6 + q7) + 256 * (R5 + R6 + R7) := by clear d1 d2 d3 d4 d5 e1 e2 e3; omega
  rw [d6]
  clear d1 d2 d3 d4 d5 d6 e1 e2 e3 e4 e5 e6
  generalize R2 + R3 + R4 + R5 = X
  generalize R5 + R6 + R7 = Y
  rw [show q0 + q1 + q2 + q3 + 256 * (q1 + q2 + q3 + q4) + 65536 * X + (q4 + q5 + q6 + q7 + 256 * Y) = q0 + q1 + q2 + q3 + (q4 + q5 + q6 + q7) + 128 * (2 * (q1 + q2 + q3 + q4) + 512 * X + 2 * Y) by omega, Nat.add_mul_mod_self_left, Nat.mod_eq_of_lt (by omega)]
  omega
theorem rpt_5 : rpt 0x55 8 = 0x5555555555555555 := by kernel_rfl
theorem rpt_3 : rpt 0x33 8 = 0x3333333333333333 := by kernel_rfl
theorem rpt_f : rpt 15 8 = 0x0f0f0f0f0f0f0f0f := by kernel_rfl
theorem pop_a (x : Nat) : (x / 2 &&& 0x5555555555555555) + (x &&& 0x5555555555555555) = bmap p1 8 x := rpt_5 ▸ step1 8 x
theorem pop_b (x : Nat) : (bmap p1 8 x / 4 &&& 0x3333333333333333) + (bmap p1 8 x &&& 0x3333333333333333) = bmap h2 8 x := rpt_3 ▸ (step2 8 _).trans (bmap_comp (fun b h => (p_key b h).1) 8 x)
theorem pop_c (x : Nat) : (bmap h2 8 x / 16 + bmap h2 8 x) &&& 0x0f0f0f0f0f0f0f0f = bmap (cnt 8) 8 x := rpt_f ▸ step3 8 x
set_option maxRecDepth 100000 in
set_option maxHeartbeats 1000000 in
theorem ones_eq (x : Nat) : ones x = cnt 64 x := by
  have a := pop_a x
  have b := pop_b x
  have c := pop_c x
  have k : ∀ y, cnt 8 y ≤ 8 := cnt_le 8
  have hs : cnt 64 x = cnt 8 (x % 256) + (cnt 8 (x / 256 % 256) + (cnt 8 (x / 256 / 256 % 256) + (cnt 8 (x / 256 / 256 / 256 % 256) + (cnt 8 (x / 256 / 256 / 256 / 256 % 256) + (cnt 8 (x / 256 / 256 / 256 / 256 / 256 % 256) + (cnt 8 (x / 256 / 256 / 256 / 256 / 256 / 256 % 256) + (cnt 8 (x / 256 / 256 / 256 / 256 / 256 / 256 / 256 % 256) + 0))))))) := by
    rw [bytes_sum 56 64 x rfl, bytes_sum 48 56 _ rfl, bytes_sum 40 48 _ rfl, bytes_sum 32 40 _ rfl, bytes_sum 24 32 _ rfl, bytes_sum 16 24 _ rfl, bytes_sum 8 16 _ rfl, bytes_sum 0 8 (x / 256 / 256 / 256 / 256 / 256 / 256 / 256) rfl]
    rfl
  unfold ones
  simp only [a, b, c]
  rw [hs]
  have h0 := k (x % 256)
  have h1 := k (x / 256 % 256)
  have h2 := k (x / 256 / 256 % 256)
  have h3 := k (x / 256 / 256 / 256 % 256)
  have h4 := k (x / 256 / 256 / 256 / 256 % 256)
  have h5 := k (x / 256 / 256 / 256 / 256 / 256 % 256)
  have h6 := k (x / 256 / 256 / 256 / 256 / 256 / 256 % 256)
  have h7 := k (x / 256 / 256 / 256 / 256 / 256 / 256 / 256 % 256)
  simp only [bmap]
  generalize cnt 8 (x % 256) = q0 at *
  generalize cnt 8 (x / 256 % 256) = q1 at *
  generalize cnt 8 (x / 256 / 256 % 256) = q2 at *
  generalize cnt 8 (x / 256 / 256 / 256 % 256) = q3 at *
  generalize cnt 8 (x / 256 / 256 / 256 / 256 % 256) = q4 at *
  generalize cnt 8 (x / 256 / 256 / 256 / 256 / 256 % 256) = q5 at *
  generalize cnt 8 (x / 256 / 256 / 256 / 256 / 256 / 256 % 256) = q6 at *
  generalize cnt 8 (x / 256 / 256 / 256 / 256 / 256 / 256 / 256 % 256) = q7 at *
  clear a b c hs k
  exact sum_bytes h0 h1 h2 h3 h4 h5 h6 h7
/-- All the bits of a uint64; it does not unfold by itself. -/
@[irreducible] def pop (x : Nat) : Nat := cnt 64 x
theorem pop_eq (x : Nat) : pop x = cnt 64 x := by unfold pop; rfl
theorem pop_le (x : Nat) : pop x ≤ 64 := by rw [pop_eq]; exact cnt_le 64 x
end Go.Proofs.Ytlkiabiphggmgaa
