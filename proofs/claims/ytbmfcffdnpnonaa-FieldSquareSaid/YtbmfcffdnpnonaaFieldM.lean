/- The field of 256 in plain Lean: multiplication by doubling is commutative, associative, distributive, without zero divisors; every byte other than 0 is a power of 2. No condition. -/
import Derived.WalkKit
namespace Go.Proofs.Ytbmfcffdnpnonaa

def xt (a : UInt8) : UInt8 := if a > 127 then (a <<< 1) ^^^ 29 else a <<< 1
def gm : Nat → UInt8 → UInt8 → UInt8 → UInt8
  | 0, _, _, o => o
  | n+1, a, b, o => gm n (xt a) (b >>> 1) (if b &&& 1 = 0 then o else o ^^^ a)
def gmul (a b : UInt8) : UInt8 := gm 8 a b 0

theorem u8_xor_left_comm (a b c : UInt8) : a ^^^ (b ^^^ c) = b ^^^ (a ^^^ c) := by rw [← UInt8.xor_assoc, UInt8.xor_comm a b, UInt8.xor_assoc]
theorem u8_xor_cancel (a b : UInt8) : a ^^^ (a ^^^ b) = b := by rw [← UInt8.xor_assoc, UInt8.xor_self, UInt8.zero_xor]
theorem u8_xor_and (a b c : UInt8) : (a ^^^ b) &&& c = (a &&& c) ^^^ (b &&& c) := by
  apply UInt8.eq_of_toBitVec_eq
  simp only [UInt8.toBitVec_and, UInt8.toBitVec_xor]
  ext i
  simp only [BitVec.getElem_and, BitVec.getElem_xor]
  cases a.toBitVec[i] <;> cases b.toBitVec[i] <;> cases c.toBitVec[i] <;> rfl
theorem u8_xor_shl (a b c : UInt8) : (a ^^^ b) <<< c = (a <<< c) ^^^ (b <<< c) := by
  apply UInt8.eq_of_toBitVec_eq
  simp only [UInt8.toBitVec_shiftLeft, UInt8.toBitVec_xor]
  exact BitVec.shiftLeft_xor_distrib ..
theorem u8_xor_shr (a b c : UInt8) : (a ^^^ b) >>> c = (a >>> c) ^^^ (b >>> c) := by
  apply UInt8.eq_of_toBitVec_eq
  simp only [UInt8.toBitVec_shiftRight, UInt8.toBitVec_xor]
  exact BitVec.ushiftRight_xor_distrib ..

theorem all8 (p : UInt8 → Bool) (h : (List.range 256).all (fun n => p (UInt8.ofNat n)) = true) (a : UInt8) : p a = true := by
  rw [List.all_eq_true] at h
  have := h a.toNat (List.mem_range.2 a.toNat_lt)
  simpa using this

theorem xt_xor (a b : UInt8) : xt (a ^^^ b) = xt a ^^^ xt b := by
  have h1 : ∀ c : UInt8, xt c = (c <<< 1) ^^^ (if c &&& 128 = 0 then 0 else 29) := fun c => by
    have := all8 (fun c => xt c == (c <<< 1) ^^^ (if c &&& 128 = 0 then 0 else 29)) (by decide +kernel) c
    simpa using this
  have h3 : ∀ c : UInt8, c &&& 128 = 0 ∨ c &&& 128 = 128 := fun c => by
    have := all8 (fun c => c &&& 128 == 0 || c &&& 128 == 128) (by decide +kernel) c
    simpa using this
  rw [h1, h1 a, h1 b]
  have h2 : (a ^^^ b) &&& 128 = (a &&& 128) ^^^ (b &&& 128) := u8_xor_and ..
  have h4 : (a ^^^ b) <<< 1 = (a <<< 1) ^^^ (b <<< 1) := u8_xor_shl ..
  rw [h2, h4]
  rcases h3 a with ha | ha <;> rcases h3 b with hb | hb <;> rw [ha, hb] <;> simp [UInt8.xor_assoc, UInt8.xor_comm, u8_xor_left_comm]

theorem gm_zero (n : Nat) : ∀ a o, gm n a 0 o = o := by
  induction n with
  | zero => intros; rfl
  | succ n ih => intro a o; simp only [gm]; simpa using ih _ _

theorem xor4 (a b c d : UInt8) : (a ^^^ b) ^^^ (c ^^^ d) = (a ^^^ c) ^^^ (b ^^^ d) := by
  simp [UInt8.xor_assoc, u8_xor_left_comm]

theorem gm_add_left (n : Nat) : ∀ a a' b o o', gm n (a ^^^ a') b (o ^^^ o') = gm n a b o ^^^ gm n a' b o' := by
  induction n with
  | zero => intros; rfl
  | succ n ih =>
    intro a a' b o o'
    simp only [gm, xt_xor]
    by_cases h : b &&& 1 = 0
    · simp only [h, if_true]; exact ih ..
    · simp only [h, if_false]; rw [xor4]; exact ih ..

theorem gm_add_right (n : Nat) : ∀ a b b' o o', gm n a (b ^^^ b') (o ^^^ o') = gm n a b o ^^^ gm n a b' o' := by
  have h3 : ∀ c : UInt8, c &&& 1 = 0 ∨ c &&& 1 = 1 := fun c => by
    have := all8 (fun c => c &&& 1 == 0 || c &&& 1 == 1) (by decide +kernel) c
    simpa using this
  induction n with
  | zero => intros; rfl
  | succ n ih =>
    intro a b b' o o'
    simp only [gm]
    have h2 : (b ^^^ b') &&& 1 = (b &&& 1) ^^^ (b' &&& 1) := u8_xor_and ..
    have h4 : (b ^^^ b') >>> 1 = (b >>> 1) ^^^ (b' >>> 1) := u8_xor_shr ..
    rw [h2, h4, ← ih]
    congr 1
    rcases h3 b with hb | hb <;> rcases h3 b' with hb' | hb' <;> rw [hb, hb'] <;> simp [UInt8.xor_comm, u8_xor_left_comm, u8_xor_cancel]

theorem gm_xt (n : Nat) : ∀ a b o, gm n (xt a) b (xt o) = xt (gm n a b o) := by
  induction n with
  | zero => intros; rfl
  | succ n ih =>
    intro a b o
    simp only [gm]
    by_cases h : b &&& 1 = 0
    · simp only [h, if_true]; exact ih ..
    · simp only [h, if_false]; rw [← xt_xor]; exact ih ..

theorem gmul_add_left (a a' b : UInt8) : gmul (a ^^^ a') b = gmul a b ^^^ gmul a' b := by
  have := gm_add_left 8 a a' b 0 0; simpa [gmul] using this
theorem gmul_add (a b b' : UInt8) : gmul a (b ^^^ b') = gmul a b ^^^ gmul a b' := by
  have := gm_add_right 8 a b b' 0 0; simpa [gmul] using this
theorem gmul_xt (a b : UInt8) : gmul (xt a) b = xt (gmul a b) := gm_xt 8 a b 0
theorem gmul_zero (a : UInt8) : gmul a 0 = 0 := gm_zero 8 a 0
theorem one_gmul (a : UInt8) : gmul 1 a = a := by
  have := all8 (fun c => gmul 1 c == c) (by decide +kernel) a
  simpa using this

def xts : Nat → UInt8 → UInt8
  | 0, a => a
  | n+1, a => xt (xts n a)
theorem gmul_xts (n : Nat) (a b : UInt8) : gmul (xts n a) b = xts n (gmul a b) := by
  induction n with
  | zero => rfl
  | succ n ih => simp only [xts, gmul_xt, ih]
theorem xts_one (n : Nat) (b : UInt8) : gmul (xts n 1) b = xts n b := by rw [gmul_xts, one_gmul]

/-- Every byte is a sum of powers below the eighth: what holds of these and of sums holds of all. -/
theorem byte_ind (P : UInt8 → Prop) (h0 : P 0) (hp : ∀ n, n < 8 → P (xts n 1)) (hx : ∀ a b, P a → P b → P (a ^^^ b)) (a : UInt8) : P a := by
  have hb : ∀ n, n < 8 → P (a &&& xts n 1) := fun n hn => by
    have : a &&& xts n 1 = 0 ∨ a &&& xts n 1 = xts n 1 := by
      have := all8 (fun c => (List.range 8).all fun n => c &&& xts n 1 == 0 || c &&& xts n 1 == xts n 1) (by decide +kernel) a
      rw [List.all_eq_true] at this
      simpa using this n (List.mem_range.2 hn)
    rcases this with h | h <;> rw [h]
    · exact h0
    · exact hp n hn
  have he : a = (a &&& xts 0 1) ^^^ ((a &&& xts 1 1) ^^^ ((a &&& xts 2 1) ^^^ ((a &&& xts 3 1) ^^^ ((a &&& xts 4 1) ^^^ ((a &&& xts 5 1) ^^^ ((a &&& xts 6 1) ^^^ (a &&& xts 7 1))))))) := by
    have := all8 (fun a => a == (a &&& xts 0 1) ^^^ ((a &&& xts 1 1) ^^^ ((a &&& xts 2 1) ^^^ ((a &&& xts 3 1) ^^^ ((a &&& xts 4 1) ^^^ ((a &&& xts 5 1) ^^^ ((a &&& xts 6 1) ^^^ (a &&& xts 7 1)))))))) (by decide +kernel) a
    simpa using this
  rw [he]
  refine hx _ _ (hb 0 (by omega)) (hx _ _ (hb 1 (by omega)) (hx _ _ (hb 2 (by omega)) (hx _ _ (hb 3 (by omega)) (hx _ _ (hb 4 (by omega)) (hx _ _ (hb 5 (by omega)) (hx _ _ (hb 6 (by omega)) (hb 7 (by omega))))))))

theorem gmul_two_pow (a : UInt8) (n : Nat) (hn : n < 8) : gmul a (xts n 1) = xts n a := by
  have : n = 0 ∨ n = 1 ∨ n = 2 ∨ n = 3 ∨ n = 4 ∨ n = 5 ∨ n = 6 ∨ n = 7 := by omega
  have h := all8 (fun c => (List.range 8).all fun n => gmul c (xts n 1) == xts n c) (by decide +kernel) a
  rw [List.all_eq_true] at h
  simpa using h n (List.mem_range.2 hn)

theorem zero_gmul (a : UInt8) : gmul 0 a = 0 := by
  have := gmul_add_left 0 0 a
  simpa using this
theorem gmul_comm (a b : UInt8) : gmul a b = gmul b a := by
  refine byte_ind (fun b => gmul a b = gmul b a) ?_ ?_ ?_ b
  · rw [gmul_zero, zero_gmul]
  · intro n hn; rw [gmul_two_pow a n hn, xts_one]
  · intro x y hx hy; rw [gmul_add, gmul_add_left, hx, hy]
theorem gmul_assoc (a b c : UInt8) : gmul (gmul a b) c = gmul a (gmul b c) := by
  refine byte_ind (fun c => gmul (gmul a b) c = gmul a (gmul b c)) ?_ ?_ ?_ c
  · rw [gmul_zero, gmul_zero, gmul_zero]
  · intro n hn
    rw [gmul_two_pow _ n hn, gmul_two_pow _ n hn, gmul_comm a (xts n b), gmul_xts, gmul_comm b]
  · intro x y hx hy; rw [gmul_add, gmul_add, gmul_add, hx, hy]
theorem gmul_one (a : UInt8) : gmul a 1 = a := by rw [gmul_comm, one_gmul]

/-! powers -/
def pw (n : Nat) : UInt8 := xts n 1
theorem xts_add (n m : Nat) (a : UInt8) : xts (n + m) a = xts n (xts m a) := by
  induction n with
  | zero => simp [xts]
  | succ n ih => rw [Nat.succ_add]; simp only [xts, ih]
theorem gmul_pw (i j : Nat) : gmul (pw i) (pw j) = pw (i + j) := by rw [pw, xts_one, pw, pw, xts_add]
theorem xts_255 : xts 255 1 = 1 := by decide +kernel
theorem pw_255 (n : Nat) : pw (n + 255) = pw n := by rw [pw, xts_add, xts_255, pw]
theorem pw_mod (n : Nat) : pw (n % 255) = pw n := by
  have h : ∀ k m, pw (m + 255 * k) = pw m := by
    intro k
    induction k with
    | zero => intro m; rfl
    | succ k ih => intro m; rw [show m + 255 * (k + 1) = m + 255 * k + 255 by omega, pw_255, ih]
  rw [← h (n / 255) (n % 255)]
  congr 1
  omega
theorem xt_ne (a : UInt8) (h : a ≠ 0) : xt a ≠ 0 := by
  have := all8 (fun c => c == 0 || xt c != 0) (by decide +kernel) a
  simp only [Bool.or_eq_true, beq_iff_eq, bne_iff_ne] at this
  rcases this with h' | h'
  · exact absurd h' h
  · exact h'
theorem pw_ne (n : Nat) : pw n ≠ 0 := by
  induction n with
  | zero => decide
  | succ n ih => exact xt_ne _ ih

/-- The list of all powers, made by doubling. -/
def pws : Nat → UInt8 → List UInt8
  | 0, _ => []
  | n+1, x => x :: pws n (xt x)
theorem pws_get (n : Nat) : ∀ (x : UInt8) (i : Nat), i < n → (pws n x)[i]? = some (xts i x) := by
  induction n with
  | zero => intro x i h; omega
  | succ n ih =>
    intro x i h
    cases i with
    | zero => rfl
    | succ i =>
      simp only [pws, List.getElem?_cons_succ]
      rw [ih _ _ (by omega)]
      have : xts (i + 1) x = xts i (xt x) := by rw [xts_add i 1 x]; rfl
      rw [this]
theorem pws_length (n : Nat) : ∀ x, (pws n x).length = n := by
  induction n with
  | zero => intro; rfl
  | succ n ih => intro x; simp [pws, ih]
theorem pws_nodup : (pws 255 1).Nodup := by decide +kernel
theorem pws_all (a : UInt8) (h : a ≠ 0) : a ∈ pws 255 1 := by
  have := all8 (fun c => c == 0 || (pws 255 1).elem c) (by decide +kernel) a
  simp only [Bool.or_eq_true, beq_iff_eq] at this
  rcases this with h' | h'
  · exact absurd h' h
  · simpa using h'
theorem pw_inj (i j : Nat) (hi : i < 255) (hj : j < 255) (h : pw i = pw j) : i = j := by
  have h1 := pws_get 255 1 i hi
  have h2 := pws_get 255 1 j hj
  have h3 : xts i 1 = xts j 1 := h
  exact (List.getElem?_inj (by rw [pws_length]; exact hi) pws_nodup).1 (by rw [h1, h2, h3])
/-- The logarithm: the last one of 0 .. k - 1 whose power it is. -/
def lgTo : Nat → UInt8 → Nat
  | 0, _ => 0
  | k+1, a => if pw k = a then k else lgTo k a
def lg (a : UInt8) : Nat := lgTo 255 a
theorem lgTo_pw (k : Nat) : ∀ i, i < k → k ≤ 255 → lgTo k (pw i) = i := by
  induction k with
  | zero => intro i h; omega
  | succ k ih =>
    intro i h hk
    simp only [lgTo]
    split
    · rename_i he; exact pw_inj _ _ (by omega) (by omega) he
    · rename_i he
      have : i ≠ k := by rintro rfl; exact he rfl
      exact ih i (by omega) (by omega)
theorem lg_pw (i : Nat) (h : i < 255) : lg (pw i) = i := lgTo_pw 255 i h (Nat.le_refl _)
theorem pw_lg (a : UInt8) (h : a ≠ 0) : pw (lg a) = a ∧ lg a < 255 := by
  obtain ⟨i, hi, he⟩ := List.getElem_of_mem (pws_all a h)
  rw [pws_length] at hi
  have h1 := pws_get 255 1 i hi
  have h2 : pw i = a := by
    rw [List.getElem?_eq_getElem (by rw [pws_length]; exact hi)] at h1
    simp only [Option.some.injEq] at h1
    rw [pw, ← h1, he]
  rw [← h2, lg_pw i hi]
  exact ⟨rfl, hi⟩
theorem lgTo_lt (k : Nat) (hk : 0 < k) (a : UInt8) : lgTo k a < k := by
  induction k with
  | zero => omega
  | succ k ih =>
    simp only [lgTo]
    split
    · omega
    · rcases Nat.eq_zero_or_pos k with rfl | h
      · simp [lgTo]
      · have := ih h; omega
theorem lg_lt (a : UInt8) : lg a < 255 := lgTo_lt 255 (by omega) a

/-- Power of any integer. -/
def powI (n : Int) : UInt8 := pw (n % 255).toNat
theorem powI_add (n m : Int) : powI (n + m) = gmul (powI n) (powI m) := by
  rw [powI, powI, powI, gmul_pw, ← pw_mod (((n % 255).toNat) + _)]
  congr 1
  omega
theorem powI_255 (n : Int) : powI (n + 255) = powI n := by rw [powI, powI]; congr 1; omega
theorem powI_lg (a : UInt8) (h : a ≠ 0) : powI (lg a) = a := by
  have := lg_lt a
  rw [powI, show ((lg a : Int) % 255).toNat = lg a by omega, (pw_lg a h).1]
def ginv (a : UInt8) : UInt8 := powI (-(lg a : Int))
theorem ginv_mul (a : UInt8) (h : a ≠ 0) : gmul (ginv a) a = 1 := by
  have h2 := powI_lg a h
  have h3 : gmul (powI (-(lg a : Int))) (powI (lg a)) = 1 := by
    rw [← powI_add, show -(lg a : Int) + lg a = 0 by omega]; rfl
  rw [h2] at h3
  exact h3
theorem gmul_ginv (a : UInt8) (h : a ≠ 0) : gmul a (ginv a) = 1 := by rw [gmul_comm, ginv_mul a h]
theorem gmul_eq_zero (a b : UInt8) : gmul a b = 0 ↔ a = 0 ∨ b = 0 := by
  constructor
  · intro h
    by_cases ha : a = 0
    · exact .inl ha
    · right
      have : gmul (ginv a) (gmul a b) = b := by rw [← gmul_assoc, ginv_mul a ha, one_gmul]
      rw [← this, h, gmul_zero]
  · rintro (rfl | rfl)
    · exact zero_gmul _
    · exact gmul_zero _
theorem gmul_cancel (a b c : UInt8) (ha : a ≠ 0) (h : gmul a b = gmul a c) : b = c := by
  have h1 : gmul (ginv a) (gmul a b) = b := by rw [← gmul_assoc, ginv_mul a ha, one_gmul]
  have h2 : gmul (ginv a) (gmul a c) = c := by rw [← gmul_assoc, ginv_mul a ha, one_gmul]
  rw [← h1, h, h2]
theorem ginv_ne (a : UInt8) : ginv a ≠ 0 := pw_ne _
theorem ginv_unique (a b : UInt8) (h : gmul a b = 1) : b = ginv a := by
  have ha : a ≠ 0 := by rintro rfl; rw [zero_gmul] at h; exact absurd h (by decide)
  exact gmul_cancel a _ _ ha (by rw [h, gmul_ginv a ha])
end Go.Proofs.Ytbmfcffdnpnonaa
