/- Contracts of package field and of the reference's field: what each call returns. No condition. -/
import Derived.Test.YtbmfcffdnpnonaaRows
import Derived.Test.YtbmfcffdnpnonaaBase
import Derived.Test.YtbmfcffdnpnonaaFieldM
import Derived.Test.YtbmfcffdnpnonaaFieldR
import Derived.WalkKit
import Derived.ProofKit
import Derived.OpenShut
import Derived.ShutString
import Derived.ChangeOld
import Derived.Below
import Derived.Lib.Hide
import Derived.WalkLawsBesides
import Derived.WalkSpells
import Derived.Deep.QuietTactic
import Derived.BigQuiet
import Derived.Deep.OwnRows
import Derived.BigRegion
namespace Go.Proofs.Ytbmfcffdnpnonaa
open Go.ChangeShapes Go.WideShapes Go.ChangeAt Go.RowKit
open Go.ChangeMaps (open_string shut_string)

theorem shl1 (a : UInt8) : ((a.toNat : Int) * (2 : Int) % (256 : Int)) = ((a <<< 1).toNat : Int) := by
  have h : (a <<< 1).toNat = a.toNat * 2 % 256 := by
    have := all8 (fun a => (a <<< 1).toNat == a.toNat * 2 % 256) (by decide +kernel) a
    simpa using this
  rw [h]; omega
theorem shr1 (a : UInt8) : ((a.toNat : Int) / (2 : Int)) = ((a >>> 1).toNat : Int) := by
  have h : (a >>> 1).toNat = a.toNat / 2 := by
    have := all8 (fun a => (a >>> 1).toNat == a.toNat / 2) (by decide +kernel) a
    simpa using this
  rw [h]; omega
theorem and1 (a : UInt8) : bits .and .u8 (a.toNat : Int) 1 = ((a &&& 1).toNat : Int) := B_and a 1
theorem xor29 (a : UInt8) : bits .xor .u8 (a.toNat : Int) 29 = ((a ^^^ 29).toNat : Int) := B_xor a 29
theorem xt_hi (a : UInt8) (h : 127 < (a.toNat : Int)) : bits .xor .u8 ((a.toNat : Int) * (2 : Int) % (256 : Int)) 29 = ((xt a).toNat : Int) := by
  rw [shl1, xor29, xt, if_pos (by rw [gt_iff_lt, UInt8.lt_iff_toNat_lt]; show 127 < _; omega)]
theorem xt_lo (a : UInt8) (h : (a.toNat : Int) ≤ 127) : ((a.toNat : Int) * (2 : Int) % (256 : Int)) = ((xt a).toNat : Int) := by
  rw [shl1, xt, if_neg (by rw [gt_iff_lt, UInt8.lt_iff_toNat_lt]; simp; omega)]
theorem gm_done (n : Nat) (a b o : UInt8) (h : ((b.toNat : Int) != 0) = false) : gm n a b o = o := by
  have : b = 0 := by
    apply UInt8.toNat_inj.1
    simpa using h
  subst this; exact gm_zero n a o
theorem bit_yes (b : UInt8) (h : (bits BinOp.and IntKind.u8 (b.toNat : Int) 1 != 0) = true) : ¬ b &&& 1 = 0 := by
  intro h2; rw [and1, h2] at h; exact absurd h (by decide)
theorem bit_no (b : UInt8) (h : (bits BinOp.and IntKind.u8 (b.toNat : Int) 1 != 0) = false) : b &&& 1 = 0 := by
  rw [and1] at h
  have h2 : ((b &&& 1).toNat : Int) = 0 := by simpa only [bne_eq_false_iff_eq] using h
  apply UInt8.toNat_inj.1
  show _ = 0
  omega

set_option maxHeartbeats 400000 in
theorem mul_any (a b : UInt8) (w : World) :
    Calls Try.prog 15 #[B a, B b] w fun e w' => e = .returned (B (gmul a b)) ∧ w = w' := by
  go_enter Try.func15, Try.ntmps15
  go_wp2
  go_loop [0, 1, 5] (fun x y o => ∃ (n : Nat) (a' b' o' : UInt8), x = B a' ∧ y = B b' ∧ o = B o' ∧ b'.toNat < 2^n ∧ gm n a' b' o' = gmul a b) (fun _ y _ => (intOf y).toNat)
  case atStart => exact ⟨8, a, b, 0, rfl, rfl, rfl, b.toNat_lt, rfl⟩
  case round =>
    obtain ⟨n, a', b', o', rfl, rfl, rfl, hb, hg⟩ := hrel
    have Hg := Lib.hid hg
    clear hg
    by_cases h0 : b' = 0
    · subst h0
      go_wp2
      go_ret
      rw [gm_done _ _ _ _ rfl] at Hg
      have hg := Hg.out
      subst hg
      exact ⟨rfl, rfl⟩
    · have hb0 : 0 < b'.toNat := by
        rcases Nat.eq_zero_or_pos b'.toNat with h | h
        · exact absurd (UInt8.toNat_inj.1 h) h0
        · exact h
      obtain ⟨m, rfl⟩ : ∃ m, n = m + 1 := by
        cases n with
        | zero => simp at hb; omega
        | succ m => exact ⟨m, rfl⟩
      have hs : (b' >>> 1).toNat < 2 ^ m := by
        have := shr1 b'
        have h2 : 2 ^ (m + 1) = 2 ^ m * 2 := Nat.pow_succ ..
        omega
      have Hs := Lib.hid hs
      clear hb
      have e1 := shr1 b'
      have E1 := Lib.hid e1
      clear e1
      go_wp2
      all_goals
        go_round
        case rel =>
          refine ⟨m, xt a', b' >>> 1, if b' &&& 1 = 0 then o' else o' ^^^ a', ?_, by rw [E1.out], ?_, Hs.out, Hg.out⟩
          · first | rw [xt_hi _ (by assumption)] | rw [xt_lo _ (by assumption)]
          · first | rw [if_neg (bit_yes _ (by assumption)), B_xor] | rw [if_pos (bit_no _ (by assumption))]
        case measure => simp [intOf]; omega

def tab0 : Array Value := Array.replicate 510 (.int .u8 0) ++ Array.replicate 256 (.int .i64 0)
theorem run_tab (w : World) : (zeroValue 38).run Try.prog w = .ok (.agg tab0) w := by kernel_rfl
def tabAt (k i : Nat) : Value :=
  if i < 255 then (if i < k then B (pw i) else B 0) else if i < 510 then (if i < k + 255 then B (pw (i - 255)) else B 0) else .int .i64 (lgTo k (UInt8.ofNat (i - 510)))
theorem tab_start (i : Nat) (h : i < 766) : tab0[i]? = some (tabAt 0 i) := by
  unfold tab0 tabAt
  rw [Array.getElem?_append]
  simp only [Array.size_replicate, Array.getElem?_replicate, lgTo]
  by_cases h1 : i < 255
  · simp [h1, show i < 510 by omega]
  · by_cases h2 : i < 510
    · simp [h1, h2]
    · simp [h1, h2]; omega
theorem tab_row (w : World) : (w.alloc (.cells tab0 38)).rowIs w.heap.size 38 766 (tabAt 0) := by
  have h := World.rowIs_alloc w tab0 38 (tabAt 0) (fun i hi => tab_start i (by rw [show tab0.size = 766 by simp [tab0]] at hi; exact hi))
  rwa [show tab0.size = 766 by simp [tab0]] at h
attribute [irreducible] tab0
theorem dbl_nat (p : UInt8) : (127 < p.toNat → (p.toNat * 2) ^^^ 285 = (xt p).toNat) ∧ (p.toNat ≤ 127 → p.toNat * 2 = (xt p).toNat) := by
  have := all8 (fun p => decide ((127 < p.toNat → (p.toNat * 2) ^^^ 285 = (xt p).toNat) ∧ (p.toNat ≤ 127 → p.toNat * 2 = (xt p).toNat))) (by decide +kernel) p
  exact of_decide_eq_true this
theorem dbl_hi (p : UInt8) (h : (255 : Int) < (p.toNat : Int) * 2) : I (bits .xor .i64 ((p.toNat : Int) * 2) 285) = I (xt p).toNat := by
  have h1 := (dbl_nat p).1 (by omega)
  have h2 := i64_xor_nat (p.toNat * 2) 285 (by have := p.toNat_lt; omega) (by omega)
  rw [h1] at h2
  rw [← h2]; rfl
theorem dbl_lo (p : UInt8) (h : (p.toNat : Int) * 2 ≤ 255) : I ((p.toNat : Int) * 2) = I (xt p).toNat := by
  have h1 := (dbl_nat p).2 (by omega)
  rw [← h1]; rfl
theorem tab_next (k : Nat) (hk : k < 255) (w : World) (b : Nat) (h : w.rowIs b 38 766 (tabAt k)) :
    (((w.setCell ⟨b, k, none⟩ (B (pw k))).setCell ⟨b, k + 255, none⟩ (B (pw k))).setCell ⟨b, 510 + (pw k).toNat, none⟩ (I k)).rowIs b 38 766 (tabAt (k + 1)) := by
  refine (((h.set k _).set (k + 255) _).set _ _).congr fun i hi => ?_
  have hp := (pw k).toNat_lt
  unfold tabAt
  by_cases h1 : i = 510 + (pw k).toNat
  · subst h1
    rw [if_pos rfl, if_neg (by omega), if_neg (by omega), show 510 + (pw k).toNat - 510 = (pw k).toNat by omega, UInt8.ofNat_toNat, lgTo, if_pos rfl]
  · rw [if_neg h1]
    by_cases h2 : i = k + 255
    · subst h2
      rw [if_pos rfl, if_neg (by omega), if_pos (by omega), if_pos (by omega), show k + 255 - 255 = k by omega]
    · rw [if_neg h2]
      by_cases h3 : i = k
      · subst h3
        rw [if_pos rfl, if_pos (by omega), if_pos (by omega)]
      · rw [if_neg h3]
        by_cases h4 : i < 255
        · rw [if_pos h4, if_pos h4]
          by_cases h5 : i < k
          · rw [if_pos h5, if_pos (by omega)]
          · rw [if_neg h5, if_neg (by omega)]
        · rw [if_neg h4, if_neg h4]
          by_cases h6 : i < 510
          · rw [if_pos h6, if_pos h6]
            by_cases h5 : i < k + 255
            · rw [if_pos h5, if_pos (by omega)]
            · rw [if_neg h5, if_neg (by omega)]
          · rw [if_neg h6, if_neg h6, lgTo, if_neg]
            intro he
            apply h1
            rw [he, UInt8.toNat_ofNat']
            omega
set_option maxRecDepth 10000 in
set_option maxHeartbeats 400000 in
theorem made_any (w : World) :
    Calls Try.prog 19 #[] w fun e w' => e = .returned (.pointer (some ⟨w.heap.size, 0, none⟩)) ∧ w'.rowIs w.heap.size 38 766 (tabAt 255) ∧ Below w.heap.size w w' := by
  have hnew := run_tab
  go_enter Try.func19, Try.ntmps19
  go_wp2
  go_loopw [2, 5] (fun x i wr => ∃ k : Nat, k ≤ 255 ∧ i = I k ∧ x = I (pw k).toNat ∧ wr.rowIs w.heap.size 38 766 (tabAt k) ∧ Below w.heap.size w wr) (fun _ i _ => (255 - intOf i).toNat)
  case atStart => exact ⟨0, by omega, rfl, rfl, tab_row w, (Below.refl _ _).alloc (Nat.le_refl _) _⟩
  case round =>
    obtain ⟨k, hk, rfl, rfl, hrow, hb⟩ := hrel
    by_cases hlt : k < 255
    · have c1 := hrow.cell (i := k) (by omega)
      have c2 := hrow.cell (i := k + 255) (by omega)
      have c3 := hrow.cell (i := 510 + (pw k).toNat) (by have := (pw k).toNat_lt; omega)
      have f1 := hrow.frozen k
      have f2 := hrow.frozen (k + 255)
      have f3 := hrow.frozen (510 + (pw k).toNat)
      have Hrow := Lib.hid (tab_next k hlt _ _ hrow)
      have Hb := Lib.hid hb
      clear hrow hb
      generalize tabAt k k = v1 at c1
      generalize tabAt k (k + 255) = v2 at c2
      generalize tabAt k (510 + (pw k).toNat) = v3 at c3
      obtain ⟨p, hp⟩ : ∃ p, p = pw k := ⟨_, rfl⟩
      rw [← hp] at c3 f3 Hrow ⊢
      have Hp := Lib.hid hp
      have p1 := B_lt p
      clear hp
      have e1 : ((p.toNat : Int) % 256) = (p.toNat : Int) := by omega
      go_wp2
      go_region
      go_wp2
      all_goals
        go_roundw
        case rel =>
          refine ⟨k + 1, by omega, by go_num, ?_, Hrow.out, (((Hb.out.setCell (Nat.le_refl _) _).setCell (Nat.le_refl _) _).drew).setCell (Nat.le_refl _) _⟩
          rw [show pw (k + 1) = xt (pw k) from rfl, ← Hp.out]
          first | exact dbl_hi p (by assumption) | exact dbl_lo p (by assumption)
        case measure => simp [intOf]; omega
    · obtain rfl : k = 255 := by omega
      have Hrow := Lib.hid hrow
      have Hb := Lib.hid hb
      clear hrow hb
      generalize (pw 255).toNat = q
      go_wp2
      go_ret
      exact ⟨rfl, Hrow.out, Hb.out⟩

theorem tmod_bd (n : Int) : -254 ≤ n.tmod 255 ∧ n.tmod 255 ≤ 254 := by
  have h1 := Int.tmod_lt_of_pos n (show (0 : Int) < 255 by omega)
  have h2 := Int.tmod_lt_of_pos (-n) (show (0 : Int) < 255 by omega)
  rw [Int.neg_tmod] at h2
  omega
theorem tmod_emod (n : Int) : n.tmod 255 % 255 = n % 255 := by
  have h := Int.tmod_add_mul_tdiv n 255
  omega
set_option maxRecDepth 10000 in
set_option maxHeartbeats 400000 in
theorem power_any (n : Int) (w : World) :
    Calls Try.prog 17 #[I n] w fun e w' => e = .returned (B (powI n)) ∧ Below w.heap.size w w' := by
  have h1 := tmod_bd n
  have h2 : tabAt 255 (n.tmod 255 % 255).toNat = B (powI n) := by
    have := tmod_emod n
    rw [this, tabAt, if_pos (by omega), if_pos (by omega)]; rfl
  have H2 := Lib.hid h2
  clear h2
  go_enter Try.func17, Try.ntmps17
  go_wp2_with (go_at_call 19; refine (made_any _).mono ?_; rintro e w' ⟨rfl, hrow, hb⟩; have hc := hrow.cell (i := (n.tmod 255 % 255).toNat) (by omega); rw [H2.out] at hc; have Hrow := Lib.hid hrow; clear hrow)
  go_ret
  exact ⟨rfl, hb⟩
def logV (a : UInt8) : Value := if a = 0 then .tuple #[I 0, I 5] else .tuple #[I (lg a), I 0]
theorem log_zero (w : World) : Calls Try.prog 9 #[B 0] w fun e w' => e = .returned (.tuple #[I 0, I 5]) ∧ Below w.heap.size w w' := by
  go_enter Try.func9, Try.ntmps9
  go_wp2
  go_ret2
  exact ⟨rfl, Below.refl _ _⟩
set_option maxRecDepth 10000 in
set_option maxHeartbeats 400000 in
theorem log_some (a : UInt8) (ha : a ≠ 0) (w : World) :
    Calls Try.prog 9 #[B a] w fun e w' => e = .returned (.tuple #[I (lg a), I 0]) ∧ Below w.heap.size w w' := by
  have hz : (((a.toNat : Int)) == 0) = false := by rw [B_zero]; simpa using ha
  have p1 := B_lt a
  have h2 : tabAt 255 (510 + a.toNat) = I (lg a) := by
    rw [tabAt, if_neg (by omega), if_neg (by omega), show 510 + a.toNat - 510 = a.toNat by omega, UInt8.ofNat_toNat]; rfl
  have H2 := Lib.hid h2
  clear h2
  go_enter Try.func9, Try.ntmps9
  go_wp2_with (go_at_call 19; refine (made_any _).mono ?_; rintro e w' ⟨rfl, hrow, hb⟩; have hc := hrow.cell (i := 510 + a.toNat) (by omega); rw [H2.out] at hc; have Hrow := Lib.hid hrow; clear hrow)
  go_ret2
  exact ⟨rfl, hb⟩
theorem inverse_zero (w : World) : Calls Try.prog 10 #[B 0] w fun e w' => e = .returned (.tuple #[B 0, I 5]) ∧ Below w.heap.size w w' := by
  go_enter Try.func10, Try.ntmps10
  go_wp2_with (go_at_call 9; refine (log_zero _).mono ?_; rintro e w' ⟨rfl, hb⟩)
  go_ret2
  exact ⟨rfl, hb⟩
theorem inverse_some (a : UInt8) (ha : a ≠ 0) (w : World) :
    Calls Try.prog 10 #[B a] w fun e w' => e = .returned (.tuple #[B (ginv a), I 0]) ∧ Below w.heap.size w w' := by
  have hl := lg_lt a
  go_enter Try.func10, Try.ntmps10
  go_wp2_with (first | (go_at_call 9; refine (log_some a ha _).mono ?_; rintro e w' ⟨rfl, hb⟩) | (go_at_call 17; refine (power_any _ _).mono ?_; rintro e w'' ⟨rfl, hb2⟩))
  go_ret2
  exact ⟨rfl, hb.trans (hb2.mono hb.size)⟩
theorem divide_zero (a : UInt8) (w : World) : Calls Try.prog 11 #[B a, B 0] w fun e w' => e = .returned (.tuple #[B 0, I 5]) ∧ Below w.heap.size w w' := by
  go_enter Try.func11, Try.ntmps11
  go_wp2_with (go_at_call 10; refine (inverse_zero _).mono ?_; rintro e w' ⟨rfl, hb⟩)
  go_ret2
  exact ⟨rfl, hb⟩
theorem divide_some (a b : UInt8) (hb0 : b ≠ 0) (w : World) :
    Calls Try.prog 11 #[B a, B b] w fun e w' => e = .returned (.tuple #[B (gmul a (ginv b)), I 0]) ∧ Below w.heap.size w w' := by
  go_enter Try.func11, Try.ntmps11
  go_wp2_with (first | (go_at_call 10; refine (inverse_some b hb0 _).mono ?_; rintro e w' ⟨rfl, hb⟩) | (go_at_call 15; refine (mul_any _ _ _).mono ?_; rintro e w'' ⟨rfl, rfl⟩))
  go_ret2
  exact ⟨rfl, hb⟩

theorem two_pow_nat (i : Nat) : ((2 ^ i : Nat) : Int) = (2 : Int) ^ i := by simp
theorem two_pow_le (i k : Nat) (h : i ≤ k) : (0 : Int) ≤ (2 : Int) ^ i ∧ (2 : Int) ^ i ≤ ((2 ^ k : Nat) : Int) := by
  have h1 : 2 ^ i ≤ 2 ^ k := Nat.pow_le_pow_right (by omega) h
  rw [← two_pow_nat i]
  exact ⟨Int.natCast_nonneg _, Int.ofNat_le.2 h1⟩
theorem bitT (a n : Nat) : ((a : Int) / (2 : Int) ^ n).tmod (2 : Int) = ((a / 2 ^ n % 2 : Nat) : Int) := by
  have h1 := two_pow_nat n
  rw [← h1, ← Int.natCast_ediv]
  rw [Int.tmod_eq_emod_of_nonneg (Int.natCast_nonneg _)]; rfl
theorem xorI (p i k : Nat) (hp : p < 32768) (h : i ≤ k) (hk : k ≤ 40) : bits .xor .i64 (p : Int) ((2 : Int) ^ i) = ((p ^^^ 2 ^ i : Nat) : Int) := by
  have h1 : 2 ^ i ≤ 2 ^ k := Nat.pow_le_pow_right (by omega) h
  have h4 : 2 ^ k ≤ 2 ^ 40 := Nat.pow_le_pow_right (by omega) hk
  have h3 := i64_xor_nat p (2 ^ i) (by omega) (by omega)
  rw [← h3, two_pow_nat]
theorem row_yes (a b n p m : Nat) (h1 : ((a : Int) / (2 : Int) ^ n).tmod (2 : Int) = 1) (h2 : (((b : Int) / (2 : Int) ^ m).tmod (2 : Int) == 1) = true) : rowTo a b n p (m + 1) = rowTo a b n p m ^^^ 2 ^ (n + m) := by
  rw [bitT] at h1 h2
  rw [rowTo, if_pos ⟨by omega, by simp only [beq_iff_eq] at h2; omega⟩]
theorem row_no1 (a b n p m : Nat) (h1 : ¬ ((a : Int) / (2 : Int) ^ n).tmod (2 : Int) = 1) : rowTo a b n p (m + 1) = rowTo a b n p m := by
  rw [bitT] at h1
  rw [rowTo, if_neg (fun h => h1 (by omega))]
theorem row_no2 (a b n p m : Nat) (h2 : (((b : Int) / (2 : Int) ^ m).tmod (2 : Int) == 1) = false) : rowTo a b n p (m + 1) = rowTo a b n p m := by
  rw [bitT] at h2
  rw [rowTo, if_neg (fun h => by simp only [beq_eq_false_iff_ne] at h2; omega)]
theorem red_yes (p m : Nat) (h : (((p : Int) / (2 : Int) ^ (14 - m)).tmod (2 : Int) == 1) = true) (hp : p < 32768) (hm : m < 7) :
    bits BinOp.xor IntKind.i64 (p : Int) ((285 : Int) * (2 : Int) ^ (14 - m - 8)) = ((redStep p (14 - m) : Nat) : Int) := by
  rw [bitT] at h
  have h1 : 2 ^ (14 - m - 8) ≤ 2 ^ 6 := Nat.pow_le_pow_right (by omega) (by omega)
  have h3 := i64_xor_nat p (285 * 2 ^ (14 - m - 8)) (by omega) (by omega)
  rw [redStep, if_pos (by simp only [beq_iff_eq] at h; omega), ← h3]
  simp
theorem red_no (p m : Nat) (h : (((p : Int) / (2 : Int) ^ (14 - m)).tmod (2 : Int) == 1) = false) : redStep p (14 - m) = p := by
  rw [bitT] at h
  rw [redStep, if_neg (fun h2 => by simp only [beq_eq_false_iff_ne] at h; omega)]
theorem red_end (a b : UInt8) : Value.int .u8 ((redTo (clTo a.toNat b.toNat 8) 7 : Int) % (256 : Int)) = B (gmul a b) := by
  rw [mulOf_eq]
  have := B_lt (gmul a b)
  rw [Int.emod_eq_of_lt (by omega) (by omega)]
set_option maxHeartbeats 400000 in
theorem mulOf_any (a b : UInt8) (w : World) :
    Calls Try.prog 16 #[B a, B b] w fun e w' => e = .returned (B (gmul a b)) ∧ w = w' := by
  have pa := B_lt a
  have pb := B_lt b
  go_enter Try.func16, Try.ntmps16
  go_wp2
  go_loop [5, 6, 7] (fun p i _ => ∃ n : Nat, n ≤ 8 ∧ i = I n ∧ p = I (clTo a.toNat b.toNat n)) (fun _ i _ => (8 - intOf i).toNat)
  case atStart => exact ⟨0, by omega, rfl, rfl⟩
  case round =>
    obtain ⟨n, hn, rfl, rfl⟩ := hrel
    by_cases hlt : n < 8
    · go_wp2
      go_loop [5, 7] (fun p k => ∃ m : Nat, m ≤ 8 ∧ k = I m ∧ p = I (rowTo a.toNat b.toNat n (clTo a.toNat b.toNat n) m)) (fun _ i => (8 - intOf i).toNat)
      case atStart => exact ⟨0, by omega, rfl, rfl⟩
      case round =>
        obtain ⟨m, hm, rfl, rfl⟩ := hrel
        have hp := rowTo_lt a.toNat b.toNat n _ hlt (clTo_lt a.toNat b.toNat n hn) m hm
        by_cases hlt2 : m < 8
        · have h2 := two_pow_le (n + m) 14 (by omega)
          go_wp2
          all_goals
            go_round
            case rel =>
              refine ⟨m + 1, by omega, by go_num, ?_⟩
              first
                | rw [row_yes _ _ _ _ _ (by assumption) (by assumption), xorI _ _ 14 (by assumption) (by omega) (by omega)]
                | rw [row_no2 _ _ _ _ _ (by assumption)]
                | rw [row_no1 _ _ _ _ _ (by assumption)]
            case measure => simp [intOf]; omega
        · obtain rfl : m = 8 := by omega
          go_wp2
          go_round
          case rel => exact ⟨n + 1, by omega, by go_num, rfl⟩
          case measure => simp [intOf]; omega
    · obtain rfl : n = 8 := by omega
      have hc := clTo_lt a.toNat b.toNat 8 (by omega)
      go_wp2
      go_loop [5, 8] (fun p k => ∃ m : Nat, m ≤ 7 ∧ k = I ((14 : Int) - m) ∧ p = I (redTo (clTo a.toNat b.toNat 8) m)) (fun _ i => (intOf i).toNat)
      case atStart => exact ⟨0, by omega, rfl, rfl⟩
      case round =>
        obtain ⟨m, hm, rfl, rfl⟩ := hrel
        have hp := redTo_lt _ hc m hm
        by_cases hlt2 : m < 7
        · have h2 := two_pow_le (14 - m - 8) 6 (by omega)
          go_wp2
          all_goals
            go_round
            case rel =>
              refine ⟨m + 1, by omega, by go_num, ?_⟩
              rw [redTo]
              first
                | rw [red_yes _ _ (by assumption) (by assumption) (by assumption)]
                | rw [red_no _ _ (by assumption)]
            case measure => simp [intOf]; omega
        · obtain rfl : m = 7 := by omega
          go_wp2
          go_ret
          exact ⟨by rw [← red_end a b]; rfl, rfl⟩

theorem gmul_2 (a : UInt8) : gmul a 2 = xt a := gmul_two_pow a 1 (by omega)
theorem mulOf_2 (a : UInt8) (w : World) : Calls Try.prog 16 #[B a, .int .u8 2] w fun e w' => e = .returned (B (xt a)) ∧ w = w' := by
  rw [← gmul_2]; exact mulOf_any a 2 w
set_option maxRecDepth 100000 in
set_option maxHeartbeats 400000 in
theorem powerOf_any (n : Int) (w : World) :
    Calls Try.prog 18 #[I n] w fun e w' => e = .returned (B (powI n)) ∧ w = w' := by
  have h1 := tmod_bd n
  have h2 := tmod_emod n
  obtain ⟨m, hm⟩ : ∃ m : Nat, (n % 255) = m := ⟨(n % 255).toNat, by omega⟩
  have hm2 : m < 255 := by omega
  have e1 : powI n = pw m := by rw [powI, hm]; rfl
  rw [e1]
  have key : (n.tmod 255 < 0 ∧ n.tmod 255 + 255 = (m : Int)) ∨ (0 ≤ n.tmod 255 ∧ n.tmod 255 = m) := by omega
  clear h2 e1 hm
  rcases key with ⟨k1, k2⟩ | ⟨k1, k2⟩
  all_goals
    have K2 := Lib.hid k2
    clear k2
    go_enter Try.func18, Try.ntmps18
    go_wp2
    rw [K2.out]
    go_loop [3, 4] (fun p i => ∃ k : Nat, k ≤ m ∧ i = I k ∧ p = B (pw k)) (fun _ i => (m - intOf i).toNat)
    case atStart => exact ⟨0, by omega, rfl, rfl⟩
    case round =>
      obtain ⟨k, hk, rfl, rfl⟩ := hrel
      by_cases hlt : k < m
      · go_wp2_with (go_at_call 16; refine (mulOf_2 _ _).mono ?_; rintro e w' ⟨rfl, rfl⟩)
        go_round
        case rel => exact ⟨k + 1, by omega, by go_num, rfl⟩
        case measure => simp [intOf]; omega
      · obtain rfl : k = m := by omega
        go_wp2
        go_ret
        exact ⟨rfl, rfl⟩
theorem beq_no (p a : UInt8) (h : p ≠ a) : ((p.toNat : Int) == (a.toNat : Int)) = false := by
  rw [beq_eq_false_iff_ne]; intro h2; exact h (B_inj.1 h2)
set_option maxRecDepth 100000 in
set_option maxHeartbeats 400000 in
theorem logOf_zero (w : World) : Calls Try.prog 12 #[B 0] w fun e w' => e = .returned (.tuple #[I 0, I 5]) ∧ w = w' := by
  go_enter Try.func12, Try.ntmps12
  go_wp2
  go_loop [4, 5] (fun p i => ∃ k : Nat, k ≤ 255 ∧ i = I k ∧ p = B (pw k)) (fun _ i => (255 - intOf i).toNat)
  case atStart => exact ⟨0, by omega, rfl, rfl⟩
  case round =>
    obtain ⟨k, hk, rfl, rfl⟩ := hrel
    have hz : (((pw k).toNat : Int) == 0) = false := beq_no _ _ (pw_ne k)
    by_cases hlt : k < 255
    · go_wp2_with (go_at_call 16; refine (mulOf_2 _ _).mono ?_; rintro e w' ⟨rfl, rfl⟩)
      go_round
      case rel => exact ⟨k + 1, by omega, by go_num, rfl⟩
      case measure => simp [intOf]; omega
    · go_wp2
      go_ret2
      exact ⟨rfl, rfl⟩
set_option maxRecDepth 100000 in
set_option maxHeartbeats 400000 in
theorem logOf_some (a : UInt8) (ha : a ≠ 0) (w : World) : Calls Try.prog 12 #[B a] w fun e w' => e = .returned (.tuple #[I (lg a), I 0]) ∧ w = w' := by
  have hl := lg_lt a
  go_enter Try.func12, Try.ntmps12
  go_wp2
  go_loop [4, 5] (fun p i => ∃ k : Nat, k ≤ lg a ∧ i = I k ∧ p = B (pw k)) (fun _ i => (255 - intOf i).toNat)
  case atStart => exact ⟨0, by omega, rfl, rfl⟩
  case round =>
    obtain ⟨k, hk, rfl, rfl⟩ := hrel
    by_cases hlt : k < lg a
    · have hz := beq_no (pw k) a (by rintro rfl; rw [lg_pw k (by omega)] at hlt; omega)
      go_wp2_with (go_at_call 16; refine (mulOf_2 _ _).mono ?_; rintro e w' ⟨rfl, rfl⟩)
      go_round
      case rel => exact ⟨k + 1, by omega, by go_num, rfl⟩
      case measure => simp [intOf]; omega
    · obtain rfl : k = lg a := by omega
      rw [(pw_lg a ha).1]
      go_wp2
      go_ret2
      exact ⟨rfl, rfl⟩
theorem B_ofNat (k : Nat) (hk : k < 256) : Value.int .u8 (k : Int) = B (UInt8.ofNat k) := by
  rw [B, UInt8.toNat_ofNat', Nat.mod_eq_of_lt (by omega)]
theorem mulOf_nat (k : Nat) (hk : k < 256) (b : UInt8) (w : World) : Calls Try.prog 16 #[.int .u8 (k : Int), B b] w fun e w' => e = .returned (B (gmul (UInt8.ofNat k) b)) ∧ w = w' := by
  rw [B_ofNat k hk]; exact mulOf_any _ b w
set_option maxRecDepth 100000 in
set_option maxHeartbeats 400000 in
theorem quot_zero (a : UInt8) (w : World) : Calls Try.prog 13 #[B a, B 0] w fun e w' => e = .returned (.tuple #[B 0, I 5]) ∧ w = w' := by
  go_enter Try.func13, Try.ntmps13
  go_wp2
  go_ret2
  exact ⟨rfl, rfl⟩
set_option maxRecDepth 100000 in
set_option maxHeartbeats 400000 in
theorem quot_some (a b : UInt8) (hb : b ≠ 0) (w : World) :
    Calls Try.prog 13 #[B a, B b] w fun e w' => e = .returned (.tuple #[B (gmul a (ginv b)), I 0]) ∧ w = w' := by
  have hz := beq_no b 0 hb
  have hz' : ((b.toNat : Int) == 0) = false := hz
  have hq : gmul (gmul a (ginv b)) b = a := by rw [gmul_assoc, ginv_mul b hb, gmul_one]
  generalize gmul a (ginv b) = q at hq
  have hl := q.toNat_lt
  have Hq := Lib.hid hq
  clear hq hz
  go_enter Try.func13, Try.ntmps13
  go_wp2
  go_loop [6] (fun i => ∃ k : Nat, k ≤ q.toNat ∧ i = I k) (fun i => (256 - intOf i).toNat)
  case atStart => exact ⟨0, by omega, rfl⟩
  case round =>
    obtain ⟨k, hk, rfl⟩ := hrel
    have e2 : k < q.toNat → ¬ gmul (UInt8.ofNat k) b = a := fun hlt h => by
      have h2 := gmul_cancel b _ _ hb (by rw [gmul_comm b, gmul_comm b, h, Hq.out] : gmul b (UInt8.ofNat k) = gmul b q)
      rw [← h2, UInt8.toNat_ofNat', Nat.mod_eq_of_lt (by omega)] at hlt
      omega
    by_cases hlt : k < q.toNat
    · have hne := beq_no (gmul (UInt8.ofNat k) b) a (e2 hlt)
      clear e2
      go_wp2_with (go_at_call 16; refine (mulOf_nat _ (by omega) _ _).mono ?_; rintro e w' ⟨rfl, rfl⟩)
      go_round
      case rel => exact ⟨k + 1, by omega, by go_num⟩
      case measure => simp [intOf]; omega
    · clear e2
      obtain rfl : k = q.toNat := by omega
      go_wp2_with (go_at_call 16; refine (mulOf_any _ _ _).mono ?_; rintro e w' ⟨rfl, rfl⟩; rw [Hq.out])
      go_ret2
      exact ⟨rfl, rfl⟩

theorem B_lit (x : UInt8) (n : Int) (h : (x.toNat : Int) = n) : Value.int .u8 n = B x := by rw [← h]
theorem begun_log (w : World) : Calls Try.prog 9 #[.int .u8 29] w fun e w' => e = .returned (.tuple #[I 8, I 0]) ∧ Below w.heap.size w w' := by
  have h := log_some 29 (by decide) w
  rwa [show lg 29 = 8 by decide +kernel] at h
theorem begun_inv (w : World) : Calls Try.prog 10 #[.int .u8 2] w fun e w' => e = .returned (.tuple #[.int .u8 142, I 0]) ∧ Below w.heap.size w w' := by
  have h := inverse_some 2 (by decide) w
  rwa [show ginv 2 = 142 by decide +kernel] at h
theorem begun_div (w : World) : Calls Try.prog 11 #[.int .u8 5, .int .u8 0] w fun e w' => e = .returned (.tuple #[.int .u8 0, I 5]) ∧ Below w.heap.size w w' := divide_zero 5 w
theorem begun_mul (w : World) : Calls Try.prog 15 #[.int .u8 128, .int .u8 2] w fun e w' => e = .returned (.int .u8 29) ∧ w = w' := by
  have h := mul_any 128 2 w
  rwa [show gmul 128 2 = 29 by decide +kernel] at h
theorem begun_pow8 (w : World) : Calls Try.prog 17 #[I 8] w fun e w' => e = .returned (.int .u8 29) ∧ Below w.heap.size w w' := by
  have h := power_any 8 w
  rwa [show powI 8 = 29 by decide +kernel] at h
theorem begun_pow1 (w : World) : Calls Try.prog 17 #[I (-1)] w fun e w' => e = .returned (.int .u8 142) ∧ Below w.heap.size w w' := by
  have h := power_any (-1) w
  rwa [show powI (-1) = 142 by decide +kernel] at h
set_option maxHeartbeats 400000 in
theorem begun_any (w : World) : Calls Try.prog 14 #[] w fun e w' => e = .returned (.bool true) ∧ Below w.heap.size w w' := by
  go_enter Try.func14, Try.ntmps14
  go_wp2_with (first
    | (go_at_call 9; (with_reducible refine (begun_log _).mono ?_); rintro e w1 ⟨rfl, b1⟩)
    | (go_at_call 10; (with_reducible refine (begun_inv _).mono ?_); rintro e w2 ⟨rfl, b2⟩)
    | (go_at_call 11; (with_reducible refine (begun_div _).mono ?_); rintro e w3 ⟨rfl, b3⟩)
    | (go_at_call 15; (with_reducible refine (begun_mul _).mono ?_); rintro e w4 ⟨rfl, rfl⟩)
    | (go_at_call 17; (with_reducible refine (begun_pow8 _).mono ?_); rintro e w5 ⟨rfl, b5⟩)
    | (go_at_call 17; (with_reducible refine (begun_pow1 _).mono ?_); rintro e w6 ⟨rfl, b6⟩))
  go_ret
  exact ⟨rfl, bt (bt (bt (bt b1 b2) b3) b5) b6⟩
theorem beq_yes (p a : UInt8) (h : p = a) : ((p.toNat : Int) == (a.toNat : Int)) = true := by rw [beq_iff_eq, h]
theorem mul_1 (a : UInt8) (w : World) : Calls Try.prog 15 #[B a, .int .u8 1] w fun e w' => e = .returned (B a) ∧ w = w' := by
  have h := mul_any a 1 w
  rwa [gmul_one] at h
theorem mul_x (a b c : UInt8) (w : World) : Calls Try.prog 15 #[B a, .int .u8 (bits .xor .u8 (b.toNat : Int) (c.toNat : Int))] w fun e w' => e = .returned (B (gmul a (b ^^^ c))) ∧ w = w' := by
  rw [B_xor]; exact mul_any _ _ _
end Go.Proofs.Ytbmfcffdnpnonaa
