/- What functions answer (contracts). No condition. -/
import Derived.Test.YtjfakndleagacaaPMI
import Derived.Test.YtjfakndleagacaaPPolA
set_option linter.unusedSimpArgs false
set_option linter.unusedVariables false
set_option maxHeartbeats 4000000
set_option maxRecDepth 100000
namespace Go.Proofs.Ytjfakndleagacaa
open Go.RowKit
def k_20 : Con Tc Tc.dn := ⟨20, [], fun _ => True, [.cBool], fun _ => true⟩
abbrev z20_2 := (rankL [[UInt8.ofNat (Int.toNat (1 : Int)), UInt8.ofNat (Int.toNat (2 : Int)), UInt8.ofNat (Int.toNat (3 : Int))], [UInt8.ofNat (Int.toNat (2 : Int)), UInt8.ofNat (Int.toNat (4 : Int)), UInt8.ofNat (Int.toNat (6 : Int))]])
abbrev z20_3 := ((unitL (2 : Int)).fst = [[UInt8.ofNat (Int.toNat (1 : Int)), UInt8.ofNat (Int.toNat (0 : Int))], [UInt8.ofNat (Int.toNat (0 : Int)), UInt8.ofNat (Int.toNat (1 : Int))]])
abbrev z20_4 := (invL [[UInt8.ofNat (Int.toNat (1 : Int)), UInt8.ofNat (Int.toNat (2 : Int))], [UInt8.ofNat (Int.toNat (3 : Int)), UInt8.ofNat (Int.toNat (4 : Int))]])
abbrev z20_1 := (mulL z20_4.fst [[UInt8.ofNat (Int.toNat (1 : Int)), UInt8.ofNat (Int.toNat (2 : Int))], [UInt8.ofNat (Int.toNat (3 : Int)), UInt8.ofNat (Int.toNat (4 : Int))]])
abbrev z20_9 := (invL [[UInt8.ofNat (Int.toNat (1 : Int)), UInt8.ofNat (Int.toNat (2 : Int))], [UInt8.ofNat (Int.toNat (2 : Int)), UInt8.ofNat (Int.toNat (4 : Int))]])
abbrev z20_10 := (rowsL [[UInt8.ofNat (Int.toNat (1 : Int)), UInt8.ofNat (Int.toNat (2 : Int))], [UInt8.ofNat (Int.toNat (3 : Int)), UInt8.ofNat (Int.toNat (4 : Int))]] [(1 : Int), (0 : Int)])
abbrev z20_6 := (z20_10.fst = [[UInt8.ofNat (Int.toNat (3 : Int)), UInt8.ofNat (Int.toNat (4 : Int))], [UInt8.ofNat (Int.toNat (1 : Int)), UInt8.ofNat (Int.toNat (2 : Int))]])
abbrev z20_11 := (gd [] (cauL (2 : Int) (3 : Int)).fst (Int.toNat (0 : Int)))
abbrev z20_12 := ((z20_4.snd = (0 : Int) ∧ z20_1.snd = (0 : Int)) ∧ (unitL (2 : Int)).snd = (0 : Int) → (z20_4.snd = (0 : Int) ∧ z20_1.snd = (0 : Int)) ∧ (unitL (2 : Int)).snd = (0 : Int))
abbrev z20_13 := (decide z20_3 = true ∧ z20_2.fst = (1 : Int))
abbrev z20_0 := ((z20_13 ∧ z20_2.snd = (0 : Int)) ∧ z20_9.snd = (5 : Int))
abbrev z20_5 := (((z20_0 ∧ (cauL (2 : Int) (3 : Int)).snd = (0 : Int)) ∧ (↑(cauL (2 : Int) (3 : Int)).fst.length : Int) = (2 : Int)) ∧ (↑z20_11.length : Int) = (3 : Int) → ((z20_0 ∧ (cauL (2 : Int) (3 : Int)).snd = (0 : Int)) ∧ (↑(cauL (2 : Int) (3 : Int)).fst.length : Int) = (2 : Int)) ∧ (↑z20_11.length : Int) = (3 : Int))
abbrev z20_7 := ((z20_0 ∧ (cauL (2 : Int) (3 : Int)).snd = (0 : Int)) ∧ (↑(cauL (2 : Int) (3 : Int)).fst.length : Int) = (2 : Int) → (z20_0 ∧ (cauL (2 : Int) (3 : Int)).snd = (0 : Int)) ∧ (↑(cauL (2 : Int) (3 : Int)).fst.length : Int) = (2 : Int))
abbrev z20_8 := (((z20_0 ∧ (cauL (2 : Int) (3 : Int)).snd = (0 : Int)) ∧ (↑(cauL (2 : Int) (3 : Int)).fst.length : Int) = (2 : Int)) ∧ (↑z20_11.length : Int) = (3 : Int))
theorem k_20_v  : True ∧ True ∧ True ∧ True ∧ True ∧ True ∧ True ∧ (z20_4.snd = (0 : Int) → z20_4.snd = (0 : Int)) ∧ (z20_4.snd = (0 : Int) → z20_4.snd = (0 : Int)) ∧ (z20_4.snd = (0 : Int) ∧ z20_1.snd = (0 : Int) → z20_4.snd = (0 : Int) ∧ z20_1.snd = (0 : Int)) ∧ (z20_4.snd = (0 : Int) ∧ z20_1.snd = (0 : Int) → z20_4.snd = (0 : Int) ∧ z20_1.snd = (0 : Int)) ∧ z20_12 ∧ z20_12 ∧ ((z20_4.snd = (0 : Int) ∧ z20_1.snd = (0 : Int)) ∧ (unitL (2 : Int)).snd = (0 : Int) → z20_1.fst.length ≤ (1000000 : Nat) ∧ ∀ (r : List UInt8), r ∈ z20_1.fst → r.length ≤ (1000000 : Nat)) ∧ z20_12 ∧ (((z20_4.snd = (0 : Int) ∧ z20_1.snd = (0 : Int)) ∧ (unitL (2 : Int)).snd = (0 : Int)) ∧ decide (z20_1.fst = (unitL (2 : Int)).fst) = true → ((unitL (2 : Int)).fst.length ≤ (1000000 : Nat) ∧ ∀ (r : List UInt8), r ∈ (unitL (2 : Int)).fst → r.length ≤ (1000000 : Nat)) ∧ (decide z20_3 = true → decide z20_3 = true) ∧ (decide z20_3 = true → decide z20_3 = true) ∧ (decide z20_3 = true ∧ z20_2.fst = (1 : Int) → decide z20_3 = true ∧ z20_2.fst = (1 : Int)) ∧ (decide z20_3 = true ∧ z20_2.fst = (1 : Int) → decide z20_3 = true ∧ z20_2.fst = (1 : Int)) ∧ (z20_13 ∧ z20_2.snd = (0 : Int) → z20_13 ∧ z20_2.snd = (0 : Int)) ∧ (z20_13 ∧ z20_2.snd = (0 : Int) → z20_13 ∧ z20_2.snd = (0 : Int)) ∧ ((z20_13 ∧ z20_2.snd = (0 : Int)) ∧ z20_9.snd = (5 : Int) → (z20_13 ∧ z20_2.snd = (0 : Int)) ∧ z20_9.snd = (5 : Int)) ∧ ((z20_13 ∧ z20_2.snd = (0 : Int)) ∧ z20_9.snd = (5 : Int) → (z20_13 ∧ z20_2.snd = (0 : Int)) ∧ z20_9.snd = (5 : Int)) ∧ (z20_0 ∧ (cauL (2 : Int) (3 : Int)).snd = (0 : Int) → z20_0 ∧ (cauL (2 : Int) (3 : Int)).snd = (0 : Int)) ∧ (z20_0 ∧ (cauL (2 : Int) (3 : Int)).snd = (0 : Int) → z20_0 ∧ (cauL (2 : Int) (3 : Int)).snd = (0 : Int)) ∧ (z20_0 ∧ (cauL (2 : Int) (3 : Int)).snd = (0 : Int) → z20_0 ∧ (cauL (2 : Int) (3 : Int)).snd = (0 : Int)) ∧ z20_7 ∧ ((z20_0 ∧ (cauL (2 : Int) (3 : Int)).snd = (0 : Int)) ∧ (↑(cauL (2 : Int) (3 : Int)).fst.length : Int) = (2 : Int) → (0 : Int) ≤ (0 : Int) ∧ (0 : Int) < (↑(cauL (2 : Int) (3 : Int)).fst.length : Int)) ∧ z20_7 ∧ z20_7 ∧ z20_7 ∧ z20_7 ∧ z20_5 ∧ (((z20_0 ∧ (cauL (2 : Int) (3 : Int)).snd = (0 : Int)) ∧ (↑(cauL (2 : Int) (3 : Int)).fst.length : Int) = (2 : Int)) ∧ (↑z20_11.length : Int) = (3 : Int) → (0 : Int) ≤ (0 : Int) ∧ (0 : Int) < (↑(cauL (2 : Int) (3 : Int)).fst.length : Int)) ∧ z20_5 ∧ z20_5 ∧ (((z20_0 ∧ (cauL (2 : Int) (3 : Int)).snd = (0 : Int)) ∧ (↑(cauL (2 : Int) (3 : Int)).fst.length : Int) = (2 : Int)) ∧ (↑z20_11.length : Int) = (3 : Int) → (0 : Int) ≤ (0 : Int) ∧ (0 : Int) < (↑z20_11.length : Int)) ∧ z20_5 ∧ z20_5 ∧ z20_5 ∧ (z20_8 ∧ gd (0 : UInt8) z20_11 (Int.toNat (0 : Int)) = UInt8.ofNat (Int.toNat (142 : Int)) → z20_8 ∧ gd (0 : UInt8) z20_11 (Int.toNat (0 : Int)) = UInt8.ofNat (Int.toNat (142 : Int))) ∧ (z20_8 ∧ gd (0 : UInt8) z20_11 (Int.toNat (0 : Int)) = UInt8.ofNat (Int.toNat (142 : Int)) → z20_8 ∧ gd (0 : UInt8) z20_11 (Int.toNat (0 : Int)) = UInt8.ofNat (Int.toNat (142 : Int))) ∧ ((z20_8 ∧ gd (0 : UInt8) z20_11 (Int.toNat (0 : Int)) = UInt8.ofNat (Int.toNat (142 : Int))) ∧ z20_10.snd = (0 : Int) → (z20_10.fst.length ≤ (1000000 : Nat) ∧ ∀ (r : List UInt8), r ∈ z20_10.fst → r.length ≤ (1000000 : Nat)) ∧ (decide z20_6 = true → True) ∧ (decide z20_6 = true → decide z20_6 = true) ∧ (decide z20_6 = true → decide z20_6 = true) ∧ (decide z20_6 && mchk [] == (1 : Int)) = true) ∧ ((((((((decide z20_3 = false ∨ ¬z20_2.fst = (1 : Int)) ∨ ¬z20_2.snd = (0 : Int)) ∨ ¬z20_9.snd = (5 : Int)) ∨ ¬(cauL (2 : Int) (3 : Int)).snd = (0 : Int)) ∨ ¬(↑(cauL (2 : Int) (3 : Int)).fst.length : Int) = (2 : Int)) ∨ ¬(↑z20_11.length : Int) = (3 : Int)) ∨ ¬gd (0 : UInt8) z20_11 (Int.toNat (0 : Int)) = UInt8.ofNat (Int.toNat (142 : Int))) ∨ ¬z20_10.snd = (0 : Int) → false = true)) ∧ (((¬z20_4.snd = (0 : Int) ∨ ¬z20_1.snd = (0 : Int)) ∨ ¬(unitL (2 : Int)).snd = (0 : Int)) ∨ decide (z20_1.fst = (unitL (2 : Int)).fst) = false → false = true) := by
  delta z20_13 z20_12 z20_11 z20_10 z20_9 z20_8 z20_7 z20_6 z20_5 z20_4 z20_3 z20_2 z20_1 z20_0
  (repeat' (first | apply And.intro | (intro h; exact absurd h (by decide +kernel)) | (intro h; clear h) | decide +kernel)) <;> first | decide +kernel | trace_state
theorem k_20_ok : k_20.Ok Try.prog tD := con_ok tD_ok (Δ := [k_13, k_12, k_11, k_14, k_23, k_24, k_21, k_18]) ⟨k_13_ok, k_12_ok, k_11_ok, k_14_ok, k_23_ok, k_24_ok, k_21_ok, k_18_ok, trivial⟩ (Ω := []) trivial k_20 F20_ok F20_call (fun _ => []) (fun _ => trivial) 0 (fun _ => fun k => bif Nat.beq k 1021 then some (.frz [1]) else bif Nat.beq k 1038 then some (.frz [37]) else bif Nat.beq k 1045 then some (.frz [44]) else bif Nat.beq k 1078 then some (.frz [77]) else bif Nat.beq k 1125 then some (.frz [124]) else bif Nat.beq k 3074 then some (.spl 73) else bif Nat.beq k 3121 then some (.spl 120) else none) fun x hp => Eq.mp (by kernel_rfl) (k_20_v )
open Go.RowKit
theorem mx_fill {m n : Int} {f : Nat → Nat → UInt8} {i j : Nat} (hi : (i : Int) < m) (hj : (j : Int) < n) : mxL (fillL m n f) i j = f i j := by
  unfold mxL
  rw [fill_row hi]
  unfold gd
  rw [List.getElem?_map, List.getElem?_range (by omega)]; rfl
theorem fill_congr {m n : Int} {f g : Nat → Nat → UInt8} (h : ∀ i j : Nat, (i : Int) < m → (j : Int) < n → f i j = g i j) : fillL m n f = fillL m n g := by
  unfold fillL
  refine List.map_congr_left fun i hi => List.map_congr_left fun j hj => h i j ?_ ?_
  · have := List.mem_range.1 hi; omega
  · have := List.mem_range.1 hj; omega
theorem fill_self {n m : Nat} {a : List (List UInt8)} (h : mrect n m a) : fillL n m (mxL a) = a := by
  refine gd_iff (d := []) (by rw [fill_len, h.1]; simp) fun i hi => ?_
  rw [fill_len] at hi
  have hin : i < n := by omega
  rw [fill_row (by omega)]
  refine gd_iff (d := 0) (by rw [List.length_map, List.length_range, h.row hin]; simp) fun j hj => ?_
  rw [List.length_map, List.length_range] at hj
  unfold gd
  rw [List.getElem?_map, List.getElem?_range hj]; rfl
theorem rect_eq {n m : Nat} {a b : List (List UInt8)} (ha : mrect n m a) (hb : mrect n m b) (h : ∀ i j, i < n → j < m → mxL a i j = mxL b i j) : a = b := by
  rw [← fill_self ha, ← fill_self hb]
  exact fill_congr fun i j hi hj => h i j (by omega) (by omega)
theorem mchkGo_of {n : Int} : ∀ {a : List (List UInt8)}, (∀ r, r ∈ a → (r.length : Int) = n ∧ r.length ≤ 16 ∧ 0 < r.length) → mchkGo n a = 0
  | [], _ => rfl
  | r :: l, h => by
    have h1 := h r (List.mem_cons_self ..)
    unfold mchkGo
    rw [if_neg (by omega), if_neg (by omega)]
    exact mchkGo_of fun q hq => h q (List.mem_cons_of_mem _ hq)
theorem rect_zero {n m : Nat} {a : List (List UInt8)} (h : mrect n m a) (hn : 0 < n) : (gd [] a 0).length = m := h.row hn
theorem mchk_of {n m : Nat} {a : List (List UInt8)} (h : mrect n m a) (h1 : 0 < n) (h2 : n ≤ 16) (h3 : 0 < m) (h4 : m ≤ 16) : mchk a = 0 := by
  have hl := h.1
  unfold mchk
  rw [if_neg (by omega), if_neg (by omega), rect_zero h h1]
  exact mchkGo_of fun r hr => by have := h.2 r hr; omega
theorem fill_rectN {m n : Nat} {f : Nat → Nat → UInt8} : mrect m n (fillL m n f) := by
  have := fill_rect (m := (m : Int)) (n := (n : Int)) (f := f)
  simpa using this
theorem sg_front (d : Nat) (f : Nat → UInt8) : sg (d + 1) f = f 0 ^^^ sg d fun j => f (j + 1) := by
  rw [sg_skip d 0 f (Nat.zero_le _)]
  rfl
theorem dot_sg : ∀ (xs ys : List UInt8) (o : UInt8), dotGo xs ys o = o ^^^ sg xs.length fun t => gmul (gd 0 xs t) (gd 0 ys t)
  | [], ys, o => by simp [dotGo, sg]
  | x :: l, ys, o => by
    unfold dotGo
    rw [dot_sg l (ys.drop 1), List.length_cons, sg_front, UInt8.xor_assoc]
    congr 2
    refine sg_congr fun i hi => ?_
    congr 1
    unfold gd
    rw [List.getElem?_drop, Nat.add_comm]
theorem turn_rect {n m : Nat} {a : List (List UInt8)} (h : mrect n m a) (hn : 0 < n) : mrect m n (turnL a) := by
  unfold turnL
  rw [rect_zero h hn, h.1]
  exact fill_rectN
theorem turn_mx {n m : Nat} {a : List (List UInt8)} (h : mrect n m a) (hn : 0 < n) {i j : Nat} (hi : i < m) (hj : j < n) : mxL (turnL a) i j = mxL a j i := by
  unfold turnL
  rw [rect_zero h hn, h.1, mx_fill (by omega) (by omega)]
  rfl
theorem raw_eq {n k m : Nat} {a b : List (List UInt8)} (ha : mrect n k a) (hb : mrect k m b) (hk : 0 < k) : rawL a b = fillL n m (mm k (mxL a) (mxL b)) := by
  have ht := turn_rect hb hk
  unfold rawL
  rw [ha.1, ht.1]
  refine fill_congr fun i j hi hj => ?_
  unfold fR
  rw [dot_sg, ha.row (by omega)]
  unfold mm
  rw [UInt8.zero_xor]
  refine sg_congr fun t htk => ?_
  congr 1
  exact turn_mx hb hk (by omega) htk
theorem raw_rect {n k m : Nat} {a b : List (List UInt8)} (ha : mrect n k a) (hb : mrect k m b) (hk : 0 < k) : mrect n m (rawL a b) := by
  rw [raw_eq ha hb hk]; exact fill_rectN
theorem raw_mx {n k m : Nat} {a b : List (List UInt8)} (ha : mrect n k a) (hb : mrect k m b) (hk : 0 < k) {i j : Nat} (hi : i < n) (hj : j < m) : mxL (rawL a b) i j = mm k (mxL a) (mxL b) i j := by
  rw [raw_eq ha hb hk, mx_fill (by omega) (by omega)]
structure Okm (a : List (List UInt8)) (n m : Nat) : Prop where
  rect : mrect n m a
  n0 : 0 < n
  n16 : n ≤ 16
  m0 : 0 < m
  m16 : m ≤ 16
theorem Okm.chk {a : List (List UInt8)} {n m : Nat} (h : Okm a n m) : mchk a = 0 := mchk_of h.rect h.n0 h.n16 h.m0 h.m16
theorem Okm.len {a : List (List UInt8)} {n m : Nat} (h : Okm a n m) : a.length = n := h.rect.1
theorem Okm.wid {a : List (List UInt8)} {n m : Nat} (h : Okm a n m) : (gd [] a 0).length = m := rect_zero h.rect h.n0
theorem Okm.raw {a b : List (List UInt8)} {n k m : Nat} (ha : Okm a n k) (hb : Okm b k m) : Okm (rawL a b) n m := ⟨raw_rect ha.rect hb.rect ha.m0, ha.n0, ha.n16, hb.m0, hb.m16⟩
theorem Okm.turn {a : List (List UInt8)} {n m : Nat} (h : Okm a n m) : Okm (turnL a) m n := ⟨turn_rect h.rect h.n0, h.m0, h.m16, h.n0, h.n16⟩
theorem Okm.fill {m n : Nat} {f : Nat → Nat → UInt8} (h1 : 0 < m) (h2 : m ≤ 16) (h3 : 0 < n) (h4 : n ≤ 16) : Okm (fillL m n f) m n := ⟨fill_rectN, h1, h2, h3, h4⟩
theorem unit_ok {n : Nat} (h1 : 0 < n) (h2 : n ≤ 16) : unitL n = (fillL n n fU, 0) ∧ Okm (fillL n n fU) n n := by
  unfold unitL
  rw [if_pos (by omega)]
  exact ⟨rfl, Okm.fill h1 h2 h1 h2⟩
theorem unit_mx {n i j : Nat} (hi : i < n) (hj : j < n) : mxL (fillL n n fU) i j = unitM i j := mx_fill (by omega) (by omega)
open Go.RowKit
open Go.RowKit
open Go.RowKit
theorem fillB_eq {a : List (List UInt8)} {n : Nat} (h : Okm a n n) : fillL n (2 * (n : Int)) (fB a n) = bothL a n := by
  have e : (2 * (n : Int)) = ((n + n : Nat) : Int) := by omega
  rw [e]
  refine rect_eq fill_rectN (bothL_rect h.rect) fun i j hi hj => ?_
  rw [mx_fill (by omega) (by omega), bothL_mx h.rect hi]
  unfold fB bothM unitM
  by_cases hj2 : j < n
  · rw [if_pos hj2, if_pos hj2]; rfl
  · rw [if_neg hj2, if_neg hj2]
    by_cases e2 : j - n = i
    · rw [if_pos e2, if_pos e2.symm]
    · rw [if_neg e2, if_neg fun e3 => e2 e3.symm]
theorem inv_ok {a : List (List UInt8)} {n : Nat} (h : Okm a n n) : ∃ r, RankIs n n (mxL a) r ∧ ((r < n ∧ invL a = ([], 5)) ∨ (r = n ∧ ∃ x, invL a = (x, 0) ∧ Okm x n n ∧ rawL x a = fillL n n fU ∧ rawL a x = fillL n n fU)) := by
  obtain ⟨k1, k2, k3⟩ := clr_inv h.rect h.n0
  have e1 : clI a = clrL n (bothL a n) 0 0 := by unfold clI; rw [h.len, fillB_eq h]
  have hle := k2.le.1
  refine ⟨_, k2, ?_⟩
  have hinv : invL a = if (clI a).2 < a.length then ([], 5) else (fillL a.length a.length (fI (clI a).1 a.length), 0) := by
    unfold invL; rw [if_neg (by rw [h.chk]; simp), if_neg (by rw [h.len, h.wid]; simp)]
  rw [hinv, e1, h.len]
  by_cases hr : (clrL n (bothL a n) 0 0).2 < n
  · left; exact ⟨hr, by rw [if_pos hr]⟩
  · right
    have hrn : (clrL n (bothL a n) 0 0).2 = n := by omega
    obtain ⟨q1, q2⟩ := k1 hrn
    have hx : Okm (fillL n n (fI (clrL n (bothL a n) 0 0).1 n)) n n := Okm.fill h.n0 h.n16 h.n0 h.n16
    have hu := (unit_ok h.n0 h.n16).2
    have hm : ∀ i j, i < n → j < n → mxL (fillL n n (fI (clrL n (bothL a n) 0 0).1 n)) i j = mxL (clrL n (bothL a n) 0 0).1 i (n + j) := fun i j hi hj => mx_fill (by omega) (by omega)
    refine ⟨hrn, _, by rw [if_neg hr], hx, ?_, ?_⟩
    · refine rect_eq (hx.raw h).rect hu.rect fun i j hi hj => ?_
      rw [raw_mx hx.rect h.rect h.n0 hi hj, unit_mx hi hj, ← q1 i j hi hj]
      exact mm_congr (fun t ht => hm i t hi ht) fun t _ => rfl
    · refine rect_eq (h.raw hx).rect hu.rect fun i j hi hj => ?_
      rw [raw_mx h.rect hx.rect h.n0 hi hj, unit_mx hi hj, ← q2 i j hi hj]
      exact mm_congr (fun t _ => rfl) fun t ht => hm t j ht hj
open Go.RowKit
open Go.RowKit
theorem turn_pre {a : List (List UInt8)} {n m : Nat} (h : Okm a n m) : 0 < a.length ∧ a.length ≤ 16 ∧ (gd [] a 0).length ≤ 16 ∧ mrect a.length (gd [] a 0).length a := by
  rw [h.len, h.wid]; exact ⟨h.n0, h.n16, h.m16, h.rect⟩
open Go.RowKit
structure DiI (a b : List Int) (i : Int) : Prop where
  lo : 0 ≤ i
  hi : i ≤ a.length
  ne : ∀ p q : Nat, p < q → (q : Int) < i → gd 0 a q ≠ gd 0 a p ∧ ((q : Int) < b.length → gd 0 b q ≠ gd 0 b p)
structure DjI (a b : List Int) (i k : Int) : Prop where
  lo : 0 ≤ k
  hi : k ≤ i
  ne : ∀ p : Nat, (p : Int) < k → gd 0 a i.toNat ≠ gd 0 a p ∧ (i < b.length → gd 0 b i.toNat ≠ gd 0 b p)
theorem DiI.start {a b : List Int} : DiI a b 0 := ⟨by omega, by omega, fun p q h1 h2 => by omega⟩
theorem DjI.start {a b : List Int} {i : Int} (h : 0 ≤ i) : DjI a b i 0 := ⟨by omega, h, fun p h1 => by omega⟩
theorem DjI.step {a b : List Int} {i k : Int} (h : DjI a b i k) (hk : k < i) (h1 : ¬ gd 0 a i.toNat = gd 0 a k.toNat) (h2 : i < b.length → ¬ gd 0 b i.toNat = gd 0 b k.toNat) : DjI a b i (k + 1) := ⟨by have := h.lo; omega, by omega, fun p hp => by
  by_cases e : (p : Int) = k
  · have e2 : p = k.toNat := by omega
    subst e2; exact ⟨h1, h2⟩
  · exact h.ne p (by omega)⟩
theorem DiI.step {a b : List Int} {i k : Int} (h : DiI a b i) (hi : i < a.length) (hj : DjI a b i k) (hk : i ≤ k) : DiI a b (i + 1) := ⟨by have := h.lo; omega, by omega, fun p q h1 h2 => by
  by_cases e : (q : Int) = i
  · have e2 : q = i.toNat := by omega
    subst e2
    have := hj.ne p (by omega)
    exact ⟨this.1, fun h => this.2 (by omega)⟩
  · exact h.ne p q h1 (by omega)⟩
theorem DiI.two {a b : List Int} {i : Int} (h : DiI a b i) (hi : a.length ≤ i) (hl : a.length = b.length) : ∀ p q : Nat, p < a.length → q < a.length → (gd 0 a p = gd 0 a q → p = q) ∧ (gd 0 b p = gd 0 b q → p = q) := fun p q hp hq => by
  rcases Nat.lt_trichotomy p q with e | e | e
  · have := h.ne p q e (by omega)
    exact ⟨fun h => absurd h.symm this.1, fun h => absurd h.symm (this.2 (by omega))⟩
  · exact ⟨fun _ => e, fun _ => e⟩
  · have := h.ne q p e (by omega)
    exact ⟨fun h => absurd h this.1, fun h => absurd h (this.2 (by omega))⟩
theorem rows_ok {a : List (List UInt8)} {at_ : List Int} {n m : Nat} (ha : Okm a n m) (h : (rowsL a at_).2 = 0) : Okm (rowsL a at_).1 at_.length m ∧ (∀ i, i < at_.length → 0 ≤ gd 0 at_ i ∧ gd 0 at_ i < n) ∧ ∀ i j, i < at_.length → mxL (rowsL a at_).1 i j = mxL a (gd 0 at_ i).toNat j := by
  unfold rowsL at h ⊢
  rw [if_neg (by rw [ha.chk]; simp)] at h ⊢
  by_cases h1 : 16 < at_.length
  · rw [if_pos h1] at h; simp at h
  · rw [if_neg h1] at h ⊢
    by_cases h2 : at_.length = 0
    · rw [if_pos h2] at h; simp at h
    · rw [if_neg h2] at h ⊢
      by_cases h3 : ∀ i, i ∈ at_ → 0 ≤ i ∧ i < a.length
      · rw [if_pos h3]
        have hl := ha.len
        refine ⟨⟨⟨by simp, fun r hr => ?_⟩, by omega, by omega, ha.m0, ha.m16⟩, fun i hi => by rw [← hl]; exact h3 _ (gd_mem hi), fun i j hi => ?_⟩
        · obtain ⟨i, hi, rfl⟩ := List.mem_map.1 hr
          have := h3 i hi
          exact ha.rect.row (by omega)
        · show gd 0 (gd [] (at_.map fun i => gd [] a i.toNat) i) j = gd 0 (gd [] a (gd 0 at_ i).toNat) j
          congr 1
          unfold gd
          rw [List.getElem?_map, List.getElem?_eq_getElem hi]; rfl
      · rw [if_neg h3] at h; simp at h
theorem cau_ok {m n : Int} (h : (cauL m n).2 = 0) : (1 ≤ m ∧ m ≤ 16 ∧ 1 ≤ n ∧ n ≤ 16) ∧ Okm (cauL m n).1 m.toNat n.toNat ∧ ∀ i j : Nat, (i : Int) < m → (j : Int) < n → mxL (cauL m n).1 i j = fC m i j := by
  unfold cauL at h ⊢
  by_cases hc : 1 ≤ m ∧ m ≤ 16 ∧ 1 ≤ n ∧ n ≤ 16
  · rw [if_pos hc]
    refine ⟨hc, ?_, fun i j hi hj => mx_fill hi hj⟩
    have := Okm.fill (m := m.toNat) (n := n.toNat) (f := fC m) (by omega) (by omega) (by omega) (by omega)
    rw [Int.toNat_of_nonneg (by omega), Int.toNat_of_nonneg (by omega)] at this
    exact this
  · rw [if_neg hc] at h; simp at h
theorem of_inj {a b : Nat} (ha : a < 256) (hb : b < 256) (h : UInt8.ofNat a = UInt8.ofNat b) : a = b := by
  have := congrArg UInt8.toNat h
  simpa [Nat.mod_eq_of_lt ha, Nat.mod_eq_of_lt hb] using this
theorem cau_pre {m n : Int} {at_ : List Int} (h : (cauL m n).2 = 0) (h2 : (rowsL (cauL m n).1 at_).2 = 0) : 0 < (rowsL (cauL m n).1 at_).1.length ∧ (rowsL (cauL m n).1 at_).1.length ≤ 16 ∧ (gd [] (rowsL (cauL m n).1 at_).1 0).length ≤ 16 ∧ mrect (rowsL (cauL m n).1 at_).1.length (gd [] (rowsL (cauL m n).1 at_).1 0).length (rowsL (cauL m n).1 at_).1 := turn_pre (rows_ok (cau_ok h).2.1 h2).1
theorem cau_inv {m n : Int} {at_ to : List Int} (h : (cauL m n).2 = 0) (h2 : (rowsL (cauL m n).1 at_).2 = 0) (hl : at_.length = to.length) (h3 : (rowsL (turnL (rowsL (cauL m n).1 at_).1) to).2 = 0) {i : Int} (hd : DiI at_ to i) (hi : at_.length ≤ i) : (invL (rowsL (turnL (rowsL (cauL m n).1 at_).1) to).1).2 = 0 := by
  obtain ⟨hb, hc, hm⟩ := cau_ok h
  obtain ⟨x1, x2, x3⟩ := rows_ok hc h2
  obtain ⟨y1, y2, y3⟩ := rows_ok x1.turn h3
  rw [← hl] at y1 y2 y3
  have two := hd.two hi hl
  obtain ⟨r, hr, ⟨q1, q2⟩ | ⟨q1, x, e, _⟩⟩ := inv_ok y1
  · exfalso
    have hx : ∀ i k, i < at_.length → k < at_.length → UInt8.ofNat (m.toNat + (gd 0 to i).toNat) = UInt8.ofNat (m.toNat + (gd 0 to k).toNat) → i = k := fun i k hi hk e => by
      have a1 := y2 i hi
      have a2 := y2 k hk
      have := of_inj (by omega) (by omega) e
      exact (two i k hi hk).2 (by omega)
    have hy : ∀ i k, i < at_.length → k < at_.length → UInt8.ofNat (gd 0 at_ i).toNat = UInt8.ofNat (gd 0 at_ k).toNat → i = k := fun i k hi hk e => by
      have a1 := x2 i hi
      have a2 := x2 k hk
      have := of_inj (by omega) (by omega) e
      exact (two i k hi hk).1 (by omega)
    have hxy : ∀ i k, i < at_.length → k < at_.length → UInt8.ofNat (m.toNat + (gd 0 to i).toNat) ≠ UInt8.ofNat (gd 0 at_ k).toNat := fun i k hi hk e => by
      have a1 := y2 i hi
      have a2 := x2 k hk
      have := of_inj (by omega) (by omega) e
      omega
    have ent : ∀ i j, i < at_.length → j < at_.length → mxL (rowsL (turnL (rowsL (cauL m n).1 at_).1) to).1 i j = ginv (UInt8.ofNat (m.toNat + (gd 0 to i).toNat) ^^^ UInt8.ofNat (gd 0 at_ j).toNat) := fun i j hi hj => by
      have a1 := y2 i hi
      have a2 := x2 j hj
      rw [y3 i j hi, turn_mx x1.rect x1.n0 (by omega) hj, x3 j _ hj, hm _ _ (by omega) (by omega)]
      unfold fC invN
      have e : UInt8.ofNat ((gd 0 at_ j).toNat ^^^ (m.toNat + (gd 0 to i).toNat)) = UInt8.ofNat (m.toNat + (gd 0 to i).toNat) ^^^ UInt8.ofNat (gd 0 at_ j).toNat := by
        rw [Nat.xor_comm]
        apply UInt8.toNat.inj
        simp
      rw [e, if_neg fun e2 => hxy i j hi hj (xor_zero_iff.1 e2)]
    have hr2 : RankIs at_.length at_.length (fun i j => ginv (UInt8.ofNat (m.toNat + (gd 0 to i).toNat) ^^^ UInt8.ofNat (gd 0 at_ j).toNat)) r := ⟨hr.thr.congr fun i j hi hj => (ent i j hi hj).symm, fun k hk => hr.min k (hk.congr ent)⟩
    have := cauchy_whole hx hy hxy hr2
    omega
  · rw [e]
def i_9_1 (at_ : (List Int)) (to : (List Int)) (k0 : Int) (i0 : Int) (k : Int) (i : Int) : Prop := i = i0 ∧ DjI at_ to i k
def i_9_0 (at_ : (List Int)) (to : (List Int)) (i : Int) : Prop := DiI at_ to i
def k_9 : Con Tc Tc.dn := ⟨9, [.ty .cInt, .ty .cInt, .ty .lInt, .ty .lInt], fun x => (fun (rows : Int) (cols : Int) (at_ : (List Int)) (to : (List Int)) => at_.length * 8 ≤ 140737488351232) x.1 x.2.1 x.2.2.1 x.2.2.2.1, [.cBool], fun x => (fun (rows : Int) (cols : Int) (at_ : (List Int)) (to : (List Int)) => true) x.1 x.2.1 x.2.2.1 x.2.2.2.1⟩
abbrev z9_0 (rows : Int) (cols : Int) (at_ : (List Int)) := ((rowsL (cauL rows cols).fst at_).snd = (0 : Int) → (rowsL (cauL rows cols).fst at_).snd = (0 : Int))
theorem k_9_v (rows : Int) (cols : Int) (at_ : (List Int)) (to : (List Int)) (hp : at_.length * 8 ≤ 140737488351232) : True ∧ True ∧ (true = !true → false = true) ∧ (true = !false → (¬(cauL rows cols).snd = (0 : Int) → ((↑(cauL rows cols).fst.length : Int) == (0 : Int)) = true) ∧ ((cauL rows cols).snd = (0 : Int) → i_9_0 at_ to (0 : Int) ∧ ∀ (x : Int), i_9_0 at_ to x → (x < (↑at_.length : Int) → i_9_1 at_ to (0 : Int) x (0 : Int) x ∧ ∀ (x_1 x_2 : Int), i_9_1 at_ to (0 : Int) x x_1 x_2 → (x_1 < x_2 → ((0 : Int) ≤ x_2 ∧ x_2 < (↑at_.length : Int)) ∧ ((0 : Int) ≤ x_1 ∧ x_1 < (↑at_.length : Int)) ∧ (¬gd (0 : Int) at_ x_2.toNat = gd (0 : Int) at_ x_1.toNat → ¬gd (0 : Int) at_ x_2.toNat = gd (0 : Int) at_ x_1.toNat) ∧ (¬gd (0 : Int) at_ x_2.toNat = gd (0 : Int) at_ x_1.toNat → ¬gd (0 : Int) at_ x_2.toNat = gd (0 : Int) at_ x_1.toNat) ∧ (¬gd (0 : Int) at_ x_2.toNat = gd (0 : Int) at_ x_1.toNat → ¬gd (0 : Int) at_ x_2.toNat = gd (0 : Int) at_ x_1.toNat) ∧ (¬gd (0 : Int) at_ x_2.toNat = gd (0 : Int) at_ x_1.toNat → ¬gd (0 : Int) at_ x_2.toNat = gd (0 : Int) at_ x_1.toNat) ∧ (¬gd (0 : Int) at_ x_2.toNat = gd (0 : Int) at_ x_1.toNat ∧ x_2 < (↑to.length : Int) → ¬gd (0 : Int) at_ x_2.toNat = gd (0 : Int) at_ x_1.toNat ∧ x_2 < (↑to.length : Int)) ∧ (¬gd (0 : Int) at_ x_2.toNat = gd (0 : Int) at_ x_1.toNat ∧ x_2 < (↑to.length : Int) → ¬gd (0 : Int) at_ x_2.toNat = gd (0 : Int) at_ x_1.toNat ∧ x_2 < (↑to.length : Int)) ∧ (¬gd (0 : Int) at_ x_2.toNat = gd (0 : Int) at_ x_1.toNat ∧ x_2 < (↑to.length : Int) → (0 : Int) ≤ x_2 ∧ x_2 < (↑to.length : Int)) ∧ (¬gd (0 : Int) at_ x_2.toNat = gd (0 : Int) at_ x_1.toNat ∧ x_2 < (↑to.length : Int) → ¬gd (0 : Int) at_ x_2.toNat = gd (0 : Int) at_ x_1.toNat ∧ x_2 < (↑to.length : Int)) ∧ (¬gd (0 : Int) at_ x_2.toNat = gd (0 : Int) at_ x_1.toNat ∧ x_2 < (↑to.length : Int) → ¬gd (0 : Int) at_ x_2.toNat = gd (0 : Int) at_ x_1.toNat ∧ x_2 < (↑to.length : Int)) ∧ (¬gd (0 : Int) at_ x_2.toNat = gd (0 : Int) at_ x_1.toNat ∧ x_2 < (↑to.length : Int) → ¬gd (0 : Int) at_ x_2.toNat = gd (0 : Int) at_ x_1.toNat ∧ x_2 < (↑to.length : Int)) ∧ (¬gd (0 : Int) at_ x_2.toNat = gd (0 : Int) at_ x_1.toNat ∧ x_2 < (↑to.length : Int) → (0 : Int) ≤ x_1 ∧ x_1 < (↑to.length : Int)) ∧ (¬gd (0 : Int) at_ x_2.toNat = gd (0 : Int) at_ x_1.toNat ∧ x_2 < (↑to.length : Int) → ¬gd (0 : Int) at_ x_2.toNat = gd (0 : Int) at_ x_1.toNat ∧ x_2 < (↑to.length : Int)) ∧ (¬gd (0 : Int) at_ x_2.toNat = gd (0 : Int) at_ x_1.toNat ∧ x_2 < (↑to.length : Int) → ¬gd (0 : Int) at_ x_2.toNat = gd (0 : Int) at_ x_1.toNat ∧ x_2 < (↑to.length : Int)) ∧ (¬gd (0 : Int) at_ x_2.toNat = gd (0 : Int) at_ x_1.toNat ∧ x_2 < (↑to.length : Int) → ¬gd (0 : Int) at_ x_2.toNat = gd (0 : Int) at_ x_1.toNat ∧ x_2 < (↑to.length : Int)) ∧ (¬gd (0 : Int) at_ x_2.toNat = gd (0 : Int) at_ x_1.toNat → ¬gd (0 : Int) at_ x_2.toNat = gd (0 : Int) at_ x_1.toNat) ∧ (¬gd (0 : Int) at_ x_2.toNat = gd (0 : Int) at_ x_1.toNat → x_2 < (↑to.length : Int) → ¬gd (0 : Int) at_ x_2.toNat = gd (0 : Int) at_ x_1.toNat ∧ x_2 < (↑to.length : Int)) ∧ (¬gd (0 : Int) at_ x_2.toNat = gd (0 : Int) at_ x_1.toNat → ¬gd (0 : Int) at_ x_2.toNat = gd (0 : Int) at_ x_1.toNat) ∧ (gd (0 : Int) at_ x_2.toNat = gd (0 : Int) at_ x_1.toNat ∨ x_2 < (↑to.length : Int) ∧ gd (0 : Int) to x_2.toNat = gd (0 : Int) to x_1.toNat → true = true) ∧ (¬gd (0 : Int) at_ x_2.toNat = gd (0 : Int) at_ x_1.toNat ∧ ((↑to.length : Int) ≤ x_2 ∨ ¬gd (0 : Int) to x_2.toNat = gd (0 : Int) to x_1.toNat) → I64 (x_1 + (1 : Int)) ∧ i_9_1 at_ to (0 : Int) x (x_1 + (1 : Int)) x_2 ∧ (x_2 - (x_1 + (1 : Int))).toNat < (x_2 - x_1).toNat)) ∧ (x_2 ≤ x_1 → I64 (x_2 + (1 : Int)) ∧ i_9_0 at_ to (x_2 + (1 : Int)) ∧ ((↑at_.length : Int) - (x_2 + (1 : Int))).toNat < ((↑at_.length : Int) - x).toNat)) ∧ ((↑at_.length : Int) ≤ x → True ∧ (z9_0 rows cols at_) ∧ (z9_0 rows cols at_) ∧ (z9_0 rows cols at_) ∧ (z9_0 rows cols at_) ∧ (z9_0 rows cols at_) ∧ (¬(rowsL (cauL rows cols).fst at_).snd = (0 : Int) ∨ ¬(↑at_.length : Int) = (↑to.length : Int) → true = true) ∧ ((rowsL (cauL rows cols).fst at_).snd = (0 : Int) ∧ (↑at_.length : Int) = (↑to.length : Int) → ((0 : Nat) < (rowsL (cauL rows cols).fst at_).fst.length ∧ (rowsL (cauL rows cols).fst at_).fst.length ≤ (16 : Nat) ∧ (gd [] (rowsL (cauL rows cols).fst at_).fst (0 : Nat)).length ≤ (16 : Nat) ∧ mrect (rowsL (cauL rows cols).fst at_).fst.length (gd [] (rowsL (cauL rows cols).fst at_).fst (0 : Nat)).length (rowsL (cauL rows cols).fst at_).fst) ∧ True ∧ (¬(rowsL (turnL (rowsL (cauL rows cols).fst at_).fst) to).snd = (0 : Int) → true = true) ∧ ((rowsL (turnL (rowsL (cauL rows cols).fst at_).fst) to).snd = (0 : Int) → True ∧ ((invL (rowsL (turnL (rowsL (cauL rows cols).fst at_).fst) to).fst).snd == (0 : Int)) = true))))) := by
  delta z9_0
  have h0 : (cauL rows cols).2 ≠ 0 → (cauL rows cols).1.length = 0 := fun h => by unfold cauL at h ⊢; split; (rename_i h2; rw [if_pos h2] at h; exact absurd rfl h); rfl
  have h1 := @cau_pre rows cols at_
  have h2 := @cau_inv rows cols at_ to
  have h3 := @DiI.start at_ to
  have h4 := @DjI.start at_ to
  have h5 := @DjI.step at_ to
  have h6 := @DiI.step at_ to
  have h7 := @DiI.lo at_ to
  have h8 := @DjI.lo at_ to
  have h9 := @DjI.hi at_ to
  (repeat' (first | apply And.intro | intro _)) <;> first | assumption | trivial | omega | (grind [i_9_1, i_9_0, I64, mrect]) | trace_state
theorem k_9_ok : k_9.Ok Try.prog tD := con_ok tD_ok (Δ := [k_20, k_23, k_24, k_27, k_13]) ⟨k_20_ok, k_23_ok, k_24_ok, k_27_ok, k_13_ok, trivial⟩ (Ω := []) trivial k_9 F9_ok F9_call (fun _ => []) (fun _ => trivial) 0 (fun x => (fun (rows : Int) (cols : Int) (at_ : (List Int)) (to : (List Int)) => (fun k => bif Nat.beq k 0 then some (.inv [.sl 11 .cInt] (fun zo zv => (fun (i : Int) => i_9_0 at_ to i) zv.1) (fun zo zv => (fun (i : Int) => ((at_.length : Int) - i).toNat) zv.1)) else bif Nat.beq k 1 then some (.inv [.sl 12 .cInt, .sl 11 .cInt] (fun zo zv => (fun (k0 : Int) (i0 : Int) (k : Int) (i : Int) => i_9_1 at_ to k0 i0 k i) zo.1 zo.2.1 zv.1 zv.2.1) (fun zo zv => (fun (k0 : Int) (i0 : Int) (k : Int) (i : Int) => (i - k).toNat) zo.1 zo.2.1 zv.1 zv.2.1)) else none)) x.1 x.2.1 x.2.2.1 x.2.2.2.1) fun x hp => Eq.mp (by kernel_rfl) (k_9_v x.1 x.2.1 x.2.2.1 x.2.2.2.1 hp)
theorem CauchyWhole_walk {w : World} (rows : Int) (wrows : (Lit.int .i64 rows).wf = true) (cols : Int) (wcols : (Lit.int .i64 cols).wf = true) (at_ : (List Int)) (Aat_ : Option Addr) (nat_ cat_ : Nat) (rat_ : GoT.rep w w.heap.size [.slice Aat_ nat_ cat_] at_) (zat_ : nat_ * 8 ≤ 140737488351232) (to : (List Int)) (Ato : Option Addr) (nto cto : Nat) (rto : GoT.rep w w.heap.size [.slice Ato nto cto] to) (zto : nto * 8 ≤ 140737488351232) : Calls Try.prog 9 #[I rows, I cols, .slice Aat_ nat_ cat_, .slice Ato nto cto] w fun e w' => e = .returned (.bool true) ∧ Below w.heap.size w w' := by
  have rrows : GoT.rep w w.heap.size [I rows] rows := ⟨rfl, i64_bd wrows⟩
  have rcols : GoT.rep w w.heap.size [I cols] cols := ⟨rfl, i64_bd wcols⟩
  have lat_ := rep_len rat_
  have lto := rep_len rto
  have hf : Fn Try.prog 9 [(tD.en .cInt rows).av tD.toTE N0, (tD.en .cInt cols).av tD.toTE N0, (tD.en .lInt at_).av tD.toTE N0, (tD.en .lInt to).av tD.toTE N0] (.v (.bool true)) := k_9_ok.2 (rows, cols, at_, to, ()) N0 (by show at_.length * 8 ≤ 140737488351232; omega)
  exact fn_law (vs := [I rows, I cols, .slice Aat_ nat_ cat_, .slice Ato nto cto]) hf trivial (.cons (arg_one tD_ok (t := .cInt) rfl (LG.i64.av rrows)) (.cons (arg_one tD_ok (t := .cInt) rfl (LG.i64.av rcols)) (.cons (arg_one tD_ok (t := .lInt) rfl ((LG.list LG.i64).av rat_)) (.cons (arg_one tD_ok (t := .lInt) rfl ((LG.list LG.i64).av rto)) .nil))))
end Go.Proofs.Ytjfakndleagacaa
