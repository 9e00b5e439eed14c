/- What functions answer (contracts). No condition. -/
import Derived.Test.YtjfakndleagacaaPMI
set_option linter.unusedSimpArgs false
set_option linter.unusedVariables false
set_option maxHeartbeats 4000000
set_option maxRecDepth 100000
namespace Go.Proofs.Ytjfakndleagacaa
open Go.RowKit
def k_20 : Con Tc Tc.dn := ⟨20, [], fun _ => True, [.cBool], fun _ => true⟩
abbrev z20_2 := (rankL [[UInt8.ofNat (Int.toNat (1 : Int)), UInt8.ofNat (Int.toNat (2 : Int)), UInt8.ofNat (Int.toNat (3 : Int))], [UInt8.ofNat (Int.toNat (2 : Int)), UInt8.ofNat (Int.toNat (4 : Int)), UInt8.ofNat (Int.toNat (6 : Int))]])
abbrev z20_3 := ((unitL (2 : Int)).fst = [[UInt8.ofNat (Int.toNat (1 : Int)), UInt8.ofNat (Int.toNat (0 : Int))], [UInt8.ofNat (Int.toNat (0 : Int)), UInt8.ofNat (Int.toNat (1 : Int))]])
abbrev z20_4 := (invL [[UInt8.ofNat (Int.toNat (1 : Int)), UInt8.ofNat (Int.toNat (2 : Int))], [UInt8.ofNat (Int.toNat (3 : Int)), UInt8.ofNat (Int.toNat (4 : Int))]])
abbrev z20_1 := (mulL z20_4.fst [[UInt8.ofNat (Int.toNat (1 : Int)), UInt8.ofNat (Int.toNat (2 : Int))], [UInt8.ofNat (Int.toNat (3 : Int)), UInt8.ofNat (Int.toNat (4 : Int))]])
abbrev z20_9 := (invL [[UInt8.ofNat (Int.toNat (1 : Int)), UInt8.ofNat (Int.toNat (2 : Int))], [UInt8.ofNat (Int.toNat (2 : Int)), UInt8.ofNat (Int.toNat (4 : Int))]])
abbrev z20_10 := (rowsL [[UInt8.ofNat (Int.toNat (1 : Int)), UInt8.ofNat (Int.toNat (2 : Int))], [UInt8.ofNat (Int.toNat (3 : Int)), UInt8.ofNat (Int.toNat (4 : Int))]] [(1 : Int), (0 : Int)])
abbrev z20_6 := (z20_10.fst = [[UInt8.ofNat (Int.toNat (3 : Int)), UInt8.ofNat (Int.toNat (4 : Int))], [UInt8.ofNat (Int.toNat (1 : Int)), UInt8.ofNat (Int.toNat (2 : Int))]])
abbrev z20_11 := (gd [] (cauL (2 : Int) (3 : Int)).fst (Int.toNat (0 : Int)))
abbrev z20_12 := ((z20_4.snd = (0 : Int) ∧ z20_1.snd = (0 : Int)) ∧ (unitL (2 : Int)).snd = (0 : Int) → (z20_4.snd = (0 : Int) ∧ z20_1.snd = (0 : Int)) ∧ (unitL (2 : Int)).snd = (0 : Int))
abbrev z20_13 := (decide z20_3 = true ∧ z20_2.fst = (1 : Int))
abbrev z20_0 := ((z20_13 ∧ z20_2.snd = (0 : Int)) ∧ z20_9.snd = (5 : Int))
abbrev z20_5 := (((z20_0 ∧ (cauL (2 : Int) (3 : Int)).snd = (0 : Int)) ∧ (↑(cauL (2 : Int) (3 : Int)).fst.length : Int) = (2 : Int)) ∧ (↑z20_11.length : Int) = (3 : Int) → ((z20_0 ∧ (cauL (2 : Int) (3 : Int)).snd = (0 : Int)) ∧ (↑(cauL (2 : Int) (3 : Int)).fst.length : Int) = (2 : Int)) ∧ (↑z20_11.length : Int) = (3 : Int))
abbrev z20_7 := ((z20_0 ∧ (cauL (2 : Int) (3 : Int)).snd = (0 : Int)) ∧ (↑(cauL (2 : Int) (3 : Int)).fst.length : Int) = (2 : Int) → (z20_0 ∧ (cauL (2 : Int) (3 : Int)).snd = (0 : Int)) ∧ (↑(cauL (2 : Int) (3 : Int)).fst.length : Int) = (2 : Int))
abbrev z20_8 := (((z20_0 ∧ (cauL (2 : Int) (3 : Int)).snd = (0 : Int)) ∧ (↑(cauL (2 : Int) (3 : Int)).fst.length : Int) = (2 : Int)) ∧ (↑z20_11.length : Int) = (3 : Int))
theorem k_20_v  : True ∧ True ∧ True ∧ True ∧ True ∧ True ∧ True ∧ (z20_4.snd = (0 : Int) → z20_4.snd = (0 : Int)) ∧ (z20_4.snd = (0 : Int) → z20_4.snd = (0 : Int)) ∧ (z20_4.snd = (0 : Int) ∧ z20_1.snd = (0 : Int) → z20_4.snd = (0 : Int) ∧ z20_1.snd = (0 : Int)) ∧ (z20_4.snd = (0 : Int) ∧ z20_1.snd = (0 : Int) → z20_4.snd = (0 : Int) ∧ z20_1.snd = (0 : Int)) ∧ z20_12 ∧ z20_12 ∧ ((z20_4.snd = (0 : Int) ∧ z20_1.snd = (0 : Int)) ∧ (unitL (2 : Int)).snd = (0 : Int) → z20_1.fst.length ≤ (1000000 : Nat) ∧ ∀ (r : List UInt8), r ∈ z20_1.fst → r.length ≤ (1000000 : Nat)) ∧ z20_12 ∧ (((z20_4.snd = (0 : Int) ∧ z20_1.snd = (0 : Int)) ∧ (unitL (2 : Int)).snd = (0 : Int)) ∧ decide (z20_1.fst = (unitL (2 : Int)).fst) = true → ((unitL (2 : Int)).fst.length ≤ (1000000 : Nat) ∧ ∀ (r : List UInt8), r ∈ (unitL (2 : Int)).fst → r.length ≤ (1000000 : Nat)) ∧ (decide z20_3 = true → decide z20_3 = true) ∧ (decide z20_3 = true → decide z20_3 = true) ∧ (decide z20_3 = true ∧ z20_2.fst = (1 : Int) → decide z20_3 = true ∧ z20_2.fst = (1 : Int)) ∧ (decide z20_3 = true ∧ z20_2.fst = (1 : Int) → decide z20_3 = true ∧ z20_2.fst = (1 : Int)) ∧ (z20_13 ∧ z20_2.snd = (0 : Int) → z20_13 ∧ z20_2.snd = (0 : Int)) ∧ (z20_13 ∧ z20_2.snd = (0 : Int) → z20_13 ∧ z20_2.snd = (0 : Int)) ∧ ((z20_13 ∧ z20_2.snd = (0 : Int)) ∧ z20_9.snd = (5 : Int) → (z20_13 ∧ z20_2.snd = (0 : Int)) ∧ z20_9.snd = (5 : Int)) ∧ ((z20_13 ∧ z20_2.snd = (0 : Int)) ∧ z20_9.snd = (5 : Int) → (z20_13 ∧ z20_2.snd = (0 : Int)) ∧ z20_9.snd = (5 : Int)) ∧ (z20_0 ∧ (cauL (2 : Int) (3 : Int)).snd = (0 : Int) → z20_0 ∧ (cauL (2 : Int) (3 : Int)).snd = (0 : Int)) ∧ (z20_0 ∧ (cauL (2 : Int) (3 : Int)).snd = (0 : Int) → z20_0 ∧ (cauL (2 : Int) (3 : Int)).snd = (0 : Int)) ∧ (z20_0 ∧ (cauL (2 : Int) (3 : Int)).snd = (0 : Int) → z20_0 ∧ (cauL (2 : Int) (3 : Int)).snd = (0 : Int)) ∧ z20_7 ∧ ((z20_0 ∧ (cauL (2 : Int) (3 : Int)).snd = (0 : Int)) ∧ (↑(cauL (2 : Int) (3 : Int)).fst.length : Int) = (2 : Int) → (0 : Int) ≤ (0 : Int) ∧ (0 : Int) < (↑(cauL (2 : Int) (3 : Int)).fst.length : Int)) ∧ z20_7 ∧ z20_7 ∧ z20_7 ∧ z20_7 ∧ z20_5 ∧ (((z20_0 ∧ (cauL (2 : Int) (3 : Int)).snd = (0 : Int)) ∧ (↑(cauL (2 : Int) (3 : Int)).fst.length : Int) = (2 : Int)) ∧ (↑z20_11.length : Int) = (3 : Int) → (0 : Int) ≤ (0 : Int) ∧ (0 : Int) < (↑(cauL (2 : Int) (3 : Int)).fst.length : Int)) ∧ z20_5 ∧ z20_5 ∧ (((z20_0 ∧ (cauL (2 : Int) (3 : Int)).snd = (0 : Int)) ∧ (↑(cauL (2 : Int) (3 : Int)).fst.length : Int) = (2 : Int)) ∧ (↑z20_11.length : Int) = (3 : Int) → (0 : Int) ≤ (0 : Int) ∧ (0 : Int) < (↑z20_11.length : Int)) ∧ z20_5 ∧ z20_5 ∧ z20_5 ∧ (z20_8 ∧ gd (0 : UInt8) z20_11 (Int.toNat (0 : Int)) = UInt8.ofNat (Int.toNat (142 : Int)) → z20_8 ∧ gd (0 : UInt8) z20_11 (Int.toNat (0 : Int)) = UInt8.ofNat (Int.toNat (142 : Int))) ∧ (z20_8 ∧ gd (0 : UInt8) z20_11 (Int.toNat (0 : Int)) = UInt8.ofNat (Int.toNat (142 : Int)) → z20_8 ∧ gd (0 : UInt8) z20_11 (Int.toNat (0 : Int)) = UInt8.ofNat (Int.toNat (142 : Int))) ∧ ((z20_8 ∧ gd (0 : UInt8) z20_11 (Int.toNat (0 : Int)) = UInt8.ofNat (Int.toNat (142 : Int))) ∧ z20_10.snd = (0 : Int) → (z20_10.fst.length ≤ (1000000 : Nat) ∧ ∀ (r : List UInt8), r ∈ z20_10.fst → r.length ≤ (1000000 : Nat)) ∧ (decide z20_6 = true → True) ∧ (decide z20_6 = true → decide z20_6 = true) ∧ (decide z20_6 = true → decide z20_6 = true) ∧ (decide z20_6 && mchk [] == (1 : Int)) = true) ∧ ((((((((decide z20_3 = false ∨ ¬z20_2.fst = (1 : Int)) ∨ ¬z20_2.snd = (0 : Int)) ∨ ¬z20_9.snd = (5 : Int)) ∨ ¬(cauL (2 : Int) (3 : Int)).snd = (0 : Int)) ∨ ¬(↑(cauL (2 : Int) (3 : Int)).fst.length : Int) = (2 : Int)) ∨ ¬(↑z20_11.length : Int) = (3 : Int)) ∨ ¬gd (0 : UInt8) z20_11 (Int.toNat (0 : Int)) = UInt8.ofNat (Int.toNat (142 : Int))) ∨ ¬z20_10.snd = (0 : Int) → false = true)) ∧ (((¬z20_4.snd = (0 : Int) ∨ ¬z20_1.snd = (0 : Int)) ∨ ¬(unitL (2 : Int)).snd = (0 : Int)) ∨ decide (z20_1.fst = (unitL (2 : Int)).fst) = false → false = true) := by
  delta z20_13 z20_12 z20_11 z20_10 z20_9 z20_8 z20_7 z20_6 z20_5 z20_4 z20_3 z20_2 z20_1 z20_0
  (repeat' (first | apply And.intro | (intro h; exact absurd h (by decide +kernel)) | (intro h; clear h) | decide +kernel)) <;> first | decide +kernel | trace_state
theorem k_20_ok : k_20.Ok Try.prog tD := con_ok tD_ok (Δ := [k_13, k_12, k_11, k_14, k_23, k_24, k_21, k_18]) ⟨k_13_ok, k_12_ok, k_11_ok, k_14_ok, k_23_ok, k_24_ok, k_21_ok, k_18_ok, trivial⟩ (Ω := []) trivial k_20 F20_ok F20_call (fun _ => []) (fun _ => trivial) 0 (fun _ => fun k => bif Nat.beq k 1021 then some (.frz [1]) else bif Nat.beq k 1038 then some (.frz [37]) else bif Nat.beq k 1045 then some (.frz [44]) else bif Nat.beq k 1078 then some (.frz [77]) else bif Nat.beq k 1125 then some (.frz [124]) else bif Nat.beq k 3074 then some (.spl 73) else bif Nat.beq k 3121 then some (.spl 120) else none) fun x hp => Eq.mp (by kernel_rfl) (k_20_v )
open Go.RowKit
theorem mx_fill {m n : Int} {f : Nat → Nat → UInt8} {i j : Nat} (hi : (i : Int) < m) (hj : (j : Int) < n) : mxL (fillL m n f) i j = f i j := by
  unfold mxL
  rw [fill_row hi]
  unfold gd
  rw [List.getElem?_map, List.getElem?_range (by omega)]; rfl
theorem fill_congr {m n : Int} {f g : Nat → Nat → UInt8} (h : ∀ i j : Nat, (i : Int) < m → (j : Int) < n → f i j = g i j) : fillL m n f = fillL m n g := by
  unfold fillL
  refine List.map_congr_left fun i hi => List.map_congr_left fun j hj => h i j ?_ ?_
  · have := List.mem_range.1 hi; omega
  · have := List.mem_range.1 hj; omega
theorem fill_self {n m : Nat} {a : List (List UInt8)} (h : mrect n m a) : fillL n m (mxL a) = a := by
  refine gd_iff (d := []) (by rw [fill_len, h.1]; simp) fun i hi => ?_
  rw [fill_len] at hi
  have hin : i < n := by omega
  rw [fill_row (by omega)]
  refine gd_iff (d := 0) (by rw [List.length_map, List.length_range, h.row hin]; simp) fun j hj => ?_
  rw [List.length_map, List.length_range] at hj
  unfold gd
  rw [List.getElem?_map, List.getElem?_range hj]; rfl
theorem rect_eq {n m : Nat} {a b : List (List UInt8)} (ha : mrect n m a) (hb : mrect n m b) (h : ∀ i j, i < n → j < m → mxL a i j = mxL b i j) : a = b := by
  rw [← fill_self ha, ← fill_self hb]
  exact fill_congr fun i j hi hj => h i j (by omega) (by omega)
theorem mchkGo_of {n : Int} : ∀ {a : List (List UInt8)}, (∀ r, r ∈ a → (r.length : Int) = n ∧ r.length ≤ 16 ∧ 0 < r.length) → mchkGo n a = 0
  | [], _ => rfl
  | r :: l, h => by
    have h1 := h r (List.mem_cons_self ..)
    unfold mchkGo
    rw [if_neg (by omega), if_neg (by omega)]
    exact mchkGo_of fun q hq => h q (List.mem_cons_of_mem _ hq)
theorem rect_zero {n m : Nat} {a : List (List UInt8)} (h : mrect n m a) (hn : 0 < n) : (gd [] a 0).length = m := h.row hn
theorem mchk_of {n m : Nat} {a : List (List UInt8)} (h : mrect n m a) (h1 : 0 < n) (h2 : n ≤ 16) (h3 : 0 < m) (h4 : m ≤ 16) : mchk a = 0 := by
  have hl := h.1
  unfold mchk
  rw [if_neg (by omega), if_neg (by omega), rect_zero h h1]
  exact mchkGo_of fun r hr => by have := h.2 r hr; omega
theorem fill_rectN {m n : Nat} {f : Nat → Nat → UInt8} : mrect m n (fillL m n f) := by
  have := fill_rect (m := (m : Int)) (n := (n : Int)) (f := f)
  simpa using this
theorem sg_front (d : Nat) (f : Nat → UInt8) : sg (d + 1) f = f 0 ^^^ sg d fun j => f (j + 1) := by
  rw [sg_skip d 0 f (Nat.zero_le _)]
  rfl
theorem dot_sg : ∀ (xs ys : List UInt8) (o : UInt8), dotGo xs ys o = o ^^^ sg xs.length fun t => gmul (gd 0 xs t) (gd 0 ys t)
  | [], ys, o => by simp [dotGo, sg]
  | x :: l, ys, o => by
    unfold dotGo
    rw [dot_sg l (ys.drop 1), List.length_cons, sg_front, UInt8.xor_assoc]
    congr 2
    refine sg_congr fun i hi => ?_
    congr 1
    unfold gd
    rw [List.getElem?_drop, Nat.add_comm]
theorem turn_rect {n m : Nat} {a : List (List UInt8)} (h : mrect n m a) (hn : 0 < n) : mrect m n (turnL a) := by
  unfold turnL
  rw [rect_zero h hn, h.1]
  exact fill_rectN
theorem turn_mx {n m : Nat} {a : List (List UInt8)} (h : mrect n m a) (hn : 0 < n) {i j : Nat} (hi : i < m) (hj : j < n) : mxL (turnL a) i j = mxL a j i := by
  unfold turnL
  rw [rect_zero h hn, h.1, mx_fill (by omega) (by omega)]
  rfl
theorem raw_eq {n k m : Nat} {a b : List (List UInt8)} (ha : mrect n k a) (hb : mrect k m b) (hk : 0 < k) : rawL a b = fillL n m (mm k (mxL a) (mxL b)) := by
  have ht := turn_rect hb hk
  unfold rawL
  rw [ha.1, ht.1]
  refine fill_congr fun i j hi hj => ?_
  unfold fR
  rw [dot_sg, ha.row (by omega)]
  unfold mm
  rw [UInt8.zero_xor]
  refine sg_congr fun t htk => ?_
  congr 1
  exact turn_mx hb hk (by omega) htk
theorem raw_rect {n k m : Nat} {a b : List (List UInt8)} (ha : mrect n k a) (hb : mrect k m b) (hk : 0 < k) : mrect n m (rawL a b) := by
  rw [raw_eq ha hb hk]; exact fill_rectN
theorem raw_mx {n k m : Nat} {a b : List (List UInt8)} (ha : mrect n k a) (hb : mrect k m b) (hk : 0 < k) {i j : Nat} (hi : i < n) (hj : j < m) : mxL (rawL a b) i j = mm k (mxL a) (mxL b) i j := by
  rw [raw_eq ha hb hk, mx_fill (by omega) (by omega)]
structure Okm (a : List (List UInt8)) (n m : Nat) : Prop where
  rect : mrect n m a
  n0 : 0 < n
  n16 : n ≤ 16
  m0 : 0 < m
  m16 : m ≤ 16
theorem Okm.of {a : List (List UInt8)} (h : mchk a = 0) : Okm a a.length (gd [] a 0).length := by
  obtain ⟨h1, h2, h3, h4, h5⟩ := mchk_ok h
  exact ⟨h5, h1, h2, h3, h4⟩
theorem Okm.chk {a : List (List UInt8)} {n m : Nat} (h : Okm a n m) : mchk a = 0 := mchk_of h.rect h.n0 h.n16 h.m0 h.m16
theorem Okm.len {a : List (List UInt8)} {n m : Nat} (h : Okm a n m) : a.length = n := h.rect.1
theorem Okm.wid {a : List (List UInt8)} {n m : Nat} (h : Okm a n m) : (gd [] a 0).length = m := rect_zero h.rect h.n0
theorem Okm.raw {a b : List (List UInt8)} {n k m : Nat} (ha : Okm a n k) (hb : Okm b k m) : Okm (rawL a b) n m := ⟨raw_rect ha.rect hb.rect ha.m0, ha.n0, ha.n16, hb.m0, hb.m16⟩
theorem Okm.turn {a : List (List UInt8)} {n m : Nat} (h : Okm a n m) : Okm (turnL a) m n := ⟨turn_rect h.rect h.n0, h.m0, h.m16, h.n0, h.n16⟩
theorem Okm.fill {m n : Nat} {f : Nat → Nat → UInt8} (h1 : 0 < m) (h2 : m ≤ 16) (h3 : 0 < n) (h4 : n ≤ 16) : Okm (fillL m n f) m n := ⟨fill_rectN, h1, h2, h3, h4⟩
theorem mul_ok {a b : List (List UInt8)} {n k m : Nat} (ha : Okm a n k) (hb : Okm b k m) : mulL a b = (rawL a b, 0) := by
  unfold mulL
  rw [if_neg (by rw [ha.chk]; simp), if_neg (by rw [hb.chk]; simp), if_neg (by rw [ha.wid, hb.len]; simp)]
theorem mul_zero {a b : List (List UInt8)} (h : (mulL a b).2 = 0) : ∃ n k m, Okm a n k ∧ Okm b k m ∧ mulL a b = (rawL a b, 0) := by
  unfold mulL at h
  split at h
  · rename_i h1; exact absurd h h1
  · split at h
    · rename_i h1; exact absurd h h1
    · split at h
      · simp at h
      · rename_i h1 h2 h3
        have ha := Okm.of (Classical.not_not.1 h1)
        have hb := Okm.of (Classical.not_not.1 h2)
        rw [Classical.not_not.1 h3] at ha
        exact ⟨_, _, _, ha, hb, mul_ok ha hb⟩
theorem ok_small {a : List (List UInt8)} {n m : Nat} (h : Okm a n m) : a.length ≤ 1000000 ∧ ∀ r, r ∈ a → r.length ≤ 1000000 := by
  have h1 := h.len
  have h2 := h.n16
  have h3 := h.m16
  exact ⟨by omega, fun r hr => by have := h.rect.2 r hr; omega⟩
theorem raw_assoc {a b c : List (List UInt8)} {n k l m : Nat} (ha : Okm a n k) (hb : Okm b k l) (hc : Okm c l m) : rawL (rawL a b) c = rawL a (rawL b c) := by
  refine rect_eq ((ha.raw hb).raw hc).rect (ha.raw (hb.raw hc)).rect fun i j hi hj => ?_
  rw [raw_mx (ha.raw hb).rect hc.rect hb.m0 hi hj, raw_mx ha.rect (hb.raw hc).rect ha.m0 hi hj]
  rw [mm_congr (A' := mm k (mxL a) (mxL b)) (B' := mxL c) (fun t ht => raw_mx ha.rect hb.rect ha.m0 hi ht) (fun t _ => rfl), mm_assoc]
  exact (mm_congr (fun t _ => rfl) (fun t ht => raw_mx hb.rect hc.rect hb.m0 ht hj)).symm
theorem unit_ok {n : Nat} (h1 : 0 < n) (h2 : n ≤ 16) : unitL n = (fillL n n fU, 0) ∧ Okm (fillL n n fU) n n := by
  unfold unitL
  rw [if_pos (by omega)]
  exact ⟨rfl, Okm.fill h1 h2 h1 h2⟩
theorem unit_mx {n i j : Nat} (hi : i < n) (hj : j < n) : mxL (fillL n n fU) i j = unitM i j := mx_fill (by omega) (by omega)
theorem unit_raw {a : List (List UInt8)} {n m : Nat} (ha : Okm a n m) : rawL (fillL n n fU) a = a := by
  have hu := (unit_ok ha.n0 ha.n16).2
  refine rect_eq (hu.raw ha).rect ha.rect fun i j hi hj => ?_
  rw [raw_mx hu.rect ha.rect ha.n0 hi hj, mm_congr (A' := unitM) (B' := mxL a) (fun t ht => unit_mx hi ht) (fun t _ => rfl), unit_mm _ hi]
open Go.RowKit
open Go.RowKit
theorem mm_turn {k : Nat} (A B : Mx) (i j : Nat) : mm k (fun i j => B j i) (fun i j => A j i) i j = mm k A B j i := sg_congr fun t _ => gmul_comm _ _
theorem turn_raw {a b : List (List UInt8)} {n k m : Nat} (ha : Okm a n k) (hb : Okm b k m) : rawL (turnL b) (turnL a) = turnL (rawL a b) := by
  refine rect_eq (hb.turn.raw ha.turn).rect (ha.raw hb).turn.rect fun i j hi hj => ?_
  rw [raw_mx hb.turn.rect ha.turn.rect ha.m0 hi hj, turn_mx (ha.raw hb).rect ha.n0 hi hj, raw_mx ha.rect hb.rect ha.m0 hj hi]
  rw [mm_congr (A' := fun i j => mxL b j i) (B' := fun i j => mxL a j i) (fun t ht => turn_mx hb.rect hb.n0 hi ht) (fun t ht => turn_mx ha.rect ha.n0 ht hj)]
  exact mm_turn _ _ _ _
theorem fillB_eq {a : List (List UInt8)} {n : Nat} (h : Okm a n n) : fillL n (2 * (n : Int)) (fB a n) = bothL a n := by
  have e : (2 * (n : Int)) = ((n + n : Nat) : Int) := by omega
  rw [e]
  refine rect_eq fill_rectN (bothL_rect h.rect) fun i j hi hj => ?_
  rw [mx_fill (by omega) (by omega), bothL_mx h.rect hi]
  unfold fB bothM unitM
  by_cases hj2 : j < n
  · rw [if_pos hj2, if_pos hj2]; rfl
  · rw [if_neg hj2, if_neg hj2]
    by_cases e2 : j - n = i
    · rw [if_pos e2, if_pos e2.symm]
    · rw [if_neg e2, if_neg fun e3 => e2 e3.symm]
theorem inv_ok {a : List (List UInt8)} {n : Nat} (h : Okm a n n) : ∃ r, RankIs n n (mxL a) r ∧ ((r < n ∧ invL a = ([], 5)) ∨ (r = n ∧ ∃ x, invL a = (x, 0) ∧ Okm x n n ∧ rawL x a = fillL n n fU ∧ rawL a x = fillL n n fU)) := by
  obtain ⟨k1, k2, k3⟩ := clr_inv h.rect h.n0
  have e1 : clI a = clrL n (bothL a n) 0 0 := by unfold clI; rw [h.len, fillB_eq h]
  have hle := k2.le.1
  refine ⟨_, k2, ?_⟩
  have hinv : invL a = if (clI a).2 < a.length then ([], 5) else (fillL a.length a.length (fI (clI a).1 a.length), 0) := by
    unfold invL; rw [if_neg (by rw [h.chk]; simp), if_neg (by rw [h.len, h.wid]; simp)]
  rw [hinv, e1, h.len]
  by_cases hr : (clrL n (bothL a n) 0 0).2 < n
  · left; exact ⟨hr, by rw [if_pos hr]⟩
  · right
    have hrn : (clrL n (bothL a n) 0 0).2 = n := by omega
    obtain ⟨q1, q2⟩ := k1 hrn
    have hx : Okm (fillL n n (fI (clrL n (bothL a n) 0 0).1 n)) n n := Okm.fill h.n0 h.n16 h.n0 h.n16
    have hu := (unit_ok h.n0 h.n16).2
    have hm : ∀ i j, i < n → j < n → mxL (fillL n n (fI (clrL n (bothL a n) 0 0).1 n)) i j = mxL (clrL n (bothL a n) 0 0).1 i (n + j) := fun i j hi hj => mx_fill (by omega) (by omega)
    refine ⟨hrn, _, by rw [if_neg hr], hx, ?_, ?_⟩
    · refine rect_eq (hx.raw h).rect hu.rect fun i j hi hj => ?_
      rw [raw_mx hx.rect h.rect h.n0 hi hj, unit_mx hi hj, ← q1 i j hi hj]
      exact mm_congr (fun t ht => hm i t hi ht) fun t _ => rfl
    · refine rect_eq (h.raw hx).rect hu.rect fun i j hi hj => ?_
      rw [raw_mx h.rect hx.rect h.n0 hi hj, unit_mx hi hj, ← q2 i j hi hj]
      exact mm_congr (fun t _ => rfl) fun t ht => hm t j ht hj
theorem inv_zero {a : List (List UInt8)} (h : (invL a).2 = 0) : Okm a a.length a.length := by
  unfold invL at h
  split at h
  · rename_i h1; exact absurd h h1
  · rename_i h1
    have ho := Okm.of (Classical.not_not.1 h1)
    split at h
    · simp at h
    · rename_i h2
      rw [← Classical.not_not.1 h2] at ho; exact ho
theorem inv_err {a : List (List UInt8)} (h : ¬(invL a).2 = 0) : (invL a).1.length = 0 := by
  unfold invL at h ⊢
  split
  · rfl
  · rename_i h1
    rw [if_neg h1] at h
    split
    · rfl
    · rename_i h2
      rw [if_neg h2] at h
      split
      · rfl
      · rename_i h3
        rw [if_neg h3] at h; exact absurd rfl h
theorem inv_is {a x : List (List UInt8)} {n : Nat} (h : Okm a n n) (hx : Okm x n n) (he : rawL x a = fillL n n fU) : invL a = (x, 0) := by
  have hX : ∀ i j, i < n → j < n → mm n (mxL x) (mxL a) i j = unitM i j := fun i j hi hj => by rw [← raw_mx hx.rect h.rect h.n0 hi hj, he, unit_mx hi hj]
  obtain ⟨r, hr, ⟨h1, _⟩ | ⟨_, y, e1, hy, _, e3⟩⟩ := inv_ok h
  · exact absurd (inv_rank hX hr) (by omega)
  · rw [e1]
    have hY : ∀ i j, i < n → j < n → mm n (mxL a) (mxL y) i j = unitM i j := fun i j hi hj => by rw [← raw_mx h.rect hy.rect h.n0 hi hj, e3, unit_mx hi hj]
    rw [rect_eq hx.rect hy.rect fun i j hi hj => inv_uniq hX hY i j hi hj]
open Go.RowKit
theorem inv_laws {a : List (List UInt8)} (h : (invL a).2 = 0) : (unitL a.length).2 = 0 ∧ mulL (invL a).1 a = unitL a.length ∧ mulL a (invL a).1 = unitL a.length ∧ invL (invL a).1 = (a, 0) ∧ (unitL a.length).1.length ≤ 1000000 ∧ (∀ r, r ∈ (unitL a.length).1 → r.length ≤ 1000000) ∧ a.length ≤ 1000000 ∧ (∀ r, r ∈ a → r.length ≤ 1000000) := by
  have ha := inv_zero h
  obtain ⟨r, hr, ⟨h1, h2⟩ | ⟨_, x, e1, hx, e2, e3⟩⟩ := inv_ok ha
  · rw [h2] at h; simp at h
  · obtain ⟨u1, u2⟩ := unit_ok ha.n0 ha.n16
    rw [e1, mul_ok hx ha, mul_ok ha hx, u1, e2, e3, inv_is hx ha e3]
    exact ⟨rfl, rfl, rfl, rfl, (ok_small u2).1, (ok_small u2).2, (ok_small ha).1, (ok_small ha).2⟩
theorem inv_mul {a b : List (List UInt8)} (h : (invL a).2 = 0) (h2 : (invL b).2 = 0) (h3 : (mulL a b).2 = 0) : invL (mulL a b).1 = mulL (invL b).1 (invL a).1 ∧ (mulL (invL b).1 (invL a).1).2 = 0 ∧ (mulL (invL b).1 (invL a).1).1.length ≤ 1000000 ∧ ∀ r, r ∈ (mulL (invL b).1 (invL a).1).1 → r.length ≤ 1000000 := by
  have ha := inv_zero h
  have hb := inv_zero h2
  obtain ⟨n, k, m, ka, kb, he⟩ := mul_zero h3
  have e1 : a.length = n := ka.len
  have e2 : a.length = k := by rw [← ka.wid, ha.wid]
  have e3 : b.length = k := kb.len
  generalize hn : a.length = n' at ha e1 e2
  have hb' : Okm b n' n' := by have e4 : b.length = n' := by omega
                               rw [e4] at hb; exact hb
  obtain ⟨r, hr, ⟨q1, q2⟩ | ⟨_, x, x1, hx, x2, x3⟩⟩ := inv_ok ha
  · rw [q2] at h; simp at h
  · obtain ⟨r', hr', ⟨q1, q2⟩ | ⟨_, y, y1, hy, y2, y3⟩⟩ := inv_ok hb'
    · rw [q2] at h2; simp at h2
    · rw [x1, y1, mul_ok hy hx, mul_ok ha hb']
      have hp := ha.raw hb'
      have hq := hy.raw hx
      refine ⟨inv_is hp hq ?_, rfl, (ok_small hq).1, (ok_small hq).2⟩
      rw [raw_assoc hy hx hp, ← raw_assoc hx ha hb', x2, unit_raw hb', y2]
theorem turn_pre {a : List (List UInt8)} {n m : Nat} (h : Okm a n m) : 0 < a.length ∧ a.length ≤ 16 ∧ (gd [] a 0).length ≤ 16 ∧ mrect a.length (gd [] a 0).length a := by
  rw [h.len, h.wid]; exact ⟨h.n0, h.n16, h.m16, h.rect⟩
theorem turned_mul {a b : List (List UInt8)} (h : (mulL a b).2 = 0) : (0 < a.length ∧ a.length ≤ 16 ∧ (gd [] a 0).length ≤ 16 ∧ mrect a.length (gd [] a 0).length a) ∧ (0 < b.length ∧ b.length ≤ 16 ∧ (gd [] b 0).length ≤ 16 ∧ mrect b.length (gd [] b 0).length b) ∧ (0 < (mulL a b).1.length ∧ (mulL a b).1.length ≤ 16 ∧ (gd [] (mulL a b).1 0).length ≤ 16 ∧ mrect (mulL a b).1.length (gd [] (mulL a b).1 0).length (mulL a b).1) ∧ mulL (turnL b) (turnL a) = (turnL (mulL a b).1, 0) ∧ (turnL (mulL a b).1).length ≤ 1000000 ∧ ∀ r, r ∈ turnL (mulL a b).1 → r.length ≤ 1000000 := by
  obtain ⟨n, k, m, ha, hb, he⟩ := mul_zero h
  rw [he, mul_ok hb.turn ha.turn, turn_raw ha hb]
  exact ⟨turn_pre ha, turn_pre hb, turn_pre (ha.raw hb), rfl, (ok_small (ha.raw hb).turn).1, (ok_small (ha.raw hb).turn).2⟩
theorem unit_turn {n : Nat} (h1 : 0 < n) (h2 : n ≤ 16) : turnL (fillL n n fU) = fillL n n fU := by
  have hu := (unit_ok h1 h2).2
  refine rect_eq hu.turn.rect hu.rect fun i j hi hj => ?_
  rw [turn_mx hu.rect h1 hi hj, unit_mx hj hi, unit_mx hi hj]
  unfold unitM
  by_cases e : i = j
  · rw [if_pos e, if_pos e.symm]
  · rw [if_neg e, if_neg fun e2 => e e2.symm]
theorem turned_inv {a : List (List UInt8)} (h : (invL a).2 = 0) : (0 < a.length ∧ a.length ≤ 16 ∧ (gd [] a 0).length ≤ 16 ∧ mrect a.length (gd [] a 0).length a) ∧ (0 < (invL a).1.length ∧ (invL a).1.length ≤ 16 ∧ (gd [] (invL a).1 0).length ≤ 16 ∧ mrect (invL a).1.length (gd [] (invL a).1 0).length (invL a).1) ∧ invL (turnL a) = (turnL (invL a).1, 0) ∧ (turnL (invL a).1).length ≤ 1000000 ∧ ∀ r, r ∈ turnL (invL a).1 → r.length ≤ 1000000 := by
  have ha := inv_zero h
  obtain ⟨r, hr, ⟨h1, h2⟩ | ⟨_, x, e1, hx, e2, e3⟩⟩ := inv_ok ha
  · rw [h2] at h; simp at h
  · rw [e1]
    refine ⟨turn_pre ha, turn_pre hx, inv_is ha.turn hx.turn ?_, (ok_small hx.turn).1, (ok_small hx.turn).2⟩
    rw [turn_raw ha hx, e3, unit_turn ha.n0 ha.n16]
abbrev z6_0 (a : (List (List UInt8))) := (((unitL (↑a.length : Int)).snd = (0 : Int) ∧ (mulL (invL a).fst a).snd = (0 : Int)) ∧ (mulL a (invL a).fst).snd = (0 : Int))
abbrev z6_1 (a : (List (List UInt8))) := ((((z6_0 a) ∧ (invL (invL a).fst).snd = (0 : Int)) ∧ decide ((mulL (invL a).fst a).fst = (unitL (↑a.length : Int)).fst) = !false) ∧ decide ((mulL a (invL a).fst).fst = (unitL (↑a.length : Int)).fst) = !false → (((z6_0 a) ∧ (invL (invL a).fst).snd = (0 : Int)) ∧ decide ((mulL (invL a).fst a).fst = (unitL (↑a.length : Int)).fst) = !false) ∧ decide ((mulL a (invL a).fst).fst = (unitL (↑a.length : Int)).fst) = !false)
abbrev z6_2 (a : (List (List UInt8))) := (((z6_0 a) ∧ (invL (invL a).fst).snd = (0 : Int)) ∧ decide ((mulL (invL a).fst a).fst = (unitL (↑a.length : Int)).fst) = !false → ((z6_0 a) ∧ (invL (invL a).fst).snd = (0 : Int)) ∧ decide ((mulL (invL a).fst a).fst = (unitL (↑a.length : Int)).fst) = !false)
abbrev z6_3 (a : (List (List UInt8))) (b : (List (List UInt8))) := ((invL (mulL a b).fst).snd = (0 : Int) ∧ (mulL (invL b).fst (invL a).fst).snd = (0 : Int) → (invL (mulL a b).fst).snd = (0 : Int) ∧ (mulL (invL b).fst (invL a).fst).snd = (0 : Int))
abbrev z6_4 (a : (List (List UInt8))) := ((z6_0 a) ∧ (invL (invL a).fst).snd = (0 : Int) → (z6_0 a) ∧ (invL (invL a).fst).snd = (0 : Int))
theorem k_6_v (a : (List (List UInt8))) (b : (List (List UInt8))) : True ∧ True ∧ (true = !true → false = true) ∧ (true = !false → (¬(invL a).snd = (0 : Int) → ((↑(invL a).fst.length : Int) == (0 : Int)) = true) ∧ ((invL a).snd = (0 : Int) → True ∧ True ∧ True ∧ True ∧ ((unitL (↑a.length : Int)).snd = (0 : Int) → (unitL (↑a.length : Int)).snd = (0 : Int)) ∧ ((unitL (↑a.length : Int)).snd = (0 : Int) → (unitL (↑a.length : Int)).snd = (0 : Int)) ∧ ((unitL (↑a.length : Int)).snd = (0 : Int) ∧ (mulL (invL a).fst a).snd = (0 : Int) → (unitL (↑a.length : Int)).snd = (0 : Int) ∧ (mulL (invL a).fst a).snd = (0 : Int)) ∧ ((unitL (↑a.length : Int)).snd = (0 : Int) ∧ (mulL (invL a).fst a).snd = (0 : Int) → (unitL (↑a.length : Int)).snd = (0 : Int) ∧ (mulL (invL a).fst a).snd = (0 : Int)) ∧ (((unitL (↑a.length : Int)).snd = (0 : Int) ∧ (mulL (invL a).fst a).snd = (0 : Int)) ∧ (mulL a (invL a).fst).snd = (0 : Int) → ((unitL (↑a.length : Int)).snd = (0 : Int) ∧ (mulL (invL a).fst a).snd = (0 : Int)) ∧ (mulL a (invL a).fst).snd = (0 : Int)) ∧ (((unitL (↑a.length : Int)).snd = (0 : Int) ∧ (mulL (invL a).fst a).snd = (0 : Int)) ∧ (mulL a (invL a).fst).snd = (0 : Int) → ((unitL (↑a.length : Int)).snd = (0 : Int) ∧ (mulL (invL a).fst a).snd = (0 : Int)) ∧ (mulL a (invL a).fst).snd = (0 : Int)) ∧ (z6_4 a) ∧ (z6_4 a) ∧ ((z6_0 a) ∧ (invL (invL a).fst).snd = (0 : Int) → (mulL (invL a).fst a).fst.length ≤ (1000000 : Nat) ∧ ∀ (r : List UInt8), r ∈ (mulL (invL a).fst a).fst → r.length ≤ (1000000 : Nat)) ∧ (z6_4 a) ∧ (z6_4 a) ∧ (z6_2 a) ∧ (z6_2 a) ∧ (((z6_0 a) ∧ (invL (invL a).fst).snd = (0 : Int)) ∧ decide ((mulL (invL a).fst a).fst = (unitL (↑a.length : Int)).fst) = !false → (mulL a (invL a).fst).fst.length ≤ (1000000 : Nat) ∧ ∀ (r : List UInt8), r ∈ (mulL a (invL a).fst).fst → r.length ≤ (1000000 : Nat)) ∧ (z6_2 a) ∧ (z6_2 a) ∧ (z6_1 a) ∧ (z6_1 a) ∧ ((((z6_0 a) ∧ (invL (invL a).fst).snd = (0 : Int)) ∧ decide ((mulL (invL a).fst a).fst = (unitL (↑a.length : Int)).fst) = !false) ∧ decide ((mulL a (invL a).fst).fst = (unitL (↑a.length : Int)).fst) = !false → (invL (invL a).fst).fst.length ≤ (1000000 : Nat) ∧ ∀ (r : List UInt8), r ∈ (invL (invL a).fst).fst → r.length ≤ (1000000 : Nat)) ∧ (z6_1 a) ∧ (z6_1 a) ∧ ((((((¬(unitL (↑a.length : Int)).snd = (0 : Int) ∨ ¬(mulL (invL a).fst a).snd = (0 : Int)) ∨ ¬(mulL a (invL a).fst).snd = (0 : Int)) ∨ ¬(invL (invL a).fst).snd = (0 : Int)) ∨ decide ((mulL (invL a).fst a).fst = (unitL (↑a.length : Int)).fst) = !true) ∨ decide ((mulL a (invL a).fst).fst = (unitL (↑a.length : Int)).fst) = !true) ∨ decide ((invL (invL a).fst).fst = a) = !true → false = true) ∧ (((((z6_0 a) ∧ (invL (invL a).fst).snd = (0 : Int)) ∧ decide ((mulL (invL a).fst a).fst = (unitL (↑a.length : Int)).fst) = !false) ∧ decide ((mulL a (invL a).fst).fst = (unitL (↑a.length : Int)).fst) = !false) ∧ decide ((invL (invL a).fst).fst = a) = !false → True ∧ True ∧ ((invL b).snd = (0 : Int) → (invL b).snd = (0 : Int)) ∧ ((invL b).snd = (0 : Int) → (invL b).snd = (0 : Int)) ∧ (¬(invL b).snd = (0 : Int) ∨ ¬(mulL a b).snd = (0 : Int) → true = true) ∧ ((invL b).snd = (0 : Int) ∧ (mulL a b).snd = (0 : Int) → True ∧ True ∧ ((invL (mulL a b).fst).snd = (0 : Int) → (invL (mulL a b).fst).snd = (0 : Int)) ∧ ((invL (mulL a b).fst).snd = (0 : Int) → (invL (mulL a b).fst).snd = (0 : Int)) ∧ (z6_3 a b) ∧ (z6_3 a b) ∧ ((invL (mulL a b).fst).snd = (0 : Int) ∧ (mulL (invL b).fst (invL a).fst).snd = (0 : Int) → (invL (mulL a b).fst).fst.length ≤ (1000000 : Nat) ∧ ∀ (r : List UInt8), r ∈ (invL (mulL a b).fst).fst → r.length ≤ (1000000 : Nat)) ∧ (z6_3 a b) ∧ ((invL (mulL a b).fst).snd == (0 : Int) && (mulL (invL b).fst (invL a).fst).snd == (0 : Int) && decide ((invL (mulL a b).fst).fst = (mulL (invL b).fst (invL a).fst).fst)) = true)))) := by
  delta z6_4 z6_3 z6_2 z6_1 z6_0
  have h1 := @inv_laws a
  have h2 := @inv_mul a b
  have h3 := @inv_err a
  (repeat' (first | apply And.intro | intro _)) <;> first | assumption | trivial | omega | (grind []) | trace_state
def k_10 : Con Tc Tc.dn := ⟨10, [.ty .llU8, .ty .llU8], fun x => (fun (a : (List (List UInt8))) (b : (List (List UInt8))) => True) x.1 x.2.1, [.cBool], fun x => (fun (a : (List (List UInt8))) (b : (List (List UInt8))) => true) x.1 x.2.1⟩
abbrev z10_0 (a : (List (List UInt8))) := ((invL (turnL a)).snd = (0 : Int) → (invL (turnL a)).snd = (0 : Int))
abbrev z10_1 (a : (List (List UInt8))) (b : (List (List UInt8))) := ((mulL (turnL b) (turnL a)).snd = (0 : Int) → (mulL (turnL b) (turnL a)).snd = (0 : Int))
theorem k_10_v (a : (List (List UInt8))) (b : (List (List UInt8))) : True ∧ (true = !true → false = true) ∧ (true = !false → True ∧ ((mulL a b).snd = (0 : Int) → ((0 : Nat) < b.length ∧ b.length ≤ (16 : Nat) ∧ (gd [] b (0 : Nat)).length ≤ (16 : Nat) ∧ mrect b.length (gd [] b (0 : Nat)).length b) ∧ ((0 : Nat) < a.length ∧ a.length ≤ (16 : Nat) ∧ (gd [] a (0 : Nat)).length ≤ (16 : Nat) ∧ mrect a.length (gd [] a (0 : Nat)).length a) ∧ True ∧ (z10_1 a b) ∧ ((mulL (turnL b) (turnL a)).snd = (0 : Int) → (0 : Nat) < (mulL a b).fst.length ∧ (mulL a b).fst.length ≤ (16 : Nat) ∧ (gd [] (mulL a b).fst (0 : Nat)).length ≤ (16 : Nat) ∧ mrect (mulL a b).fst.length (gd [] (mulL a b).fst (0 : Nat)).length (mulL a b).fst) ∧ (z10_1 a b) ∧ (z10_1 a b) ∧ ((mulL (turnL b) (turnL a)).snd = (0 : Int) → (mulL (turnL b) (turnL a)).fst.length ≤ (1000000 : Nat) ∧ ∀ (r : List UInt8), r ∈ (mulL (turnL b) (turnL a)).fst → r.length ≤ (1000000 : Nat)) ∧ (z10_1 a b) ∧ (z10_1 a b) ∧ (¬(mulL (turnL b) (turnL a)).snd = (0 : Int) ∨ decide ((mulL (turnL b) (turnL a)).fst = turnL (mulL a b).fst) = !true → false = true) ∧ ((mulL (turnL b) (turnL a)).snd = (0 : Int) ∧ decide ((mulL (turnL b) (turnL a)).fst = turnL (mulL a b).fst) = !false → True ∧ (¬(invL a).snd = (0 : Int) → ((↑(invL a).fst.length : Int) == (0 : Int)) = true) ∧ ((invL a).snd = (0 : Int) → ((0 : Nat) < a.length ∧ a.length ≤ (16 : Nat) ∧ (gd [] a (0 : Nat)).length ≤ (16 : Nat) ∧ mrect a.length (gd [] a (0 : Nat)).length a) ∧ True ∧ (z10_0 a) ∧ ((invL (turnL a)).snd = (0 : Int) → (0 : Nat) < (invL a).fst.length ∧ (invL a).fst.length ≤ (16 : Nat) ∧ (gd [] (invL a).fst (0 : Nat)).length ≤ (16 : Nat) ∧ mrect (invL a).fst.length (gd [] (invL a).fst (0 : Nat)).length (invL a).fst) ∧ (z10_0 a) ∧ (z10_0 a) ∧ ((invL (turnL a)).snd = (0 : Int) → (invL (turnL a)).fst.length ≤ (1000000 : Nat) ∧ ∀ (r : List UInt8), r ∈ (invL (turnL a)).fst → r.length ≤ (1000000 : Nat)) ∧ (z10_0 a) ∧ ((invL (turnL a)).snd == (0 : Int) && decide ((invL (turnL a)).fst = turnL (invL a).fst)) = true))) ∧ (¬(mulL a b).snd = (0 : Int) → True ∧ (¬(invL a).snd = (0 : Int) → ((↑(invL a).fst.length : Int) == (0 : Int)) = true) ∧ ((invL a).snd = (0 : Int) → ((0 : Nat) < a.length ∧ a.length ≤ (16 : Nat) ∧ (gd [] a (0 : Nat)).length ≤ (16 : Nat) ∧ mrect a.length (gd [] a (0 : Nat)).length a) ∧ True ∧ (z10_0 a) ∧ ((invL (turnL a)).snd = (0 : Int) → (0 : Nat) < (invL a).fst.length ∧ (invL a).fst.length ≤ (16 : Nat) ∧ (gd [] (invL a).fst (0 : Nat)).length ≤ (16 : Nat) ∧ mrect (invL a).fst.length (gd [] (invL a).fst (0 : Nat)).length (invL a).fst) ∧ (z10_0 a) ∧ (z10_0 a) ∧ ((invL (turnL a)).snd = (0 : Int) → (invL (turnL a)).fst.length ≤ (1000000 : Nat) ∧ ∀ (r : List UInt8), r ∈ (invL (turnL a)).fst → r.length ≤ (1000000 : Nat)) ∧ (z10_0 a) ∧ ((invL (turnL a)).snd == (0 : Int) && decide ((invL (turnL a)).fst = turnL (invL a).fst)) = true))) := by
  delta z10_1 z10_0
  have h1 := @turned_mul a b
  have h2 := @turned_inv a
  have h3 := @inv_err a
  (repeat' (first | apply And.intro | intro _)) <;> first | assumption | trivial | omega | (grind [mrect]) | trace_state
theorem k_10_ok : k_10.Ok Try.prog tD := con_ok tD_ok (Δ := [k_20, k_12, k_27, k_18, k_13]) ⟨k_20_ok, k_12_ok, k_27_ok, k_18_ok, k_13_ok, trivial⟩ (Ω := []) trivial k_10 F10_ok F10_call (fun _ => []) (fun _ => trivial) 0 (fun x => (fun (a : (List (List UInt8))) (b : (List (List UInt8))) => (fun _ => none)) x.1 x.2.1) fun x hp => Eq.mp (by kernel_rfl) (k_10_v x.1 x.2.1)
theorem MatrixTurned_walk {w : World} (a : (List (List UInt8))) (Aa : Option Addr) (na ca : Nat) (ra : GoT.rep w w.heap.size [.slice Aa na ca] a) (b : (List (List UInt8))) (Ab : Option Addr) (nb cb : Nat) (rb : GoT.rep w w.heap.size [.slice Ab nb cb] b) : Calls Try.prog 10 #[.slice Aa na ca, .slice Ab nb cb] w fun e w' => e = .returned (.bool true) ∧ Below w.heap.size w w' := by
  have hf : Fn Try.prog 10 [(tD.en .llU8 a).av tD.toTE N0, (tD.en .llU8 b).av tD.toTE N0] (.v (.bool true)) := k_10_ok.2 (a, b, ()) N0 trivial
  exact fn_law (vs := [.slice Aa na ca, .slice Ab nb cb]) hf trivial (.cons (arg_one tD_ok (t := .llU8) rfl ((LG.list (LG.list LG.u8)).av ra)) (.cons (arg_one tD_ok (t := .llU8) rfl ((LG.list (LG.list LG.u8)).av rb)) .nil))
end Go.Proofs.Ytjfakndleagacaa
