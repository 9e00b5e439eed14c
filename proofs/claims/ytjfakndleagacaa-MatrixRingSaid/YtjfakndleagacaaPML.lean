/- What functions answer (contracts). No condition. -/
import Derived.Test.YtjfakndleagacaaPMJ
set_option linter.unusedSimpArgs false
set_option linter.unusedVariables false
set_option maxHeartbeats 4000000
set_option maxRecDepth 100000
namespace Go.Proofs.Ytjfakndleagacaa
open Go.RowKit
theorem mx_fill {m n : Int} {f : Nat → Nat → UInt8} {i j : Nat} (hi : (i : Int) < m) (hj : (j : Int) < n) : mxL (fillL m n f) i j = f i j := by
  unfold mxL
  rw [fill_row hi]
  unfold gd
  rw [List.getElem?_map, List.getElem?_range (by omega)]; rfl
theorem fill_congr {m n : Int} {f g : Nat → Nat → UInt8} (h : ∀ i j : Nat, (i : Int) < m → (j : Int) < n → f i j = g i j) : fillL m n f = fillL m n g := by
  unfold fillL
  refine List.map_congr_left fun i hi => List.map_congr_left fun j hj => h i j ?_ ?_
  · have := List.mem_range.1 hi; omega
  · have := List.mem_range.1 hj; omega
theorem fill_self {n m : Nat} {a : List (List UInt8)} (h : mrect n m a) : fillL n m (mxL a) = a := by
  refine gd_iff (d := []) (by rw [fill_len, h.1]; simp) fun i hi => ?_
  rw [fill_len] at hi
  have hin : i < n := by omega
  rw [fill_row (by omega)]
  refine gd_iff (d := 0) (by rw [List.length_map, List.length_range, h.row hin]; simp) fun j hj => ?_
  rw [List.length_map, List.length_range] at hj
  unfold gd
  rw [List.getElem?_map, List.getElem?_range hj]; rfl
theorem rect_eq {n m : Nat} {a b : List (List UInt8)} (ha : mrect n m a) (hb : mrect n m b) (h : ∀ i j, i < n → j < m → mxL a i j = mxL b i j) : a = b := by
  rw [← fill_self ha, ← fill_self hb]
  exact fill_congr fun i j hi hj => h i j (by omega) (by omega)
theorem mchkGo_of {n : Int} : ∀ {a : List (List UInt8)}, (∀ r, r ∈ a → (r.length : Int) = n ∧ r.length ≤ 16 ∧ 0 < r.length) → mchkGo n a = 0
  | [], _ => rfl
  | r :: l, h => by
    have h1 := h r (List.mem_cons_self ..)
    unfold mchkGo
    rw [if_neg (by omega), if_neg (by omega)]
    exact mchkGo_of fun q hq => h q (List.mem_cons_of_mem _ hq)
theorem rect_zero {n m : Nat} {a : List (List UInt8)} (h : mrect n m a) (hn : 0 < n) : (gd [] a 0).length = m := h.row hn
theorem mchk_of {n m : Nat} {a : List (List UInt8)} (h : mrect n m a) (h1 : 0 < n) (h2 : n ≤ 16) (h3 : 0 < m) (h4 : m ≤ 16) : mchk a = 0 := by
  have hl := h.1
  unfold mchk
  rw [if_neg (by omega), if_neg (by omega), rect_zero h h1]
  exact mchkGo_of fun r hr => by have := h.2 r hr; omega
theorem fill_rectN {m n : Nat} {f : Nat → Nat → UInt8} : mrect m n (fillL m n f) := by
  have := fill_rect (m := (m : Int)) (n := (n : Int)) (f := f)
  simpa using this
theorem sg_front (d : Nat) (f : Nat → UInt8) : sg (d + 1) f = f 0 ^^^ sg d fun j => f (j + 1) := by
  rw [sg_skip d 0 f (Nat.zero_le _)]
  rfl
theorem dot_sg : ∀ (xs ys : List UInt8) (o : UInt8), dotGo xs ys o = o ^^^ sg xs.length fun t => gmul (gd 0 xs t) (gd 0 ys t)
  | [], ys, o => by simp [dotGo, sg]
  | x :: l, ys, o => by
    unfold dotGo
    rw [dot_sg l (ys.drop 1), List.length_cons, sg_front, UInt8.xor_assoc]
    congr 2
    refine sg_congr fun i hi => ?_
    congr 1
    unfold gd
    rw [List.getElem?_drop, Nat.add_comm]
theorem turn_rect {n m : Nat} {a : List (List UInt8)} (h : mrect n m a) (hn : 0 < n) : mrect m n (turnL a) := by
  unfold turnL
  rw [rect_zero h hn, h.1]
  exact fill_rectN
theorem turn_mx {n m : Nat} {a : List (List UInt8)} (h : mrect n m a) (hn : 0 < n) {i j : Nat} (hi : i < m) (hj : j < n) : mxL (turnL a) i j = mxL a j i := by
  unfold turnL
  rw [rect_zero h hn, h.1, mx_fill (by omega) (by omega)]
  rfl
theorem raw_eq {n k m : Nat} {a b : List (List UInt8)} (ha : mrect n k a) (hb : mrect k m b) (hk : 0 < k) : rawL a b = fillL n m (mm k (mxL a) (mxL b)) := by
  have ht := turn_rect hb hk
  unfold rawL
  rw [ha.1, ht.1]
  refine fill_congr fun i j hi hj => ?_
  unfold fR
  rw [dot_sg, ha.row (by omega)]
  unfold mm
  rw [UInt8.zero_xor]
  refine sg_congr fun t htk => ?_
  congr 1
  exact turn_mx hb hk (by omega) htk
theorem raw_rect {n k m : Nat} {a b : List (List UInt8)} (ha : mrect n k a) (hb : mrect k m b) (hk : 0 < k) : mrect n m (rawL a b) := by
  rw [raw_eq ha hb hk]; exact fill_rectN
theorem raw_mx {n k m : Nat} {a b : List (List UInt8)} (ha : mrect n k a) (hb : mrect k m b) (hk : 0 < k) {i j : Nat} (hi : i < n) (hj : j < m) : mxL (rawL a b) i j = mm k (mxL a) (mxL b) i j := by
  rw [raw_eq ha hb hk, mx_fill (by omega) (by omega)]
structure Okm (a : List (List UInt8)) (n m : Nat) : Prop where
  rect : mrect n m a
  n0 : 0 < n
  n16 : n ≤ 16
  m0 : 0 < m
  m16 : m ≤ 16
theorem Okm.of {a : List (List UInt8)} (h : mchk a = 0) : Okm a a.length (gd [] a 0).length := by
  obtain ⟨h1, h2, h3, h4, h5⟩ := mchk_ok h
  exact ⟨h5, h1, h2, h3, h4⟩
theorem Okm.chk {a : List (List UInt8)} {n m : Nat} (h : Okm a n m) : mchk a = 0 := mchk_of h.rect h.n0 h.n16 h.m0 h.m16
theorem Okm.len {a : List (List UInt8)} {n m : Nat} (h : Okm a n m) : a.length = n := h.rect.1
theorem Okm.wid {a : List (List UInt8)} {n m : Nat} (h : Okm a n m) : (gd [] a 0).length = m := rect_zero h.rect h.n0
theorem Okm.raw {a b : List (List UInt8)} {n k m : Nat} (ha : Okm a n k) (hb : Okm b k m) : Okm (rawL a b) n m := ⟨raw_rect ha.rect hb.rect ha.m0, ha.n0, ha.n16, hb.m0, hb.m16⟩
theorem Okm.fill {m n : Nat} {f : Nat → Nat → UInt8} (h1 : 0 < m) (h2 : m ≤ 16) (h3 : 0 < n) (h4 : n ≤ 16) : Okm (fillL m n f) m n := ⟨fill_rectN, h1, h2, h3, h4⟩
theorem mul_ok {a b : List (List UInt8)} {n k m : Nat} (ha : Okm a n k) (hb : Okm b k m) : mulL a b = (rawL a b, 0) := by
  unfold mulL
  rw [if_neg (by rw [ha.chk]; simp), if_neg (by rw [hb.chk]; simp), if_neg (by rw [ha.wid, hb.len]; simp)]
theorem mul_zero {a b : List (List UInt8)} (h : (mulL a b).2 = 0) : ∃ n k m, Okm a n k ∧ Okm b k m ∧ mulL a b = (rawL a b, 0) := by
  unfold mulL at h
  split at h
  · rename_i h1; exact absurd h h1
  · split at h
    · rename_i h1; exact absurd h h1
    · split at h
      · simp at h
      · rename_i h1 h2 h3
        have ha := Okm.of (Classical.not_not.1 h1)
        have hb := Okm.of (Classical.not_not.1 h2)
        rw [Classical.not_not.1 h3] at ha
        exact ⟨_, _, _, ha, hb, mul_ok ha hb⟩
theorem ok_small {a : List (List UInt8)} {n m : Nat} (h : Okm a n m) : a.length ≤ 1000000 ∧ ∀ r, r ∈ a → r.length ≤ 1000000 := by
  have h1 := h.len
  have h2 := h.n16
  have h3 := h.m16
  exact ⟨by omega, fun r hr => by have := h.rect.2 r hr; omega⟩
theorem raw_assoc {a b c : List (List UInt8)} {n k l m : Nat} (ha : Okm a n k) (hb : Okm b k l) (hc : Okm c l m) : rawL (rawL a b) c = rawL a (rawL b c) := by
  refine rect_eq ((ha.raw hb).raw hc).rect (ha.raw (hb.raw hc)).rect fun i j hi hj => ?_
  rw [raw_mx (ha.raw hb).rect hc.rect hb.m0 hi hj, raw_mx ha.rect (hb.raw hc).rect ha.m0 hi hj]
  rw [mm_congr (A' := mm k (mxL a) (mxL b)) (B' := mxL c) (fun t ht => raw_mx ha.rect hb.rect ha.m0 hi ht) (fun t _ => rfl), mm_assoc]
  exact (mm_congr (fun t _ => rfl) (fun t ht => raw_mx hb.rect hc.rect hb.m0 ht hj)).symm
theorem unit_ok {n : Nat} (h1 : 0 < n) (h2 : n ≤ 16) : unitL n = (fillL n n fU, 0) ∧ Okm (fillL n n fU) n n := by
  unfold unitL
  rw [if_pos (by omega)]
  exact ⟨rfl, Okm.fill h1 h2 h1 h2⟩
theorem unit_mx {n i j : Nat} (hi : i < n) (hj : j < n) : mxL (fillL n n fU) i j = unitM i j := mx_fill (by omega) (by omega)
theorem unit_raw {a : List (List UInt8)} {n m : Nat} (ha : Okm a n m) : rawL (fillL n n fU) a = a := by
  have hu := (unit_ok ha.n0 ha.n16).2
  refine rect_eq (hu.raw ha).rect ha.rect fun i j hi hj => ?_
  rw [raw_mx hu.rect ha.rect ha.n0 hi hj, mm_congr (A' := unitM) (B' := mxL a) (fun t ht => unit_mx hi ht) (fun t _ => rfl), unit_mm _ hi]
theorem raw_unit {a : List (List UInt8)} {n m : Nat} (ha : Okm a n m) : rawL a (fillL m m fU) = a := by
  have hu := (unit_ok ha.m0 ha.m16).2
  refine rect_eq (ha.raw hu).rect ha.rect fun i j hi hj => ?_
  rw [raw_mx ha.rect hu.rect ha.m0 hi hj, mm_congr (A' := mxL a) (B' := unitM) (fun t _ => rfl) (fun t ht => unit_mx ht hj), mm_unit _ hj]
open Go.RowKit
theorem mul_small {a b : List (List UInt8)} (h : (mulL a b).2 = 0) : (mulL a b).1.length ≤ 1000000 ∧ ∀ r, r ∈ (mulL a b).1 → r.length ≤ 1000000 := by
  obtain ⟨n, k, m, ha, hb, he⟩ := mul_zero h
  rw [he]; exact ok_small (ha.raw hb)
theorem mul_assoc {a b c : List (List UInt8)} (h1 : (mulL a b).2 = 0) (h2 : (mulL b c).2 = 0) : (mulL (mulL a b).1 c).2 = 0 ∧ (mulL a (mulL b c).1).2 = 0 ∧ (mulL (mulL a b).1 c).1 = (mulL a (mulL b c).1).1 := by
  obtain ⟨n, k, m, ha, hb, he⟩ := mul_zero h1
  obtain ⟨n2, k2, m2, hb2, hc, he2⟩ := mul_zero h2
  have e1 : k = n2 := by rw [← hb.len, hb2.len]
  have e2 : m = k2 := by rw [← hb.wid, hb2.wid]
  subst e1; subst e2
  rw [he, he2, mul_ok (ha.raw hb) hc, mul_ok ha (hb.raw hc)]
  exact ⟨rfl, rfl, raw_assoc ha hb hc⟩
theorem mul_units {a : List (List UInt8)} (h : mchk a = 0) : (unitL a.length).2 = 0 ∧ (unitL (gd [] a 0).length).2 = 0 ∧ (mulL (unitL a.length).1 a) = (a, 0) ∧ mulL a (unitL (gd [] a 0).length).1 = (a, 0) ∧ a.length ≤ 1000000 ∧ (∀ r, r ∈ a → r.length ≤ 1000000) ∧ 0 < a.length := by
  have ha := Okm.of h
  obtain ⟨e1, u1⟩ := unit_ok ha.n0 ha.n16
  obtain ⟨e2, u2⟩ := unit_ok ha.m0 ha.m16
  rw [e1, e2, mul_ok u1 ha, mul_ok ha u2, unit_raw ha, raw_unit ha]
  exact ⟨rfl, rfl, rfl, rfl, (ok_small ha).1, (ok_small ha).2, ha.n0⟩
def k_5 : Con Tc Tc.dn := ⟨5, [.ty .llU8, .ty .llU8, .ty .llU8], fun x => (fun (a : (List (List UInt8))) (b : (List (List UInt8))) (c : (List (List UInt8))) => True) x.1 x.2.1 x.2.2.1, [.cBool], fun x => (fun (a : (List (List UInt8))) (b : (List (List UInt8))) (c : (List (List UInt8))) => true) x.1 x.2.1 x.2.2.1⟩
abbrev z5_1 (a : (List (List UInt8))) := (unitL (↑(gd [] a (Int.toNat (0 : Int))).length : Int))
abbrev z5_0 (a : (List (List UInt8))) := (((unitL (↑a.length : Int)).snd = (0 : Int) ∧ (z5_1 a).snd = (0 : Int)) ∧ (mulL (unitL (↑a.length : Int)).fst a).snd = (0 : Int))
abbrev z5_2 (a : (List (List UInt8))) := (((z5_0 a) ∧ (mulL a (z5_1 a).fst).snd = (0 : Int)) ∧ decide ((mulL (unitL (↑a.length : Int)).fst a).fst = a) = true → ((z5_0 a) ∧ (mulL a (z5_1 a).fst).snd = (0 : Int)) ∧ decide ((mulL (unitL (↑a.length : Int)).fst a).fst = a) = true)
abbrev z5_3 (a : (List (List UInt8))) := (((unitL (↑a.length : Int)).snd = (0 : Int) ∧ (z5_1 a).snd = (0 : Int)) ∧ (mulL (unitL (↑a.length : Int)).fst a).snd = (0 : Int) → ((unitL (↑a.length : Int)).snd = (0 : Int) ∧ (z5_1 a).snd = (0 : Int)) ∧ (mulL (unitL (↑a.length : Int)).fst a).snd = (0 : Int))
abbrev z5_4 (a : (List (List UInt8))) := ((z5_0 a) ∧ (mulL a (z5_1 a).fst).snd = (0 : Int) → (z5_0 a) ∧ (mulL a (z5_1 a).fst).snd = (0 : Int))
abbrev z5_5 (a : (List (List UInt8))) (b : (List (List UInt8))) (c : (List (List UInt8))) := ((mulL (mulL a b).fst c).snd = (0 : Int) ∧ (mulL a (mulL b c).fst).snd = (0 : Int) → (mulL (mulL a b).fst c).snd = (0 : Int) ∧ (mulL a (mulL b c).fst).snd = (0 : Int))
abbrev z5_6 (a : (List (List UInt8))) := ((unitL (↑a.length : Int)).snd = (0 : Int) ∧ (z5_1 a).snd = (0 : Int) → (unitL (↑a.length : Int)).snd = (0 : Int) ∧ (z5_1 a).snd = (0 : Int))
abbrev z5_7 (a : (List (List UInt8))) := ((unitL (↑a.length : Int)).snd == (0 : Int) && (z5_1 a).snd == (0 : Int) && (mulL (unitL (↑a.length : Int)).fst a).snd == (0 : Int) && (mulL a (z5_1 a).fst).snd == (0 : Int) && decide ((mulL (unitL (↑a.length : Int)).fst a).fst = a) && decide ((mulL a (z5_1 a).fst).fst = a))
theorem k_5_v (a : (List (List UInt8))) (b : (List (List UInt8))) (c : (List (List UInt8))) : True ∧ (true = !true → false = true) ∧ (true = !false → True ∧ True ∧ ((mulL a b).snd = (0 : Int) → (mulL a b).snd = (0 : Int)) ∧ ((mulL a b).snd = (0 : Int) → (mulL a b).snd = (0 : Int)) ∧ ((mulL a b).snd = (0 : Int) ∧ (mulL b c).snd = (0 : Int) → True ∧ True ∧ ((mulL (mulL a b).fst c).snd = (0 : Int) → (mulL (mulL a b).fst c).snd = (0 : Int)) ∧ ((mulL (mulL a b).fst c).snd = (0 : Int) → (mulL (mulL a b).fst c).snd = (0 : Int)) ∧ (z5_5 a b c) ∧ (z5_5 a b c) ∧ ((mulL (mulL a b).fst c).snd = (0 : Int) ∧ (mulL a (mulL b c).fst).snd = (0 : Int) → (mulL (mulL a b).fst c).fst.length ≤ (1000000 : Nat) ∧ ∀ (r : List UInt8), r ∈ (mulL (mulL a b).fst c).fst → r.length ≤ (1000000 : Nat)) ∧ (z5_5 a b c) ∧ (z5_5 a b c) ∧ ((¬(mulL (mulL a b).fst c).snd = (0 : Int) ∨ ¬(mulL a (mulL b c).fst).snd = (0 : Int)) ∨ decide ((mulL (mulL a b).fst c).fst = (mulL a (mulL b c).fst).fst) = !true → false = true) ∧ (((mulL (mulL a b).fst c).snd = (0 : Int) ∧ (mulL a (mulL b c).fst).snd = (0 : Int)) ∧ decide ((mulL (mulL a b).fst c).fst = (mulL a (mulL b c).fst).fst) = !false → True ∧ (¬mchk a = (0 : Int) → true = true) ∧ (mchk a = (0 : Int) → True ∧ ((0 : Int) ≤ (0 : Int) ∧ (0 : Int) < (↑a.length : Int)) ∧ True ∧ True ∧ True ∧ ((unitL (↑a.length : Int)).snd = (0 : Int) → (unitL (↑a.length : Int)).snd = (0 : Int)) ∧ ((unitL (↑a.length : Int)).snd = (0 : Int) → (unitL (↑a.length : Int)).snd = (0 : Int)) ∧ (z5_6 a) ∧ (z5_6 a) ∧ (z5_3 a) ∧ (z5_3 a) ∧ (z5_4 a) ∧ (z5_4 a) ∧ ((z5_0 a) ∧ (mulL a (z5_1 a).fst).snd = (0 : Int) → (mulL (unitL (↑a.length : Int)).fst a).fst.length ≤ (1000000 : Nat) ∧ ∀ (r : List UInt8), r ∈ (mulL (unitL (↑a.length : Int)).fst a).fst → r.length ≤ (1000000 : Nat)) ∧ (z5_4 a) ∧ (z5_2 a) ∧ (z5_2 a) ∧ (((z5_0 a) ∧ (mulL a (z5_1 a).fst).snd = (0 : Int)) ∧ decide ((mulL (unitL (↑a.length : Int)).fst a).fst = a) = true → (mulL a (z5_1 a).fst).fst.length ≤ (1000000 : Nat) ∧ ∀ (r : List UInt8), r ∈ (mulL a (z5_1 a).fst).fst → r.length ≤ (1000000 : Nat)) ∧ (z5_2 a) ∧ (z5_7 a) = true))) ∧ (¬(mulL a b).snd = (0 : Int) ∨ ¬(mulL b c).snd = (0 : Int) → True ∧ (¬mchk a = (0 : Int) → true = true) ∧ (mchk a = (0 : Int) → True ∧ ((0 : Int) ≤ (0 : Int) ∧ (0 : Int) < (↑a.length : Int)) ∧ True ∧ True ∧ True ∧ ((unitL (↑a.length : Int)).snd = (0 : Int) → (unitL (↑a.length : Int)).snd = (0 : Int)) ∧ ((unitL (↑a.length : Int)).snd = (0 : Int) → (unitL (↑a.length : Int)).snd = (0 : Int)) ∧ (z5_6 a) ∧ (z5_6 a) ∧ (z5_3 a) ∧ (z5_3 a) ∧ (z5_4 a) ∧ (z5_4 a) ∧ ((z5_0 a) ∧ (mulL a (z5_1 a).fst).snd = (0 : Int) → (mulL (unitL (↑a.length : Int)).fst a).fst.length ≤ (1000000 : Nat) ∧ ∀ (r : List UInt8), r ∈ (mulL (unitL (↑a.length : Int)).fst a).fst → r.length ≤ (1000000 : Nat)) ∧ (z5_4 a) ∧ (z5_2 a) ∧ (z5_2 a) ∧ (((z5_0 a) ∧ (mulL a (z5_1 a).fst).snd = (0 : Int)) ∧ decide ((mulL (unitL (↑a.length : Int)).fst a).fst = a) = true → (mulL a (z5_1 a).fst).fst.length ≤ (1000000 : Nat) ∧ ∀ (r : List UInt8), r ∈ (mulL a (z5_1 a).fst).fst → r.length ≤ (1000000 : Nat)) ∧ (z5_2 a) ∧ (z5_7 a) = true))) := by
  delta z5_7 z5_6 z5_5 z5_4 z5_3 z5_2 z5_1 z5_0
  have h1 := @mul_small (mulL a b).1 c
  have h2 := @mul_assoc a b c
  have h3 := @mul_units a
  show _
  simp only [show Int.toNat 0 = 0 from rfl]
  (repeat' (first | apply And.intro | intro _)) <;> first | assumption | trivial | omega | (grind []) | trace_state
theorem k_5_ok : k_5.Ok Try.prog tD := con_ok tD_ok (Δ := [k_20, k_12, k_21, k_11, k_18]) ⟨k_20_ok, k_12_ok, k_21_ok, k_11_ok, k_18_ok, trivial⟩ (Ω := []) trivial k_5 F5_ok F5_call (fun _ => []) (fun _ => trivial) 0 (fun x => (fun (a : (List (List UInt8))) (b : (List (List UInt8))) (c : (List (List UInt8))) => (fun _ => none)) x.1 x.2.1 x.2.2.1) fun x hp => Eq.mp (by kernel_rfl) (k_5_v x.1 x.2.1 x.2.2.1)
theorem MatrixRing_walk {w : World} (a : (List (List UInt8))) (Aa : Option Addr) (na ca : Nat) (ra : GoT.rep w w.heap.size [.slice Aa na ca] a) (b : (List (List UInt8))) (Ab : Option Addr) (nb cb : Nat) (rb : GoT.rep w w.heap.size [.slice Ab nb cb] b) (c : (List (List UInt8))) (Ac : Option Addr) (nc cc : Nat) (rc : GoT.rep w w.heap.size [.slice Ac nc cc] c) : Calls Try.prog 5 #[.slice Aa na ca, .slice Ab nb cb, .slice Ac nc cc] w fun e w' => e = .returned (.bool true) ∧ Below w.heap.size w w' := by
  have hf : Fn Try.prog 5 [(tD.en .llU8 a).av tD.toTE N0, (tD.en .llU8 b).av tD.toTE N0, (tD.en .llU8 c).av tD.toTE N0] (.v (.bool true)) := k_5_ok.2 (a, b, c, ()) N0 trivial
  exact fn_law (vs := [.slice Aa na ca, .slice Ab nb cb, .slice Ac nc cc]) hf trivial (.cons (arg_one tD_ok (t := .llU8) rfl ((LG.list (LG.list LG.u8)).av ra)) (.cons (arg_one tD_ok (t := .llU8) rfl ((LG.list (LG.list LG.u8)).av rb)) (.cons (arg_one tD_ok (t := .llU8) rfl ((LG.list (LG.list LG.u8)).av rc)) .nil)))
end Go.Proofs.Ytjfakndleagacaa
