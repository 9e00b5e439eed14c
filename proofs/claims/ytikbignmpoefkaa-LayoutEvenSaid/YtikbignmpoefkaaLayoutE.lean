/- The load of nodes is balanced: plain Lean over the counts of pieces. No condition. -/
import Derived.Test.YtikbignmpoefkaaLayoutM
namespace Go.Proofs.Ytikbignmpoefkaa
namespace Layout
def gcnt (N P c : Nat) : Nat → Nat
  | 0 => 0
  | s+1 => gcnt N P c s + if (c + N * 64 - s) % N < P then 1 else 0
/-- The count of s stripes lies between the pieces of full turns and one stripe's pieces more. -/
def fine (N P s a : Nat) : Bool := decide (s / N * P ≤ a) && decide (a ≤ s / N * P + P) && (decide (s % N ≠ 0) || decide (a = s / N * P))
def scan (N P c : Nat) : Nat → Nat → Nat → Bool
  | 0, s, a => fine N P s a
  | k+1, s, a => fine N P s a && scan N P c k (s + 1) (a + if (c + N * 64 - s) % N < P then 1 else 0)
theorem scan_fine (N P c : Nat) : ∀ k s, scan N P c k s (gcnt N P c s) = true → ∀ S, s ≤ S → S ≤ s + k → fine N P S (gcnt N P c S) = true := by
  intro k
  induction k with
  | zero =>
    intro s h S h1 h2
    obtain rfl : S = s := by omega
    exact h
  | succ k ih =>
    intro s h S h1 h2
    rw [scan, Bool.and_eq_true] at h
    by_cases hs : S = s
    · subst hs; exact h.1
    · exact ih (s + 1) h.2 S (by omega) (by omega)
theorem scan_all : (List.range 13).all (fun N => (List.range (N + 1)).all fun P => (List.range N).all fun c => scan N P c 64 0 0) = true := by decide +kernel
theorem gcnt_fine (N P c S : Nat) (hN : N < 13) (hP : P ≤ N) (hc : c < N) (hS : S ≤ 64) : fine N P S (gcnt N P c S) = true := by
  have h := scan_all
  rw [List.all_eq_true] at h
  have h1 := h N (List.mem_range.2 hN)
  rw [List.all_eq_true] at h1
  have h2 := h1 P (List.mem_range.2 (by omega))
  rw [List.all_eq_true] at h2
  exact scan_fine N P c 64 0 (h2 c (List.mem_range.2 hc)) S (by omega) (by omega)
theorem row_all : (List.range 13).all (fun N => (List.range (N + 1)).all fun P => (List.range N).all fun x => ((List.range N).map fun n => if (n + N - x) % N < P then 1 else 0).sum == P) = true := by decide +kernel
theorem row_sum (N P x : Nat) (hN : N < 13) (hP : P ≤ N) (hx : x < N) : ((List.range N).map fun n => if (n + N - x) % N < P then 1 else 0).sum = P := by
  have h := row_all
  rw [List.all_eq_true] at h
  have h1 := h N (List.mem_range.2 hN)
  rw [List.all_eq_true] at h1
  have h2 := h1 P (List.mem_range.2 (by omega))
  rw [List.all_eq_true] at h2
  simpa using h2 x (List.mem_range.2 hx)
theorem emod_cong {a b m : Int} (k : Int) (h : a = b + m * k) : a % m = b % m := by rw [h, Int.add_mul_emod_self_left]
theorem cnt_g {l : Layout} (h : l.checkE = 0) (n S : Nat) (hS : S ≤ 64) :
    l.cnt n S = ((gcnt l.nodes.toNat (l.data + l.more).toNat (((n : Int) - l.turn) % l.nodes).toNat S : Nat) : Int) := by
  obtain ⟨⟨g1, g2⟩, ⟨g3, g4⟩, ⟨g5, g6⟩, _⟩ := good h
  have hc0 := Int.emod_nonneg ((n : Int) - l.turn) (show l.nodes ≠ 0 by omega)
  have hc1 := Int.emod_add_mul_ediv ((n : Int) - l.turn) l.nodes
  induction S with
  | zero => rfl
  | succ s ih =>
    rw [cnt, gcnt, ih (by omega)]
    have hpl : l.place s n = (((((n : Int) - l.turn) % l.nodes).toNat + l.nodes.toNat * 64 - s) % l.nodes.toNat : Nat) := by
      rw [Int.natCast_emod, place]
      have e2 : ((l.nodes.toNat : Nat) : Int) = l.nodes := by omega
      rw [e2]
      refine emod_cong (((n : Int) - l.turn) / l.nodes - 64) ?_
      rw [Int.mul_sub]
      omega
    by_cases hh : l.place s n < l.data + l.more
    · have h1 : l.has s n = true := decide_eq_true hh
      rw [if_pos h1, if_pos (by omega)]; omega
    · have h1 : l.has s n = false := decide_eq_false hh
      rw [h1, if_neg (by simp), if_neg (by omega)]; omega
theorem cnt_fine {l : Layout} (h : l.checkE = 0) (n S : Nat) (hS : S ≤ 64) :
    (S : Int) / l.nodes * (l.data + l.more) ≤ l.cnt n S ∧ l.cnt n S ≤ (S : Int) / l.nodes * (l.data + l.more) + (l.data + l.more) ∧ ((S : Int) % l.nodes = 0 → l.cnt n S = (S : Int) / l.nodes * (l.data + l.more)) := by
  obtain ⟨⟨g1, g2⟩, ⟨g3, g4⟩, ⟨g5, g6⟩, g7, _⟩ := good h
  rw [cnt_g h n S hS]
  have hc0 := Int.emod_nonneg ((n : Int) - l.turn) (show l.nodes ≠ 0 by omega)
  have hc2 := Int.emod_lt_of_pos ((n : Int) - l.turn) (show 0 < l.nodes by omega)
  have hf := gcnt_fine l.nodes.toNat (l.data + l.more).toNat (((n : Int) - l.turn) % l.nodes).toNat S (by omega) (by omega) (by omega) hS
  generalize gcnt _ _ _ S = a at *
  simp only [fine, Bool.and_eq_true, Bool.or_eq_true, decide_eq_true_eq] at hf
  obtain ⟨⟨h1, h2⟩, h3⟩ := hf
  have e1 : ((S / l.nodes.toNat * (l.data + l.more).toNat : Nat) : Int) = (S : Int) / l.nodes * (l.data + l.more) := by
    rw [Int.natCast_mul, Int.natCast_ediv, show ((l.nodes.toNat : Nat) : Int) = l.nodes by omega, show (((l.data + l.more).toNat : Nat) : Int) = l.data + l.more by omega]
  have e2 : ((S % l.nodes.toNat : Nat) : Int) = (S : Int) % l.nodes := by rw [Int.natCast_emod, show ((l.nodes.toNat : Nat) : Int) = l.nodes by omega]
  rw [← e1, ← e2]
  refine ⟨by omega, by omega, fun h4 => ?_⟩
  rcases h3 with h3 | h3
  · omega
  · omega
def sumT (f : Nat → Int) : Nat → Int
  | 0 => 0
  | k+1 => sumT f k + f k
theorem sumT_add (f g : Nat → Int) (k : Nat) : sumT (fun n => f n + g n) k = sumT f k + sumT g k := by
  induction k with
  | zero => rfl
  | succ k ih => simp only [sumT, ih]; omega
theorem sumT_list (f : Nat → Nat) (k : Nat) : sumT (fun n => (f n : Int)) k = (((List.range k).map f).sum : Nat) := by
  induction k with
  | zero => rfl
  | succ k ih => rw [sumT, ih, List.range_succ, List.map_append, List.sum_append]; simp
theorem sumT_congr (f g : Nat → Int) (k : Nat) (h : ∀ n, n < k → f n = g n) : sumT f k = sumT g k := by
  induction k with
  | zero => rfl
  | succ k ih => rw [sumT, sumT, ih (fun n hn => h n (by omega)), h k (by omega)]
theorem sum_cnt {l : Layout} (h : l.checkE = 0) (S : Nat) : sumT (fun n => l.cnt n S) l.nodes.toNat = S * (l.data + l.more) := by
  obtain ⟨⟨g1, g2⟩, ⟨g3, g4⟩, ⟨g5, g6⟩, g7, _⟩ := good h
  induction S with
  | zero =>
    have : ∀ k, sumT (fun _ => (0 : Int)) k = 0 := fun k => by induction k with
      | zero => rfl
      | succ k ih => rw [sumT, ih]; rfl
    rw [show (fun n : Nat => l.cnt n 0) = fun _ => (0 : Int) from rfl, this]; simp
  | succ s ih =>
    rw [show (fun n : Nat => l.cnt n (s + 1)) = fun n : Nat => l.cnt n s + (if l.has s n = true then (1 : Int) else 0) from rfl, sumT_add, ih]
    have hx0 := Int.emod_nonneg (l.turn + s) (show l.nodes ≠ 0 by omega)
    have hx2 := Int.emod_lt_of_pos (l.turn + s) (show 0 < l.nodes by omega)
    have hx1 := Int.emod_add_mul_ediv (l.turn + s) l.nodes
    have e : sumT (fun n : Nat => if l.has s n = true then (1 : Int) else 0) l.nodes.toNat = l.data + l.more := by
      rw [sumT_congr _ (fun n : Nat => ((if (n + l.nodes.toNat - ((l.turn + s) % l.nodes).toNat) % l.nodes.toNat < (l.data + l.more).toNat then 1 else 0 : Nat) : Int)) _ ?_]
      · rw [sumT_list, row_sum _ _ _ (by omega) (by omega) (by omega)]; omega
      · intro n hn
        have hpl : l.place s n = ((n + l.nodes.toNat - ((l.turn + s) % l.nodes).toNat) % l.nodes.toNat : Nat) := by
          rw [Int.natCast_emod, place]
          have e2 : ((l.nodes.toNat : Nat) : Int) = l.nodes := by omega
          rw [e2]
          refine emod_cong (-((l.turn + s) / l.nodes) - 1) ?_
          rw [Int.mul_sub, Int.mul_neg]
          omega
        by_cases hh : l.place s n < l.data + l.more
        · have h1 : l.has s n = true := decide_eq_true hh
          rw [if_pos h1, if_pos (by omega)]; rfl
        · have h1 : l.has s n = false := decide_eq_false hh
          rw [h1, if_neg (by simp), if_neg (by omega)]; rfl
    rw [e, Int.natCast_add, Int.add_mul]; simp
end Layout
end Go.Proofs.Ytikbignmpoefkaa
