/- Sums over sets of nodes: the heaviest nodes are the fewest. Plain. No condition. -/
import Derived.Test.YtfgjfghljhldfaaDoorPLowM
namespace Go.Proofs.YtfgjfghljhldfaaDoor
set_option linter.unusedSimpArgs false
set_option linter.unusedVariables false
def lsum : List Int → Int
  | [] => 0
  | a :: r => a + lsum r
theorem lsum_perm {a b : List Int} (h : a.Perm b) : lsum a = lsum b := by
  induction h with
  | nil => rfl
  | cons x _ ih => simp only [lsum, ih]
  | swap x y l => simp only [lsum]; omega
  | trans _ _ h1 h2 => exact h1.trans h2
/-- Insertion into a list that stands the other way round. -/
def insR (x : Int) : List Int → List Int
  | [] => [x]
  | a :: r => if a < x then a :: insR x r else x :: a :: r
def srtGo : List Int → List Int → List Int
  | acc, [] => acc
  | acc, x :: r => srtGo (insR x acc) r
/-- The weights from the heaviest on. -/
def srtD (ws : List Int) : List Int := (srtGo [] ws).reverse
theorem insR_perm (x : Int) : ∀ l, (insR x l).Perm (x :: l)
  | [] => .refl _
  | a :: r => by
    unfold insR
    split
    · exact ((insR_perm x r).cons a).trans (List.Perm.swap x a r)
    · exact .refl _
theorem srtGo_perm : ∀ (ws acc : List Int), (srtGo acc ws).Perm (acc ++ ws)
  | [], acc => by simp [srtGo]
  | x :: r, acc => by
    refine (srtGo_perm r (insR x acc)).trans ?_
    refine ((insR_perm x acc).append_right r).trans ?_
    rw [List.cons_append]
    exact List.perm_middle.symm
theorem srtD_perm (ws : List Int) : (srtD ws).Perm ws := (List.reverse_perm _).trans (by simpa using srtGo_perm ws [])
theorem srtD_len (ws : List Int) : (srtD ws).length = ws.length := (srtD_perm ws).length_eq
theorem insR_sorted (x : Int) : ∀ {l : List Int}, l.Pairwise (· ≤ ·) → (insR x l).Pairwise (· ≤ ·)
  | [], _ => by simp [insR]
  | a :: r, h => by
    unfold insR
    rw [List.pairwise_cons] at h
    split
    · rw [List.pairwise_cons]
      refine ⟨fun b hb => ?_, insR_sorted x h.2⟩
      rcases List.mem_cons.1 ((insR_perm x r).mem_iff.1 hb) with rfl | hb
      · omega
      · exact h.1 b hb
    · rw [List.pairwise_cons]
      refine ⟨fun b hb => ?_, by rw [List.pairwise_cons]; exact h⟩
      rcases List.mem_cons.1 hb with rfl | hb
      · omega
      · have := h.1 b hb; omega
theorem srtGo_sorted : ∀ (ws acc : List Int), acc.Pairwise (· ≤ ·) → (srtGo acc ws).Pairwise (· ≤ ·)
  | [], _, h => h
  | x :: r, acc, h => srtGo_sorted r _ (insR_sorted x h)
theorem srtD_sorted (ws : List Int) : (srtD ws).Pairwise (· ≥ ·) := by
  unfold srtD; rw [List.pairwise_reverse]; exact srtGo_sorted ws [] .nil
/-- How many of a list's first ones are together at least so much. -/
def hvG : List Int → Int → Nat
  | [], _ => 0
  | a :: r, n => if n ≤ 0 then 0 else hvG r (n - a) + 1
def heavyP (ws : List Int) (need : Int) : Nat := hvG (srtD ws) need
theorem hvG_le : ∀ (l : List Int) (n : Int), hvG l n ≤ l.length
  | [], _ => by simp [hvG]
  | a :: r, n => by
    unfold hvG; split
    · simp
    · have := hvG_le r (n - a); simp only [List.length_cons]; omega
theorem hvG_sum : ∀ (l : List Int) (n : Int), n ≤ lsum l → n ≤ lsum (l.take (hvG l n))
  | [], n, h => by simpa [hvG] using h
  | a :: r, n, h => by
    unfold hvG; split
    · simpa [lsum] using ‹n ≤ 0›
    · have := hvG_sum r (n - a) (by simp only [lsum] at h; omega)
      simp only [List.take_succ_cons, lsum]; omega
theorem hvG_less : ∀ (l : List Int) (n : Int) (m : Nat), m < hvG l n → lsum (l.take m) < n
  | [], _, _, h => by simp [hvG] at h
  | a :: r, n, m, h => by
    unfold hvG at h; split at h
    · omega
    · cases m with
      | zero => simp [lsum]; omega
      | succ m =>
        have := hvG_less r (n - a) m (by omega)
        simp only [List.take_succ_cons, lsum]; omega
theorem take_head : ∀ (r : List Int) (a : Int) (m : Nat), (∀ b, b ∈ r → b ≤ a) → 0 ≤ a → r.Pairwise (· ≥ ·) → lsum (r.take (m + 1)) ≤ a + lsum (r.take m)
  | [], a, m, _, h0, _ => by simp [lsum]; exact h0
  | b :: r, a, 0, h, h0, _ => by simp [lsum]; exact h b (by simp)
  | b :: r, a, m + 1, h, h0, hp => by
    rw [List.pairwise_cons] at hp
    have ih := take_head r a m (fun c hc => h c (List.mem_cons_of_mem _ hc)) h0 hp.2
    simp only [List.take_succ_cons, lsum] at ih ⊢
    omega
/-- No so many elements weigh more than the first ones. -/
theorem sub_top {l d : List Int} (h : l.Sublist d) (hp : d.Pairwise (· ≥ ·)) (h0 : ∀ w, w ∈ d → 0 ≤ w) : lsum l ≤ lsum (d.take l.length) := by
  induction h with
  | slnil => simp
  | @cons l d a h ih =>
    rw [List.pairwise_cons] at hp
    have ih := ih hp.2 fun w hw => h0 w (List.mem_cons_of_mem _ hw)
    cases hl : l.length with
    | zero => have := List.length_eq_zero_iff.1 hl; subst this; simp [lsum]
    | succ m =>
      rw [hl] at ih
      have := take_head d a m hp.1 (h0 a (by simp)) hp.2
      simp only [List.take_succ_cons, lsum]; omega
  | @cons_cons l d a h ih =>
    rw [List.pairwise_cons] at hp
    have ih := ih hp.2 fun w hw => h0 w (List.mem_cons_of_mem _ hw)
    simp only [List.length_cons, List.take_succ_cons, lsum]; omega
/-- The weights of a set. -/
def sel : List Int → Nat → List Int
  | [], _ => []
  | w :: ws, x => if x % 2 = 1 then w :: sel ws (x / 2) else sel ws (x / 2)
theorem sel_sum : ∀ (ws : List Int) (x : Nat), lsum (sel ws x) = bsum ws x
  | [], _ => rfl
  | w :: ws, x => by
    unfold sel bsum
    split
    · simp only [lsum, sel_sum ws]
    · simp only [sel_sum ws]; omega
theorem sel_sub : ∀ (ws : List Int) (x : Nat), (sel ws x).Sublist ws
  | [], _ => .slnil
  | w :: ws, x => by
    unfold sel; split
    · exact (sel_sub ws _).cons_cons w
    · exact (sel_sub ws _).cons w
/-- How many nodes a set has. -/
def bsize : Nat → Nat → Nat
  | 0, _ => 0
  | n + 1, x => x % 2 + bsize n (x / 2)
theorem sel_len : ∀ (ws : List Int) (x : Nat), (sel ws x).length = bsize ws.length x
  | [], _ => rfl
  | w :: ws, x => by
    unfold sel bsize
    have : x % 2 = 0 ∨ x % 2 = 1 := by omega
    rcases this with h | h <;> simp [h, sel_len ws] <;> omega
theorem sel_of_sub {l ws : List Int} (h : l.Sublist ws) : ∃ x, x < 2 ^ ws.length ∧ sel ws x = l := by
  induction h with
  | slnil => exact ⟨0, by simp, rfl⟩
  | @cons l ws a h ih =>
    obtain ⟨x, h1, h2⟩ := ih
    refine ⟨2 * x, by rw [List.length_cons, Nat.pow_succ]; omega, ?_⟩
    unfold sel
    rw [if_neg (by omega), show 2 * x / 2 = x by omega, h2]
  | @cons_cons l ws a h ih =>
    obtain ⟨x, h1, h2⟩ := ih
    refine ⟨2 * x + 1, by rw [List.length_cons, Nat.pow_succ]; omega, ?_⟩
    unfold sel
    rw [if_pos (by omega), show (2 * x + 1) / 2 = x by omega, h2]
/-- A set that is enough has at least so many nodes. -/
theorem heavy_min {ws : List Int} {need : Int} {x : Nat} (h0 : ∀ w, w ∈ ws → 0 ≤ w) (h : need ≤ bsum ws x) : heavyP ws need ≤ bsize ws.length x := by
  by_cases hh : heavyP ws need ≤ bsize ws.length x
  · exact hh
  · exfalso
    obtain ⟨l, h1, h2⟩ := List.exists_perm_sublist (sel_sub ws x) (srtD_perm ws).symm
    have h3 := sub_top h2 (srtD_sorted ws) fun w hw => h0 w ((srtD_perm ws).mem_iff.1 hw)
    rw [lsum_perm h1, sel_sum, h1.length_eq, sel_len] at h3
    have h4 := hvG_less (srtD ws) need (bsize ws.length x) (by unfold heavyP at hh; omega)
    omega
/-- So many nodes are enough. -/
theorem heavy_has {ws : List Int} {need : Int} (h : need ≤ lsum ws) : ∃ x, x < 2 ^ ws.length ∧ need ≤ bsum ws x ∧ bsize ws.length x = heavyP ws need := by
  obtain ⟨l, h1, h2⟩ := List.exists_perm_sublist (List.take_sublist (heavyP ws need) (srtD ws)) (srtD_perm ws)
  obtain ⟨x, h3, h4⟩ := sel_of_sub h2
  refine ⟨x, h3, ?_, ?_⟩
  · rw [← sel_sum, h4, lsum_perm h1]
    exact hvG_sum _ _ (by rw [lsum_perm (srtD_perm ws)]; exact h)
  · rw [← sel_len, h4, h1.length_eq, List.length_take, Nat.min_eq_left]
    exact hvG_le _ _
theorem bsize_le : ∀ (n x : Nat), bsize n x ≤ n
  | 0, _ => Nat.le_refl _
  | n + 1, x => by have := bsize_le n (x / 2); unfold bsize; omega
/-- The least size of a set that is enough, of the first k sets. -/
def leastG (ws : List Int) (need : Int) : Nat → Int
  | 0 => ws.length
  | k + 1 => if bsum ws k ≥ need ∧ (bsize ws.length k : Int) < leastG ws need k then (bsize ws.length k : Int) else leastG ws need k
theorem leastG_le (ws : List Int) (need : Int) : ∀ (k x : Nat), x < k → bsum ws x ≥ need → leastG ws need k ≤ bsize ws.length x
  | 0, x, h, _ => by omega
  | k + 1, x, h, h2 => by
    unfold leastG
    by_cases hx : x = k
    · subst hx; split <;> omega
    · have := leastG_le ws need k x (by omega) h2
      split <;> omega
theorem leastG_ge {ws : List Int} {need : Int} (h0 : ∀ w, w ∈ ws → 0 ≤ w) : ∀ k, (heavyP ws need : Int) ≤ leastG ws need k
  | 0 => by have := hvG_le (srtD ws) need; rw [srtD_len] at this; unfold leastG heavyP; omega
  | k + 1 => by
    have ih := leastG_ge (need := need) h0 k
    unfold leastG
    split
    · rename_i h; have := heavy_min h0 h.1; omega
    · exact ih
theorem least_is {ws : List Int} {need : Int} (h0 : ∀ w, w ∈ ws → 0 ≤ w) (h : need ≤ lsum ws) : leastG ws need (2 ^ ws.length) = heavyP ws need := by
  obtain ⟨x, h1, h2, h3⟩ := heavy_has h
  have a := leastG_le ws need _ x h1 h2
  have b := leastG_ge (need := need) h0 (2 ^ ws.length)
  rw [h3] at a; omega
/-- The other nodes. -/
theorem bsum_compl : ∀ (ws : List Int) (x : Nat), x < 2 ^ ws.length → bsum ws (2 ^ ws.length - 1 - x) = lsum ws - bsum ws x
  | [], x, h => by simp [bsum, lsum]
  | w :: ws, x, h => by
    have hp : 2 ^ (ws.length + 1) = 2 * 2 ^ ws.length := by rw [Nat.pow_succ]; omega
    rw [List.length_cons] at h ⊢
    have ih := bsum_compl ws (x / 2) (by omega)
    have e1 : (2 ^ (ws.length + 1) - 1 - x) / 2 = 2 ^ ws.length - 1 - x / 2 := by omega
    have e2 : (2 ^ (ws.length + 1) - 1 - x) % 2 = 1 - x % 2 := by omega
    simp only [bsum, lsum, e1, e2, ih]
    have : x % 2 = 0 ∨ x % 2 = 1 := by omega
    rcases this with h | h <;> simp [h] <;> omega
theorem bsize_compl : ∀ (n x : Nat), x < 2 ^ n → bsize n (2 ^ n - 1 - x) = n - bsize n x
  | 0, x, h => by simp [bsize]
  | n + 1, x, h => by
    have hp : 2 ^ (n + 1) = 2 * 2 ^ n := by rw [Nat.pow_succ]; omega
    have ih := bsize_compl n (x / 2) (by omega)
    have e1 : (2 ^ (n + 1) - 1 - x) / 2 = 2 ^ n - 1 - x / 2 := by omega
    have e2 : (2 ^ (n + 1) - 1 - x) % 2 = 1 - x % 2 := by omega
    have := bsize_le n (x / 2)
    simp only [bsize, e1, e2, ih]; omega
/-- How many nodes may be away: the least number of the others, but one, where a set is not enough. -/
def spareG (ws : List Int) (need : Int) : Nat → Int
  | 0 => ws.length
  | k + 1 => if bsum ws k < need ∧ (ws.length : Int) - bsize ws.length k - 1 < spareG ws need k then (ws.length : Int) - bsize ws.length k - 1 else spareG ws need k
theorem spareG_le (ws : List Int) (need : Int) : ∀ (k x : Nat), x < k → bsum ws x < need → spareG ws need k ≤ (ws.length : Int) - bsize ws.length x - 1
  | 0, x, h, _ => by omega
  | k + 1, x, h, h2 => by
    unfold spareG
    by_cases hx : x = k
    · subst hx; split <;> omega
    · have := spareG_le ws need k x (by omega) h2
      split <;> omega
theorem spareG_ge {ws : List Int} {need : Int} (h0 : ∀ w, w ∈ ws → 0 ≤ w) : ∀ k, k ≤ 2 ^ ws.length → (heavyP ws (lsum ws - need + 1) : Int) - 1 ≤ spareG ws need k
  | 0, _ => by have := hvG_le (srtD ws) (lsum ws - need + 1); rw [srtD_len] at this; unfold spareG heavyP; omega
  | k + 1, hk => by
    have ih := spareG_ge (need := need) h0 k (by omega)
    unfold spareG
    split
    · rename_i h
      have h1 := bsum_compl ws k (by omega)
      have h2 := bsize_compl ws.length k (by omega)
      have h3 := heavy_min (ws := ws) (need := lsum ws - need + 1) (x := 2 ^ ws.length - 1 - k) h0 (by omega)
      have h4 := bsize_le ws.length k
      omega
    · exact ih
theorem spare_is {ws : List Int} {need : Int} (h0 : ∀ w, w ∈ ws → 0 ≤ w) (h1 : 1 ≤ need) : spareG ws need (2 ^ ws.length) = (heavyP ws (lsum ws - need + 1) : Int) - 1 := by
  obtain ⟨x, h2, h3, h4⟩ := heavy_has (ws := ws) (need := lsum ws - need + 1) (by omega)
  have hc := bsum_compl ws x h2
  have hs := bsize_compl ws.length x h2
  have hl := bsize_le ws.length x
  have a := spareG_le ws need (2 ^ ws.length) (2 ^ ws.length - 1 - x) (by have := Nat.two_pow_pos ws.length; omega) (by omega)
  have b := spareG_ge (need := need) h0 (2 ^ ws.length) (Nat.le_refl _)
  omega
end Go.Proofs.YtfgjfghljhldfaaDoor
