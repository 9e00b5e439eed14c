/- Buckets of tokens in plain Lean: what the document says of them. No condition. -/
import Derived.Test.YtdoaefekbbgcmaaApi
namespace Go.Proofs.Ytdoaefekbbgcmaa
set_option linter.unusedSimpArgs false
set_option linter.unusedVariables false
namespace Bucket
def okB (b : Bucket) : Prop := (1 ≤ b.burst ∧ b.burst ≤ 100000) ∧ (0 ≤ b.rate ∧ b.rate ≤ 1000) ∧ (0 ≤ b.now ∧ b.now ≤ 1000000) ∧ (0 ≤ b.level ∧ b.level ≤ b.burst)
def checkE (b : Bucket) : Int := if (1 ≤ b.burst ∧ b.burst ≤ 100000) ∧ (0 ≤ b.rate ∧ b.rate ≤ 1000) ∧ (0 ≤ b.now ∧ b.now ≤ 1000000) ∧ (0 ≤ b.level ∧ b.level ≤ b.burst) then 0 else 3
theorem check_0 {b : Bucket} : b.checkE = 0 ↔ b.okB := by
  unfold checkE okB; split
  · simp [*]
  · simp [*]
theorem check_3 {b : Bucket} (h : ¬ b.checkE = 0) : b.checkE = 3 := by
  unfold checkE at *
  split at h
  · simp at h
  · rename_i h1; rw [if_neg h1]
def came (b : Bucket) (now : Int) : Int := b.rate * (now - b.now)
def lev (b : Bucket) (now : Int) : Int := min b.burst (b.level + b.came now)
def levelP (b : Bucket) (now : Int) : Int × Int :=
  if b.checkE = 0 then (if 0 ≤ now ∧ now ≤ 1000000 then (if now < b.now then (0, 4) else (b.lev now, 0)) else (0, 3)) else (0, 3)
def takeP (b : Bucket) (now n : Int) : Bucket × Int :=
  if (b.levelP now).2 = 0 then (if 0 ≤ n ∧ n ≤ b.burst then (if (b.levelP now).1 < n then (⟨0, 0, 0, 0⟩, 8) else (⟨(b.levelP now).1 - n, now, b.burst, b.rate⟩, 0)) else (⟨0, 0, 0, 0⟩, 3)) else (⟨0, 0, 0, 0⟩, (b.levelP now).2)
def readyAt (b : Bucket) (n : Int) : Int := b.now + (n - b.level + b.rate - 1) / b.rate
def readyP (b : Bucket) (n : Int) : Int × Int :=
  if b.checkE = 0 then (if 0 ≤ n ∧ n ≤ b.burst then (if n ≤ b.level then (b.now, 0) else if b.rate = 0 then (0, 5) else if 1000000 < b.readyAt n then (0, 5) else (b.readyAt n, 0)) else (0, 3)) else (0, 3)
theorem div_bd {a d : Int} (ha : 0 ≤ a) (hd : 1 ≤ d) : 0 ≤ a / d ∧ a / d ≤ a := ⟨Int.ediv_nonneg ha (by omega), Int.ediv_le_self _ ha⟩
theorem levelP_cases (b : Bucket) (now : Int) : (∃ e, (e != 0) = true ∧ b.levelP now = (0, e)) ∨ (b.okB ∧ (0 ≤ now ∧ now ≤ 1000000) ∧ b.now ≤ now ∧ b.levelP now = (b.lev now, 0)) := by
  unfold levelP
  by_cases h0 : b.checkE = 0
  · rw [if_pos h0]
    by_cases h1 : 0 ≤ now ∧ now ≤ 1000000
    · rw [if_pos h1]
      by_cases h2 : now < b.now
      · rw [if_pos h2]; exact .inl ⟨4, rfl, rfl⟩
      · rw [if_neg h2]; exact .inr ⟨check_0.1 h0, h1, by omega, rfl⟩
    · rw [if_neg h1]; exact .inl ⟨3, rfl, rfl⟩
  · rw [if_neg h0]; exact .inl ⟨3, rfl, rfl⟩
/-- Nothing of a product's bounds is linear: here they are. -/
theorem came_bd {b : Bucket} (h : b.okB) {now : Int} (h1 : b.now ≤ now) (h2 : now ≤ 1000000) : 0 ≤ b.came now ∧ b.came now ≤ 1000000000 := by
  obtain ⟨_, ⟨r1, r2⟩, ⟨n1, n2⟩, _⟩ := h
  unfold came
  constructor
  · exact Int.mul_nonneg r1 (by omega)
  · calc b.rate * (now - b.now) ≤ 1000 * (now - b.now) := Int.mul_le_mul_of_nonneg_right r2 (by omega)
      _ ≤ 1000 * 1000000 := by omega
      _ ≤ 1000000000 := by omega
theorem lev_bd {b : Bucket} (h : b.okB) {now : Int} (h1 : b.now ≤ now) (h2 : now ≤ 1000000) : 0 ≤ b.lev now ∧ b.lev now ≤ b.burst := by
  have := came_bd h h1 h2
  obtain ⟨_, _, _, _⟩ := h
  unfold lev; omega
theorem lev_take {b : Bucket} {now : Int} (h : (b.levelP now).2 = 0) : 0 ≤ (b.levelP now).1 ∧ (b.levelP now).1 ≤ b.burst ∧ b.burst ≤ 100000 := by
  rcases levelP_cases b now with ⟨e, h1, h2⟩ | ⟨hk, hn, hl, h2⟩
  · rw [h2] at h; simp at h1; exact absurd h h1
  · rw [h2]
    have := lev_bd hk hl hn.2
    obtain ⟨⟨_, _⟩, _⟩ := hk
    exact ⟨this.1, this.2, by omega⟩
/-- All asks, one by one: who gets tokens; what is left. -/
def serveGo : Bucket → Int → List Term → List Int → List Int × Bucket
  | b, _, [], out => (out, b)
  | b, i, a :: r, out => if (b.takeP a.begin a.end_).2 = 0 then serveGo (b.takeP a.begin a.end_).1 (i + 1) r (out ++ [i]) else serveGo b (i + 1) r out
def serveP (b : Bucket) (asks : List Term) : List Int × Bucket × Int :=
  if b.checkE = 0 then (if asks.length > 64 then ([], ⟨0, 0, 0, 0⟩, 2) else ((b.serveGo 0 asks []).1, (b.serveGo 0 asks []).2, 0)) else ([], ⟨0, 0, 0, 0⟩, b.checkE)
theorem take_ok {b : Bucket} {t n : Int} : (b.takeP t n).2 = 0 ↔ (b.levelP t).2 = 0 ∧ (0 ≤ n ∧ n ≤ b.burst) ∧ n ≤ (b.levelP t).1 := by
  unfold takeP
  by_cases h0 : (b.levelP t).2 = 0
  · rw [if_pos h0]
    by_cases h1 : 0 ≤ n ∧ n ≤ b.burst
    · rw [if_pos h1]
      by_cases h2 : (b.levelP t).1 < n
      · rw [if_pos h2]; simp; omega
      · rw [if_neg h2]; simp [h0, h1]; omega
    · rw [if_neg h1]; simp; omega
  · rw [if_neg h0]; simp [h0]
theorem levelP_ok {b : Bucket} (h : b.okB) {t : Int} (h1 : b.now ≤ t) (h2 : t ≤ 1000000) : b.levelP t = (b.lev t, 0) := by
  unfold levelP
  have := h.2.2.1
  rw [if_pos (check_0.2 h), if_pos (by omega), if_neg (by omega)]
theorem levelP_bad {b : Bucket} {t : Int} (h2 : ¬ t ≤ 1000000) : (b.levelP t).2 ≠ 0 := by
  unfold levelP
  by_cases h0 : b.checkE = 0
  · rw [if_pos h0, if_neg (by omega)]; simp
  · rw [if_neg h0]; simp
/-- When there are enough. -/
theorem take_when {b : Bucket} (h : b.okB) {n t : Int} (hn : 0 ≤ n ∧ n ≤ b.burst) (h1 : b.now ≤ t) (h2 : t ≤ 1000000) : (b.takeP t n).2 = 0 ↔ n ≤ b.level + b.rate * (t - b.now) := by
  rw [take_ok, levelP_ok h h1 h2]
  show 0 = (0 : Int) ∧ _ ∧ n ≤ b.lev t ↔ _
  unfold lev came
  constructor
  · rintro ⟨_, _, h⟩; omega
  · intro h; exact ⟨rfl, hn, by omega⟩
/-- What is found by halves is what is told. -/
theorem ready_char {b : Bucket} (h : b.okB) {n : Int} (hn : 0 ≤ n ∧ n ≤ b.burst) {lo : Int} (h1 : b.now ≤ lo ∧ lo ≤ 1000001) (h2 : ∀ t, b.now ≤ t → t < lo → (b.takeP t n).2 ≠ 0) (h3 : lo ≤ 1000000 → (b.takeP lo n).2 = 0) :
    b.readyP n = if lo > 1000000 then (0, 5) else (lo, 0) := by
  have hnow := h.2.2.1
  have hrate := h.2.1
  unfold readyP
  rw [if_pos (check_0.2 h), if_pos hn]
  by_cases c1 : n ≤ b.level
  · rw [if_pos c1]
    have : lo = b.now := by
      by_cases hl : b.now < lo
      · exact absurd ((take_when h hn (Int.le_refl _) hnow.2).2 (by simp; exact c1)) (h2 _ (Int.le_refl _) hl)
      · omega
    rw [if_neg (by omega), this]
  · rw [if_neg c1]
    by_cases c2 : b.rate = 0
    · rw [if_pos c2]
      have : ¬ lo ≤ 1000000 := fun hl => by
        have := (take_when h hn h1.1 hl).1 (h3 hl)
        rw [c2] at this; omega
      rw [if_pos (by omega)]
    · rw [if_neg c2]
      have key : ∀ t, b.now ≤ t → (n ≤ b.level + b.rate * (t - b.now) ↔ b.readyAt n ≤ t) := by
        intro t ht
        unfold readyAt
        have e := Int.ediv_lt_iff_lt_mul (a := n - b.level + b.rate - 1) (b := t - b.now + 1) (c := b.rate) (by omega)
        have e2 : (t - b.now + 1) * b.rate = b.rate * (t - b.now) + b.rate := by rw [Int.add_mul, Int.mul_comm]; omega
        rw [e2] at e
        constructor
        · intro hh
          have := e.2 (by omega)
          omega
        · intro hh
          have := e.1 (by omega)
          omega
      have hat : b.now ≤ b.readyAt n := by
        unfold readyAt
        have := Int.ediv_nonneg (a := n - b.level + b.rate - 1) (b := b.rate) (by omega) (by omega)
        omega
      by_cases c3 : 1000000 < b.readyAt n
      · rw [if_pos c3]
        have : ¬ lo ≤ 1000000 := fun hl => by
          have := (key lo h1.1).1 ((take_when h hn h1.1 hl).1 (h3 hl))
          omega
        rw [if_pos (by omega)]
      · rw [if_neg c3]
        have ok := (take_when h hn hat (by omega)).2 ((key _ hat).2 (Int.le_refl _))
        have l1 : lo ≤ b.readyAt n := by
          by_cases hl : b.readyAt n < lo
          · exact absurd ok (h2 _ hat hl)
          · omega
        have l2 := (key lo h1.1).1 ((take_when h hn h1.1 (by omega)).1 (h3 (by omega)))
        rw [if_neg (by omega), show lo = b.readyAt n by omega]
/-- Levels never fall. -/
theorem take_rises {b : Bucket} {n t u : Int} (h : (b.takeP t n).2 = 0) (h1 : b.now ≤ t) (h2 : t ≤ u) (h3 : u ≤ 1000000) (hb : b.okB) : (b.takeP u n).2 = 0 := by
  have hn := (take_ok.1 h).2.1
  rw [take_when hb hn h1 (by omega)] at h
  rw [take_when hb hn (by omega) h3]
  have := Int.mul_le_mul_of_nonneg_left (a := t - b.now) (b := u - b.now) (c := b.rate) (by omega) hb.2.1.1
  omega
end Bucket
end Go.Proofs.Ytdoaefekbbgcmaa
