/- Plain laws of buckets: what the document's laws come to. No condition. -/
import Derived.Test.YtdoaefekbbgcmaaBucketM
namespace Go.Proofs.Ytdoaefekbbgcmaa
set_option linter.unusedSimpArgs false
set_option linter.unusedVariables false
namespace Bucket
theorem take_eq {b : Bucket} {now n : Int} (h : (b.takeP now n).2 = 0) : b.okB ∧ (0 ≤ now ∧ now ≤ 1000000) ∧ b.now ≤ now ∧ (0 ≤ n ∧ n ≤ b.burst) ∧ n ≤ b.lev now ∧ b.takeP now n = (⟨b.lev now - n, now, b.burst, b.rate⟩, 0) := by
  obtain ⟨h1, h2, h3⟩ := take_ok.1 h
  rcases levelP_cases b now with ⟨e, he, hl⟩ | ⟨hk, hn, hl, hL⟩
  · rw [hl] at h1; simp at he; exact absurd h1 he
  · rw [hL] at h3
    refine ⟨hk, hn, hl, h2, h3, ?_⟩
    unfold takeP
    rw [hL]
    simp only [if_true]
    rw [if_pos h2, if_neg (by simp only at h3; omega)]
theorem okB_take {b : Bucket} {now n : Int} (h : (b.takeP now n).2 = 0) : (b.takeP now n).1.okB := by
  obtain ⟨hk, hn, hl, h2, h3, he⟩ := take_eq h
  have := lev_bd hk hl hn.2
  rw [he]
  obtain ⟨k1, k2, k3, k4⟩ := hk
  exact ⟨k1, k2, ⟨by simp only; omega, by simp only; omega⟩, by simp only; omega⟩
theorem came_add (r a b c : Int) : r * (c - a) = r * (b - a) + r * (c - b) := by rw [← Int.mul_add]; congr 1; omega
theorem take_bd {b : Bucket} {now n : Int} (h : (b.takeP now n).2 = 0) : 0 ≤ (b.takeP now n).1.level ∧ (b.takeP now n).1.level ≤ 100000 ∧ 0 ≤ n ∧ n ≤ 100000 := by
  have hk := okB_take h
  obtain ⟨h1, _, _, h2, _⟩ := take_eq h
  have e : (b.takeP now n).1.burst = b.burst := by rw [(take_eq h).2.2.2.2.2]
  obtain ⟨q1, _⟩ := h1
  obtain ⟨p1, _, _, p4⟩ := hk
  omega
theorem levelP_congr {b c : Bucket} (h : b.okB) (k : c.okB) {t : Int} (h1 : b.now ≤ t) (h2 : c.now ≤ t) (h3 : b.lev t = c.lev t) (h0 : 0 ≤ t) : b.levelP t = c.levelP t := by
  by_cases ht : t ≤ 1000000
  · rw [levelP_ok h h1 ht, levelP_ok k h2 ht, h3]
  · unfold levelP
    rw [if_pos (check_0.2 h), if_pos (check_0.2 k), if_neg (by omega), if_neg (by omega)]
theorem idle {b : Bucket} {now later n : Int} (h : (b.takeP now 0).2 = 0) (hl : now ≤ later) : (b.takeP now 0).1.takeP later n = b.takeP later n := by
  have hk' := okB_take h
  obtain ⟨hk, hn, hl', h2, h3, he⟩ := take_eq h
  rw [he] at hk' ⊢
  have hr := hk.2.1.1
  have hp := Int.mul_nonneg hr (show 0 ≤ later - now by omega)
  have hq := came_add b.rate b.now now later
  have key := levelP_congr hk hk' (t := later) (by omega) hl (by unfold lev came; simp only; omega) (by omega)
  unfold takeP
  rw [← key]
theorem ready_spec {b : Bucket} (h : b.okB) {n : Int} (hn : 0 ≤ n ∧ n ≤ b.burst) :
    (∃ t, b.readyP n = (t, 0) ∧ b.now ≤ t ∧ t ≤ 1000000 ∧ ∀ s, b.now ≤ s → s ≤ 1000000 → ((b.takeP s n).2 = 0 ↔ t ≤ s)) ∨ (b.readyP n = (0, 5) ∧ ∀ s, b.now ≤ s → s ≤ 1000000 → (b.takeP s n).2 ≠ 0) := by
  have hnow := h.2.2.1
  have hrate := h.2.1
  unfold readyP
  rw [if_pos (check_0.2 h), if_pos hn]
  by_cases c1 : n ≤ b.level
  · rw [if_pos c1]
    refine .inl ⟨_, rfl, Int.le_refl _, hnow.2, fun s h1 h2 => ⟨fun _ => h1, fun _ => (take_when h hn h1 h2).2 ?_⟩⟩
    have := Int.mul_nonneg hrate.1 (show 0 ≤ s - b.now by omega); omega
  · rw [if_neg c1]
    by_cases c2 : b.rate = 0
    · rw [if_pos c2]
      refine .inr ⟨rfl, fun s h1 h2 hh => ?_⟩
      have := (take_when h hn h1 h2).1 hh
      rw [c2] at this; omega
    · rw [if_neg c2]
      have key : ∀ t, b.now ≤ t → (n ≤ b.level + b.rate * (t - b.now) ↔ b.readyAt n ≤ t) := by
        intro t ht
        unfold readyAt
        have e := Int.ediv_lt_iff_lt_mul (a := n - b.level + b.rate - 1) (b := t - b.now + 1) (c := b.rate) (by omega)
        have e2 : (t - b.now + 1) * b.rate = b.rate * (t - b.now) + b.rate := by rw [Int.add_mul, Int.mul_comm]; omega
        rw [e2] at e
        constructor
        · intro hh
          have := e.2 (by omega)
          omega
        · intro hh
          have := e.1 (by omega)
          omega
      have hat : b.now ≤ b.readyAt n := by
        unfold readyAt
        have := Int.ediv_nonneg (a := n - b.level + b.rate - 1) (b := b.rate) (by omega) (by omega)
        omega
      by_cases c3 : 1000000 < b.readyAt n
      · rw [if_pos c3]
        refine .inr ⟨rfl, fun s h1 h2 hh => ?_⟩
        have := (key s h1).1 ((take_when h hn h1 h2).1 hh)
        omega
      · rw [if_neg c3]
        exact .inl ⟨_, rfl, hat, by omega, fun s h1 h2 => (take_when h hn h1 h2).trans (key s h1)⟩
theorem ready_no {b : Bucket} {n now : Int} (h : ¬ (b.readyP n).2 = 0) : (b.readyP n).1 = 0 ∧ ¬ (b.takeP now n).2 = 0 := by
  by_cases hk : b.okB
  · by_cases hn : 0 ≤ n ∧ n ≤ b.burst
    · rcases ready_spec hk hn with ⟨t, ht, _⟩ | ⟨ht, hs⟩
      · rw [ht] at h; exact absurd rfl h
      · refine ⟨by rw [ht], fun hh => ?_⟩
        obtain ⟨_, h2, h3, _⟩ := take_eq hh
        exact hs now h3 h2.2 hh
    · refine ⟨by unfold readyP; rw [if_pos (check_0.2 hk), if_neg hn], fun hh => ?_⟩
      exact hn (take_eq hh).2.2.2.1
  · refine ⟨by unfold readyP; rw [if_neg (fun hh => hk (check_0.1 hh))], fun hh => hk (take_eq hh).1⟩
theorem ready_yes {b : Bucket} {n : Int} (h : (b.readyP n).2 = 0) : b.okB ∧ (0 ≤ n ∧ n ≤ b.burst) ∧ (b.takeP (b.readyP n).1 n).2 = 0 ∧ ∀ s, (b.takeP s n).2 = 0 → (b.readyP n).1 ≤ s := by
  by_cases hk : b.okB
  · by_cases hn : 0 ≤ n ∧ n ≤ b.burst
    · rcases ready_spec hk hn with ⟨t, ht, h1, h2, hs⟩ | ⟨ht, _⟩
      · rw [ht]
        exact ⟨hk, hn, (hs t h1 h2).2 (Int.le_refl _), fun s hh => (hs s (take_eq hh).2.2.1 (take_eq hh).2.1.2).1 hh⟩
      · rw [ht] at h; simp at h
    · unfold readyP at h; rw [if_pos (check_0.2 hk), if_neg hn] at h; simp at h
  · unfold readyP at h; rw [if_neg (fun hh => hk (check_0.1 hh))] at h; simp at h
theorem take_less {b : Bucket} {t n m : Int} (h : (b.takeP t n).2 = 0) (h0 : 0 ≤ m) (hm : m ≤ n) : (b.takeP t m).2 = 0 ∧ (b.takeP t m).1.level = (b.takeP t n).1.level + n - m := by
  obtain ⟨hk, hn, hl, h2, h3, he⟩ := take_eq h
  have h4 : (b.takeP t m).2 = 0 := by
    rw [take_ok] at h ⊢
    exact ⟨h.1, ⟨h0, by omega⟩, by omega⟩
  obtain ⟨_, _, _, _, _, he'⟩ := take_eq h4
  refine ⟨h4, ?_⟩
  rw [he, he']; simp only; omega
theorem ready_more {b : Bucket} {n more : Int} (h : (b.readyP n).2 = 0) (k : (b.readyP more).2 = 0) (hm : n ≤ more) : (b.readyP n).1 ≤ (b.readyP more).1 := by
  obtain ⟨_, hn, _, h2⟩ := ready_yes h
  obtain ⟨_, _, h3, _⟩ := ready_yes k
  exact h2 _ (take_less h3 hn.1 hm).1
theorem more {b c : Bucket} {now : Int} (hc : c.now = b.now ∧ c.burst = b.burst) (h : (b.levelP now).2 = 0) (k : (c.levelP now).2 = 0) (hl : b.level ≤ c.level) (hr : b.rate ≤ c.rate) : (b.levelP now).1 ≤ (c.levelP now).1 := by
  rcases levelP_cases b now with ⟨e, he, hL⟩ | ⟨hk, hn, hl', hL⟩
  · rw [hL] at h; simp at he; exact absurd h he
  · rcases levelP_cases c now with ⟨e, he, hL'⟩ | ⟨_, _, _, hL'⟩
    · rw [hL'] at k; simp at he; exact absurd k he
    · rw [hL, hL']
      have := Int.mul_le_mul_of_nonneg_right hr (show 0 ≤ now - b.now by omega)
      unfold lev came
      simp only [hc.1, hc.2]
      omega

/-! asks, one by one -/
theorem go_append : ∀ (r s : List Term) (b : Bucket) (i : Int) (out : List Int), b.serveGo i (r ++ s) out = (b.serveGo i r out).2.serveGo (i + r.length) s (b.serveGo i r out).1
  | [], s, b, i, out => by simp [serveGo]
  | a :: r, s, b, i, out => by
    simp only [List.cons_append, serveGo, List.length_cons]
    have e : i + ((r.length + 1 : Nat) : Int) = i + 1 + (r.length : Int) := by omega
    split
    · rw [go_append r s, e]
    · rw [go_append r s, e]
theorem go_okB : ∀ (r : List Term) (b : Bucket) (i : Int) (out : List Int), b.okB → (b.serveGo i r out).2.okB
  | [], b, i, out, h => h
  | a :: r, b, i, out, h => by
    simp only [serveGo]
    split
    · rename_i h1; exact go_okB r _ _ _ (okB_take h1)
    · exact go_okB r _ _ _ h
theorem go_shift : ∀ (r : List Term) (b : Bucket) (i j : Int) (out out' : List Int), (b.serveGo i r out).2 = (b.serveGo j r out').2 ∧ ((b.serveGo i r out).1.length : Int) - out.length = ((b.serveGo j r out').1.length : Int) - out'.length
  | [], b, i, j, out, out' => by simp [serveGo]
  | a :: r, b, i, j, out, out' => by
    simp only [serveGo]
    split
    · have := go_shift r (b.takeP a.begin a.end_).1 (i + 1) (j + 1) (out ++ [i]) (out' ++ [j])
      simp only [List.length_append, List.length_cons, List.length_nil] at this
      exact ⟨this.1, by omega⟩
    · exact go_shift r b (i + 1) (j + 1) out out'
theorem serve_parts {b : Bucket} {asks : List Term} {k : Nat} (h : (b.serveP asks).2.2 = 0) (hk : k ≤ asks.length) :
    (b.serveP (asks.take k)).2.2 = 0 ∧ ((b.serveP (asks.take k)).2.1.serveP (asks.drop k)).2.2 = 0 ∧ ((b.serveP (asks.take k)).2.1.serveP (asks.drop k)).2.1 = (b.serveP asks).2.1 ∧
      (b.serveP (asks.take k)).1.length + ((b.serveP (asks.take k)).2.1.serveP (asks.drop k)).1.length = (b.serveP asks).1.length ∧ b.checkE = 0 ∧ asks.length ≤ 64 := by
  have hc : b.checkE = 0 ∧ ¬ asks.length > 64 := by
    unfold serveP at h
    by_cases h0 : b.checkE = 0
    · rw [if_pos h0] at h
      by_cases h1 : asks.length > 64
      · rw [if_pos h1] at h; simp at h
      · exact ⟨h0, h1⟩
    · rw [if_neg h0] at h; exact absurd h h0
  obtain ⟨h0, h1⟩ := hc
  have e1 : b.serveP (asks.take k) = ((b.serveGo 0 (asks.take k) []).1, (b.serveGo 0 (asks.take k) []).2, 0) := by
    unfold serveP; rw [if_pos h0, if_neg (by simp; omega)]
  have e2 : b.serveP asks = ((b.serveGo 0 asks []).1, (b.serveGo 0 asks []).2, 0) := by
    unfold serveP; rw [if_pos h0, if_neg h1]
  have hk2 := go_okB (asks.take k) b 0 [] (check_0.1 h0)
  have e3 : ∀ c : Bucket, c.okB → c.serveP (asks.drop k) = ((c.serveGo 0 (asks.drop k) []).1, (c.serveGo 0 (asks.drop k) []).2, 0) := fun c hc => by
    unfold serveP; rw [if_pos (check_0.2 hc), if_neg (by simp; omega)]
  have ha := go_append (asks.take k) (asks.drop k) b 0 []
  rw [List.take_append_drop] at ha
  rw [e1, e2]
  simp only
  rw [e3 _ hk2]
  simp only
  have hs := go_shift (asks.drop k) (b.serveGo 0 (asks.take k) []).2 0 (0 + ((asks.take k).length : Int)) [] (b.serveGo 0 (asks.take k) []).1
  rw [ha]
  refine ⟨trivial, trivial, hs.1, ?_, h0, by omega⟩
  have := hs.2
  simp at this ⊢
  omega

/-! what goes between two moments -/
def inIv (f t : Int) (a : Term) : Prop := f ≤ a.begin ∧ a.begin ≤ t
instance (f t : Int) (a : Term) : Decidable (inIv f t a) := by unfold inIv; infer_instance
/-- What the asks get between two moments. -/
def gone (f t : Int) : Bucket → List Term → Int
  | _, [] => 0
  | b, a :: r => if (b.takeP a.begin a.end_).2 = 0 then (if inIv f t a then a.end_ else 0) + gone f t (b.takeP a.begin a.end_).1 r else gone f t b r
theorem gone_bd {f t : Int} (hf : 0 ≤ f) (hft : f ≤ t) : ∀ (r : List Term) (b : Bucket), b.okB → 0 ≤ gone f t b r ∧ gone f t b r ≤ 100000 * r.length ∧
    (b.now ≤ f → gone f t b r ≤ b.burst + b.rate * (t - f)) ∧ (f ≤ b.now → b.now ≤ t → gone f t b r ≤ b.level + b.rate * (t - b.now)) ∧ (t < b.now → gone f t b r = 0)
  | [], b, h => by
    have hr := h.2.1.1
    have h1 := Int.mul_nonneg hr (show 0 ≤ t - f by omega)
    have hb := h.1
    have hl := h.2.2.2
    simp only [gone, List.length_nil]
    refine ⟨Int.le_refl _, by omega, fun _ => by omega, fun _ h3 => ?_, fun _ => trivial⟩
    have := Int.mul_nonneg hr (show 0 ≤ t - b.now by omega); omega
  | a :: r, b, h => by
    have hr := h.2.1.1
    have hb := h.1
    simp only [gone, List.length_cons]
    split
    · rename_i hk
      have hok := okB_take hk
      obtain ⟨ih1, ih2, ih3, ih4, ih5⟩ := gone_bd hf hft r _ hok
      obtain ⟨_, hn, hl, h2, h3, he⟩ := take_eq hk
      rw [he] at ih1 ih2 ih3 ih4 ih5 hok ⊢
      dsimp only at ih1 ih2 ih3 ih4 ih5 hok ⊢
      have hlev : b.lev a.begin ≤ b.burst ∧ b.lev a.begin ≤ b.level + b.rate * (a.begin - b.now) := by unfold lev came; omega
      by_cases hin : inIv f t a
      · rw [if_pos hin]
        obtain ⟨i1, i2⟩ := hin
        have m1 := ih4 i1 i2
        have e1 := came_add b.rate f a.begin t
        have e2 := came_add b.rate b.now a.begin t
        have p1 := Int.mul_nonneg hr (show 0 ≤ a.begin - f by omega)
        refine ⟨by omega, by omega, fun _ => by omega, fun h4 h5 => by omega, fun h4 => ?_⟩
        exfalso; omega
      · rw [if_neg hin]
        by_cases hlt : a.begin < f
        · have m := ih3 (by omega)
          exact ⟨by omega, by omega, fun _ => by omega, fun h4 _ => by omega, fun h4 => by omega⟩
        · have hgt : t < a.begin := by
            have : ¬ (f ≤ a.begin ∧ a.begin ≤ t) := hin
            omega
          have m := ih5 hgt
          have p1 := Int.mul_nonneg hr (show 0 ≤ t - f by omega)
          refine ⟨by omega, by omega, fun _ => by omega, fun h4 h5 => ?_, fun _ => by omega⟩
          have p2 := Int.mul_nonneg hr (show 0 ≤ t - b.now by omega)
          have := h.2.2.2
          omega
    · obtain ⟨ih1, ih2, ih3, ih4, ih5⟩ := gone_bd hf hft r b h
      exact ⟨ih1, by omega, ih3, ih4, ih5⟩
/-- The sum over the places of those that got tokens. -/
def sumOf (f t : Int) (asks : List Term) : List Int → Int
  | [] => 0
  | i :: r => (match asks[i.toNat]? with | some a => if inIv f t a then a.end_ else 0 | none => 0) + sumOf f t asks r
theorem sumOf_append (f t : Int) (asks : List Term) : ∀ (l m : List Int), sumOf f t asks (l ++ m) = sumOf f t asks l + sumOf f t asks m
  | [], m => by simp [sumOf]
  | i :: r, m => by simp only [List.cons_append, sumOf, sumOf_append f t asks r m]; omega
theorem go_sum (f t : Int) (asks : List Term) : ∀ (r : List Term) (b : Bucket) (k : Nat) (out : List Int), asks.drop k = r → (∀ i, i ∈ out → 0 ≤ i ∧ i < asks.length) →
    sumOf f t asks (b.serveGo k r out).1 = sumOf f t asks out + gone f t b r ∧ ∀ i, i ∈ (b.serveGo k r out).1 → 0 ≤ i ∧ i < asks.length
  | [], b, k, out, _, h => by simp [serveGo, gone]; exact h
  | a :: r, b, k, out, hd, h => by
    have hk : asks[k]? = some a := by
      have := congrArg (·[0]?) hd
      simpa [List.getElem?_drop] using this
    have hkl := (List.getElem?_eq_some_iff.1 hk).1
    have hd' : asks.drop (k + 1) = r := by
      have := congrArg (List.drop 1) hd
      simpa [List.drop_drop, Nat.add_comm] using this
    simp only [serveGo, gone]
    split
    · have ih := go_sum f t asks r (b.takeP a.begin a.end_).1 (k + 1) (out ++ [(k : Int)]) hd' (fun i hi => by
        rcases List.mem_append.1 hi with hi | hi
        · exact h i hi
        · simp at hi; omega)
      rw [show ((k + 1 : Nat) : Int) = (k : Int) + 1 by omega] at ih
      refine ⟨?_, ih.2⟩
      rw [ih.1, sumOf_append]
      simp only [sumOf, Int.toNat_natCast, hk]
      omega
    · have ih := go_sum f t asks r b (k + 1) out hd' h
      rw [show ((k + 1 : Nat) : Int) = (k : Int) + 1 by omega] at ih
      exact ih
theorem go_len : ∀ (r : List Term) (b : Bucket) (i : Int) (out : List Int), (b.serveGo i r out).1.length ≤ out.length + r.length := by
  intro r
  induction r with
  | nil => intro b i out; simp [serveGo]
  | cons a r ih =>
    intro b i out
    simp only [serveGo]
    split
    · have := ih (b.takeP a.begin a.end_).1 (i + 1) (out ++ [i]); simp at this ⊢; omega
    · have := ih b (i + 1) out; simp; omega
theorem serve_bound {b : Bucket} {asks : List Term} {f t : Int} (h : (b.serveP asks).2.2 = 0) (hf : 0 ≤ f) (hft : f ≤ t) (ht : t ≤ 1000000) :
    sumOf f t asks (b.serveP asks).1 ≤ b.burst + b.rate * (t - f) ∧ (b.serveP asks).2.1.checkE = 0 ∧ (∀ i, i ∈ (b.serveP asks).1 → 0 ≤ i ∧ i < asks.length) ∧ asks.length ≤ 64 ∧ b.okB ∧ (b.serveP asks).1.length ≤ 64 := by
  obtain ⟨_, _, _, _, h0, h1⟩ := serve_parts (k := 0) h (Nat.zero_le _)
  have hk := check_0.1 h0
  have e2 : b.serveP asks = ((b.serveGo 0 asks []).1, (b.serveGo 0 asks []).2, 0) := by
    unfold serveP; rw [if_pos h0, if_neg (by omega)]
  rw [e2]
  have hs := go_sum f t asks asks b 0 [] rfl (fun i hi => by simp at hi)
  have hb := gone_bd hf hft asks b hk
  rw [show ((0 : Nat) : Int) = 0 from rfl] at hs
  refine ⟨?_, check_0.2 (go_okB asks b 0 [] hk), hs.2, h1, hk, ?_⟩
  · rw [hs.1]
    simp only [sumOf]
    have hr := hk.2.1.1
    have hl := hk.2.2.2
    by_cases c1 : b.now ≤ f
    · have := hb.2.2.1 c1; omega
    · by_cases c2 : b.now ≤ t
      · have := hb.2.2.2.1 (by omega) c2
        have e := came_add b.rate f b.now t
        have p := Int.mul_nonneg hr (show 0 ≤ b.now - f by omega)
        omega
      · have := hb.2.2.2.2 (by omega)
        have p := Int.mul_nonneg hr (show 0 ≤ t - f by omega)
        have := hk.1
        omega
  · have := go_len asks b 0 []
    simp at this
    show (b.serveGo 0 asks []).1.length ≤ 64
    omega
theorem serve_len {b : Bucket} {asks : List Term} : (b.serveP asks).1.length ≤ asks.length := by
  unfold serveP
  split
  · split
    · simp
    · have := go_len asks b 0 []; simpa using this
  · simp
theorem prod_bd {r d : Int} (h1 : 0 ≤ r) (h2 : r ≤ 1000) (h3 : 0 ≤ d) (h4 : d ≤ 1000000) : 0 ≤ r * d ∧ r * d ≤ 1000000000 := by
  refine ⟨Int.mul_nonneg h1 h3, ?_⟩
  calc r * d ≤ 1000 * d := Int.mul_le_mul_of_nonneg_right h2 h3
    _ ≤ 1000 * 1000000 := by omega
    _ ≤ 1000000000 := by omega
theorem go_good (asks : List Term) : ∀ (r : List Term) (b : Bucket) (k : Nat) (out : List Int), asks.drop k = r → (∀ i, i ∈ out → 0 ≤ i ∧ i < asks.length ∧ ∀ a, asks[i.toNat]? = some a → 0 ≤ a.end_ ∧ a.end_ ≤ 100000) →
    ∀ i, i ∈ (b.serveGo k r out).1 → 0 ≤ i ∧ i < asks.length ∧ ∀ a, asks[i.toNat]? = some a → 0 ≤ a.end_ ∧ a.end_ ≤ 100000
  | [], b, k, out, _, h => by simp [serveGo]; exact h
  | a :: r, b, k, out, hd, h => by
    have hk : asks[k]? = some a := by
      have := congrArg (·[0]?) hd
      simpa [List.getElem?_drop] using this
    have hkl := (List.getElem?_eq_some_iff.1 hk).1
    have hd' : asks.drop (k + 1) = r := by
      have := congrArg (List.drop 1) hd
      simpa [List.drop_drop, Nat.add_comm] using this
    simp only [serveGo]
    split
    · rename_i ht
      have hb := take_bd ht
      have ih := go_good asks r (b.takeP a.begin a.end_).1 (k + 1) (out ++ [(k : Int)]) hd' (fun i hi => by
        rcases List.mem_append.1 hi with hi | hi
        · exact h i hi
        · simp at hi; subst hi
          refine ⟨by omega, by omega, fun x hx => ?_⟩
          rw [Int.toNat_natCast, hk] at hx
          simp only [Option.some.injEq] at hx; subst hx
          exact ⟨hb.2.2.1, hb.2.2.2⟩)
      rw [show ((k + 1 : Nat) : Int) = (k : Int) + 1 by omega] at ih
      exact ih
    · have ih := go_good asks r b (k + 1) out hd' h
      rw [show ((k + 1 : Nat) : Int) = (k : Int) + 1 by omega] at ih
      exact ih
theorem serve_good {b : Bucket} {asks : List Term} : ∀ i, i ∈ (b.serveP asks).1 → 0 ≤ i ∧ i < asks.length ∧ ∀ a, asks[i.toNat]? = some a → 0 ≤ a.end_ ∧ a.end_ ≤ 100000 := by
  unfold serveP
  split
  · split
    · simp
    · have := go_good asks asks b 0 [] rfl (fun i hi => by simp at hi)
      simpa using this
  · simp
theorem serve_no {b : Bucket} {asks : List Term} (h : ¬ (b.serveP asks).2.2 = 0) : (b.serveP asks).1 = [] ∧ (b.serveP asks).2.1 = ⟨0, 0, 0, 0⟩ := by
  unfold serveP at *
  split at h
  · split at h
    · rename_i h1 h2; rw [if_pos h1, if_pos h2]; exact ⟨rfl, rfl⟩
    · simp at h
  · rename_i h1; rw [if_neg h1]; exact ⟨rfl, rfl⟩
end Bucket
end Go.Proofs.Ytdoaefekbbgcmaa
