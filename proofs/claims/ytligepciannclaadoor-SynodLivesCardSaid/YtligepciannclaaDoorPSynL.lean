/- Plain law of synods: a bid above all others is done, where nothing is lost. No condition. -/
import Derived.Test.YtligepciannclaaDoorPSeatM
import Derived.Test.YtligepciannclaaDoorPAvOwn
set_option linter.unusedSimpArgs false
set_option linter.unusedVariables false
set_option maxHeartbeats 4000000
set_option maxRecDepth 100000
namespace Go.Proofs.YtligepciannclaaDoor
theorem nodesGo_sum : ∀ (ws : List Int) (a : Int), (nodesGo ws a).2 = 0 → (nodesGo ws a).1 = a + lsum ws
  | [], a, _ => by simp [nodesGo, lsum]
  | w :: r, a, h => by
    unfold nodesGo at h ⊢
    by_cases hw : 0 ≤ w ∧ w ≤ 100
    · rw [if_pos hw] at h ⊢; rw [nodesGo_sum r _ h]; simp only [lsum]; omega
    · rw [if_neg hw] at h; simp at h
theorem nodes_sum {ws : List Int} (h : (nodesP ws).2 = 0) : (nodesP ws).1 = lsum ws := by
  unfold nodesP at h ⊢
  by_cases h1 : ws.length = 0
  · rw [if_pos h1] at h; simp at h
  · by_cases h2 : ws.length > 12
    · rw [if_neg h1, if_pos h2] at h; simp at h
    · rw [if_neg h1, if_neg h2] at h ⊢; rw [nodesGo_sum ws 0 h]; omega
theorem qc_need {ws : List Int} {need : Int} (h : qcheckP ws need = 0) : 1 ≤ need ∧ need ≤ lsum ws ∧ lsum ws < 2 * need ∧ lsum ws ≤ 1200 := by
  have hn := qc_nodes h
  have hb := nodes_bd hn
  have hs := nodes_sum hn
  unfold qcheckP at h
  rw [if_neg (fun hh => hh hn)] at h
  by_cases h1 : need < 1 ∨ need > (nodesP ws).1
  · rw [if_pos h1] at h; simp at h
  · rw [if_neg h1] at h
    by_cases h2 : 2 * need ≤ (nodesP ws).1
    · rw [if_pos h2] at h; simp at h
    · omega
theorem inS_bit {x n : Nat} : inS x n = x.testBit n := by
  rw [Nat.testBit_eq_decide_div_mod_eq]; unfold inS; rw [Bool.eq_iff_iff]; simp
theorem or_mem {x : U64} {k n : Nat} (hk : k < 64) : inS (orU x k).n n = true ↔ inS x.n n = true ∨ n = k := by
  have hl : x.n ||| 2 ^ k < 18446744073709551616 := by
    have := Nat.or_lt_two_pow (n := 64) (by simpa using x.lt) (by simpa using pow_lt64 hk); simpa using this
  have h2 : (orU x k).n = x.n ||| 2 ^ k := Nat.mod_eq_of_lt hl
  rw [h2, inS_bit, inS_bit, Nat.testBit_or, Nat.testBit_two_pow]
  simp
  constructor <;> rintro (h | h) <;> first | exact .inl h | exact .inr h.symm
theorem fits_cases {b : Bid} {no : Int} {m : Vote} (h : fitsP b no m = true) : (b.phase = 1 ∧ m.kind = 2) ∨ (b.phase = 2 ∧ m.kind = 4 ∧ m.copy.at_ = ⟨b.time, no⟩) := by
  unfold fitsP at h
  by_cases h1 : b.phase = 1
  · rw [if_pos h1] at h; exact .inl ⟨h1, by simpa using h⟩
  · rw [if_neg h1] at h
    by_cases h2 : b.phase = 2
    · rw [if_pos h2] at h
      simp only [decide_eq_true_eq] at h
      refine .inr ⟨h2, h.1, ?_⟩
      rw [Stamp.ext_iff]; exact ⟨h.2.1, h.2.2⟩
    · rw [if_neg h2] at h; simp at h
theorem hear_full {v : Voters} {no : Int} {b : Bid} {m : Vote} (h : (hearP v no b m).2.2 = 0) : hearP v no b m = (b, [], 0) ∨
    (b.checkE v.weights v.need = 0 ∧ m.checkE = 0 ∧ m.bid = no ∧ ((b.phase = 1 ∧ m.kind = 2) ∨ (b.phase = 2 ∧ m.kind = 4 ∧ m.copy.at_ = ⟨b.time, no⟩)) ∧ ¬ m.node ≥ v.weights.length ∧
      (hearP v no b m = (heardP b m, [], 0) ∨ (v.need ≤ bsum v.weights (orU b.heard m.node.toNat).n ∧ hearP v no b m = onP v no (heardP b m)))) := by
  by_cases h0 : 0 ≤ no ∧ no ≤ 30
  · by_cases h1 : b.checkE v.weights v.need = 0
    · by_cases h2 : m.checkE = 0
      · by_cases h3 : m.bid ≠ no ∨ fitsP b no m = false ∨ m.node ≥ v.weights.length ∨ (andU b.heard m.node.toNat).n ≠ 0
        · left; unfold hearP; rw [if_neg (fun hh => hh h0), if_neg (fun hh => hh h1), if_neg (fun hh => hh h2), if_pos h3]
        · right
          have hb := bid_ok h1
          have hn := vote_node h2
          have hl : ¬ m.node ≥ v.weights.length := fun hh => h3 (.inr (.inr (.inl hh)))
          have hs : (orU b.heard m.node.toNat).n < 2 ^ v.weights.length := or_sub hb.2.2.1 (by omega) (qc_len hb.1)
          have hf : fitsP b no m = true := by
            cases hf : fitsP b no m with
            | true => rfl
            | false => exact absurd (.inr (.inl hf)) h3
          refine ⟨h1, h2, Decidable.not_not.1 fun hh => h3 (.inl hh), fits_cases hf, hl, ?_⟩
          unfold hearP
          rw [if_neg (fun hh => hh h0), if_neg (fun hh => hh h1), if_neg (fun hh => hh h2), if_neg h3]
          by_cases h4 : (enoughP v.weights v.need (heardP b m).heard.n).1 = true
          · right; rw [if_pos h4]
            have := (enough_iff hb.1 hs).1 h4
            exact ⟨by omega, rfl⟩
          · left; rw [if_neg h4]
      · exfalso; unfold hearP at h; rw [if_neg (fun hh => hh h0), if_neg (fun hh => hh h1), if_pos h2] at h; exact h2 h
    · exfalso; unfold hearP at h; rw [if_neg (fun hh => hh h0), if_pos h1] at h; exact h1 h
  · exfalso; unfold hearP at h; rw [if_pos h0] at h; simp at h
structure Synod where
  voters : Voters
  seats : List Seat
  bids : List Bid
  votes : List Vote
inductive Nxt (s t : Synod) : Prop
  | begins {time : Int} {own : ByteArray} {b : Bid} {l : List Vote} (h : beginP s.voters s.bids.length time own = (b, l, 0)) (hw : t.voters = s.voters) (hs : t.seats = s.seats) (hb : t.bids = s.bids ++ [b]) (hv : ∀ q, q ∈ t.votes → q ∈ s.votes ∨ q ∈ l) : Nxt s t
  | serves {m : Vote} {st : Seat} (hm : m ∈ s.votes) (hk : m.kind = 1 ∨ m.kind = 3) (hn : 0 ≤ m.node) (hst : s.seats[m.node.toNat]? = some st) (he : (st.serveP m).2.2 = 0) (hw : t.voters = s.voters) (hs : t.seats = s.seats.set m.node.toNat (st.serveP m).1) (hb : t.bids = s.bids) (hv : ∀ q, q ∈ t.votes → q ∈ s.votes ∨ q ∈ (st.serveP m).2.1) : Nxt s t
  | hears {m : Vote} {b : Bid} (hm : m ∈ s.votes) (h0 : 0 ≤ m.bid) (hbd : s.bids[m.bid.toNat]? = some b) (he : (hearP s.voters m.bid b m).2.2 = 0) (hw : t.voters = s.voters) (hs : t.seats = s.seats) (hb : t.bids = s.bids.set m.bid.toNat (hearP s.voters m.bid b m).1) (hv : ∀ q, q ∈ t.votes → q ∈ s.votes ∨ q ∈ (hearP s.voters m.bid b m).2.1) : Nxt s t
  | moves (hw : t.voters = s.voters) (hs : t.seats = s.seats) (hb : t.bids = s.bids) (hv : ∀ q, q ∈ t.votes → q ∈ s.votes) : Nxt s t
abbrev Hist := Nat → Stamp → ByteArray → Prop
def zst : Stamp := ⟨0, 0⟩
def Seen (seats : List Seat) (H : Hist) (n : Nat) (B c : Stamp) : Prop := (∃ st, seats[n]? = some st ∧ ¬ st.promised.lt B) ∧ ∀ B' d, H n B' d → B'.lt B → ¬ c.lt B'
def Old (H : Hist) (B : Stamp) (c : Copy) : Prop := c.at_ = zst ∨ ∃ n, H n c.at_ c.data ∧ c.at_.lt B
def Safe (v : Voters) (seats : List Seat) (H : Hist) (i : Nat) (b : Bid) : Prop :=
  ∃ (Q : Nat) (c : Copy), v.need ≤ bsum v.weights Q ∧ (∀ n, n < v.weights.length → inS Q n = true → Seen seats H n ⟨b.time, i⟩ c.at_) ∧ Old H ⟨b.time, i⟩ c ∧ b.value = (if c.at_.time = 0 ∧ c.at_.who = 0 then b.own else c.data)
structure Inv (s : Synod) (H : Hist) : Prop where
  ok : qcheckP s.voters.weights s.voters.need = 0
  len : s.seats.length = s.voters.weights.length
  time : ∀ (i : Nat) (b : Bid), s.bids[i]? = some b → 1 ≤ b.time ∧ (b.phase = 1 ∨ b.phase = 2 ∨ b.phase = 3)
  hist : ∀ n B d, H n B d → ∃ (i : Nat) (b : Bid), s.bids[i]? = some b ∧ B = ⟨b.time, i⟩ ∧ 2 ≤ b.phase ∧ d = b.value
  high : ∀ (n : Nat) (B : Stamp) (d : ByteArray) (st : Seat), H n B d → s.seats[n]? = some st → ¬ st.promised.lt B ∧ ¬ st.kept.at_.lt B
  kept : ∀ (n : Nat) (st : Seat), s.seats[n]? = some st → (st.kept.at_ = zst ∨ H n st.kept.at_ st.kept.data) ∧ ¬ st.promised.lt st.kept.at_
  v1 : ∀ m, m ∈ s.votes → m.kind = 1 → ∃ b : Bid, 0 ≤ m.bid ∧ s.bids[m.bid.toNat]? = some b ∧ m.copy.at_ = ⟨b.time, m.bid⟩
  v2 : ∀ m, m ∈ s.votes → m.kind = 2 → ∃ b : Bid, 0 ≤ m.bid ∧ s.bids[m.bid.toNat]? = some b ∧ Seen s.seats H m.node.toNat ⟨b.time, m.bid⟩ m.copy.at_ ∧ Old H ⟨b.time, m.bid⟩ m.copy
  v3 : ∀ m, m ∈ s.votes → m.kind = 3 → ∃ b : Bid, 0 ≤ m.bid ∧ s.bids[m.bid.toNat]? = some b ∧ m.copy = ⟨⟨b.time, m.bid⟩, b.value⟩ ∧ 2 ≤ b.phase
  v4 : ∀ m, m ∈ s.votes → m.kind = 4 → ∃ b : Bid, 0 ≤ m.bid ∧ s.bids[m.bid.toNat]? = some b ∧ 2 ≤ b.phase ∧ (m.copy.at_ = ⟨b.time, m.bid⟩ → H m.node.toNat ⟨b.time, m.bid⟩ b.value)
  p1 : ∀ (i : Nat) (b : Bid), s.bids[i]? = some b → b.phase = 1 → (∀ n, inS b.heard.n n = true → Seen s.seats H n ⟨b.time, i⟩ b.best.at_) ∧ Old H ⟨b.time, i⟩ b.best
  p2 : ∀ (i : Nat) (b : Bid), s.bids[i]? = some b → 2 ≤ b.phase → Safe s.voters s.seats H i b
  p3 : ∀ (i : Nat) (b : Bid), s.bids[i]? = some b → 2 ≤ b.phase → ∀ n, inS b.heard.n n = true → H n ⟨b.time, i⟩ b.value
  p4 : ∀ (i : Nat) (b : Bid), s.bids[i]? = some b → b.phase = 3 → s.voters.need ≤ bsum s.voters.weights b.heard.n
theorem lt_trans' {a b c : Stamp} (h1 : ¬ b.lt a) (h2 : ¬ c.lt b) : ¬ c.lt a := by unfold Stamp.lt at *; omega
theorem Seen.mono {seats seats' : List Seat} {H H' : Hist} {n : Nat} {B c : Stamp} (h : Seen seats H n B c) (h1 : ∀ st : Seat, seats[n]? = some st → ∃ st' : Seat, seats'[n]? = some st' ∧ ¬ st'.promised.lt st.promised)
    (h2 : ∀ B' d, H' n B' d → H n B' d ∨ ∃ st : Seat, seats[n]? = some st ∧ ¬ B'.lt st.promised) : Seen seats' H' n B c := by
  obtain ⟨⟨st, k1, k2⟩, k3⟩ := h
  obtain ⟨st', k4, k5⟩ := h1 st k1
  refine ⟨⟨st', k4, lt_trans' k2 k5⟩, fun B' d hH hl => ?_⟩
  rcases h2 B' d hH with hH | ⟨s2, k6, k7⟩
  · exact k3 B' d hH hl
  · rw [k1] at k6; obtain rfl := Option.some.inj k6
    exact absurd hl (lt_trans' k2 k7)
theorem Seen.up {seats : List Seat} {H : Hist} {n : Nat} {B c c' : Stamp} (h : Seen seats H n B c) (hc : ¬ c'.lt c) : Seen seats H n B c' :=
  ⟨h.1, fun B' d hH hl => lt_trans' (h.2 B' d hH hl) hc⟩
theorem Old.mono {H H' : Hist} {B : Stamp} {c : Copy} (h : Old H B c) (hH : ∀ n B d, H n B d → H' n B d) : Old H' B c := by
  rcases h with h | ⟨n, h1, h2⟩
  · exact .inl h
  · exact .inr ⟨n, hH _ _ _ h1, h2⟩
theorem Safe.mono {v : Voters} {seats seats' : List Seat} {H H' : Hist} {i : Nat} {b b' : Bid} (h : Safe v seats H i b) (hH : ∀ n B d, H n B d → H' n B d) (h1 : ∀ (n : Nat) (st : Seat), seats[n]? = some st → ∃ st' : Seat, seats'[n]? = some st' ∧ ¬ st'.promised.lt st.promised)
    (h2 : ∀ n B' d, H' n B' d → H n B' d ∨ ∃ st : Seat, seats[n]? = some st ∧ ¬ B'.lt st.promised) (e1 : b'.time = b.time) (e2 : b'.value = b.value) (e3 : b'.own = b.own) : Safe v seats' H' i b' := by
  obtain ⟨Q, c, k1, k2, k3, k4⟩ := h
  refine ⟨Q, c, k1, fun n hn hq => ?_, ?_, by rw [e2, e3]; exact k4⟩
  · rw [e1]; exact (k2 n hn hq).mono (h1 n) (h2 n)
  · rw [e1]; exact k3.mono hH
theorem Inv.seats {s t : Synod} {H H' : Hist} (I : Inv s H) (hw : t.voters = s.voters) (hb : t.bids = s.bids) (hlen : t.seats.length = s.seats.length) (hH : ∀ n B d, H n B d → H' n B d)
    (h1 : ∀ (n : Nat) (st : Seat), s.seats[n]? = some st → ∃ st' : Seat, t.seats[n]? = some st' ∧ ¬ st'.promised.lt st.promised) (h2 : ∀ n B' d, H' n B' d → H n B' d ∨ ∃ st : Seat, s.seats[n]? = some st ∧ ¬ B'.lt st.promised)
    (hh : ∀ n B d, H' n B d → ∃ (i : Nat) (b : Bid), s.bids[i]? = some b ∧ B = ⟨b.time, i⟩ ∧ 2 ≤ b.phase ∧ d = b.value)
    (hi : ∀ (n : Nat) (B : Stamp) (d : ByteArray) (st : Seat), H' n B d → t.seats[n]? = some st → ¬ st.promised.lt B ∧ ¬ st.kept.at_.lt B) (hk : ∀ (n : Nat) (st : Seat), t.seats[n]? = some st → (st.kept.at_ = zst ∨ H' n st.kept.at_ st.kept.data) ∧ ¬ st.promised.lt st.kept.at_)
    (hv : ∀ q, q ∈ t.votes → q ∈ s.votes ∨ (q.kind = 2 ∧ ∃ b : Bid, 0 ≤ q.bid ∧ s.bids[q.bid.toNat]? = some b ∧ Seen t.seats H' q.node.toNat ⟨b.time, q.bid⟩ q.copy.at_ ∧ Old H' ⟨b.time, q.bid⟩ q.copy) ∨
      (q.kind = 4 ∧ ∃ b : Bid, 0 ≤ q.bid ∧ s.bids[q.bid.toNat]? = some b ∧ 2 ≤ b.phase ∧ (q.copy.at_ = ⟨b.time, q.bid⟩ → H' q.node.toNat ⟨b.time, q.bid⟩ b.value))) : Inv t H' := by
  refine ⟨by rw [hw]; exact I.ok, by rw [hlen, hw]; exact I.len, by rw [hb]; exact I.time, by rw [hb]; exact hh, hi, hk, ?_, ?_, ?_, ?_, ?_, ?_, ?_, ?_⟩
  · intro m hm hkd; rw [hb]
    rcases hv m hm with h | ⟨h, _⟩ | ⟨h, _⟩
    · exact I.v1 m h hkd
    · omega
    · omega
  · intro m hm hkd; rw [hb]
    rcases hv m hm with h | ⟨_, h⟩ | ⟨h, _⟩
    · obtain ⟨b, k0, k1, k2, k3⟩ := I.v2 m h hkd
      exact ⟨b, k0, k1, k2.mono (h1 _) (h2 _), k3.mono hH⟩
    · exact h
    · omega
  · intro m hm hkd; rw [hb]
    rcases hv m hm with h | ⟨h, _⟩ | ⟨h, _⟩
    · exact I.v3 m h hkd
    · omega
    · omega
  · intro m hm hkd; rw [hb]
    rcases hv m hm with h | ⟨h, _⟩ | ⟨_, h⟩
    · obtain ⟨b, k0, k1, k2, k3⟩ := I.v4 m h hkd
      exact ⟨b, k0, k1, k2, fun e => hH _ _ _ (k3 e)⟩
    · omega
    · exact h
  · intro i b hib hp; rw [hb] at hib
    obtain ⟨k1, k2⟩ := I.p1 i b hib hp
    exact ⟨fun n hn => (k1 n hn).mono (h1 n) (h2 n), k2.mono hH⟩
  · intro i b hib hp; rw [hb] at hib; rw [hw]
    exact (I.p2 i b hib hp).mono hH h1 h2 rfl rfl rfl
  · intro i b hib hp n hn; rw [hb] at hib
    exact hH _ _ _ (I.p3 i b hib hp n hn)
  · intro i b hib hp; rw [hb] at hib; rw [hw]
    exact I.p4 i b hib hp
theorem Inv.bids {s t : Synod} {H : Hist} (I : Inv s H) (hw : t.voters = s.voters) (hs : t.seats = s.seats)
    (hup : ∀ (j : Nat) (e : Bid), s.bids[j]? = some e → ∃ e' : Bid, t.bids[j]? = some e' ∧ e'.time = e.time ∧ (2 ≤ e.phase → 2 ≤ e'.phase ∧ e'.value = e.value))
    (hnew : ∀ (j : Nat) (e' : Bid), t.bids[j]? = some e' → s.bids[j]? = some e' ∨
      ((1 ≤ e'.time ∧ (e'.phase = 1 ∨ e'.phase = 2 ∨ e'.phase = 3)) ∧ (e'.phase = 1 → (∀ n, inS e'.heard.n n = true → Seen s.seats H n ⟨e'.time, j⟩ e'.best.at_) ∧ Old H ⟨e'.time, j⟩ e'.best) ∧ (2 ≤ e'.phase → Safe s.voters s.seats H j e' ∧ ∀ n, inS e'.heard.n n = true → H n ⟨e'.time, j⟩ e'.value) ∧ (e'.phase = 3 → s.voters.need ≤ bsum s.voters.weights e'.heard.n)))
    (hv : ∀ q, q ∈ t.votes → q ∈ s.votes ∨ (q.kind = 1 ∧ ∃ b : Bid, 0 ≤ q.bid ∧ t.bids[q.bid.toNat]? = some b ∧ q.copy.at_ = ⟨b.time, q.bid⟩) ∨
      (q.kind = 3 ∧ ∃ b : Bid, 0 ≤ q.bid ∧ t.bids[q.bid.toNat]? = some b ∧ q.copy = ⟨⟨b.time, q.bid⟩, b.value⟩ ∧ 2 ≤ b.phase)) : Inv t H := by
  refine ⟨by rw [hw]; exact I.ok, by rw [hs, hw]; exact I.len, ?_, ?_, by rw [hs]; exact I.high, by rw [hs]; exact I.kept, ?_, ?_, ?_, ?_, ?_, ?_, ?_, ?_⟩
  · intro i b hb
    rcases hnew i b hb with h | ⟨h, _⟩
    · exact I.time i b h
    · exact h
  · intro n B d hH
    obtain ⟨i, b, k1, k2, k3, k4⟩ := I.hist n B d hH
    obtain ⟨b', e1, e2, e3⟩ := hup i b k1
    exact ⟨i, b', e1, by rw [e2]; exact k2, (e3 k3).1, by rw [(e3 k3).2]; exact k4⟩
  · intro m hm hkd
    rcases hv m hm with h | ⟨_, h⟩ | ⟨h, _⟩
    · obtain ⟨b, k0, k1, k2⟩ := I.v1 m h hkd
      obtain ⟨b', e1, e2, e3⟩ := hup _ b k1
      exact ⟨b', k0, e1, by rw [e2]; exact k2⟩
    · exact h
    · omega
  · intro m hm hkd
    rcases hv m hm with h | ⟨h, _⟩ | ⟨h, _⟩
    · obtain ⟨b, k0, k1, k2, k3⟩ := I.v2 m h hkd
      obtain ⟨b', e1, e2, e3⟩ := hup _ b k1
      exact ⟨b', k0, e1, by rw [e2, hs]; exact k2, by rw [e2]; exact k3⟩
    · omega
    · omega
  · intro m hm hkd
    rcases hv m hm with h | ⟨h, _⟩ | ⟨_, h⟩
    · obtain ⟨b, k0, k1, k2, k3⟩ := I.v3 m h hkd
      obtain ⟨b', e1, e2, e3⟩ := hup _ b k1
      exact ⟨b', k0, e1, by rw [e2, (e3 k3).2]; exact k2, (e3 k3).1⟩
    · omega
    · exact h
  · intro m hm hkd
    rcases hv m hm with h | ⟨h, _⟩ | ⟨h, _⟩
    · obtain ⟨b, k0, k1, k2, k3⟩ := I.v4 m h hkd
      obtain ⟨b', e1, e2, e3⟩ := hup _ b k1
      exact ⟨b', k0, e1, (e3 k2).1, by rw [e2, (e3 k2).2]; exact k3⟩
    · omega
    · omega
  · intro i b hb hp; rw [hs]
    rcases hnew i b hb with h | ⟨_, h, _⟩
    · exact I.p1 i b h hp
    · exact h hp
  · intro i b hb hp; rw [hs, hw]
    rcases hnew i b hb with h | ⟨_, _, h, _⟩
    · exact I.p2 i b h hp
    · exact (h hp).1
  · intro i b hb hp
    rcases hnew i b hb with h | ⟨_, _, h, _⟩
    · exact I.p3 i b h hp
    · exact (h hp).2
  · intro i b hb hp; rw [hw]
    rcases hnew i b hb with h | ⟨_, _, _, h⟩
    · exact I.p4 i b h hp
    · exact h hp
theorem self_lt {a : Stamp} : ¬ a.lt a := by unfold Stamp.lt; omega
theorem get_set {α : Type} {l : List α} {i j : Nat} {x y : α} (h : (l.set i x)[j]? = some y) : (j = i ∧ y = x) ∨ (j ≠ i ∧ l[j]? = some y) := by
  rw [List.getElem?_set] at h
  by_cases hj : i = j
  · rw [if_pos hj] at h
    split at h
    · exact .inl ⟨hj.symm, (Option.some.inj h).symm⟩
    · simp at h
  · rw [if_neg hj] at h; exact .inr ⟨fun hh => hj hh.symm, h⟩
theorem set_get {α : Type} {l : List α} {i : Nat} {x y : α} (h : l[i]? = some y) : (l.set i x)[i]? = some x := by
  have := (List.getElem?_eq_some_iff.1 h).1
  simp [this]
theorem set_ne {α : Type} {l : List α} {i j : Nat} {x : α} (h : j ≠ i) : (l.set i x)[j]? = l[j]? := by
  rw [List.getElem?_set, if_neg (fun hh => h hh.symm)]
theorem begin_ok {v : Voters} {no time : Int} {own : ByteArray} {b : Bid} {l : List Vote} (h : beginP v no time own = (b, l, 0)) : 0 ≤ no ∧ b = Bid.new time own ∧ b.checkE v.weights v.need = 0 ∧ l = toAllP v.weights.length ⟨1, no, 0, ⟨⟨time, no⟩, ⟨#[]⟩⟩⟩ := by
  unfold beginP at h
  by_cases h1 : 0 ≤ no ∧ no ≤ 30
  · rw [if_neg (fun hh => hh h1)] at h
    by_cases h2 : (Bid.new time own).checkE v.weights v.need = 0
    · rw [if_neg (fun hh => hh h2)] at h
      simp only [Prod.mk.injEq] at h
      obtain ⟨rfl, rfl, _⟩ := h
      exact ⟨h1.1, rfl, h2, rfl⟩
    · rw [if_pos h2] at h
      simp only [Prod.mk.injEq] at h
      exact absurd h.2.2 h2
  · rw [if_pos h1] at h; simp at h
theorem toAll_mem {n : Nat} {m q : Vote} (h : q ∈ toAllP n m) : q.kind = m.kind ∧ q.bid = m.bid ∧ q.copy = m.copy := by
  simp only [toAllP, List.mem_map] at h
  obtain ⟨i, _, rfl⟩ := h
  exact ⟨rfl, rfl, rfl⟩
theorem Inv.step {s t : Synod} {H : Hist} (I : Inv s H) (h : Nxt s t) : ∃ H' : Hist, Inv t H' ∧ ∀ n B d, H n B d → H' n B d := by
  cases h with
  | moves hw hs hb hv =>
    refine ⟨H, I.seats hw hb (by rw [hs]) (fun _ _ _ h => h) (fun n st h => ⟨st, by rw [hs]; exact h, self_lt⟩) (fun _ _ _ h => .inl h) I.hist (by rw [hs]; exact I.high) (by rw [hs]; exact I.kept) fun q hq => .inl (hv q hq), fun _ _ _ h => h⟩
  | @begins time own b l h hw hs hb hv =>
    obtain ⟨h0, h1, h2, h3⟩ := begin_ok h
    have hc := bid_ok h2
    refine ⟨H, I.bids hw hs (fun j e he => ?_) (fun j e he => ?_) fun q hq => ?_, fun _ _ _ h => h⟩
    · refine ⟨e, ?_, rfl, fun hp => ⟨hp, rfl⟩⟩
      rw [hb, List.getElem?_append_left (List.getElem?_eq_some_iff.1 he).1]; exact he
    · rw [hb] at he
      by_cases hj : j < s.bids.length
      · rw [List.getElem?_append_left hj] at he; exact .inl he
      · rw [List.getElem?_append_right (by omega)] at he
        have hj2 : j - s.bids.length = 0 := by
          have := (List.getElem?_eq_some_iff.1 he).1; simp at this; omega
        rw [hj2] at he
        simp only [List.getElem?_cons_zero, Option.some.injEq] at he
        subst he
        refine .inr ⟨⟨hc.2.2.2.1.1, by omega⟩, fun _ => ⟨fun n hn => ?_, .inl ?_⟩, fun hp => ?_, fun hp => ?_⟩
        · rw [h1] at hn; simp [Bid.new, inS] at hn
        · rw [h1]; rfl
        · rw [h1] at hp; simp [Bid.new] at hp
        · rw [h1] at hp; simp [Bid.new] at hp
    · rcases hv q hq with h | h
      · exact .inl h
      · rw [h3] at h
        obtain ⟨k1, k2, k3⟩ := toAll_mem h
        refine .inr (.inl ⟨k1, b, by rw [k2]; exact h0, ?_, ?_⟩)
        · rw [hb, k2, List.getElem?_append_right (by simp)]; simp
        · rw [k3, k2, h1]; rfl
  | @serves m st hm hk hn hst he hw hs hb hv =>
    rcases serve_cases st m with ⟨c1, e⟩ | ⟨c1, c2, e⟩ | ⟨c1, c2, ⟨d1, d2, e⟩ | ⟨d1, d2, e⟩ | ⟨d1, d2, e⟩⟩
    · rw [e] at he; exact absurd he c1
    · rw [e] at he; exact absurd he c2
    · -- a promise
      rw [e] at hs hv
      obtain ⟨b, b0, b1, b2⟩ := I.v1 m hm d1
      have hkp := I.kept _ _ hst
      have up : ∀ (n : Nat) (s0 : Seat), s.seats[n]? = some s0 → ∃ st' : Seat, t.seats[n]? = some st' ∧ ¬ st'.promised.lt s0.promised := fun n s0 h => by
        rw [hs]
        by_cases hnn : n = m.node.toNat
        · subst hnn
          rw [hst] at h; obtain rfl := Option.some.inj h
          refine ⟨_, set_get hst, ?_⟩
          dsimp only; unfold Stamp.lt at *; omega
        · exact ⟨s0, by rw [set_ne hnn]; exact h, self_lt⟩
      refine ⟨H, I.seats hw hb (by rw [hs]; simp) (fun _ _ _ h => h) up (fun _ _ _ h => .inl h) I.hist (fun n B d s1 hH h => ?_) (fun n s1 h => ?_) fun q hq => ?_, fun _ _ _ h => h⟩
      · rw [hs] at h
        rcases get_set h with ⟨rfl, rfl⟩ | ⟨_, h⟩
        · have := I.high _ _ _ _ hH hst
          refine ⟨?_, this.2⟩
          have := this.1
          dsimp only; unfold Stamp.lt at *; omega
        · exact I.high n B d s1 hH h
      · rw [hs] at h
        rcases get_set h with ⟨rfl, rfl⟩ | ⟨_, h⟩
        · refine ⟨hkp.1, ?_⟩
          have := hkp.2
          dsimp only; unfold Stamp.lt at *; omega
        · exact I.kept n s1 h
      · rcases hv q hq with h | h
        · exact .inl h
        · simp only [List.mem_singleton] at h
          subst h
          refine .inr (.inl ⟨rfl, b, b0, b1, ⟨⟨_, by rw [hs]; exact set_get hst, ?_⟩, fun B' d hH hl => (I.high _ _ _ _ hH hst).2⟩, ?_⟩)
          · dsimp only; rw [b2]; exact self_lt
          · rcases hkp.1 with h | h
            · exact .inl h
            · refine .inr ⟨_, h, ?_⟩
              have := hkp.2
              dsimp only at *
              rw [← b2]; unfold Stamp.lt at *; omega
    · -- it is kept
      rw [e] at hs hv
      obtain ⟨b, b0, b1, b2, b3⟩ := I.v3 m hm d1
      have hat : m.copy.at_ = ⟨b.time, m.bid⟩ := by rw [b2]
      have hda : m.copy.data = b.value := by rw [b2]
      have hkp := I.kept _ _ hst
      have hbi : ((m.bid.toNat : Nat) : Int) = m.bid := by omega
      have up : ∀ (n : Nat) (s0 : Seat), s.seats[n]? = some s0 → ∃ st' : Seat, t.seats[n]? = some st' ∧ ¬ st'.promised.lt s0.promised := fun n s0 h => by
        rw [hs]
        by_cases hnn : n = m.node.toNat
        · subst hnn
          rw [hst] at h; obtain rfl := Option.some.inj h
          exact ⟨_, set_get hst, d2⟩
        · exact ⟨s0, by rw [set_ne hnn]; exact h, self_lt⟩
      refine ⟨fun n B d => H n B d ∨ (n = m.node.toNat ∧ B = m.copy.at_ ∧ d = m.copy.data), I.seats hw hb (by rw [hs]; simp) (fun _ _ _ h => .inl h) up (fun n B' d h => ?_) (fun n B d h => ?_) (fun n B d s1 hH h => ?_) (fun n s1 h => ?_) (fun q hq => ?_), fun _ _ _ h => .inl h⟩
      · rcases h with h | ⟨rfl, rfl, rfl⟩
        · exact .inl h
        · exact .inr ⟨st, hst, d2⟩
      · rcases h with h | ⟨rfl, rfl, rfl⟩
        · exact I.hist n B d h
        · exact ⟨_, b, b1, by rw [hat, hbi], b3, hda⟩
      · rw [hs] at h
        rcases get_set h with ⟨rfl, rfl⟩ | ⟨hne, h⟩
        · rcases hH with hH | ⟨_, rfl, _⟩
          · have := I.high _ _ _ _ hH hst
            have := this.1
            dsimp only
            constructor <;> (unfold Stamp.lt at *; omega)
          · exact ⟨self_lt, self_lt⟩
        · rcases hH with hH | ⟨hh, _⟩
          · exact I.high n B d s1 hH h
          · exact absurd hh hne
      · rw [hs] at h
        rcases get_set h with ⟨rfl, rfl⟩ | ⟨_, h⟩
        · exact ⟨.inr (.inr ⟨rfl, rfl, rfl⟩), self_lt⟩
        · refine ⟨?_, (I.kept n s1 h).2⟩
          rcases (I.kept n s1 h).1 with h | h
          · exact .inl h
          · exact .inr (.inl h)
      · rcases hv q hq with h | h
        · exact .inl h
        · simp only [List.mem_singleton] at h
          subst h
          exact .inr (.inr ⟨rfl, b, b0, b1, b3, fun _ => .inr ⟨rfl, by rw [hat], hda.symm⟩⟩)
    · -- nothing
      rw [e] at hs hv
      have hs2 : t.seats = s.seats := by
        rw [hs]
        apply List.ext_getElem?
        intro j
        by_cases hj : j = m.node.toNat
        · subst hj; rw [set_get hst, hst]
        · rw [set_ne hj]
      refine ⟨H, I.seats hw hb (by rw [hs2]) (fun _ _ _ h => h) (fun n st h => ⟨st, by rw [hs2]; exact h, self_lt⟩) (fun _ _ _ h => .inl h) I.hist (by rw [hs2]; exact I.high) (by rw [hs2]; exact I.kept) fun q hq => ?_, fun _ _ _ h => h⟩
      rcases hv q hq with h | h
      · exact .inl h
      · simp at h
  | @hears m b hm h0 hbd he hw hs hb hv =>
    have hbi : ((m.bid.toNat : Nat) : Int) = m.bid := by omega
    rcases hear_full he with e | ⟨c1, c2, c3, c4, c5, c6⟩
    · rw [e] at hb hv
      have hb2 : t.bids = s.bids := by
        rw [hb]
        apply List.ext_getElem?
        intro j
        by_cases hj : j = m.bid.toNat
        · subst hj; rw [set_get hbd, hbd]
        · rw [set_ne hj]
      refine ⟨H, I.seats hw hb2 (by rw [hs]) (fun _ _ _ h => h) (fun n st h => ⟨st, by rw [hs]; exact h, self_lt⟩) (fun _ _ _ h => .inl h) I.hist (by rw [hs]; exact I.high) (by rw [hs]; exact I.kept) fun q hq => ?_, fun _ _ _ h => h⟩
      rcases hv q hq with h | h
      · exact .inl h
      · simp at h
    · have hnode := vote_node c2
      have ht := I.time _ _ hbd
      rcases c4 with ⟨p1, k1⟩ | ⟨p1, k1, k2⟩
      · -- a promise is heard
        obtain ⟨b', z0, z1, z2, z3⟩ := I.v2 m hm k1
        rw [hbd] at z1; obtain rfl := Option.some.inj z1
        obtain ⟨y1, y2⟩ := I.p1 _ _ hbd p1
        rw [hbi] at y1 y2
        have hbest : (heardP b m).best = b.best.raw m.copy := if_pos p1
        have hraw : ¬ (b.best.raw m.copy).at_.lt b.best.at_ ∧ ¬ (b.best.raw m.copy).at_.lt m.copy.at_ ∧ Old H ⟨b.time, m.bid⟩ (b.best.raw m.copy) := by
          unfold Copy.raw
          by_cases hl : b.best.at_.lt m.copy.at_
          · rw [if_pos hl]; exact ⟨by unfold Stamp.lt at *; omega, self_lt, z3⟩
          · rw [if_neg hl]; exact ⟨self_lt, hl, y2⟩
        have hseen : ∀ n, inS (orU b.heard m.node.toNat).n n = true → Seen s.seats H n ⟨b.time, m.bid⟩ (b.best.raw m.copy).at_ := fun n hn => by
          rcases (or_mem (by omega)).1 hn with h | rfl
          · exact (y1 n h).up hraw.1
          · exact z2.up hraw.2.1
        rcases c6 with e | ⟨q, e⟩
        · rw [e] at hb hv
          refine ⟨H, I.bids hw hs (fun j e1 he1 => ?_) (fun j e1 he1 => ?_) fun q hq => ?_, fun _ _ _ h => h⟩
          · rw [hb]
            by_cases hj : j = m.bid.toNat
            · subst hj; rw [hbd] at he1; obtain rfl := Option.some.inj he1
              exact ⟨_, set_get hbd, rfl, fun hp => by omega⟩
            · exact ⟨e1, by rw [set_ne hj]; exact he1, rfl, fun hp => ⟨hp, rfl⟩⟩
          · rw [hb] at he1
            rcases get_set he1 with ⟨rfl, rfl⟩ | ⟨_, h⟩
            · refine .inr ⟨⟨ht.1, .inl p1⟩, fun _ => ?_, fun hp => ?_, fun hp => ?_⟩
              · rw [hbi]
                show (∀ n, inS (orU b.heard m.node.toNat).n n = true → Seen s.seats H n ⟨b.time, m.bid⟩ (heardP b m).best.at_) ∧ Old H ⟨b.time, m.bid⟩ (heardP b m).best
                rw [hbest]; exact ⟨hseen, hraw.2.2⟩
              · have h9 : 2 ≤ (heardP b m).phase := hp
                have : (heardP b m).phase = 1 := p1
                omega
              · have h9 : (heardP b m).phase = 3 := hp
                have : (heardP b m).phase = 1 := p1
                omega
            · exact .inl h
          · rcases hv q hq with h | h
            · exact .inl h
            · simp at h
        · have hon : onP s.voters m.bid (heardP b m) = ({ heardP b m with value := if (heardP b m).best.at_.time = 0 ∧ (heardP b m).best.at_.who = 0 then b.own else (heardP b m).best.data, phase := 2, heard := ⟨0, by decide⟩ }, toAllP s.voters.weights.length ⟨3, m.bid, 0, ⟨⟨b.time, m.bid⟩, if (heardP b m).best.at_.time = 0 ∧ (heardP b m).best.at_.who = 0 then b.own else (heardP b m).best.data⟩⟩, 0) := by
            unfold onP
            rw [if_neg (show ¬ (heardP b m).phase = 2 by have : (heardP b m).phase = 1 := p1; omega)]; rfl
          rw [e, hon] at hb hv
          refine ⟨H, I.bids hw hs (fun j e1 he1 => ?_) (fun j e1 he1 => ?_) fun q hq => ?_, fun _ _ _ h => h⟩
          · rw [hb]
            by_cases hj : j = m.bid.toNat
            · subst hj; rw [hbd] at he1; obtain rfl := Option.some.inj he1
              exact ⟨_, set_get hbd, rfl, fun hp => by omega⟩
            · exact ⟨e1, by rw [set_ne hj]; exact he1, rfl, fun hp => ⟨hp, rfl⟩⟩
          · rw [hb] at he1
            rcases get_set he1 with ⟨rfl, rfl⟩ | ⟨_, h⟩
            · refine .inr ⟨⟨ht.1, .inr (.inl rfl)⟩, fun hp => ?_, fun _ => ⟨?_, fun n hn => ?_⟩, fun hp => ?_⟩
              · dsimp only at hp; omega
              · refine ⟨_, (heardP b m).best, q, fun n _ hn => ?_, ?_, rfl⟩
                · rw [hbi, hbest]; exact hseen n hn
                · rw [hbi, hbest]; exact hraw.2.2
              · simp [inS] at hn
              · dsimp only at hp; omega
            · exact .inl h
          · rcases hv q hq with h | h
            · exact .inl h
            · obtain ⟨f1, f2, f3⟩ := toAll_mem h
              refine .inr (.inr ⟨f1, _, by rw [f2]; exact h0, by rw [hb, f2]; exact set_get hbd, ?_, ?_⟩)
              · rw [f3, f2]; rfl
              · simp
      · -- it hears that it is kept
        obtain ⟨b', z0, z1, z2, z3⟩ := I.v4 m hm k1
        rw [hbd] at z1; obtain rfl := Option.some.inj z1
        have hH := z3 (by rw [k2])
        have hp2 := I.p2 _ _ hbd z2
        have hp3 := I.p3 _ _ hbd z2
        rw [hbi] at hp3
        have hkeep : ∀ n, inS (orU b.heard m.node.toNat).n n = true → H n ⟨b.time, m.bid⟩ b.value := fun n hn => by
          rcases (or_mem (by omega)).1 hn with h | rfl
          · exact hp3 n h
          · exact hH
        rcases c6 with e | ⟨q, e⟩
        · rw [e] at hb hv
          refine ⟨H, I.bids hw hs (fun j e1 he1 => ?_) (fun j e1 he1 => ?_) fun q hq => ?_, fun _ _ _ h => h⟩
          · rw [hb]
            by_cases hj : j = m.bid.toNat
            · subst hj; rw [hbd] at he1; obtain rfl := Option.some.inj he1
              exact ⟨_, set_get hbd, rfl, fun hp => ⟨hp, rfl⟩⟩
            · exact ⟨e1, by rw [set_ne hj]; exact he1, rfl, fun hp => ⟨hp, rfl⟩⟩
          · rw [hb] at he1
            rcases get_set he1 with ⟨rfl, rfl⟩ | ⟨_, h⟩
            · refine .inr ⟨⟨ht.1, .inr (.inl p1)⟩, fun hp => ?_, fun _ => ⟨hp2.mono (fun _ _ _ h => h) (fun n st h => ⟨st, h, self_lt⟩) (fun _ _ _ h => .inl h) rfl rfl rfl, fun n hn => ?_⟩, fun hp => ?_⟩
              · have h9 : (heardP b m).phase = 1 := hp
                have : (heardP b m).phase = 2 := p1
                omega
              · rw [hbi]; exact hkeep n hn
              · have h9 : (heardP b m).phase = 3 := hp
                have : (heardP b m).phase = 2 := p1
                omega
            · exact .inl h
          · rcases hv q hq with h | h
            · exact .inl h
            · simp at h
        · have hon : onP s.voters m.bid (heardP b m) = ({ heardP b m with phase := 3 }, [], 0) := by
            unfold onP
            rw [if_pos (show (heardP b m).phase = 2 from p1)]
          rw [e, hon] at hb hv
          refine ⟨H, I.bids hw hs (fun j e1 he1 => ?_) (fun j e1 he1 => ?_) fun q hq => ?_, fun _ _ _ h => h⟩
          · rw [hb]
            by_cases hj : j = m.bid.toNat
            · subst hj; rw [hbd] at he1; obtain rfl := Option.some.inj he1
              exact ⟨_, set_get hbd, rfl, fun hp => ⟨by simp, rfl⟩⟩
            · exact ⟨e1, by rw [set_ne hj]; exact he1, rfl, fun hp => ⟨hp, rfl⟩⟩
          · rw [hb] at he1
            rcases get_set he1 with ⟨rfl, rfl⟩ | ⟨_, h⟩
            · refine .inr ⟨⟨ht.1, .inr (.inr rfl)⟩, fun hp => ?_, fun _ => ⟨hp2.mono (fun _ _ _ h => h) (fun n st h => ⟨st, h, self_lt⟩) (fun _ _ _ h => .inl h) rfl rfl rfl, fun n hn => ?_⟩, fun _ => q⟩
              · dsimp only at hp; omega
              · rw [hbi]; exact hkeep n hn
            · exact .inl h
          · rcases hv q hq with h | h
            · exact .inl h
            · simp at h
def Synod.new (v : Voters) : Synod := ⟨v, List.replicate v.weights.length Seat.zero, [], []⟩
theorem Inv.start {v : Voters} (h : qcheckP v.weights v.need = 0) : Inv (Synod.new v) (fun _ _ _ => False) := by
  refine ⟨h, by simp [Synod.new], ?_, fun _ _ _ h => h.elim, fun _ _ _ _ h => h.elim, fun n st hst => ?_, ?_, ?_, ?_, ?_, ?_, ?_, ?_, ?_⟩
  · intro i b hb; simp [Synod.new] at hb
  · simp only [Synod.new, List.getElem?_replicate] at hst
    split at hst
    · obtain rfl := Option.some.inj hst
      exact ⟨.inl rfl, self_lt⟩
    · simp at hst
  all_goals first
    | (intro m hm; simp [Synod.new] at hm; done)
    | (intro i b hb; simp [Synod.new] at hb; done)
inductive Runs : Synod → Synod → Prop
  | nil (s : Synod) : Runs s s
  | step {s t u : Synod} (h : Nxt s t) (r : Runs t u) : Runs s u
theorem Runs.inv {s t : Synod} (h : Runs s t) : ∀ {H : Hist}, Inv s H → ∃ H' : Hist, Inv t H' ∧ ∀ n B d, H n B d → H' n B d := by
  induction h with
  | nil => intro H I; exact ⟨H, I, fun _ _ _ h => h⟩
  | step h _ ih =>
    intro H I
    obtain ⟨H1, I1, k1⟩ := I.step h
    obtain ⟨H2, I2, k2⟩ := ih I1
    exact ⟨H2, I2, fun n B d hh => k2 _ _ _ (k1 _ _ _ hh)⟩
def firstE {α : Type} (f : α → Int) : List α → Int
  | [] => 0
  | x :: r => if f x ≠ 0 then f x else firstE f r
theorem firstE_0 {α : Type} {f : α → Int} : ∀ {l : List α}, firstE f l = 0 ↔ ∀ x, x ∈ l → f x = 0
  | [] => by simp [firstE]
  | x :: r => by
    unfold firstE
    by_cases h : f x = 0
    · rw [if_neg (fun hh => hh h), firstE_0 (l := r)]; simp [h]
    · rw [if_pos h]; simp [h]
def Synod.voteE (s : Synod) (v : Vote) : Int := if v.checkE ≠ 0 then v.checkE else if v.node ≥ s.seats.length ∨ v.bid ≥ s.bids.length then 3 else 0
def Synod.checkE (s : Synod) : Int :=
  if qcheckP s.voters.weights s.voters.need ≠ 0 then qcheckP s.voters.weights s.voters.need else if s.seats.length ≠ s.voters.weights.length then 1
  else if firstE Seat.checkE s.seats ≠ 0 then firstE Seat.checkE s.seats else if s.bids.length > 31 then 2
  else if firstE (fun b => Bid.checkE b s.voters.weights s.voters.need) s.bids ≠ 0 then firstE (fun b => Bid.checkE b s.voters.weights s.voters.need) s.bids
  else if s.votes.length > 200 then 2 else firstE s.voteE s.votes
structure Synod.Ok (s : Synod) : Prop where
  q : qcheckP s.voters.weights s.voters.need = 0
  len : s.seats.length = s.voters.weights.length
  seats : ∀ x, x ∈ s.seats → x.checkE = 0
  few : s.bids.length ≤ 31
  bids : ∀ b, b ∈ s.bids → b.checkE s.voters.weights s.voters.need = 0
  many : s.votes.length ≤ 200
  votes : ∀ v, v ∈ s.votes → v.checkE = 0 ∧ v.node < s.seats.length ∧ v.bid < s.bids.length
theorem Synod.ok_iff {s : Synod} : s.checkE = 0 ↔ s.Ok := by
  unfold Synod.checkE
  constructor
  · intro h
    by_cases h1 : qcheckP s.voters.weights s.voters.need = 0
    · rw [if_neg (fun hh => hh h1)] at h
      by_cases h2 : s.seats.length = s.voters.weights.length
      · rw [if_neg (fun hh => hh h2)] at h
        by_cases h3 : firstE Seat.checkE s.seats = 0
        · rw [if_neg (fun hh => hh h3)] at h
          by_cases h4 : s.bids.length > 31
          · rw [if_pos h4] at h; simp at h
          · rw [if_neg h4] at h
            by_cases h5 : firstE (fun b => Bid.checkE b s.voters.weights s.voters.need) s.bids = 0
            · rw [if_neg (fun hh => hh h5)] at h
              by_cases h6 : s.votes.length > 200
              · rw [if_pos h6] at h; simp at h
              · rw [if_neg h6] at h
                refine ⟨h1, h2, firstE_0.1 h3, by omega, firstE_0.1 h5, by omega, fun v hv => ?_⟩
                have := firstE_0.1 h v hv
                unfold Synod.voteE at this
                by_cases h7 : v.checkE = 0
                · rw [if_neg (fun hh => hh h7)] at this
                  by_cases h8 : v.node ≥ s.seats.length ∨ v.bid ≥ s.bids.length
                  · rw [if_pos h8] at this; simp at this
                  · exact ⟨h7, by omega, by omega⟩
                · rw [if_pos h7] at this; exact absurd this h7
            · rw [if_pos h5] at h; exact absurd h h5
        · rw [if_pos h3] at h; exact absurd h h3
      · rw [if_pos h2] at h; simp at h
    · rw [if_pos h1] at h; exact absurd h h1
  · rintro ⟨h1, h2, h3, h4, h5, h6, h7⟩
    rw [if_neg (fun hh => hh h1), if_neg (fun hh => hh h2), if_neg (fun hh => hh (firstE_0.2 h3)), if_neg (by omega), if_neg (fun hh => hh (firstE_0.2 h5)), if_neg (by omega)]
    refine firstE_0.2 fun v hv => ?_
    obtain ⟨k1, k2, k3⟩ := h7 v hv
    unfold Synod.voteE
    rw [if_neg (fun hh => hh k1), if_neg (by omega)]
def Synod.zero : Synod := ⟨⟨[], 0⟩, [], [], []⟩
def Synod.manyP (s : Synod) : Synod × Int := if s.votes.length > 200 then (Synod.zero, 2) else (s, 0)
def Synod.passP (s : Synod) (v : Vote) : Synod :=
  if v.kind = 1 ∨ v.kind = 3 then match s.seats[v.node.toNat]? with
    | some st => { s with seats := s.seats.set v.node.toNat (st.serveP v).1, votes := s.votes ++ (st.serveP v).2.1 }
    | none => s
  else match s.bids[v.bid.toNat]? with
    | some b => { s with bids := s.bids.set v.bid.toNat (hearP s.voters v.bid b v).1, votes := s.votes ++ (hearP s.voters v.bid b v).2.1 }
    | none => s
def Synod.bidP (s : Synod) (time : Int) (own : ByteArray) : Synod × Int :=
  if s.bids.length = 31 then (Synod.zero, 2) else if (beginP s.voters s.bids.length time own).2.2 ≠ 0 then (Synod.zero, (beginP s.voters s.bids.length time own).2.2)
  else Synod.manyP { s with bids := s.bids ++ [(beginP s.voters s.bids.length time own).1], votes := s.votes ++ (beginP s.voters s.bids.length time own).2.1 }
def Synod.away (s : Synod) (n : Nat) : Synod := { s with votes := s.votes.eraseIdx n }
def Synod.stepP (s : Synod) (k n : Int) (d : ByteArray) : Synod × Int :=
  if ¬ (3 ≤ k ∧ k ≤ 6) then (Synod.zero, 7) else if k ≠ 6 ∧ d.size ≠ 0 then (Synod.zero, 1) else if k = 6 then s.bidP n d
  else if ¬ (0 ≤ n ∧ n < s.votes.length) then (Synod.zero, 3)
  else match s.votes[n.toNat]? with
    | some v => if k = 3 then ((s.away n.toNat).passP v).manyP else if k = 4 then (s.away n.toNat).manyP else ({ s with votes := s.votes ++ [v] } : Synod).manyP
    | none => (Synod.zero, 3)
theorem many_ok {s : Synod} (h : s.manyP.2 = 0) : s.manyP = (s, 0) ∧ s.votes.length ≤ 200 := by
  unfold Synod.manyP at h ⊢
  by_cases h1 : s.votes.length > 200
  · rw [if_pos h1] at h; simp at h
  · rw [if_neg h1]; exact ⟨rfl, by omega⟩
theorem serve_noerr {s : Seat} {v : Vote} (h1 : s.checkE = 0) (h2 : v.checkE = 0) : (s.serveP v).2.2 = 0 := by
  rcases serve_cases s v with ⟨c, _⟩ | ⟨_, c, _⟩ | ⟨_, _, ⟨_, _, e⟩ | ⟨_, _, e⟩ | ⟨_, _, e⟩⟩
  · exact absurd h1 c
  · exact absurd h2 c
  all_goals rw [e]
theorem hear_noerr {v : Voters} {no : Int} {b : Bid} {m : Vote} (h0 : 0 ≤ no ∧ no ≤ 30) (h1 : b.checkE v.weights v.need = 0) (h2 : m.checkE = 0) : (hearP v no b m).2.2 = 0 := by
  unfold hearP
  rw [if_neg (fun hh => hh h0), if_neg (fun hh => hh h1), if_neg (fun hh => hh h2)]
  split
  · rfl
  · split
    · unfold onP; split <;> rfl
    · rfl
theorem vote_rng {v : Vote} (h : v.checkE = 0) : (1 ≤ v.kind ∧ v.kind ≤ 4) ∧ (0 ≤ v.bid ∧ v.bid ≤ 30) ∧ (0 ≤ v.node ∧ v.node ≤ 11) := by
  unfold Vote.checkE at h
  by_cases h1 : 1 ≤ v.kind ∧ v.kind ≤ 4
  · rw [if_neg (fun hh => hh h1)] at h
    by_cases h2 : 0 ≤ v.bid ∧ v.bid ≤ 30 ∧ 0 ≤ v.node ∧ v.node ≤ 11
    · exact ⟨h1, ⟨h2.1, h2.2.1⟩, h2.2.2⟩
    · rw [if_pos h2] at h; simp at h
  · rw [if_pos h1] at h; simp at h
theorem erase_mem {α : Type} {l : List α} {i : Nat} {x : α} (h : x ∈ l.eraseIdx i) : x ∈ l := (List.eraseIdx_sublist l i).subset h
theorem step_nxt {s : Synod} (ok : s.Ok) {k n : Int} {d : ByteArray} (h : (s.stepP k n d).2 = 0) : Nxt s (s.stepP k n d).1 := by
  unfold Synod.stepP at h ⊢
  by_cases h1 : 3 ≤ k ∧ k ≤ 6
  · rw [if_neg (fun hh => hh h1)] at h ⊢
    by_cases h2 : k ≠ 6 ∧ d.size ≠ 0
    · rw [if_pos h2] at h; simp at h
    · rw [if_neg h2] at h ⊢
      by_cases h3 : k = 6
      · rw [if_pos h3] at h ⊢
        unfold Synod.bidP at h ⊢
        by_cases h4 : s.bids.length = 31
        · rw [if_pos h4] at h; simp at h
        · rw [if_neg h4] at h ⊢
          by_cases h5 : (beginP s.voters s.bids.length n d).2.2 = 0
          · rw [if_neg (fun hh => hh h5)] at h ⊢
            rw [(many_ok h).1]
            exact .begins (time := n) (own := d) (b := (beginP s.voters s.bids.length n d).1) (l := (beginP s.voters s.bids.length n d).2.1) (Prod.ext rfl (Prod.ext rfl h5)) rfl rfl rfl fun q hq => List.mem_append.1 hq
          · rw [if_pos h5] at h; exact absurd h h5
      · rw [if_neg h3] at h ⊢
        by_cases h4 : 0 ≤ n ∧ n < s.votes.length
        · rw [if_neg (fun hh => hh h4)] at h ⊢
          have hv : s.votes[n.toNat]? = some (s.votes[n.toNat]'(by omega)) := List.getElem?_eq_getElem (by omega)
          generalize s.votes[n.toNat]'(by omega) = v at hv
          have hmem : v ∈ s.votes := List.mem_of_getElem? hv
          obtain ⟨w1, w2, w3⟩ := ok.votes v hmem
          have hr := vote_rng w1
          rw [hv] at h ⊢
          dsimp only at h ⊢
          by_cases h5 : k = 3
          · rw [if_pos h5] at h ⊢
            rw [(many_ok h).1]
            unfold Synod.passP
            by_cases h6 : v.kind = 1 ∨ v.kind = 3
            · rw [if_pos h6]
              have hst : s.seats[v.node.toNat]? = some (s.seats[v.node.toNat]'(by omega)) := List.getElem?_eq_getElem (by omega)
              generalize s.seats[v.node.toNat]'(by omega) = st at hst
              rw [show (s.away n.toNat).seats = s.seats from rfl, hst]
              exact .serves hmem h6 hr.2.2.1 hst (serve_noerr (ok.seats st (List.mem_of_getElem? hst)) w1) rfl rfl rfl fun q hq => (List.mem_append.1 hq).imp erase_mem id
            · rw [if_neg h6]
              have hbd : s.bids[v.bid.toNat]? = some (s.bids[v.bid.toNat]'(by omega)) := List.getElem?_eq_getElem (by omega)
              generalize s.bids[v.bid.toNat]'(by omega) = b at hbd
              rw [show (s.away n.toNat).bids = s.bids from rfl, hbd]
              exact .hears hmem hr.2.1.1 hbd (hear_noerr hr.2.1 (ok.bids b (List.mem_of_getElem? hbd)) w1) rfl rfl rfl fun q hq => (List.mem_append.1 hq).imp erase_mem id
          · rw [if_neg h5] at h ⊢
            by_cases h6 : k = 4
            · rw [if_pos h6] at h ⊢
              rw [(many_ok h).1]
              exact .moves rfl rfl rfl fun q hq => erase_mem hq
            · rw [if_neg h6] at h ⊢
              rw [(many_ok h).1]
              refine .moves rfl rfl rfl fun q hq => ?_
              rcases List.mem_append.1 hq with hq | hq
              · exact hq
              · simp only [List.mem_singleton] at hq; subst hq; exact hmem
        · rw [if_pos h4] at h; simp at h
  · rw [if_pos h1] at h; simp at h
theorem copy_iff {c : Copy} : c.checkE = 0 ↔ c.at_.okS ∧ c.data.size ≤ 64 := by
  unfold Copy.checkE
  by_cases h : c.at_.okS
  · by_cases h2 : c.data.size > 64
    · rw [if_pos h, if_pos h2]; constructor
      · intro hh; simp at hh
      · intro hh; omega
    · rw [if_pos h, if_neg h2]; exact ⟨fun _ => ⟨h, by omega⟩, fun _ => rfl⟩
  · rw [if_neg h]; constructor
    · intro hh; simp at hh
    · intro hh; exact absurd hh.1 h
theorem vote_mk {v : Vote} (h1 : 1 ≤ v.kind ∧ v.kind ≤ 4) (h2 : 0 ≤ v.bid ∧ v.bid ≤ 30 ∧ 0 ≤ v.node ∧ v.node ≤ 11) (h3 : v.copy.checkE = 0) (h4 : v.copy.data.size = 0 ∨ ¬ (v.kind = 1 ∨ v.kind = 4)) : v.checkE = 0 := by
  unfold Vote.checkE
  rw [if_neg (fun hh => hh h1), if_neg (fun hh => hh h2), if_neg (fun hh => hh h3), if_neg]
  rintro ⟨a, b⟩
  rcases h4 with h4 | h4
  · exact a h4
  · exact h4 b
theorem bid_mk {ws : List Int} {need : Int} {b : Bid} (h1 : qcheckP ws need = 0) (h2 : 1 ≤ b.time ∧ b.time ≤ 1000000) (h3 : 1 ≤ b.phase ∧ b.phase ≤ 3) (h4 : b.own.size ≤ 64 ∧ b.value.size ≤ 64) (h5 : b.best.checkE = 0) (h6 : b.heard.n < 2 ^ ws.length) : b.checkE ws need = 0 := by
  unfold Bid.checkE
  rw [if_neg (fun hh => hh h1), if_neg (fun hh => hh h2), if_neg (fun hh => hh h3), if_neg (by omega), if_neg (fun hh => hh h5), if_neg]
  intro hh
  have := len64_gt.1 (show ws.length < len64 b.heard.n by omega)
  omega
theorem bid_data {ws : List Int} {need : Int} {b : Bid} (h : b.checkE ws need = 0) : b.own.size ≤ 64 ∧ b.value.size ≤ 64 := by
  unfold Bid.checkE at h
  by_cases h1 : qcheckP ws need = 0
  · rw [if_neg (fun hh => hh h1)] at h
    by_cases h2 : 1 ≤ b.time ∧ b.time ≤ 1000000
    · rw [if_neg (fun hh => hh h2)] at h
      by_cases h3 : 1 ≤ b.phase ∧ b.phase ≤ 3
      · rw [if_neg (fun hh => hh h3)] at h
        by_cases h4 : b.own.size > 64 ∨ b.value.size > 64
        · rw [if_pos h4] at h; simp at h
        · omega
      · rw [if_pos h3] at h; simp at h
    · rw [if_pos h2] at h; simp at h
  · rw [if_pos h1] at h; exact absurd h h1
theorem i24 : (1 : Int) ≤ 2 ∧ (2 : Int) ≤ 4 := by decide
theorem i44 : (1 : Int) ≤ 4 ∧ (4 : Int) ≤ 4 := by decide
theorem i33 : (1 : Int) ≤ 3 ∧ (3 : Int) ≤ 3 := by decide
theorem i23 : (1 : Int) ≤ 2 ∧ (2 : Int) ≤ 3 := by decide
theorem i34 : (1 : Int) ≤ 3 ∧ (3 : Int) ≤ 4 := by decide
theorem i14 : (1 : Int) ≤ 1 ∧ (1 : Int) ≤ 4 := by decide
theorem em64 : (ByteArray.mk #[]).size ≤ 64 := by decide
theorem serve_votes {s : Seat} {v : Vote} (h : (s.serveP v).2.2 = 0) : ∀ q, q ∈ (s.serveP v).2.1 → q.checkE = 0 ∧ q.node = v.node ∧ q.bid = v.bid := by
  intro q hq
  rcases serve_cases s v with ⟨h1, e⟩ | ⟨h1, h2, e⟩ | ⟨h1, h2, h3⟩
  · rw [e] at hq; simp at hq
  · rw [e] at hq; simp at hq
  · obtain ⟨q1, q2, q3, q4⟩ := seat_ok.1 h1
    obtain ⟨v1, v2⟩ := vote_ok h2
    obtain ⟨r1, r2, r3⟩ := vote_rng h2
    rcases h3 with ⟨a, b, e⟩ | ⟨a, b, e⟩ | ⟨a, b, e⟩
    · rw [e] at hq; simp only [List.mem_singleton] at hq; subst hq
      exact ⟨vote_mk i24 ⟨r2.1, r2.2, r3⟩ (copy_iff.2 ⟨q2, q3⟩) (.inr (by dsimp only; omega)), rfl, rfl⟩
    · rw [e] at hq; simp only [List.mem_singleton] at hq; subst hq
      exact ⟨vote_mk i44 ⟨r2.1, r2.2, r3⟩ (copy_iff.2 ⟨v1, em64⟩) (.inl rfl), rfl, rfl⟩
    · rw [e] at hq; simp at hq
theorem toAll_node {n : Nat} {m q : Vote} (h : q ∈ toAllP n m) : 0 ≤ q.node ∧ q.node < n := by
  simp only [toAllP, List.mem_map, List.mem_range] at h
  obtain ⟨i, hi, rfl⟩ := h
  dsimp only; omega
theorem toAll_in {n j : Nat} {m : Vote} (h : j < n) : (⟨m.kind, m.bid, (j : Int), m.copy⟩ : Vote) ∈ toAllP n m := by
  simp only [toAllP, List.mem_map, List.mem_range]
  exact ⟨j, h, rfl⟩
theorem raw_ok {c o : Copy} (h1 : c.checkE = 0) (h2 : o.checkE = 0) : (c.raw o).checkE = 0 := by
  unfold Copy.raw; split <;> assumption
theorem toAll_ok {w : Voters} {k no : Int} {c : Copy} (hq : qcheckP w.weights w.need = 0) (h0 : 0 ≤ no ∧ no ≤ 30) (hk : 1 ≤ k ∧ k ≤ 4) (hc : c.checkE = 0) (hd : c.data.size = 0 ∨ ¬ (k = 1 ∨ k = 4)) : ∀ q, q ∈ toAllP w.weights.length ⟨k, no, 0, c⟩ → q.checkE = 0 ∧ q.bid = no ∧ 0 ≤ q.node ∧ q.node < w.weights.length := by
  intro q hq2
  have hm := toAll_mem hq2
  have hn := toAll_node hq2
  have hl := qc_len hq
  obtain ⟨m1, m2, m3⟩ := hm
  dsimp only at m1 m2 m3
  exact ⟨vote_mk (by rw [m1]; exact hk) (by rw [m2]; omega) (by rw [m3]; exact hc) (by rw [m3, m1]; exact hd), m2, hn⟩
theorem time_ok {t no : Int} (h : 1 ≤ t ∧ t ≤ 1000000) (h0 : 0 ≤ no ∧ no ≤ 30) : (⟨t, no⟩ : Stamp).okS := ⟨by dsimp only; omega, by dsimp only; omega, by dsimp only; omega, by dsimp only; omega⟩
theorem hear_valid {w : Voters} {no : Int} {b : Bid} {m : Vote} (h0 : 0 ≤ no ∧ no ≤ 30) (h1 : b.checkE w.weights w.need = 0) (h2 : m.checkE = 0) :
    (hearP w no b m).1.checkE w.weights w.need = 0 ∧ ∀ q, q ∈ (hearP w no b m).2.1 → q.checkE = 0 ∧ q.bid = no ∧ 0 ≤ q.node ∧ q.node < w.weights.length := by
  rcases hear_full (hear_noerr h0 h1 h2) with e | ⟨_, _, _, _, hl, h3⟩
  · rw [e]; exact ⟨h1, fun q hq => by simp at hq⟩
  · obtain ⟨q1, q2, q3, q4, q5⟩ := bid_ok h1
    have hd := bid_data h1
    have hn := vote_node h2
    have hs : (orU b.heard m.node.toNat).n < 2 ^ w.weights.length := or_sub q3 (by omega) (qc_len q1)
    have hb : (if b.phase = 1 then b.best.raw m.copy else b.best).checkE = 0 := by
      split
      · exact raw_ok q2 (vote_copy h2)
      · exact q2
    have hh : (heardP b m).checkE w.weights w.need = 0 := bid_mk q1 q4 q5 hd hb hs
    rcases h3 with e | ⟨_, e⟩
    · rw [e]; exact ⟨hh, fun q hq => by simp at hq⟩
    · rw [e]
      unfold onP
      by_cases hp : (heardP b m).phase = 2
      · rw [if_pos hp]
        exact ⟨bid_mk q1 q4 i33 hd hb hs, fun q hq => by simp at hq⟩
      · rw [if_neg hp]
        obtain ⟨b1, b2⟩ := copy_iff.1 hb
        have hv : (if (heardP b m).best.at_.time = 0 ∧ (heardP b m).best.at_.who = 0 then (heardP b m).own else (heardP b m).best.data).size ≤ 64 := by
          split
          · exact hd.1
          · exact b2
        exact ⟨bid_mk q1 q4 i23 ⟨hd.1, hv⟩ hb (Nat.two_pow_pos _), toAll_ok q1 h0 i34 (copy_iff.2 ⟨time_ok q4 h0, hv⟩) (.inr (by omega))⟩
theorem mem_set' {α : Type} {l : List α} {i : Nat} {x y : α} (h : y ∈ l.set i x) : y = x ∨ y ∈ l := (List.mem_or_eq_of_mem_set h).symm
theorem passP_eq {s : Synod} {v : Vote} (hv : v.checkE = 0) (hn : v.node < s.seats.length) (hb : v.bid < s.bids.length) :
    (∃ st, (v.kind = 1 ∨ v.kind = 3) ∧ s.seats[v.node.toNat]? = some st ∧ s.passP v = { s with seats := s.seats.set v.node.toNat (st.serveP v).1, votes := s.votes ++ (st.serveP v).2.1 }) ∨
    (∃ b, (v.kind = 2 ∨ v.kind = 4) ∧ s.bids[v.bid.toNat]? = some b ∧ s.passP v = { s with bids := s.bids.set v.bid.toNat (hearP s.voters v.bid b v).1, votes := s.votes ++ (hearP s.voters v.bid b v).2.1 }) := by
  have hr := vote_rng hv
  by_cases h : v.kind = 1 ∨ v.kind = 3
  · left
    have e : s.seats[v.node.toNat]? = some (s.seats[v.node.toNat]'(by omega)) := List.getElem?_eq_getElem (by omega)
    refine ⟨_, h, e, ?_⟩
    unfold Synod.passP; rw [if_pos h, e]
  · right
    have e : s.bids[v.bid.toNat]? = some (s.bids[v.bid.toNat]'(by omega)) := List.getElem?_eq_getElem (by omega)
    refine ⟨_, by omega, e, ?_⟩
    unfold Synod.passP; rw [if_neg h, e]
theorem Synod.Ok.away {s : Synod} (ok : s.Ok) (n : Nat) : (s.away n).Ok :=
  ⟨ok.q, ok.len, ok.seats, ok.few, ok.bids, by have := (List.eraseIdx_sublist s.votes n).length_le; have := ok.many; show (s.votes.eraseIdx n).length ≤ 200; omega, fun v hv => ok.votes v (erase_mem hv)⟩
theorem Synod.Ok.more {s : Synod} (ok : s.Ok) {l : List Vote} (hl : (s.votes ++ l).length ≤ 200) (h : ∀ q, q ∈ l → q.checkE = 0 ∧ q.node < s.seats.length ∧ q.bid < s.bids.length) : ({ s with votes := s.votes ++ l } : Synod).Ok :=
  ⟨ok.q, ok.len, ok.seats, ok.few, ok.bids, hl, fun v hv => (List.mem_append.1 hv).elim (ok.votes v) (h v)⟩
theorem Synod.Ok.passes {s : Synod} (ok : s.Ok) {v : Vote} (hv : v.checkE = 0) (hn : v.node < s.seats.length) (hb : v.bid < s.bids.length) (hm : (s.passP v).manyP.2 = 0) : (s.passP v).manyP.1.Ok := by
  have hr := vote_rng hv
  rw [(many_ok hm).1]
  have hl := (many_ok hm).2
  clear hm
  rcases passP_eq hv hn hb with ⟨st, _, h2, e⟩ | ⟨b, _, h2, e⟩
  · rw [e] at hl ⊢
    have h3 := serve_noerr (ok.seats st (List.mem_of_getElem? h2)) hv
    refine ⟨ok.q, (List.length_set ..).trans ok.len, fun x hx => ?_, ok.few, ok.bids, hl, fun q hq => ?_⟩
    · rcases mem_set' hx with rfl | hx
      · exact (serve_rises h3).2.2.1
      · exact ok.seats x hx
    · show q.checkE = 0 ∧ q.node < (s.seats.set _ _).length ∧ q.bid < s.bids.length
      rw [List.length_set]
      rcases List.mem_append.1 hq with hq | hq
      · exact ok.votes q hq
      · obtain ⟨a, b, c⟩ := serve_votes h3 q hq
        exact ⟨a, by omega, by omega⟩
  · rw [e] at hl ⊢
    have h3 := hear_valid (w := s.voters) hr.2.1 (ok.bids b (List.mem_of_getElem? h2)) hv
    refine ⟨ok.q, ok.len, ok.seats, by show (s.bids.set _ _).length ≤ 31; rw [List.length_set]; exact ok.few, fun x hx => ?_, hl, fun q hq => ?_⟩
    · rcases mem_set' hx with rfl | hx
      · exact h3.1
      · exact ok.bids x hx
    · show q.checkE = 0 ∧ q.node < s.seats.length ∧ q.bid < (s.bids.set _ _).length
      rw [List.length_set]
      rcases List.mem_append.1 hq with hq | hq
      · exact ok.votes q hq
      · obtain ⟨a, b, c, d⟩ := h3.2 q hq
        have := ok.len
        exact ⟨a, by omega, by omega⟩
theorem Synod.Ok.begins {s : Synod} (ok : s.Ok) {t : Int} {own : ByteArray} (h : (s.bidP t own).2 = 0) : (s.bidP t own).1.Ok := by
  unfold Synod.bidP at h ⊢
  by_cases h4 : s.bids.length = 31
  · rw [if_pos h4] at h; simp at h
  · rw [if_neg h4] at h ⊢
    by_cases h5 : (beginP s.voters s.bids.length t own).2.2 = 0
    · rw [if_neg (fun hh => hh h5)] at h ⊢
      rw [(many_ok h).1]
      have hl := (many_ok h).2
      clear h
      obtain ⟨a, b, c, d⟩ := begin_ok (v := s.voters) (no := s.bids.length) (time := t) (own := own) (b := (beginP s.voters s.bids.length t own).1) (l := (beginP s.voters s.bids.length t own).2.1) (Prod.ext rfl (Prod.ext rfl h5))
      have hf := ok.few
      have hc := bid_ok c
      rw [b] at hc
      refine ⟨ok.q, ok.len, ok.seats, ?_, fun x hx => ?_, hl, fun q hq => ?_⟩
      · show (s.bids ++ [_]).length ≤ 31; rw [List.length_append]; simp; omega
      · rcases List.mem_append.1 hx with hx | hx
        · exact ok.bids x hx
        · simp only [List.mem_singleton] at hx; subst hx; exact c
      · show q.checkE = 0 ∧ q.node < s.seats.length ∧ q.bid < (s.bids ++ [_]).length
        rw [List.length_append, List.length_singleton]
        rcases List.mem_append.1 hq with hq | hq
        · have := ok.votes q hq; exact ⟨this.1, this.2.1, by omega⟩
        · rw [d] at hq
          obtain ⟨k1, k2, k3, k4⟩ := toAll_ok ok.q ⟨a, by omega⟩ i14 (copy_iff.2 ⟨time_ok (no := s.bids.length) hc.2.2.2.1 ⟨a, by omega⟩, em64⟩) (.inl rfl) q hq
          have := ok.len
          exact ⟨k1, by omega, by omega⟩
    · rw [if_pos h5] at h; exact absurd h h5
theorem Synod.step_ok {s : Synod} (ok : s.Ok) {k n : Int} {d : ByteArray} (h : (s.stepP k n d).2 = 0) : (s.stepP k n d).1.Ok := by
  unfold Synod.stepP at h ⊢
  by_cases h1 : 3 ≤ k ∧ k ≤ 6
  · rw [if_neg (fun hh => hh h1)] at h ⊢
    by_cases h2 : k ≠ 6 ∧ d.size ≠ 0
    · rw [if_pos h2] at h; simp at h
    · rw [if_neg h2] at h ⊢
      by_cases h3 : k = 6
      · rw [if_pos h3] at h ⊢; exact ok.begins h
      · rw [if_neg h3] at h ⊢
        by_cases h4 : 0 ≤ n ∧ n < s.votes.length
        · rw [if_neg (fun hh => hh h4)] at h ⊢
          have hv : s.votes[n.toNat]? = some (s.votes[n.toNat]'(by omega)) := List.getElem?_eq_getElem (by omega)
          generalize s.votes[n.toNat]'(by omega) = v at hv
          have hmem : v ∈ s.votes := List.mem_of_getElem? hv
          obtain ⟨w1, w2, w3⟩ := ok.votes v hmem
          rw [hv] at h ⊢
          dsimp only at h ⊢
          by_cases h5 : k = 3
          · rw [if_pos h5] at h ⊢; exact (ok.away n.toNat).passes w1 w2 w3 h
          · rw [if_neg h5] at h ⊢
            by_cases h6 : k = 4
            · rw [if_pos h6] at h ⊢
              rw [(many_ok h).1]; exact ok.away _
            · rw [if_neg h6] at h ⊢
              rw [(many_ok h).1]
              refine ok.more (many_ok h).2 fun q hq => ?_
              simp only [List.mem_singleton] at hq; subst hq; exact ⟨w1, w2, w3⟩
        · rw [if_pos h4] at h; simp at h
  · rw [if_pos h1] at h; simp at h
def Synod.doP (s : Synod) (k n : Int) (d : ByteArray) : Synod × Int := if s.checkE = 0 then s.stepP k n d else (Synod.zero, s.checkE)
theorem Synod.doP_0 {s : Synod} {k n : Int} {d : ByteArray} (h : s.checkE = 0) : s.doP k n d = s.stepP k n d := if_pos h
theorem Synod.doP_n {s : Synod} {k n : Int} {d : ByteArray} (h : ¬ s.checkE = 0) : s.doP k n d = (Synod.zero, s.checkE) := if_neg h
theorem Synod.new_ok {v : Voters} (h : qcheckP v.weights v.need = 0) : (Synod.new v).Ok :=
  ⟨h, by simp [Synod.new], fun x hx => by simp only [Synod.new, List.mem_replicate] at hx; rw [hx.2]; decide, by simp [Synod.new], fun b hb => by simp [Synod.new] at hb, by simp [Synod.new], fun b hb => by simp [Synod.new] at hb⟩
def Synod.runGo : Synod → List Step → Int → Synod × Int
  | s, [], n => (s, n)
  | s, a :: l, n => if (s.stepP a.kind a.n a.data).2 = 0 then runGo (s.stepP a.kind a.n a.data).1 l (n + 1) else runGo s l n
def Synod.runP (s : Synod) (l : List Step) : Synod × Int × Int :=
  if s.checkE = 0 then (if 200 < l.length then (Synod.zero, 0, 2) else ((s.runGo l 0).1, (s.runGo l 0).2, 0)) else (Synod.zero, 0, s.checkE)
theorem Synod.runP_n {s : Synod} {l : List Step} (h : ¬ s.checkE = 0) : s.runP l = (Synod.zero, 0, s.checkE) := if_neg h
theorem Synod.runP_2 {s : Synod} {l : List Step} (h : s.checkE = 0) (h2 : 200 < l.length) : s.runP l = (Synod.zero, 0, 2) := by unfold Synod.runP; rw [if_pos h, if_pos h2]
theorem Synod.runP_0 {s : Synod} {l : List Step} (h : s.checkE = 0) (h2 : ¬ 200 < l.length) : s.runP l = ((s.runGo l 0).1, (s.runGo l 0).2, 0) := by unfold Synod.runP; rw [if_pos h, if_neg h2]
theorem Synod.run_go : ∀ (l : List Step) {s : Synod} (n : Int), s.Ok → Runs s (s.runGo l n).1 ∧ (s.runGo l n).1.Ok
  | [], s, n, ok => ⟨.nil s, ok⟩
  | a :: l, s, n, ok => by
    unfold Synod.runGo
    by_cases h : (s.stepP a.kind a.n a.data).2 = 0
    · rw [if_pos h]
      have := Synod.run_go l (n + 1) (Synod.step_ok ok h)
      exact ⟨.step (step_nxt ok h) this.1, this.2⟩
    · rw [if_neg h]; exact Synod.run_go l n ok
def Synod.newP (v : Voters) : Synod × Int := if qcheckP v.weights v.need = 0 then (Synod.new v, 0) else (Synod.zero, qcheckP v.weights v.need)
abbrev Synod.Big (s : Synod) : Prop := s.voters.weights.length ≤ 9223372036854775807 ∧ s.seats.length ≤ 9223372036854775807 ∧ s.bids.length ≤ 9223372036854775807 ∧ s.votes.length ≤ 9223372036854775807
theorem Synod.check_0 {s : Synod} (h : s.checkE = 0) : s.Ok := Synod.ok_iff.1 h
theorem qc_small {ws : List Int} {need : Int} (h : qcheckP ws need = 0) : ws.length ≤ 1000000 := by have := qc_len h; omega
section
variable (xs : List Int)
abbrev J0 : LS := [(4, .anyb), (3, .lst 1 (xs.map cI)), (0, .lst 1 (xs.map cI))]
abbrev J1 : LS := [(4, .v (.bool false)), (3, .lst 1 (xs.map cI)), (0, .lst 1 (xs.map cI))]
abbrev J2 : LS := [(6, .lst 1 (xs.map cI)), (5, .own 0 1 0 0), (0, .lst 1 (xs.map cI))]
end
theorem cloneI_fo (xs : List Int) (hx : xs.length ≤ 1000000) : Fn Tryd.prog 27 [.lst 1 (xs.map cI)] (.lst 1 (xs.map cI)) := by
 refine fnw F27_ok ?_
 refine srl 1 [0] ⟨[(0, .lst 1 (xs.map cI))], []⟩ ?_
 refine EL.seqG [0] (fun y => (y = ⟨[(0, .lst 1 (xs.map cI))], []⟩ ∧ ((List.isEmpty xs = true) ∨ (List.isEmpty xs = false)))) ?_ ?_
 intro IHJ1 HJ1
 refine srr 1 ⟨[(3, .lst 1 (xs.map cI)), (0, .lst 1 (xs.map cI))], []⟩ ?_
 cases h2 : (List.isEmpty xs)
 refine ow2 ⟨(J1 xs), []⟩ (opE_isn_ne cI xs (.s 3) 1 false (by kernel_rfl) (by kernel_rfl) (.inl rfl) h2) ?_
 refine owl 0 [0, 4] ⟨[(4, .v (.bool false)), (0, .lst 1 (xs.map cI))], []⟩ ?_
 refine cnF ?_
 refine EL.skip ?_
 exact tN (HJ1.get ⟨by kernel_rfl, (Or.inr (by first | exact g2 | exact h2 | simp_all | omega))⟩)
 refine ow2 ⟨(J0 xs), []⟩ (opE_isn_any cI xs (.s 3) 1 false (by kernel_rfl) (by kernel_rfl) (.inl rfl) h2) ?_
 refine owl 0 [0, 4] ⟨[(4, .anyb), (0, .lst 1 (xs.map cI))], []⟩ ?_
 refine EL.condAny (by kernel_rfl) ?_ ?_
 refine srl 1 [2] ⟨[(2, .emp)], []⟩ ?_
 refine rtr ?_
 refine rqa (.emp) (Ale.emp (sz := 1)) ?_
 rotate_left
 refine EL.skip ?_
 exact tN (HJ1.get ⟨by kernel_rfl, (Or.inl (by first | exact g2 | exact h2 | simp_all | omega))⟩)
 rintro _ (⟨rfl, hD3⟩)
 refine srr 2 ⟨(J2 xs), [some ⟨1, []⟩]⟩ ?_
 refine ow2 ⟨(7, .own 1 1 0 (List.length xs)) :: (J2 xs), [none, some ⟨1, (xs.map cI)⟩]⟩ (oap cI ([] : List Int) xs (.s 5) (.s 6) 1 8 0 (.lst 1 (xs.map cI)) .lst (by simp; omega)) ?_
 refine owl 1 [2] ⟨[(2, .own 1 1 0 (List.length xs))], [none, some ⟨1, (xs.map cI)⟩]⟩ ?_
 refine EL.ret ?_
 refine rqs (.lst 1 (xs.map cI)) (.own 1 1 0 (List.length xs)) (snapA_map cI xs (by kernel_rfl) (by intro y; kernel_rfl) (by simp)) ?_
 rotate_left
 all_goals (first | rfl | (have hx0 : xs = [] := List.isEmpty_iff.1 ‹_›; subst hx0; rfl))
section
variable (xs : List Seat)
abbrev J3 : LS := [(4, .anyb), (3, .lst 5 (xs.map Seat.cs)), (0, .lst 5 (xs.map Seat.cs))]
abbrev J4 : LS := [(4, .v (.bool false)), (3, .lst 5 (xs.map Seat.cs)), (0, .lst 5 (xs.map Seat.cs))]
abbrev J5 : LS := [(6, .lst 5 (xs.map Seat.cs)), (5, .own 0 5 0 0), (0, .lst 5 (xs.map Seat.cs))]
abbrev J6 : LB := [none, some ⟨5, (xs.map Seat.cs)⟩]
end
theorem cloneS_fo (xs : List Seat) (hx : xs.length ≤ 1000000) : Fo Tryd.prog 68 [.lst 5 (xs.map Seat.cs)] 5 (xs.map Seat.cs) := by
 refine fo_of ?_
 rw [List.length_map]
 refine fV (m := []) (m' := [some ⟨5, (xs.map Seat.cs)⟩]) F68_ok (of_decide_eq_true (by kernel_rfl)) ?_
 refine srl 1 [0] ⟨[(0, .lst 5 (xs.map Seat.cs))], []⟩ ?_
 refine EL.seqG [0] (fun y => (y = ⟨[(0, .lst 5 (xs.map Seat.cs))], []⟩ ∧ ((List.isEmpty xs = true) ∨ (List.isEmpty xs = false)))) ?_ ?_
 intro IHJ1 HJ1
 refine srr 1 ⟨[(3, .lst 5 (xs.map Seat.cs)), (0, .lst 5 (xs.map Seat.cs))], []⟩ ?_
 cases h2 : (List.isEmpty xs)
 refine ow2 ⟨(J4 xs), []⟩ (opE_isn_ne Seat.cs xs (.s 3) 5 false (by kernel_rfl) (by kernel_rfl) (.inl rfl) h2) ?_
 refine owl 0 [0, 4] ⟨[(4, .v (.bool false)), (0, .lst 5 (xs.map Seat.cs))], []⟩ ?_
 refine cnF ?_
 refine EL.skip ?_
 exact tN (HJ1.get ⟨by kernel_rfl, (Or.inr (by first | exact g2 | exact h2 | simp_all | omega))⟩)
 refine ow2 ⟨(J3 xs), []⟩ (opE_isn_any Seat.cs xs (.s 3) 5 false (by kernel_rfl) (by kernel_rfl) (.inl rfl) h2) ?_
 refine owl 0 [0, 4] ⟨[(4, .anyb), (0, .lst 5 (xs.map Seat.cs))], []⟩ ?_
 refine EL.condAny (by kernel_rfl) ?_ ?_
 refine srl 1 [2] ⟨[(2, .emp)], []⟩ ?_
 refine rtr ?_
 refine ⟨.inr rfl, ⟨[(2, .own 0 5 0 (List.length xs))], [some ⟨5, (xs.map Seat.cs)⟩]⟩, norm_le (live := [2]) (src := [.new 5]) (es := [(2, 0)]) (by rw [List.isEmpty_iff.1 h2]; kernel_rfl) trivial, by kernel_rfl, rfl⟩
 refine EL.skip ?_
 exact tN (HJ1.get ⟨by kernel_rfl, (Or.inl (by first | exact g2 | exact h2 | simp_all | omega))⟩)
 rintro _ (⟨rfl, hD3⟩)
 refine srr 2 ⟨(J5 xs), [some ⟨5, []⟩]⟩ ?_
 refine ow2 ⟨(7, .own 1 5 0 (List.length xs)) :: (J5 xs), (J6 xs)⟩ (oap Seat.cs ([] : List Seat) xs (.s 5) (.s 6) 5 48 0 (.lst 5 (xs.map Seat.cs)) .lst (by simp; omega)) ?_
 refine owl 1 [2] ⟨[(2, .own 1 5 0 (List.length xs))], (J6 xs)⟩ ?_
 refine EL.ret ?_
 exact fne [2] [ut 1] ⟨[(2, .own 0 5 0 (List.length xs))], [some ⟨5, (xs.map Seat.cs)⟩]⟩ ⟨pq 5 Seat.cs xs, trivial⟩
section
variable (xs : List Bid)
abbrev J7 : LS := [(4, .anyb), (3, .lst 8 (xs.map Bid.cs)), (0, .lst 8 (xs.map Bid.cs))]
abbrev J8 : LS := [(4, .v (.bool false)), (3, .lst 8 (xs.map Bid.cs)), (0, .lst 8 (xs.map Bid.cs))]
abbrev J9 : LS := [(6, .lst 8 (xs.map Bid.cs)), (5, .own 0 8 0 0), (0, .lst 8 (xs.map Bid.cs))]
abbrev J10 : LB := [none, some ⟨8, (xs.map Bid.cs)⟩]
end
theorem cloneB_fo (xs : List Bid) (hx : xs.length ≤ 1000000) : Fo Tryd.prog 69 [.lst 8 (xs.map Bid.cs)] 8 (xs.map Bid.cs) := by
 refine fo_of ?_
 rw [List.length_map]
 refine fV (m := []) (m' := [some ⟨8, (xs.map Bid.cs)⟩]) F69_ok (of_decide_eq_true (by kernel_rfl)) ?_
 refine srl 1 [0] ⟨[(0, .lst 8 (xs.map Bid.cs))], []⟩ ?_
 refine EL.seqG [0] (fun y => (y = ⟨[(0, .lst 8 (xs.map Bid.cs))], []⟩ ∧ ((List.isEmpty xs = true) ∨ (List.isEmpty xs = false)))) ?_ ?_
 intro IHJ1 HJ1
 refine srr 1 ⟨[(3, .lst 8 (xs.map Bid.cs)), (0, .lst 8 (xs.map Bid.cs))], []⟩ ?_
 cases h2 : (List.isEmpty xs)
 refine ow2 ⟨(J8 xs), []⟩ (opE_isn_ne Bid.cs xs (.s 3) 8 false (by kernel_rfl) (by kernel_rfl) (.inl rfl) h2) ?_
 refine owl 0 [0, 4] ⟨[(4, .v (.bool false)), (0, .lst 8 (xs.map Bid.cs))], []⟩ ?_
 refine cnF ?_
 refine EL.skip ?_
 exact tN (HJ1.get ⟨by kernel_rfl, (Or.inr (by first | exact g2 | exact h2 | simp_all | omega))⟩)
 refine ow2 ⟨(J7 xs), []⟩ (opE_isn_any Bid.cs xs (.s 3) 8 false (by kernel_rfl) (by kernel_rfl) (.inl rfl) h2) ?_
 refine owl 0 [0, 4] ⟨[(4, .anyb), (0, .lst 8 (xs.map Bid.cs))], []⟩ ?_
 refine EL.condAny (by kernel_rfl) ?_ ?_
 refine srl 1 [2] ⟨[(2, .emp)], []⟩ ?_
 refine rtr ?_
 refine ⟨.inr rfl, ⟨[(2, .own 0 8 0 (List.length xs))], [some ⟨8, (xs.map Bid.cs)⟩]⟩, norm_le (live := [2]) (src := [.new 8]) (es := [(2, 0)]) (by rw [List.isEmpty_iff.1 h2]; kernel_rfl) trivial, by kernel_rfl, rfl⟩
 refine EL.skip ?_
 exact tN (HJ1.get ⟨by kernel_rfl, (Or.inl (by first | exact g2 | exact h2 | simp_all | omega))⟩)
 rintro _ (⟨rfl, hD3⟩)
 refine srr 2 ⟨(J9 xs), [some ⟨8, []⟩]⟩ ?_
 refine ow2 ⟨(7, .own 1 8 0 (List.length xs)) :: (J9 xs), (J10 xs)⟩ (oap Bid.cs ([] : List Bid) xs (.s 5) (.s 6) 8 88 0 (.lst 8 (xs.map Bid.cs)) .lst (by simp; omega)) ?_
 refine owl 1 [2] ⟨[(2, .own 1 8 0 (List.length xs))], (J10 xs)⟩ ?_
 refine EL.ret ?_
 exact fne [2] [ut 1] ⟨[(2, .own 0 8 0 (List.length xs))], [some ⟨8, (xs.map Bid.cs)⟩]⟩ ⟨pq 8 Bid.cs xs, trivial⟩
section
variable (xs : List Vote)
abbrev J11 : LS := [(4, .anyb), (3, .lst 6 (xs.map Vote.cs)), (0, .lst 6 (xs.map Vote.cs))]
abbrev J12 : LS := [(4, .v (.bool false)), (3, .lst 6 (xs.map Vote.cs)), (0, .lst 6 (xs.map Vote.cs))]
abbrev J13 : LS := [(6, .lst 6 (xs.map Vote.cs)), (5, .own 0 6 0 0), (0, .lst 6 (xs.map Vote.cs))]
abbrev J14 : LB := [none, some ⟨6, (xs.map Vote.cs)⟩]
end
theorem cloneV_fo (xs : List Vote) (hx : xs.length ≤ 1000000) : Fo Tryd.prog 70 [.lst 6 (xs.map Vote.cs)] 6 (xs.map Vote.cs) := by
 refine fo_of ?_
 rw [List.length_map]
 refine fV (m := []) (m' := [some ⟨6, (xs.map Vote.cs)⟩]) F70_ok (of_decide_eq_true (by kernel_rfl)) ?_
 refine srl 1 [0] ⟨[(0, .lst 6 (xs.map Vote.cs))], []⟩ ?_
 refine EL.seqG [0] (fun y => (y = ⟨[(0, .lst 6 (xs.map Vote.cs))], []⟩ ∧ ((List.isEmpty xs = true) ∨ (List.isEmpty xs = false)))) ?_ ?_
 intro IHJ1 HJ1
 refine srr 1 ⟨[(3, .lst 6 (xs.map Vote.cs)), (0, .lst 6 (xs.map Vote.cs))], []⟩ ?_
 cases h2 : (List.isEmpty xs)
 refine ow2 ⟨(J12 xs), []⟩ (opE_isn_ne Vote.cs xs (.s 3) 6 false (by kernel_rfl) (by kernel_rfl) (.inl rfl) h2) ?_
 refine owl 0 [0, 4] ⟨[(4, .v (.bool false)), (0, .lst 6 (xs.map Vote.cs))], []⟩ ?_
 refine cnF ?_
 refine EL.skip ?_
 exact tN (HJ1.get ⟨by kernel_rfl, (Or.inr (by first | exact g2 | exact h2 | simp_all | omega))⟩)
 refine ow2 ⟨(J11 xs), []⟩ (opE_isn_any Vote.cs xs (.s 3) 6 false (by kernel_rfl) (by kernel_rfl) (.inl rfl) h2) ?_
 refine owl 0 [0, 4] ⟨[(4, .anyb), (0, .lst 6 (xs.map Vote.cs))], []⟩ ?_
 refine EL.condAny (by kernel_rfl) ?_ ?_
 refine srl 1 [2] ⟨[(2, .emp)], []⟩ ?_
 refine rtr ?_
 refine ⟨.inr rfl, ⟨[(2, .own 0 6 0 (List.length xs))], [some ⟨6, (xs.map Vote.cs)⟩]⟩, norm_le (live := [2]) (src := [.new 6]) (es := [(2, 0)]) (by rw [List.isEmpty_iff.1 h2]; kernel_rfl) trivial, by kernel_rfl, rfl⟩
 refine EL.skip ?_
 exact tN (HJ1.get ⟨by kernel_rfl, (Or.inl (by first | exact g2 | exact h2 | simp_all | omega))⟩)
 rintro _ (⟨rfl, hD3⟩)
 refine srr 2 ⟨(J13 xs), [some ⟨6, []⟩]⟩ ?_
 refine ow2 ⟨(7, .own 1 6 0 (List.length xs)) :: (J13 xs), (J14 xs)⟩ (oap Vote.cs ([] : List Vote) xs (.s 5) (.s 6) 6 56 0 (.lst 6 (xs.map Vote.cs)) .lst (by simp; omega)) ?_
 refine owl 1 [2] ⟨[(2, .own 1 6 0 (List.length xs))], (J14 xs)⟩ ?_
 refine EL.ret ?_
 exact fne [2] [ut 1] ⟨[(2, .own 0 6 0 (List.length xs))], [some ⟨6, (xs.map Vote.cs)⟩]⟩ ⟨pq 6 Vote.cs xs, trivial⟩
section
variable (v : Voters)
abbrev J30 := (Int.toNat (List.length v.weights : Int))
abbrev J15 : OB := some ⟨2, [[.lst 1 (v.weights.map cI), VI v.need]]⟩
abbrev J16 : OB := some ⟨5, [[.emp, VI 0, .emp, .emp, .emp]]⟩
abbrev J17 : LS := [(8, VI v.need), (7, .ref 0 2 0 1), (6, .lst 1 (v.weights.map cI)), (5, .ref 0 2 0 0), (2, .ref 1 5 0 0), (1, .ref 0 2 0 0)]
abbrev J18 : LS := [(4, VI (qcheckP v.weights v.need)), (2, .ref 1 5 0 0), (1, .ref 0 2 0 0)]
abbrev J20 : AV := .agg [.emp, VI 0, .emp, .emp, .emp]
abbrev J21 : LS := (15, .lst 1 (v.weights.map cI)) :: (14, .ref 0 2 0 0) :: (11, .v (.bool false)) :: (J18 v)
abbrev J22 : AV := .agg [.lst 1 (v.weights.map cI), VI v.need]
abbrev J23 : LS := (21, .lst 1 (v.weights.map cI)) :: (20, .ref 0 2 0 0) :: (19, (J22 v)) :: (18, VI v.need) :: (17, .ref 0 2 0 1) :: (16, .lst 1 (v.weights.map cI)) :: (J21 v)
abbrev J24 : OB := some ⟨5, ((List.replicate (J30 v) ((⟨(⟨0, 0⟩ : Stamp), (⟨(⟨0, 0⟩ : Stamp), ⟨#[]⟩⟩ : Copy)⟩ : Seat) : Seat)).map Seat.cs)⟩
abbrev J25 : LS := (23, .own 2 5 0 (List.length (List.replicate (J30 v) ((⟨(⟨0, 0⟩ : Stamp), (⟨(⟨0, 0⟩ : Stamp), ⟨#[]⟩⟩ : Copy)⟩ : Seat) : Seat)))) :: (22, VI (List.length v.weights : Int)) :: (J23 v)
abbrev J26 : OB := some ⟨5, [[.lst 1 (v.weights.map cI), VI v.need, .own 2 5 0 (List.length (List.replicate (J30 v) ((⟨(⟨0, 0⟩ : Stamp), (⟨(⟨0, 0⟩ : Stamp), ⟨#[]⟩⟩ : Copy)⟩ : Seat) : Seat))), .emp, .emp]]⟩
abbrev J27 : AV := .agg [.lst 1 (v.weights.map cI), VI v.need, .lst 5 ((List.replicate (J30 v) ((⟨(⟨0, 0⟩ : Stamp), (⟨(⟨0, 0⟩ : Stamp), ⟨#[]⟩⟩ : Copy)⟩ : Seat) : Seat)).map Seat.cs), .lst 8 [], .lst 6 []]
abbrev J28 : AV := .agg [.lst 1 (v.weights.map cI), VI v.need, .own 2 5 0 (List.length (List.replicate (J30 v) ((⟨(⟨0, 0⟩ : Stamp), (⟨(⟨0, 0⟩ : Stamp), ⟨#[]⟩⟩ : Copy)⟩ : Seat) : Seat))), .emp, .emp]
abbrev J29 : AV := .agg [.lst 1 (v.weights.map cI), VI v.need, .lst 5 ((List.replicate (J30 v) ((⟨(⟨0, 0⟩ : Stamp), (⟨(⟨0, 0⟩ : Stamp), ⟨#[]⟩⟩ : Copy)⟩ : Seat) : Seat)).map Seat.cs), .emp, .emp]
end
theorem new_fn (v : Voters) (hx : v.weights.length ≤ 9223372036854775807) : Fn Tryd.prog 12 [.agg [.lst 1 (v.weights.map cI), VI v.need]] (.tup [.agg [.lst 1 (((((Synod.newP v).1).voters).weights).map cI), VI ((((Synod.newP v).1).voters).need), .lst 5 ((((Synod.newP v).1).seats).map Seat.cs), .lst 8 ((((Synod.newP v).1).bids).map Bid.cs), .lst 6 ((((Synod.newP v).1).votes).map Vote.cs)], VI ((Synod.newP v).2)]) := by
 refine fnw F12_ok ?_
 refine srl 3 [1, 2] ⟨[(2, .ref 1 5 0 0), (1, .ref 0 2 0 0)], [(J15 v), J16]⟩ ?_
 refine EL.seq ?_
 refine srr 4 ⟨(J17 v), [(J15 v), J16]⟩ ?_
 refine owg [.lst 1 (v.weights.map cI), VI v.need] ⟨(9, VI (qcheckP v.weights v.need)) :: (J17 v), [(J15 v), J16]⟩ (qcheck_fn v.weights v.need (by first | omega | assumption | exact hx.1)) ?_
 refine owl 1 [1, 2, 4] ⟨(J18 v), [(J15 v), J16]⟩ ?_
 refine srl 2 [1, 2, 4, 11] ⟨(11, .v (.bool ((qcheckP v.weights v.need) != 0))) :: (J18 v), [(J15 v), J16]⟩ ?_
 cases h1 : ((qcheckP v.weights v.need) != 0)
 have g1 := bnF h1
 refine cnF ?_
 refine skn ?_
 refine sdr 2 ⟨(J21 v), [(J15 v), J16]⟩ ?_
 refine dwg [.lst 1 (v.weights.map cI)] ⟨(16, .lst 1 (v.weights.map cI)) :: (J21 v), [(J15 v), J16]⟩ (cloneI_fo v.weights (by first | omega | exact qc_small (by assumption))) ?_
 refine dwr 5 ⟨(J23 v), [(J15 v), J16]⟩ ?_
 refine dw2 ⟨(22, VI (List.length v.weights : Int)) :: (J23 v), [(J15 v), J16]⟩ (oln cI v.weights (.s 21) 1) ?_
 refine dw2 ⟨(J25 v), [(J15 v), J16, (J24 v)]⟩ (opE_msl Seat.cs ((⟨(⟨0, 0⟩ : Stamp), (⟨(⟨0, 0⟩ : Stamp), ⟨#[]⟩⟩ : Copy)⟩ : Seat) : Seat) 5 48 [VI 0, VI 0, VI 0, VI 0, .v (.string (⟨#[]⟩))] (.s 22) (.s 22) .i64 .i64 (List.length v.weights : Int) (by kernel_rfl) (by kernel_rfl) rfl rfl (by kernel_rfl) ⟨by omega, by have := qc_len (ws := v.weights) (by assumption); omega⟩) ?_
 refine dwl 3 [2, 3] ⟨[(3, VI 0), (2, .ref 1 5 0 0)], [(J15 v), (J26 v), (J24 v)]⟩ ?_
 refine EL.ret ?_
 refine ⟨.inr rfl, .tup [(J29 v), VI 0], run_snap (r0 := .tup [(J28 v), VI 0]) (by kernel_rfl) (snapR_tup (sA (snapA_agg (sC (by kernel_rfl) (sC (by kernel_rfl) (sC (smp Seat.cs (List.replicate (J30 v) ((⟨(⟨0, 0⟩ : Stamp), (⟨(⟨0, 0⟩ : Stamp), ⟨#[]⟩⟩ : Copy)⟩ : Seat) : Seat))) (sC (by kernel_rfl) (sC (by kernel_rfl) (rfl))))))) (sA (by kernel_rfl) (snapAs_nil)))), Ale.trans (b := .tup [(J27 v), VI 0]) (Ale.tup (aT (aR (aR (aR (aE 8 (aE 6 (.nil)))))) (aR .nil))) (Ale.of_eq ?_)⟩
 rotate_left
 have g1 := bnT h1
 refine cnT ?_
 refine srl 4 [2, 3] ⟨[(3, VI (qcheckP v.weights v.need)), (2, .ref 1 5 0 0)], [(J15 v), J16]⟩ ?_
 refine rtr ?_
 refine rqa (.tup [J20, VI (qcheckP v.weights v.need)]) (Ale.tup (aT (aE 1 (aR (aE 5 (aE 8 (aE 6 (.nil)))))) (aR .nil))) ?_
 rotate_left
 all_goals (first | (simp [Synod.newP, Synod.new, Synod.zero, Seat.zero, *]; done) | (simp_all [Synod.newP, Synod.new, Synod.zero, Seat.zero]; done))
section
variable (a3 : Seat) (k : Nat) (xs : List Seat)
abbrev J31 : LS := [(8, .lst 5 (xs.map Seat.cs)), (0, .lst 5 (xs.map Seat.cs)), (1, .fn 39 [])]
abbrev J32 : LS := [(10, VI 0), (9, VI (List.length xs : Int)), (8, .lst 5 (xs.map Seat.cs)), (1, .fn 39 [])]
abbrev J33 : LS := [(1, .fn 39 []), (8, .lst 5 (xs.map Seat.cs)), (9, VI (List.length xs : Int)), (10, VI (k : Int))]
abbrev J34 : LS := (12, .pim [VI a3.promised.time, VI a3.promised.who, VI a3.kept.at_.time, VI a3.kept.at_.who, .v (.string a3.kept.data)] 0) :: (11, .v (.bool true)) :: (J33 k xs)
abbrev J35 : OB := some ⟨5, [[VI a3.promised.time, VI a3.promised.who, VI a3.kept.at_.time, VI a3.kept.at_.who, .v (.string a3.kept.data)]]⟩
abbrev J36 : AV := .agg [VI a3.promised.time, VI a3.promised.who, VI a3.kept.at_.time, VI a3.kept.at_.who, .v (.string a3.kept.data)]
abbrev J37 : LS := (15, (J36 a3)) :: (14, .fn 39 []) :: (6, .ref 0 5 0 0) :: (J33 k xs)
abbrev J38 : LS := [(18, .v (.bool false)), (7, VI a3.checkE), (1, .fn 39 []), (8, .lst 5 (xs.map Seat.cs)), (9, VI (List.length xs : Int))]
abbrev J39 : LS := (10, VI ((k : Int) + 1)) :: (20, VI ((k : Int) + 1)) :: (J38 a3 xs)
end
theorem firstS_fn (xs : List Seat) (hx : xs.length ≤ 9223372036854775807) : Fn Tryd.prog 38 [.lst 5 (xs.map Seat.cs), .fn 39 []] (VI (firstE (Seat.checkE) xs)) := by
 refine fnw F38_ok ?_
 refine srl 1 [0, 1] ⟨[(0, .lst 5 (xs.map Seat.cs)), (1, .fn 39 [])], []⟩ ?_
 refine EL.seq ?_
 refine srr 1 ⟨(J31 xs), []⟩ ?_
 refine ow2 ⟨(9, VI (List.length xs : Int)) :: (J31 xs), []⟩ (oln Seat.cs xs (.s 8) 5) ?_
 refine owl 1 [1, 8, 9, 10] ⟨(J32 xs), []⟩ ?_
 refine EL.block ?_
 refine EL.loopN (fun mM xX => ∃ (k : Nat), mM = xs.length - k ∧ (k ≤ xs.length ∧ firstE (Seat.checkE) xs = firstE (Seat.checkE) (xs.drop k)) ∧ xX = ⟨(J33 k xs), []⟩) (y := (fun (k : Nat) => (⟨(J33 k xs), []⟩ : L3)) 0) [1, 8, 9, 10] [] [] (by kernel_rfl) trivial ⟨0, rfl, by simp, rfl⟩ ?_
 rintro _ _ ⟨k, rfl, hI1, rfl⟩
 obtain ⟨hk, hs⟩ := hI1
 refine srl 1 [1, 8, 9, 10, 11] ⟨(11, .v (.bool (decide ((k : Int) < (List.length xs : Int))))) :: (J33 k xs), []⟩ ?_
 refine EL.seq ?_
 cases h2 : (decide ((k : Int) < (List.length xs : Int)))
 have g2 := of_decide_eq_false h2
 have n2 : ¬ ((k) < (List.length xs)) := by omega
 refine cnF ?_
 refine EL.exit ?_
 refine tX ?_
 refine tX ?_
 refine iH ?_
 refine tN ?_
 refine srl 1 [4] ⟨[(4, VI 0)], []⟩ ?_
 refine EL.ret ?_
 refine rqe (VI 0) ?_
 rotate_left
 have g2 := of_decide_eq_true h2
 have n2 : ((k) < (List.length xs)) := by omega
 refine cnT ?_
 refine skn ?_
 refine EL.seq ?_
 refine EL.block ?_
 refine EL.sreg ?_
 obtain ⟨a3, ha3⟩ : ∃ y, xs[((k : Int) : Int).toNat]? = some y := idx_ex ⟨by omega, by omega⟩
 have iha3 : xs[k]? = some a3 := by simpa using ha3
 have dha3 := drop_get iha3
 refine ow2 ⟨(J34 a3 k xs), []⟩ (oid Seat.cs xs (.s 8) (.s 10) 5 .i64 (k : Int) a3 (by omega) ha3) ?_
 refine owl 3 [1, 6, 8, 9, 10] ⟨(6, .ref 0 5 0 0) :: (J33 k xs), [(J35 a3)]⟩ ?_
 refine srr 2 ⟨(J37 a3 k xs), [(J35 a3)]⟩ ?_
 refine owg [(J36 a3)] ⟨(16, VI a3.checkE) :: (J37 a3 k xs), [(J35 a3)]⟩ (secheck_fn a3) ?_
 refine owl 1 [1, 7, 8, 9, 10] ⟨(7, VI a3.checkE) :: (J33 k xs), [(J35 a3)]⟩ ?_
 refine srl 2 [1, 7, 8, 9, 10, 18] ⟨(18, .v (.bool (a3.checkE != 0))) :: (7, VI a3.checkE) :: (J33 k xs), [(J35 a3)]⟩ ?_
 cases h4 : (a3.checkE != 0)
 have g4 := bnF h4
 refine cnF ?_
 refine EL.skip ?_
 refine iN ?_
 refine tN ?_
 refine EL.reg0 ?_
 refine owr 2 ⟨(10, VI (IntKind.i64.wrap ((k : Int) + 1))) :: (20, VI (IntKind.i64.wrap ((k : Int) + 1))) :: (J38 a3 xs), [(J35 a3)]⟩ ?_
 have e5 := wr64 (n := (k : Int) + 1) (by omega)
 rw [e5]
 refine owe 0 ⟨(J39 a3 k xs), [(J35 a3)]⟩ ?_
 refine tN ?_
 refine rE (live := [1, 8, 9, 10]) (src := []) (es := []) (y := (fun (k : Nat) => (⟨(J33 k xs), []⟩ : L3)) (k + 1)) ?_ trivial ?_ ⟨(k + 1), rfl, ?_, rfl⟩
 kernel_rfl
 omega
 focus (refine ⟨by omega, ?_⟩; rw [hs]; simp [firstE, *])
 have g4 := bnT h4
 refine cnT ?_
 refine srl 2 [4] ⟨[(4, VI a3.checkE)], [(J35 a3)]⟩ ?_
 refine EL.ret ?_
 refine iR ?_
 refine tR ?_
 refine tR ?_
 refine iR ?_
 refine tR ?_
 refine rqe (VI a3.checkE) ?_
 rotate_left
 all_goals ((refine congrArg (fun n => VI n) ?_; rw [hs]; first | (rw [List.drop_eq_nil_of_le (by omega)]; rfl) | (simp [firstE, *]; done)))
section
variable (b : Bid) (s : Synod)
abbrev J40 : OB := some ⟨8, [[VI b.time, VI b.phase, .v (.string b.own), .v (.string b.value), VI b.best.at_.time, VI b.best.at_.who, .v (.string b.best.data), .v (.int .u64 (b.heard.n : Int))]]⟩
abbrev J41 : AV := .agg [VI b.time, VI b.phase, .v (.string b.own), .v (.string b.value), VI b.best.at_.time, VI b.best.at_.who, .v (.string b.best.data), .v (.int .u64 (b.heard.n : Int))]
abbrev J42 : AV := .agg [.lst 1 (s.voters.weights.map cI), VI s.voters.need]
abbrev J43 : LS := [(6, (J41 b)), (5, (J42 s)), (4, .pim [.lst 1 (s.voters.weights.map cI), VI s.voters.need, .lst 5 (s.seats.map Seat.cs), .lst 8 (s.bids.map Bid.cs), .lst 6 (s.votes.map Vote.cs)] 0), (2, .ref 0 8 0 0), (1, .pim [.lst 1 (s.voters.weights.map cI), VI s.voters.need, .lst 5 (s.seats.map Seat.cs), .lst 8 (s.bids.map Bid.cs), .lst 6 (s.votes.map Vote.cs)] 0)]
abbrev J44 : LS := (7, VI (b.checkE s.voters.weights s.voters.need)) :: (J43 b s)
end
theorem chk1_fn (b : Bid) (s : Synod) (hx : s.Big) : Fn Tryd.prog 41 [.agg [VI b.time, VI b.phase, .v (.string b.own), .v (.string b.value), VI b.best.at_.time, VI b.best.at_.who, .v (.string b.best.data), .v (.int .u64 (b.heard.n : Int))], .pim [.lst 1 (s.voters.weights.map cI), VI s.voters.need, .lst 5 (s.seats.map Seat.cs), .lst 8 (s.bids.map Bid.cs), .lst 6 (s.votes.map Vote.cs)] 0] (VI (b.checkE s.voters.weights s.voters.need)) := by
 refine fnw F41_ok ?_
 refine srl 2 [1, 2] ⟨[(2, .ref 0 8 0 0), (1, .pim [.lst 1 (s.voters.weights.map cI), VI s.voters.need, .lst 5 (s.seats.map Seat.cs), .lst 8 (s.bids.map Bid.cs), .lst 6 (s.votes.map Vote.cs)] 0)], [(J40 b)]⟩ ?_
 refine srr 3 ⟨(J43 b s), [(J40 b)]⟩ ?_
 refine owg [(J42 s), (J41 b)] ⟨(J44 b s), [(J40 b)]⟩ (bcheck_fn s.voters b (by first | exact hx.1 | assumption)) ?_
 refine owl 1 [3] ⟨[(3, VI (b.checkE s.voters.weights s.voters.need))], [(J40 b)]⟩ ?_
 refine EL.ret ?_
 refine rqe (VI (b.checkE s.voters.weights s.voters.need)) ?_
 focus (rfl)
section
variable (s : Synod) (v : Vote)
abbrev J45 : OB := some ⟨6, [[VI v.kind, VI v.bid, VI v.node, VI v.copy.at_.time, VI v.copy.at_.who, .v (.string v.copy.data)]]⟩
abbrev J46 : AV := .agg [VI v.kind, VI v.bid, VI v.node, VI v.copy.at_.time, VI v.copy.at_.who, .v (.string v.copy.data)]
abbrev J47 : LS := [(5, (J46 v)), (2, .ref 0 6 0 0), (1, .pim [.lst 1 (s.voters.weights.map cI), VI s.voters.need, .lst 5 (s.seats.map Seat.cs), .lst 8 (s.bids.map Bid.cs), .lst 6 (s.votes.map Vote.cs)] 0)]
abbrev J48 : LS := [(4, VI v.checkE), (2, .ref 0 6 0 0), (1, .pim [.lst 1 (s.voters.weights.map cI), VI s.voters.need, .lst 5 (s.seats.map Seat.cs), .lst 8 (s.bids.map Bid.cs), .lst 6 (s.votes.map Vote.cs)] 0)]
abbrev J49 : LS := (13, .lst 5 (s.seats.map Seat.cs)) :: (12, .pim [.lst 1 (s.voters.weights.map cI), VI s.voters.need, .lst 5 (s.seats.map Seat.cs), .lst 8 (s.bids.map Bid.cs), .lst 6 (s.votes.map Vote.cs)] 2) :: (11, VI v.node) :: (10, .ref 0 6 0 2) :: (9, .v (.bool true)) :: (8, .v (.bool true)) :: (7, VI v.checkE) :: (J48 s v)
abbrev J50 : LS := (20, .lst 8 (s.bids.map Bid.cs)) :: (19, .pim [.lst 1 (s.voters.weights.map cI), VI s.voters.need, .lst 5 (s.seats.map Seat.cs), .lst 8 (s.bids.map Bid.cs), .lst 6 (s.votes.map Vote.cs)] 3) :: (18, VI v.bid) :: (17, .ref 0 6 0 1) :: (16, .v (.bool false)) :: (15, .v (.bool false)) :: (14, VI (List.length s.seats : Int)) :: (J49 s v)
end
theorem chk2_fn (v : Vote) (s : Synod) (hx : s.Big) : Fn Tryd.prog 44 [.agg [VI v.kind, VI v.bid, VI v.node, VI v.copy.at_.time, VI v.copy.at_.who, .v (.string v.copy.data)], .pim [.lst 1 (s.voters.weights.map cI), VI s.voters.need, .lst 5 (s.seats.map Seat.cs), .lst 8 (s.bids.map Bid.cs), .lst 6 (s.votes.map Vote.cs)] 0] (VI (s.voteE v)) := by
 refine fnw F44_ok ?_
 refine srl 2 [1, 2] ⟨[(2, .ref 0 6 0 0), (1, .pim [.lst 1 (s.voters.weights.map cI), VI s.voters.need, .lst 5 (s.seats.map Seat.cs), .lst 8 (s.bids.map Bid.cs), .lst 6 (s.votes.map Vote.cs)] 0)], [(J45 v)]⟩ ?_
 refine srr 1 ⟨(J47 s v), [(J45 v)]⟩ ?_
 refine owg [(J46 v)] ⟨(6, VI v.checkE) :: (J47 s v), [(J45 v)]⟩ (vcheck_fn v) ?_
 refine owl 1 [1, 2, 4] ⟨(J48 s v), [(J45 v)]⟩ ?_
 refine EL.seq ?_
 refine srr 3 ⟨(9, .v (.bool (v.checkE == 0))) :: (8, .v (.bool (v.checkE == 0))) :: (7, VI v.checkE) :: (J48 s v), [(J45 v)]⟩ ?_
 cases h1 : (v.checkE == 0)
 have g1 := bqF h1
 refine owl 15 [4, 24] ⟨[(24, .v (.bool false)), (4, VI v.checkE)], [(J45 v)]⟩ ?_
 refine cnF ?_
 refine skn ?_
 refine srl 2 [3] ⟨[(3, VI v.checkE)], [(J45 v)]⟩ ?_
 refine EL.ret ?_
 refine rqe (VI v.checkE) ?_
 rotate_left
 have g1 := bqT h1
 refine owr 4 ⟨(J49 s v), [(J45 v)]⟩ ?_
 refine ow2 ⟨(14, VI (List.length s.seats : Int)) :: (J49 s v), [(J45 v)]⟩ (oln Seat.cs s.seats (.s 13) 5) ?_
 refine owr 2 ⟨(16, .v (.bool (decide (v.node ≥ (List.length s.seats : Int))))) :: (15, .v (.bool (decide (v.node ≥ (List.length s.seats : Int))))) :: (14, VI (List.length s.seats : Int)) :: (J49 s v), [(J45 v)]⟩ ?_
 cases h2 : (decide (v.node ≥ (List.length s.seats : Int)))
 have g2 := of_decide_eq_false h2
 refine owr 4 ⟨(J50 s v), [(J45 v)]⟩ ?_
 refine ow2 ⟨(21, VI (List.length s.bids : Int)) :: (J50 s v), [(J45 v)]⟩ (oln Bid.cs s.bids (.s 20) 8) ?_
 refine owl 3 [4, 24] ⟨[(24, .v (.bool (decide (v.bid ≥ (List.length s.bids : Int))))), (4, VI v.checkE)], [(J45 v)]⟩ ?_
 cases h3 : (decide (v.bid ≥ (List.length s.bids : Int)))
 have g3 := of_decide_eq_false h3
 refine cnF ?_
 refine skn ?_
 refine srl 2 [3] ⟨[(3, VI v.checkE)], [(J45 v)]⟩ ?_
 refine EL.ret ?_
 refine rqe (VI v.checkE) ?_
 rotate_left
 have g3 := of_decide_eq_true h3
 refine cnT ?_
 refine roe 1 ⟨[(4, VI 3), (24, .v (.bool true))], [(J45 v)]⟩ ?_
 refine tN ?_
 refine srl 2 [3] ⟨[(3, VI 3)], [(J45 v)]⟩ ?_
 refine EL.ret ?_
 refine rqe (VI 3) ?_
 rotate_left
 have g2 := of_decide_eq_true h2
 refine owl 8 [4, 24] ⟨[(24, .v (.bool true)), (4, VI v.checkE)], [(J45 v)]⟩ ?_
 refine cnT ?_
 refine roe 1 ⟨[(4, VI 3), (24, .v (.bool true))], [(J45 v)]⟩ ?_
 refine tN ?_
 refine srl 2 [3] ⟨[(3, VI 3)], [(J45 v)]⟩ ?_
 refine EL.ret ?_
 refine rqe (VI 3) ?_
 rotate_left
 all_goals ((refine congrArg (fun n => VI n) ?_; simp only [Synod.voteE]; (repeat' split) <;> first | rfl | omega | (simp_all; done) | (simp_all; omega)))
section
variable (a3 : Bid) (k : Nat) (s : Synod) (xs : List Bid)
abbrev J62 := (a3.checkE s.voters.weights s.voters.need)
abbrev J51 : LS := [(8, .lst 8 (xs.map Bid.cs)), (0, .lst 8 (xs.map Bid.cs)), (1, .fn 41 [.pim [.lst 1 (s.voters.weights.map cI), VI s.voters.need, .lst 5 (s.seats.map Seat.cs), .lst 8 (s.bids.map Bid.cs), .lst 6 (s.votes.map Vote.cs)] 0])]
abbrev J52 : LS := [(10, VI 0), (9, VI (List.length xs : Int)), (8, .lst 8 (xs.map Bid.cs)), (1, .fn 41 [.pim [.lst 1 (s.voters.weights.map cI), VI s.voters.need, .lst 5 (s.seats.map Seat.cs), .lst 8 (s.bids.map Bid.cs), .lst 6 (s.votes.map Vote.cs)] 0])]
abbrev J53 : LS := [(1, .fn 41 [.pim [.lst 1 (s.voters.weights.map cI), VI s.voters.need, .lst 5 (s.seats.map Seat.cs), .lst 8 (s.bids.map Bid.cs), .lst 6 (s.votes.map Vote.cs)] 0]), (8, .lst 8 (xs.map Bid.cs)), (9, VI (List.length xs : Int)), (10, VI (k : Int))]
abbrev J54 : LS := (12, .pim [VI a3.time, VI a3.phase, .v (.string a3.own), .v (.string a3.value), VI a3.best.at_.time, VI a3.best.at_.who, .v (.string a3.best.data), .v (.int .u64 (a3.heard.n : Int))] 0) :: (11, .v (.bool true)) :: (J53 k s xs)
abbrev J55 : OB := some ⟨8, [[VI a3.time, VI a3.phase, .v (.string a3.own), .v (.string a3.value), VI a3.best.at_.time, VI a3.best.at_.who, .v (.string a3.best.data), .v (.int .u64 (a3.heard.n : Int))]]⟩
abbrev J56 : AV := .agg [VI a3.time, VI a3.phase, .v (.string a3.own), .v (.string a3.value), VI a3.best.at_.time, VI a3.best.at_.who, .v (.string a3.best.data), .v (.int .u64 (a3.heard.n : Int))]
abbrev J57 : LS := (15, (J56 a3)) :: (14, .fn 41 [.pim [.lst 1 (s.voters.weights.map cI), VI s.voters.need, .lst 5 (s.seats.map Seat.cs), .lst 8 (s.bids.map Bid.cs), .lst 6 (s.votes.map Vote.cs)] 0]) :: (6, .ref 0 8 0 0) :: (J53 k s xs)
abbrev J58 : LS := (16, VI (J62 a3 s)) :: (J57 a3 k s xs)
abbrev J59 : LS := (7, VI (J62 a3 s)) :: (J53 k s xs)
abbrev J60 : LS := [(18, .v (.bool false)), (7, VI (J62 a3 s)), (1, .fn 41 [.pim [.lst 1 (s.voters.weights.map cI), VI s.voters.need, .lst 5 (s.seats.map Seat.cs), .lst 8 (s.bids.map Bid.cs), .lst 6 (s.votes.map Vote.cs)] 0]), (8, .lst 8 (xs.map Bid.cs)), (9, VI (List.length xs : Int))]
abbrev J61 : LS := (10, VI ((k : Int) + 1)) :: (20, VI ((k : Int) + 1)) :: (J60 a3 s xs)
end
theorem firstB_fn (xs : List Bid) (s : Synod) (hx : xs.length ≤ 9223372036854775807) (hbig : s.Big) : Fn Tryd.prog 40 [.lst 8 (xs.map Bid.cs), .fn 41 [.pim [.lst 1 (s.voters.weights.map cI), VI s.voters.need, .lst 5 (s.seats.map Seat.cs), .lst 8 (s.bids.map Bid.cs), .lst 6 (s.votes.map Vote.cs)] 0]] (VI (firstE (fun b => b.checkE s.voters.weights s.voters.need) xs)) := by
 refine fnw F40_ok ?_
 refine srl 1 [0, 1] ⟨[(0, .lst 8 (xs.map Bid.cs)), (1, .fn 41 [.pim [.lst 1 (s.voters.weights.map cI), VI s.voters.need, .lst 5 (s.seats.map Seat.cs), .lst 8 (s.bids.map Bid.cs), .lst 6 (s.votes.map Vote.cs)] 0])], []⟩ ?_
 refine EL.seq ?_
 refine srr 1 ⟨(J51 s xs), []⟩ ?_
 refine ow2 ⟨(9, VI (List.length xs : Int)) :: (J51 s xs), []⟩ (oln Bid.cs xs (.s 8) 8) ?_
 refine owl 1 [1, 8, 9, 10] ⟨(J52 s xs), []⟩ ?_
 refine EL.block ?_
 refine EL.loopN (fun mM xX => ∃ (k : Nat), mM = xs.length - k ∧ (k ≤ xs.length ∧ firstE (fun b => b.checkE s.voters.weights s.voters.need) xs = firstE (fun b => b.checkE s.voters.weights s.voters.need) (xs.drop k)) ∧ xX = ⟨(J53 k s xs), []⟩) (y := (fun (k : Nat) => (⟨(J53 k s xs), []⟩ : L3)) 0) [1, 8, 9, 10] [] [] (by kernel_rfl) trivial ⟨0, rfl, by simp, rfl⟩ ?_
 rintro _ _ ⟨k, rfl, hI1, rfl⟩
 obtain ⟨hk, hs⟩ := hI1
 refine srl 1 [1, 8, 9, 10, 11] ⟨(11, .v (.bool (decide ((k : Int) < (List.length xs : Int))))) :: (J53 k s xs), []⟩ ?_
 refine EL.seq ?_
 cases h2 : (decide ((k : Int) < (List.length xs : Int)))
 have g2 := of_decide_eq_false h2
 have n2 : ¬ ((k) < (List.length xs)) := by omega
 refine cnF ?_
 refine EL.exit ?_
 refine tX ?_
 refine tX ?_
 refine iH ?_
 refine tN ?_
 refine srl 1 [4] ⟨[(4, VI 0)], []⟩ ?_
 refine EL.ret ?_
 refine rqe (VI 0) ?_
 rotate_left
 have g2 := of_decide_eq_true h2
 have n2 : ((k) < (List.length xs)) := by omega
 refine cnT ?_
 refine skn ?_
 refine EL.seq ?_
 refine EL.block ?_
 refine EL.sreg ?_
 obtain ⟨a3, ha3⟩ : ∃ y, xs[((k : Int) : Int).toNat]? = some y := idx_ex ⟨by omega, by omega⟩
 have iha3 : xs[k]? = some a3 := by simpa using ha3
 have dha3 := drop_get iha3
 refine ow2 ⟨(J54 a3 k s xs), []⟩ (oid Bid.cs xs (.s 8) (.s 10) 8 .i64 (k : Int) a3 (by omega) ha3) ?_
 refine owl 3 [1, 6, 8, 9, 10] ⟨(6, .ref 0 8 0 0) :: (J53 k s xs), [(J55 a3)]⟩ ?_
 refine srr 2 ⟨(J57 a3 k s xs), [(J55 a3)]⟩ ?_
 refine owg [(J56 a3), .pim [.lst 1 (s.voters.weights.map cI), VI s.voters.need, .lst 5 (s.seats.map Seat.cs), .lst 8 (s.bids.map Bid.cs), .lst 6 (s.votes.map Vote.cs)] 0] ⟨(J58 a3 k s xs), [(J55 a3)]⟩ (chk1_fn a3 s (by first | assumption | exact hbig)) ?_
 refine owl 1 [1, 7, 8, 9, 10] ⟨(J59 a3 k s xs), [(J55 a3)]⟩ ?_
 refine srl 2 [1, 7, 8, 9, 10, 18] ⟨(18, .v (.bool ((J62 a3 s) != 0))) :: (J59 a3 k s xs), [(J55 a3)]⟩ ?_
 cases h4 : ((a3.checkE s.voters.weights s.voters.need) != 0)
 have g4 := bnF h4
 refine cnF ?_
 refine EL.skip ?_
 refine iN ?_
 refine tN ?_
 refine EL.reg0 ?_
 refine owr 2 ⟨(10, VI (IntKind.i64.wrap ((k : Int) + 1))) :: (20, VI (IntKind.i64.wrap ((k : Int) + 1))) :: (J60 a3 s xs), [(J55 a3)]⟩ ?_
 have e5 := wr64 (n := (k : Int) + 1) (by omega)
 rw [e5]
 refine owe 0 ⟨(J61 a3 k s xs), [(J55 a3)]⟩ ?_
 refine tN ?_
 refine rE (live := [1, 8, 9, 10]) (src := []) (es := []) (y := (fun (k : Nat) => (⟨(J53 k s xs), []⟩ : L3)) (k + 1)) ?_ trivial ?_ ⟨(k + 1), rfl, ?_, rfl⟩
 kernel_rfl
 omega
 focus (refine ⟨by omega, ?_⟩; rw [hs]; simp [firstE, *])
 have g4 := bnT h4
 refine cnT ?_
 refine srl 2 [4] ⟨[(4, VI (J62 a3 s))], [(J55 a3)]⟩ ?_
 refine EL.ret ?_
 refine iR ?_
 refine tR ?_
 refine tR ?_
 refine iR ?_
 refine tR ?_
 refine rqe (VI (a3.checkE s.voters.weights s.voters.need)) ?_
 rotate_left
 all_goals ((refine congrArg (fun n => VI n) ?_; rw [hs]; first | (rw [List.drop_eq_nil_of_le (by omega)]; rfl) | (simp [firstE, *]; done)))
section
variable (a3 : Vote) (k : Nat) (s : Synod) (xs : List Vote)
abbrev J63 : LS := [(8, .lst 6 (xs.map Vote.cs)), (0, .lst 6 (xs.map Vote.cs)), (1, .fn 44 [.pim [.lst 1 (s.voters.weights.map cI), VI s.voters.need, .lst 5 (s.seats.map Seat.cs), .lst 8 (s.bids.map Bid.cs), .lst 6 (s.votes.map Vote.cs)] 0])]
abbrev J64 : LS := [(10, VI 0), (9, VI (List.length xs : Int)), (8, .lst 6 (xs.map Vote.cs)), (1, .fn 44 [.pim [.lst 1 (s.voters.weights.map cI), VI s.voters.need, .lst 5 (s.seats.map Seat.cs), .lst 8 (s.bids.map Bid.cs), .lst 6 (s.votes.map Vote.cs)] 0])]
abbrev J65 : LS := [(1, .fn 44 [.pim [.lst 1 (s.voters.weights.map cI), VI s.voters.need, .lst 5 (s.seats.map Seat.cs), .lst 8 (s.bids.map Bid.cs), .lst 6 (s.votes.map Vote.cs)] 0]), (8, .lst 6 (xs.map Vote.cs)), (9, VI (List.length xs : Int)), (10, VI (k : Int))]
abbrev J66 : LS := (12, .pim [VI a3.kind, VI a3.bid, VI a3.node, VI a3.copy.at_.time, VI a3.copy.at_.who, .v (.string a3.copy.data)] 0) :: (11, .v (.bool true)) :: (J65 k s xs)
abbrev J67 : OB := some ⟨6, [[VI a3.kind, VI a3.bid, VI a3.node, VI a3.copy.at_.time, VI a3.copy.at_.who, .v (.string a3.copy.data)]]⟩
abbrev J68 : AV := .agg [VI a3.kind, VI a3.bid, VI a3.node, VI a3.copy.at_.time, VI a3.copy.at_.who, .v (.string a3.copy.data)]
abbrev J69 : LS := (15, (J68 a3)) :: (14, .fn 44 [.pim [.lst 1 (s.voters.weights.map cI), VI s.voters.need, .lst 5 (s.seats.map Seat.cs), .lst 8 (s.bids.map Bid.cs), .lst 6 (s.votes.map Vote.cs)] 0]) :: (6, .ref 0 6 0 0) :: (J65 k s xs)
abbrev J70 : LS := [(18, .v (.bool false)), (7, VI (s.voteE a3)), (1, .fn 44 [.pim [.lst 1 (s.voters.weights.map cI), VI s.voters.need, .lst 5 (s.seats.map Seat.cs), .lst 8 (s.bids.map Bid.cs), .lst 6 (s.votes.map Vote.cs)] 0]), (8, .lst 6 (xs.map Vote.cs)), (9, VI (List.length xs : Int))]
abbrev J71 : LS := (10, VI ((k : Int) + 1)) :: (20, VI ((k : Int) + 1)) :: (J70 a3 s xs)
end
theorem firstV_fn (xs : List Vote) (s : Synod) (hx : xs.length ≤ 9223372036854775807) (hbig : s.Big) : Fn Tryd.prog 43 [.lst 6 (xs.map Vote.cs), .fn 44 [.pim [.lst 1 (s.voters.weights.map cI), VI s.voters.need, .lst 5 (s.seats.map Seat.cs), .lst 8 (s.bids.map Bid.cs), .lst 6 (s.votes.map Vote.cs)] 0]] (VI (firstE (s.voteE) xs)) := by
 refine fnw F43_ok ?_
 refine srl 1 [0, 1] ⟨[(0, .lst 6 (xs.map Vote.cs)), (1, .fn 44 [.pim [.lst 1 (s.voters.weights.map cI), VI s.voters.need, .lst 5 (s.seats.map Seat.cs), .lst 8 (s.bids.map Bid.cs), .lst 6 (s.votes.map Vote.cs)] 0])], []⟩ ?_
 refine EL.seq ?_
 refine srr 1 ⟨(J63 s xs), []⟩ ?_
 refine ow2 ⟨(9, VI (List.length xs : Int)) :: (J63 s xs), []⟩ (oln Vote.cs xs (.s 8) 6) ?_
 refine owl 1 [1, 8, 9, 10] ⟨(J64 s xs), []⟩ ?_
 refine EL.block ?_
 refine EL.loopN (fun mM xX => ∃ (k : Nat), mM = xs.length - k ∧ (k ≤ xs.length ∧ firstE (s.voteE) xs = firstE (s.voteE) (xs.drop k)) ∧ xX = ⟨(J65 k s xs), []⟩) (y := (fun (k : Nat) => (⟨(J65 k s xs), []⟩ : L3)) 0) [1, 8, 9, 10] [] [] (by kernel_rfl) trivial ⟨0, rfl, by simp, rfl⟩ ?_
 rintro _ _ ⟨k, rfl, hI1, rfl⟩
 obtain ⟨hk, hs⟩ := hI1
 refine srl 1 [1, 8, 9, 10, 11] ⟨(11, .v (.bool (decide ((k : Int) < (List.length xs : Int))))) :: (J65 k s xs), []⟩ ?_
 refine EL.seq ?_
 cases h2 : (decide ((k : Int) < (List.length xs : Int)))
 have g2 := of_decide_eq_false h2
 have n2 : ¬ ((k) < (List.length xs)) := by omega
 refine cnF ?_
 refine EL.exit ?_
 refine tX ?_
 refine tX ?_
 refine iH ?_
 refine tN ?_
 refine srl 1 [4] ⟨[(4, VI 0)], []⟩ ?_
 refine EL.ret ?_
 refine rqe (VI 0) ?_
 rotate_left
 have g2 := of_decide_eq_true h2
 have n2 : ((k) < (List.length xs)) := by omega
 refine cnT ?_
 refine skn ?_
 refine EL.seq ?_
 refine EL.block ?_
 refine EL.sreg ?_
 obtain ⟨a3, ha3⟩ : ∃ y, xs[((k : Int) : Int).toNat]? = some y := idx_ex ⟨by omega, by omega⟩
 have iha3 : xs[k]? = some a3 := by simpa using ha3
 have dha3 := drop_get iha3
 refine ow2 ⟨(J66 a3 k s xs), []⟩ (oid Vote.cs xs (.s 8) (.s 10) 6 .i64 (k : Int) a3 (by omega) ha3) ?_
 refine owl 3 [1, 6, 8, 9, 10] ⟨(6, .ref 0 6 0 0) :: (J65 k s xs), [(J67 a3)]⟩ ?_
 refine srr 2 ⟨(J69 a3 k s xs), [(J67 a3)]⟩ ?_
 refine owg [(J68 a3), .pim [.lst 1 (s.voters.weights.map cI), VI s.voters.need, .lst 5 (s.seats.map Seat.cs), .lst 8 (s.bids.map Bid.cs), .lst 6 (s.votes.map Vote.cs)] 0] ⟨(16, VI (s.voteE a3)) :: (J69 a3 k s xs), [(J67 a3)]⟩ (chk2_fn a3 s (by first | assumption | exact hbig)) ?_
 refine owl 1 [1, 7, 8, 9, 10] ⟨(7, VI (s.voteE a3)) :: (J65 k s xs), [(J67 a3)]⟩ ?_
 refine srl 2 [1, 7, 8, 9, 10, 18] ⟨(18, .v (.bool ((s.voteE a3) != 0))) :: (7, VI (s.voteE a3)) :: (J65 k s xs), [(J67 a3)]⟩ ?_
 cases h4 : ((s.voteE a3) != 0)
 have g4 := bnF h4
 refine cnF ?_
 refine EL.skip ?_
 refine iN ?_
 refine tN ?_
 refine EL.reg0 ?_
 refine owr 2 ⟨(10, VI (IntKind.i64.wrap ((k : Int) + 1))) :: (20, VI (IntKind.i64.wrap ((k : Int) + 1))) :: (J70 a3 s xs), [(J67 a3)]⟩ ?_
 have e5 := wr64 (n := (k : Int) + 1) (by omega)
 rw [e5]
 refine owe 0 ⟨(J71 a3 k s xs), [(J67 a3)]⟩ ?_
 refine tN ?_
 refine rE (live := [1, 8, 9, 10]) (src := []) (es := []) (y := (fun (k : Nat) => (⟨(J65 k s xs), []⟩ : L3)) (k + 1)) ?_ trivial ?_ ⟨(k + 1), rfl, ?_, rfl⟩
 kernel_rfl
 omega
 focus (refine ⟨by omega, ?_⟩; rw [hs]; simp [firstE, *])
 have g4 := bnT h4
 refine cnT ?_
 refine srl 2 [4] ⟨[(4, VI (s.voteE a3))], [(J67 a3)]⟩ ?_
 refine EL.ret ?_
 refine iR ?_
 refine tR ?_
 refine tR ?_
 refine iR ?_
 refine tR ?_
 refine rqe (VI (s.voteE a3)) ?_
 rotate_left
 all_goals ((refine congrArg (fun n => VI n) ?_; rw [hs]; first | (rw [List.drop_eq_nil_of_le (by omega)]; rfl) | (simp [firstE, *]; done)))
section
variable (s : Synod)
abbrev J84 := (qcheckP s.voters.weights s.voters.need)
abbrev J85 := (firstE (Seat.checkE) s.seats)
abbrev J72 : OB := some ⟨5, [[.lst 1 (s.voters.weights.map cI), VI s.voters.need, .lst 5 (s.seats.map Seat.cs), .lst 8 (s.bids.map Bid.cs), .lst 6 (s.votes.map Vote.cs)]]⟩
abbrev J73 : LS := [(11, VI s.voters.need), (10, .ref 0 5 0 1), (9, .ref 0 5 0 0), (8, .lst 1 (s.voters.weights.map cI)), (7, .ref 0 5 0 0), (6, .ref 0 5 0 0), (1, .ref 0 5 0 0)]
abbrev J74 : LS := (12, VI (J84 s)) :: (J73 s)
abbrev J75 : LS := [(17, .lst 5 (s.seats.map Seat.cs)), (16, .ref 0 5 0 2), (14, .v (.bool false)), (3, VI (J84 s)), (1, .ref 0 5 0 0)]
abbrev J76 : LS := (21, .lst 1 (s.voters.weights.map cI)) :: (20, .ref 0 5 0 0) :: (19, .ref 0 5 0 0) :: (18, VI (List.length s.seats : Int)) :: (J75 s)
abbrev J77 : LS := (22, VI (List.length s.voters.weights : Int)) :: (J76 s)
abbrev J78 : LS := [(25, .lst 5 (s.seats.map Seat.cs)), (24, .ref 0 5 0 2), (23, .v (.bool false)), (1, .ref 0 5 0 0)]
abbrev J79 : LS := [(31, .lst 8 (s.bids.map Bid.cs)), (30, .ref 0 5 0 3), (28, .v (.bool false)), (4, VI (J85 s)), (1, .ref 0 5 0 0)]
abbrev J80 : LS := [(36, .fn 41 [.ref 0 5 0 0]), (35, .lst 8 (s.bids.map Bid.cs)), (34, .ref 0 5 0 3), (33, .v (.bool false)), (1, .ref 0 5 0 0)]
abbrev J81 : LS := (37, VI (firstE (fun b => b.checkE s.voters.weights s.voters.need) s.bids)) :: (J80 s)
abbrev J82 : LS := [(42, .lst 6 (s.votes.map Vote.cs)), (41, .ref 0 5 0 4), (39, .v (.bool false)), (5, VI (firstE (fun b => b.checkE s.voters.weights s.voters.need) s.bids)), (1, .ref 0 5 0 0)]
abbrev J83 : LS := [(47, .fn 44 [.ref 0 5 0 0]), (46, .lst 6 (s.votes.map Vote.cs)), (45, .ref 0 5 0 4), (44, .v (.bool false)), (1, .ref 0 5 0 0)]
end
theorem check_fn (s : Synod) (hx : s.Big) : Fn Tryd.prog 18 [.agg [.lst 1 (s.voters.weights.map cI), VI s.voters.need, .lst 5 (s.seats.map Seat.cs), .lst 8 (s.bids.map Bid.cs), .lst 6 (s.votes.map Vote.cs)]] (VI s.checkE) := by
 refine fnw F18_ok ?_
 refine srl 2 [1] ⟨[(1, .ref 0 5 0 0)], [(J72 s)]⟩ ?_
 refine EL.seq ?_
 refine srr 6 ⟨(J73 s), [(J72 s)]⟩ ?_
 refine owg [.lst 1 (s.voters.weights.map cI), VI s.voters.need] ⟨(J74 s), [(J72 s)]⟩ (qcheck_fn s.voters.weights s.voters.need (by first | omega | assumption | exact hx.1)) ?_
 refine owl 1 [1, 3] ⟨[(3, VI (J84 s)), (1, .ref 0 5 0 0)], [(J72 s)]⟩ ?_
 refine srl 2 [1, 3, 14] ⟨[(14, .v (.bool ((J84 s) != 0))), (3, VI (J84 s)), (1, .ref 0 5 0 0)], [(J72 s)]⟩ ?_
 cases h1 : ((qcheckP s.voters.weights s.voters.need) != 0)
 have g1 := bnF h1
 refine cnF ?_
 refine skn ?_
 refine EL.seq ?_
 refine srr 2 ⟨(J75 s), [(J72 s)]⟩ ?_
 refine ow2 ⟨(18, VI (List.length s.seats : Int)) :: (J75 s), [(J72 s)]⟩ (oln Seat.cs s.seats (.s 17) 5) ?_
 refine owr 3 ⟨(J76 s), [(J72 s)]⟩ ?_
 refine ow2 ⟨(J77 s), [(J72 s)]⟩ (oln cI s.voters.weights (.s 21) 1) ?_
 refine owl 1 [1, 23] ⟨[(23, .v (.bool ((List.length s.seats : Int) != (List.length s.voters.weights : Int)))), (1, .ref 0 5 0 0)], [(J72 s)]⟩ ?_
 cases h2 : ((List.length s.seats : Int) != (List.length s.voters.weights : Int))
 have g2 := bnF h2
 have n2 : ((List.length s.seats) = (List.length s.voters.weights)) := by omega
 refine cnF ?_
 refine skn ?_
 refine EL.seq ?_
 refine srr 2 ⟨(J78 s), [(J72 s)]⟩ ?_
 refine owg [.lst 5 (s.seats.map Seat.cs), .fn 39 []] ⟨(26, VI (J85 s)) :: (J78 s), [(J72 s)]⟩ (firstS_fn s.seats (by first | omega | exact hx.2.1 | exact hx.2.2.1 | exact hx.2.2.2)) ?_
 refine owl 1 [1, 4] ⟨[(4, VI (J85 s)), (1, .ref 0 5 0 0)], [(J72 s)]⟩ ?_
 refine srl 2 [1, 4, 28] ⟨[(28, .v (.bool ((J85 s) != 0))), (4, VI (J85 s)), (1, .ref 0 5 0 0)], [(J72 s)]⟩ ?_
 cases h3 : ((firstE (Seat.checkE) s.seats) != 0)
 have g3 := bnF h3
 refine cnF ?_
 refine skn ?_
 refine EL.seq ?_
 refine srr 2 ⟨(J79 s), [(J72 s)]⟩ ?_
 refine ow2 ⟨(32, VI (List.length s.bids : Int)) :: (J79 s), [(J72 s)]⟩ (oln Bid.cs s.bids (.s 31) 8) ?_
 refine owl 1 [1, 33] ⟨[(33, .v (.bool (decide ((List.length s.bids : Int) > 31)))), (1, .ref 0 5 0 0)], [(J72 s)]⟩ ?_
 cases h4 : (decide ((List.length s.bids : Int) > 31))
 have g4 := of_decide_eq_false h4
 have n4 : ¬ ((List.length s.bids) > 31) := by omega
 refine cnF ?_
 refine skn ?_
 refine EL.seq ?_
 refine srr 3 ⟨(J80 s), [(J72 s)]⟩ ?_
 refine owg [.lst 8 (s.bids.map Bid.cs), .fn 41 [.ref 0 5 0 0]] ⟨(J81 s), [(J72 s)]⟩ (firstB_fn s.bids s (by first | omega | exact hx.2.1 | exact hx.2.2.1 | exact hx.2.2.2) (by assumption)) ?_
 refine owl 1 [1, 5] ⟨[(5, VI (firstE (fun b => b.checkE s.voters.weights s.voters.need) s.bids)), (1, .ref 0 5 0 0)], [(J72 s)]⟩ ?_
 refine srl 2 [1, 5, 39] ⟨[(39, .v (.bool ((firstE (fun b => b.checkE s.voters.weights s.voters.need) s.bids) != 0))), (5, VI (firstE (fun b => b.checkE s.voters.weights s.voters.need) s.bids)), (1, .ref 0 5 0 0)], [(J72 s)]⟩ ?_
 cases h5 : ((firstE (fun b => b.checkE s.voters.weights s.voters.need) s.bids) != 0)
 have g5 := bnF h5
 refine cnF ?_
 refine skn ?_
 refine EL.seq ?_
 refine srr 2 ⟨(J82 s), [(J72 s)]⟩ ?_
 refine ow2 ⟨(43, VI (List.length s.votes : Int)) :: (J82 s), [(J72 s)]⟩ (oln Vote.cs s.votes (.s 42) 6) ?_
 refine owl 1 [1, 44] ⟨[(44, .v (.bool (decide ((List.length s.votes : Int) > 200)))), (1, .ref 0 5 0 0)], [(J72 s)]⟩ ?_
 cases h6 : (decide ((List.length s.votes : Int) > 200))
 have g6 := of_decide_eq_false h6
 have n6 : ¬ ((List.length s.votes) > 200) := by omega
 refine cnF ?_
 refine skn ?_
 refine srr 3 ⟨(J83 s), [(J72 s)]⟩ ?_
 refine owg [.lst 6 (s.votes.map Vote.cs), .fn 44 [.ref 0 5 0 0]] ⟨(48, VI (firstE (s.voteE) s.votes)) :: (J83 s), [(J72 s)]⟩ (firstV_fn s.votes s (by first | omega | exact hx.2.1 | exact hx.2.2.1 | exact hx.2.2.2) (by assumption)) ?_
 refine owl 1 [2] ⟨[(2, VI (firstE (s.voteE) s.votes))], [(J72 s)]⟩ ?_
 refine EL.ret ?_
 refine rqe (VI (firstE (s.voteE) s.votes)) ?_
 rotate_left
 have g6 := of_decide_eq_true h6
 have n6 : ((List.length s.votes) > 200) := by omega
 refine cnT ?_
 refine srl 1 [2] ⟨[(2, VI 2)], [(J72 s)]⟩ ?_
 refine rtr ?_
 refine rqe (VI 2) ?_
 rotate_left
 have g5 := bnT h5
 refine cnT ?_
 refine srl 2 [2] ⟨[(2, VI (firstE (fun b => b.checkE s.voters.weights s.voters.need) s.bids))], [(J72 s)]⟩ ?_
 refine rtr ?_
 refine rqe (VI (firstE (fun b => b.checkE s.voters.weights s.voters.need) s.bids)) ?_
 rotate_left
 have g4 := of_decide_eq_true h4
 have n4 : ((List.length s.bids) > 31) := by omega
 refine cnT ?_
 refine srl 1 [2] ⟨[(2, VI 2)], [(J72 s)]⟩ ?_
 refine rtr ?_
 refine rqe (VI 2) ?_
 rotate_left
 have g3 := bnT h3
 refine cnT ?_
 refine srl 2 [2] ⟨[(2, VI (J85 s))], [(J72 s)]⟩ ?_
 refine rtr ?_
 refine rqe (VI (firstE (Seat.checkE) s.seats)) ?_
 rotate_left
 have g2 := bnT h2
 have n2 : ¬ ((List.length s.seats) = (List.length s.voters.weights)) := by omega
 refine cnT ?_
 refine srl 1 [2] ⟨[(2, VI 1)], [(J72 s)]⟩ ?_
 refine rtr ?_
 refine rqe (VI 1) ?_
 rotate_left
 have g1 := bnT h1
 refine cnT ?_
 refine srl 2 [2] ⟨[(2, VI (J84 s))], [(J72 s)]⟩ ?_
 refine rtr ?_
 refine rqe (VI (qcheckP s.voters.weights s.voters.need)) ?_
 rotate_left
 all_goals ((refine congrArg (fun n => VI n) ?_; clear hx; simp only [Synod.checkE]; (repeat' split) <;> first | rfl | omega | contradiction | (simp_all; done) | (simp_all; omega)))
section
variable (k : Nat) (out : List Seat) (v : Voters)
end
section
variable (a13 : Bid) (a20 : Vote) (a6 : Seat) (i : Nat) (j : Nat) (k : Nat) (s : Synod)
end
section
variable (l : List Vote) (n : Int)
end
section
variable (a2 : Bid) (i : Int) (s : Synod)
end
def Bound (s : Synod) : Prop := ∀ st, st ∈ s.seats → st.promised = zst ∨ ∃ (i : Nat) (b : Bid), s.bids[i]? = some b ∧ st.promised = ⟨b.time, i⟩
theorem hear_time {v : Voters} {no : Int} {b : Bid} {m : Vote} (h : (hearP v no b m).2.2 = 0) : (hearP v no b m).1.time = b.time := by
  rcases hear_full h with e | ⟨_, _, _, _, _, e | ⟨_, e⟩⟩
  · rw [e]
  · rw [e]; rfl
  · rw [e]; unfold onP; split <;> rfl
theorem Nxt.times {s t : Synod} (h : Nxt s t) {i : Nat} {b : Bid} (hb : s.bids[i]? = some b) : ∃ b' : Bid, t.bids[i]? = some b' ∧ b'.time = b.time := by
  cases h with
  | moves hw hs hb2 hv => rw [hb2]; exact ⟨b, hb, rfl⟩
  | begins h hw hs hb2 hv => rw [hb2, List.getElem?_append_left (List.getElem?_eq_some_iff.1 hb).1]; exact ⟨b, hb, rfl⟩
  | serves hm hk hn hst he hw hs hb2 hv => rw [hb2]; exact ⟨b, hb, rfl⟩
  | @hears m b' hm h0 hbd he hw hs hb2 hv =>
    rw [hb2]
    by_cases hi : i = m.bid.toNat
    · subst hi
      rw [hbd] at hb; obtain rfl := Option.some.inj hb
      exact ⟨_, set_get hbd, hear_time he⟩
    · rw [set_ne hi]; exact ⟨b, hb, rfl⟩
theorem serve_prom {s : Seat} {v : Vote} (h : (s.serveP v).2.2 = 0) : (s.serveP v).1.promised = v.copy.at_ ∨ (s.serveP v).1.promised = s.promised := by
  rcases serve_cases s v with ⟨c, e⟩ | ⟨_, c, e⟩ | ⟨_, _, ⟨_, _, e⟩ | ⟨_, _, e⟩ | ⟨_, _, e⟩⟩
  · rw [e] at h; exact absurd h c
  · rw [e] at h; exact absurd h c
  · rw [e]; exact .inl rfl
  · rw [e]; exact .inl rfl
  · rw [e]; exact .inr rfl
theorem Inv.asks {s : Synod} {H : Hist} (I : Inv s H) {m : Vote} (hm : m ∈ s.votes) (hk : m.kind = 1 ∨ m.kind = 3) : ∃ b : Bid, 0 ≤ m.bid ∧ s.bids[m.bid.toNat]? = some b ∧ m.copy.at_ = ⟨b.time, m.bid⟩ ∧ (m.kind = 3 → 2 ≤ b.phase) := by
  rcases hk with hk | hk
  · obtain ⟨b, h1, h2, h3⟩ := I.v1 m hm hk
    exact ⟨b, h1, h2, h3, fun h => by omega⟩
  · obtain ⟨b, h1, h2, h3, h4⟩ := I.v3 m hm hk
    exact ⟨b, h1, h2, by rw [h3], fun _ => h4⟩
theorem Bound.mono {s t : Synod} (B : Bound s) (h : Nxt s t) {st : Seat} (hs : st ∈ s.seats) : st.promised = zst ∨ ∃ (i : Nat) (b : Bid), t.bids[i]? = some b ∧ st.promised = ⟨b.time, i⟩ := by
  rcases B st hs with e | ⟨i, b, h1, h2⟩
  · exact .inl e
  · obtain ⟨b', k1, k2⟩ := h.times h1
    exact .inr ⟨i, b', k1, by rw [k2, h2]⟩
theorem Bound.step {s t : Synod} {H : Hist} (B : Bound s) (I : Inv s H) (h : Nxt s t) : Bound t := by
  intro st hst
  have hM := fun (x : Seat) (hx : x ∈ s.seats) => B.mono h hx
  cases h with
  | moves hw hs hb2 hv => rw [hs] at hst; exact hM st hst
  | begins h hw hs hb2 hv => rw [hs] at hst; exact hM st hst
  | hears hm h0 hbd he hw hs hb2 hv => rw [hs] at hst; exact hM st hst
  | @serves m st0 hm hk hn hs0 he hw hs hb2 hv =>
    rw [hs] at hst
    rcases mem_set' hst with rfl | hst
    · rcases serve_prom he with e | e
      · obtain ⟨b, h1, h2, h3, _⟩ := I.asks hm hk
        refine .inr ⟨m.bid.toNat, b, by rw [hb2]; exact h2, ?_⟩
        rw [e, h3, show ((m.bid.toNat : Nat) : Int) = m.bid by omega]
      · rw [e]; exact hM st0 (List.mem_of_getElem? hs0)
    · exact hM st hst
theorem Runs.bound {s t : Synod} (h : Runs s t) : ∀ {H : Hist}, Inv s H → Bound s → Bound t := by
  induction h with
  | nil => exact fun _ B => B
  | step h _ ih =>
    intro H I B
    obtain ⟨H1, I1, _⟩ := I.step h
    exact ih I1 (B.step I h)
theorem Bound.start (v : Voters) : Bound (Synod.new v) := by
  intro st hst
  simp only [Synod.new, List.mem_replicate] at hst
  rw [hst.2]; exact .inl rfl
def W1 (votes : List Vote) (seats : List Seat) (n : Nat) (T : Int) (b : Bid) (j : Nat) : Prop :=
  inS b.heard.n j = true ∨ (∃ q, q ∈ votes ∧ q.kind = 2 ∧ q.bid = n ∧ q.node = j) ∨ (∃ q, q ∈ votes ∧ q.kind = 1 ∧ q.bid = n ∧ q.node = j) ∧ ∀ st, seats[j]? = some st → st.promised.lt ⟨T, n⟩
def W2 (votes : List Vote) (n : Nat) (T : Int) (b : Bid) (j : Nat) : Prop :=
  inS b.heard.n j = true ∨ (∃ q, q ∈ votes ∧ q.kind = 4 ∧ q.bid = n ∧ q.node = j ∧ q.copy.at_ = ⟨T, n⟩) ∨ (∃ q, q ∈ votes ∧ q.kind = 3 ∧ q.bid = n ∧ q.node = j)
structure Live (s : Synod) (n : Nat) (T : Int) : Prop where
  low : ∀ st, st ∈ s.seats → ¬ (⟨T, n⟩ : Stamp).lt st.promised
  other : ∀ (i : Nat) (b : Bid), s.bids[i]? = some b → i ≠ n → b.time < T
  bid : ∃ b, s.bids[n]? = some b ∧ b.time = T ∧ (b.phase = 3 ∨ bsum s.voters.weights b.heard.n < s.voters.need ∧ (b.phase = 1 ∧ (∀ j, j < s.voters.weights.length → W1 s.votes s.seats n T b j) ∨ b.phase = 2 ∧ ∀ j, j < s.voters.weights.length → W2 s.votes n T b j))
theorem bsum_full : ∀ (ws : List Int) (x : Nat), (∀ j, j < ws.length → inS x j = true) → bsum ws x = lsum ws
  | [], x, _ => rfl
  | w :: ws, x, h => by
    have h0 := h 0 (by simp)
    have h1 : x % 2 = 1 := by simpa [inS] using h0
    have ih := bsum_full ws (x / 2) fun j hj => by
      have := h (j + 1) (by simp; omega)
      rw [inS_bit] at this ⊢
      rw [Nat.testBit_succ] at this; exact this
    simp only [bsum, if_pos h1, lsum, ih]
theorem live_serve {s t : Synod} {H : Hist} (I : Inv s H) (ok : s.Ok) {n : Nat} {T : Int} (L : Live s n T) {m : Vote} {r : List Vote} (hv : s.votes = m :: r) {st : Seat} (hk : m.kind = 1 ∨ m.kind = 3) (hst : s.seats[m.node.toNat]? = some st)
    (hw : t.voters = s.voters) (hs : t.seats = s.seats.set m.node.toNat (st.serveP m).1) (hb : t.bids = s.bids) (hq : t.votes = r ++ (st.serveP m).2.1) : Live t n T := by
  have hm : m ∈ s.votes := by rw [hv]; simp
  obtain ⟨w1, w2, w3⟩ := ok.votes m hm
  have hr := vote_rng w1
  have hse := ok.seats st (List.mem_of_getElem? hst)
  have he := serve_noerr hse w1
  have hprom := serve_prom he
  obtain ⟨b, hbn, hbt, hphase⟩ := L.bid
  obtain ⟨b', a1, a2, a3, a4⟩ := I.asks hm hk
  have hown : m.bid = n → m.copy.at_ = ⟨T, n⟩ ∧ b' = b := by
    intro e
    rw [e] at a2 a3
    rw [show ((n : Int)).toNat = n by omega] at a2
    rw [hbn] at a2; obtain rfl := Option.some.inj a2
    exact ⟨by rw [a3, hbt], rfl⟩
  have hoth : m.bid ≠ n → m.copy.at_.lt ⟨T, n⟩ := by
    intro e
    have := L.other _ b' a2 (by omega)
    rw [a3]; exact .inl this
  have hle : ¬ (⟨T, n⟩ : Stamp).lt m.copy.at_ := by
    by_cases e : m.bid = n
    · rw [(hown e).1]; exact self_lt
    · have := hoth e; unfold Stamp.lt at *; dsimp only at *; omega
  have hkeep : ∀ q, q ∈ s.votes → q ≠ m → q ∈ t.votes := by
    intro q h1 h2
    rw [hv] at h1
    rw [hq]
    rcases List.mem_cons.1 h1 with h1 | h1
    · exact absurd h1 h2
    · exact List.mem_append_left _ h1
  refine ⟨fun x hx => ?_, fun i d hd => by rw [hb] at hd; exact L.other i d hd, b, by rw [hb]; exact hbn, hbt, ?_⟩
  · rw [hs] at hx
    rcases mem_set' hx with rfl | hx
    · rcases hprom with e | e
      · rw [e]; exact hle
      · rw [e]; exact L.low st (List.mem_of_getElem? hst)
    · exact L.low x hx
  · rcases hphase with h | ⟨h, ⟨hp, hj⟩ | ⟨hp, hj⟩⟩
    · exact .inl h
    · refine .inr ⟨by rw [hw]; exact h, .inl ⟨hp, fun j hjl => ?_⟩⟩
      rw [hw] at hjl
      rcases hj j hjl with k | ⟨q, q1, q2, q3, q4⟩ | ⟨⟨q, q1, q2, q3, q4⟩, k⟩
      · exact .inl k
      · exact .inr (.inl ⟨q, hkeep q q1 (fun e => by subst e; omega), q2, q3, q4⟩)
      · by_cases hn : m.bid = n
        · have hk1 : m.kind = 1 := by
            rcases hk with hk | hk
            · exact hk
            · have := a4 hk; rw [(hown hn).2] at this; omega
          by_cases hjm : m.node = j
          · rw [show m.node.toNat = j by omega] at hst
            have hlt := k st hst
            rcases serve_cases st m with ⟨c, _⟩ | ⟨_, c, _⟩ | ⟨_, _, ⟨_, _, e⟩ | ⟨c, _, e⟩ | ⟨c, _, e⟩⟩
            · exact absurd hse c
            · exact absurd w1 c
            · exact .inr (.inl ⟨⟨2, m.bid, m.node, st.kept⟩, by rw [hq, e]; exact List.mem_append_right _ (List.mem_singleton.2 rfl), rfl, hn, hjm⟩)
            · omega
            · exact absurd ⟨hk1, by rw [(hown hn).1]; exact hlt⟩ c
          · refine .inr (.inr ⟨⟨q, hkeep q q1 (fun e => by subst e; omega), q2, q3, q4⟩, fun x hx => ?_⟩)
            rw [hs, set_ne (by omega)] at hx; exact k x hx
        · refine .inr (.inr ⟨⟨q, hkeep q q1 (fun e => by subst e; omega), q2, q3, q4⟩, fun x hx => ?_⟩)
          rw [hs] at hx
          rcases get_set hx with ⟨rfl, rfl⟩ | ⟨_, hx⟩
          · rcases hprom with e | e
            · rw [e]; exact hoth hn
            · rw [e]; exact k st hst
          · exact k x hx
    · refine .inr ⟨by rw [hw]; exact h, .inr ⟨hp, fun j hjl => ?_⟩⟩
      rw [hw] at hjl
      rcases hj j hjl with k | ⟨q, q1, q2, q3, q4, q5⟩ | ⟨q, q1, q2, q3, q4⟩
      · exact .inl k
      · exact .inr (.inl ⟨q, hkeep q q1 (fun e => by subst e; omega), q2, q3, q4, q5⟩)
      · by_cases hqm : q = m
        · subst hqm
          have hlow := L.low st (List.mem_of_getElem? hst)
          have hat := (hown q3).1
          rcases serve_cases st q with ⟨c, _⟩ | ⟨_, c, _⟩ | ⟨_, _, ⟨c, _, e⟩ | ⟨c, _, e⟩ | ⟨_, c, e⟩⟩
          · exact absurd hse c
          · exact absurd w1 c
          · omega
          · exact .inr (.inl ⟨⟨4, q.bid, q.node, ⟨q.copy.at_, ⟨#[]⟩⟩⟩, by rw [hq, e]; exact List.mem_append_right _ (List.mem_singleton.2 rfl), rfl, q3, q4, hat⟩)
          · exact absurd ⟨q2, by rw [hat]; exact hlow⟩ c
        · exact .inr (.inr ⟨q, hkeep q q1 hqm, q2, q3, q4⟩)
theorem hear_not {v : Voters} {no : Int} {b : Bid} {m : Vote} (h0 : 0 ≤ no ∧ no ≤ 30) (h1 : b.checkE v.weights v.need = 0) (h2 : m.checkE = 0) (h : ¬ (m.bid = no ∧ fitsP b no m = true ∧ ¬ m.node ≥ v.weights.length ∧ inS b.heard.n m.node.toNat = false)) : hearP v no b m = (b, [], 0) := by
  unfold hearP
  rw [if_neg (fun hh => hh h0), if_neg (fun hh => hh h1), if_neg (fun hh => hh h2), if_pos]
  by_cases k1 : m.bid = no
  · by_cases k2 : fitsP b no m = true
    · by_cases k3 : m.node ≥ v.weights.length
      · exact .inr (.inr (.inl k3))
      · by_cases k4 : (andU b.heard m.node.toNat).n = 0
        · exact absurd ⟨k1, k2, k3, and_bit.1 k4⟩ h
        · exact .inr (.inr (.inr k4))
    · exact .inr (.inl (by simpa using k2))
  · exact .inl k1
theorem live_hear {s t : Synod} (ok : s.Ok) {n : Nat} {T : Int} (L : Live s n T) {m : Vote} {r : List Vote} (hv : s.votes = m :: r) {d : Bid} (hk : m.kind = 2 ∨ m.kind = 4) (hd : s.bids[m.bid.toNat]? = some d)
    (hw : t.voters = s.voters) (hs : t.seats = s.seats) (hb : t.bids = s.bids.set m.bid.toNat (hearP s.voters m.bid d m).1) (hq : t.votes = r ++ (hearP s.voters m.bid d m).2.1) : Live t n T := by
  have hm : m ∈ s.votes := by rw [hv]; simp
  obtain ⟨w1, w2, w3⟩ := ok.votes m hm
  have hr := vote_rng w1
  have hde := ok.bids d (List.mem_of_getElem? hd)
  have he := hear_noerr hr.2.1 hde w1
  have htime := hear_time he
  have hq0 := ok.q
  have hlen := qc_len hq0
  obtain ⟨b, hbn, hbt, hphase⟩ := L.bid
  have hkeep : ∀ q, q ∈ s.votes → q ≠ m → q ∈ t.votes := by
    intro q h1 h2
    rw [hv] at h1
    rw [hq]
    rcases List.mem_cons.1 h1 with h1 | h1
    · exact absurd h1 h2
    · exact List.mem_append_left _ h1
  refine ⟨fun x hx => by rw [hs] at hx; exact L.low x hx, fun i x hx hi => ?_, ?_⟩
  · rw [hb] at hx
    rcases get_set hx with ⟨rfl, rfl⟩ | ⟨_, hx⟩
    · rw [htime]; exact L.other _ d hd hi
    · exact L.other i x hx hi
  · rw [hw, hs]
    by_cases hn : m.bid = n
    · have hd' := hd
      rw [hn, show ((n : Int)).toNat = n by omega, hbn] at hd'
      obtain rfl := Option.some.inj hd'
      have hget : t.bids[n]? = some (hearP s.voters m.bid b m).1 := by
        rw [hb]
        have := set_get (x := (hearP s.voters m.bid b m).1) hd
        rw [show m.bid.toNat = n by omega] at this ⊢; exact this
      refine ⟨_, hget, by rw [htime, hbt], ?_⟩
      by_cases hf : m.bid = m.bid ∧ fitsP b m.bid m = true ∧ ¬ m.node ≥ s.voters.weights.length ∧ inS b.heard.n m.node.toNat = false
      · obtain ⟨_, f1, f2, f3⟩ := hf
        have hy := hear_yes (v := s.voters) hr.2.1 hde w1 rfl f1 f2 f3
        have hbk := bid_ok hde
        by_cases hen : bsum s.voters.weights (orU b.heard m.node.toNat).n < s.voters.need
        · rw [if_pos hen] at hy
          rw [hy]
          have hin : ∀ j : Nat, inS b.heard.n j = true → inS (heardP b m).heard.n j = true := fun j h => (or_mem (by omega)).2 (.inl h)
          rcases hphase with h | ⟨h, ⟨hp, hj⟩ | ⟨hp, hj⟩⟩
          · exact .inl h
          · refine .inr ⟨hen, .inl ⟨hp, fun j hjl => ?_⟩⟩
            rcases hj j hjl with k | ⟨q, q1, q2, q3, q4⟩ | ⟨⟨q, q1, q2, q3, q4⟩, k⟩
            · exact .inl (hin j k)
            · by_cases hqm : q = m
              · subst hqm; exact .inl ((or_mem (by omega)).2 (.inr (by omega)))
              · exact .inr (.inl ⟨q, hkeep q q1 hqm, q2, q3, q4⟩)
            · exact .inr (.inr ⟨⟨q, hkeep q q1 (fun e => by subst e; omega), q2, q3, q4⟩, k⟩)
          · refine .inr ⟨hen, .inr ⟨hp, fun j hjl => ?_⟩⟩
            rcases hj j hjl with k | ⟨q, q1, q2, q3, q4, q5⟩ | ⟨q, q1, q2, q3, q4⟩
            · exact .inl (hin j k)
            · by_cases hqm : q = m
              · subst hqm; exact .inl ((or_mem (by omega)).2 (.inr (by omega)))
              · exact .inr (.inl ⟨q, hkeep q q1 hqm, q2, q3, q4, q5⟩)
            · exact .inr (.inr ⟨q, hkeep q q1 (fun e => by subst e; omega), q2, q3, q4⟩)
        · rw [if_neg hen] at hy
          rw [hy]
          unfold onP
          by_cases hp2 : (heardP b m).phase = 2
          · rw [if_pos hp2]; exact .inl rfl
          · rw [if_neg hp2]
            have hneed := qc_need hq0
            refine .inr ⟨?_, .inr ⟨rfl, fun j hjl => .inr (.inr ?_)⟩⟩
            · show bsum s.voters.weights 0 < s.voters.need; rw [bsum_zero]; omega
            · rw [hq, hy]; unfold onP; rw [if_neg hp2]
              exact ⟨_, List.mem_append_right _ (toAll_in hjl), rfl, hn, rfl⟩
      · have hnn := hear_not (v := s.voters) hr.2.1 hde w1 hf
        rw [hnn]
        have hf2 : fitsP b m.bid m = true → ¬ m.node ≥ s.voters.weights.length → inS b.heard.n m.node.toNat = true := fun h1 h2 => by
          cases h3 : inS b.heard.n m.node.toNat with
          | true => rfl
          | false => exact absurd ⟨rfl, h1, h2, h3⟩ hf
        rcases hphase with h | ⟨h, ⟨hp, hj⟩ | ⟨hp, hj⟩⟩
        · exact .inl h
        · refine .inr ⟨h, .inl ⟨hp, fun j hjl => ?_⟩⟩
          rcases hj j hjl with k | ⟨q, q1, q2, q3, q4⟩ | ⟨⟨q, q1, q2, q3, q4⟩, k⟩
          · exact .inl k
          · by_cases hqm : q = m
            · subst hqm
              have := hf2 (by unfold fitsP; rw [if_pos hp]; simpa using q2) (by omega)
              rw [show q.node.toNat = j by omega] at this; exact .inl this
            · exact .inr (.inl ⟨q, hkeep q q1 hqm, q2, q3, q4⟩)
          · exact .inr (.inr ⟨⟨q, hkeep q q1 (fun e => by subst e; omega), q2, q3, q4⟩, k⟩)
        · refine .inr ⟨h, .inr ⟨hp, fun j hjl => ?_⟩⟩
          rcases hj j hjl with k | ⟨q, q1, q2, q3, q4, q5⟩ | ⟨q, q1, q2, q3, q4⟩
          · exact .inl k
          · by_cases hqm : q = m
            · subst hqm
              have := hf2 (by unfold fitsP; rw [if_neg (by omega), if_pos hp, decide_eq_true_eq, q5]; exact ⟨q2, hbt.symm, hn.symm⟩) (by omega)
              rw [show q.node.toNat = j by omega] at this; exact .inl this
            · exact .inr (.inl ⟨q, hkeep q q1 hqm, q2, q3, q4, q5⟩)
          · exact .inr (.inr ⟨q, hkeep q q1 (fun e => by subst e; omega), q2, q3, q4⟩)
    · refine ⟨b, by rw [hb, set_ne (by omega)]; exact hbn, hbt, ?_⟩
      rcases hphase with h | ⟨h, ⟨hp, hj⟩ | ⟨hp, hj⟩⟩
      · exact .inl h
      · refine .inr ⟨h, .inl ⟨hp, fun j hjl => ?_⟩⟩
        rcases hj j hjl with k | ⟨q, q1, q2, q3, q4⟩ | ⟨⟨q, q1, q2, q3, q4⟩, k⟩
        · exact .inl k
        · exact .inr (.inl ⟨q, hkeep q q1 (fun e => by subst e; exact hn q3), q2, q3, q4⟩)
        · exact .inr (.inr ⟨⟨q, hkeep q q1 (fun e => by subst e; exact hn q3), q2, q3, q4⟩, k⟩)
      · refine .inr ⟨h, .inr ⟨hp, fun j hjl => ?_⟩⟩
        rcases hj j hjl with k | ⟨q, q1, q2, q3, q4, q5⟩ | ⟨q, q1, q2, q3, q4⟩
        · exact .inl k
        · exact .inr (.inl ⟨q, hkeep q q1 (fun e => by subst e; exact hn q3), q2, q3, q4, q5⟩)
        · exact .inr (.inr ⟨q, hkeep q q1 (fun e => by subst e; exact hn q3), q2, q3, q4⟩)
theorem pass_eq {s : Synod} {m : Vote} {r : List Vote} (hv : s.votes = m :: r) : s.stepP 3 0 ⟨#[]⟩ = (({ s with votes := r } : Synod).passP m).manyP := by
  unfold Synod.stepP
  rw [if_neg (by omega), if_neg (by rintro ⟨_, h⟩; exact h rfl), if_neg (by decide), if_neg (fun hh => hh ⟨by decide, by rw [hv]; simp⟩)]
  have e : s.votes[(0 : Int).toNat]? = some m := by rw [hv]; rfl
  have e2 : s.away (0 : Int).toNat = { s with votes := r } := by unfold Synod.away; rw [hv]; rfl
  rw [e, e2]; rfl
theorem pass_err {s : Synod} (h : ¬ s.votes.length = 0) (h2 : ¬ (s.stepP 3 0 ⟨#[]⟩).2 = 0) : (s.stepP 3 0 ⟨#[]⟩).2 = 2 := by
  cases hv : s.votes with
  | nil => rw [hv] at h; exact absurd rfl h
  | cons m r =>
    rw [pass_eq hv] at h2 ⊢
    unfold Synod.manyP at h2 ⊢
    split at h2
    · rename_i h3; rw [if_pos h3]
    · exact absurd rfl h2
theorem live_pass {s : Synod} {H : Hist} (I : Inv s H) (ok : s.Ok) {n : Nat} {T : Int} (L : Live s n T) (h : ¬ s.votes.length = 0) (h2 : (s.stepP 3 0 ⟨#[]⟩).2 = 0) : Live (s.stepP 3 0 ⟨#[]⟩).1 n T := by
  cases hv : s.votes with
  | nil => rw [hv] at h; exact absurd rfl h
  | cons m r =>
    rw [pass_eq hv] at h2 ⊢
    rw [(many_ok h2).1]
    have hm : m ∈ s.votes := by rw [hv]; simp
    obtain ⟨w1, w2, w3⟩ := ok.votes m hm
    rcases passP_eq (s := { s with votes := r }) w1 w2 w3 with ⟨st, k, k2, e⟩ | ⟨b, k, k2, e⟩
    · rw [e]; exact live_serve I ok L hv k k2 rfl rfl rfl rfl
    · rw [e]; exact live_hear ok L hv k k2 rfl rfl rfl rfl
theorem live_end {s : Synod} (ok : s.Ok) {n : Nat} {T : Int} (L : Live s n T) (h : s.votes.length = 0) : ∃ b, s.bids[n]? = some b ∧ b.phase = 3 := by
  have hv : s.votes = [] := List.eq_nil_of_length_eq_zero h
  obtain ⟨b, hbn, hbt, hphase⟩ := L.bid
  have hneed := qc_need ok.q
  refine ⟨b, hbn, ?_⟩
  rcases hphase with h | ⟨h, ⟨hp, hj⟩ | ⟨hp, hj⟩⟩
  · exact h
  · exfalso
    have := bsum_full s.voters.weights b.heard.n fun j hjl => by
      rcases hj j hjl with k | ⟨q, q1, _⟩ | ⟨⟨q, q1, _⟩, _⟩
      · exact k
      · rw [hv] at q1; simp at q1
      · rw [hv] at q1; simp at q1
    omega
  · exfalso
    have := bsum_full s.voters.weights b.heard.n fun j hjl => by
      rcases hj j hjl with k | ⟨q, q1, _⟩ | ⟨q, q1, _⟩
      · exact k
      · rw [hv] at q1; simp at q1
      · rw [hv] at q1; simp at q1
    omega
theorem bid_eq {s : Synod} {T : Int} {own : ByteArray} : s.stepP 6 T own = s.bidP T own := by
  unfold Synod.stepP
  rw [if_neg (by omega), if_neg (by rintro ⟨h, _⟩; exact h rfl), if_pos rfl]
theorem live_begin {s : Synod} (ok : s.Ok) (B : Bound s) {T : Int} {own : ByteArray} (hT : ∀ b, b ∈ s.bids → b.time < T) (h0 : 0 < T) (h : (s.bidP T own).2 = 0) : Live (s.bidP T own).1 s.bids.length T := by
  unfold Synod.bidP at h ⊢
  by_cases h4 : s.bids.length = 31
  · rw [if_pos h4] at h; simp at h
  · rw [if_neg h4] at h ⊢
    by_cases h5 : (beginP s.voters s.bids.length T own).2.2 = 0
    · rw [if_neg (fun hh => hh h5)] at h ⊢
      rw [(many_ok h).1]
      clear h
      obtain ⟨a, b, c, d⟩ := begin_ok (v := s.voters) (no := s.bids.length) (time := T) (own := own) (b := (beginP s.voters s.bids.length T own).1) (l := (beginP s.voters s.bids.length T own).2.1) (Prod.ext rfl (Prod.ext rfl h5))
      rw [b, d]
      have hneed := qc_need ok.q
      have hlow : ∀ st, st ∈ s.seats → st.promised.time < T := by
        intro st hst
        rcases B st hst with e | ⟨i, x, h1, h2⟩
        · rw [e]; exact h0
        · rw [h2]; exact hT x (List.mem_of_getElem? h1)
      refine ⟨fun st hst => ?_, fun i x hx hi => ?_, Bid.new T own, ?_, rfl, .inr ⟨?_, .inl ⟨rfl, fun j hjl => .inr (.inr ⟨⟨_, List.mem_append_right _ (toAll_in hjl), rfl, rfl, rfl⟩, fun st hst => .inl (hlow st (List.mem_of_getElem? hst))⟩)⟩⟩⟩
      · have := hlow st hst
        unfold Stamp.lt; dsimp only; omega
      · dsimp only at hx
        rw [List.getElem?_append] at hx
        split at hx
        · exact hT x (List.mem_of_getElem? hx)
        · rename_i hh
          rw [List.getElem?_eq_none (by simp; omega)] at hx; simp at hx
      · show (s.bids ++ [Bid.new T own])[s.bids.length]? = _
        simp
      · show bsum s.voters.weights 0 < s.voters.need
        rw [bsum_zero]; omega
    · rw [if_pos h5] at h; exact absurd h h5
theorem begin_err {s : Synod} (ok : s.Ok) {t : Int} {own : ByteArray} (ht : 0 ≤ t ∧ t ≤ 1000000) (h : ¬ (s.bidP (t + 1) own).2 = 0) : t = 1000000 ∨ own.size > 64 ∨ s.bids.length = 31 ∨ (s.bidP (t + 1) own).2 = 2 := by
  unfold Synod.bidP at h ⊢
  by_cases h4 : s.bids.length = 31
  · exact .inr (.inr (.inl h4))
  · rw [if_neg h4] at h ⊢
    by_cases h5 : (beginP s.voters s.bids.length (t + 1) own).2.2 = 0
    · rw [if_neg (fun hh => hh h5)] at h ⊢
      unfold Synod.manyP at h ⊢
      split at h
      · rename_i h3; rw [if_pos h3]; exact .inr (.inr (.inr rfl))
      · exact absurd rfl h
    · by_cases h6 : t = 1000000
      · exact .inl h6
      · by_cases h7 : own.size > 64
        · exact .inr (.inl h7)
        · exfalso
          apply h5
          have hf := ok.few
          unfold beginP
          rw [if_neg (fun hh => hh ⟨by omega, by omega⟩), if_neg]
          intro hh
          exact hh (bid_mk ok.q ⟨by show 1 ≤ t + 1; omega, by show t + 1 ≤ 1000000; omega⟩ ⟨by show (1 : Int) ≤ 1; omega, by show (1 : Int) ≤ 3; omega⟩ ⟨by show own.size ≤ 64; omega, em64⟩ (by show Copy.checkE ⟨⟨0, 0⟩, ⟨#[]⟩⟩ = 0; decide) (Nat.two_pow_pos _))
end Go.Proofs.YtligepciannclaaDoor
