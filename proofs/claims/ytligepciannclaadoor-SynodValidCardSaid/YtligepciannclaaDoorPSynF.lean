/- What the document says of a run of a synod; are two of them one? No condition. -/
import Derived.Test.YtligepciannclaaDoorPSynL
import Derived.Test.YtligepciannclaaDoorPAvOwn
set_option maxRecDepth 100000
set_option maxHeartbeats 4000000
set_option linter.unusedVariables false
set_option linter.unusedSimpArgs false
namespace Go.Proofs.YtligepciannclaaDoor
theorem toAll_len (n : Nat) (m : Vote) : (toAllP n m).length = n := by simp [toAllP]
theorem begin_len (v : Voters) (no time : Int) (own : ByteArray) : (beginP v no time own).2.1.length ≤ 12 := by
  unfold beginP
  by_cases h1 : ¬ (0 ≤ no ∧ no ≤ 30)
  · rw [if_pos h1]; simp
  · rw [if_neg h1]
    by_cases h2 : (Bid.new time own).checkE v.weights v.need ≠ 0
    · rw [if_pos h2]; simp
    · rw [if_neg h2]
      have := bid_len (v := v) (b := Bid.new time own) (by omega)
      simp only [toAll_len]; exact this
theorem hear_len (v : Voters) (no : Int) (b : Bid) (m : Vote) : (hearP v no b m).2.1.length ≤ 12 := by
  unfold hearP
  by_cases h2 : b.checkE v.weights v.need = 0
  · have := bid_len h2
    (repeat' split) <;> first | (simp; done) | (unfold onP; split <;> simp [toAll_len]; omega)
  · rw [if_pos h2]; split <;> simp
theorem serve_len (s : Seat) (v : Vote) : (s.serveP v).2.1.length ≤ 1 := by
  unfold Seat.serveP
  (repeat' split) <;> simp
theorem app_le {a b k : Nat} (h : a ≤ 200) (hb : b ≤ 12) (hk : k ≤ 100) : (a + b) * k ≤ 140737488355328 :=
  Nat.le_trans (Nat.mul_le_mul (show a + b ≤ 212 by omega) hk) (by decide)
theorem ers_le {l : List Vote} {n : Nat} (h : l.length ≤ 200) : (l.eraseIdx n).length ≤ 200 := Nat.le_trans (List.eraseIdx_sublist l n).length_le h
theorem Synod.many_0 {s : Synod} (h : s.votes.length ≤ 200) : s.manyP = (s, 0) := by unfold Synod.manyP; rw [if_neg (by omega)]
theorem Synod.many_2 {s : Synod} (h : s.votes.length > 200) : s.manyP = (Synod.zero, 2) := by unfold Synod.manyP; rw [if_pos h]
theorem Synod.step_7 {s : Synod} {k n : Int} {d : ByteArray} (h : ¬ (3 ≤ k ∧ k ≤ 6)) : s.stepP k n d = (Synod.zero, 7) := by unfold Synod.stepP; rw [if_pos h]
theorem Synod.step_1 {s : Synod} {k n : Int} {d : ByteArray} (h : 3 ≤ k ∧ k ≤ 6) (h2 : ¬ k = 6) (h3 : ¬ d.size = 0) : s.stepP k n d = (Synod.zero, 1) := by
  unfold Synod.stepP; rw [if_neg (fun hh => hh h), if_pos ⟨h2, h3⟩]
theorem Synod.step_r {s : Synod} {k n : Int} {d : ByteArray} (h : 3 ≤ k ∧ k ≤ 6) (h2 : ¬ k = 6) (h3 : d.size = 0) (h4 : ¬ (0 ≤ n ∧ n < s.votes.length)) : s.stepP k n d = (Synod.zero, 3) := by
  unfold Synod.stepP; rw [if_neg (fun hh => hh h), if_neg (fun hh => hh.2 h3), if_neg h2, if_pos h4]
theorem Synod.step_v {s : Synod} {k n : Int} {d : ByteArray} (h : 3 ≤ k ∧ k ≤ 6) (h2 : ¬ k = 6) (h3 : d.size = 0) {v : Vote} (hv : s.votes[n.toNat]? = some v) (h0 : 0 ≤ n) : s.stepP k n d = if k = 3 then ((s.away n.toNat).passP v).manyP else if k = 4 then (s.away n.toNat).manyP else ({ s with votes := s.votes ++ [v] } : Synod).manyP := by
  have := (List.getElem?_eq_some_iff.1 hv).1
  unfold Synod.stepP; rw [if_neg (fun hh => hh h), if_neg (fun hh => hh.2 h3), if_neg h2, if_neg (fun hh => hh ⟨h0, by omega⟩), hv]
/-- A pass to a seat; to a bid. -/
theorem Synod.step_s {s : Synod} {n : Int} {d : ByteArray} (h3 : d.size = 0) {v : Vote} (hv : s.votes[n.toNat]? = some v) (h0 : 0 ≤ n) (hk : v.kind = 1 ∨ v.kind = 3) {st : Seat} (hst : s.seats[v.node.toNat]? = some st) :
    s.stepP 3 n d = Synod.manyP ⟨s.voters, s.seats.set (0 + v.node.toNat) (st.serveP v).1, s.bids, s.votes.eraseIdx n.toNat ++ (st.serveP v).2.1⟩ := by
  rw [Synod.step_v (by omega) (by omega) h3 hv h0, if_pos rfl, Nat.zero_add]
  unfold Synod.passP
  rw [if_pos hk, show (s.away n.toNat).seats = s.seats from rfl, hst]; rfl
theorem Synod.step_b {s : Synod} {n : Int} {d : ByteArray} (h3 : d.size = 0) {v : Vote} (hv : s.votes[n.toNat]? = some v) (h0 : 0 ≤ n) (hk : ¬ (v.kind = 1 ∨ v.kind = 3)) {b : Bid} (hb : s.bids[v.bid.toNat]? = some b) :
    s.stepP 3 n d = Synod.manyP ⟨s.voters, s.seats, s.bids.set (0 + v.bid.toNat) (hearP s.voters v.bid b v).1, s.votes.eraseIdx n.toNat ++ (hearP s.voters v.bid b v).2.1⟩ := by
  rw [Synod.step_v (by omega) (by omega) h3 hv h0, if_pos rfl, Nat.zero_add]
  unfold Synod.passP
  rw [if_neg hk, show (s.away n.toNat).bids = s.bids from rfl, hb]; rfl
theorem Synod.step_4 {s : Synod} {n : Int} {d : ByteArray} (h3 : d.size = 0) {v : Vote} (hv : s.votes[n.toNat]? = some v) (h0 : 0 ≤ n) (hm : s.votes.length ≤ 200) : s.stepP 4 n d = (⟨s.voters, s.seats, s.bids, s.votes.eraseIdx n.toNat⟩, 0) := by
  rw [Synod.step_v (by omega) (by omega) h3 hv h0, if_neg (by omega), if_pos rfl, Synod.many_0]
  · rfl
  · have := (List.eraseIdx_sublist s.votes n.toNat).length_le
    show (s.votes.eraseIdx n.toNat).length ≤ 200; omega
theorem Synod.step_5 {s : Synod} {n : Int} {d : ByteArray} (h3 : d.size = 0) {v : Vote} (hv : s.votes[n.toNat]? = some v) (h0 : 0 ≤ n) : s.stepP 5 n d = Synod.manyP ⟨s.voters, s.seats, s.bids, s.votes ++ [v]⟩ := by
  rw [Synod.step_v (by omega) (by omega) h3 hv h0, if_neg (by omega), if_neg (by omega)]
theorem Synod.step_6m {s : Synod} {n : Int} {d : ByteArray} (h : s.bids.length = 31) : s.stepP 6 n d = (Synod.zero, 2) := by rw [bid_eq]; unfold Synod.bidP; rw [if_pos h]
theorem Synod.step_6e {s : Synod} {n : Int} {d : ByteArray} (h : ¬ s.bids.length = 31) (h2 : ¬ (beginP s.voters s.bids.length n d).2.2 = 0) : s.stepP 6 n d = (Synod.zero, (beginP s.voters s.bids.length n d).2.2) := by rw [bid_eq]; unfold Synod.bidP; rw [if_neg h, if_pos h2]
theorem Synod.step_6 {s : Synod} {n : Int} {d : ByteArray} (h : ¬ s.bids.length = 31) (h2 : (beginP s.voters s.bids.length n d).2.2 = 0) : s.stepP 6 n d = Synod.manyP ⟨s.voters, s.seats, s.bids ++ [(beginP s.voters s.bids.length n d).1], s.votes ++ (beginP s.voters s.bids.length n d).2.1⟩ := by rw [bid_eq]; unfold Synod.bidP; rw [if_neg h, if_neg (fun hh => hh h2)]
/-- What a right synod says of its votes, as the walk wants it. -/
theorem Synod.Ok.vv {s : Synod} (ok : s.Ok) : ∀ v, v ∈ s.votes → (0 ≤ v.node ∧ v.node < s.seats.length) ∧ (0 ≤ v.bid ∧ v.bid < s.bids.length) ∧ (1 ≤ v.kind ∧ v.kind ≤ 4) := fun v hv => by
  obtain ⟨a, b, c⟩ := ok.votes v hv
  obtain ⟨r1, r2, r3⟩ := vote_rng a
  exact ⟨⟨r3.1, b⟩, ⟨r2.1, c⟩, r1⟩
section
variable (a22 : Bid) (a4 : Vote) (a8 : Seat) (d : ByteArray) (n : Int) (s : Synod)
abbrev M0 : OB := some ⟨5, [[.lst 1 (s.voters.weights.map cI), VI s.voters.need, .lst 5 (s.seats.map Seat.cs), .lst 8 (s.bids.map Bid.cs), .lst 6 (s.votes.map Vote.cs)]]⟩
abbrev M1 : LB := [(M0 s), some ⟨3, [[VI 3, VI n, .v (.string d)]]⟩, some ⟨5, [[.emp, VI 0, .emp, .emp, .emp]]⟩]
abbrev M2 : LS := [(4, .ref 2 5 0 0), (3, .ref 1 3 0 0), (2, .ref 0 5 0 0)]
abbrev M3 : AV := .agg [.lst 1 (s.voters.weights.map cI), VI s.voters.need, .lst 5 (s.seats.map Seat.cs), .lst 8 (s.bids.map Bid.cs), .lst 6 (s.votes.map Vote.cs)]
abbrev M4 : LB := [(M0 s), some ⟨3, [[VI 3, VI n, .v (.string d)]]⟩, some ⟨5, [[.emp, VI 0, .emp, .emp, .emp]]⟩, (M0 s), some ⟨5, [[.emp, VI 0, .emp, .emp, .emp]]⟩]
abbrev M5 : LS := [(5, .lst 1 (s.voters.weights.map cI)), (4, .ref 3 5 0 0), (3, .ref 3 5 0 0), (2, .ref 4 5 0 0), (1, .ref 3 5 0 0)]
abbrev M6 : LS := (12, .lst 5 (s.seats.map Seat.cs)) :: (11, .ref 3 5 0 2) :: (10, .agg [.lst 1 (s.voters.weights.map cI), VI s.voters.need]) :: (9, VI s.voters.need) :: (8, .ref 3 5 0 1) :: (7, .ref 3 5 0 0) :: (6, .lst 1 (s.voters.weights.map cI)) :: (M5 s)
abbrev M7 : LB := [(M0 s), some ⟨3, [[VI 3, VI n, .v (.string d)]]⟩, some ⟨5, [[.emp, VI 0, .emp, .emp, .emp]]⟩, (M0 s), some ⟨5, [[.emp, VI 0, .emp, .emp, .emp]]⟩, some ⟨5, (s.seats.map Seat.cs)⟩]
abbrev M8 : LS := (15, .lst 8 (s.bids.map Bid.cs)) :: (14, .ref 3 5 0 3) :: (13, .own 5 5 0 (List.length s.seats)) :: (M6 s)
abbrev M9 : LB := [(M0 s), some ⟨3, [[VI 3, VI n, .v (.string d)]]⟩, some ⟨5, [[.emp, VI 0, .emp, .emp, .emp]]⟩, (M0 s), some ⟨5, [[.emp, VI 0, .emp, .emp, .emp]]⟩, some ⟨5, (s.seats.map Seat.cs)⟩, some ⟨8, (s.bids.map Bid.cs)⟩]
abbrev M10 : LS := (18, .lst 6 (s.votes.map Vote.cs)) :: (17, .ref 3 5 0 4) :: (16, .own 6 8 0 (List.length s.bids)) :: (M8 s)
abbrev M11 : LB := [(M0 s), some ⟨3, [[VI 3, VI n, .v (.string d)]]⟩, some ⟨5, [[.emp, VI 0, .emp, .emp, .emp]]⟩, (M0 s), some ⟨5, [[.emp, VI 0, .emp, .emp, .emp]]⟩, some ⟨5, (s.seats.map Seat.cs)⟩, some ⟨8, (s.bids.map Bid.cs)⟩, some ⟨6, (s.votes.map Vote.cs)⟩]
abbrev M12 : OB := some ⟨5, [[.lst 1 (s.voters.weights.map cI), VI s.voters.need, .own 5 5 0 (List.length s.seats), .own 6 8 0 (List.length s.bids), .own 7 6 0 (List.length s.votes)]]⟩
abbrev M13 : LB := [(M0 s), some ⟨3, [[VI 3, VI n, .v (.string d)]]⟩, some ⟨5, [[.emp, VI 0, .emp, .emp, .emp]]⟩, (M0 s), (M12 s), some ⟨5, (s.seats.map Seat.cs)⟩, some ⟨8, (s.bids.map Bid.cs)⟩, some ⟨6, (s.votes.map Vote.cs)⟩]
abbrev M14 : AV := .agg [.lst 1 (s.voters.weights.map cI), VI s.voters.need, .own 4 5 0 (List.length s.seats), .own 5 8 0 (List.length s.bids), .own 6 6 0 (List.length s.votes)]
abbrev M15 : OB := some ⟨5, [[.lst 1 (s.voters.weights.map cI), VI s.voters.need, .own 4 5 0 (List.length s.seats), .own 5 8 0 (List.length s.bids), .own 6 6 0 (List.length s.votes)]]⟩
abbrev M16 : LB := [(M0 s), some ⟨3, [[VI 3, VI n, .v (.string d)]]⟩, some ⟨5, [[.emp, VI 0, .emp, .emp, .emp]]⟩, (M15 s), some ⟨5, (s.seats.map Seat.cs)⟩, some ⟨8, (s.bids.map Bid.cs)⟩, some ⟨6, (s.votes.map Vote.cs)⟩]
abbrev M17 : LB := [(M0 s), some ⟨3, [[VI 3, VI n, .v (.string d)]]⟩, some ⟨5, [[.emp, VI 0, .emp, .emp, .emp]]⟩, (M15 s), some ⟨5, (s.seats.map Seat.cs)⟩, some ⟨8, (s.bids.map Bid.cs)⟩, some ⟨6, (s.votes.map Vote.cs)⟩, (M15 s)]
abbrev M18 : LS := [(6, .ref 7 5 0 0), (4, .ref 2 5 0 0), (3, .ref 1 3 0 0)]
abbrev M19 : LS := (14, .agg [VI 3, VI n, .v (.string d)]) :: (13, .ref 7 5 0 0) :: M18
abbrev M20 : LB := [(M0 s), some ⟨3, [[VI 3, VI n, .v (.string d)]]⟩, some ⟨5, [[.emp, VI 0, .emp, .emp, .emp]]⟩, (M15 s), some ⟨5, (s.seats.map Seat.cs)⟩, some ⟨8, (s.bids.map Bid.cs)⟩, some ⟨6, (s.votes.map Vote.cs)⟩, (M15 s), some ⟨1, [[.ref 7 5 0 0]]⟩, some ⟨3, [[VI 3, VI n, .v (.string d)]]⟩]
abbrev M21 : OB := some ⟨0, [[VI 6, .fn 74 [.ref 8 1 0 0, .ref 9 3 0 0]], [VI 3, .fn 76 [.ref 8 1 0 0, .ref 9 3 0 0]], [VI 4, .fn 79 [.ref 8 1 0 0, .ref 9 3 0 0]], [VI 5, .fn 80 [.ref 8 1 0 0, .ref 9 3 0 0]]]⟩
abbrev M22 : LB := [(M0 s), some ⟨3, [[VI 3, VI n, .v (.string d)]]⟩, some ⟨5, [[.emp, VI 0, .emp, .emp, .emp]]⟩, (M15 s), some ⟨5, (s.seats.map Seat.cs)⟩, some ⟨8, (s.bids.map Bid.cs)⟩, some ⟨6, (s.votes.map Vote.cs)⟩, (M15 s), some ⟨1, [[.ref 7 5 0 0]]⟩, some ⟨3, [[VI 3, VI n, .v (.string d)]]⟩, M21]
abbrev M23 : LS := [(12, VI 3), (11, .ref 9 3 0 0), (10, .mp 10), (9, .fn 80 [.ref 8 1 0 0, .ref 9 3 0 0]), (8, .fn 79 [.ref 8 1 0 0, .ref 9 3 0 0]), (7, .fn 76 [.ref 8 1 0 0, .ref 9 3 0 0]), (6, .fn 74 [.ref 8 1 0 0, .ref 9 3 0 0]), (5, .mp 10), (3, .ref 9 3 0 0), (2, .ref 8 1 0 0)]
abbrev M24 : LS := (13, .fn 76 [.ref 8 1 0 0, .ref 9 3 0 0]) :: M23
abbrev M25 : LS := (15, .fn 76 [.ref 8 1 0 0, .ref 9 3 0 0]) :: (M19 d n)
abbrev M26 : LS := (7, .fn 76 [.ref 8 1 0 0, .ref 9 3 0 0]) :: M18
abbrev M27 : LS := (23, .v (.string d)) :: (22, .ref 1 3 0 2) :: (18, .v (.bool false)) :: M26
abbrev M30 : LS := (36, VI n) :: (35, .ref 1 3 0 1) :: (34, .v (.bool true)) :: (33, .v (.bool true)) :: (32, VI 3) :: (31, .ref 1 3 0 0) :: (21, .v (.bool false)) :: M26
abbrev M31 : LS := [(30, .v (.bool true)), (7, .fn 76 [.ref 8 1 0 0, .ref 9 3 0 0]), (6, .ref 7 5 0 0), (4, .ref 2 5 0 0)]
abbrev M32 : LS := [(7, .fn 76 [.ref 8 1 0 0, .ref 9 3 0 0]), (6, .ref 7 5 0 0), (4, .ref 2 5 0 0)]
abbrev M33 : LS := (16, .fn 76 [.ref 8 1 0 0, .ref 9 3 0 0]) :: (30, .v (.bool false)) :: M32
abbrev M34 : LS := [(6, VI n), (5, .ref 9 3 0 1), (4, .ref 7 5 0 0), (3, .ref 7 5 0 0), (0, .ref 8 1 0 0), (1, .ref 9 3 0 0)]
abbrev M35 : OB := some ⟨6, [[VI 0, VI 0, VI 0, VI 0, VI 0, .v (.string (⟨#[]⟩))]]⟩
abbrev M36 : LB := [(M0 s), some ⟨3, [[VI 3, VI n, .v (.string d)]]⟩, some ⟨5, [[.emp, VI 0, .emp, .emp, .emp]]⟩, (M15 s), some ⟨5, (s.seats.map Seat.cs)⟩, some ⟨8, (s.bids.map Bid.cs)⟩, some ⟨6, (s.votes.map Vote.cs)⟩, (M15 s), some ⟨1, [[.ref 7 5 0 0]]⟩, some ⟨3, [[VI 3, VI n, .v (.string d)]]⟩, M35]
abbrev M37 : LS := [(4, .ref 10 6 0 0), (0, .ref 7 5 0 0), (1, VI n)]
abbrev M38 : LS := (11, VI n) :: (10, .own 6 6 0 (List.length s.votes)) :: (9, .ref 7 5 0 4) :: (8, .ref 7 5 0 0) :: (7, .ref 7 5 0 0) :: (6, .ref 7 5 0 0) :: (M37 n)
abbrev M39 : AV := .agg [VI a4.kind, VI a4.bid, VI a4.node, VI a4.copy.at_.time, VI a4.copy.at_.who, .v (.string a4.copy.data)]
abbrev M40 : LS := (13, (M39 a4)) :: (12, .ref 6 6 (0 + Int.toNat n) 0) :: (M38 n s)
abbrev M41 : OB := some ⟨6, [[VI a4.kind, VI a4.bid, VI a4.node, VI a4.copy.at_.time, VI a4.copy.at_.who, .v (.string a4.copy.data)]]⟩
abbrev M42 : LB := [(M0 s), some ⟨3, [[VI 3, VI n, .v (.string d)]]⟩, some ⟨5, [[.emp, VI 0, .emp, .emp, .emp]]⟩, (M15 s), some ⟨5, (s.seats.map Seat.cs)⟩, some ⟨8, (s.bids.map Bid.cs)⟩, some ⟨6, (s.votes.map Vote.cs)⟩, (M15 s), some ⟨1, [[.ref 7 5 0 0]]⟩, some ⟨3, [[VI 3, VI n, .v (.string d)]]⟩, M35, (M41 a4)]
abbrev M43 : LS := (21, VI n) :: (20, VI n) :: (19, .own 6 6 0 (List.length s.votes)) :: (18, .ref 7 5 0 4) :: (17, .ref 7 5 0 0) :: (16, .ref 7 5 0 0) :: (15, .ref 7 5 0 0) :: (14, .ref 7 5 0 0) :: (5, .ref 11 6 0 0) :: (M37 n)
abbrev M44 : OB := some ⟨6, ((List.eraseIdx s.votes (Int.toNat n)).map Vote.cs)⟩
abbrev M45 : LB := [(M0 s), some ⟨3, [[VI 3, VI n, .v (.string d)]]⟩, some ⟨5, [[.emp, VI 0, .emp, .emp, .emp]]⟩, (M15 s), some ⟨5, (s.seats.map Seat.cs)⟩, some ⟨8, (s.bids.map Bid.cs)⟩, none, (M15 s), some ⟨1, [[.ref 7 5 0 0]]⟩, some ⟨3, [[VI 3, VI n, .v (.string d)]]⟩, M35, (M41 a4), none, (M44 n s)]
abbrev M46 : LS := (23, .own 13 6 0 (List.length (List.eraseIdx s.votes (Int.toNat n)))) :: (22, VI (n + 1)) :: (M43 n s)
abbrev M47 : OB := some ⟨5, [[.lst 1 (s.voters.weights.map cI), VI s.voters.need, .own 4 5 0 (List.length s.seats), .own 5 8 0 (List.length s.bids), .own 13 6 0 (List.length (List.eraseIdx s.votes (Int.toNat n)))]]⟩
abbrev M48 : LB := [(M0 s), some ⟨3, [[VI 3, VI n, .v (.string d)]]⟩, some ⟨5, [[.emp, VI 0, .emp, .emp, .emp]]⟩, (M15 s), some ⟨5, (s.seats.map Seat.cs)⟩, some ⟨8, (s.bids.map Bid.cs)⟩, none, (M47 n s), some ⟨1, [[.ref 7 5 0 0]]⟩, some ⟨3, [[VI 3, VI n, .v (.string d)]]⟩, M35, (M41 a4), none, (M44 n s)]
abbrev M49 : LB := [(M0 s), some ⟨3, [[VI 3, VI n, .v (.string d)]]⟩, some ⟨5, [[.emp, VI 0, .emp, .emp, .emp]]⟩, (M15 s), some ⟨5, (s.seats.map Seat.cs)⟩, some ⟨8, (s.bids.map Bid.cs)⟩, none, (M47 n s), some ⟨1, [[.ref 7 5 0 0]]⟩, some ⟨3, [[VI 3, VI n, .v (.string d)]]⟩, (M41 a4), (M41 a4), none, (M44 n s)]
abbrev M50 : OB := some ⟨5, [[.lst 1 (s.voters.weights.map cI), VI s.voters.need, .own 4 5 0 (List.length s.seats), .own 5 8 0 (List.length s.bids), .dead]]⟩
abbrev M51 : OB := some ⟨5, [[.lst 1 (s.voters.weights.map cI), VI s.voters.need, .own 4 5 0 (List.length s.seats), .own 5 8 0 (List.length s.bids), .own 10 6 0 (List.length (List.eraseIdx s.votes (Int.toNat n)))]]⟩
abbrev M52 : LB := [(M0 s), some ⟨3, [[VI 3, VI n, .v (.string d)]]⟩, some ⟨5, [[.emp, VI 0, .emp, .emp, .emp]]⟩, (M50 s), some ⟨5, (s.seats.map Seat.cs)⟩, some ⟨8, (s.bids.map Bid.cs)⟩, none, (M51 n s), some ⟨1, [[.ref 7 5 0 0]]⟩, some ⟨3, [[VI 3, VI n, .v (.string d)]]⟩, (M44 n s), (M41 a4)]
abbrev M53 : LB := [(M0 s), some ⟨3, [[VI 3, VI n, .v (.string d)]]⟩, some ⟨5, [[.emp, VI 0, .emp, .emp, .emp]]⟩, (M50 s), some ⟨5, (s.seats.map Seat.cs)⟩, some ⟨8, (s.bids.map Bid.cs)⟩, none, (M51 n s), some ⟨1, [[.ref 7 5 0 0]]⟩, some ⟨3, [[VI 3, VI n, .v (.string d)]]⟩, (M44 n s), (M41 a4), (M41 a4)]
abbrev M54 : LS := [(7, VI a4.kind), (6, .ref 12 6 0 0), (3, .ref 12 6 0 0), (0, .ref 7 5 0 0)]
abbrev M55 : LS := (13, .v (.bool true)) :: (12, .v undef) :: (11, .v undef) :: (10, .v undef) :: (9, .v (.bool true)) :: (8, .v (.bool true)) :: (M54 a4)
abbrev M56 : LS := (11, VI a4.kind) :: (10, .ref 12 6 0 0) :: (9, .v (.bool false)) :: (8, .v (.bool false)) :: (M54 a4)
abbrev M57 : LS := [(0, .ref 7 5 0 0), (3, .ref 12 6 0 0), (13, .v (.bool true))]
abbrev M58 : LS := (28, VI a4.node) :: (27, .ref 12 6 0 2) :: (26, .own 4 5 0 (List.length s.seats)) :: (25, .ref 7 5 0 2) :: (24, .ref 7 5 0 0) :: (23, .ref 7 5 0 0) :: (22, .ref 7 5 0 0) :: (21, VI a4.node) :: (20, .ref 12 6 0 2) :: (19, .own 4 5 0 (List.length s.seats)) :: (18, .ref 7 5 0 2) :: (17, .ref 7 5 0 0) :: (16, .ref 7 5 0 0) :: (15, .ref 7 5 0 0) :: M57
abbrev M59 : LS := (29, .ref 4 5 (0 + Int.toNat a4.node) 0) :: (M58 a4 s)
abbrev M60 : AV := .agg [VI a8.promised.time, VI a8.promised.who, VI a8.kept.at_.time, VI a8.kept.at_.who, .v (.string a8.kept.data)]
abbrev M61 : AV := .agg [VI ((((a8.serveP a4).1).promised).time), VI ((((a8.serveP a4).1).promised).who), VI (((((a8.serveP a4).1).kept).at_).time), VI (((((a8.serveP a4).1).kept).at_).who), .v (.string ((((a8.serveP a4).1).kept).data))]
abbrev M62 : LS := (32, .tup [(M61 a4 a8), .lst 6 (((a8.serveP a4).2.1).map Vote.cs), VI ((a8.serveP a4).2.2)]) :: (31, (M39 a4)) :: (30, (M60 a8)) :: (M59 a4 s)
abbrev M63 : LS := (35, VI ((a8.serveP a4).2.2)) :: (34, .lst 6 (((a8.serveP a4).2.1).map Vote.cs)) :: (33, (M61 a4 a8)) :: (14, .tup [(M61 a4 a8), .lst 6 (((a8.serveP a4).2.1).map Vote.cs), VI ((a8.serveP a4).2.2)]) :: (M62 a4 a8 s)
abbrev M64 : LS := (36, .ref 4 5 (0 + Int.toNat a4.node) 0) :: (M63 a4 a8 s)
abbrev M65 : OB := some ⟨5, ((List.set s.seats (0 + Int.toNat a4.node) ((a8.serveP a4).1)).map Seat.cs)⟩
abbrev M66 : LB := [(M0 s), some ⟨3, [[VI 3, VI n, .v (.string d)]]⟩, some ⟨5, [[.emp, VI 0, .emp, .emp, .emp]]⟩, (M50 s), (M65 a4 a8 s), some ⟨8, (s.bids.map Bid.cs)⟩, none, (M51 n s), some ⟨1, [[.ref 7 5 0 0]]⟩, some ⟨3, [[VI 3, VI n, .v (.string d)]]⟩, (M44 n s), (M41 a4), (M41 a4)]
abbrev M67 : LS := (5, .lst 6 (((a8.serveP a4).2.1).map Vote.cs)) :: (M64 a4 a8 s)
abbrev M68 : LS := (68, .lst 6 (((a8.serveP a4).2.1).map Vote.cs)) :: (67, .ref 7 5 0 0) :: (M67 a4 a8 s)
abbrev M69 : LS := [(11, .lst 6 (((a8.serveP a4).2.1).map Vote.cs)), (10, .own 10 6 0 (List.length (List.eraseIdx s.votes (Int.toNat n)))), (9, .ref 7 5 0 4), (8, .ref 7 5 0 0), (7, .ref 7 5 0 0), (6, .ref 7 5 0 0), (5, .ref 7 5 0 0), (0, .ref 7 5 0 0), (1, .lst 6 (((a8.serveP a4).2.1).map Vote.cs))]
abbrev M70 : OB := some ⟨6, (((List.eraseIdx s.votes (Int.toNat n)) ++ ((a8.serveP a4).2.1)).map Vote.cs)⟩
abbrev M71 : LB := [(M0 s), some ⟨3, [[VI 3, VI n, .v (.string d)]]⟩, some ⟨5, [[.emp, VI 0, .emp, .emp, .emp]]⟩, (M50 s), (M65 a4 a8 s), some ⟨8, (s.bids.map Bid.cs)⟩, none, (M51 n s), some ⟨1, [[.ref 7 5 0 0]]⟩, some ⟨3, [[VI 3, VI n, .v (.string d)]]⟩, none, (M41 a4), (M41 a4), (M70 a4 a8 n s)]
abbrev M72 : LS := (12, .own 13 6 0 (List.length ((List.eraseIdx s.votes (Int.toNat n)) ++ ((a8.serveP a4).2.1)))) :: (M69 a4 a8 n s)
abbrev M73 : OB := some ⟨5, [[.lst 1 (s.voters.weights.map cI), VI s.voters.need, .own 4 5 0 (List.length s.seats), .own 5 8 0 (List.length s.bids), .own 13 6 0 (List.length ((List.eraseIdx s.votes (Int.toNat n)) ++ ((a8.serveP a4).2.1)))]]⟩
abbrev M74 : LB := [(M0 s), some ⟨3, [[VI 3, VI n, .v (.string d)]]⟩, some ⟨5, [[.emp, VI 0, .emp, .emp, .emp]]⟩, (M50 s), (M65 a4 a8 s), some ⟨8, (s.bids.map Bid.cs)⟩, none, (M73 a4 a8 n s), some ⟨1, [[.ref 7 5 0 0]]⟩, some ⟨3, [[VI 3, VI n, .v (.string d)]]⟩, none, (M41 a4), (M41 a4), (M70 a4 a8 n s)]
abbrev M75 : OB := some ⟨5, [[.lst 1 (s.voters.weights.map cI), VI s.voters.need, .own 4 5 0 (List.length s.seats), .own 5 8 0 (List.length s.bids), .own 12 6 0 (List.length ((List.eraseIdx s.votes (Int.toNat n)) ++ ((a8.serveP a4).2.1)))]]⟩
abbrev M76 : LB := [(M0 s), some ⟨3, [[VI 3, VI n, .v (.string d)]]⟩, some ⟨5, [[.emp, VI 0, .emp, .emp, .emp]]⟩, (M50 s), (M65 a4 a8 s), some ⟨8, (s.bids.map Bid.cs)⟩, none, (M75 a4 a8 n s), some ⟨1, [[.ref 7 5 0 0]]⟩, some ⟨3, [[VI 3, VI n, .v (.string d)]]⟩, none, (M41 a4), (M70 a4 a8 n s)]
abbrev M77 : OB := some ⟨5, [[.lst 1 (s.voters.weights.map cI), VI s.voters.need, .own 4 5 0 (List.length s.seats), .own 5 8 0 (List.length s.bids), .own 10 6 0 (List.length ((List.eraseIdx s.votes (Int.toNat n)) ++ ((a8.serveP a4).2.1)))]]⟩
abbrev M78 : LB := [(M0 s), some ⟨3, [[VI 3, VI n, .v (.string d)]]⟩, some ⟨5, [[.emp, VI 0, .emp, .emp, .emp]]⟩, (M50 s), (M65 a4 a8 s), some ⟨8, (s.bids.map Bid.cs)⟩, none, (M77 a4 a8 n s), some ⟨1, [[.ref 7 5 0 0]]⟩, some ⟨3, [[VI 3, VI n, .v (.string d)]]⟩, (M70 a4 a8 n s)]
abbrev M79 : LS := [(58, VI a4.bid), (57, .ref 12 6 0 1), (56, .own 5 8 0 (List.length s.bids)), (55, .ref 7 5 0 3), (54, .ref 7 5 0 0), (53, .ref 7 5 0 0), (52, .ref 7 5 0 0), (51, VI a4.bid), (50, .ref 12 6 0 1), (49, .agg [.lst 1 (s.voters.weights.map cI), VI s.voters.need]), (48, .ref 7 5 0 0), (47, .ref 7 5 0 0), (46, .ref 7 5 0 0), (45, .ref 7 5 0 0), (44, VI a4.bid), (43, .ref 12 6 0 1), (42, .own 5 8 0 (List.length s.bids)), (41, .ref 7 5 0 3), (40, .ref 7 5 0 0), (39, .ref 7 5 0 0), (38, .ref 7 5 0 0), (13, .v (.bool false)), (3, .ref 12 6 0 0), (0, .ref 7 5 0 0)]
abbrev M80 : AV := .agg [VI a22.time, VI a22.phase, .v (.string a22.own), .v (.string a22.value), VI a22.best.at_.time, VI a22.best.at_.who, .v (.string a22.best.data), .v (.int .u64 (a22.heard.n : Int))]
abbrev M81 : LS := (60, (M80 a22)) :: (59, .ref 5 8 (0 + Int.toNat a4.bid) 0) :: (M79 a4 s)
abbrev M82 : Bid := (hearP s.voters a4.bid a22 a4).1
abbrev M83 : AV := .agg [VI ((M82 a22 a4 s).time), VI ((M82 a22 a4 s).phase), .v (.string ((M82 a22 a4 s).own)), .v (.string ((M82 a22 a4 s).value)), VI ((((M82 a22 a4 s).best).at_).time), VI ((((M82 a22 a4 s).best).at_).who), .v (.string (((M82 a22 a4 s).best).data)), .v (.int .u64 ((M82 a22 a4 s).heard.n : Int))]
abbrev M84 : LS := (62, .tup [(M83 a22 a4 s), .lst 6 (((hearP s.voters a4.bid a22 a4).2.1).map Vote.cs), VI ((hearP s.voters a4.bid a22 a4).2.2)]) :: (61, (M39 a4)) :: (M81 a22 a4 s)
abbrev M85 : LS := (65, VI ((hearP s.voters a4.bid a22 a4).2.2)) :: (64, .lst 6 (((hearP s.voters a4.bid a22 a4).2.1).map Vote.cs)) :: (63, (M83 a22 a4 s)) :: (37, .tup [(M83 a22 a4 s), .lst 6 (((hearP s.voters a4.bid a22 a4).2.1).map Vote.cs), VI ((hearP s.voters a4.bid a22 a4).2.2)]) :: (M84 a22 a4 s)
abbrev M86 : OB := some ⟨8, ((List.set s.bids (0 + Int.toNat a4.bid) (M82 a22 a4 s)).map Bid.cs)⟩
abbrev M87 : LB := [(M0 s), some ⟨3, [[VI 3, VI n, .v (.string d)]]⟩, some ⟨5, [[.emp, VI 0, .emp, .emp, .emp]]⟩, (M50 s), some ⟨5, (s.seats.map Seat.cs)⟩, (M86 a22 a4 s), none, (M51 n s), some ⟨1, [[.ref 7 5 0 0]]⟩, some ⟨3, [[VI 3, VI n, .v (.string d)]]⟩, (M44 n s), (M41 a4), (M41 a4)]
abbrev M88 : LS := (5, .lst 6 (((hearP s.voters a4.bid a22 a4).2.1).map Vote.cs)) :: (66, .ref 5 8 (0 + Int.toNat a4.bid) 0) :: (M85 a22 a4 s)
abbrev M89 : LS := (68, .lst 6 (((hearP s.voters a4.bid a22 a4).2.1).map Vote.cs)) :: (67, .ref 7 5 0 0) :: (M88 a22 a4 s)
abbrev M90 : LS := [(11, .lst 6 (((hearP s.voters a4.bid a22 a4).2.1).map Vote.cs)), (10, .own 10 6 0 (List.length (List.eraseIdx s.votes (Int.toNat n)))), (9, .ref 7 5 0 4), (8, .ref 7 5 0 0), (7, .ref 7 5 0 0), (6, .ref 7 5 0 0), (5, .ref 7 5 0 0), (0, .ref 7 5 0 0), (1, .lst 6 (((hearP s.voters a4.bid a22 a4).2.1).map Vote.cs))]
abbrev M91 : OB := some ⟨6, (((List.eraseIdx s.votes (Int.toNat n)) ++ ((hearP s.voters a4.bid a22 a4).2.1)).map Vote.cs)⟩
abbrev M92 : LB := [(M0 s), some ⟨3, [[VI 3, VI n, .v (.string d)]]⟩, some ⟨5, [[.emp, VI 0, .emp, .emp, .emp]]⟩, (M50 s), some ⟨5, (s.seats.map Seat.cs)⟩, (M86 a22 a4 s), none, (M51 n s), some ⟨1, [[.ref 7 5 0 0]]⟩, some ⟨3, [[VI 3, VI n, .v (.string d)]]⟩, none, (M41 a4), (M41 a4), (M91 a22 a4 n s)]
abbrev M93 : LS := (12, .own 13 6 0 (List.length ((List.eraseIdx s.votes (Int.toNat n)) ++ ((hearP s.voters a4.bid a22 a4).2.1)))) :: (M90 a22 a4 n s)
abbrev M94 : OB := some ⟨5, [[.lst 1 (s.voters.weights.map cI), VI s.voters.need, .own 4 5 0 (List.length s.seats), .own 5 8 0 (List.length s.bids), .own 13 6 0 (List.length ((List.eraseIdx s.votes (Int.toNat n)) ++ ((hearP s.voters a4.bid a22 a4).2.1)))]]⟩
abbrev M95 : LB := [(M0 s), some ⟨3, [[VI 3, VI n, .v (.string d)]]⟩, some ⟨5, [[.emp, VI 0, .emp, .emp, .emp]]⟩, (M50 s), some ⟨5, (s.seats.map Seat.cs)⟩, (M86 a22 a4 s), none, (M94 a22 a4 n s), some ⟨1, [[.ref 7 5 0 0]]⟩, some ⟨3, [[VI 3, VI n, .v (.string d)]]⟩, none, (M41 a4), (M41 a4), (M91 a22 a4 n s)]
abbrev M96 : OB := some ⟨5, [[.lst 1 (s.voters.weights.map cI), VI s.voters.need, .own 4 5 0 (List.length s.seats), .own 5 8 0 (List.length s.bids), .own 12 6 0 (List.length ((List.eraseIdx s.votes (Int.toNat n)) ++ ((hearP s.voters a4.bid a22 a4).2.1)))]]⟩
abbrev M97 : LB := [(M0 s), some ⟨3, [[VI 3, VI n, .v (.string d)]]⟩, some ⟨5, [[.emp, VI 0, .emp, .emp, .emp]]⟩, (M50 s), some ⟨5, (s.seats.map Seat.cs)⟩, (M86 a22 a4 s), none, (M96 a22 a4 n s), some ⟨1, [[.ref 7 5 0 0]]⟩, some ⟨3, [[VI 3, VI n, .v (.string d)]]⟩, none, (M41 a4), (M91 a22 a4 n s)]
abbrev M98 : OB := some ⟨5, [[.lst 1 (s.voters.weights.map cI), VI s.voters.need, .own 4 5 0 (List.length s.seats), .own 5 8 0 (List.length s.bids), .own 10 6 0 (List.length ((List.eraseIdx s.votes (Int.toNat n)) ++ ((hearP s.voters a4.bid a22 a4).2.1)))]]⟩
abbrev M99 : LB := [(M0 s), some ⟨3, [[VI 3, VI n, .v (.string d)]]⟩, some ⟨5, [[.emp, VI 0, .emp, .emp, .emp]]⟩, (M50 s), some ⟨5, (s.seats.map Seat.cs)⟩, (M86 a22 a4 s), none, (M98 a22 a4 n s), some ⟨1, [[.ref 7 5 0 0]]⟩, some ⟨3, [[VI 3, VI n, .v (.string d)]]⟩, (M91 a22 a4 n s)]
abbrev M100 : LS := [(51, .v (.bool true)), (8, VI 3), (6, .ref 7 5 0 0), (4, .ref 2 5 0 0)]
abbrev M101 : LS := [(51, .v (.bool true)), (8, VI 2), (6, .ref 7 5 0 0), (4, .ref 2 5 0 0)]
abbrev M102 : LS := [(51, .v (.bool false)), (8, VI 0), (6, .ref 7 5 0 0), (4, .ref 2 5 0 0)]
abbrev M103 : LB := [(M0 s), some ⟨3, [[VI 3, VI n, .v (.string d)]]⟩, (M77 a4 a8 n s), (M50 s), (M65 a4 a8 s), some ⟨8, (s.bids.map Bid.cs)⟩, none, (M77 a4 a8 n s), some ⟨1, [[.ref 7 5 0 0]]⟩, some ⟨3, [[VI 3, VI n, .v (.string d)]]⟩, (M70 a4 a8 n s)]
abbrev M104 : AV := .agg [.lst 1 (s.voters.weights.map cI), VI s.voters.need, .own 4 5 0 (List.length s.seats), .own 5 8 0 (List.length s.bids), .own 10 6 0 (List.length ((List.eraseIdx s.votes (Int.toNat n)) ++ ((a8.serveP a4).2.1)))]
abbrev M105 : AV := .agg [.lst 1 (s.voters.weights.map cI), VI s.voters.need, .lst 5 ((List.set s.seats (0 + Int.toNat a4.node) ((a8.serveP a4).1)).map Seat.cs), .lst 8 (s.bids.map Bid.cs), .lst 6 (((List.eraseIdx s.votes (Int.toNat n)) ++ ((a8.serveP a4).2.1)).map Vote.cs)]
abbrev M106 : LB := [(M0 s), some ⟨3, [[VI 3, VI n, .v (.string d)]]⟩, (M98 a22 a4 n s), (M50 s), some ⟨5, (s.seats.map Seat.cs)⟩, (M86 a22 a4 s), none, (M98 a22 a4 n s), some ⟨1, [[.ref 7 5 0 0]]⟩, some ⟨3, [[VI 3, VI n, .v (.string d)]]⟩, (M91 a22 a4 n s)]
abbrev M107 : AV := .agg [.lst 1 (s.voters.weights.map cI), VI s.voters.need, .own 4 5 0 (List.length s.seats), .own 5 8 0 (List.length s.bids), .own 10 6 0 (List.length ((List.eraseIdx s.votes (Int.toNat n)) ++ ((hearP s.voters a4.bid a22 a4).2.1)))]
abbrev M108 : AV := .agg [.lst 1 (s.voters.weights.map cI), VI s.voters.need, .lst 5 (s.seats.map Seat.cs), .lst 8 ((List.set s.bids (0 + Int.toNat a4.bid) (M82 a22 a4 s)).map Bid.cs), .lst 6 (((List.eraseIdx s.votes (Int.toNat n)) ++ ((hearP s.voters a4.bid a22 a4).2.1)).map Vote.cs)]
abbrev M109 : LS := [(51, .v (.bool true)), (8, VI 1), (6, .ref 7 5 0 0), (4, .ref 2 5 0 0)]
end
theorem step3_fn (s : Synod) (n : Int) (d : ByteArray) (ok : s.Ok) : Fn Tryd.prog 28 [.agg [.lst 1 (s.voters.weights.map cI), VI s.voters.need, .lst 5 (s.seats.map Seat.cs), .lst 8 (s.bids.map Bid.cs), .lst 6 (s.votes.map Vote.cs)], .agg [VI 3, VI n, .v (.string d)]] (.tup [.agg [.lst 1 (((((s.stepP 3 n d).1).voters).weights).map cI), VI ((((s.stepP 3 n d).1).voters).need), .lst 5 ((((s.stepP 3 n d).1).seats).map Seat.cs), .lst 8 ((((s.stepP 3 n d).1).bids).map Bid.cs), .lst 6 ((((s.stepP 3 n d).1).votes).map Vote.cs)], VI ((s.stepP 3 n d).2)]) := by
  have q1 := qc_len ok.q
  have q2 := ok.len
  have q3 := ok.few
  have q4 := ok.many
  have vv := ok.vv
  have hx1 : s.voters.weights.length ≤ 9223372036854775807 := by omega
  refine fn_walkW F28_ok (of_decide_eq_true (by kernel_rfl)) ?_
  refine srl 4 [2, 3, 4] ⟨M2, (M1 d n s)⟩ ?_
  refine srr 1 ⟨(9, (M3 s)) :: M2, (M1 d n s)⟩ ?_
  refine OW.fi (ar := [(M3 s)]) (r := (M14 s)) (m' := (M16 d n s)) (x' := ⟨(10, (M14 s)) :: (9, (M3 s)) :: M2, (M16 d n s)⟩) (by kernel_rfl) (by kernel_rfl) F49_call ?_ (by kernel_rfl) ?_
  refine fi_walkW F49_ok (of_decide_eq_true (by kernel_rfl)) ?_
  refine srl 2 [1, 2] ⟨[(2, .ref 4 5 0 0), (1, .ref 3 5 0 0)], (M4 d n s)⟩ ?_
  refine sdr 3 ⟨(M5 s), (M4 d n s)⟩ ?_
  refine dwf [.lst 1 (s.voters.weights.map cI)] ⟨(6, .lst 1 (s.voters.weights.map cI)) :: (M5 s), (M4 d n s)⟩ F27_call (cloneI_fo s.voters.weights (by first | omega | exact qc_small (by assumption))) ?_
  refine dwr 6 ⟨(M6 s), (M4 d n s)⟩ ?_
  refine DW.fo (ar := [.lst 5 (s.seats.map Seat.cs)]) (fe := Seat.cs) (xs := s.seats) (x' := ⟨(13, .own 5 5 0 (List.length s.seats)) :: (M6 s), (M7 d n s)⟩) (by kernel_rfl) (by kernel_rfl) F68_call (cloneS_fo s.seats (by first | omega | exact qc_small (by assumption))) (by intro y; kernel_rfl) (by kernel_rfl) (by kernel_rfl) ?_
  refine dwr 2 ⟨(M8 s), (M7 d n s)⟩ ?_
  refine DW.fo (ar := [.lst 8 (s.bids.map Bid.cs)]) (fe := Bid.cs) (xs := s.bids) (x' := ⟨(16, .own 6 8 0 (List.length s.bids)) :: (M8 s), (M9 d n s)⟩) (by kernel_rfl) (by kernel_rfl) F69_call (cloneB_fo s.bids (by first | omega | exact qc_small (by assumption))) (by intro y; kernel_rfl) (by kernel_rfl) (by kernel_rfl) ?_
  refine dwr 2 ⟨(M10 s), (M9 d n s)⟩ ?_
  refine DW.fo (ar := [.lst 6 (s.votes.map Vote.cs)]) (fe := Vote.cs) (xs := s.votes) (x' := ⟨(19, .own 7 6 0 (List.length s.votes)) :: (M10 s), (M11 d n s)⟩) (by kernel_rfl) (by kernel_rfl) F70_call (cloneV_fo s.votes (by first | omega | exact qc_small (by assumption))) (by intro y; kernel_rfl) (by kernel_rfl) (by kernel_rfl) ?_
  refine dwl 2 [2] ⟨[(2, .ref 4 5 0 0)], (M13 d n s)⟩ ?_
  refine EL.ret ?_
  refine ⟨.inr rfl, ⟨[(2, .ref 3 5 0 0)], (M16 d n s)⟩, norm_le (live := [2]) (src := [.old 0 false, .old 1 false, .old 2 false, .old 4 false, .old 5 true, .old 6 true, .old 7 true]) (es := []) (by kernel_rfl) ⟨pq 5 Seat.cs s.seats, pq 8 Bid.cs s.bids, pq 6 Vote.cs s.votes, trivial⟩, by kernel_rfl, rfl⟩
  refine owl 3 [3, 4, 6] ⟨M18, (M17 d n s)⟩ ?_
  refine srr 2 ⟨(M19 d n), (M17 d n s)⟩ ?_
  refine OW.fi (ar := [.ref 7 5 0 0, .agg [VI 3, VI n, .v (.string d)]]) (r := .fn 76 [.ref 8 1 0 0, .ref 9 3 0 0]) (m' := (M20 d n s)) (x' := ⟨(M25 d n), (M20 d n s)⟩) (by kernel_rfl) (by kernel_rfl) F54_call ?_ (by kernel_rfl) ?_
  refine fi_walkW F54_ok (of_decide_eq_true (by kernel_rfl)) ?_
  refine srl 3 [2, 3] ⟨[(3, .ref 9 3 0 0), (2, .ref 8 1 0 0)], (M20 d n s)⟩ ?_
  refine srr 12 ⟨M23, (M22 d n s)⟩ ?_
  refine owo (.fn 76 [.ref 8 1 0 0, .ref 9 3 0 0]) [] [10] ⟨M24, (M22 d n s)⟩ (opE_mlk .int (.v (.nilFunc)) (.s 10) (.s 12) 10 [[VI 6, .fn 74 [.ref 8 1 0 0, .ref 9 3 0 0]], [VI 3, .fn 76 [.ref 8 1 0 0, .ref 9 3 0 0]], [VI 4, .fn 79 [.ref 8 1 0 0, .ref 9 3 0 0]], [VI 5, .fn 80 [.ref 8 1 0 0, .ref 9 3 0 0]]] (.int .i64 3) (some (.fn 76 [.ref 8 1 0 0, .ref 9 3 0 0])) (by kernel_rfl) (by kernel_rfl) (by kernel_rfl) (by kernel_rfl) (by kernel_rfl) (by kernel_rfl)) ?_
  refine owl 1 [4] ⟨[(4, .fn 76 [.ref 8 1 0 0, .ref 9 3 0 0])], (M22 d n s)⟩ ?_
  refine EL.ret ?_
  refine ⟨.inr rfl, ⟨[(4, .fn 76 [.ref 8 1 0 0, .ref 9 3 0 0])], (M20 d n s)⟩, norm_le (live := [4]) (src := [.old 0 false, .old 1 false, .old 2 false, .old 3 false, .old 4 true, .old 5 true, .old 6 true, .old 7 false, .old 8 false, .old 9 false]) (es := []) (by kernel_rfl) ⟨pq 5 Seat.cs s.seats, pq 8 Bid.cs s.bids, pq 6 Vote.cs s.votes, trivial⟩, by kernel_rfl, rfl⟩
  refine owl 1 [3, 4, 6, 7] ⟨M26, (M20 d n s)⟩ ?_
  refine srl 1 [3, 4, 6, 7] ⟨M26, (M20 d n s)⟩ ?_
  refine EL.seq ?_
  refine EL.block ?_
  refine srl 3 [3, 4, 6, 7, 18] ⟨(18, .v (.bool false)) :: M26, (M20 d n s)⟩ ?_
  refine cnF ?_
  refine srr 4 ⟨(25, .v (.bool (!(strEq d (⟨#[]⟩))))) :: (24, .v (.bool (!(strEq d (⟨#[]⟩))))) :: (M27 d), (M20 d n s)⟩ ?_
  rcases Bool.eq_false_or_eq_true (strEq d (⟨#[]⟩)) with h1 | h1
  rw [h1]
  have g1 : (d = (⟨#[]⟩)) := strEq_iff.1 h1
  refine owl 5 [3, 4, 6, 7, 21] ⟨(21, .v (.bool false)) :: M26, (M20 d n s)⟩ ?_
  refine cnF ?_
  refine sdr 8 ⟨(38, .v (.bool (decide (n < 0)))) :: (37, .v (.bool (decide (n < 0)))) :: (M30 n), (M20 d n s)⟩ ?_
  rcases Bool.eq_false_or_eq_true (decide (n < 0)) with h2 | h2
  rw [h2]
  have g2 := of_decide_eq_true h2
  refine dwl 12 [4, 6, 7, 30] ⟨M31, (M20 d n s)⟩ ?_
  refine cnT ?_
  refine roe 1 ⟨(8, VI 3) :: M31, (M20 d n s)⟩ ?_
  refine inBlk_norm ?_
  refine thenL_norm ?_
  refine EL.seq ?_
  refine srl 2 [4, 6, 8, 51] ⟨M100, (M20 d n s)⟩ ?_
  refine cnT ?_
  refine srl 4 [4, 5] ⟨[(5, VI 3), (4, .ref 2 5 0 0)], (M20 d n s)⟩ ?_
  refine rtr ?_
  refine ⟨.inr rfl, .tup [.agg [.emp, VI 0, .emp, .emp, .emp], VI 3], by kernel_rfl, Ale.trans (b := .tup [.agg [.lst 1 [], VI 0, .lst 5 [], .lst 8 [], .lst 6 []], VI 3]) (Ale.tup (.cons (Ale.agg (.cons (Ale.emp) (.cons (Ale.refl) (.cons (Ale.emp) (.cons (Ale.emp) (.cons (Ale.emp) (.nil))))))) (.cons (Ale.refl) (.nil)))) (Ale.of_eq ?_)⟩
  rotate_left
  rw [h2]
  have g2 := of_decide_eq_false h2
  refine dwl 12 [4, 6, 7, 30] ⟨(30, .v (.bool (decide (n ≥ (List.length s.votes : Int))))) :: M32, (M20 d n s)⟩ ?_
  rcases Bool.eq_false_or_eq_true (decide (n ≥ (List.length s.votes : Int))) with h3 | h3
  rw [h3]
  have g3 := of_decide_eq_true h3
  refine cnT ?_
  refine roe 1 ⟨(8, VI 3) :: M31, (M20 d n s)⟩ ?_
  refine inBlk_norm ?_
  refine thenL_norm ?_
  refine EL.seq ?_
  refine srl 2 [4, 6, 8, 51] ⟨M100, (M20 d n s)⟩ ?_
  refine cnT ?_
  refine srl 4 [4, 5] ⟨[(5, VI 3), (4, .ref 2 5 0 0)], (M20 d n s)⟩ ?_
  refine rtr ?_
  refine ⟨.inr rfl, .tup [.agg [.emp, VI 0, .emp, .emp, .emp], VI 3], by kernel_rfl, Ale.trans (b := .tup [.agg [.lst 1 [], VI 0, .lst 5 [], .lst 8 [], .lst 6 []], VI 3]) (Ale.tup (.cons (Ale.agg (.cons (Ale.emp) (.cons (Ale.refl) (.cons (Ale.emp) (.cons (Ale.emp) (.cons (Ale.emp) (.nil))))))) (.cons (Ale.refl) (.nil)))) (Ale.of_eq ?_)⟩
  rotate_left
  rw [h3]
  have g3 := of_decide_eq_false h3
  refine cnF ?_
  refine EL.reg0 ?_
  refine owr 1 ⟨M33, (M20 d n s)⟩ ?_
  obtain ⟨a4, ha4⟩ : ∃ y, s.votes[(n : Int).toNat]? = some y := idx_ex ⟨by omega, by omega⟩
  have ma4 := vv _ (List.mem_of_getElem? ha4)
  have hO5 : (((a4.kind = 1)) ∨ (¬ (a4.kind = 1) ∧ (a4.kind = 3))) ∨ ((¬ (a4.kind = 1) ∧ ¬ (a4.kind = 3))) := by omega
  rcases hO5 with hD6 | hD7
  obtain ⟨a8, ha8⟩ : ∃ y, s.seats[(a4.node : Int).toNat]? = some y := idx_ex ⟨by omega, by omega⟩
  rcases Bool.eq_false_or_eq_true (decide ((List.length ((List.eraseIdx s.votes (Int.toNat n)) ++ ((a8.serveP a4).2.1)) : Int) > 200)) with h9 | h9
  try rw [h9]
  have g9 := of_decide_eq_true h9
  have n9 : ((List.length ((List.eraseIdx s.votes (Int.toNat n)) ++ ((a8.serveP a4).2.1))) > 200) := by omega
  refine OW.fi (ar := [.ref 8 1 0 0, .ref 9 3 0 0]) (r := VI 2) (m' := (M78 a4 a8 d n s)) (x' := ⟨(17, VI 2) :: M33, (M78 a4 a8 d n s)⟩) (by kernel_rfl) (by kernel_rfl) F76_call ?_ (by kernel_rfl) ?_
  refine fi_walkW F76_ok (of_decide_eq_true (by kernel_rfl)) ?_
  refine srl 1 [0, 1] ⟨[(0, .ref 8 1 0 0), (1, .ref 9 3 0 0)], (M20 d n s)⟩ ?_
  refine EL.sdrawF ?_
  refine dfr 4 ⟨(M34 n), (M20 d n s)⟩ ?_
  refine DF.fi (u := [(3, (M50 s)), (6, none), (7, (M51 n s)), (10, (M44 n s)), (11, (M41 a4))]) (ar := [.ref 7 5 0 0, VI n]) (r := (M39 a4)) (m' := (M52 a4 d n s)) (x' := ⟨(7, (M39 a4)) :: (M34 n), (M52 a4 d n s)⟩) (by kernel_rfl) (by kernel_rfl) F78_call ?_ (by kernel_rfl) (by kernel_rfl) (by kernel_rfl) ?_
  refine fi_walkW F78_ok (of_decide_eq_true (by kernel_rfl)) ?_
  refine srl 1 [0, 1, 4] ⟨(M37 n), (M36 d n s)⟩ ?_
  refine srr 6 ⟨(M38 n s), (M36 d n s)⟩ ?_
  refine owo (.ref 6 6 (0 + Int.toNat n) 0) [] [6] ⟨(12, .ref 6 6 (0 + Int.toNat n) 0) :: (M38 n s), (M36 d n s)⟩ (opE_iado (.s 10) (.s 11) 6 6 0 (List.length s.votes) .i64 n ⟨6, (s.votes.map Vote.cs)⟩ (by kernel_rfl) (by kernel_rfl) rfl rfl ⟨by omega, by omega⟩ (by kernel_rfl)) ?_
  refine owo (M39 a4) [] [6] ⟨(M40 a4 n s), (M36 d n s)⟩ (opE_ldoS Vote.cs s.votes (some 6) (.s 12) 6 6 (0 + Int.toNat n) 0 a4 ((M39 a4)) (by kernel_rfl) (by kernel_rfl) rfl (by kernel_rfl) (by simpa using ha4) (by kernel_rfl)) ?_
  refine owl 2 [0, 1, 4, 5] ⟨(5, .ref 11 6 0 0) :: (M37 n), (M42 a4 d n s)⟩ ?_
  refine srr 9 ⟨(22, VI (IntKind.i64.wrap (n + 1))) :: (M43 n s), (M42 a4 d n s)⟩ ?_
  have e10 : IntKind.i64.wrap (n + 1) = n + 1 := wr64 (by omega)
  rw [e10]
  refine OW.fi (ar := [.own 6 6 0 (List.length s.votes), VI n, VI (n + 1)]) (r := .own 13 6 0 (List.length (List.eraseIdx s.votes (Int.toNat n)))) (m' := (M45 a4 d n s)) (x' := ⟨(M46 n s), (M45 a4 d n s)⟩) (by kernel_rfl) (by kernel_rfl) F87_call (delete_map (fe := Vote.cs) (xs := s.votes) (m := (M42 a4 d n s)) (id := 6) (by_ := 56) (zs := [VI 0, VI 0, VI 0, VI 0, VI 0, .v (.string ⟨#[]⟩)]) (F87_ok.trans (by kernel_rfl)) rfl (by kernel_rfl) (by omega) (by omega) (by omega)) (by kernel_rfl) ?_
  refine owl 4 [4, 5] ⟨[(5, .ref 11 6 0 0), (4, .ref 10 6 0 0)], (M48 a4 d n s)⟩ ?_
  refine srl 2 [4] ⟨[(4, .ref 10 6 0 0)], (M49 a4 d n s)⟩ ?_
  refine EL.ret ?_
  refine ⟨.inr rfl, ⟨[(4, .ref 11 6 0 0)], (M52 a4 d n s)⟩, norm_le (live := [4]) (src := [.old 0 false, .old 1 false, .old 2 false, .old 3 false, .old 4 true, .old 5 true, .old 6 false, .old 7 false, .old 8 false, .old 9 false, .old 13 true, .old 10 false]) (es := []) (by kernel_rfl) ⟨pq 5 Seat.cs s.seats, pq 8 Bid.cs s.bids, pq 6 Vote.cs (List.eraseIdx s.votes (Int.toNat n)), trivial⟩, by kernel_rfl, rfl⟩
  refine DF.fi (u := [(4, (M65 a4 a8 s)), (7, (M75 a4 a8 n s)), (10, none), (12, (M70 a4 a8 n s))]) (ar := [.ref 7 5 0 0, (M39 a4)]) (r := VI 2) (m' := (M76 a4 a8 d n s)) (x' := ⟨(8, VI 2) :: (7, (M39 a4)) :: (M34 n), (M76 a4 a8 d n s)⟩) (by kernel_rfl) (by kernel_rfl) F77_call ?_ (by kernel_rfl) (by kernel_rfl) (by kernel_rfl) ?_
  refine fi_walkW F77_ok (of_decide_eq_true (by kernel_rfl)) ?_
  refine srl 2 [0, 3] ⟨[(3, .ref 12 6 0 0), (0, .ref 7 5 0 0)], (M53 a4 d n s)⟩ ?_
  refine srl 1 [0, 3] ⟨[(3, .ref 12 6 0 0), (0, .ref 7 5 0 0)], (M53 a4 d n s)⟩ ?_
  refine EL.seq ?_
  refine EL.seqG [0, 3, 13] (fun y => (y = ⟨M57, (M53 a4 d n s)⟩ ∧ (((a4.kind = 1)) ∨ (¬ (a4.kind = 1) ∧ (a4.kind = 3))))) ?_ ?_
  intro IHJ11 HJ11
  refine EL.reg0 ?_
  refine owr 4 ⟨(9, .v (.bool (a4.kind == 1))) :: (8, .v (.bool (a4.kind == 1))) :: (M54 a4), (M53 a4 d n s)⟩ ?_
  rcases Bool.eq_false_or_eq_true ((a4.kind == 1)) with h12 | h12
  rw [h12]
  have g12 : (a4.kind = 1) := by simpa using h12
  refine owe 4 ⟨(M55 a4), (M53 a4 d n s)⟩ ?_
  exact thenL_norm (HJ11.get ⟨by kernel_rfl, (Or.inl (by first | exact g12 | exact h12 | simp_all | omega))⟩)
  rw [h12]
  have g12 : ¬ (a4.kind = 1) := by simpa using h12
  refine owe 4 ⟨(13, .v (.bool (a4.kind == 3))) :: (12, .v (.bool (a4.kind == 3))) :: (M56 a4), (M53 a4 d n s)⟩ ?_
  have h13 : (a4.kind == 3) = true := eq_true_of_ne_false (fun hh => absurd hh (by simp only [beq_eq_false_iff_ne, ne_eq]; omega))
  rw [h13]
  exact thenL_norm (HJ11.get ⟨by kernel_rfl, (Or.inr (by refine ⟨(by first | exact g12 | exact h12 | simp_all | omega), (by first | exact g13 | exact h13 | simp_all | omega)⟩))⟩)
  rintro _ (⟨rfl, hD14⟩)
  refine cnT ?_
  refine EL.draw0 ?_
  refine dwr 14 ⟨(M58 a4 s), (M53 a4 d n s)⟩ ?_
  refine dwo (.ref 4 5 (0 + Int.toNat a4.node) 0) [] [4] ⟨(M59 a4 s), (M53 a4 d n s)⟩ (opE_iado (.s 26) (.s 28) 5 4 0 (List.length s.seats) .i64 a4.node ⟨5, (s.seats.map Seat.cs)⟩ (by kernel_rfl) (by kernel_rfl) rfl rfl ⟨by omega, by omega⟩ (by kernel_rfl)) ?_
  refine dwo (M60 a8) [] [4] ⟨(30, (M60 a8)) :: (M59 a4 s), (M53 a4 d n s)⟩ (opE_ldoS Seat.cs s.seats (some 5) (.s 29) 4 5 (0 + Int.toNat a4.node) 0 a8 ((M60 a8)) (by kernel_rfl) (by kernel_rfl) rfl (by kernel_rfl) (by simpa using ha8) (by kernel_rfl)) ?_
  refine dwr 1 ⟨(31, (M39 a4)) :: (30, (M60 a8)) :: (M59 a4 s), (M53 a4 d n s)⟩ ?_
  refine dwf [(M60 a8), (M39 a4)] ⟨(M62 a4 a8 s), (M53 a4 d n s)⟩ F85_call (serve_fn a8 a4) ?_
  refine dwr 4 ⟨(M63 a4 a8 s), (M53 a4 d n s)⟩ ?_
  refine dwo (.ref 4 5 (0 + Int.toNat a4.node) 0) [] [4] ⟨(M64 a4 a8 s), (M53 a4 d n s)⟩ (opE_iado (.s 19) (.s 21) 5 4 0 (List.length s.seats) .i64 a4.node ⟨5, (s.seats.map Seat.cs)⟩ (by kernel_rfl) (by kernel_rfl) rfl rfl ⟨by omega, by omega⟩ (by kernel_rfl)) ?_
  refine dwo (.v undef) [(4, some ⟨5, ((List.set s.seats (0 + Int.toNat a4.node) ((a8.serveP a4).1)).map Seat.cs)⟩)] [4] ⟨(M64 a4 a8 s), (M66 a4 a8 d n s)⟩ (opE_stoS Seat.cs s.seats 5 (.s 36) (.s 33) 4 5 (0 + Int.toNat a4.node) 0 a8 ((a8.serveP a4).1) ((M61 a4 a8)) (by kernel_rfl) (by kernel_rfl) rfl rfl (by kernel_rfl) (by simpa using ha8) (by kernel_rfl) (by kernel_rfl)) ?_
  refine dwe 1 ⟨(M67 a4 a8 s), (M66 a4 a8 d n s)⟩ ?_
  refine thenL_norm ?_
  refine srr 2 ⟨(M68 a4 a8 s), (M66 a4 a8 d n s)⟩ ?_
  refine OW.fi (ar := [.ref 7 5 0 0, .lst 6 (((a8.serveP a4).2.1).map Vote.cs)]) (r := VI 2) (m' := (M74 a4 a8 d n s)) (x' := ⟨(69, VI 2) :: (M68 a4 a8 s), (M74 a4 a8 d n s)⟩) (by kernel_rfl) (by kernel_rfl) F81_call ?_ (by kernel_rfl) ?_
  refine fi_walkW F81_ok (of_decide_eq_true (by kernel_rfl)) ?_
  refine srl 1 [0, 1] ⟨[(0, .ref 7 5 0 0), (1, .lst 6 (((a8.serveP a4).2.1).map Vote.cs))], (M66 a4 a8 d n s)⟩ ?_
  refine srr 7 ⟨(M69 a4 a8 n s), (M66 a4 a8 d n s)⟩ ?_
  refine owo (.own 13 6 0 (List.length ((List.eraseIdx s.votes (Int.toNat n)) ++ ((a8.serveP a4).2.1)))) [(10, none), (13, some ⟨6, (((List.eraseIdx s.votes (Int.toNat n)) ++ ((a8.serveP a4).2.1)).map Vote.cs)⟩)] [10] ⟨(M72 a4 a8 n s), (M71 a4 a8 d n s)⟩ (opE_appO Vote.cs (List.eraseIdx s.votes (Int.toNat n)) ((a8.serveP a4).2.1) (.s 10) (.s 11) 6 56 10 (.lst 6 (((a8.serveP a4).2.1).map Vote.cs)) _ (by kernel_rfl) (by kernel_rfl) rfl (by kernel_rfl) rfl .lst (by first | (simp; omega) | omega | exact app_le (by first | exact q4 | exact ers_le q4 | omega) (by first | exact begin_len _ _ _ _ | exact Nat.le_trans (serve_len _ _) (by decide) | exact hear_len _ _ _ _ | (simp; done)) (by decide))) ?_
  refine owl 4 [0] ⟨[(0, .ref 7 5 0 0)], (M74 a4 a8 d n s)⟩ ?_
  refine EL.seq ?_
  refine srl 7 [22] ⟨[(22, .v (.bool (decide ((List.length ((List.eraseIdx s.votes (Int.toNat n)) ++ ((a8.serveP a4).2.1)) : Int) > 200))))], (M74 a4 a8 d n s)⟩ ?_
  rw [h9]
  refine cnT ?_
  refine srl 1 [4] ⟨[(4, VI 2)], (M74 a4 a8 d n s)⟩ ?_
  refine rtr ?_
  refine ⟨.inr rfl, ⟨[(4, VI 2)], (M74 a4 a8 d n s)⟩, norm_le (live := [4]) (src := [.old 0 false, .old 1 false, .old 2 false, .old 3 false, .old 4 true, .old 5 true, .old 6 false, .old 7 false, .old 8 false, .old 9 false, .old 10 false, .old 11 false, .old 12 false, .old 13 true]) (es := []) (by kernel_rfl) ⟨pq 5 Seat.cs (List.set s.seats (0 + Int.toNat a4.node) ((a8.serveP a4).1)), pq 8 Bid.cs s.bids, pq 6 Vote.cs ((List.eraseIdx s.votes (Int.toNat n)) ++ ((a8.serveP a4).2.1)), trivial⟩, by kernel_rfl, rfl⟩
  refine owl 1 [4] ⟨[(4, VI 2)], (M74 a4 a8 d n s)⟩ ?_
  refine EL.ret ?_
  refine ⟨.inr rfl, ⟨[(4, VI 2)], (M76 a4 a8 d n s)⟩, norm_le (live := [4]) (src := [.old 0 false, .old 1 false, .old 2 false, .old 3 false, .old 4 true, .old 5 true, .old 6 false, .old 7 false, .old 8 false, .old 9 false, .old 10 false, .old 11 false, .old 13 true]) (es := []) (by kernel_rfl) ⟨pq 5 Seat.cs (List.set s.seats (0 + Int.toNat a4.node) ((a8.serveP a4).1)), pq 8 Bid.cs s.bids, pq 6 Vote.cs ((List.eraseIdx s.votes (Int.toNat n)) ++ ((a8.serveP a4).2.1)), trivial⟩, by kernel_rfl, rfl⟩
  refine dfl 1 [2] ⟨[(2, VI 2)], (M76 a4 a8 d n s)⟩ ?_
  refine EL.ret ?_
  refine ⟨.inr rfl, ⟨[(2, VI 2)], (M78 a4 a8 d n s)⟩, norm_le (live := [2]) (src := [.old 0 false, .old 1 false, .old 2 false, .old 3 false, .old 4 true, .old 5 true, .old 6 false, .old 7 false, .old 8 false, .old 9 false, .old 12 true]) (es := []) (by kernel_rfl) ⟨pq 5 Seat.cs (List.set s.seats (0 + Int.toNat a4.node) ((a8.serveP a4).1)), pq 8 Bid.cs s.bids, pq 6 Vote.cs ((List.eraseIdx s.votes (Int.toNat n)) ++ ((a8.serveP a4).2.1)), trivial⟩, by kernel_rfl, rfl⟩
  refine owe 1 ⟨(8, VI 2) :: (17, VI 2) :: M33, (M78 a4 a8 d n s)⟩ ?_
  refine inBlk_norm ?_
  refine thenL_norm ?_
  refine EL.seq ?_
  refine srl 2 [4, 6, 8, 51] ⟨M101, (M78 a4 a8 d n s)⟩ ?_
  refine cnT ?_
  refine srl 4 [4, 5] ⟨[(5, VI 2), (4, .ref 2 5 0 0)], (M78 a4 a8 d n s)⟩ ?_
  refine rtr ?_
  refine ⟨.inr rfl, .tup [.agg [.emp, VI 0, .emp, .emp, .emp], VI 2], by kernel_rfl, Ale.trans (b := .tup [.agg [.lst 1 [], VI 0, .lst 5 [], .lst 8 [], .lst 6 []], VI 2]) (Ale.tup (.cons (Ale.agg (.cons (Ale.emp) (.cons (Ale.refl) (.cons (Ale.emp) (.cons (Ale.emp) (.cons (Ale.emp) (.nil))))))) (.cons (Ale.refl) (.nil)))) (Ale.of_eq ?_)⟩
  rotate_left
  try rw [h9]
  have g9 := of_decide_eq_false h9
  have n9 : ¬ ((List.length ((List.eraseIdx s.votes (Int.toNat n)) ++ ((a8.serveP a4).2.1))) > 200) := by omega
  refine OW.fi (ar := [.ref 8 1 0 0, .ref 9 3 0 0]) (r := VI 0) (m' := (M78 a4 a8 d n s)) (x' := ⟨(17, VI 0) :: M33, (M78 a4 a8 d n s)⟩) (by kernel_rfl) (by kernel_rfl) F76_call ?_ (by kernel_rfl) ?_
  refine fi_walkW F76_ok (of_decide_eq_true (by kernel_rfl)) ?_
  refine srl 1 [0, 1] ⟨[(0, .ref 8 1 0 0), (1, .ref 9 3 0 0)], (M20 d n s)⟩ ?_
  refine EL.sdrawF ?_
  refine dfr 4 ⟨(M34 n), (M20 d n s)⟩ ?_
  refine DF.fi (u := [(3, (M50 s)), (6, none), (7, (M51 n s)), (10, (M44 n s)), (11, (M41 a4))]) (ar := [.ref 7 5 0 0, VI n]) (r := (M39 a4)) (m' := (M52 a4 d n s)) (x' := ⟨(7, (M39 a4)) :: (M34 n), (M52 a4 d n s)⟩) (by kernel_rfl) (by kernel_rfl) F78_call ?_ (by kernel_rfl) (by kernel_rfl) (by kernel_rfl) ?_
  refine fi_walkW F78_ok (of_decide_eq_true (by kernel_rfl)) ?_
  refine srl 1 [0, 1, 4] ⟨(M37 n), (M36 d n s)⟩ ?_
  refine srr 6 ⟨(M38 n s), (M36 d n s)⟩ ?_
  refine owo (.ref 6 6 (0 + Int.toNat n) 0) [] [6] ⟨(12, .ref 6 6 (0 + Int.toNat n) 0) :: (M38 n s), (M36 d n s)⟩ (opE_iado (.s 10) (.s 11) 6 6 0 (List.length s.votes) .i64 n ⟨6, (s.votes.map Vote.cs)⟩ (by kernel_rfl) (by kernel_rfl) rfl rfl ⟨by omega, by omega⟩ (by kernel_rfl)) ?_
  refine owo (M39 a4) [] [6] ⟨(M40 a4 n s), (M36 d n s)⟩ (opE_ldoS Vote.cs s.votes (some 6) (.s 12) 6 6 (0 + Int.toNat n) 0 a4 ((M39 a4)) (by kernel_rfl) (by kernel_rfl) rfl (by kernel_rfl) (by simpa using ha4) (by kernel_rfl)) ?_
  refine owl 2 [0, 1, 4, 5] ⟨(5, .ref 11 6 0 0) :: (M37 n), (M42 a4 d n s)⟩ ?_
  refine srr 9 ⟨(22, VI (IntKind.i64.wrap (n + 1))) :: (M43 n s), (M42 a4 d n s)⟩ ?_
  have e15 : IntKind.i64.wrap (n + 1) = n + 1 := wr64 (by omega)
  rw [e15]
  refine OW.fi (ar := [.own 6 6 0 (List.length s.votes), VI n, VI (n + 1)]) (r := .own 13 6 0 (List.length (List.eraseIdx s.votes (Int.toNat n)))) (m' := (M45 a4 d n s)) (x' := ⟨(M46 n s), (M45 a4 d n s)⟩) (by kernel_rfl) (by kernel_rfl) F87_call (delete_map (fe := Vote.cs) (xs := s.votes) (m := (M42 a4 d n s)) (id := 6) (by_ := 56) (zs := [VI 0, VI 0, VI 0, VI 0, VI 0, .v (.string ⟨#[]⟩)]) (F87_ok.trans (by kernel_rfl)) rfl (by kernel_rfl) (by omega) (by omega) (by omega)) (by kernel_rfl) ?_
  refine owl 4 [4, 5] ⟨[(5, .ref 11 6 0 0), (4, .ref 10 6 0 0)], (M48 a4 d n s)⟩ ?_
  refine srl 2 [4] ⟨[(4, .ref 10 6 0 0)], (M49 a4 d n s)⟩ ?_
  refine EL.ret ?_
  refine ⟨.inr rfl, ⟨[(4, .ref 11 6 0 0)], (M52 a4 d n s)⟩, norm_le (live := [4]) (src := [.old 0 false, .old 1 false, .old 2 false, .old 3 false, .old 4 true, .old 5 true, .old 6 false, .old 7 false, .old 8 false, .old 9 false, .old 13 true, .old 10 false]) (es := []) (by kernel_rfl) ⟨pq 5 Seat.cs s.seats, pq 8 Bid.cs s.bids, pq 6 Vote.cs (List.eraseIdx s.votes (Int.toNat n)), trivial⟩, by kernel_rfl, rfl⟩
  refine DF.fi (u := [(4, (M65 a4 a8 s)), (7, (M75 a4 a8 n s)), (10, none), (12, (M70 a4 a8 n s))]) (ar := [.ref 7 5 0 0, (M39 a4)]) (r := VI 0) (m' := (M76 a4 a8 d n s)) (x' := ⟨(8, VI 0) :: (7, (M39 a4)) :: (M34 n), (M76 a4 a8 d n s)⟩) (by kernel_rfl) (by kernel_rfl) F77_call ?_ (by kernel_rfl) (by kernel_rfl) (by kernel_rfl) ?_
  refine fi_walkW F77_ok (of_decide_eq_true (by kernel_rfl)) ?_
  refine srl 2 [0, 3] ⟨[(3, .ref 12 6 0 0), (0, .ref 7 5 0 0)], (M53 a4 d n s)⟩ ?_
  refine srl 1 [0, 3] ⟨[(3, .ref 12 6 0 0), (0, .ref 7 5 0 0)], (M53 a4 d n s)⟩ ?_
  refine EL.seq ?_
  refine EL.seqG [0, 3, 13] (fun y => (y = ⟨M57, (M53 a4 d n s)⟩ ∧ (((a4.kind = 1)) ∨ (¬ (a4.kind = 1) ∧ (a4.kind = 3))))) ?_ ?_
  intro IHJ16 HJ16
  refine EL.reg0 ?_
  refine owr 4 ⟨(9, .v (.bool (a4.kind == 1))) :: (8, .v (.bool (a4.kind == 1))) :: (M54 a4), (M53 a4 d n s)⟩ ?_
  rcases Bool.eq_false_or_eq_true ((a4.kind == 1)) with h17 | h17
  rw [h17]
  have g17 : (a4.kind = 1) := by simpa using h17
  refine owe 4 ⟨(M55 a4), (M53 a4 d n s)⟩ ?_
  exact thenL_norm (HJ16.get ⟨by kernel_rfl, (Or.inl (by first | exact g17 | exact h17 | simp_all | omega))⟩)
  rw [h17]
  have g17 : ¬ (a4.kind = 1) := by simpa using h17
  refine owe 4 ⟨(13, .v (.bool (a4.kind == 3))) :: (12, .v (.bool (a4.kind == 3))) :: (M56 a4), (M53 a4 d n s)⟩ ?_
  have h18 : (a4.kind == 3) = true := eq_true_of_ne_false (fun hh => absurd hh (by simp only [beq_eq_false_iff_ne, ne_eq]; omega))
  rw [h18]
  exact thenL_norm (HJ16.get ⟨by kernel_rfl, (Or.inr (by refine ⟨(by first | exact g17 | exact h17 | simp_all | omega), (by first | exact g18 | exact h18 | simp_all | omega)⟩))⟩)
  rintro _ (⟨rfl, hD19⟩)
  refine cnT ?_
  refine EL.draw0 ?_
  refine dwr 14 ⟨(M58 a4 s), (M53 a4 d n s)⟩ ?_
  refine dwo (.ref 4 5 (0 + Int.toNat a4.node) 0) [] [4] ⟨(M59 a4 s), (M53 a4 d n s)⟩ (opE_iado (.s 26) (.s 28) 5 4 0 (List.length s.seats) .i64 a4.node ⟨5, (s.seats.map Seat.cs)⟩ (by kernel_rfl) (by kernel_rfl) rfl rfl ⟨by omega, by omega⟩ (by kernel_rfl)) ?_
  refine dwo (M60 a8) [] [4] ⟨(30, (M60 a8)) :: (M59 a4 s), (M53 a4 d n s)⟩ (opE_ldoS Seat.cs s.seats (some 5) (.s 29) 4 5 (0 + Int.toNat a4.node) 0 a8 ((M60 a8)) (by kernel_rfl) (by kernel_rfl) rfl (by kernel_rfl) (by simpa using ha8) (by kernel_rfl)) ?_
  refine dwr 1 ⟨(31, (M39 a4)) :: (30, (M60 a8)) :: (M59 a4 s), (M53 a4 d n s)⟩ ?_
  refine dwf [(M60 a8), (M39 a4)] ⟨(M62 a4 a8 s), (M53 a4 d n s)⟩ F85_call (serve_fn a8 a4) ?_
  refine dwr 4 ⟨(M63 a4 a8 s), (M53 a4 d n s)⟩ ?_
  refine dwo (.ref 4 5 (0 + Int.toNat a4.node) 0) [] [4] ⟨(M64 a4 a8 s), (M53 a4 d n s)⟩ (opE_iado (.s 19) (.s 21) 5 4 0 (List.length s.seats) .i64 a4.node ⟨5, (s.seats.map Seat.cs)⟩ (by kernel_rfl) (by kernel_rfl) rfl rfl ⟨by omega, by omega⟩ (by kernel_rfl)) ?_
  refine dwo (.v undef) [(4, some ⟨5, ((List.set s.seats (0 + Int.toNat a4.node) ((a8.serveP a4).1)).map Seat.cs)⟩)] [4] ⟨(M64 a4 a8 s), (M66 a4 a8 d n s)⟩ (opE_stoS Seat.cs s.seats 5 (.s 36) (.s 33) 4 5 (0 + Int.toNat a4.node) 0 a8 ((a8.serveP a4).1) ((M61 a4 a8)) (by kernel_rfl) (by kernel_rfl) rfl rfl (by kernel_rfl) (by simpa using ha8) (by kernel_rfl) (by kernel_rfl)) ?_
  refine dwe 1 ⟨(M67 a4 a8 s), (M66 a4 a8 d n s)⟩ ?_
  refine thenL_norm ?_
  refine srr 2 ⟨(M68 a4 a8 s), (M66 a4 a8 d n s)⟩ ?_
  refine OW.fi (ar := [.ref 7 5 0 0, .lst 6 (((a8.serveP a4).2.1).map Vote.cs)]) (r := VI 0) (m' := (M74 a4 a8 d n s)) (x' := ⟨(69, VI 0) :: (M68 a4 a8 s), (M74 a4 a8 d n s)⟩) (by kernel_rfl) (by kernel_rfl) F81_call ?_ (by kernel_rfl) ?_
  refine fi_walkW F81_ok (of_decide_eq_true (by kernel_rfl)) ?_
  refine srl 1 [0, 1] ⟨[(0, .ref 7 5 0 0), (1, .lst 6 (((a8.serveP a4).2.1).map Vote.cs))], (M66 a4 a8 d n s)⟩ ?_
  refine srr 7 ⟨(M69 a4 a8 n s), (M66 a4 a8 d n s)⟩ ?_
  refine owo (.own 13 6 0 (List.length ((List.eraseIdx s.votes (Int.toNat n)) ++ ((a8.serveP a4).2.1)))) [(10, none), (13, some ⟨6, (((List.eraseIdx s.votes (Int.toNat n)) ++ ((a8.serveP a4).2.1)).map Vote.cs)⟩)] [10] ⟨(M72 a4 a8 n s), (M71 a4 a8 d n s)⟩ (opE_appO Vote.cs (List.eraseIdx s.votes (Int.toNat n)) ((a8.serveP a4).2.1) (.s 10) (.s 11) 6 56 10 (.lst 6 (((a8.serveP a4).2.1).map Vote.cs)) _ (by kernel_rfl) (by kernel_rfl) rfl (by kernel_rfl) rfl .lst (by first | (simp; omega) | omega | exact app_le (by first | exact q4 | exact ers_le q4 | omega) (by first | exact begin_len _ _ _ _ | exact Nat.le_trans (serve_len _ _) (by decide) | exact hear_len _ _ _ _ | (simp; done)) (by decide))) ?_
  refine owl 4 [0] ⟨[(0, .ref 7 5 0 0)], (M74 a4 a8 d n s)⟩ ?_
  refine EL.seq ?_
  refine srl 7 [22] ⟨[(22, .v (.bool (decide ((List.length ((List.eraseIdx s.votes (Int.toNat n)) ++ ((a8.serveP a4).2.1)) : Int) > 200))))], (M74 a4 a8 d n s)⟩ ?_
  rw [h9]
  refine cnF ?_
  refine skn ?_
  refine srl 1 [4] ⟨[(4, VI 0)], (M74 a4 a8 d n s)⟩ ?_
  refine EL.ret ?_
  refine ⟨.inr rfl, ⟨[(4, VI 0)], (M74 a4 a8 d n s)⟩, norm_le (live := [4]) (src := [.old 0 false, .old 1 false, .old 2 false, .old 3 false, .old 4 true, .old 5 true, .old 6 false, .old 7 false, .old 8 false, .old 9 false, .old 10 false, .old 11 false, .old 12 false, .old 13 true]) (es := []) (by kernel_rfl) ⟨pq 5 Seat.cs (List.set s.seats (0 + Int.toNat a4.node) ((a8.serveP a4).1)), pq 8 Bid.cs s.bids, pq 6 Vote.cs ((List.eraseIdx s.votes (Int.toNat n)) ++ ((a8.serveP a4).2.1)), trivial⟩, by kernel_rfl, rfl⟩
  refine owl 1 [4] ⟨[(4, VI 0)], (M74 a4 a8 d n s)⟩ ?_
  refine EL.ret ?_
  refine ⟨.inr rfl, ⟨[(4, VI 0)], (M76 a4 a8 d n s)⟩, norm_le (live := [4]) (src := [.old 0 false, .old 1 false, .old 2 false, .old 3 false, .old 4 true, .old 5 true, .old 6 false, .old 7 false, .old 8 false, .old 9 false, .old 10 false, .old 11 false, .old 13 true]) (es := []) (by kernel_rfl) ⟨pq 5 Seat.cs (List.set s.seats (0 + Int.toNat a4.node) ((a8.serveP a4).1)), pq 8 Bid.cs s.bids, pq 6 Vote.cs ((List.eraseIdx s.votes (Int.toNat n)) ++ ((a8.serveP a4).2.1)), trivial⟩, by kernel_rfl, rfl⟩
  refine dfl 1 [2] ⟨[(2, VI 0)], (M76 a4 a8 d n s)⟩ ?_
  refine EL.ret ?_
  refine ⟨.inr rfl, ⟨[(2, VI 0)], (M78 a4 a8 d n s)⟩, norm_le (live := [2]) (src := [.old 0 false, .old 1 false, .old 2 false, .old 3 false, .old 4 true, .old 5 true, .old 6 false, .old 7 false, .old 8 false, .old 9 false, .old 12 true]) (es := []) (by kernel_rfl) ⟨pq 5 Seat.cs (List.set s.seats (0 + Int.toNat a4.node) ((a8.serveP a4).1)), pq 8 Bid.cs s.bids, pq 6 Vote.cs ((List.eraseIdx s.votes (Int.toNat n)) ++ ((a8.serveP a4).2.1)), trivial⟩, by kernel_rfl, rfl⟩
  refine owe 1 ⟨(8, VI 0) :: (17, VI 0) :: M33, (M78 a4 a8 d n s)⟩ ?_
  refine inBlk_norm ?_
  refine thenL_norm ?_
  refine EL.seq ?_
  refine srl 2 [4, 6, 8, 51] ⟨M102, (M78 a4 a8 d n s)⟩ ?_
  refine cnF ?_
  refine skn ?_
  refine srl 6 [4, 5] ⟨[(5, VI 0), (4, .ref 2 5 0 0)], (M103 a4 a8 d n s)⟩ ?_
  refine EL.ret ?_
  refine ⟨.inr rfl, .tup [(M105 a4 a8 n s), VI 0], run_snap (r0 := .tup [(M104 a4 a8 n s), VI 0]) (by kernel_rfl) (snapR_tup (snapAs_cons (snapA_agg (snapL_cons (by kernel_rfl) (snapL_cons (by kernel_rfl) (snapL_cons (smp Seat.cs (List.set s.seats (0 + Int.toNat a4.node) ((a8.serveP a4).1))) (snapL_cons (smp Bid.cs s.bids) (snapL_cons (smp Vote.cs ((List.eraseIdx s.votes (Int.toNat n)) ++ ((a8.serveP a4).2.1))) (rfl))))))) (snapAs_cons (by kernel_rfl) (snapAs_nil)))), Ale.of_eq ?_⟩
  rotate_left
  have h20 : (a4.kind == 1) = false := by simp only [beq_iff_eq, beq_eq_false_iff_ne, ne_eq]; omega
  have g20 : ¬ (a4.kind = 1) := by simpa using h20
  have h21 : (a4.kind == 3) = false := by simp only [beq_iff_eq, beq_eq_false_iff_ne, ne_eq]; omega
  have g21 : ¬ (a4.kind = 3) := by simpa using h21
  obtain ⟨a22, ha22⟩ : ∃ y, s.bids[(a4.bid : Int).toNat]? = some y := idx_ex ⟨by omega, by omega⟩
  rcases Bool.eq_false_or_eq_true (decide ((List.length ((List.eraseIdx s.votes (Int.toNat n)) ++ ((hearP s.voters a4.bid a22 a4).2.1)) : Int) > 200)) with h23 | h23
  try rw [h23]
  have g23 := of_decide_eq_true h23
  have n23 : ((List.length ((List.eraseIdx s.votes (Int.toNat n)) ++ ((hearP s.voters a4.bid a22 a4).2.1))) > 200) := by omega
  refine OW.fi (ar := [.ref 8 1 0 0, .ref 9 3 0 0]) (r := VI 2) (m' := (M99 a22 a4 d n s)) (x' := ⟨(17, VI 2) :: M33, (M99 a22 a4 d n s)⟩) (by kernel_rfl) (by kernel_rfl) F76_call ?_ (by kernel_rfl) ?_
  refine fi_walkW F76_ok (of_decide_eq_true (by kernel_rfl)) ?_
  refine srl 1 [0, 1] ⟨[(0, .ref 8 1 0 0), (1, .ref 9 3 0 0)], (M20 d n s)⟩ ?_
  refine EL.sdrawF ?_
  refine dfr 4 ⟨(M34 n), (M20 d n s)⟩ ?_
  refine DF.fi (u := [(3, (M50 s)), (6, none), (7, (M51 n s)), (10, (M44 n s)), (11, (M41 a4))]) (ar := [.ref 7 5 0 0, VI n]) (r := (M39 a4)) (m' := (M52 a4 d n s)) (x' := ⟨(7, (M39 a4)) :: (M34 n), (M52 a4 d n s)⟩) (by kernel_rfl) (by kernel_rfl) F78_call ?_ (by kernel_rfl) (by kernel_rfl) (by kernel_rfl) ?_
  refine fi_walkW F78_ok (of_decide_eq_true (by kernel_rfl)) ?_
  refine srl 1 [0, 1, 4] ⟨(M37 n), (M36 d n s)⟩ ?_
  refine srr 6 ⟨(M38 n s), (M36 d n s)⟩ ?_
  refine owo (.ref 6 6 (0 + Int.toNat n) 0) [] [6] ⟨(12, .ref 6 6 (0 + Int.toNat n) 0) :: (M38 n s), (M36 d n s)⟩ (opE_iado (.s 10) (.s 11) 6 6 0 (List.length s.votes) .i64 n ⟨6, (s.votes.map Vote.cs)⟩ (by kernel_rfl) (by kernel_rfl) rfl rfl ⟨by omega, by omega⟩ (by kernel_rfl)) ?_
  refine owo (M39 a4) [] [6] ⟨(M40 a4 n s), (M36 d n s)⟩ (opE_ldoS Vote.cs s.votes (some 6) (.s 12) 6 6 (0 + Int.toNat n) 0 a4 ((M39 a4)) (by kernel_rfl) (by kernel_rfl) rfl (by kernel_rfl) (by simpa using ha4) (by kernel_rfl)) ?_
  refine owl 2 [0, 1, 4, 5] ⟨(5, .ref 11 6 0 0) :: (M37 n), (M42 a4 d n s)⟩ ?_
  refine srr 9 ⟨(22, VI (IntKind.i64.wrap (n + 1))) :: (M43 n s), (M42 a4 d n s)⟩ ?_
  have e24 : IntKind.i64.wrap (n + 1) = n + 1 := wr64 (by omega)
  rw [e24]
  refine OW.fi (ar := [.own 6 6 0 (List.length s.votes), VI n, VI (n + 1)]) (r := .own 13 6 0 (List.length (List.eraseIdx s.votes (Int.toNat n)))) (m' := (M45 a4 d n s)) (x' := ⟨(M46 n s), (M45 a4 d n s)⟩) (by kernel_rfl) (by kernel_rfl) F87_call (delete_map (fe := Vote.cs) (xs := s.votes) (m := (M42 a4 d n s)) (id := 6) (by_ := 56) (zs := [VI 0, VI 0, VI 0, VI 0, VI 0, .v (.string ⟨#[]⟩)]) (F87_ok.trans (by kernel_rfl)) rfl (by kernel_rfl) (by omega) (by omega) (by omega)) (by kernel_rfl) ?_
  refine owl 4 [4, 5] ⟨[(5, .ref 11 6 0 0), (4, .ref 10 6 0 0)], (M48 a4 d n s)⟩ ?_
  refine srl 2 [4] ⟨[(4, .ref 10 6 0 0)], (M49 a4 d n s)⟩ ?_
  refine EL.ret ?_
  refine ⟨.inr rfl, ⟨[(4, .ref 11 6 0 0)], (M52 a4 d n s)⟩, norm_le (live := [4]) (src := [.old 0 false, .old 1 false, .old 2 false, .old 3 false, .old 4 true, .old 5 true, .old 6 false, .old 7 false, .old 8 false, .old 9 false, .old 13 true, .old 10 false]) (es := []) (by kernel_rfl) ⟨pq 5 Seat.cs s.seats, pq 8 Bid.cs s.bids, pq 6 Vote.cs (List.eraseIdx s.votes (Int.toNat n)), trivial⟩, by kernel_rfl, rfl⟩
  refine DF.fi (u := [(5, (M86 a22 a4 s)), (7, (M96 a22 a4 n s)), (10, none), (12, (M91 a22 a4 n s))]) (ar := [.ref 7 5 0 0, (M39 a4)]) (r := VI 2) (m' := (M97 a22 a4 d n s)) (x' := ⟨(8, VI 2) :: (7, (M39 a4)) :: (M34 n), (M97 a22 a4 d n s)⟩) (by kernel_rfl) (by kernel_rfl) F77_call ?_ (by kernel_rfl) (by kernel_rfl) (by kernel_rfl) ?_
  refine fi_walkW F77_ok (of_decide_eq_true (by kernel_rfl)) ?_
  refine srl 2 [0, 3] ⟨[(3, .ref 12 6 0 0), (0, .ref 7 5 0 0)], (M53 a4 d n s)⟩ ?_
  refine srl 1 [0, 3] ⟨[(3, .ref 12 6 0 0), (0, .ref 7 5 0 0)], (M53 a4 d n s)⟩ ?_
  refine EL.seq ?_
  refine srr 4 ⟨(9, .v (.bool (a4.kind == 1))) :: (8, .v (.bool (a4.kind == 1))) :: (M54 a4), (M53 a4 d n s)⟩ ?_
  rw [h20]
  refine owl 4 [0, 3, 13] ⟨[(13, .v (.bool (a4.kind == 3))), (3, .ref 12 6 0 0), (0, .ref 7 5 0 0)], (M53 a4 d n s)⟩ ?_
  rw [h21]
  refine cnF ?_
  refine EL.draw0 ?_
  refine dwr 21 ⟨(M79 a4 s), (M53 a4 d n s)⟩ ?_
  refine dwo (.ref 5 8 (0 + Int.toNat a4.bid) 0) [] [5] ⟨(59, .ref 5 8 (0 + Int.toNat a4.bid) 0) :: (M79 a4 s), (M53 a4 d n s)⟩ (opE_iado (.s 56) (.s 58) 8 5 0 (List.length s.bids) .i64 a4.bid ⟨8, (s.bids.map Bid.cs)⟩ (by kernel_rfl) (by kernel_rfl) rfl rfl ⟨by omega, by omega⟩ (by kernel_rfl)) ?_
  refine dwo (M80 a22) [] [5] ⟨(M81 a22 a4 s), (M53 a4 d n s)⟩ (opE_ldoS Bid.cs s.bids (some 8) (.s 59) 5 8 (0 + Int.toNat a4.bid) 0 a22 ((M80 a22)) (by kernel_rfl) (by kernel_rfl) rfl (by kernel_rfl) (by simpa using ha22) (by kernel_rfl)) ?_
  refine dwr 1 ⟨(61, (M39 a4)) :: (M81 a22 a4 s), (M53 a4 d n s)⟩ ?_
  refine dwf [.agg [.lst 1 (s.voters.weights.map cI), VI s.voters.need], VI a4.bid, (M80 a22), (M39 a4)] ⟨(M84 a22 a4 s), (M53 a4 d n s)⟩ F86_call (hear_fn s.voters a4.bid a22 a4 hx1) ?_
  refine dwr 4 ⟨(M85 a22 a4 s), (M53 a4 d n s)⟩ ?_
  refine dwo (.ref 5 8 (0 + Int.toNat a4.bid) 0) [] [5] ⟨(66, .ref 5 8 (0 + Int.toNat a4.bid) 0) :: (M85 a22 a4 s), (M53 a4 d n s)⟩ (opE_iado (.s 42) (.s 44) 8 5 0 (List.length s.bids) .i64 a4.bid ⟨8, (s.bids.map Bid.cs)⟩ (by kernel_rfl) (by kernel_rfl) rfl rfl ⟨by omega, by omega⟩ (by kernel_rfl)) ?_
  refine dwo (.v undef) [(5, some ⟨8, ((List.set s.bids (0 + Int.toNat a4.bid) (M82 a22 a4 s)).map Bid.cs)⟩)] [5] ⟨(66, .ref 5 8 (0 + Int.toNat a4.bid) 0) :: (M85 a22 a4 s), (M87 a22 a4 d n s)⟩ (opE_stoS Bid.cs s.bids 8 (.s 66) (.s 63) 5 8 (0 + Int.toNat a4.bid) 0 a22 (M82 a22 a4 s) ((M83 a22 a4 s)) (by kernel_rfl) (by kernel_rfl) rfl rfl (by kernel_rfl) (by simpa using ha22) (by kernel_rfl) (by kernel_rfl)) ?_
  refine dwe 1 ⟨(M88 a22 a4 s), (M87 a22 a4 d n s)⟩ ?_
  refine thenL_norm ?_
  refine srr 2 ⟨(M89 a22 a4 s), (M87 a22 a4 d n s)⟩ ?_
  refine OW.fi (ar := [.ref 7 5 0 0, .lst 6 (((hearP s.voters a4.bid a22 a4).2.1).map Vote.cs)]) (r := VI 2) (m' := (M95 a22 a4 d n s)) (x' := ⟨(69, VI 2) :: (M89 a22 a4 s), (M95 a22 a4 d n s)⟩) (by kernel_rfl) (by kernel_rfl) F81_call ?_ (by kernel_rfl) ?_
  refine fi_walkW F81_ok (of_decide_eq_true (by kernel_rfl)) ?_
  refine srl 1 [0, 1] ⟨[(0, .ref 7 5 0 0), (1, .lst 6 (((hearP s.voters a4.bid a22 a4).2.1).map Vote.cs))], (M87 a22 a4 d n s)⟩ ?_
  refine srr 7 ⟨(M90 a22 a4 n s), (M87 a22 a4 d n s)⟩ ?_
  refine owo (.own 13 6 0 (List.length ((List.eraseIdx s.votes (Int.toNat n)) ++ ((hearP s.voters a4.bid a22 a4).2.1)))) [(10, none), (13, some ⟨6, (((List.eraseIdx s.votes (Int.toNat n)) ++ ((hearP s.voters a4.bid a22 a4).2.1)).map Vote.cs)⟩)] [10] ⟨(M93 a22 a4 n s), (M92 a22 a4 d n s)⟩ (opE_appO Vote.cs (List.eraseIdx s.votes (Int.toNat n)) ((hearP s.voters a4.bid a22 a4).2.1) (.s 10) (.s 11) 6 56 10 (.lst 6 (((hearP s.voters a4.bid a22 a4).2.1).map Vote.cs)) _ (by kernel_rfl) (by kernel_rfl) rfl (by kernel_rfl) rfl .lst (by first | (simp; omega) | omega | exact app_le (by first | exact q4 | exact ers_le q4 | omega) (by first | exact begin_len _ _ _ _ | exact Nat.le_trans (serve_len _ _) (by decide) | exact hear_len _ _ _ _ | (simp; done)) (by decide))) ?_
  refine owl 4 [0] ⟨[(0, .ref 7 5 0 0)], (M95 a22 a4 d n s)⟩ ?_
  refine EL.seq ?_
  refine srl 7 [22] ⟨[(22, .v (.bool (decide ((List.length ((List.eraseIdx s.votes (Int.toNat n)) ++ ((hearP s.voters a4.bid a22 a4).2.1)) : Int) > 200))))], (M95 a22 a4 d n s)⟩ ?_
  rw [h23]
  refine cnT ?_
  refine srl 1 [4] ⟨[(4, VI 2)], (M95 a22 a4 d n s)⟩ ?_
  refine rtr ?_
  refine ⟨.inr rfl, ⟨[(4, VI 2)], (M95 a22 a4 d n s)⟩, norm_le (live := [4]) (src := [.old 0 false, .old 1 false, .old 2 false, .old 3 false, .old 4 true, .old 5 true, .old 6 false, .old 7 false, .old 8 false, .old 9 false, .old 10 false, .old 11 false, .old 12 false, .old 13 true]) (es := []) (by kernel_rfl) ⟨pq 5 Seat.cs s.seats, pq 8 Bid.cs (List.set s.bids (0 + Int.toNat a4.bid) (M82 a22 a4 s)), pq 6 Vote.cs ((List.eraseIdx s.votes (Int.toNat n)) ++ ((hearP s.voters a4.bid a22 a4).2.1)), trivial⟩, by kernel_rfl, rfl⟩
  refine owl 1 [4] ⟨[(4, VI 2)], (M95 a22 a4 d n s)⟩ ?_
  refine EL.ret ?_
  refine ⟨.inr rfl, ⟨[(4, VI 2)], (M97 a22 a4 d n s)⟩, norm_le (live := [4]) (src := [.old 0 false, .old 1 false, .old 2 false, .old 3 false, .old 4 true, .old 5 true, .old 6 false, .old 7 false, .old 8 false, .old 9 false, .old 10 false, .old 11 false, .old 13 true]) (es := []) (by kernel_rfl) ⟨pq 5 Seat.cs s.seats, pq 8 Bid.cs (List.set s.bids (0 + Int.toNat a4.bid) (M82 a22 a4 s)), pq 6 Vote.cs ((List.eraseIdx s.votes (Int.toNat n)) ++ ((hearP s.voters a4.bid a22 a4).2.1)), trivial⟩, by kernel_rfl, rfl⟩
  refine dfl 1 [2] ⟨[(2, VI 2)], (M97 a22 a4 d n s)⟩ ?_
  refine EL.ret ?_
  refine ⟨.inr rfl, ⟨[(2, VI 2)], (M99 a22 a4 d n s)⟩, norm_le (live := [2]) (src := [.old 0 false, .old 1 false, .old 2 false, .old 3 false, .old 4 true, .old 5 true, .old 6 false, .old 7 false, .old 8 false, .old 9 false, .old 12 true]) (es := []) (by kernel_rfl) ⟨pq 5 Seat.cs s.seats, pq 8 Bid.cs (List.set s.bids (0 + Int.toNat a4.bid) (M82 a22 a4 s)), pq 6 Vote.cs ((List.eraseIdx s.votes (Int.toNat n)) ++ ((hearP s.voters a4.bid a22 a4).2.1)), trivial⟩, by kernel_rfl, rfl⟩
  refine owe 1 ⟨(8, VI 2) :: (17, VI 2) :: M33, (M99 a22 a4 d n s)⟩ ?_
  refine inBlk_norm ?_
  refine thenL_norm ?_
  refine EL.seq ?_
  refine srl 2 [4, 6, 8, 51] ⟨M101, (M99 a22 a4 d n s)⟩ ?_
  refine cnT ?_
  refine srl 4 [4, 5] ⟨[(5, VI 2), (4, .ref 2 5 0 0)], (M99 a22 a4 d n s)⟩ ?_
  refine rtr ?_
  refine ⟨.inr rfl, .tup [.agg [.emp, VI 0, .emp, .emp, .emp], VI 2], by kernel_rfl, Ale.trans (b := .tup [.agg [.lst 1 [], VI 0, .lst 5 [], .lst 8 [], .lst 6 []], VI 2]) (Ale.tup (.cons (Ale.agg (.cons (Ale.emp) (.cons (Ale.refl) (.cons (Ale.emp) (.cons (Ale.emp) (.cons (Ale.emp) (.nil))))))) (.cons (Ale.refl) (.nil)))) (Ale.of_eq ?_)⟩
  rotate_left
  try rw [h23]
  have g23 := of_decide_eq_false h23
  have n23 : ¬ ((List.length ((List.eraseIdx s.votes (Int.toNat n)) ++ ((hearP s.voters a4.bid a22 a4).2.1))) > 200) := by omega
  refine OW.fi (ar := [.ref 8 1 0 0, .ref 9 3 0 0]) (r := VI 0) (m' := (M99 a22 a4 d n s)) (x' := ⟨(17, VI 0) :: M33, (M99 a22 a4 d n s)⟩) (by kernel_rfl) (by kernel_rfl) F76_call ?_ (by kernel_rfl) ?_
  refine fi_walkW F76_ok (of_decide_eq_true (by kernel_rfl)) ?_
  refine srl 1 [0, 1] ⟨[(0, .ref 8 1 0 0), (1, .ref 9 3 0 0)], (M20 d n s)⟩ ?_
  refine EL.sdrawF ?_
  refine dfr 4 ⟨(M34 n), (M20 d n s)⟩ ?_
  refine DF.fi (u := [(3, (M50 s)), (6, none), (7, (M51 n s)), (10, (M44 n s)), (11, (M41 a4))]) (ar := [.ref 7 5 0 0, VI n]) (r := (M39 a4)) (m' := (M52 a4 d n s)) (x' := ⟨(7, (M39 a4)) :: (M34 n), (M52 a4 d n s)⟩) (by kernel_rfl) (by kernel_rfl) F78_call ?_ (by kernel_rfl) (by kernel_rfl) (by kernel_rfl) ?_
  refine fi_walkW F78_ok (of_decide_eq_true (by kernel_rfl)) ?_
  refine srl 1 [0, 1, 4] ⟨(M37 n), (M36 d n s)⟩ ?_
  refine srr 6 ⟨(M38 n s), (M36 d n s)⟩ ?_
  refine owo (.ref 6 6 (0 + Int.toNat n) 0) [] [6] ⟨(12, .ref 6 6 (0 + Int.toNat n) 0) :: (M38 n s), (M36 d n s)⟩ (opE_iado (.s 10) (.s 11) 6 6 0 (List.length s.votes) .i64 n ⟨6, (s.votes.map Vote.cs)⟩ (by kernel_rfl) (by kernel_rfl) rfl rfl ⟨by omega, by omega⟩ (by kernel_rfl)) ?_
  refine owo (M39 a4) [] [6] ⟨(M40 a4 n s), (M36 d n s)⟩ (opE_ldoS Vote.cs s.votes (some 6) (.s 12) 6 6 (0 + Int.toNat n) 0 a4 ((M39 a4)) (by kernel_rfl) (by kernel_rfl) rfl (by kernel_rfl) (by simpa using ha4) (by kernel_rfl)) ?_
  refine owl 2 [0, 1, 4, 5] ⟨(5, .ref 11 6 0 0) :: (M37 n), (M42 a4 d n s)⟩ ?_
  refine srr 9 ⟨(22, VI (IntKind.i64.wrap (n + 1))) :: (M43 n s), (M42 a4 d n s)⟩ ?_
  have e25 : IntKind.i64.wrap (n + 1) = n + 1 := wr64 (by omega)
  rw [e25]
  refine OW.fi (ar := [.own 6 6 0 (List.length s.votes), VI n, VI (n + 1)]) (r := .own 13 6 0 (List.length (List.eraseIdx s.votes (Int.toNat n)))) (m' := (M45 a4 d n s)) (x' := ⟨(M46 n s), (M45 a4 d n s)⟩) (by kernel_rfl) (by kernel_rfl) F87_call (delete_map (fe := Vote.cs) (xs := s.votes) (m := (M42 a4 d n s)) (id := 6) (by_ := 56) (zs := [VI 0, VI 0, VI 0, VI 0, VI 0, .v (.string ⟨#[]⟩)]) (F87_ok.trans (by kernel_rfl)) rfl (by kernel_rfl) (by omega) (by omega) (by omega)) (by kernel_rfl) ?_
  refine owl 4 [4, 5] ⟨[(5, .ref 11 6 0 0), (4, .ref 10 6 0 0)], (M48 a4 d n s)⟩ ?_
  refine srl 2 [4] ⟨[(4, .ref 10 6 0 0)], (M49 a4 d n s)⟩ ?_
  refine EL.ret ?_
  refine ⟨.inr rfl, ⟨[(4, .ref 11 6 0 0)], (M52 a4 d n s)⟩, norm_le (live := [4]) (src := [.old 0 false, .old 1 false, .old 2 false, .old 3 false, .old 4 true, .old 5 true, .old 6 false, .old 7 false, .old 8 false, .old 9 false, .old 13 true, .old 10 false]) (es := []) (by kernel_rfl) ⟨pq 5 Seat.cs s.seats, pq 8 Bid.cs s.bids, pq 6 Vote.cs (List.eraseIdx s.votes (Int.toNat n)), trivial⟩, by kernel_rfl, rfl⟩
  refine DF.fi (u := [(5, (M86 a22 a4 s)), (7, (M96 a22 a4 n s)), (10, none), (12, (M91 a22 a4 n s))]) (ar := [.ref 7 5 0 0, (M39 a4)]) (r := VI 0) (m' := (M97 a22 a4 d n s)) (x' := ⟨(8, VI 0) :: (7, (M39 a4)) :: (M34 n), (M97 a22 a4 d n s)⟩) (by kernel_rfl) (by kernel_rfl) F77_call ?_ (by kernel_rfl) (by kernel_rfl) (by kernel_rfl) ?_
  refine fi_walkW F77_ok (of_decide_eq_true (by kernel_rfl)) ?_
  refine srl 2 [0, 3] ⟨[(3, .ref 12 6 0 0), (0, .ref 7 5 0 0)], (M53 a4 d n s)⟩ ?_
  refine srl 1 [0, 3] ⟨[(3, .ref 12 6 0 0), (0, .ref 7 5 0 0)], (M53 a4 d n s)⟩ ?_
  refine EL.seq ?_
  refine srr 4 ⟨(9, .v (.bool (a4.kind == 1))) :: (8, .v (.bool (a4.kind == 1))) :: (M54 a4), (M53 a4 d n s)⟩ ?_
  rw [h20]
  refine owl 4 [0, 3, 13] ⟨[(13, .v (.bool (a4.kind == 3))), (3, .ref 12 6 0 0), (0, .ref 7 5 0 0)], (M53 a4 d n s)⟩ ?_
  rw [h21]
  refine cnF ?_
  refine EL.draw0 ?_
  refine dwr 21 ⟨(M79 a4 s), (M53 a4 d n s)⟩ ?_
  refine dwo (.ref 5 8 (0 + Int.toNat a4.bid) 0) [] [5] ⟨(59, .ref 5 8 (0 + Int.toNat a4.bid) 0) :: (M79 a4 s), (M53 a4 d n s)⟩ (opE_iado (.s 56) (.s 58) 8 5 0 (List.length s.bids) .i64 a4.bid ⟨8, (s.bids.map Bid.cs)⟩ (by kernel_rfl) (by kernel_rfl) rfl rfl ⟨by omega, by omega⟩ (by kernel_rfl)) ?_
  refine dwo (M80 a22) [] [5] ⟨(M81 a22 a4 s), (M53 a4 d n s)⟩ (opE_ldoS Bid.cs s.bids (some 8) (.s 59) 5 8 (0 + Int.toNat a4.bid) 0 a22 ((M80 a22)) (by kernel_rfl) (by kernel_rfl) rfl (by kernel_rfl) (by simpa using ha22) (by kernel_rfl)) ?_
  refine dwr 1 ⟨(61, (M39 a4)) :: (M81 a22 a4 s), (M53 a4 d n s)⟩ ?_
  refine dwf [.agg [.lst 1 (s.voters.weights.map cI), VI s.voters.need], VI a4.bid, (M80 a22), (M39 a4)] ⟨(M84 a22 a4 s), (M53 a4 d n s)⟩ F86_call (hear_fn s.voters a4.bid a22 a4 hx1) ?_
  refine dwr 4 ⟨(M85 a22 a4 s), (M53 a4 d n s)⟩ ?_
  refine dwo (.ref 5 8 (0 + Int.toNat a4.bid) 0) [] [5] ⟨(66, .ref 5 8 (0 + Int.toNat a4.bid) 0) :: (M85 a22 a4 s), (M53 a4 d n s)⟩ (opE_iado (.s 42) (.s 44) 8 5 0 (List.length s.bids) .i64 a4.bid ⟨8, (s.bids.map Bid.cs)⟩ (by kernel_rfl) (by kernel_rfl) rfl rfl ⟨by omega, by omega⟩ (by kernel_rfl)) ?_
  refine dwo (.v undef) [(5, some ⟨8, ((List.set s.bids (0 + Int.toNat a4.bid) (M82 a22 a4 s)).map Bid.cs)⟩)] [5] ⟨(66, .ref 5 8 (0 + Int.toNat a4.bid) 0) :: (M85 a22 a4 s), (M87 a22 a4 d n s)⟩ (opE_stoS Bid.cs s.bids 8 (.s 66) (.s 63) 5 8 (0 + Int.toNat a4.bid) 0 a22 (M82 a22 a4 s) ((M83 a22 a4 s)) (by kernel_rfl) (by kernel_rfl) rfl rfl (by kernel_rfl) (by simpa using ha22) (by kernel_rfl) (by kernel_rfl)) ?_
  refine dwe 1 ⟨(M88 a22 a4 s), (M87 a22 a4 d n s)⟩ ?_
  refine thenL_norm ?_
  refine srr 2 ⟨(M89 a22 a4 s), (M87 a22 a4 d n s)⟩ ?_
  refine OW.fi (ar := [.ref 7 5 0 0, .lst 6 (((hearP s.voters a4.bid a22 a4).2.1).map Vote.cs)]) (r := VI 0) (m' := (M95 a22 a4 d n s)) (x' := ⟨(69, VI 0) :: (M89 a22 a4 s), (M95 a22 a4 d n s)⟩) (by kernel_rfl) (by kernel_rfl) F81_call ?_ (by kernel_rfl) ?_
  refine fi_walkW F81_ok (of_decide_eq_true (by kernel_rfl)) ?_
  refine srl 1 [0, 1] ⟨[(0, .ref 7 5 0 0), (1, .lst 6 (((hearP s.voters a4.bid a22 a4).2.1).map Vote.cs))], (M87 a22 a4 d n s)⟩ ?_
  refine srr 7 ⟨(M90 a22 a4 n s), (M87 a22 a4 d n s)⟩ ?_
  refine owo (.own 13 6 0 (List.length ((List.eraseIdx s.votes (Int.toNat n)) ++ ((hearP s.voters a4.bid a22 a4).2.1)))) [(10, none), (13, some ⟨6, (((List.eraseIdx s.votes (Int.toNat n)) ++ ((hearP s.voters a4.bid a22 a4).2.1)).map Vote.cs)⟩)] [10] ⟨(M93 a22 a4 n s), (M92 a22 a4 d n s)⟩ (opE_appO Vote.cs (List.eraseIdx s.votes (Int.toNat n)) ((hearP s.voters a4.bid a22 a4).2.1) (.s 10) (.s 11) 6 56 10 (.lst 6 (((hearP s.voters a4.bid a22 a4).2.1).map Vote.cs)) _ (by kernel_rfl) (by kernel_rfl) rfl (by kernel_rfl) rfl .lst (by first | (simp; omega) | omega | exact app_le (by first | exact q4 | exact ers_le q4 | omega) (by first | exact begin_len _ _ _ _ | exact Nat.le_trans (serve_len _ _) (by decide) | exact hear_len _ _ _ _ | (simp; done)) (by decide))) ?_
  refine owl 4 [0] ⟨[(0, .ref 7 5 0 0)], (M95 a22 a4 d n s)⟩ ?_
  refine EL.seq ?_
  refine srl 7 [22] ⟨[(22, .v (.bool (decide ((List.length ((List.eraseIdx s.votes (Int.toNat n)) ++ ((hearP s.voters a4.bid a22 a4).2.1)) : Int) > 200))))], (M95 a22 a4 d n s)⟩ ?_
  rw [h23]
  refine cnF ?_
  refine skn ?_
  refine srl 1 [4] ⟨[(4, VI 0)], (M95 a22 a4 d n s)⟩ ?_
  refine EL.ret ?_
  refine ⟨.inr rfl, ⟨[(4, VI 0)], (M95 a22 a4 d n s)⟩, norm_le (live := [4]) (src := [.old 0 false, .old 1 false, .old 2 false, .old 3 false, .old 4 true, .old 5 true, .old 6 false, .old 7 false, .old 8 false, .old 9 false, .old 10 false, .old 11 false, .old 12 false, .old 13 true]) (es := []) (by kernel_rfl) ⟨pq 5 Seat.cs s.seats, pq 8 Bid.cs (List.set s.bids (0 + Int.toNat a4.bid) (M82 a22 a4 s)), pq 6 Vote.cs ((List.eraseIdx s.votes (Int.toNat n)) ++ ((hearP s.voters a4.bid a22 a4).2.1)), trivial⟩, by kernel_rfl, rfl⟩
  refine owl 1 [4] ⟨[(4, VI 0)], (M95 a22 a4 d n s)⟩ ?_
  refine EL.ret ?_
  refine ⟨.inr rfl, ⟨[(4, VI 0)], (M97 a22 a4 d n s)⟩, norm_le (live := [4]) (src := [.old 0 false, .old 1 false, .old 2 false, .old 3 false, .old 4 true, .old 5 true, .old 6 false, .old 7 false, .old 8 false, .old 9 false, .old 10 false, .old 11 false, .old 13 true]) (es := []) (by kernel_rfl) ⟨pq 5 Seat.cs s.seats, pq 8 Bid.cs (List.set s.bids (0 + Int.toNat a4.bid) (M82 a22 a4 s)), pq 6 Vote.cs ((List.eraseIdx s.votes (Int.toNat n)) ++ ((hearP s.voters a4.bid a22 a4).2.1)), trivial⟩, by kernel_rfl, rfl⟩
  refine dfl 1 [2] ⟨[(2, VI 0)], (M97 a22 a4 d n s)⟩ ?_
  refine EL.ret ?_
  refine ⟨.inr rfl, ⟨[(2, VI 0)], (M99 a22 a4 d n s)⟩, norm_le (live := [2]) (src := [.old 0 false, .old 1 false, .old 2 false, .old 3 false, .old 4 true, .old 5 true, .old 6 false, .old 7 false, .old 8 false, .old 9 false, .old 12 true]) (es := []) (by kernel_rfl) ⟨pq 5 Seat.cs s.seats, pq 8 Bid.cs (List.set s.bids (0 + Int.toNat a4.bid) (M82 a22 a4 s)), pq 6 Vote.cs ((List.eraseIdx s.votes (Int.toNat n)) ++ ((hearP s.voters a4.bid a22 a4).2.1)), trivial⟩, by kernel_rfl, rfl⟩
  refine owe 1 ⟨(8, VI 0) :: (17, VI 0) :: M33, (M99 a22 a4 d n s)⟩ ?_
  refine inBlk_norm ?_
  refine thenL_norm ?_
  refine EL.seq ?_
  refine srl 2 [4, 6, 8, 51] ⟨M102, (M99 a22 a4 d n s)⟩ ?_
  refine cnF ?_
  refine skn ?_
  refine srl 6 [4, 5] ⟨[(5, VI 0), (4, .ref 2 5 0 0)], (M106 a22 a4 d n s)⟩ ?_
  refine EL.ret ?_
  refine ⟨.inr rfl, .tup [(M108 a22 a4 n s), VI 0], run_snap (r0 := .tup [(M107 a22 a4 n s), VI 0]) (by kernel_rfl) (snapR_tup (snapAs_cons (snapA_agg (snapL_cons (by kernel_rfl) (snapL_cons (by kernel_rfl) (snapL_cons (smp Seat.cs s.seats) (snapL_cons (smp Bid.cs (List.set s.bids (0 + Int.toNat a4.bid) (M82 a22 a4 s))) (snapL_cons (smp Vote.cs ((List.eraseIdx s.votes (Int.toNat n)) ++ ((hearP s.voters a4.bid a22 a4).2.1))) (rfl))))))) (snapAs_cons (by kernel_rfl) (snapAs_nil)))), Ale.of_eq ?_⟩
  rotate_left
  rw [h1]
  have g1 : ¬ (d = (⟨#[]⟩)) := fun hh => Bool.noConfusion ((strEq_iff.2 hh).symm.trans h1)
  refine owl 5 [3, 4, 6, 7, 21] ⟨(21, .v (.bool true)) :: M26, (M20 d n s)⟩ ?_
  refine cnT ?_
  refine roe 1 ⟨(8, VI 1) :: (21, .v (.bool true)) :: M26, (M20 d n s)⟩ ?_
  refine inBlk_norm ?_
  refine thenL_norm ?_
  refine EL.seq ?_
  refine srl 2 [4, 6, 8, 51] ⟨M109, (M20 d n s)⟩ ?_
  refine cnT ?_
  refine srl 4 [4, 5] ⟨[(5, VI 1), (4, .ref 2 5 0 0)], (M20 d n s)⟩ ?_
  refine rtr ?_
  refine ⟨.inr rfl, .tup [.agg [.emp, VI 0, .emp, .emp, .emp], VI 1], by kernel_rfl, Ale.trans (b := .tup [.agg [.lst 1 [], VI 0, .lst 5 [], .lst 8 [], .lst 6 []], VI 1]) (Ale.tup (.cons (Ale.agg (.cons (Ale.emp) (.cons (Ale.refl) (.cons (Ale.emp) (.cons (Ale.emp) (.cons (Ale.emp) (.nil))))))) (.cons (Ale.refl) (.nil)))) (Ale.of_eq ?_)⟩
  rotate_left
  all_goals (first | (rw [Synod.step_1 (by omega) (by omega) (fun hh => ‹¬ d = _› (ba_empty.2 hh))]; rfl) | (rw [Synod.step_r (by omega) (by omega) (by rw [‹d = _›]; rfl) (by omega)]; rfl) | (rw [Synod.step_s (by rw [‹d = _›]; rfl) (by assumption) (by omega) (by omega) (by assumption)]; first | (rw [Synod.many_0] <;> first | rfl | (dsimp only; omega)) | (rw [Synod.many_2] <;> first | rfl | (dsimp only; omega))) | (rw [Synod.step_b (by rw [‹d = _›]; rfl) (by assumption) (by omega) (by omega) (by assumption)]; first | (rw [Synod.many_0] <;> first | rfl | (dsimp only; omega)) | (rw [Synod.many_2] <;> first | rfl | (dsimp only; omega))))
section
variable (a4 : Vote) (d : ByteArray) (n : Int) (s : Synod)
abbrev M110 : LB := [(M0 s), some ⟨3, [[VI 4, VI n, .v (.string d)]]⟩, some ⟨5, [[.emp, VI 0, .emp, .emp, .emp]]⟩]
abbrev M111 : LB := [(M0 s), some ⟨3, [[VI 4, VI n, .v (.string d)]]⟩, some ⟨5, [[.emp, VI 0, .emp, .emp, .emp]]⟩, (M0 s), some ⟨5, [[.emp, VI 0, .emp, .emp, .emp]]⟩]
abbrev M112 : LB := [(M0 s), some ⟨3, [[VI 4, VI n, .v (.string d)]]⟩, some ⟨5, [[.emp, VI 0, .emp, .emp, .emp]]⟩, (M0 s), some ⟨5, [[.emp, VI 0, .emp, .emp, .emp]]⟩, some ⟨5, (s.seats.map Seat.cs)⟩]
abbrev M113 : LB := [(M0 s), some ⟨3, [[VI 4, VI n, .v (.string d)]]⟩, some ⟨5, [[.emp, VI 0, .emp, .emp, .emp]]⟩, (M0 s), some ⟨5, [[.emp, VI 0, .emp, .emp, .emp]]⟩, some ⟨5, (s.seats.map Seat.cs)⟩, some ⟨8, (s.bids.map Bid.cs)⟩]
abbrev M114 : LB := [(M0 s), some ⟨3, [[VI 4, VI n, .v (.string d)]]⟩, some ⟨5, [[.emp, VI 0, .emp, .emp, .emp]]⟩, (M0 s), some ⟨5, [[.emp, VI 0, .emp, .emp, .emp]]⟩, some ⟨5, (s.seats.map Seat.cs)⟩, some ⟨8, (s.bids.map Bid.cs)⟩, some ⟨6, (s.votes.map Vote.cs)⟩]
abbrev M115 : LB := [(M0 s), some ⟨3, [[VI 4, VI n, .v (.string d)]]⟩, some ⟨5, [[.emp, VI 0, .emp, .emp, .emp]]⟩, (M0 s), (M12 s), some ⟨5, (s.seats.map Seat.cs)⟩, some ⟨8, (s.bids.map Bid.cs)⟩, some ⟨6, (s.votes.map Vote.cs)⟩]
abbrev M116 : LB := [(M0 s), some ⟨3, [[VI 4, VI n, .v (.string d)]]⟩, some ⟨5, [[.emp, VI 0, .emp, .emp, .emp]]⟩, (M15 s), some ⟨5, (s.seats.map Seat.cs)⟩, some ⟨8, (s.bids.map Bid.cs)⟩, some ⟨6, (s.votes.map Vote.cs)⟩]
abbrev M117 : LB := [(M0 s), some ⟨3, [[VI 4, VI n, .v (.string d)]]⟩, some ⟨5, [[.emp, VI 0, .emp, .emp, .emp]]⟩, (M15 s), some ⟨5, (s.seats.map Seat.cs)⟩, some ⟨8, (s.bids.map Bid.cs)⟩, some ⟨6, (s.votes.map Vote.cs)⟩, (M15 s)]
abbrev M118 : LS := (14, .agg [VI 4, VI n, .v (.string d)]) :: (13, .ref 7 5 0 0) :: M18
abbrev M119 : LB := [(M0 s), some ⟨3, [[VI 4, VI n, .v (.string d)]]⟩, some ⟨5, [[.emp, VI 0, .emp, .emp, .emp]]⟩, (M15 s), some ⟨5, (s.seats.map Seat.cs)⟩, some ⟨8, (s.bids.map Bid.cs)⟩, some ⟨6, (s.votes.map Vote.cs)⟩, (M15 s), some ⟨1, [[.ref 7 5 0 0]]⟩, some ⟨3, [[VI 4, VI n, .v (.string d)]]⟩]
abbrev M120 : LB := [(M0 s), some ⟨3, [[VI 4, VI n, .v (.string d)]]⟩, some ⟨5, [[.emp, VI 0, .emp, .emp, .emp]]⟩, (M15 s), some ⟨5, (s.seats.map Seat.cs)⟩, some ⟨8, (s.bids.map Bid.cs)⟩, some ⟨6, (s.votes.map Vote.cs)⟩, (M15 s), some ⟨1, [[.ref 7 5 0 0]]⟩, some ⟨3, [[VI 4, VI n, .v (.string d)]]⟩, M21]
abbrev M121 : LS := [(12, VI 4), (11, .ref 9 3 0 0), (10, .mp 10), (9, .fn 80 [.ref 8 1 0 0, .ref 9 3 0 0]), (8, .fn 79 [.ref 8 1 0 0, .ref 9 3 0 0]), (7, .fn 76 [.ref 8 1 0 0, .ref 9 3 0 0]), (6, .fn 74 [.ref 8 1 0 0, .ref 9 3 0 0]), (5, .mp 10), (3, .ref 9 3 0 0), (2, .ref 8 1 0 0)]
abbrev M122 : LS := (13, .fn 79 [.ref 8 1 0 0, .ref 9 3 0 0]) :: M121
abbrev M123 : LS := (15, .fn 79 [.ref 8 1 0 0, .ref 9 3 0 0]) :: (M118 d n)
abbrev M124 : LS := (7, .fn 79 [.ref 8 1 0 0, .ref 9 3 0 0]) :: M18
abbrev M125 : LS := (23, .v (.string d)) :: (22, .ref 1 3 0 2) :: (18, .v (.bool false)) :: M124
abbrev M126 : LS := (36, VI n) :: (35, .ref 1 3 0 1) :: (34, .v (.bool true)) :: (33, .v (.bool true)) :: (32, VI 4) :: (31, .ref 1 3 0 0) :: (21, .v (.bool false)) :: M124
abbrev M127 : LS := [(30, .v (.bool true)), (7, .fn 79 [.ref 8 1 0 0, .ref 9 3 0 0]), (6, .ref 7 5 0 0), (4, .ref 2 5 0 0)]
abbrev M128 : LS := [(7, .fn 79 [.ref 8 1 0 0, .ref 9 3 0 0]), (6, .ref 7 5 0 0), (4, .ref 2 5 0 0)]
abbrev M129 : LS := (16, .fn 79 [.ref 8 1 0 0, .ref 9 3 0 0]) :: (30, .v (.bool false)) :: M128
abbrev M130 : LS := [(5, VI n), (4, .ref 9 3 0 1), (3, .ref 7 5 0 0), (0, .ref 8 1 0 0), (1, .ref 9 3 0 0)]
abbrev M131 : LB := [(M0 s), some ⟨3, [[VI 4, VI n, .v (.string d)]]⟩, some ⟨5, [[.emp, VI 0, .emp, .emp, .emp]]⟩, (M15 s), some ⟨5, (s.seats.map Seat.cs)⟩, some ⟨8, (s.bids.map Bid.cs)⟩, some ⟨6, (s.votes.map Vote.cs)⟩, (M15 s), some ⟨1, [[.ref 7 5 0 0]]⟩, some ⟨3, [[VI 4, VI n, .v (.string d)]]⟩, M35]
abbrev M132 : LB := [(M0 s), some ⟨3, [[VI 4, VI n, .v (.string d)]]⟩, some ⟨5, [[.emp, VI 0, .emp, .emp, .emp]]⟩, (M15 s), some ⟨5, (s.seats.map Seat.cs)⟩, some ⟨8, (s.bids.map Bid.cs)⟩, some ⟨6, (s.votes.map Vote.cs)⟩, (M15 s), some ⟨1, [[.ref 7 5 0 0]]⟩, some ⟨3, [[VI 4, VI n, .v (.string d)]]⟩, M35, (M41 a4)]
abbrev M133 : LB := [(M0 s), some ⟨3, [[VI 4, VI n, .v (.string d)]]⟩, some ⟨5, [[.emp, VI 0, .emp, .emp, .emp]]⟩, (M15 s), some ⟨5, (s.seats.map Seat.cs)⟩, some ⟨8, (s.bids.map Bid.cs)⟩, none, (M15 s), some ⟨1, [[.ref 7 5 0 0]]⟩, some ⟨3, [[VI 4, VI n, .v (.string d)]]⟩, M35, (M41 a4), none, (M44 n s)]
abbrev M134 : LB := [(M0 s), some ⟨3, [[VI 4, VI n, .v (.string d)]]⟩, some ⟨5, [[.emp, VI 0, .emp, .emp, .emp]]⟩, (M15 s), some ⟨5, (s.seats.map Seat.cs)⟩, some ⟨8, (s.bids.map Bid.cs)⟩, none, (M47 n s), some ⟨1, [[.ref 7 5 0 0]]⟩, some ⟨3, [[VI 4, VI n, .v (.string d)]]⟩, M35, (M41 a4), none, (M44 n s)]
abbrev M135 : LB := [(M0 s), some ⟨3, [[VI 4, VI n, .v (.string d)]]⟩, some ⟨5, [[.emp, VI 0, .emp, .emp, .emp]]⟩, (M15 s), some ⟨5, (s.seats.map Seat.cs)⟩, some ⟨8, (s.bids.map Bid.cs)⟩, none, (M47 n s), some ⟨1, [[.ref 7 5 0 0]]⟩, some ⟨3, [[VI 4, VI n, .v (.string d)]]⟩, (M41 a4), (M41 a4), none, (M44 n s)]
abbrev M136 : LB := [(M0 s), some ⟨3, [[VI 4, VI n, .v (.string d)]]⟩, some ⟨5, [[.emp, VI 0, .emp, .emp, .emp]]⟩, (M50 s), some ⟨5, (s.seats.map Seat.cs)⟩, some ⟨8, (s.bids.map Bid.cs)⟩, none, (M51 n s), some ⟨1, [[.ref 7 5 0 0]]⟩, some ⟨3, [[VI 4, VI n, .v (.string d)]]⟩, (M44 n s), (M41 a4)]
abbrev M137 : LB := [(M0 s), some ⟨3, [[VI 4, VI n, .v (.string d)]]⟩, some ⟨5, [[.emp, VI 0, .emp, .emp, .emp]]⟩, (M50 s), some ⟨5, (s.seats.map Seat.cs)⟩, some ⟨8, (s.bids.map Bid.cs)⟩, none, (M51 n s), some ⟨1, [[.ref 7 5 0 0]]⟩, some ⟨3, [[VI 4, VI n, .v (.string d)]]⟩, (M44 n s)]
abbrev M138 : LB := [(M0 s), some ⟨3, [[VI 4, VI n, .v (.string d)]]⟩, (M51 n s), (M50 s), some ⟨5, (s.seats.map Seat.cs)⟩, some ⟨8, (s.bids.map Bid.cs)⟩, none, (M51 n s), some ⟨1, [[.ref 7 5 0 0]]⟩, some ⟨3, [[VI 4, VI n, .v (.string d)]]⟩, (M44 n s)]
abbrev M139 : AV := .agg [.lst 1 (s.voters.weights.map cI), VI s.voters.need, .own 4 5 0 (List.length s.seats), .own 5 8 0 (List.length s.bids), .own 10 6 0 (List.length (List.eraseIdx s.votes (Int.toNat n)))]
abbrev M140 : AV := .agg [.lst 1 (s.voters.weights.map cI), VI s.voters.need, .lst 5 (s.seats.map Seat.cs), .lst 8 (s.bids.map Bid.cs), .lst 6 ((List.eraseIdx s.votes (Int.toNat n)).map Vote.cs)]
end
theorem step4_fn (s : Synod) (n : Int) (d : ByteArray) (ok : s.Ok) : Fn Tryd.prog 28 [.agg [.lst 1 (s.voters.weights.map cI), VI s.voters.need, .lst 5 (s.seats.map Seat.cs), .lst 8 (s.bids.map Bid.cs), .lst 6 (s.votes.map Vote.cs)], .agg [VI 4, VI n, .v (.string d)]] (.tup [.agg [.lst 1 (((((s.stepP 4 n d).1).voters).weights).map cI), VI ((((s.stepP 4 n d).1).voters).need), .lst 5 ((((s.stepP 4 n d).1).seats).map Seat.cs), .lst 8 ((((s.stepP 4 n d).1).bids).map Bid.cs), .lst 6 ((((s.stepP 4 n d).1).votes).map Vote.cs)], VI ((s.stepP 4 n d).2)]) := by
  have q1 := qc_len ok.q
  have q2 := ok.len
  have q3 := ok.few
  have q4 := ok.many
  have vv := ok.vv
  have hx1 : s.voters.weights.length ≤ 9223372036854775807 := by omega
  refine fn_walkW F28_ok (of_decide_eq_true (by kernel_rfl)) ?_
  refine srl 4 [2, 3, 4] ⟨M2, (M110 d n s)⟩ ?_
  refine srr 1 ⟨(9, (M3 s)) :: M2, (M110 d n s)⟩ ?_
  refine OW.fi (ar := [(M3 s)]) (r := (M14 s)) (m' := (M116 d n s)) (x' := ⟨(10, (M14 s)) :: (9, (M3 s)) :: M2, (M116 d n s)⟩) (by kernel_rfl) (by kernel_rfl) F49_call ?_ (by kernel_rfl) ?_
  refine fi_walkW F49_ok (of_decide_eq_true (by kernel_rfl)) ?_
  refine srl 2 [1, 2] ⟨[(2, .ref 4 5 0 0), (1, .ref 3 5 0 0)], (M111 d n s)⟩ ?_
  refine sdr 3 ⟨(M5 s), (M111 d n s)⟩ ?_
  refine dwf [.lst 1 (s.voters.weights.map cI)] ⟨(6, .lst 1 (s.voters.weights.map cI)) :: (M5 s), (M111 d n s)⟩ F27_call (cloneI_fo s.voters.weights (by first | omega | exact qc_small (by assumption))) ?_
  refine dwr 6 ⟨(M6 s), (M111 d n s)⟩ ?_
  refine DW.fo (ar := [.lst 5 (s.seats.map Seat.cs)]) (fe := Seat.cs) (xs := s.seats) (x' := ⟨(13, .own 5 5 0 (List.length s.seats)) :: (M6 s), (M112 d n s)⟩) (by kernel_rfl) (by kernel_rfl) F68_call (cloneS_fo s.seats (by first | omega | exact qc_small (by assumption))) (by intro y; kernel_rfl) (by kernel_rfl) (by kernel_rfl) ?_
  refine dwr 2 ⟨(M8 s), (M112 d n s)⟩ ?_
  refine DW.fo (ar := [.lst 8 (s.bids.map Bid.cs)]) (fe := Bid.cs) (xs := s.bids) (x' := ⟨(16, .own 6 8 0 (List.length s.bids)) :: (M8 s), (M113 d n s)⟩) (by kernel_rfl) (by kernel_rfl) F69_call (cloneB_fo s.bids (by first | omega | exact qc_small (by assumption))) (by intro y; kernel_rfl) (by kernel_rfl) (by kernel_rfl) ?_
  refine dwr 2 ⟨(M10 s), (M113 d n s)⟩ ?_
  refine DW.fo (ar := [.lst 6 (s.votes.map Vote.cs)]) (fe := Vote.cs) (xs := s.votes) (x' := ⟨(19, .own 7 6 0 (List.length s.votes)) :: (M10 s), (M114 d n s)⟩) (by kernel_rfl) (by kernel_rfl) F70_call (cloneV_fo s.votes (by first | omega | exact qc_small (by assumption))) (by intro y; kernel_rfl) (by kernel_rfl) (by kernel_rfl) ?_
  refine dwl 2 [2] ⟨[(2, .ref 4 5 0 0)], (M115 d n s)⟩ ?_
  refine EL.ret ?_
  refine ⟨.inr rfl, ⟨[(2, .ref 3 5 0 0)], (M116 d n s)⟩, norm_le (live := [2]) (src := [.old 0 false, .old 1 false, .old 2 false, .old 4 false, .old 5 true, .old 6 true, .old 7 true]) (es := []) (by kernel_rfl) ⟨pq 5 Seat.cs s.seats, pq 8 Bid.cs s.bids, pq 6 Vote.cs s.votes, trivial⟩, by kernel_rfl, rfl⟩
  refine owl 3 [3, 4, 6] ⟨M18, (M117 d n s)⟩ ?_
  refine srr 2 ⟨(M118 d n), (M117 d n s)⟩ ?_
  refine OW.fi (ar := [.ref 7 5 0 0, .agg [VI 4, VI n, .v (.string d)]]) (r := .fn 79 [.ref 8 1 0 0, .ref 9 3 0 0]) (m' := (M119 d n s)) (x' := ⟨(M123 d n), (M119 d n s)⟩) (by kernel_rfl) (by kernel_rfl) F54_call ?_ (by kernel_rfl) ?_
  refine fi_walkW F54_ok (of_decide_eq_true (by kernel_rfl)) ?_
  refine srl 3 [2, 3] ⟨[(3, .ref 9 3 0 0), (2, .ref 8 1 0 0)], (M119 d n s)⟩ ?_
  refine srr 12 ⟨M121, (M120 d n s)⟩ ?_
  refine owo (.fn 79 [.ref 8 1 0 0, .ref 9 3 0 0]) [] [10] ⟨M122, (M120 d n s)⟩ (opE_mlk .int (.v (.nilFunc)) (.s 10) (.s 12) 10 [[VI 6, .fn 74 [.ref 8 1 0 0, .ref 9 3 0 0]], [VI 3, .fn 76 [.ref 8 1 0 0, .ref 9 3 0 0]], [VI 4, .fn 79 [.ref 8 1 0 0, .ref 9 3 0 0]], [VI 5, .fn 80 [.ref 8 1 0 0, .ref 9 3 0 0]]] (.int .i64 4) (some (.fn 79 [.ref 8 1 0 0, .ref 9 3 0 0])) (by kernel_rfl) (by kernel_rfl) (by kernel_rfl) (by kernel_rfl) (by kernel_rfl) (by kernel_rfl)) ?_
  refine owl 1 [4] ⟨[(4, .fn 79 [.ref 8 1 0 0, .ref 9 3 0 0])], (M120 d n s)⟩ ?_
  refine EL.ret ?_
  refine ⟨.inr rfl, ⟨[(4, .fn 79 [.ref 8 1 0 0, .ref 9 3 0 0])], (M119 d n s)⟩, norm_le (live := [4]) (src := [.old 0 false, .old 1 false, .old 2 false, .old 3 false, .old 4 true, .old 5 true, .old 6 true, .old 7 false, .old 8 false, .old 9 false]) (es := []) (by kernel_rfl) ⟨pq 5 Seat.cs s.seats, pq 8 Bid.cs s.bids, pq 6 Vote.cs s.votes, trivial⟩, by kernel_rfl, rfl⟩
  refine owl 1 [3, 4, 6, 7] ⟨M124, (M119 d n s)⟩ ?_
  refine srl 1 [3, 4, 6, 7] ⟨M124, (M119 d n s)⟩ ?_
  refine EL.seq ?_
  refine EL.block ?_
  refine srl 3 [3, 4, 6, 7, 18] ⟨(18, .v (.bool false)) :: M124, (M119 d n s)⟩ ?_
  refine cnF ?_
  refine srr 4 ⟨(25, .v (.bool (!(strEq d (⟨#[]⟩))))) :: (24, .v (.bool (!(strEq d (⟨#[]⟩))))) :: (M125 d), (M119 d n s)⟩ ?_
  rcases Bool.eq_false_or_eq_true (strEq d (⟨#[]⟩)) with h1 | h1
  rw [h1]
  have g1 : (d = (⟨#[]⟩)) := strEq_iff.1 h1
  refine owl 5 [3, 4, 6, 7, 21] ⟨(21, .v (.bool false)) :: M124, (M119 d n s)⟩ ?_
  refine cnF ?_
  refine sdr 8 ⟨(38, .v (.bool (decide (n < 0)))) :: (37, .v (.bool (decide (n < 0)))) :: (M126 n), (M119 d n s)⟩ ?_
  rcases Bool.eq_false_or_eq_true (decide (n < 0)) with h2 | h2
  rw [h2]
  have g2 := of_decide_eq_true h2
  refine dwl 12 [4, 6, 7, 30] ⟨M127, (M119 d n s)⟩ ?_
  refine cnT ?_
  refine roe 1 ⟨(8, VI 3) :: M127, (M119 d n s)⟩ ?_
  refine inBlk_norm ?_
  refine thenL_norm ?_
  refine EL.seq ?_
  refine srl 2 [4, 6, 8, 51] ⟨M100, (M119 d n s)⟩ ?_
  refine cnT ?_
  refine srl 4 [4, 5] ⟨[(5, VI 3), (4, .ref 2 5 0 0)], (M119 d n s)⟩ ?_
  refine rtr ?_
  refine ⟨.inr rfl, .tup [.agg [.emp, VI 0, .emp, .emp, .emp], VI 3], by kernel_rfl, Ale.trans (b := .tup [.agg [.lst 1 [], VI 0, .lst 5 [], .lst 8 [], .lst 6 []], VI 3]) (Ale.tup (.cons (Ale.agg (.cons (Ale.emp) (.cons (Ale.refl) (.cons (Ale.emp) (.cons (Ale.emp) (.cons (Ale.emp) (.nil))))))) (.cons (Ale.refl) (.nil)))) (Ale.of_eq ?_)⟩
  rotate_left
  rw [h2]
  have g2 := of_decide_eq_false h2
  refine dwl 12 [4, 6, 7, 30] ⟨(30, .v (.bool (decide (n ≥ (List.length s.votes : Int))))) :: M128, (M119 d n s)⟩ ?_
  rcases Bool.eq_false_or_eq_true (decide (n ≥ (List.length s.votes : Int))) with h3 | h3
  rw [h3]
  have g3 := of_decide_eq_true h3
  refine cnT ?_
  refine roe 1 ⟨(8, VI 3) :: M127, (M119 d n s)⟩ ?_
  refine inBlk_norm ?_
  refine thenL_norm ?_
  refine EL.seq ?_
  refine srl 2 [4, 6, 8, 51] ⟨M100, (M119 d n s)⟩ ?_
  refine cnT ?_
  refine srl 4 [4, 5] ⟨[(5, VI 3), (4, .ref 2 5 0 0)], (M119 d n s)⟩ ?_
  refine rtr ?_
  refine ⟨.inr rfl, .tup [.agg [.emp, VI 0, .emp, .emp, .emp], VI 3], by kernel_rfl, Ale.trans (b := .tup [.agg [.lst 1 [], VI 0, .lst 5 [], .lst 8 [], .lst 6 []], VI 3]) (Ale.tup (.cons (Ale.agg (.cons (Ale.emp) (.cons (Ale.refl) (.cons (Ale.emp) (.cons (Ale.emp) (.cons (Ale.emp) (.nil))))))) (.cons (Ale.refl) (.nil)))) (Ale.of_eq ?_)⟩
  rotate_left
  rw [h3]
  have g3 := of_decide_eq_false h3
  refine cnF ?_
  refine EL.reg0 ?_
  refine owr 1 ⟨M129, (M119 d n s)⟩ ?_
  obtain ⟨a4, ha4⟩ : ∃ y, s.votes[(n : Int).toNat]? = some y := idx_ex ⟨by omega, by omega⟩
  have ma4 := vv _ (List.mem_of_getElem? ha4)
  refine OW.fi (ar := [.ref 8 1 0 0, .ref 9 3 0 0]) (r := VI 0) (m' := (M137 d n s)) (x' := ⟨(17, VI 0) :: M129, (M137 d n s)⟩) (by kernel_rfl) (by kernel_rfl) F79_call ?_ (by kernel_rfl) ?_
  refine fi_walkW F79_ok (of_decide_eq_true (by kernel_rfl)) ?_
  refine srl 1 [0, 1] ⟨[(0, .ref 8 1 0 0), (1, .ref 9 3 0 0)], (M119 d n s)⟩ ?_
  refine srr 3 ⟨(M130 n), (M119 d n s)⟩ ?_
  refine OW.fi (ar := [.ref 7 5 0 0, VI n]) (r := (M39 a4)) (m' := (M136 a4 d n s)) (x' := ⟨(6, (M39 a4)) :: (M130 n), (M136 a4 d n s)⟩) (by kernel_rfl) (by kernel_rfl) F78_call ?_ (by kernel_rfl) ?_
  refine fi_walkW F78_ok (of_decide_eq_true (by kernel_rfl)) ?_
  refine srl 1 [0, 1, 4] ⟨(M37 n), (M131 d n s)⟩ ?_
  refine srr 6 ⟨(M38 n s), (M131 d n s)⟩ ?_
  refine owo (.ref 6 6 (0 + Int.toNat n) 0) [] [6] ⟨(12, .ref 6 6 (0 + Int.toNat n) 0) :: (M38 n s), (M131 d n s)⟩ (opE_iado (.s 10) (.s 11) 6 6 0 (List.length s.votes) .i64 n ⟨6, (s.votes.map Vote.cs)⟩ (by kernel_rfl) (by kernel_rfl) rfl rfl ⟨by omega, by omega⟩ (by kernel_rfl)) ?_
  refine owo (M39 a4) [] [6] ⟨(M40 a4 n s), (M131 d n s)⟩ (opE_ldoS Vote.cs s.votes (some 6) (.s 12) 6 6 (0 + Int.toNat n) 0 a4 ((M39 a4)) (by kernel_rfl) (by kernel_rfl) rfl (by kernel_rfl) (by simpa using ha4) (by kernel_rfl)) ?_
  refine owl 2 [0, 1, 4, 5] ⟨(5, .ref 11 6 0 0) :: (M37 n), (M132 a4 d n s)⟩ ?_
  refine srr 9 ⟨(22, VI (IntKind.i64.wrap (n + 1))) :: (M43 n s), (M132 a4 d n s)⟩ ?_
  have e5 : IntKind.i64.wrap (n + 1) = n + 1 := wr64 (by omega)
  rw [e5]
  refine OW.fi (ar := [.own 6 6 0 (List.length s.votes), VI n, VI (n + 1)]) (r := .own 13 6 0 (List.length (List.eraseIdx s.votes (Int.toNat n)))) (m' := (M133 a4 d n s)) (x' := ⟨(M46 n s), (M133 a4 d n s)⟩) (by kernel_rfl) (by kernel_rfl) F87_call (delete_map (fe := Vote.cs) (xs := s.votes) (m := (M132 a4 d n s)) (id := 6) (by_ := 56) (zs := [VI 0, VI 0, VI 0, VI 0, VI 0, .v (.string ⟨#[]⟩)]) (F87_ok.trans (by kernel_rfl)) rfl (by kernel_rfl) (by omega) (by omega) (by omega)) (by kernel_rfl) ?_
  refine owl 4 [4, 5] ⟨[(5, .ref 11 6 0 0), (4, .ref 10 6 0 0)], (M134 a4 d n s)⟩ ?_
  refine srl 2 [4] ⟨[(4, .ref 10 6 0 0)], (M135 a4 d n s)⟩ ?_
  refine EL.ret ?_
  refine ⟨.inr rfl, ⟨[(4, .ref 11 6 0 0)], (M136 a4 d n s)⟩, norm_le (live := [4]) (src := [.old 0 false, .old 1 false, .old 2 false, .old 3 false, .old 4 true, .old 5 true, .old 6 false, .old 7 false, .old 8 false, .old 9 false, .old 13 true, .old 10 false]) (es := []) (by kernel_rfl) ⟨pq 5 Seat.cs s.seats, pq 8 Bid.cs s.bids, pq 6 Vote.cs (List.eraseIdx s.votes (Int.toNat n)), trivial⟩, by kernel_rfl, rfl⟩
  refine owl 0 [] ⟨[], (M136 a4 d n s)⟩ ?_
  refine srl 1 [2] ⟨[(2, VI 0)], (M136 a4 d n s)⟩ ?_
  refine EL.ret ?_
  refine ⟨.inr rfl, ⟨[(2, VI 0)], (M137 d n s)⟩, norm_le (live := [2]) (src := [.old 0 false, .old 1 false, .old 2 false, .old 3 false, .old 4 true, .old 5 true, .old 6 false, .old 7 false, .old 8 false, .old 9 false, .old 10 true]) (es := []) (by kernel_rfl) ⟨pq 5 Seat.cs s.seats, pq 8 Bid.cs s.bids, pq 6 Vote.cs (List.eraseIdx s.votes (Int.toNat n)), trivial⟩, by kernel_rfl, rfl⟩
  refine owe 1 ⟨(8, VI 0) :: (17, VI 0) :: M129, (M137 d n s)⟩ ?_
  refine inBlk_norm ?_
  refine thenL_norm ?_
  refine EL.seq ?_
  refine srl 2 [4, 6, 8, 51] ⟨M102, (M137 d n s)⟩ ?_
  refine cnF ?_
  refine skn ?_
  refine srl 6 [4, 5] ⟨[(5, VI 0), (4, .ref 2 5 0 0)], (M138 d n s)⟩ ?_
  refine EL.ret ?_
  refine ⟨.inr rfl, .tup [(M140 n s), VI 0], run_snap (r0 := .tup [(M139 n s), VI 0]) (by kernel_rfl) (snapR_tup (snapAs_cons (snapA_agg (snapL_cons (by kernel_rfl) (snapL_cons (by kernel_rfl) (snapL_cons (smp Seat.cs s.seats) (snapL_cons (smp Bid.cs s.bids) (snapL_cons (smp Vote.cs (List.eraseIdx s.votes (Int.toNat n))) (rfl))))))) (snapAs_cons (by kernel_rfl) (snapAs_nil)))), Ale.of_eq ?_⟩
  rotate_left
  rw [h1]
  have g1 : ¬ (d = (⟨#[]⟩)) := fun hh => Bool.noConfusion ((strEq_iff.2 hh).symm.trans h1)
  refine owl 5 [3, 4, 6, 7, 21] ⟨(21, .v (.bool true)) :: M124, (M119 d n s)⟩ ?_
  refine cnT ?_
  refine roe 1 ⟨(8, VI 1) :: (21, .v (.bool true)) :: M124, (M119 d n s)⟩ ?_
  refine inBlk_norm ?_
  refine thenL_norm ?_
  refine EL.seq ?_
  refine srl 2 [4, 6, 8, 51] ⟨M109, (M119 d n s)⟩ ?_
  refine cnT ?_
  refine srl 4 [4, 5] ⟨[(5, VI 1), (4, .ref 2 5 0 0)], (M119 d n s)⟩ ?_
  refine rtr ?_
  refine ⟨.inr rfl, .tup [.agg [.emp, VI 0, .emp, .emp, .emp], VI 1], by kernel_rfl, Ale.trans (b := .tup [.agg [.lst 1 [], VI 0, .lst 5 [], .lst 8 [], .lst 6 []], VI 1]) (Ale.tup (.cons (Ale.agg (.cons (Ale.emp) (.cons (Ale.refl) (.cons (Ale.emp) (.cons (Ale.emp) (.cons (Ale.emp) (.nil))))))) (.cons (Ale.refl) (.nil)))) (Ale.of_eq ?_)⟩
  rotate_left
  all_goals (first | (rw [Synod.step_1 (by omega) (by omega) (fun hh => ‹¬ d = _› (ba_empty.2 hh))]; rfl) | (rw [Synod.step_r (by omega) (by omega) (by rw [‹d = _›]; rfl) (by omega)]; rfl) | (rw [Synod.step_4 (by rw [‹d = _›]; rfl) (by assumption) (by omega) q4] <;> rfl))
section
variable (a4 : Vote) (d : ByteArray) (n : Int) (s : Synod)
abbrev M141 : LB := [(M0 s), some ⟨3, [[VI 5, VI n, .v (.string d)]]⟩, some ⟨5, [[.emp, VI 0, .emp, .emp, .emp]]⟩]
abbrev M142 : LB := [(M0 s), some ⟨3, [[VI 5, VI n, .v (.string d)]]⟩, some ⟨5, [[.emp, VI 0, .emp, .emp, .emp]]⟩, (M0 s), some ⟨5, [[.emp, VI 0, .emp, .emp, .emp]]⟩]
abbrev M143 : LB := [(M0 s), some ⟨3, [[VI 5, VI n, .v (.string d)]]⟩, some ⟨5, [[.emp, VI 0, .emp, .emp, .emp]]⟩, (M0 s), some ⟨5, [[.emp, VI 0, .emp, .emp, .emp]]⟩, some ⟨5, (s.seats.map Seat.cs)⟩]
abbrev M144 : LB := [(M0 s), some ⟨3, [[VI 5, VI n, .v (.string d)]]⟩, some ⟨5, [[.emp, VI 0, .emp, .emp, .emp]]⟩, (M0 s), some ⟨5, [[.emp, VI 0, .emp, .emp, .emp]]⟩, some ⟨5, (s.seats.map Seat.cs)⟩, some ⟨8, (s.bids.map Bid.cs)⟩]
abbrev M145 : LB := [(M0 s), some ⟨3, [[VI 5, VI n, .v (.string d)]]⟩, some ⟨5, [[.emp, VI 0, .emp, .emp, .emp]]⟩, (M0 s), some ⟨5, [[.emp, VI 0, .emp, .emp, .emp]]⟩, some ⟨5, (s.seats.map Seat.cs)⟩, some ⟨8, (s.bids.map Bid.cs)⟩, some ⟨6, (s.votes.map Vote.cs)⟩]
abbrev M146 : LB := [(M0 s), some ⟨3, [[VI 5, VI n, .v (.string d)]]⟩, some ⟨5, [[.emp, VI 0, .emp, .emp, .emp]]⟩, (M0 s), (M12 s), some ⟨5, (s.seats.map Seat.cs)⟩, some ⟨8, (s.bids.map Bid.cs)⟩, some ⟨6, (s.votes.map Vote.cs)⟩]
abbrev M147 : LB := [(M0 s), some ⟨3, [[VI 5, VI n, .v (.string d)]]⟩, some ⟨5, [[.emp, VI 0, .emp, .emp, .emp]]⟩, (M15 s), some ⟨5, (s.seats.map Seat.cs)⟩, some ⟨8, (s.bids.map Bid.cs)⟩, some ⟨6, (s.votes.map Vote.cs)⟩]
abbrev M148 : LB := [(M0 s), some ⟨3, [[VI 5, VI n, .v (.string d)]]⟩, some ⟨5, [[.emp, VI 0, .emp, .emp, .emp]]⟩, (M15 s), some ⟨5, (s.seats.map Seat.cs)⟩, some ⟨8, (s.bids.map Bid.cs)⟩, some ⟨6, (s.votes.map Vote.cs)⟩, (M15 s)]
abbrev M149 : LS := (14, .agg [VI 5, VI n, .v (.string d)]) :: (13, .ref 7 5 0 0) :: M18
abbrev M150 : LB := [(M0 s), some ⟨3, [[VI 5, VI n, .v (.string d)]]⟩, some ⟨5, [[.emp, VI 0, .emp, .emp, .emp]]⟩, (M15 s), some ⟨5, (s.seats.map Seat.cs)⟩, some ⟨8, (s.bids.map Bid.cs)⟩, some ⟨6, (s.votes.map Vote.cs)⟩, (M15 s), some ⟨1, [[.ref 7 5 0 0]]⟩, some ⟨3, [[VI 5, VI n, .v (.string d)]]⟩]
abbrev M151 : LB := [(M0 s), some ⟨3, [[VI 5, VI n, .v (.string d)]]⟩, some ⟨5, [[.emp, VI 0, .emp, .emp, .emp]]⟩, (M15 s), some ⟨5, (s.seats.map Seat.cs)⟩, some ⟨8, (s.bids.map Bid.cs)⟩, some ⟨6, (s.votes.map Vote.cs)⟩, (M15 s), some ⟨1, [[.ref 7 5 0 0]]⟩, some ⟨3, [[VI 5, VI n, .v (.string d)]]⟩, M21]
abbrev M152 : LS := [(12, VI 5), (11, .ref 9 3 0 0), (10, .mp 10), (9, .fn 80 [.ref 8 1 0 0, .ref 9 3 0 0]), (8, .fn 79 [.ref 8 1 0 0, .ref 9 3 0 0]), (7, .fn 76 [.ref 8 1 0 0, .ref 9 3 0 0]), (6, .fn 74 [.ref 8 1 0 0, .ref 9 3 0 0]), (5, .mp 10), (3, .ref 9 3 0 0), (2, .ref 8 1 0 0)]
abbrev M153 : LS := (13, .fn 80 [.ref 8 1 0 0, .ref 9 3 0 0]) :: M152
abbrev M154 : LS := (15, .fn 80 [.ref 8 1 0 0, .ref 9 3 0 0]) :: (M149 d n)
abbrev M155 : LS := (7, .fn 80 [.ref 8 1 0 0, .ref 9 3 0 0]) :: M18
abbrev M156 : LS := (23, .v (.string d)) :: (22, .ref 1 3 0 2) :: (18, .v (.bool false)) :: M155
abbrev M157 : LS := (36, VI n) :: (35, .ref 1 3 0 1) :: (34, .v (.bool true)) :: (33, .v (.bool true)) :: (32, VI 5) :: (31, .ref 1 3 0 0) :: (21, .v (.bool false)) :: M155
abbrev M158 : LS := [(30, .v (.bool true)), (7, .fn 80 [.ref 8 1 0 0, .ref 9 3 0 0]), (6, .ref 7 5 0 0), (4, .ref 2 5 0 0)]
abbrev M159 : LS := [(7, .fn 80 [.ref 8 1 0 0, .ref 9 3 0 0]), (6, .ref 7 5 0 0), (4, .ref 2 5 0 0)]
abbrev M160 : LS := (16, .fn 80 [.ref 8 1 0 0, .ref 9 3 0 0]) :: (30, .v (.bool false)) :: M159
abbrev M161 : LS := [(10, VI n), (9, .ref 9 3 0 1), (8, .own 6 6 0 (List.length s.votes)), (7, .ref 7 5 0 4), (6, .ref 7 5 0 0), (5, .ref 7 5 0 0), (4, .ref 7 5 0 0), (3, .ref 7 5 0 0), (0, .ref 8 1 0 0), (1, .ref 9 3 0 0)]
abbrev M162 : LS := (12, (M39 a4)) :: (11, .ref 6 6 (0 + Int.toNat n) 0) :: (M161 n s)
abbrev M163 : LB := [(M0 s), some ⟨3, [[VI 5, VI n, .v (.string d)]]⟩, some ⟨5, [[.emp, VI 0, .emp, .emp, .emp]]⟩, (M15 s), some ⟨5, (s.seats.map Seat.cs)⟩, some ⟨8, (s.bids.map Bid.cs)⟩, some ⟨6, (s.votes.map Vote.cs)⟩, (M15 s), some ⟨1, [[.ref 7 5 0 0]]⟩, some ⟨3, [[VI 5, VI n, .v (.string d)]]⟩, (M41 a4)]
abbrev M164 : LS := [(11, .own 10 6 0 1), (10, .own 6 6 0 (List.length s.votes)), (9, .ref 7 5 0 4), (8, .ref 7 5 0 0), (7, .ref 7 5 0 0), (6, .ref 7 5 0 0), (5, .ref 7 5 0 0), (0, .ref 7 5 0 0), (1, .own 10 6 0 1)]
abbrev M165 : LB := [(M0 s), some ⟨3, [[VI 5, VI n, .v (.string d)]]⟩, some ⟨5, [[.emp, VI 0, .emp, .emp, .emp]]⟩, (M15 s), some ⟨5, (s.seats.map Seat.cs)⟩, some ⟨8, (s.bids.map Bid.cs)⟩, none, (M15 s), some ⟨1, [[.ref 7 5 0 0]]⟩, some ⟨3, [[VI 5, VI n, .v (.string d)]]⟩, (M41 a4), some ⟨6, ((s.votes ++ ([a4])).map Vote.cs)⟩]
abbrev M166 : LS := (12, .own 11 6 0 (List.length (s.votes ++ ([a4])))) :: (M164 s)
abbrev M167 : OB := some ⟨5, [[.lst 1 (s.voters.weights.map cI), VI s.voters.need, .own 4 5 0 (List.length s.seats), .own 5 8 0 (List.length s.bids), .own 11 6 0 (List.length (s.votes ++ ([a4])))]]⟩
abbrev M168 : LB := [(M0 s), some ⟨3, [[VI 5, VI n, .v (.string d)]]⟩, some ⟨5, [[.emp, VI 0, .emp, .emp, .emp]]⟩, (M15 s), some ⟨5, (s.seats.map Seat.cs)⟩, some ⟨8, (s.bids.map Bid.cs)⟩, none, (M167 a4 s), some ⟨1, [[.ref 7 5 0 0]]⟩, some ⟨3, [[VI 5, VI n, .v (.string d)]]⟩, (M41 a4), some ⟨6, ((s.votes ++ ([a4])).map Vote.cs)⟩]
abbrev M169 : LB := [(M0 s), some ⟨3, [[VI 5, VI n, .v (.string d)]]⟩, some ⟨5, [[.emp, VI 0, .emp, .emp, .emp]]⟩, (M50 s), some ⟨5, (s.seats.map Seat.cs)⟩, some ⟨8, (s.bids.map Bid.cs)⟩, none, (M167 a4 s), some ⟨1, [[.ref 7 5 0 0]]⟩, some ⟨3, [[VI 5, VI n, .v (.string d)]]⟩, (M41 a4), some ⟨6, ((s.votes ++ ([a4])).map Vote.cs)⟩]
abbrev M170 : OB := some ⟨5, [[.lst 1 (s.voters.weights.map cI), VI s.voters.need, .own 4 5 0 (List.length s.seats), .own 5 8 0 (List.length s.bids), .own 10 6 0 (List.length (s.votes ++ ([a4])))]]⟩
abbrev M171 : LB := [(M0 s), some ⟨3, [[VI 5, VI n, .v (.string d)]]⟩, some ⟨5, [[.emp, VI 0, .emp, .emp, .emp]]⟩, (M50 s), some ⟨5, (s.seats.map Seat.cs)⟩, some ⟨8, (s.bids.map Bid.cs)⟩, none, (M170 a4 s), some ⟨1, [[.ref 7 5 0 0]]⟩, some ⟨3, [[VI 5, VI n, .v (.string d)]]⟩, some ⟨6, ((s.votes ++ ([a4])).map Vote.cs)⟩]
abbrev M172 : LB := [(M0 s), some ⟨3, [[VI 5, VI n, .v (.string d)]]⟩, (M170 a4 s), (M50 s), some ⟨5, (s.seats.map Seat.cs)⟩, some ⟨8, (s.bids.map Bid.cs)⟩, none, (M170 a4 s), some ⟨1, [[.ref 7 5 0 0]]⟩, some ⟨3, [[VI 5, VI n, .v (.string d)]]⟩, some ⟨6, ((s.votes ++ ([a4])).map Vote.cs)⟩]
abbrev M173 : AV := .agg [.lst 1 (s.voters.weights.map cI), VI s.voters.need, .own 4 5 0 (List.length s.seats), .own 5 8 0 (List.length s.bids), .own 10 6 0 (List.length (s.votes ++ ([a4])))]
abbrev M174 : AV := .agg [.lst 1 (s.voters.weights.map cI), VI s.voters.need, .lst 5 (s.seats.map Seat.cs), .lst 8 (s.bids.map Bid.cs), .lst 6 ((s.votes ++ ([a4])).map Vote.cs)]
end
theorem step5_fn (s : Synod) (n : Int) (d : ByteArray) (ok : s.Ok) : Fn Tryd.prog 28 [.agg [.lst 1 (s.voters.weights.map cI), VI s.voters.need, .lst 5 (s.seats.map Seat.cs), .lst 8 (s.bids.map Bid.cs), .lst 6 (s.votes.map Vote.cs)], .agg [VI 5, VI n, .v (.string d)]] (.tup [.agg [.lst 1 (((((s.stepP 5 n d).1).voters).weights).map cI), VI ((((s.stepP 5 n d).1).voters).need), .lst 5 ((((s.stepP 5 n d).1).seats).map Seat.cs), .lst 8 ((((s.stepP 5 n d).1).bids).map Bid.cs), .lst 6 ((((s.stepP 5 n d).1).votes).map Vote.cs)], VI ((s.stepP 5 n d).2)]) := by
  have q1 := qc_len ok.q
  have q2 := ok.len
  have q3 := ok.few
  have q4 := ok.many
  have vv := ok.vv
  have hx1 : s.voters.weights.length ≤ 9223372036854775807 := by omega
  refine fn_walkW F28_ok (of_decide_eq_true (by kernel_rfl)) ?_
  refine srl 4 [2, 3, 4] ⟨M2, (M141 d n s)⟩ ?_
  refine srr 1 ⟨(9, (M3 s)) :: M2, (M141 d n s)⟩ ?_
  refine OW.fi (ar := [(M3 s)]) (r := (M14 s)) (m' := (M147 d n s)) (x' := ⟨(10, (M14 s)) :: (9, (M3 s)) :: M2, (M147 d n s)⟩) (by kernel_rfl) (by kernel_rfl) F49_call ?_ (by kernel_rfl) ?_
  refine fi_walkW F49_ok (of_decide_eq_true (by kernel_rfl)) ?_
  refine srl 2 [1, 2] ⟨[(2, .ref 4 5 0 0), (1, .ref 3 5 0 0)], (M142 d n s)⟩ ?_
  refine sdr 3 ⟨(M5 s), (M142 d n s)⟩ ?_
  refine dwf [.lst 1 (s.voters.weights.map cI)] ⟨(6, .lst 1 (s.voters.weights.map cI)) :: (M5 s), (M142 d n s)⟩ F27_call (cloneI_fo s.voters.weights (by first | omega | exact qc_small (by assumption))) ?_
  refine dwr 6 ⟨(M6 s), (M142 d n s)⟩ ?_
  refine DW.fo (ar := [.lst 5 (s.seats.map Seat.cs)]) (fe := Seat.cs) (xs := s.seats) (x' := ⟨(13, .own 5 5 0 (List.length s.seats)) :: (M6 s), (M143 d n s)⟩) (by kernel_rfl) (by kernel_rfl) F68_call (cloneS_fo s.seats (by first | omega | exact qc_small (by assumption))) (by intro y; kernel_rfl) (by kernel_rfl) (by kernel_rfl) ?_
  refine dwr 2 ⟨(M8 s), (M143 d n s)⟩ ?_
  refine DW.fo (ar := [.lst 8 (s.bids.map Bid.cs)]) (fe := Bid.cs) (xs := s.bids) (x' := ⟨(16, .own 6 8 0 (List.length s.bids)) :: (M8 s), (M144 d n s)⟩) (by kernel_rfl) (by kernel_rfl) F69_call (cloneB_fo s.bids (by first | omega | exact qc_small (by assumption))) (by intro y; kernel_rfl) (by kernel_rfl) (by kernel_rfl) ?_
  refine dwr 2 ⟨(M10 s), (M144 d n s)⟩ ?_
  refine DW.fo (ar := [.lst 6 (s.votes.map Vote.cs)]) (fe := Vote.cs) (xs := s.votes) (x' := ⟨(19, .own 7 6 0 (List.length s.votes)) :: (M10 s), (M145 d n s)⟩) (by kernel_rfl) (by kernel_rfl) F70_call (cloneV_fo s.votes (by first | omega | exact qc_small (by assumption))) (by intro y; kernel_rfl) (by kernel_rfl) (by kernel_rfl) ?_
  refine dwl 2 [2] ⟨[(2, .ref 4 5 0 0)], (M146 d n s)⟩ ?_
  refine EL.ret ?_
  refine ⟨.inr rfl, ⟨[(2, .ref 3 5 0 0)], (M147 d n s)⟩, norm_le (live := [2]) (src := [.old 0 false, .old 1 false, .old 2 false, .old 4 false, .old 5 true, .old 6 true, .old 7 true]) (es := []) (by kernel_rfl) ⟨pq 5 Seat.cs s.seats, pq 8 Bid.cs s.bids, pq 6 Vote.cs s.votes, trivial⟩, by kernel_rfl, rfl⟩
  refine owl 3 [3, 4, 6] ⟨M18, (M148 d n s)⟩ ?_
  refine srr 2 ⟨(M149 d n), (M148 d n s)⟩ ?_
  refine OW.fi (ar := [.ref 7 5 0 0, .agg [VI 5, VI n, .v (.string d)]]) (r := .fn 80 [.ref 8 1 0 0, .ref 9 3 0 0]) (m' := (M150 d n s)) (x' := ⟨(M154 d n), (M150 d n s)⟩) (by kernel_rfl) (by kernel_rfl) F54_call ?_ (by kernel_rfl) ?_
  refine fi_walkW F54_ok (of_decide_eq_true (by kernel_rfl)) ?_
  refine srl 3 [2, 3] ⟨[(3, .ref 9 3 0 0), (2, .ref 8 1 0 0)], (M150 d n s)⟩ ?_
  refine srr 12 ⟨M152, (M151 d n s)⟩ ?_
  refine owo (.fn 80 [.ref 8 1 0 0, .ref 9 3 0 0]) [] [10] ⟨M153, (M151 d n s)⟩ (opE_mlk .int (.v (.nilFunc)) (.s 10) (.s 12) 10 [[VI 6, .fn 74 [.ref 8 1 0 0, .ref 9 3 0 0]], [VI 3, .fn 76 [.ref 8 1 0 0, .ref 9 3 0 0]], [VI 4, .fn 79 [.ref 8 1 0 0, .ref 9 3 0 0]], [VI 5, .fn 80 [.ref 8 1 0 0, .ref 9 3 0 0]]] (.int .i64 5) (some (.fn 80 [.ref 8 1 0 0, .ref 9 3 0 0])) (by kernel_rfl) (by kernel_rfl) (by kernel_rfl) (by kernel_rfl) (by kernel_rfl) (by kernel_rfl)) ?_
  refine owl 1 [4] ⟨[(4, .fn 80 [.ref 8 1 0 0, .ref 9 3 0 0])], (M151 d n s)⟩ ?_
  refine EL.ret ?_
  refine ⟨.inr rfl, ⟨[(4, .fn 80 [.ref 8 1 0 0, .ref 9 3 0 0])], (M150 d n s)⟩, norm_le (live := [4]) (src := [.old 0 false, .old 1 false, .old 2 false, .old 3 false, .old 4 true, .old 5 true, .old 6 true, .old 7 false, .old 8 false, .old 9 false]) (es := []) (by kernel_rfl) ⟨pq 5 Seat.cs s.seats, pq 8 Bid.cs s.bids, pq 6 Vote.cs s.votes, trivial⟩, by kernel_rfl, rfl⟩
  refine owl 1 [3, 4, 6, 7] ⟨M155, (M150 d n s)⟩ ?_
  refine srl 1 [3, 4, 6, 7] ⟨M155, (M150 d n s)⟩ ?_
  refine EL.seq ?_
  refine EL.block ?_
  refine srl 3 [3, 4, 6, 7, 18] ⟨(18, .v (.bool false)) :: M155, (M150 d n s)⟩ ?_
  refine cnF ?_
  refine srr 4 ⟨(25, .v (.bool (!(strEq d (⟨#[]⟩))))) :: (24, .v (.bool (!(strEq d (⟨#[]⟩))))) :: (M156 d), (M150 d n s)⟩ ?_
  rcases Bool.eq_false_or_eq_true (strEq d (⟨#[]⟩)) with h1 | h1
  rw [h1]
  have g1 : (d = (⟨#[]⟩)) := strEq_iff.1 h1
  refine owl 5 [3, 4, 6, 7, 21] ⟨(21, .v (.bool false)) :: M155, (M150 d n s)⟩ ?_
  refine cnF ?_
  refine sdr 8 ⟨(38, .v (.bool (decide (n < 0)))) :: (37, .v (.bool (decide (n < 0)))) :: (M157 n), (M150 d n s)⟩ ?_
  rcases Bool.eq_false_or_eq_true (decide (n < 0)) with h2 | h2
  rw [h2]
  have g2 := of_decide_eq_true h2
  refine dwl 12 [4, 6, 7, 30] ⟨M158, (M150 d n s)⟩ ?_
  refine cnT ?_
  refine roe 1 ⟨(8, VI 3) :: M158, (M150 d n s)⟩ ?_
  refine inBlk_norm ?_
  refine thenL_norm ?_
  refine EL.seq ?_
  refine srl 2 [4, 6, 8, 51] ⟨M100, (M150 d n s)⟩ ?_
  refine cnT ?_
  refine srl 4 [4, 5] ⟨[(5, VI 3), (4, .ref 2 5 0 0)], (M150 d n s)⟩ ?_
  refine rtr ?_
  refine ⟨.inr rfl, .tup [.agg [.emp, VI 0, .emp, .emp, .emp], VI 3], by kernel_rfl, Ale.trans (b := .tup [.agg [.lst 1 [], VI 0, .lst 5 [], .lst 8 [], .lst 6 []], VI 3]) (Ale.tup (.cons (Ale.agg (.cons (Ale.emp) (.cons (Ale.refl) (.cons (Ale.emp) (.cons (Ale.emp) (.cons (Ale.emp) (.nil))))))) (.cons (Ale.refl) (.nil)))) (Ale.of_eq ?_)⟩
  rotate_left
  rw [h2]
  have g2 := of_decide_eq_false h2
  refine dwl 12 [4, 6, 7, 30] ⟨(30, .v (.bool (decide (n ≥ (List.length s.votes : Int))))) :: M159, (M150 d n s)⟩ ?_
  rcases Bool.eq_false_or_eq_true (decide (n ≥ (List.length s.votes : Int))) with h3 | h3
  rw [h3]
  have g3 := of_decide_eq_true h3
  refine cnT ?_
  refine roe 1 ⟨(8, VI 3) :: M158, (M150 d n s)⟩ ?_
  refine inBlk_norm ?_
  refine thenL_norm ?_
  refine EL.seq ?_
  refine srl 2 [4, 6, 8, 51] ⟨M100, (M150 d n s)⟩ ?_
  refine cnT ?_
  refine srl 4 [4, 5] ⟨[(5, VI 3), (4, .ref 2 5 0 0)], (M150 d n s)⟩ ?_
  refine rtr ?_
  refine ⟨.inr rfl, .tup [.agg [.emp, VI 0, .emp, .emp, .emp], VI 3], by kernel_rfl, Ale.trans (b := .tup [.agg [.lst 1 [], VI 0, .lst 5 [], .lst 8 [], .lst 6 []], VI 3]) (Ale.tup (.cons (Ale.agg (.cons (Ale.emp) (.cons (Ale.refl) (.cons (Ale.emp) (.cons (Ale.emp) (.cons (Ale.emp) (.nil))))))) (.cons (Ale.refl) (.nil)))) (Ale.of_eq ?_)⟩
  rotate_left
  rw [h3]
  have g3 := of_decide_eq_false h3
  refine cnF ?_
  refine EL.reg0 ?_
  refine owr 1 ⟨M160, (M150 d n s)⟩ ?_
  obtain ⟨a4, ha4⟩ : ∃ y, s.votes[(n : Int).toNat]? = some y := idx_ex ⟨by omega, by omega⟩
  have ma4 := vv _ (List.mem_of_getElem? ha4)
  rcases Bool.eq_false_or_eq_true (decide ((List.length (s.votes ++ ([a4])) : Int) > 200)) with h5 | h5
  try rw [h5]
  have g5 := of_decide_eq_true h5
  have n5 : ((List.length (s.votes ++ ([a4]))) > 200) := by omega
  refine OW.fi (ar := [.ref 8 1 0 0, .ref 9 3 0 0]) (r := VI 2) (m' := (M171 a4 d n s)) (x' := ⟨(17, VI 2) :: M160, (M171 a4 d n s)⟩) (by kernel_rfl) (by kernel_rfl) F80_call ?_ (by kernel_rfl) ?_
  refine fi_walkW F80_ok (of_decide_eq_true (by kernel_rfl)) ?_
  refine srl 1 [0, 1] ⟨[(0, .ref 8 1 0 0), (1, .ref 9 3 0 0)], (M150 d n s)⟩ ?_
  refine sdr 8 ⟨(M161 n s), (M150 d n s)⟩ ?_
  refine dwo (.ref 6 6 (0 + Int.toNat n) 0) [] [6] ⟨(11, .ref 6 6 (0 + Int.toNat n) 0) :: (M161 n s), (M150 d n s)⟩ (opE_iado (.s 8) (.s 10) 6 6 0 (List.length s.votes) .i64 n ⟨6, (s.votes.map Vote.cs)⟩ (by kernel_rfl) (by kernel_rfl) rfl rfl ⟨by omega, by omega⟩ (by kernel_rfl)) ?_
  refine dwo (M39 a4) [] [6] ⟨(M162 a4 n s), (M150 d n s)⟩ (opE_ldoS Vote.cs s.votes (some 6) (.s 11) 6 6 (0 + Int.toNat n) 0 a4 ((M39 a4)) (by kernel_rfl) (by kernel_rfl) rfl (by kernel_rfl) (by simpa using ha4) (by kernel_rfl)) ?_
  refine dwr 1 ⟨(13, .own 10 6 0 1) :: (M162 a4 n s), (M163 a4 d n s)⟩ ?_
  refine DW.fi (ar := [.ref 7 5 0 0, .own 10 6 0 1]) (r := VI 2) (m' := (M169 a4 d n s)) (x' := ⟨(14, VI 2) :: (13, .own 10 6 0 1) :: (M162 a4 n s), (M169 a4 d n s)⟩) (by kernel_rfl) (by kernel_rfl) F81_call ?_ (by kernel_rfl) (by kernel_rfl) (by kernel_rfl) ?_
  refine fi_walkW F81_ok (of_decide_eq_true (by kernel_rfl)) ?_
  refine srl 1 [0, 1] ⟨[(0, .ref 7 5 0 0), (1, .own 10 6 0 1)], (M163 a4 d n s)⟩ ?_
  refine srr 7 ⟨(M164 s), (M163 a4 d n s)⟩ ?_
  refine owo (.own 11 6 0 (List.length (s.votes ++ ([a4])))) [(6, none), (11, some ⟨6, ((s.votes ++ ([a4])).map Vote.cs)⟩)] [10, 6] ⟨(M166 a4 s), (M165 a4 d n s)⟩ (opE_appO Vote.cs s.votes ([a4]) (.s 10) (.s 11) 6 56 6 (.own 10 6 0 1) _ (by kernel_rfl) (by kernel_rfl) rfl (by kernel_rfl) rfl (.own (els := [[VI a4.kind, VI a4.bid, VI a4.node, VI a4.copy.at_.time, VI a4.copy.at_.who, .v (.string a4.copy.data)]]) (by kernel_rfl) (by kernel_rfl) (of_decide_eq_true (by kernel_rfl))) (by first | (simp; omega) | omega | exact app_le (by first | exact q4 | exact ers_le q4 | omega) (by first | exact begin_len _ _ _ _ | exact Nat.le_trans (serve_len _ _) (by decide) | exact hear_len _ _ _ _ | (simp; done)) (by decide))) ?_
  refine owl 4 [0] ⟨[(0, .ref 7 5 0 0)], (M168 a4 d n s)⟩ ?_
  refine EL.seq ?_
  refine srl 7 [22] ⟨[(22, .v (.bool (decide ((List.length (s.votes ++ ([a4])) : Int) > 200))))], (M168 a4 d n s)⟩ ?_
  rw [h5]
  refine cnT ?_
  refine srl 1 [4] ⟨[(4, VI 2)], (M168 a4 d n s)⟩ ?_
  refine rtr ?_
  refine ⟨.inr rfl, ⟨[(4, VI 2)], (M169 a4 d n s)⟩, norm_le (live := [4]) (src := [.old 0 false, .old 1 false, .old 2 false, .old 3 false, .old 4 true, .old 5 true, .old 6 false, .old 7 false, .old 8 false, .old 9 false, .old 10 false, .old 11 true]) (es := []) (by kernel_rfl) ⟨pq 5 Seat.cs s.seats, pq 8 Bid.cs s.bids, pq 6 Vote.cs (s.votes ++ ([a4])), trivial⟩, by kernel_rfl, rfl⟩
  refine dwl 1 [2] ⟨[(2, VI 2)], (M169 a4 d n s)⟩ ?_
  refine EL.ret ?_
  refine ⟨.inr rfl, ⟨[(2, VI 2)], (M171 a4 d n s)⟩, norm_le (live := [2]) (src := [.old 0 false, .old 1 false, .old 2 false, .old 3 false, .old 4 true, .old 5 true, .old 6 false, .old 7 false, .old 8 false, .old 9 false, .old 11 true]) (es := []) (by kernel_rfl) ⟨pq 5 Seat.cs s.seats, pq 8 Bid.cs s.bids, pq 6 Vote.cs (s.votes ++ ([a4])), trivial⟩, by kernel_rfl, rfl⟩
  refine owe 1 ⟨(8, VI 2) :: (17, VI 2) :: M160, (M171 a4 d n s)⟩ ?_
  refine inBlk_norm ?_
  refine thenL_norm ?_
  refine EL.seq ?_
  refine srl 2 [4, 6, 8, 51] ⟨M101, (M171 a4 d n s)⟩ ?_
  refine cnT ?_
  refine srl 4 [4, 5] ⟨[(5, VI 2), (4, .ref 2 5 0 0)], (M171 a4 d n s)⟩ ?_
  refine rtr ?_
  refine ⟨.inr rfl, .tup [.agg [.emp, VI 0, .emp, .emp, .emp], VI 2], by kernel_rfl, Ale.trans (b := .tup [.agg [.lst 1 [], VI 0, .lst 5 [], .lst 8 [], .lst 6 []], VI 2]) (Ale.tup (.cons (Ale.agg (.cons (Ale.emp) (.cons (Ale.refl) (.cons (Ale.emp) (.cons (Ale.emp) (.cons (Ale.emp) (.nil))))))) (.cons (Ale.refl) (.nil)))) (Ale.of_eq ?_)⟩
  rotate_left
  try rw [h5]
  have g5 := of_decide_eq_false h5
  have n5 : ¬ ((List.length (s.votes ++ ([a4]))) > 200) := by omega
  refine OW.fi (ar := [.ref 8 1 0 0, .ref 9 3 0 0]) (r := VI 0) (m' := (M171 a4 d n s)) (x' := ⟨(17, VI 0) :: M160, (M171 a4 d n s)⟩) (by kernel_rfl) (by kernel_rfl) F80_call ?_ (by kernel_rfl) ?_
  refine fi_walkW F80_ok (of_decide_eq_true (by kernel_rfl)) ?_
  refine srl 1 [0, 1] ⟨[(0, .ref 8 1 0 0), (1, .ref 9 3 0 0)], (M150 d n s)⟩ ?_
  refine sdr 8 ⟨(M161 n s), (M150 d n s)⟩ ?_
  refine dwo (.ref 6 6 (0 + Int.toNat n) 0) [] [6] ⟨(11, .ref 6 6 (0 + Int.toNat n) 0) :: (M161 n s), (M150 d n s)⟩ (opE_iado (.s 8) (.s 10) 6 6 0 (List.length s.votes) .i64 n ⟨6, (s.votes.map Vote.cs)⟩ (by kernel_rfl) (by kernel_rfl) rfl rfl ⟨by omega, by omega⟩ (by kernel_rfl)) ?_
  refine dwo (M39 a4) [] [6] ⟨(M162 a4 n s), (M150 d n s)⟩ (opE_ldoS Vote.cs s.votes (some 6) (.s 11) 6 6 (0 + Int.toNat n) 0 a4 ((M39 a4)) (by kernel_rfl) (by kernel_rfl) rfl (by kernel_rfl) (by simpa using ha4) (by kernel_rfl)) ?_
  refine dwr 1 ⟨(13, .own 10 6 0 1) :: (M162 a4 n s), (M163 a4 d n s)⟩ ?_
  refine DW.fi (ar := [.ref 7 5 0 0, .own 10 6 0 1]) (r := VI 0) (m' := (M169 a4 d n s)) (x' := ⟨(14, VI 0) :: (13, .own 10 6 0 1) :: (M162 a4 n s), (M169 a4 d n s)⟩) (by kernel_rfl) (by kernel_rfl) F81_call ?_ (by kernel_rfl) (by kernel_rfl) (by kernel_rfl) ?_
  refine fi_walkW F81_ok (of_decide_eq_true (by kernel_rfl)) ?_
  refine srl 1 [0, 1] ⟨[(0, .ref 7 5 0 0), (1, .own 10 6 0 1)], (M163 a4 d n s)⟩ ?_
  refine srr 7 ⟨(M164 s), (M163 a4 d n s)⟩ ?_
  refine owo (.own 11 6 0 (List.length (s.votes ++ ([a4])))) [(6, none), (11, some ⟨6, ((s.votes ++ ([a4])).map Vote.cs)⟩)] [10, 6] ⟨(M166 a4 s), (M165 a4 d n s)⟩ (opE_appO Vote.cs s.votes ([a4]) (.s 10) (.s 11) 6 56 6 (.own 10 6 0 1) _ (by kernel_rfl) (by kernel_rfl) rfl (by kernel_rfl) rfl (.own (els := [[VI a4.kind, VI a4.bid, VI a4.node, VI a4.copy.at_.time, VI a4.copy.at_.who, .v (.string a4.copy.data)]]) (by kernel_rfl) (by kernel_rfl) (of_decide_eq_true (by kernel_rfl))) (by first | (simp; omega) | omega | exact app_le (by first | exact q4 | exact ers_le q4 | omega) (by first | exact begin_len _ _ _ _ | exact Nat.le_trans (serve_len _ _) (by decide) | exact hear_len _ _ _ _ | (simp; done)) (by decide))) ?_
  refine owl 4 [0] ⟨[(0, .ref 7 5 0 0)], (M168 a4 d n s)⟩ ?_
  refine EL.seq ?_
  refine srl 7 [22] ⟨[(22, .v (.bool (decide ((List.length (s.votes ++ ([a4])) : Int) > 200))))], (M168 a4 d n s)⟩ ?_
  rw [h5]
  refine cnF ?_
  refine skn ?_
  refine srl 1 [4] ⟨[(4, VI 0)], (M168 a4 d n s)⟩ ?_
  refine EL.ret ?_
  refine ⟨.inr rfl, ⟨[(4, VI 0)], (M169 a4 d n s)⟩, norm_le (live := [4]) (src := [.old 0 false, .old 1 false, .old 2 false, .old 3 false, .old 4 true, .old 5 true, .old 6 false, .old 7 false, .old 8 false, .old 9 false, .old 10 false, .old 11 true]) (es := []) (by kernel_rfl) ⟨pq 5 Seat.cs s.seats, pq 8 Bid.cs s.bids, pq 6 Vote.cs (s.votes ++ ([a4])), trivial⟩, by kernel_rfl, rfl⟩
  refine dwl 1 [2] ⟨[(2, VI 0)], (M169 a4 d n s)⟩ ?_
  refine EL.ret ?_
  refine ⟨.inr rfl, ⟨[(2, VI 0)], (M171 a4 d n s)⟩, norm_le (live := [2]) (src := [.old 0 false, .old 1 false, .old 2 false, .old 3 false, .old 4 true, .old 5 true, .old 6 false, .old 7 false, .old 8 false, .old 9 false, .old 11 true]) (es := []) (by kernel_rfl) ⟨pq 5 Seat.cs s.seats, pq 8 Bid.cs s.bids, pq 6 Vote.cs (s.votes ++ ([a4])), trivial⟩, by kernel_rfl, rfl⟩
  refine owe 1 ⟨(8, VI 0) :: (17, VI 0) :: M160, (M171 a4 d n s)⟩ ?_
  refine inBlk_norm ?_
  refine thenL_norm ?_
  refine EL.seq ?_
  refine srl 2 [4, 6, 8, 51] ⟨M102, (M171 a4 d n s)⟩ ?_
  refine cnF ?_
  refine skn ?_
  refine srl 6 [4, 5] ⟨[(5, VI 0), (4, .ref 2 5 0 0)], (M172 a4 d n s)⟩ ?_
  refine EL.ret ?_
  refine ⟨.inr rfl, .tup [(M174 a4 s), VI 0], run_snap (r0 := .tup [(M173 a4 s), VI 0]) (by kernel_rfl) (snapR_tup (snapAs_cons (snapA_agg (snapL_cons (by kernel_rfl) (snapL_cons (by kernel_rfl) (snapL_cons (smp Seat.cs s.seats) (snapL_cons (smp Bid.cs s.bids) (snapL_cons (smp Vote.cs (s.votes ++ ([a4]))) (rfl))))))) (snapAs_cons (by kernel_rfl) (snapAs_nil)))), Ale.of_eq ?_⟩
  rotate_left
  rw [h1]
  have g1 : ¬ (d = (⟨#[]⟩)) := fun hh => Bool.noConfusion ((strEq_iff.2 hh).symm.trans h1)
  refine owl 5 [3, 4, 6, 7, 21] ⟨(21, .v (.bool true)) :: M155, (M150 d n s)⟩ ?_
  refine cnT ?_
  refine roe 1 ⟨(8, VI 1) :: (21, .v (.bool true)) :: M155, (M150 d n s)⟩ ?_
  refine inBlk_norm ?_
  refine thenL_norm ?_
  refine EL.seq ?_
  refine srl 2 [4, 6, 8, 51] ⟨M109, (M150 d n s)⟩ ?_
  refine cnT ?_
  refine srl 4 [4, 5] ⟨[(5, VI 1), (4, .ref 2 5 0 0)], (M150 d n s)⟩ ?_
  refine rtr ?_
  refine ⟨.inr rfl, .tup [.agg [.emp, VI 0, .emp, .emp, .emp], VI 1], by kernel_rfl, Ale.trans (b := .tup [.agg [.lst 1 [], VI 0, .lst 5 [], .lst 8 [], .lst 6 []], VI 1]) (Ale.tup (.cons (Ale.agg (.cons (Ale.emp) (.cons (Ale.refl) (.cons (Ale.emp) (.cons (Ale.emp) (.cons (Ale.emp) (.nil))))))) (.cons (Ale.refl) (.nil)))) (Ale.of_eq ?_)⟩
  rotate_left
  all_goals (first | (rw [Synod.step_1 (by omega) (by omega) (fun hh => ‹¬ d = _› (ba_empty.2 hh))]; rfl) | (rw [Synod.step_r (by omega) (by omega) (by rw [‹d = _›]; rfl) (by omega)]; rfl) | (rw [Synod.step_5 (by rw [‹d = _›]; rfl) (by assumption) (by omega)]; first | (rw [Synod.many_0] <;> first | rfl | (dsimp only; omega)) | (rw [Synod.many_2] <;> first | rfl | (dsimp only; omega))))
section
variable (d : ByteArray) (n : Int) (s : Synod)
abbrev M175 : LB := [(M0 s), some ⟨3, [[VI 6, VI n, .v (.string d)]]⟩, some ⟨5, [[.emp, VI 0, .emp, .emp, .emp]]⟩]
abbrev M176 : LB := [(M0 s), some ⟨3, [[VI 6, VI n, .v (.string d)]]⟩, some ⟨5, [[.emp, VI 0, .emp, .emp, .emp]]⟩, (M0 s), some ⟨5, [[.emp, VI 0, .emp, .emp, .emp]]⟩]
abbrev M177 : LB := [(M0 s), some ⟨3, [[VI 6, VI n, .v (.string d)]]⟩, some ⟨5, [[.emp, VI 0, .emp, .emp, .emp]]⟩, (M0 s), some ⟨5, [[.emp, VI 0, .emp, .emp, .emp]]⟩, some ⟨5, (s.seats.map Seat.cs)⟩]
abbrev M178 : LB := [(M0 s), some ⟨3, [[VI 6, VI n, .v (.string d)]]⟩, some ⟨5, [[.emp, VI 0, .emp, .emp, .emp]]⟩, (M0 s), some ⟨5, [[.emp, VI 0, .emp, .emp, .emp]]⟩, some ⟨5, (s.seats.map Seat.cs)⟩, some ⟨8, (s.bids.map Bid.cs)⟩]
abbrev M179 : LB := [(M0 s), some ⟨3, [[VI 6, VI n, .v (.string d)]]⟩, some ⟨5, [[.emp, VI 0, .emp, .emp, .emp]]⟩, (M0 s), some ⟨5, [[.emp, VI 0, .emp, .emp, .emp]]⟩, some ⟨5, (s.seats.map Seat.cs)⟩, some ⟨8, (s.bids.map Bid.cs)⟩, some ⟨6, (s.votes.map Vote.cs)⟩]
abbrev M180 : LB := [(M0 s), some ⟨3, [[VI 6, VI n, .v (.string d)]]⟩, some ⟨5, [[.emp, VI 0, .emp, .emp, .emp]]⟩, (M0 s), (M12 s), some ⟨5, (s.seats.map Seat.cs)⟩, some ⟨8, (s.bids.map Bid.cs)⟩, some ⟨6, (s.votes.map Vote.cs)⟩]
abbrev M181 : LB := [(M0 s), some ⟨3, [[VI 6, VI n, .v (.string d)]]⟩, some ⟨5, [[.emp, VI 0, .emp, .emp, .emp]]⟩, (M15 s), some ⟨5, (s.seats.map Seat.cs)⟩, some ⟨8, (s.bids.map Bid.cs)⟩, some ⟨6, (s.votes.map Vote.cs)⟩]
abbrev M182 : LB := [(M0 s), some ⟨3, [[VI 6, VI n, .v (.string d)]]⟩, some ⟨5, [[.emp, VI 0, .emp, .emp, .emp]]⟩, (M15 s), some ⟨5, (s.seats.map Seat.cs)⟩, some ⟨8, (s.bids.map Bid.cs)⟩, some ⟨6, (s.votes.map Vote.cs)⟩, (M15 s)]
abbrev M183 : LS := (14, .agg [VI 6, VI n, .v (.string d)]) :: (13, .ref 7 5 0 0) :: M18
abbrev M184 : LB := [(M0 s), some ⟨3, [[VI 6, VI n, .v (.string d)]]⟩, some ⟨5, [[.emp, VI 0, .emp, .emp, .emp]]⟩, (M15 s), some ⟨5, (s.seats.map Seat.cs)⟩, some ⟨8, (s.bids.map Bid.cs)⟩, some ⟨6, (s.votes.map Vote.cs)⟩, (M15 s), some ⟨1, [[.ref 7 5 0 0]]⟩, some ⟨3, [[VI 6, VI n, .v (.string d)]]⟩]
abbrev M185 : LB := [(M0 s), some ⟨3, [[VI 6, VI n, .v (.string d)]]⟩, some ⟨5, [[.emp, VI 0, .emp, .emp, .emp]]⟩, (M15 s), some ⟨5, (s.seats.map Seat.cs)⟩, some ⟨8, (s.bids.map Bid.cs)⟩, some ⟨6, (s.votes.map Vote.cs)⟩, (M15 s), some ⟨1, [[.ref 7 5 0 0]]⟩, some ⟨3, [[VI 6, VI n, .v (.string d)]]⟩, M21]
abbrev M186 : LS := [(12, VI 6), (11, .ref 9 3 0 0), (10, .mp 10), (9, .fn 80 [.ref 8 1 0 0, .ref 9 3 0 0]), (8, .fn 79 [.ref 8 1 0 0, .ref 9 3 0 0]), (7, .fn 76 [.ref 8 1 0 0, .ref 9 3 0 0]), (6, .fn 74 [.ref 8 1 0 0, .ref 9 3 0 0]), (5, .mp 10), (3, .ref 9 3 0 0), (2, .ref 8 1 0 0)]
abbrev M187 : LS := (13, .fn 74 [.ref 8 1 0 0, .ref 9 3 0 0]) :: M186
abbrev M188 : LS := (15, .fn 74 [.ref 8 1 0 0, .ref 9 3 0 0]) :: (M183 d n)
abbrev M189 : LS := (7, .fn 74 [.ref 8 1 0 0, .ref 9 3 0 0]) :: M18
abbrev M190 : LS := (23, .v (.string d)) :: (22, .ref 1 3 0 2) :: (18, .v (.bool false)) :: M189
abbrev M191 : LS := [(30, .v (.bool false)), (7, .fn 74 [.ref 8 1 0 0, .ref 9 3 0 0]), (6, .ref 7 5 0 0), (4, .ref 2 5 0 0)]
abbrev M192 : LS := (16, .fn 74 [.ref 8 1 0 0, .ref 9 3 0 0]) :: M191
abbrev M193 : LS := [(4, .agg [VI 6, VI n, .v (.string d)]), (3, .ref 7 5 0 0), (0, .ref 8 1 0 0), (1, .ref 9 3 0 0)]
abbrev M194 : LB := [(M0 s), some ⟨3, [[VI 6, VI n, .v (.string d)]]⟩, some ⟨5, [[.emp, VI 0, .emp, .emp, .emp]]⟩, (M15 s), some ⟨5, (s.seats.map Seat.cs)⟩, some ⟨8, (s.bids.map Bid.cs)⟩, some ⟨6, (s.votes.map Vote.cs)⟩, (M15 s), some ⟨1, [[.ref 7 5 0 0]]⟩, some ⟨3, [[VI 6, VI n, .v (.string d)]]⟩, some ⟨3, [[VI 6, VI n, .v (.string d)]]⟩]
abbrev M195 : LS := [(30, .v (.string d)), (29, .ref 10 3 0 2), (28, VI n), (27, .ref 10 3 0 1), (26, VI (List.length s.bids : Int)), (25, .own 5 8 0 (List.length s.bids)), (24, .ref 7 5 0 3), (23, .ref 7 5 0 0), (22, .ref 7 5 0 0), (21, .ref 7 5 0 0), (20, .agg [.lst 1 (s.voters.weights.map cI), VI s.voters.need]), (19, .ref 7 5 0 0), (18, .ref 7 5 0 0), (17, .ref 7 5 0 0), (16, .ref 7 5 0 0), (14, .v (.bool false)), (3, .ref 10 3 0 0), (0, .ref 7 5 0 0)]
abbrev M196 : Bid := (beginP s.voters (List.length s.bids : Int) n d).1
abbrev M197 : AV := .agg [VI ((M196 d n s).time), VI ((M196 d n s).phase), .v (.string ((M196 d n s).own)), .v (.string ((M196 d n s).value)), VI ((((M196 d n s).best).at_).time), VI ((((M196 d n s).best).at_).who), .v (.string (((M196 d n s).best).data)), .v (.int .u64 ((M196 d n s).heard.n : Int))]
abbrev M198 : LS := (31, .tup [(M197 d n s), .lst 6 (((beginP s.voters (List.length s.bids : Int) n d).2.1).map Vote.cs), VI ((beginP s.voters (List.length s.bids : Int) n d).2.2)]) :: (M195 d n s)
abbrev M199 : OB := some ⟨8, [[VI ((M196 d n s).time), VI ((M196 d n s).phase), .v (.string ((M196 d n s).own)), .v (.string ((M196 d n s).value)), VI ((((M196 d n s).best).at_).time), VI ((((M196 d n s).best).at_).who), .v (.string (((M196 d n s).best).data)), .v (.int .u64 ((M196 d n s).heard.n : Int))]]⟩
abbrev M200 : LB := [(M0 s), some ⟨3, [[VI 6, VI n, .v (.string d)]]⟩, some ⟨5, [[.emp, VI 0, .emp, .emp, .emp]]⟩, (M15 s), some ⟨5, (s.seats.map Seat.cs)⟩, some ⟨8, (s.bids.map Bid.cs)⟩, some ⟨6, (s.votes.map Vote.cs)⟩, (M15 s), some ⟨1, [[.ref 7 5 0 0]]⟩, some ⟨3, [[VI 6, VI n, .v (.string d)]]⟩, some ⟨3, [[VI 6, VI n, .v (.string d)]]⟩, (M199 d n s)]
abbrev M201 : LS := [(7, VI ((beginP s.voters (List.length s.bids : Int) n d).2.2)), (6, .lst 6 (((beginP s.voters (List.length s.bids : Int) n d).2.1).map Vote.cs)), (5, .ref 11 8 0 0), (0, .ref 7 5 0 0)]
abbrev M202 : LS := (5, VI ((beginP s.voters (List.length s.bids : Int) n d).2.2)) :: (M193 d n)
abbrev M203 : LS := (17, VI ((beginP s.voters (List.length s.bids : Int) n d).2.2)) :: M192
abbrev M204 : LS := (8, VI ((beginP s.voters (List.length s.bids : Int) n d).2.2)) :: (M203 d n s)
abbrev M205 : LS := [(8, VI ((beginP s.voters (List.length s.bids : Int) n d).2.2)), (6, .ref 7 5 0 0), (4, .ref 2 5 0 0)]
abbrev M206 : LB := [(M0 s), some ⟨3, [[VI 6, VI n, .v (.string d)]]⟩, some ⟨5, [[.emp, VI 0, .emp, .emp, .emp]]⟩, (M15 s), some ⟨5, (s.seats.map Seat.cs)⟩, some ⟨8, (s.bids.map Bid.cs)⟩, some ⟨6, (s.votes.map Vote.cs)⟩, (M15 s), some ⟨1, [[.ref 7 5 0 0]]⟩, some ⟨3, [[VI 6, VI n, .v (.string d)]]⟩, some ⟨3, [[VI 6, VI n, .v (.string d)]]⟩, (M199 d n s), (M199 d n s)]
abbrev M207 : LS := (45, .own 12 8 0 1) :: (44, (M197 d n s)) :: (43, .own 5 8 0 (List.length s.bids)) :: (42, .ref 7 5 0 3) :: (41, .ref 7 5 0 0) :: (40, .ref 7 5 0 0) :: (39, .ref 7 5 0 0) :: (38, .ref 7 5 0 0) :: (36, .v (.bool false)) :: (M201 d n s)
abbrev M208 : LB := [(M0 s), some ⟨3, [[VI 6, VI n, .v (.string d)]]⟩, some ⟨5, [[.emp, VI 0, .emp, .emp, .emp]]⟩, (M15 s), some ⟨5, (s.seats.map Seat.cs)⟩, none, some ⟨6, (s.votes.map Vote.cs)⟩, (M15 s), some ⟨1, [[.ref 7 5 0 0]]⟩, some ⟨3, [[VI 6, VI n, .v (.string d)]]⟩, some ⟨3, [[VI 6, VI n, .v (.string d)]]⟩, (M199 d n s), (M199 d n s), some ⟨8, ((s.bids ++ ([(M196 d n s)])).map Bid.cs)⟩]
abbrev M209 : LS := (46, .own 13 8 0 (List.length (s.bids ++ ([(M196 d n s)])))) :: (M207 d n s)
abbrev M210 : OB := some ⟨5, [[.lst 1 (s.voters.weights.map cI), VI s.voters.need, .own 4 5 0 (List.length s.seats), .own 13 8 0 (List.length (s.bids ++ ([(M196 d n s)]))), .own 6 6 0 (List.length s.votes)]]⟩
abbrev M211 : LB := [(M0 s), some ⟨3, [[VI 6, VI n, .v (.string d)]]⟩, some ⟨5, [[.emp, VI 0, .emp, .emp, .emp]]⟩, (M15 s), some ⟨5, (s.seats.map Seat.cs)⟩, none, some ⟨6, (s.votes.map Vote.cs)⟩, (M210 d n s), some ⟨1, [[.ref 7 5 0 0]]⟩, some ⟨3, [[VI 6, VI n, .v (.string d)]]⟩, some ⟨3, [[VI 6, VI n, .v (.string d)]]⟩, (M199 d n s), (M199 d n s), some ⟨8, ((s.bids ++ ([(M196 d n s)])).map Bid.cs)⟩]
abbrev M212 : LS := [(51, .lst 6 (((beginP s.voters (List.length s.bids : Int) n d).2.1).map Vote.cs)), (50, .ref 7 5 0 0), (6, .lst 6 (((beginP s.voters (List.length s.bids : Int) n d).2.1).map Vote.cs)), (0, .ref 7 5 0 0)]
abbrev M213 : LS := [(11, .lst 6 (((beginP s.voters (List.length s.bids : Int) n d).2.1).map Vote.cs)), (10, .own 6 6 0 (List.length s.votes)), (9, .ref 7 5 0 4), (8, .ref 7 5 0 0), (7, .ref 7 5 0 0), (6, .ref 7 5 0 0), (5, .ref 7 5 0 0), (0, .ref 7 5 0 0), (1, .lst 6 (((beginP s.voters (List.length s.bids : Int) n d).2.1).map Vote.cs))]
abbrev M214 : OB := some ⟨6, ((s.votes ++ ((beginP s.voters (List.length s.bids : Int) n d).2.1)).map Vote.cs)⟩
abbrev M215 : LB := [(M0 s), some ⟨3, [[VI 6, VI n, .v (.string d)]]⟩, some ⟨5, [[.emp, VI 0, .emp, .emp, .emp]]⟩, (M15 s), some ⟨5, (s.seats.map Seat.cs)⟩, none, none, (M210 d n s), some ⟨1, [[.ref 7 5 0 0]]⟩, some ⟨3, [[VI 6, VI n, .v (.string d)]]⟩, some ⟨3, [[VI 6, VI n, .v (.string d)]]⟩, (M199 d n s), (M199 d n s), some ⟨8, ((s.bids ++ ([(M196 d n s)])).map Bid.cs)⟩, (M214 d n s)]
abbrev M216 : LS := (12, .own 14 6 0 (List.length (s.votes ++ ((beginP s.voters (List.length s.bids : Int) n d).2.1)))) :: (M213 d n s)
abbrev M217 : OB := some ⟨5, [[.lst 1 (s.voters.weights.map cI), VI s.voters.need, .own 4 5 0 (List.length s.seats), .own 13 8 0 (List.length (s.bids ++ ([(M196 d n s)]))), .own 14 6 0 (List.length (s.votes ++ ((beginP s.voters (List.length s.bids : Int) n d).2.1)))]]⟩
abbrev M218 : LB := [(M0 s), some ⟨3, [[VI 6, VI n, .v (.string d)]]⟩, some ⟨5, [[.emp, VI 0, .emp, .emp, .emp]]⟩, (M15 s), some ⟨5, (s.seats.map Seat.cs)⟩, none, none, (M217 d n s), some ⟨1, [[.ref 7 5 0 0]]⟩, some ⟨3, [[VI 6, VI n, .v (.string d)]]⟩, some ⟨3, [[VI 6, VI n, .v (.string d)]]⟩, (M199 d n s), (M199 d n s), some ⟨8, ((s.bids ++ ([(M196 d n s)])).map Bid.cs)⟩, (M214 d n s)]
abbrev M219 : OB := some ⟨5, [[.lst 1 (s.voters.weights.map cI), VI s.voters.need, .own 4 5 0 (List.length s.seats), .dead, .dead]]⟩
abbrev M220 : LB := [(M0 s), some ⟨3, [[VI 6, VI n, .v (.string d)]]⟩, some ⟨5, [[.emp, VI 0, .emp, .emp, .emp]]⟩, (M219 s), some ⟨5, (s.seats.map Seat.cs)⟩, none, none, (M217 d n s), some ⟨1, [[.ref 7 5 0 0]]⟩, some ⟨3, [[VI 6, VI n, .v (.string d)]]⟩, some ⟨3, [[VI 6, VI n, .v (.string d)]]⟩, (M199 d n s), (M199 d n s), some ⟨8, ((s.bids ++ ([(M196 d n s)])).map Bid.cs)⟩, (M214 d n s)]
abbrev M221 : OB := some ⟨5, [[.lst 1 (s.voters.weights.map cI), VI s.voters.need, .own 4 5 0 (List.length s.seats), .own 10 8 0 (List.length (s.bids ++ ([(M196 d n s)]))), .own 11 6 0 (List.length (s.votes ++ ((beginP s.voters (List.length s.bids : Int) n d).2.1)))]]⟩
abbrev M222 : LB := [(M0 s), some ⟨3, [[VI 6, VI n, .v (.string d)]]⟩, some ⟨5, [[.emp, VI 0, .emp, .emp, .emp]]⟩, (M219 s), some ⟨5, (s.seats.map Seat.cs)⟩, none, none, (M221 d n s), some ⟨1, [[.ref 7 5 0 0]]⟩, some ⟨3, [[VI 6, VI n, .v (.string d)]]⟩, some ⟨8, ((s.bids ++ ([(M196 d n s)])).map Bid.cs)⟩, (M214 d n s)]
abbrev M223 : LB := [(M0 s), some ⟨3, [[VI 6, VI n, .v (.string d)]]⟩, (M221 d n s), (M219 s), some ⟨5, (s.seats.map Seat.cs)⟩, none, none, (M221 d n s), some ⟨1, [[.ref 7 5 0 0]]⟩, some ⟨3, [[VI 6, VI n, .v (.string d)]]⟩, some ⟨8, ((s.bids ++ ([(M196 d n s)])).map Bid.cs)⟩, (M214 d n s)]
abbrev M224 : AV := .agg [.lst 1 (s.voters.weights.map cI), VI s.voters.need, .own 4 5 0 (List.length s.seats), .own 10 8 0 (List.length (s.bids ++ ([(M196 d n s)]))), .own 11 6 0 (List.length (s.votes ++ ((beginP s.voters (List.length s.bids : Int) n d).2.1)))]
abbrev M225 : AV := .agg [.lst 1 (s.voters.weights.map cI), VI s.voters.need, .lst 5 (s.seats.map Seat.cs), .lst 8 ((s.bids ++ ([(M196 d n s)])).map Bid.cs), .lst 6 ((s.votes ++ ((beginP s.voters (List.length s.bids : Int) n d).2.1)).map Vote.cs)]
end
theorem step6_fn (s : Synod) (n : Int) (d : ByteArray) (ok : s.Ok) : Fn Tryd.prog 28 [.agg [.lst 1 (s.voters.weights.map cI), VI s.voters.need, .lst 5 (s.seats.map Seat.cs), .lst 8 (s.bids.map Bid.cs), .lst 6 (s.votes.map Vote.cs)], .agg [VI 6, VI n, .v (.string d)]] (.tup [.agg [.lst 1 (((((s.stepP 6 n d).1).voters).weights).map cI), VI ((((s.stepP 6 n d).1).voters).need), .lst 5 ((((s.stepP 6 n d).1).seats).map Seat.cs), .lst 8 ((((s.stepP 6 n d).1).bids).map Bid.cs), .lst 6 ((((s.stepP 6 n d).1).votes).map Vote.cs)], VI ((s.stepP 6 n d).2)]) := by
  have q1 := qc_len ok.q
  have q2 := ok.len
  have q3 := ok.few
  have q4 := ok.many
  have vv := ok.vv
  have hx1 : s.voters.weights.length ≤ 9223372036854775807 := by omega
  refine fn_walkW F28_ok (of_decide_eq_true (by kernel_rfl)) ?_
  refine srl 4 [2, 3, 4] ⟨M2, (M175 d n s)⟩ ?_
  refine srr 1 ⟨(9, (M3 s)) :: M2, (M175 d n s)⟩ ?_
  refine OW.fi (ar := [(M3 s)]) (r := (M14 s)) (m' := (M181 d n s)) (x' := ⟨(10, (M14 s)) :: (9, (M3 s)) :: M2, (M181 d n s)⟩) (by kernel_rfl) (by kernel_rfl) F49_call ?_ (by kernel_rfl) ?_
  refine fi_walkW F49_ok (of_decide_eq_true (by kernel_rfl)) ?_
  refine srl 2 [1, 2] ⟨[(2, .ref 4 5 0 0), (1, .ref 3 5 0 0)], (M176 d n s)⟩ ?_
  refine sdr 3 ⟨(M5 s), (M176 d n s)⟩ ?_
  refine dwf [.lst 1 (s.voters.weights.map cI)] ⟨(6, .lst 1 (s.voters.weights.map cI)) :: (M5 s), (M176 d n s)⟩ F27_call (cloneI_fo s.voters.weights (by first | omega | exact qc_small (by assumption))) ?_
  refine dwr 6 ⟨(M6 s), (M176 d n s)⟩ ?_
  refine DW.fo (ar := [.lst 5 (s.seats.map Seat.cs)]) (fe := Seat.cs) (xs := s.seats) (x' := ⟨(13, .own 5 5 0 (List.length s.seats)) :: (M6 s), (M177 d n s)⟩) (by kernel_rfl) (by kernel_rfl) F68_call (cloneS_fo s.seats (by first | omega | exact qc_small (by assumption))) (by intro y; kernel_rfl) (by kernel_rfl) (by kernel_rfl) ?_
  refine dwr 2 ⟨(M8 s), (M177 d n s)⟩ ?_
  refine DW.fo (ar := [.lst 8 (s.bids.map Bid.cs)]) (fe := Bid.cs) (xs := s.bids) (x' := ⟨(16, .own 6 8 0 (List.length s.bids)) :: (M8 s), (M178 d n s)⟩) (by kernel_rfl) (by kernel_rfl) F69_call (cloneB_fo s.bids (by first | omega | exact qc_small (by assumption))) (by intro y; kernel_rfl) (by kernel_rfl) (by kernel_rfl) ?_
  refine dwr 2 ⟨(M10 s), (M178 d n s)⟩ ?_
  refine DW.fo (ar := [.lst 6 (s.votes.map Vote.cs)]) (fe := Vote.cs) (xs := s.votes) (x' := ⟨(19, .own 7 6 0 (List.length s.votes)) :: (M10 s), (M179 d n s)⟩) (by kernel_rfl) (by kernel_rfl) F70_call (cloneV_fo s.votes (by first | omega | exact qc_small (by assumption))) (by intro y; kernel_rfl) (by kernel_rfl) (by kernel_rfl) ?_
  refine dwl 2 [2] ⟨[(2, .ref 4 5 0 0)], (M180 d n s)⟩ ?_
  refine EL.ret ?_
  refine ⟨.inr rfl, ⟨[(2, .ref 3 5 0 0)], (M181 d n s)⟩, norm_le (live := [2]) (src := [.old 0 false, .old 1 false, .old 2 false, .old 4 false, .old 5 true, .old 6 true, .old 7 true]) (es := []) (by kernel_rfl) ⟨pq 5 Seat.cs s.seats, pq 8 Bid.cs s.bids, pq 6 Vote.cs s.votes, trivial⟩, by kernel_rfl, rfl⟩
  refine owl 3 [3, 4, 6] ⟨M18, (M182 d n s)⟩ ?_
  refine srr 2 ⟨(M183 d n), (M182 d n s)⟩ ?_
  refine OW.fi (ar := [.ref 7 5 0 0, .agg [VI 6, VI n, .v (.string d)]]) (r := .fn 74 [.ref 8 1 0 0, .ref 9 3 0 0]) (m' := (M184 d n s)) (x' := ⟨(M188 d n), (M184 d n s)⟩) (by kernel_rfl) (by kernel_rfl) F54_call ?_ (by kernel_rfl) ?_
  refine fi_walkW F54_ok (of_decide_eq_true (by kernel_rfl)) ?_
  refine srl 3 [2, 3] ⟨[(3, .ref 9 3 0 0), (2, .ref 8 1 0 0)], (M184 d n s)⟩ ?_
  refine srr 12 ⟨M186, (M185 d n s)⟩ ?_
  refine owo (.fn 74 [.ref 8 1 0 0, .ref 9 3 0 0]) [] [10] ⟨M187, (M185 d n s)⟩ (opE_mlk .int (.v (.nilFunc)) (.s 10) (.s 12) 10 [[VI 6, .fn 74 [.ref 8 1 0 0, .ref 9 3 0 0]], [VI 3, .fn 76 [.ref 8 1 0 0, .ref 9 3 0 0]], [VI 4, .fn 79 [.ref 8 1 0 0, .ref 9 3 0 0]], [VI 5, .fn 80 [.ref 8 1 0 0, .ref 9 3 0 0]]] (.int .i64 6) (some (.fn 74 [.ref 8 1 0 0, .ref 9 3 0 0])) (by kernel_rfl) (by kernel_rfl) (by kernel_rfl) (by kernel_rfl) (by kernel_rfl) (by kernel_rfl)) ?_
  refine owl 1 [4] ⟨[(4, .fn 74 [.ref 8 1 0 0, .ref 9 3 0 0])], (M185 d n s)⟩ ?_
  refine EL.ret ?_
  refine ⟨.inr rfl, ⟨[(4, .fn 74 [.ref 8 1 0 0, .ref 9 3 0 0])], (M184 d n s)⟩, norm_le (live := [4]) (src := [.old 0 false, .old 1 false, .old 2 false, .old 3 false, .old 4 true, .old 5 true, .old 6 true, .old 7 false, .old 8 false, .old 9 false]) (es := []) (by kernel_rfl) ⟨pq 5 Seat.cs s.seats, pq 8 Bid.cs s.bids, pq 6 Vote.cs s.votes, trivial⟩, by kernel_rfl, rfl⟩
  refine owl 1 [3, 4, 6, 7] ⟨M189, (M184 d n s)⟩ ?_
  refine srl 1 [3, 4, 6, 7] ⟨M189, (M184 d n s)⟩ ?_
  refine EL.seq ?_
  refine EL.block ?_
  refine srl 3 [3, 4, 6, 7, 18] ⟨(18, .v (.bool false)) :: M189, (M184 d n s)⟩ ?_
  refine cnF ?_
  refine srr 4 ⟨(25, .v (.bool (!(strEq d (⟨#[]⟩))))) :: (24, .v (.bool (!(strEq d (⟨#[]⟩))))) :: (M190 d), (M184 d n s)⟩ ?_
  rcases Bool.eq_false_or_eq_true (strEq d (⟨#[]⟩)) with h1 | h1
  rw [h1]
  have g1 : (d = (⟨#[]⟩)) := strEq_iff.1 h1
  refine owl 5 [3, 4, 6, 7, 21] ⟨(21, .v (.bool false)) :: M189, (M184 d n s)⟩ ?_
  refine cnF ?_
  refine sdl 20 [4, 6, 7, 30] ⟨M191, (M184 d n s)⟩ ?_
  refine cnF ?_
  refine EL.reg0 ?_
  refine owr 1 ⟨M192, (M184 d n s)⟩ ?_
  rcases Bool.eq_false_or_eq_true (((List.length s.bids : Int) == 31)) with h2 | h2
  try rw [h2]
  have g2 : ((List.length s.bids : Int) = 31) := by simpa using h2
  have n2 : ((List.length s.bids) = 31) := by omega
  refine OW.fi (ar := [.ref 8 1 0 0, .ref 9 3 0 0]) (r := VI 2) (m' := (M184 d n s)) (x' := ⟨(17, VI 2) :: M192, (M184 d n s)⟩) (by kernel_rfl) (by kernel_rfl) F74_call ?_ (by kernel_rfl) ?_
  refine fi_walkW F74_ok (of_decide_eq_true (by kernel_rfl)) ?_
  refine srl 1 [0, 1] ⟨[(0, .ref 8 1 0 0), (1, .ref 9 3 0 0)], (M184 d n s)⟩ ?_
  refine srr 2 ⟨(M193 d n), (M184 d n s)⟩ ?_
  refine OW.fi (ar := [.ref 7 5 0 0, .agg [VI 6, VI n, .v (.string d)]]) (r := VI 2) (m' := (M184 d n s)) (x' := ⟨(5, VI 2) :: (M193 d n), (M184 d n s)⟩) (by kernel_rfl) (by kernel_rfl) F75_call ?_ (by kernel_rfl) ?_
  refine fi_walkW F75_ok (of_decide_eq_true (by kernel_rfl)) ?_
  refine srl 2 [0, 3] ⟨[(3, .ref 10 3 0 0), (0, .ref 7 5 0 0)], (M194 d n s)⟩ ?_
  refine EL.seq ?_
  refine srl 7 [0, 3, 14] ⟨[(14, .v (.bool ((List.length s.bids : Int) == 31))), (3, .ref 10 3 0 0), (0, .ref 7 5 0 0)], (M194 d n s)⟩ ?_
  rw [h2]
  refine cnT ?_
  refine srl 1 [4] ⟨[(4, VI 2)], (M194 d n s)⟩ ?_
  refine rtr ?_
  refine ⟨.inr rfl, ⟨[(4, VI 2)], (M184 d n s)⟩, norm_le (live := [4]) (src := [.old 0 false, .old 1 false, .old 2 false, .old 3 false, .old 4 true, .old 5 true, .old 6 true, .old 7 false, .old 8 false, .old 9 false]) (es := []) (by kernel_rfl) ⟨pq 5 Seat.cs s.seats, pq 8 Bid.cs s.bids, pq 6 Vote.cs s.votes, trivial⟩, by kernel_rfl, rfl⟩
  refine owl 1 [2] ⟨[(2, VI 2)], (M184 d n s)⟩ ?_
  refine EL.ret ?_
  refine ⟨.inr rfl, ⟨[(2, VI 2)], (M184 d n s)⟩, norm_le (live := [2]) (src := [.old 0 false, .old 1 false, .old 2 false, .old 3 false, .old 4 true, .old 5 true, .old 6 true, .old 7 false, .old 8 false, .old 9 false]) (es := []) (by kernel_rfl) ⟨pq 5 Seat.cs s.seats, pq 8 Bid.cs s.bids, pq 6 Vote.cs s.votes, trivial⟩, by kernel_rfl, rfl⟩
  refine owe 1 ⟨(8, VI 2) :: (17, VI 2) :: M192, (M184 d n s)⟩ ?_
  refine inBlk_norm ?_
  refine thenL_norm ?_
  refine EL.seq ?_
  refine srl 2 [4, 6, 8, 51] ⟨M101, (M184 d n s)⟩ ?_
  refine cnT ?_
  refine srl 4 [4, 5] ⟨[(5, VI 2), (4, .ref 2 5 0 0)], (M184 d n s)⟩ ?_
  refine rtr ?_
  refine ⟨.inr rfl, .tup [.agg [.emp, VI 0, .emp, .emp, .emp], VI 2], by kernel_rfl, Ale.trans (b := .tup [.agg [.lst 1 [], VI 0, .lst 5 [], .lst 8 [], .lst 6 []], VI 2]) (Ale.tup (.cons (Ale.agg (.cons (Ale.emp) (.cons (Ale.refl) (.cons (Ale.emp) (.cons (Ale.emp) (.cons (Ale.emp) (.nil))))))) (.cons (Ale.refl) (.nil)))) (Ale.of_eq ?_)⟩
  rotate_left
  try rw [h2]
  have g2 : ¬ ((List.length s.bids : Int) = 31) := by simpa using h2
  have n2 : ¬ ((List.length s.bids) = 31) := by omega
  rcases Bool.eq_false_or_eq_true ((((beginP s.voters (List.length s.bids : Int) n d).2.2) != 0)) with h3 | h3
  try rw [h3]
  have g3 : ¬ (((beginP s.voters (List.length s.bids : Int) n d).2.2) = 0) := by simpa using h3
  refine OW.fi (ar := [.ref 8 1 0 0, .ref 9 3 0 0]) (r := VI ((beginP s.voters (List.length s.bids : Int) n d).2.2)) (m' := (M184 d n s)) (x' := ⟨(M203 d n s), (M184 d n s)⟩) (by kernel_rfl) (by kernel_rfl) F74_call ?_ (by kernel_rfl) ?_
  refine fi_walkW F74_ok (of_decide_eq_true (by kernel_rfl)) ?_
  refine srl 1 [0, 1] ⟨[(0, .ref 8 1 0 0), (1, .ref 9 3 0 0)], (M184 d n s)⟩ ?_
  refine srr 2 ⟨(M193 d n), (M184 d n s)⟩ ?_
  refine OW.fi (ar := [.ref 7 5 0 0, .agg [VI 6, VI n, .v (.string d)]]) (r := VI ((beginP s.voters (List.length s.bids : Int) n d).2.2)) (m' := (M184 d n s)) (x' := ⟨(M202 d n s), (M184 d n s)⟩) (by kernel_rfl) (by kernel_rfl) F75_call ?_ (by kernel_rfl) ?_
  refine fi_walkW F75_ok (of_decide_eq_true (by kernel_rfl)) ?_
  refine srl 2 [0, 3] ⟨[(3, .ref 10 3 0 0), (0, .ref 7 5 0 0)], (M194 d n s)⟩ ?_
  refine EL.seq ?_
  refine srl 7 [0, 3, 14] ⟨[(14, .v (.bool ((List.length s.bids : Int) == 31))), (3, .ref 10 3 0 0), (0, .ref 7 5 0 0)], (M194 d n s)⟩ ?_
  rw [h2]
  refine cnF ?_
  refine skn ?_
  refine sdr 15 ⟨(M195 d n s), (M194 d n s)⟩ ?_
  refine dwf [.agg [.lst 1 (s.voters.weights.map cI), VI s.voters.need], VI (List.length s.bids : Int), VI n, .v (.string d)] ⟨(M198 d n s), (M194 d n s)⟩ F84_call (begin_fn s.voters (List.length s.bids : Int) n d hx1) ?_
  refine dwl 8 [0, 5, 6, 7] ⟨(M201 d n s), (M200 d n s)⟩ ?_
  refine EL.seq ?_
  refine srl 2 [0, 5, 6, 7, 36] ⟨(36, .v (.bool (((beginP s.voters (List.length s.bids : Int) n d).2.2) != 0))) :: (M201 d n s), (M200 d n s)⟩ ?_
  rw [h3]
  refine cnT ?_
  refine srl 2 [4] ⟨[(4, VI ((beginP s.voters (List.length s.bids : Int) n d).2.2))], (M200 d n s)⟩ ?_
  refine rtr ?_
  refine ⟨.inr rfl, ⟨[(4, VI ((beginP s.voters (List.length s.bids : Int) n d).2.2))], (M184 d n s)⟩, norm_le (live := [4]) (src := [.old 0 false, .old 1 false, .old 2 false, .old 3 false, .old 4 true, .old 5 true, .old 6 true, .old 7 false, .old 8 false, .old 9 false]) (es := []) (by kernel_rfl) ⟨pq 5 Seat.cs s.seats, pq 8 Bid.cs s.bids, pq 6 Vote.cs s.votes, trivial⟩, by kernel_rfl, rfl⟩
  refine owl 1 [2] ⟨[(2, VI ((beginP s.voters (List.length s.bids : Int) n d).2.2))], (M184 d n s)⟩ ?_
  refine EL.ret ?_
  refine ⟨.inr rfl, ⟨[(2, VI ((beginP s.voters (List.length s.bids : Int) n d).2.2))], (M184 d n s)⟩, norm_le (live := [2]) (src := [.old 0 false, .old 1 false, .old 2 false, .old 3 false, .old 4 true, .old 5 true, .old 6 true, .old 7 false, .old 8 false, .old 9 false]) (es := []) (by kernel_rfl) ⟨pq 5 Seat.cs s.seats, pq 8 Bid.cs s.bids, pq 6 Vote.cs s.votes, trivial⟩, by kernel_rfl, rfl⟩
  refine owe 1 ⟨(M204 d n s), (M184 d n s)⟩ ?_
  refine inBlk_norm ?_
  refine thenL_norm ?_
  refine EL.seq ?_
  refine srl 2 [4, 6, 8, 51] ⟨(51, .v (.bool (((beginP s.voters (List.length s.bids : Int) n d).2.2) != 0))) :: (M205 d n s), (M184 d n s)⟩ ?_
  rw [h3]
  refine cnT ?_
  refine srl 4 [4, 5] ⟨[(5, VI ((beginP s.voters (List.length s.bids : Int) n d).2.2)), (4, .ref 2 5 0 0)], (M184 d n s)⟩ ?_
  refine rtr ?_
  refine ⟨.inr rfl, .tup [.agg [.emp, VI 0, .emp, .emp, .emp], VI ((beginP s.voters (List.length s.bids : Int) n d).2.2)], by kernel_rfl, Ale.trans (b := .tup [.agg [.lst 1 [], VI 0, .lst 5 [], .lst 8 [], .lst 6 []], VI ((beginP s.voters (List.length s.bids : Int) n d).2.2)]) (Ale.tup (.cons (Ale.agg (.cons (Ale.emp) (.cons (Ale.refl) (.cons (Ale.emp) (.cons (Ale.emp) (.cons (Ale.emp) (.nil))))))) (.cons (Ale.refl) (.nil)))) (Ale.of_eq ?_)⟩
  rotate_left
  try rw [h3]
  have g3 : (((beginP s.voters (List.length s.bids : Int) n d).2.2) = 0) := by simpa using h3
  rcases Bool.eq_false_or_eq_true (decide ((List.length (s.votes ++ ((beginP s.voters (List.length s.bids : Int) n d).2.1)) : Int) > 200)) with h4 | h4
  try rw [h4]
  have g4 := of_decide_eq_true h4
  refine OW.fi (ar := [.ref 8 1 0 0, .ref 9 3 0 0]) (r := VI 2) (m' := (M222 d n s)) (x' := ⟨(17, VI 2) :: M192, (M222 d n s)⟩) (by kernel_rfl) (by kernel_rfl) F74_call ?_ (by kernel_rfl) ?_
  refine fi_walkW F74_ok (of_decide_eq_true (by kernel_rfl)) ?_
  refine srl 1 [0, 1] ⟨[(0, .ref 8 1 0 0), (1, .ref 9 3 0 0)], (M184 d n s)⟩ ?_
  refine srr 2 ⟨(M193 d n), (M184 d n s)⟩ ?_
  refine OW.fi (ar := [.ref 7 5 0 0, .agg [VI 6, VI n, .v (.string d)]]) (r := VI 2) (m' := (M222 d n s)) (x' := ⟨(5, VI 2) :: (M193 d n), (M222 d n s)⟩) (by kernel_rfl) (by kernel_rfl) F75_call ?_ (by kernel_rfl) ?_
  refine fi_walkW F75_ok (of_decide_eq_true (by kernel_rfl)) ?_
  refine srl 2 [0, 3] ⟨[(3, .ref 10 3 0 0), (0, .ref 7 5 0 0)], (M194 d n s)⟩ ?_
  refine EL.seq ?_
  refine srl 7 [0, 3, 14] ⟨[(14, .v (.bool ((List.length s.bids : Int) == 31))), (3, .ref 10 3 0 0), (0, .ref 7 5 0 0)], (M194 d n s)⟩ ?_
  rw [h2]
  refine cnF ?_
  refine skn ?_
  refine sdr 15 ⟨(M195 d n s), (M194 d n s)⟩ ?_
  refine dwf [.agg [.lst 1 (s.voters.weights.map cI), VI s.voters.need], VI (List.length s.bids : Int), VI n, .v (.string d)] ⟨(M198 d n s), (M194 d n s)⟩ F84_call (begin_fn s.voters (List.length s.bids : Int) n d hx1) ?_
  refine dwl 8 [0, 5, 6, 7] ⟨(M201 d n s), (M200 d n s)⟩ ?_
  refine EL.seq ?_
  refine srl 2 [0, 5, 6, 7, 36] ⟨(36, .v (.bool (((beginP s.voters (List.length s.bids : Int) n d).2.2) != 0))) :: (M201 d n s), (M200 d n s)⟩ ?_
  rw [h3]
  refine cnF ?_
  refine skn ?_
  refine sdr 8 ⟨(M207 d n s), (M206 d n s)⟩ ?_
  refine dwo (.own 13 8 0 (List.length (s.bids ++ ([(M196 d n s)])))) [(5, none), (13, some ⟨8, ((s.bids ++ ([(M196 d n s)])).map Bid.cs)⟩)] [12, 5] ⟨(M209 d n s), (M208 d n s)⟩ (opE_appO Bid.cs s.bids ([(M196 d n s)]) (.s 43) (.s 45) 8 88 5 (.own 12 8 0 1) _ (by kernel_rfl) (by kernel_rfl) rfl (by kernel_rfl) rfl (.own (els := [[VI ((M196 d n s).time), VI ((M196 d n s).phase), .v (.string ((M196 d n s).own)), .v (.string ((M196 d n s).value)), VI ((((M196 d n s).best).at_).time), VI ((((M196 d n s).best).at_).who), .v (.string (((M196 d n s).best).data)), .v (.int .u64 ((M196 d n s).heard.n : Int))]]) (by kernel_rfl) (by kernel_rfl) (of_decide_eq_true (by kernel_rfl))) (by first | (simp; omega) | omega | exact app_le (by first | exact q4 | exact ers_le q4 | omega) (by first | exact begin_len _ _ _ _ | exact Nat.le_trans (serve_len _ _) (by decide) | exact hear_len _ _ _ _ | (simp; done)) (by decide))) ?_
  refine dwl 4 [0, 6] ⟨[(6, .lst 6 (((beginP s.voters (List.length s.bids : Int) n d).2.1).map Vote.cs)), (0, .ref 7 5 0 0)], (M211 d n s)⟩ ?_
  refine srr 2 ⟨(M212 d n s), (M211 d n s)⟩ ?_
  refine OW.fi (ar := [.ref 7 5 0 0, .lst 6 (((beginP s.voters (List.length s.bids : Int) n d).2.1).map Vote.cs)]) (r := VI 2) (m' := (M220 d n s)) (x' := ⟨(52, VI 2) :: (M212 d n s), (M220 d n s)⟩) (by kernel_rfl) (by kernel_rfl) F81_call ?_ (by kernel_rfl) ?_
  refine fi_walkW F81_ok (of_decide_eq_true (by kernel_rfl)) ?_
  refine srl 1 [0, 1] ⟨[(0, .ref 7 5 0 0), (1, .lst 6 (((beginP s.voters (List.length s.bids : Int) n d).2.1).map Vote.cs))], (M211 d n s)⟩ ?_
  refine srr 7 ⟨(M213 d n s), (M211 d n s)⟩ ?_
  refine owo (.own 14 6 0 (List.length (s.votes ++ ((beginP s.voters (List.length s.bids : Int) n d).2.1)))) [(6, none), (14, some ⟨6, ((s.votes ++ ((beginP s.voters (List.length s.bids : Int) n d).2.1)).map Vote.cs)⟩)] [6] ⟨(M216 d n s), (M215 d n s)⟩ (opE_appO Vote.cs s.votes ((beginP s.voters (List.length s.bids : Int) n d).2.1) (.s 10) (.s 11) 6 56 6 (.lst 6 (((beginP s.voters (List.length s.bids : Int) n d).2.1).map Vote.cs)) _ (by kernel_rfl) (by kernel_rfl) rfl (by kernel_rfl) rfl .lst (by first | (simp; omega) | omega | exact app_le (by first | exact q4 | exact ers_le q4 | omega) (by first | exact begin_len _ _ _ _ | exact Nat.le_trans (serve_len _ _) (by decide) | exact hear_len _ _ _ _ | (simp; done)) (by decide))) ?_
  refine owl 4 [0] ⟨[(0, .ref 7 5 0 0)], (M218 d n s)⟩ ?_
  refine EL.seq ?_
  refine srl 7 [22] ⟨[(22, .v (.bool (decide ((List.length (s.votes ++ ((beginP s.voters (List.length s.bids : Int) n d).2.1)) : Int) > 200))))], (M218 d n s)⟩ ?_
  rw [h4]
  refine cnT ?_
  refine srl 1 [4] ⟨[(4, VI 2)], (M218 d n s)⟩ ?_
  refine rtr ?_
  refine ⟨.inr rfl, ⟨[(4, VI 2)], (M220 d n s)⟩, norm_le (live := [4]) (src := [.old 0 false, .old 1 false, .old 2 false, .old 3 false, .old 4 true, .old 5 false, .old 6 false, .old 7 false, .old 8 false, .old 9 false, .old 10 false, .old 11 false, .old 12 false, .old 13 true, .old 14 true]) (es := []) (by kernel_rfl) ⟨pq 5 Seat.cs s.seats, pq 8 Bid.cs (s.bids ++ ([(M196 d n s)])), pq 6 Vote.cs (s.votes ++ ((beginP s.voters (List.length s.bids : Int) n d).2.1)), trivial⟩, by kernel_rfl, rfl⟩
  refine owl 1 [4] ⟨[(4, VI 2)], (M220 d n s)⟩ ?_
  refine EL.ret ?_
  refine ⟨.inr rfl, ⟨[(4, VI 2)], (M222 d n s)⟩, norm_le (live := [4]) (src := [.old 0 false, .old 1 false, .old 2 false, .old 3 false, .old 4 true, .old 5 false, .old 6 false, .old 7 false, .old 8 false, .old 9 false, .old 13 true, .old 14 true]) (es := []) (by kernel_rfl) ⟨pq 5 Seat.cs s.seats, pq 8 Bid.cs (s.bids ++ ([(M196 d n s)])), pq 6 Vote.cs (s.votes ++ ((beginP s.voters (List.length s.bids : Int) n d).2.1)), trivial⟩, by kernel_rfl, rfl⟩
  refine owl 1 [2] ⟨[(2, VI 2)], (M222 d n s)⟩ ?_
  refine EL.ret ?_
  refine ⟨.inr rfl, ⟨[(2, VI 2)], (M222 d n s)⟩, norm_le (live := [2]) (src := [.old 0 false, .old 1 false, .old 2 false, .old 3 false, .old 4 true, .old 5 false, .old 6 false, .old 7 false, .old 8 false, .old 9 false, .old 10 true, .old 11 true]) (es := []) (by kernel_rfl) ⟨pq 5 Seat.cs s.seats, pq 8 Bid.cs (s.bids ++ ([(M196 d n s)])), pq 6 Vote.cs (s.votes ++ ((beginP s.voters (List.length s.bids : Int) n d).2.1)), trivial⟩, by kernel_rfl, rfl⟩
  refine owe 1 ⟨(8, VI 2) :: (17, VI 2) :: M192, (M222 d n s)⟩ ?_
  refine inBlk_norm ?_
  refine thenL_norm ?_
  refine EL.seq ?_
  refine srl 2 [4, 6, 8, 51] ⟨M101, (M222 d n s)⟩ ?_
  refine cnT ?_
  refine srl 4 [4, 5] ⟨[(5, VI 2), (4, .ref 2 5 0 0)], (M222 d n s)⟩ ?_
  refine rtr ?_
  refine ⟨.inr rfl, .tup [.agg [.emp, VI 0, .emp, .emp, .emp], VI 2], by kernel_rfl, Ale.trans (b := .tup [.agg [.lst 1 [], VI 0, .lst 5 [], .lst 8 [], .lst 6 []], VI 2]) (Ale.tup (.cons (Ale.agg (.cons (Ale.emp) (.cons (Ale.refl) (.cons (Ale.emp) (.cons (Ale.emp) (.cons (Ale.emp) (.nil))))))) (.cons (Ale.refl) (.nil)))) (Ale.of_eq ?_)⟩
  rotate_left
  try rw [h4]
  have g4 := of_decide_eq_false h4
  refine OW.fi (ar := [.ref 8 1 0 0, .ref 9 3 0 0]) (r := VI 0) (m' := (M222 d n s)) (x' := ⟨(17, VI 0) :: M192, (M222 d n s)⟩) (by kernel_rfl) (by kernel_rfl) F74_call ?_ (by kernel_rfl) ?_
  refine fi_walkW F74_ok (of_decide_eq_true (by kernel_rfl)) ?_
  refine srl 1 [0, 1] ⟨[(0, .ref 8 1 0 0), (1, .ref 9 3 0 0)], (M184 d n s)⟩ ?_
  refine srr 2 ⟨(M193 d n), (M184 d n s)⟩ ?_
  refine OW.fi (ar := [.ref 7 5 0 0, .agg [VI 6, VI n, .v (.string d)]]) (r := VI 0) (m' := (M222 d n s)) (x' := ⟨(5, VI 0) :: (M193 d n), (M222 d n s)⟩) (by kernel_rfl) (by kernel_rfl) F75_call ?_ (by kernel_rfl) ?_
  refine fi_walkW F75_ok (of_decide_eq_true (by kernel_rfl)) ?_
  refine srl 2 [0, 3] ⟨[(3, .ref 10 3 0 0), (0, .ref 7 5 0 0)], (M194 d n s)⟩ ?_
  refine EL.seq ?_
  refine srl 7 [0, 3, 14] ⟨[(14, .v (.bool ((List.length s.bids : Int) == 31))), (3, .ref 10 3 0 0), (0, .ref 7 5 0 0)], (M194 d n s)⟩ ?_
  rw [h2]
  refine cnF ?_
  refine skn ?_
  refine sdr 15 ⟨(M195 d n s), (M194 d n s)⟩ ?_
  refine dwf [.agg [.lst 1 (s.voters.weights.map cI), VI s.voters.need], VI (List.length s.bids : Int), VI n, .v (.string d)] ⟨(M198 d n s), (M194 d n s)⟩ F84_call (begin_fn s.voters (List.length s.bids : Int) n d hx1) ?_
  refine dwl 8 [0, 5, 6, 7] ⟨(M201 d n s), (M200 d n s)⟩ ?_
  refine EL.seq ?_
  refine srl 2 [0, 5, 6, 7, 36] ⟨(36, .v (.bool (((beginP s.voters (List.length s.bids : Int) n d).2.2) != 0))) :: (M201 d n s), (M200 d n s)⟩ ?_
  rw [h3]
  refine cnF ?_
  refine skn ?_
  refine sdr 8 ⟨(M207 d n s), (M206 d n s)⟩ ?_
  refine dwo (.own 13 8 0 (List.length (s.bids ++ ([(M196 d n s)])))) [(5, none), (13, some ⟨8, ((s.bids ++ ([(M196 d n s)])).map Bid.cs)⟩)] [12, 5] ⟨(M209 d n s), (M208 d n s)⟩ (opE_appO Bid.cs s.bids ([(M196 d n s)]) (.s 43) (.s 45) 8 88 5 (.own 12 8 0 1) _ (by kernel_rfl) (by kernel_rfl) rfl (by kernel_rfl) rfl (.own (els := [[VI ((M196 d n s).time), VI ((M196 d n s).phase), .v (.string ((M196 d n s).own)), .v (.string ((M196 d n s).value)), VI ((((M196 d n s).best).at_).time), VI ((((M196 d n s).best).at_).who), .v (.string (((M196 d n s).best).data)), .v (.int .u64 ((M196 d n s).heard.n : Int))]]) (by kernel_rfl) (by kernel_rfl) (of_decide_eq_true (by kernel_rfl))) (by first | (simp; omega) | omega | exact app_le (by first | exact q4 | exact ers_le q4 | omega) (by first | exact begin_len _ _ _ _ | exact Nat.le_trans (serve_len _ _) (by decide) | exact hear_len _ _ _ _ | (simp; done)) (by decide))) ?_
  refine dwl 4 [0, 6] ⟨[(6, .lst 6 (((beginP s.voters (List.length s.bids : Int) n d).2.1).map Vote.cs)), (0, .ref 7 5 0 0)], (M211 d n s)⟩ ?_
  refine srr 2 ⟨(M212 d n s), (M211 d n s)⟩ ?_
  refine OW.fi (ar := [.ref 7 5 0 0, .lst 6 (((beginP s.voters (List.length s.bids : Int) n d).2.1).map Vote.cs)]) (r := VI 0) (m' := (M220 d n s)) (x' := ⟨(52, VI 0) :: (M212 d n s), (M220 d n s)⟩) (by kernel_rfl) (by kernel_rfl) F81_call ?_ (by kernel_rfl) ?_
  refine fi_walkW F81_ok (of_decide_eq_true (by kernel_rfl)) ?_
  refine srl 1 [0, 1] ⟨[(0, .ref 7 5 0 0), (1, .lst 6 (((beginP s.voters (List.length s.bids : Int) n d).2.1).map Vote.cs))], (M211 d n s)⟩ ?_
  refine srr 7 ⟨(M213 d n s), (M211 d n s)⟩ ?_
  refine owo (.own 14 6 0 (List.length (s.votes ++ ((beginP s.voters (List.length s.bids : Int) n d).2.1)))) [(6, none), (14, some ⟨6, ((s.votes ++ ((beginP s.voters (List.length s.bids : Int) n d).2.1)).map Vote.cs)⟩)] [6] ⟨(M216 d n s), (M215 d n s)⟩ (opE_appO Vote.cs s.votes ((beginP s.voters (List.length s.bids : Int) n d).2.1) (.s 10) (.s 11) 6 56 6 (.lst 6 (((beginP s.voters (List.length s.bids : Int) n d).2.1).map Vote.cs)) _ (by kernel_rfl) (by kernel_rfl) rfl (by kernel_rfl) rfl .lst (by first | (simp; omega) | omega | exact app_le (by first | exact q4 | exact ers_le q4 | omega) (by first | exact begin_len _ _ _ _ | exact Nat.le_trans (serve_len _ _) (by decide) | exact hear_len _ _ _ _ | (simp; done)) (by decide))) ?_
  refine owl 4 [0] ⟨[(0, .ref 7 5 0 0)], (M218 d n s)⟩ ?_
  refine EL.seq ?_
  refine srl 7 [22] ⟨[(22, .v (.bool (decide ((List.length (s.votes ++ ((beginP s.voters (List.length s.bids : Int) n d).2.1)) : Int) > 200))))], (M218 d n s)⟩ ?_
  rw [h4]
  refine cnF ?_
  refine skn ?_
  refine srl 1 [4] ⟨[(4, VI 0)], (M218 d n s)⟩ ?_
  refine EL.ret ?_
  refine ⟨.inr rfl, ⟨[(4, VI 0)], (M220 d n s)⟩, norm_le (live := [4]) (src := [.old 0 false, .old 1 false, .old 2 false, .old 3 false, .old 4 true, .old 5 false, .old 6 false, .old 7 false, .old 8 false, .old 9 false, .old 10 false, .old 11 false, .old 12 false, .old 13 true, .old 14 true]) (es := []) (by kernel_rfl) ⟨pq 5 Seat.cs s.seats, pq 8 Bid.cs (s.bids ++ ([(M196 d n s)])), pq 6 Vote.cs (s.votes ++ ((beginP s.voters (List.length s.bids : Int) n d).2.1)), trivial⟩, by kernel_rfl, rfl⟩
  refine owl 1 [4] ⟨[(4, VI 0)], (M220 d n s)⟩ ?_
  refine EL.ret ?_
  refine ⟨.inr rfl, ⟨[(4, VI 0)], (M222 d n s)⟩, norm_le (live := [4]) (src := [.old 0 false, .old 1 false, .old 2 false, .old 3 false, .old 4 true, .old 5 false, .old 6 false, .old 7 false, .old 8 false, .old 9 false, .old 13 true, .old 14 true]) (es := []) (by kernel_rfl) ⟨pq 5 Seat.cs s.seats, pq 8 Bid.cs (s.bids ++ ([(M196 d n s)])), pq 6 Vote.cs (s.votes ++ ((beginP s.voters (List.length s.bids : Int) n d).2.1)), trivial⟩, by kernel_rfl, rfl⟩
  refine owl 1 [2] ⟨[(2, VI 0)], (M222 d n s)⟩ ?_
  refine EL.ret ?_
  refine ⟨.inr rfl, ⟨[(2, VI 0)], (M222 d n s)⟩, norm_le (live := [2]) (src := [.old 0 false, .old 1 false, .old 2 false, .old 3 false, .old 4 true, .old 5 false, .old 6 false, .old 7 false, .old 8 false, .old 9 false, .old 10 true, .old 11 true]) (es := []) (by kernel_rfl) ⟨pq 5 Seat.cs s.seats, pq 8 Bid.cs (s.bids ++ ([(M196 d n s)])), pq 6 Vote.cs (s.votes ++ ((beginP s.voters (List.length s.bids : Int) n d).2.1)), trivial⟩, by kernel_rfl, rfl⟩
  refine owe 1 ⟨(8, VI 0) :: (17, VI 0) :: M192, (M222 d n s)⟩ ?_
  refine inBlk_norm ?_
  refine thenL_norm ?_
  refine EL.seq ?_
  refine srl 2 [4, 6, 8, 51] ⟨M102, (M222 d n s)⟩ ?_
  refine cnF ?_
  refine skn ?_
  refine srl 6 [4, 5] ⟨[(5, VI 0), (4, .ref 2 5 0 0)], (M223 d n s)⟩ ?_
  refine EL.ret ?_
  refine ⟨.inr rfl, .tup [(M225 d n s), VI 0], run_snap (r0 := .tup [(M224 d n s), VI 0]) (by kernel_rfl) (snapR_tup (snapAs_cons (snapA_agg (snapL_cons (by kernel_rfl) (snapL_cons (by kernel_rfl) (snapL_cons (smp Seat.cs s.seats) (snapL_cons (smp Bid.cs (s.bids ++ ([(M196 d n s)]))) (snapL_cons (smp Vote.cs (s.votes ++ ((beginP s.voters (List.length s.bids : Int) n d).2.1))) (rfl))))))) (snapAs_cons (by kernel_rfl) (snapAs_nil)))), Ale.of_eq ?_⟩
  rotate_left
  rw [h1]
  have g1 : ¬ (d = (⟨#[]⟩)) := fun hh => Bool.noConfusion ((strEq_iff.2 hh).symm.trans h1)
  refine owl 5 [3, 4, 6, 7, 21] ⟨(21, .v (.bool false)) :: M189, (M184 d n s)⟩ ?_
  refine cnF ?_
  refine sdl 20 [4, 6, 7, 30] ⟨M191, (M184 d n s)⟩ ?_
  refine cnF ?_
  refine EL.reg0 ?_
  refine owr 1 ⟨M192, (M184 d n s)⟩ ?_
  rcases Bool.eq_false_or_eq_true (((List.length s.bids : Int) == 31)) with h5 | h5
  try rw [h5]
  have g5 : ((List.length s.bids : Int) = 31) := by simpa using h5
  have n5 : ((List.length s.bids) = 31) := by omega
  refine OW.fi (ar := [.ref 8 1 0 0, .ref 9 3 0 0]) (r := VI 2) (m' := (M184 d n s)) (x' := ⟨(17, VI 2) :: M192, (M184 d n s)⟩) (by kernel_rfl) (by kernel_rfl) F74_call ?_ (by kernel_rfl) ?_
  refine fi_walkW F74_ok (of_decide_eq_true (by kernel_rfl)) ?_
  refine srl 1 [0, 1] ⟨[(0, .ref 8 1 0 0), (1, .ref 9 3 0 0)], (M184 d n s)⟩ ?_
  refine srr 2 ⟨(M193 d n), (M184 d n s)⟩ ?_
  refine OW.fi (ar := [.ref 7 5 0 0, .agg [VI 6, VI n, .v (.string d)]]) (r := VI 2) (m' := (M184 d n s)) (x' := ⟨(5, VI 2) :: (M193 d n), (M184 d n s)⟩) (by kernel_rfl) (by kernel_rfl) F75_call ?_ (by kernel_rfl) ?_
  refine fi_walkW F75_ok (of_decide_eq_true (by kernel_rfl)) ?_
  refine srl 2 [0, 3] ⟨[(3, .ref 10 3 0 0), (0, .ref 7 5 0 0)], (M194 d n s)⟩ ?_
  refine EL.seq ?_
  refine srl 7 [0, 3, 14] ⟨[(14, .v (.bool ((List.length s.bids : Int) == 31))), (3, .ref 10 3 0 0), (0, .ref 7 5 0 0)], (M194 d n s)⟩ ?_
  rw [h5]
  refine cnT ?_
  refine srl 1 [4] ⟨[(4, VI 2)], (M194 d n s)⟩ ?_
  refine rtr ?_
  refine ⟨.inr rfl, ⟨[(4, VI 2)], (M184 d n s)⟩, norm_le (live := [4]) (src := [.old 0 false, .old 1 false, .old 2 false, .old 3 false, .old 4 true, .old 5 true, .old 6 true, .old 7 false, .old 8 false, .old 9 false]) (es := []) (by kernel_rfl) ⟨pq 5 Seat.cs s.seats, pq 8 Bid.cs s.bids, pq 6 Vote.cs s.votes, trivial⟩, by kernel_rfl, rfl⟩
  refine owl 1 [2] ⟨[(2, VI 2)], (M184 d n s)⟩ ?_
  refine EL.ret ?_
  refine ⟨.inr rfl, ⟨[(2, VI 2)], (M184 d n s)⟩, norm_le (live := [2]) (src := [.old 0 false, .old 1 false, .old 2 false, .old 3 false, .old 4 true, .old 5 true, .old 6 true, .old 7 false, .old 8 false, .old 9 false]) (es := []) (by kernel_rfl) ⟨pq 5 Seat.cs s.seats, pq 8 Bid.cs s.bids, pq 6 Vote.cs s.votes, trivial⟩, by kernel_rfl, rfl⟩
  refine owe 1 ⟨(8, VI 2) :: (17, VI 2) :: M192, (M184 d n s)⟩ ?_
  refine inBlk_norm ?_
  refine thenL_norm ?_
  refine EL.seq ?_
  refine srl 2 [4, 6, 8, 51] ⟨M101, (M184 d n s)⟩ ?_
  refine cnT ?_
  refine srl 4 [4, 5] ⟨[(5, VI 2), (4, .ref 2 5 0 0)], (M184 d n s)⟩ ?_
  refine rtr ?_
  refine ⟨.inr rfl, .tup [.agg [.emp, VI 0, .emp, .emp, .emp], VI 2], by kernel_rfl, Ale.trans (b := .tup [.agg [.lst 1 [], VI 0, .lst 5 [], .lst 8 [], .lst 6 []], VI 2]) (Ale.tup (.cons (Ale.agg (.cons (Ale.emp) (.cons (Ale.refl) (.cons (Ale.emp) (.cons (Ale.emp) (.cons (Ale.emp) (.nil))))))) (.cons (Ale.refl) (.nil)))) (Ale.of_eq ?_)⟩
  rotate_left
  try rw [h5]
  have g5 : ¬ ((List.length s.bids : Int) = 31) := by simpa using h5
  have n5 : ¬ ((List.length s.bids) = 31) := by omega
  rcases Bool.eq_false_or_eq_true ((((beginP s.voters (List.length s.bids : Int) n d).2.2) != 0)) with h6 | h6
  try rw [h6]
  have g6 : ¬ (((beginP s.voters (List.length s.bids : Int) n d).2.2) = 0) := by simpa using h6
  refine OW.fi (ar := [.ref 8 1 0 0, .ref 9 3 0 0]) (r := VI ((beginP s.voters (List.length s.bids : Int) n d).2.2)) (m' := (M184 d n s)) (x' := ⟨(M203 d n s), (M184 d n s)⟩) (by kernel_rfl) (by kernel_rfl) F74_call ?_ (by kernel_rfl) ?_
  refine fi_walkW F74_ok (of_decide_eq_true (by kernel_rfl)) ?_
  refine srl 1 [0, 1] ⟨[(0, .ref 8 1 0 0), (1, .ref 9 3 0 0)], (M184 d n s)⟩ ?_
  refine srr 2 ⟨(M193 d n), (M184 d n s)⟩ ?_
  refine OW.fi (ar := [.ref 7 5 0 0, .agg [VI 6, VI n, .v (.string d)]]) (r := VI ((beginP s.voters (List.length s.bids : Int) n d).2.2)) (m' := (M184 d n s)) (x' := ⟨(M202 d n s), (M184 d n s)⟩) (by kernel_rfl) (by kernel_rfl) F75_call ?_ (by kernel_rfl) ?_
  refine fi_walkW F75_ok (of_decide_eq_true (by kernel_rfl)) ?_
  refine srl 2 [0, 3] ⟨[(3, .ref 10 3 0 0), (0, .ref 7 5 0 0)], (M194 d n s)⟩ ?_
  refine EL.seq ?_
  refine srl 7 [0, 3, 14] ⟨[(14, .v (.bool ((List.length s.bids : Int) == 31))), (3, .ref 10 3 0 0), (0, .ref 7 5 0 0)], (M194 d n s)⟩ ?_
  rw [h5]
  refine cnF ?_
  refine skn ?_
  refine sdr 15 ⟨(M195 d n s), (M194 d n s)⟩ ?_
  refine dwf [.agg [.lst 1 (s.voters.weights.map cI), VI s.voters.need], VI (List.length s.bids : Int), VI n, .v (.string d)] ⟨(M198 d n s), (M194 d n s)⟩ F84_call (begin_fn s.voters (List.length s.bids : Int) n d hx1) ?_
  refine dwl 8 [0, 5, 6, 7] ⟨(M201 d n s), (M200 d n s)⟩ ?_
  refine EL.seq ?_
  refine srl 2 [0, 5, 6, 7, 36] ⟨(36, .v (.bool (((beginP s.voters (List.length s.bids : Int) n d).2.2) != 0))) :: (M201 d n s), (M200 d n s)⟩ ?_
  rw [h6]
  refine cnT ?_
  refine srl 2 [4] ⟨[(4, VI ((beginP s.voters (List.length s.bids : Int) n d).2.2))], (M200 d n s)⟩ ?_
  refine rtr ?_
  refine ⟨.inr rfl, ⟨[(4, VI ((beginP s.voters (List.length s.bids : Int) n d).2.2))], (M184 d n s)⟩, norm_le (live := [4]) (src := [.old 0 false, .old 1 false, .old 2 false, .old 3 false, .old 4 true, .old 5 true, .old 6 true, .old 7 false, .old 8 false, .old 9 false]) (es := []) (by kernel_rfl) ⟨pq 5 Seat.cs s.seats, pq 8 Bid.cs s.bids, pq 6 Vote.cs s.votes, trivial⟩, by kernel_rfl, rfl⟩
  refine owl 1 [2] ⟨[(2, VI ((beginP s.voters (List.length s.bids : Int) n d).2.2))], (M184 d n s)⟩ ?_
  refine EL.ret ?_
  refine ⟨.inr rfl, ⟨[(2, VI ((beginP s.voters (List.length s.bids : Int) n d).2.2))], (M184 d n s)⟩, norm_le (live := [2]) (src := [.old 0 false, .old 1 false, .old 2 false, .old 3 false, .old 4 true, .old 5 true, .old 6 true, .old 7 false, .old 8 false, .old 9 false]) (es := []) (by kernel_rfl) ⟨pq 5 Seat.cs s.seats, pq 8 Bid.cs s.bids, pq 6 Vote.cs s.votes, trivial⟩, by kernel_rfl, rfl⟩
  refine owe 1 ⟨(M204 d n s), (M184 d n s)⟩ ?_
  refine inBlk_norm ?_
  refine thenL_norm ?_
  refine EL.seq ?_
  refine srl 2 [4, 6, 8, 51] ⟨(51, .v (.bool (((beginP s.voters (List.length s.bids : Int) n d).2.2) != 0))) :: (M205 d n s), (M184 d n s)⟩ ?_
  rw [h6]
  refine cnT ?_
  refine srl 4 [4, 5] ⟨[(5, VI ((beginP s.voters (List.length s.bids : Int) n d).2.2)), (4, .ref 2 5 0 0)], (M184 d n s)⟩ ?_
  refine rtr ?_
  refine ⟨.inr rfl, .tup [.agg [.emp, VI 0, .emp, .emp, .emp], VI ((beginP s.voters (List.length s.bids : Int) n d).2.2)], by kernel_rfl, Ale.trans (b := .tup [.agg [.lst 1 [], VI 0, .lst 5 [], .lst 8 [], .lst 6 []], VI ((beginP s.voters (List.length s.bids : Int) n d).2.2)]) (Ale.tup (.cons (Ale.agg (.cons (Ale.emp) (.cons (Ale.refl) (.cons (Ale.emp) (.cons (Ale.emp) (.cons (Ale.emp) (.nil))))))) (.cons (Ale.refl) (.nil)))) (Ale.of_eq ?_)⟩
  rotate_left
  try rw [h6]
  have g6 : (((beginP s.voters (List.length s.bids : Int) n d).2.2) = 0) := by simpa using h6
  rcases Bool.eq_false_or_eq_true (decide ((List.length (s.votes ++ ((beginP s.voters (List.length s.bids : Int) n d).2.1)) : Int) > 200)) with h7 | h7
  try rw [h7]
  have g7 := of_decide_eq_true h7
  refine OW.fi (ar := [.ref 8 1 0 0, .ref 9 3 0 0]) (r := VI 2) (m' := (M222 d n s)) (x' := ⟨(17, VI 2) :: M192, (M222 d n s)⟩) (by kernel_rfl) (by kernel_rfl) F74_call ?_ (by kernel_rfl) ?_
  refine fi_walkW F74_ok (of_decide_eq_true (by kernel_rfl)) ?_
  refine srl 1 [0, 1] ⟨[(0, .ref 8 1 0 0), (1, .ref 9 3 0 0)], (M184 d n s)⟩ ?_
  refine srr 2 ⟨(M193 d n), (M184 d n s)⟩ ?_
  refine OW.fi (ar := [.ref 7 5 0 0, .agg [VI 6, VI n, .v (.string d)]]) (r := VI 2) (m' := (M222 d n s)) (x' := ⟨(5, VI 2) :: (M193 d n), (M222 d n s)⟩) (by kernel_rfl) (by kernel_rfl) F75_call ?_ (by kernel_rfl) ?_
  refine fi_walkW F75_ok (of_decide_eq_true (by kernel_rfl)) ?_
  refine srl 2 [0, 3] ⟨[(3, .ref 10 3 0 0), (0, .ref 7 5 0 0)], (M194 d n s)⟩ ?_
  refine EL.seq ?_
  refine srl 7 [0, 3, 14] ⟨[(14, .v (.bool ((List.length s.bids : Int) == 31))), (3, .ref 10 3 0 0), (0, .ref 7 5 0 0)], (M194 d n s)⟩ ?_
  rw [h5]
  refine cnF ?_
  refine skn ?_
  refine sdr 15 ⟨(M195 d n s), (M194 d n s)⟩ ?_
  refine dwf [.agg [.lst 1 (s.voters.weights.map cI), VI s.voters.need], VI (List.length s.bids : Int), VI n, .v (.string d)] ⟨(M198 d n s), (M194 d n s)⟩ F84_call (begin_fn s.voters (List.length s.bids : Int) n d hx1) ?_
  refine dwl 8 [0, 5, 6, 7] ⟨(M201 d n s), (M200 d n s)⟩ ?_
  refine EL.seq ?_
  refine srl 2 [0, 5, 6, 7, 36] ⟨(36, .v (.bool (((beginP s.voters (List.length s.bids : Int) n d).2.2) != 0))) :: (M201 d n s), (M200 d n s)⟩ ?_
  rw [h6]
  refine cnF ?_
  refine skn ?_
  refine sdr 8 ⟨(M207 d n s), (M206 d n s)⟩ ?_
  refine dwo (.own 13 8 0 (List.length (s.bids ++ ([(M196 d n s)])))) [(5, none), (13, some ⟨8, ((s.bids ++ ([(M196 d n s)])).map Bid.cs)⟩)] [12, 5] ⟨(M209 d n s), (M208 d n s)⟩ (opE_appO Bid.cs s.bids ([(M196 d n s)]) (.s 43) (.s 45) 8 88 5 (.own 12 8 0 1) _ (by kernel_rfl) (by kernel_rfl) rfl (by kernel_rfl) rfl (.own (els := [[VI ((M196 d n s).time), VI ((M196 d n s).phase), .v (.string ((M196 d n s).own)), .v (.string ((M196 d n s).value)), VI ((((M196 d n s).best).at_).time), VI ((((M196 d n s).best).at_).who), .v (.string (((M196 d n s).best).data)), .v (.int .u64 ((M196 d n s).heard.n : Int))]]) (by kernel_rfl) (by kernel_rfl) (of_decide_eq_true (by kernel_rfl))) (by first | (simp; omega) | omega | exact app_le (by first | exact q4 | exact ers_le q4 | omega) (by first | exact begin_len _ _ _ _ | exact Nat.le_trans (serve_len _ _) (by decide) | exact hear_len _ _ _ _ | (simp; done)) (by decide))) ?_
  refine dwl 4 [0, 6] ⟨[(6, .lst 6 (((beginP s.voters (List.length s.bids : Int) n d).2.1).map Vote.cs)), (0, .ref 7 5 0 0)], (M211 d n s)⟩ ?_
  refine srr 2 ⟨(M212 d n s), (M211 d n s)⟩ ?_
  refine OW.fi (ar := [.ref 7 5 0 0, .lst 6 (((beginP s.voters (List.length s.bids : Int) n d).2.1).map Vote.cs)]) (r := VI 2) (m' := (M220 d n s)) (x' := ⟨(52, VI 2) :: (M212 d n s), (M220 d n s)⟩) (by kernel_rfl) (by kernel_rfl) F81_call ?_ (by kernel_rfl) ?_
  refine fi_walkW F81_ok (of_decide_eq_true (by kernel_rfl)) ?_
  refine srl 1 [0, 1] ⟨[(0, .ref 7 5 0 0), (1, .lst 6 (((beginP s.voters (List.length s.bids : Int) n d).2.1).map Vote.cs))], (M211 d n s)⟩ ?_
  refine srr 7 ⟨(M213 d n s), (M211 d n s)⟩ ?_
  refine owo (.own 14 6 0 (List.length (s.votes ++ ((beginP s.voters (List.length s.bids : Int) n d).2.1)))) [(6, none), (14, some ⟨6, ((s.votes ++ ((beginP s.voters (List.length s.bids : Int) n d).2.1)).map Vote.cs)⟩)] [6] ⟨(M216 d n s), (M215 d n s)⟩ (opE_appO Vote.cs s.votes ((beginP s.voters (List.length s.bids : Int) n d).2.1) (.s 10) (.s 11) 6 56 6 (.lst 6 (((beginP s.voters (List.length s.bids : Int) n d).2.1).map Vote.cs)) _ (by kernel_rfl) (by kernel_rfl) rfl (by kernel_rfl) rfl .lst (by first | (simp; omega) | omega | exact app_le (by first | exact q4 | exact ers_le q4 | omega) (by first | exact begin_len _ _ _ _ | exact Nat.le_trans (serve_len _ _) (by decide) | exact hear_len _ _ _ _ | (simp; done)) (by decide))) ?_
  refine owl 4 [0] ⟨[(0, .ref 7 5 0 0)], (M218 d n s)⟩ ?_
  refine EL.seq ?_
  refine srl 7 [22] ⟨[(22, .v (.bool (decide ((List.length (s.votes ++ ((beginP s.voters (List.length s.bids : Int) n d).2.1)) : Int) > 200))))], (M218 d n s)⟩ ?_
  rw [h7]
  refine cnT ?_
  refine srl 1 [4] ⟨[(4, VI 2)], (M218 d n s)⟩ ?_
  refine rtr ?_
  refine ⟨.inr rfl, ⟨[(4, VI 2)], (M220 d n s)⟩, norm_le (live := [4]) (src := [.old 0 false, .old 1 false, .old 2 false, .old 3 false, .old 4 true, .old 5 false, .old 6 false, .old 7 false, .old 8 false, .old 9 false, .old 10 false, .old 11 false, .old 12 false, .old 13 true, .old 14 true]) (es := []) (by kernel_rfl) ⟨pq 5 Seat.cs s.seats, pq 8 Bid.cs (s.bids ++ ([(M196 d n s)])), pq 6 Vote.cs (s.votes ++ ((beginP s.voters (List.length s.bids : Int) n d).2.1)), trivial⟩, by kernel_rfl, rfl⟩
  refine owl 1 [4] ⟨[(4, VI 2)], (M220 d n s)⟩ ?_
  refine EL.ret ?_
  refine ⟨.inr rfl, ⟨[(4, VI 2)], (M222 d n s)⟩, norm_le (live := [4]) (src := [.old 0 false, .old 1 false, .old 2 false, .old 3 false, .old 4 true, .old 5 false, .old 6 false, .old 7 false, .old 8 false, .old 9 false, .old 13 true, .old 14 true]) (es := []) (by kernel_rfl) ⟨pq 5 Seat.cs s.seats, pq 8 Bid.cs (s.bids ++ ([(M196 d n s)])), pq 6 Vote.cs (s.votes ++ ((beginP s.voters (List.length s.bids : Int) n d).2.1)), trivial⟩, by kernel_rfl, rfl⟩
  refine owl 1 [2] ⟨[(2, VI 2)], (M222 d n s)⟩ ?_
  refine EL.ret ?_
  refine ⟨.inr rfl, ⟨[(2, VI 2)], (M222 d n s)⟩, norm_le (live := [2]) (src := [.old 0 false, .old 1 false, .old 2 false, .old 3 false, .old 4 true, .old 5 false, .old 6 false, .old 7 false, .old 8 false, .old 9 false, .old 10 true, .old 11 true]) (es := []) (by kernel_rfl) ⟨pq 5 Seat.cs s.seats, pq 8 Bid.cs (s.bids ++ ([(M196 d n s)])), pq 6 Vote.cs (s.votes ++ ((beginP s.voters (List.length s.bids : Int) n d).2.1)), trivial⟩, by kernel_rfl, rfl⟩
  refine owe 1 ⟨(8, VI 2) :: (17, VI 2) :: M192, (M222 d n s)⟩ ?_
  refine inBlk_norm ?_
  refine thenL_norm ?_
  refine EL.seq ?_
  refine srl 2 [4, 6, 8, 51] ⟨M101, (M222 d n s)⟩ ?_
  refine cnT ?_
  refine srl 4 [4, 5] ⟨[(5, VI 2), (4, .ref 2 5 0 0)], (M222 d n s)⟩ ?_
  refine rtr ?_
  refine ⟨.inr rfl, .tup [.agg [.emp, VI 0, .emp, .emp, .emp], VI 2], by kernel_rfl, Ale.trans (b := .tup [.agg [.lst 1 [], VI 0, .lst 5 [], .lst 8 [], .lst 6 []], VI 2]) (Ale.tup (.cons (Ale.agg (.cons (Ale.emp) (.cons (Ale.refl) (.cons (Ale.emp) (.cons (Ale.emp) (.cons (Ale.emp) (.nil))))))) (.cons (Ale.refl) (.nil)))) (Ale.of_eq ?_)⟩
  rotate_left
  try rw [h7]
  have g7 := of_decide_eq_false h7
  refine OW.fi (ar := [.ref 8 1 0 0, .ref 9 3 0 0]) (r := VI 0) (m' := (M222 d n s)) (x' := ⟨(17, VI 0) :: M192, (M222 d n s)⟩) (by kernel_rfl) (by kernel_rfl) F74_call ?_ (by kernel_rfl) ?_
  refine fi_walkW F74_ok (of_decide_eq_true (by kernel_rfl)) ?_
  refine srl 1 [0, 1] ⟨[(0, .ref 8 1 0 0), (1, .ref 9 3 0 0)], (M184 d n s)⟩ ?_
  refine srr 2 ⟨(M193 d n), (M184 d n s)⟩ ?_
  refine OW.fi (ar := [.ref 7 5 0 0, .agg [VI 6, VI n, .v (.string d)]]) (r := VI 0) (m' := (M222 d n s)) (x' := ⟨(5, VI 0) :: (M193 d n), (M222 d n s)⟩) (by kernel_rfl) (by kernel_rfl) F75_call ?_ (by kernel_rfl) ?_
  refine fi_walkW F75_ok (of_decide_eq_true (by kernel_rfl)) ?_
  refine srl 2 [0, 3] ⟨[(3, .ref 10 3 0 0), (0, .ref 7 5 0 0)], (M194 d n s)⟩ ?_
  refine EL.seq ?_
  refine srl 7 [0, 3, 14] ⟨[(14, .v (.bool ((List.length s.bids : Int) == 31))), (3, .ref 10 3 0 0), (0, .ref 7 5 0 0)], (M194 d n s)⟩ ?_
  rw [h5]
  refine cnF ?_
  refine skn ?_
  refine sdr 15 ⟨(M195 d n s), (M194 d n s)⟩ ?_
  refine dwf [.agg [.lst 1 (s.voters.weights.map cI), VI s.voters.need], VI (List.length s.bids : Int), VI n, .v (.string d)] ⟨(M198 d n s), (M194 d n s)⟩ F84_call (begin_fn s.voters (List.length s.bids : Int) n d hx1) ?_
  refine dwl 8 [0, 5, 6, 7] ⟨(M201 d n s), (M200 d n s)⟩ ?_
  refine EL.seq ?_
  refine srl 2 [0, 5, 6, 7, 36] ⟨(36, .v (.bool (((beginP s.voters (List.length s.bids : Int) n d).2.2) != 0))) :: (M201 d n s), (M200 d n s)⟩ ?_
  rw [h6]
  refine cnF ?_
  refine skn ?_
  refine sdr 8 ⟨(M207 d n s), (M206 d n s)⟩ ?_
  refine dwo (.own 13 8 0 (List.length (s.bids ++ ([(M196 d n s)])))) [(5, none), (13, some ⟨8, ((s.bids ++ ([(M196 d n s)])).map Bid.cs)⟩)] [12, 5] ⟨(M209 d n s), (M208 d n s)⟩ (opE_appO Bid.cs s.bids ([(M196 d n s)]) (.s 43) (.s 45) 8 88 5 (.own 12 8 0 1) _ (by kernel_rfl) (by kernel_rfl) rfl (by kernel_rfl) rfl (.own (els := [[VI ((M196 d n s).time), VI ((M196 d n s).phase), .v (.string ((M196 d n s).own)), .v (.string ((M196 d n s).value)), VI ((((M196 d n s).best).at_).time), VI ((((M196 d n s).best).at_).who), .v (.string (((M196 d n s).best).data)), .v (.int .u64 ((M196 d n s).heard.n : Int))]]) (by kernel_rfl) (by kernel_rfl) (of_decide_eq_true (by kernel_rfl))) (by first | (simp; omega) | omega | exact app_le (by first | exact q4 | exact ers_le q4 | omega) (by first | exact begin_len _ _ _ _ | exact Nat.le_trans (serve_len _ _) (by decide) | exact hear_len _ _ _ _ | (simp; done)) (by decide))) ?_
  refine dwl 4 [0, 6] ⟨[(6, .lst 6 (((beginP s.voters (List.length s.bids : Int) n d).2.1).map Vote.cs)), (0, .ref 7 5 0 0)], (M211 d n s)⟩ ?_
  refine srr 2 ⟨(M212 d n s), (M211 d n s)⟩ ?_
  refine OW.fi (ar := [.ref 7 5 0 0, .lst 6 (((beginP s.voters (List.length s.bids : Int) n d).2.1).map Vote.cs)]) (r := VI 0) (m' := (M220 d n s)) (x' := ⟨(52, VI 0) :: (M212 d n s), (M220 d n s)⟩) (by kernel_rfl) (by kernel_rfl) F81_call ?_ (by kernel_rfl) ?_
  refine fi_walkW F81_ok (of_decide_eq_true (by kernel_rfl)) ?_
  refine srl 1 [0, 1] ⟨[(0, .ref 7 5 0 0), (1, .lst 6 (((beginP s.voters (List.length s.bids : Int) n d).2.1).map Vote.cs))], (M211 d n s)⟩ ?_
  refine srr 7 ⟨(M213 d n s), (M211 d n s)⟩ ?_
  refine owo (.own 14 6 0 (List.length (s.votes ++ ((beginP s.voters (List.length s.bids : Int) n d).2.1)))) [(6, none), (14, some ⟨6, ((s.votes ++ ((beginP s.voters (List.length s.bids : Int) n d).2.1)).map Vote.cs)⟩)] [6] ⟨(M216 d n s), (M215 d n s)⟩ (opE_appO Vote.cs s.votes ((beginP s.voters (List.length s.bids : Int) n d).2.1) (.s 10) (.s 11) 6 56 6 (.lst 6 (((beginP s.voters (List.length s.bids : Int) n d).2.1).map Vote.cs)) _ (by kernel_rfl) (by kernel_rfl) rfl (by kernel_rfl) rfl .lst (by first | (simp; omega) | omega | exact app_le (by first | exact q4 | exact ers_le q4 | omega) (by first | exact begin_len _ _ _ _ | exact Nat.le_trans (serve_len _ _) (by decide) | exact hear_len _ _ _ _ | (simp; done)) (by decide))) ?_
  refine owl 4 [0] ⟨[(0, .ref 7 5 0 0)], (M218 d n s)⟩ ?_
  refine EL.seq ?_
  refine srl 7 [22] ⟨[(22, .v (.bool (decide ((List.length (s.votes ++ ((beginP s.voters (List.length s.bids : Int) n d).2.1)) : Int) > 200))))], (M218 d n s)⟩ ?_
  rw [h7]
  refine cnF ?_
  refine skn ?_
  refine srl 1 [4] ⟨[(4, VI 0)], (M218 d n s)⟩ ?_
  refine EL.ret ?_
  refine ⟨.inr rfl, ⟨[(4, VI 0)], (M220 d n s)⟩, norm_le (live := [4]) (src := [.old 0 false, .old 1 false, .old 2 false, .old 3 false, .old 4 true, .old 5 false, .old 6 false, .old 7 false, .old 8 false, .old 9 false, .old 10 false, .old 11 false, .old 12 false, .old 13 true, .old 14 true]) (es := []) (by kernel_rfl) ⟨pq 5 Seat.cs s.seats, pq 8 Bid.cs (s.bids ++ ([(M196 d n s)])), pq 6 Vote.cs (s.votes ++ ((beginP s.voters (List.length s.bids : Int) n d).2.1)), trivial⟩, by kernel_rfl, rfl⟩
  refine owl 1 [4] ⟨[(4, VI 0)], (M220 d n s)⟩ ?_
  refine EL.ret ?_
  refine ⟨.inr rfl, ⟨[(4, VI 0)], (M222 d n s)⟩, norm_le (live := [4]) (src := [.old 0 false, .old 1 false, .old 2 false, .old 3 false, .old 4 true, .old 5 false, .old 6 false, .old 7 false, .old 8 false, .old 9 false, .old 13 true, .old 14 true]) (es := []) (by kernel_rfl) ⟨pq 5 Seat.cs s.seats, pq 8 Bid.cs (s.bids ++ ([(M196 d n s)])), pq 6 Vote.cs (s.votes ++ ((beginP s.voters (List.length s.bids : Int) n d).2.1)), trivial⟩, by kernel_rfl, rfl⟩
  refine owl 1 [2] ⟨[(2, VI 0)], (M222 d n s)⟩ ?_
  refine EL.ret ?_
  refine ⟨.inr rfl, ⟨[(2, VI 0)], (M222 d n s)⟩, norm_le (live := [2]) (src := [.old 0 false, .old 1 false, .old 2 false, .old 3 false, .old 4 true, .old 5 false, .old 6 false, .old 7 false, .old 8 false, .old 9 false, .old 10 true, .old 11 true]) (es := []) (by kernel_rfl) ⟨pq 5 Seat.cs s.seats, pq 8 Bid.cs (s.bids ++ ([(M196 d n s)])), pq 6 Vote.cs (s.votes ++ ((beginP s.voters (List.length s.bids : Int) n d).2.1)), trivial⟩, by kernel_rfl, rfl⟩
  refine owe 1 ⟨(8, VI 0) :: (17, VI 0) :: M192, (M222 d n s)⟩ ?_
  refine inBlk_norm ?_
  refine thenL_norm ?_
  refine EL.seq ?_
  refine srl 2 [4, 6, 8, 51] ⟨M102, (M222 d n s)⟩ ?_
  refine cnF ?_
  refine skn ?_
  refine srl 6 [4, 5] ⟨[(5, VI 0), (4, .ref 2 5 0 0)], (M223 d n s)⟩ ?_
  refine EL.ret ?_
  refine ⟨.inr rfl, .tup [(M225 d n s), VI 0], run_snap (r0 := .tup [(M224 d n s), VI 0]) (by kernel_rfl) (snapR_tup (snapAs_cons (snapA_agg (snapL_cons (by kernel_rfl) (snapL_cons (by kernel_rfl) (snapL_cons (smp Seat.cs s.seats) (snapL_cons (smp Bid.cs (s.bids ++ ([(M196 d n s)]))) (snapL_cons (smp Vote.cs (s.votes ++ ((beginP s.voters (List.length s.bids : Int) n d).2.1))) (rfl))))))) (snapAs_cons (by kernel_rfl) (snapAs_nil)))), Ale.of_eq ?_⟩
  rotate_left
  all_goals (first | (rw [Synod.step_6m (by omega)]; rfl) | (rw [Synod.step_6e (by omega) (by assumption)]; rfl) | (rw [Synod.step_6 (by omega) (by assumption)]; first | (rw [Synod.many_0] <;> first | rfl | (dsimp only; omega)) | (rw [Synod.many_2] <;> first | rfl | (dsimp only; omega))))
section
variable (s : Synod) (x : Step)
abbrev M226 : LB := [(M0 s), some ⟨3, [[VI x.kind, VI x.n, .v (.string x.data)]]⟩, some ⟨5, [[.emp, VI 0, .emp, .emp, .emp]]⟩]
abbrev M227 : LB := [(M0 s), some ⟨3, [[VI x.kind, VI x.n, .v (.string x.data)]]⟩, some ⟨5, [[.emp, VI 0, .emp, .emp, .emp]]⟩, (M0 s), some ⟨5, [[.emp, VI 0, .emp, .emp, .emp]]⟩]
abbrev M228 : LB := [(M0 s), some ⟨3, [[VI x.kind, VI x.n, .v (.string x.data)]]⟩, some ⟨5, [[.emp, VI 0, .emp, .emp, .emp]]⟩, (M0 s), some ⟨5, [[.emp, VI 0, .emp, .emp, .emp]]⟩, some ⟨5, (s.seats.map Seat.cs)⟩]
abbrev M229 : LB := [(M0 s), some ⟨3, [[VI x.kind, VI x.n, .v (.string x.data)]]⟩, some ⟨5, [[.emp, VI 0, .emp, .emp, .emp]]⟩, (M0 s), some ⟨5, [[.emp, VI 0, .emp, .emp, .emp]]⟩, some ⟨5, (s.seats.map Seat.cs)⟩, some ⟨8, (s.bids.map Bid.cs)⟩]
abbrev M230 : LB := [(M0 s), some ⟨3, [[VI x.kind, VI x.n, .v (.string x.data)]]⟩, some ⟨5, [[.emp, VI 0, .emp, .emp, .emp]]⟩, (M0 s), some ⟨5, [[.emp, VI 0, .emp, .emp, .emp]]⟩, some ⟨5, (s.seats.map Seat.cs)⟩, some ⟨8, (s.bids.map Bid.cs)⟩, some ⟨6, (s.votes.map Vote.cs)⟩]
abbrev M231 : LB := [(M0 s), some ⟨3, [[VI x.kind, VI x.n, .v (.string x.data)]]⟩, some ⟨5, [[.emp, VI 0, .emp, .emp, .emp]]⟩, (M0 s), (M12 s), some ⟨5, (s.seats.map Seat.cs)⟩, some ⟨8, (s.bids.map Bid.cs)⟩, some ⟨6, (s.votes.map Vote.cs)⟩]
abbrev M232 : LB := [(M0 s), some ⟨3, [[VI x.kind, VI x.n, .v (.string x.data)]]⟩, some ⟨5, [[.emp, VI 0, .emp, .emp, .emp]]⟩, (M15 s), some ⟨5, (s.seats.map Seat.cs)⟩, some ⟨8, (s.bids.map Bid.cs)⟩, some ⟨6, (s.votes.map Vote.cs)⟩]
abbrev M233 : LB := [(M0 s), some ⟨3, [[VI x.kind, VI x.n, .v (.string x.data)]]⟩, some ⟨5, [[.emp, VI 0, .emp, .emp, .emp]]⟩, (M15 s), some ⟨5, (s.seats.map Seat.cs)⟩, some ⟨8, (s.bids.map Bid.cs)⟩, some ⟨6, (s.votes.map Vote.cs)⟩, (M15 s)]
abbrev M234 : LS := (14, .agg [VI x.kind, VI x.n, .v (.string x.data)]) :: (13, .ref 7 5 0 0) :: M18
abbrev M235 : LB := [(M0 s), some ⟨3, [[VI x.kind, VI x.n, .v (.string x.data)]]⟩, some ⟨5, [[.emp, VI 0, .emp, .emp, .emp]]⟩, (M15 s), some ⟨5, (s.seats.map Seat.cs)⟩, some ⟨8, (s.bids.map Bid.cs)⟩, some ⟨6, (s.votes.map Vote.cs)⟩, (M15 s), some ⟨1, [[.ref 7 5 0 0]]⟩, some ⟨3, [[VI x.kind, VI x.n, .v (.string x.data)]]⟩]
abbrev M236 : LB := [(M0 s), some ⟨3, [[VI x.kind, VI x.n, .v (.string x.data)]]⟩, some ⟨5, [[.emp, VI 0, .emp, .emp, .emp]]⟩, (M15 s), some ⟨5, (s.seats.map Seat.cs)⟩, some ⟨8, (s.bids.map Bid.cs)⟩, some ⟨6, (s.votes.map Vote.cs)⟩, (M15 s), some ⟨1, [[.ref 7 5 0 0]]⟩, some ⟨3, [[VI x.kind, VI x.n, .v (.string x.data)]]⟩, M21]
abbrev M237 : LS := [(12, VI x.kind), (11, .ref 9 3 0 0), (10, .mp 10), (9, .fn 80 [.ref 8 1 0 0, .ref 9 3 0 0]), (8, .fn 79 [.ref 8 1 0 0, .ref 9 3 0 0]), (7, .fn 76 [.ref 8 1 0 0, .ref 9 3 0 0]), (6, .fn 74 [.ref 8 1 0 0, .ref 9 3 0 0]), (5, .mp 10), (3, .ref 9 3 0 0), (2, .ref 8 1 0 0)]
abbrev M238 : LS := (8, VI 7) :: (18, .v (.bool true)) :: (7, .v (.nilFunc)) :: M18
abbrev M239 : LS := [(51, .v (.bool true)), (8, VI 7), (6, .ref 7 5 0 0), (4, .ref 2 5 0 0)]
end
theorem step0_fn (s : Synod) (x : Step) (ok : s.Ok) (hk : ¬ (3 ≤ x.kind ∧ x.kind ≤ 6)) : Fn Tryd.prog 28 [.agg [.lst 1 (s.voters.weights.map cI), VI s.voters.need, .lst 5 (s.seats.map Seat.cs), .lst 8 (s.bids.map Bid.cs), .lst 6 (s.votes.map Vote.cs)], .agg [VI x.kind, VI x.n, .v (.string x.data)]] (.tup [.agg [.lst 1 (((((s.stepP x.kind x.n x.data).1).voters).weights).map cI), VI ((((s.stepP x.kind x.n x.data).1).voters).need), .lst 5 ((((s.stepP x.kind x.n x.data).1).seats).map Seat.cs), .lst 8 ((((s.stepP x.kind x.n x.data).1).bids).map Bid.cs), .lst 6 ((((s.stepP x.kind x.n x.data).1).votes).map Vote.cs)], VI ((s.stepP x.kind x.n x.data).2)]) := by
  have q1 := qc_len ok.q
  have q2 := ok.len
  have q3 := ok.few
  have q4 := ok.many
  have vv := ok.vv
  have hx1 : s.voters.weights.length ≤ 9223372036854775807 := by omega
  have hk3 : (x.kind == 3) = false := by cases h : (x.kind == 3) with | false => rfl | true => exact absurd (eq_of_beq h) (by omega)
  have hk4 : (x.kind == 4) = false := by cases h : (x.kind == 4) with | false => rfl | true => exact absurd (eq_of_beq h) (by omega)
  have hk5 : (x.kind == 5) = false := by cases h : (x.kind == 5) with | false => rfl | true => exact absurd (eq_of_beq h) (by omega)
  have hk6 : (x.kind == 6) = false := by cases h : (x.kind == 6) with | false => rfl | true => exact absurd (eq_of_beq h) (by omega)
  refine fn_walkW F28_ok (of_decide_eq_true (by kernel_rfl)) ?_
  refine srl 4 [2, 3, 4] ⟨M2, (M226 s x)⟩ ?_
  refine srr 1 ⟨(9, (M3 s)) :: M2, (M226 s x)⟩ ?_
  refine OW.fi (ar := [(M3 s)]) (r := (M14 s)) (m' := (M232 s x)) (x' := ⟨(10, (M14 s)) :: (9, (M3 s)) :: M2, (M232 s x)⟩) (by kernel_rfl) (by kernel_rfl) F49_call ?_ (by kernel_rfl) ?_
  refine fi_walkW F49_ok (of_decide_eq_true (by kernel_rfl)) ?_
  refine srl 2 [1, 2] ⟨[(2, .ref 4 5 0 0), (1, .ref 3 5 0 0)], (M227 s x)⟩ ?_
  refine sdr 3 ⟨(M5 s), (M227 s x)⟩ ?_
  refine dwf [.lst 1 (s.voters.weights.map cI)] ⟨(6, .lst 1 (s.voters.weights.map cI)) :: (M5 s), (M227 s x)⟩ F27_call (cloneI_fo s.voters.weights (by first | omega | exact qc_small (by assumption))) ?_
  refine dwr 6 ⟨(M6 s), (M227 s x)⟩ ?_
  refine DW.fo (ar := [.lst 5 (s.seats.map Seat.cs)]) (fe := Seat.cs) (xs := s.seats) (x' := ⟨(13, .own 5 5 0 (List.length s.seats)) :: (M6 s), (M228 s x)⟩) (by kernel_rfl) (by kernel_rfl) F68_call (cloneS_fo s.seats (by first | omega | exact qc_small (by assumption))) (by intro y; kernel_rfl) (by kernel_rfl) (by kernel_rfl) ?_
  refine dwr 2 ⟨(M8 s), (M228 s x)⟩ ?_
  refine DW.fo (ar := [.lst 8 (s.bids.map Bid.cs)]) (fe := Bid.cs) (xs := s.bids) (x' := ⟨(16, .own 6 8 0 (List.length s.bids)) :: (M8 s), (M229 s x)⟩) (by kernel_rfl) (by kernel_rfl) F69_call (cloneB_fo s.bids (by first | omega | exact qc_small (by assumption))) (by intro y; kernel_rfl) (by kernel_rfl) (by kernel_rfl) ?_
  refine dwr 2 ⟨(M10 s), (M229 s x)⟩ ?_
  refine DW.fo (ar := [.lst 6 (s.votes.map Vote.cs)]) (fe := Vote.cs) (xs := s.votes) (x' := ⟨(19, .own 7 6 0 (List.length s.votes)) :: (M10 s), (M230 s x)⟩) (by kernel_rfl) (by kernel_rfl) F70_call (cloneV_fo s.votes (by first | omega | exact qc_small (by assumption))) (by intro y; kernel_rfl) (by kernel_rfl) (by kernel_rfl) ?_
  refine dwl 2 [2] ⟨[(2, .ref 4 5 0 0)], (M231 s x)⟩ ?_
  refine EL.ret ?_
  refine ⟨.inr rfl, ⟨[(2, .ref 3 5 0 0)], (M232 s x)⟩, norm_le (live := [2]) (src := [.old 0 false, .old 1 false, .old 2 false, .old 4 false, .old 5 true, .old 6 true, .old 7 true]) (es := []) (by kernel_rfl) ⟨pq 5 Seat.cs s.seats, pq 8 Bid.cs s.bids, pq 6 Vote.cs s.votes, trivial⟩, by kernel_rfl, rfl⟩
  refine owl 3 [3, 4, 6] ⟨M18, (M233 s x)⟩ ?_
  refine srr 2 ⟨(M234 x), (M233 s x)⟩ ?_
  refine OW.fi (ar := [.ref 7 5 0 0, .agg [VI x.kind, VI x.n, .v (.string x.data)]]) (r := .v (.nilFunc)) (m' := (M233 s x)) (x' := ⟨(15, .v (.nilFunc)) :: (M234 x), (M233 s x)⟩) (by kernel_rfl) (by kernel_rfl) F54_call ?_ (by kernel_rfl) ?_
  refine fi_walkW F54_ok (of_decide_eq_true (by kernel_rfl)) ?_
  refine srl 3 [2, 3] ⟨[(3, .ref 9 3 0 0), (2, .ref 8 1 0 0)], (M235 s x)⟩ ?_
  refine srr 12 ⟨(M237 x), (M236 s x)⟩ ?_
  refine owo (.v (.nilFunc)) [] [10] ⟨(13, .v (.nilFunc)) :: (M237 x), (M236 s x)⟩ (opE_mlk .int (.v (.nilFunc)) (.s 10) (.s 12) 10 [[VI 6, .fn 74 [.ref 8 1 0 0, .ref 9 3 0 0]], [VI 3, .fn 76 [.ref 8 1 0 0, .ref 9 3 0 0]], [VI 4, .fn 79 [.ref 8 1 0 0, .ref 9 3 0 0]], [VI 5, .fn 80 [.ref 8 1 0 0, .ref 9 3 0 0]]] (.int .i64 x.kind) none (by kernel_rfl) (by kernel_rfl) (by kernel_rfl) (by kernel_rfl) (by kernel_rfl) (by simp [mfind, keyEq, hk6, hk3, hk4, hk5])) ?_
  refine owl 1 [4] ⟨[(4, .v (.nilFunc))], (M236 s x)⟩ ?_
  refine EL.ret ?_
  refine ⟨.inr rfl, ⟨[(4, .v (.nilFunc))], (M233 s x)⟩, norm_le (live := [4]) (src := [.old 0 false, .old 1 false, .old 2 false, .old 3 false, .old 4 true, .old 5 true, .old 6 true, .old 7 false]) (es := []) (by kernel_rfl) ⟨pq 5 Seat.cs s.seats, pq 8 Bid.cs s.bids, pq 6 Vote.cs s.votes, trivial⟩, by kernel_rfl, rfl⟩
  refine owl 1 [3, 4, 6, 7] ⟨(7, .v (.nilFunc)) :: M18, (M233 s x)⟩ ?_
  refine srl 1 [3, 4, 6, 7] ⟨(7, .v (.nilFunc)) :: M18, (M233 s x)⟩ ?_
  refine EL.seq ?_
  refine EL.block ?_
  refine srl 3 [3, 4, 6, 7, 18] ⟨(18, .v (.bool true)) :: (7, .v (.nilFunc)) :: M18, (M233 s x)⟩ ?_
  refine cnT ?_
  refine roe 1 ⟨M238, (M233 s x)⟩ ?_
  refine inBlk_norm ?_
  refine thenL_norm ?_
  refine EL.seq ?_
  refine srl 2 [4, 6, 8, 51] ⟨M239, (M233 s x)⟩ ?_
  refine cnT ?_
  refine srl 4 [4, 5] ⟨[(5, VI 7), (4, .ref 2 5 0 0)], (M233 s x)⟩ ?_
  refine rtr ?_
  refine ⟨.inr rfl, .tup [.agg [.emp, VI 0, .emp, .emp, .emp], VI 7], by kernel_rfl, Ale.trans (b := .tup [.agg [.lst 1 [], VI 0, .lst 5 [], .lst 8 [], .lst 6 []], VI 7]) (Ale.tup (.cons (Ale.agg (.cons (Ale.emp) (.cons (Ale.refl) (.cons (Ale.emp) (.cons (Ale.emp) (.cons (Ale.emp) (.nil))))))) (.cons (Ale.refl) (.nil)))) (Ale.of_eq ?_)⟩
  focus ((rw [Synod.step_7 hk] <;> rfl))
theorem step_fn (s : Synod) (x : Step) (ok : s.Ok) : Fn Tryd.prog 28 [.agg [.lst 1 (s.voters.weights.map cI), VI s.voters.need, .lst 5 (s.seats.map Seat.cs), .lst 8 (s.bids.map Bid.cs), .lst 6 (s.votes.map Vote.cs)], .agg [VI x.kind, VI x.n, .v (.string x.data)]] (.tup [.agg [.lst 1 ((s.stepP x.kind x.n x.data).1.voters.weights.map cI), VI (s.stepP x.kind x.n x.data).1.voters.need, .lst 5 ((s.stepP x.kind x.n x.data).1.seats.map Seat.cs), .lst 8 ((s.stepP x.kind x.n x.data).1.bids.map Bid.cs), .lst 6 ((s.stepP x.kind x.n x.data).1.votes.map Vote.cs)], VI (s.stepP x.kind x.n x.data).2]) := by
  by_cases hk : 3 ≤ x.kind ∧ x.kind ≤ 6
  · obtain ⟨k, n, d⟩ := x
    simp only at hk
    have : k = 3 ∨ k = 4 ∨ k = 5 ∨ k = 6 := by omega
    rcases this with rfl | rfl | rfl | rfl
    · exact step3_fn s n d ok
    · exact step4_fn s n d ok
    · exact step5_fn s n d ok
    · exact step6_fn s n d ok
  · exact step0_fn s x ok hk
end Go.Proofs.YtligepciannclaaDoor
set_option maxRecDepth 100000
set_option maxHeartbeats 4000000
set_option linter.unusedVariables false
set_option linter.unusedSimpArgs false
namespace Go.Proofs.YtligepciannclaaDoor
theorem Synod.Ok.big {s : Synod} (ok : s.Ok) : s.Big := by
  have := qc_len ok.q; have := ok.len; have := ok.few; have := ok.many
  refine ⟨?_, ?_, ?_, ?_⟩ <;> omega
theorem Synod.zero_big : Synod.zero.Big := by unfold Synod.Big Synod.zero; dsimp only; simp
theorem Synod.Ok.small {s : Synod} (ok : s.Ok) : s.voters.weights.length ≤ 1000000 ∧ s.seats.length ≤ 1000000 ∧ s.bids.length ≤ 1000000 ∧ s.votes.length ≤ 1000000 := by
  have := qc_len ok.q; have := ok.len; have := ok.few; have := ok.many
  omega
abbrev Step.cs (x : Step) : List AV := [VI x.kind, VI x.n, .v (.string x.data)]
section
variable (s : Synod)
abbrev N0 : OB := some ⟨5, [[.lst 1 (s.voters.weights.map cI), VI s.voters.need, .lst 5 (s.seats.map Seat.cs), .lst 8 (s.bids.map Bid.cs), .lst 6 (s.votes.map Vote.cs)]]⟩
abbrev N1 : LS := [(5, .lst 1 (s.voters.weights.map cI)), (4, .ref 0 5 0 0), (3, .ref 0 5 0 0), (2, .ref 1 5 0 0), (1, .ref 0 5 0 0)]
abbrev N2 : LS := (12, .lst 5 (s.seats.map Seat.cs)) :: (11, .ref 0 5 0 2) :: (10, .agg [.lst 1 (s.voters.weights.map cI), VI s.voters.need]) :: (9, VI s.voters.need) :: (8, .ref 0 5 0 1) :: (7, .ref 0 5 0 0) :: (6, .lst 1 (s.voters.weights.map cI)) :: (N1 s)
abbrev N3 : LB := [(N0 s), some ⟨5, [[.emp, VI 0, .emp, .emp, .emp]]⟩, some ⟨5, (s.seats.map Seat.cs)⟩]
abbrev N4 : LS := (15, .lst 8 (s.bids.map Bid.cs)) :: (14, .ref 0 5 0 3) :: (13, .own 2 5 0 (List.length s.seats)) :: (N2 s)
abbrev N5 : LB := [(N0 s), some ⟨5, [[.emp, VI 0, .emp, .emp, .emp]]⟩, some ⟨5, (s.seats.map Seat.cs)⟩, some ⟨8, (s.bids.map Bid.cs)⟩]
abbrev N6 : LS := (18, .lst 6 (s.votes.map Vote.cs)) :: (17, .ref 0 5 0 4) :: (16, .own 3 8 0 (List.length s.bids)) :: (N4 s)
abbrev N7 : LB := [(N0 s), some ⟨5, [[.emp, VI 0, .emp, .emp, .emp]]⟩, some ⟨5, (s.seats.map Seat.cs)⟩, some ⟨8, (s.bids.map Bid.cs)⟩, some ⟨6, (s.votes.map Vote.cs)⟩]
abbrev N8 : OB := some ⟨5, [[.lst 1 (s.voters.weights.map cI), VI s.voters.need, .own 2 5 0 (List.length s.seats), .own 3 8 0 (List.length s.bids), .own 4 6 0 (List.length s.votes)]]⟩
abbrev N9 : LB := [(N0 s), (N8 s), some ⟨5, (s.seats.map Seat.cs)⟩, some ⟨8, (s.bids.map Bid.cs)⟩, some ⟨6, (s.votes.map Vote.cs)⟩]
abbrev N10 : AV := .agg [.lst 1 (s.voters.weights.map cI), VI s.voters.need, .own 2 5 0 (List.length s.seats), .own 3 8 0 (List.length s.bids), .own 4 6 0 (List.length s.votes)]
abbrev N11 : AV := .agg [.lst 1 (s.voters.weights.map cI), VI s.voters.need, .lst 5 (s.seats.map Seat.cs), .lst 8 (s.bids.map Bid.cs), .lst 6 (s.votes.map Vote.cs)]
end
theorem own_fn (s : Synod) (hs : s.voters.weights.length ≤ 1000000 ∧ s.seats.length ≤ 1000000 ∧ s.bids.length ≤ 1000000 ∧ s.votes.length ≤ 1000000) : Fn Tryd.prog 49 [.agg [.lst 1 (s.voters.weights.map cI), VI s.voters.need, .lst 5 (s.seats.map Seat.cs), .lst 8 (s.bids.map Bid.cs), .lst 6 (s.votes.map Vote.cs)]] (.agg [.lst 1 (s.voters.weights.map cI), VI s.voters.need, .lst 5 (s.seats.map Seat.cs), .lst 8 (s.bids.map Bid.cs), .lst 6 (s.votes.map Vote.cs)]) := by
  refine fn_walkW F49_ok (of_decide_eq_true (by kernel_rfl)) ?_
  refine srl 2 [1, 2] ⟨[(2, .ref 1 5 0 0), (1, .ref 0 5 0 0)], [(N0 s), some ⟨5, [[.emp, VI 0, .emp, .emp, .emp]]⟩]⟩ ?_
  refine sdr 3 ⟨(N1 s), [(N0 s), some ⟨5, [[.emp, VI 0, .emp, .emp, .emp]]⟩]⟩ ?_
  refine dwf [.lst 1 (s.voters.weights.map cI)] ⟨(6, .lst 1 (s.voters.weights.map cI)) :: (N1 s), [(N0 s), some ⟨5, [[.emp, VI 0, .emp, .emp, .emp]]⟩]⟩ F27_call (cloneI_fo s.voters.weights (by first | omega | exact qc_small (by assumption))) ?_
  refine dwr 6 ⟨(N2 s), [(N0 s), some ⟨5, [[.emp, VI 0, .emp, .emp, .emp]]⟩]⟩ ?_
  refine DW.fo (ar := [.lst 5 (s.seats.map Seat.cs)]) (fe := Seat.cs) (xs := s.seats) (x' := ⟨(13, .own 2 5 0 (List.length s.seats)) :: (N2 s), (N3 s)⟩) (by kernel_rfl) (by kernel_rfl) F68_call (cloneS_fo s.seats (by first | omega | exact qc_small (by assumption))) (by intro y; kernel_rfl) (by kernel_rfl) (by kernel_rfl) ?_
  refine dwr 2 ⟨(N4 s), (N3 s)⟩ ?_
  refine DW.fo (ar := [.lst 8 (s.bids.map Bid.cs)]) (fe := Bid.cs) (xs := s.bids) (x' := ⟨(16, .own 3 8 0 (List.length s.bids)) :: (N4 s), (N5 s)⟩) (by kernel_rfl) (by kernel_rfl) F69_call (cloneB_fo s.bids (by first | omega | exact qc_small (by assumption))) (by intro y; kernel_rfl) (by kernel_rfl) (by kernel_rfl) ?_
  refine dwr 2 ⟨(N6 s), (N5 s)⟩ ?_
  refine DW.fo (ar := [.lst 6 (s.votes.map Vote.cs)]) (fe := Vote.cs) (xs := s.votes) (x' := ⟨(19, .own 4 6 0 (List.length s.votes)) :: (N6 s), (N7 s)⟩) (by kernel_rfl) (by kernel_rfl) F70_call (cloneV_fo s.votes (by first | omega | exact qc_small (by assumption))) (by intro y; kernel_rfl) (by kernel_rfl) (by kernel_rfl) ?_
  refine dwl 2 [2] ⟨[(2, .ref 1 5 0 0)], (N9 s)⟩ ?_
  refine EL.ret ?_
  refine ⟨.inr rfl, (N11 s), run_snap (r0 := (N10 s)) (by kernel_rfl) (snapA_agg (snapL_cons (by kernel_rfl) (snapL_cons (by kernel_rfl) (snapL_cons (smp Seat.cs s.seats) (snapL_cons (smp Bid.cs s.bids) (snapL_cons (smp Vote.cs s.votes) (rfl))))))), Ale.of_eq ?_⟩
  focus (rfl)
section
variable (s : Synod) (x : Step)
abbrev N12 : LB := [(N0 s), some ⟨3, [[VI x.kind, VI x.n, .v (.string x.data)]]⟩, some ⟨5, [[.emp, VI 0, .emp, .emp, .emp]]⟩]
abbrev N13 : LS := [(4, .ref 2 5 0 0), (3, .ref 1 3 0 0), (2, .ref 0 5 0 0)]
abbrev N14 : LS := (14, .agg [VI x.kind, VI x.n, .v (.string x.data)]) :: (13, (N11 s)) :: (10, .v (.bool false)) :: (6, VI s.checkE) :: N13
abbrev N15 : AV := .agg [.lst 1 (((((s.stepP x.kind x.n x.data).1).voters).weights).map cI), VI ((((s.stepP x.kind x.n x.data).1).voters).need), .lst 5 ((((s.stepP x.kind x.n x.data).1).seats).map Seat.cs), .lst 8 ((((s.stepP x.kind x.n x.data).1).bids).map Bid.cs), .lst 6 ((((s.stepP x.kind x.n x.data).1).votes).map Vote.cs)]
abbrev N16 : LS := (15, .tup [(N15 s x), VI ((s.stepP x.kind x.n x.data).2)]) :: (N14 s x)
abbrev N17 : OB := some ⟨5, [[.lst 1 (((((s.stepP x.kind x.n x.data).1).voters).weights).map cI), VI ((((s.stepP x.kind x.n x.data).1).voters).need), .lst 5 ((((s.stepP x.kind x.n x.data).1).seats).map Seat.cs), .lst 8 ((((s.stepP x.kind x.n x.data).1).bids).map Bid.cs), .lst 6 ((((s.stepP x.kind x.n x.data).1).votes).map Vote.cs)]]⟩
abbrev N18 : LB := [(N0 s), some ⟨3, [[VI x.kind, VI x.n, .v (.string x.data)]]⟩, (N17 s x)]
end
theorem do_fn (s : Synod) (x : Step) (hx : s.Big) : Fn Tryd.prog 13 [.agg [.lst 1 (s.voters.weights.map cI), VI s.voters.need, .lst 5 (s.seats.map Seat.cs), .lst 8 (s.bids.map Bid.cs), .lst 6 (s.votes.map Vote.cs)], .agg [VI x.kind, VI x.n, .v (.string x.data)]] (.tup [.agg [.lst 1 (((((s.doP x.kind x.n x.data).1).voters).weights).map cI), VI ((((s.doP x.kind x.n x.data).1).voters).need), .lst 5 ((((s.doP x.kind x.n x.data).1).seats).map Seat.cs), .lst 8 ((((s.doP x.kind x.n x.data).1).bids).map Bid.cs), .lst 6 ((((s.doP x.kind x.n x.data).1).votes).map Vote.cs)], VI ((s.doP x.kind x.n x.data).2)]) := by
  refine fn_walkW F13_ok (of_decide_eq_true (by kernel_rfl)) ?_
  refine srl 4 [2, 3, 4] ⟨N13, (N12 s x)⟩ ?_
  refine EL.seq ?_
  refine srr 1 ⟨(7, (N11 s)) :: N13, (N12 s x)⟩ ?_
  refine owf [(N11 s)] ⟨(8, VI s.checkE) :: (7, (N11 s)) :: N13, (N12 s x)⟩ F18_call (check_fn s (by first | assumption | exact Synod.Ok.big (by assumption))) ?_
  refine owl 1 [2, 3, 4, 6] ⟨(6, VI s.checkE) :: N13, (N12 s x)⟩ ?_
  refine srl 2 [2, 3, 4, 6, 10] ⟨(10, .v (.bool (s.checkE != 0))) :: (6, VI s.checkE) :: N13, (N12 s x)⟩ ?_
  rcases Bool.eq_false_or_eq_true ((s.checkE != 0)) with h1 | h1
  rw [h1]
  have g1 : ¬ (s.checkE = 0) := by simpa using h1
  refine cnT ?_
  refine srl 4 [4, 5] ⟨[(5, VI s.checkE), (4, .ref 2 5 0 0)], (N12 s x)⟩ ?_
  refine rtr ?_
  refine ⟨.inr rfl, .tup [.agg [.emp, VI 0, .emp, .emp, .emp], VI s.checkE], by kernel_rfl, Ale.trans (b := .tup [.agg [.lst 1 [], VI 0, .lst 5 [], .lst 8 [], .lst 6 []], VI s.checkE]) (Ale.tup (.cons (Ale.agg (.cons (Ale.emp) (.cons (Ale.refl) (.cons (Ale.emp) (.cons (Ale.emp) (.cons (Ale.emp) (.nil))))))) (.cons (Ale.refl) (.nil)))) (Ale.of_eq ?_)⟩
  rotate_left
  rw [h1]
  have g1 : (s.checkE = 0) := by simpa using h1
  refine cnF ?_
  refine skn ?_
  refine srr 2 ⟨(N14 s x), (N12 s x)⟩ ?_
  refine owf [(N11 s), .agg [VI x.kind, VI x.n, .v (.string x.data)]] ⟨(N16 s x), (N12 s x)⟩ F28_call (step_fn s x (by first | assumption | exact Synod.check_0 ‹_›)) ?_
  refine owl 4 [4, 5] ⟨[(5, VI ((s.stepP x.kind x.n x.data).2)), (4, .ref 2 5 0 0)], (N18 s x)⟩ ?_
  refine EL.ret ?_
  refine ⟨.inr rfl, .tup [(N15 s x), VI ((s.stepP x.kind x.n x.data).2)], by kernel_rfl, Ale.of_eq ?_⟩
  rotate_left
  all_goals (first | (rw [Synod.doP_0 ‹_›] <;> rfl) | (rw [Synod.doP_n ‹_›] <;> rfl))
section
variable (a10 : Step) (c : Synod) (k : Nat) (l : List Step) (n : Int) (s : Synod)
abbrev N19 : LS := [(4, .ref 1 5 0 0), (2, .ref 0 5 0 0), (1, .lst 3 (l.map Step.cs))]
abbrev N20 : LS := (18, .lst 3 (l.map Step.cs)) :: (17, .v (.bool true)) :: (16, .v (.bool true)) :: (15, VI s.checkE) :: (7, VI s.checkE) :: (N19 l)
abbrev N21 : LS := [(1, .lst 3 (l.map Step.cs)), (2, .ref 0 5 0 0), (4, .ref 1 5 0 0), (7, VI 2)]
abbrev N22 : LS := [(1, .lst 3 (l.map Step.cs)), (2, .ref 0 5 0 0), (4, .ref 1 5 0 0), (7, VI s.checkE)]
abbrev N23 : LS := [(6, VI s.checkE), (5, VI 0), (4, .ref 1 5 0 0)]
abbrev N24 : LS := (27, (N11 s)) :: (26, (N11 s)) :: (23, .v (.bool false)) :: (N22 l s)
abbrev N25 : LS := [(1, .lst 3 (l.map Step.cs)), (2, .ref 0 5 0 0), (4, .ref 1 5 0 0)]
abbrev N26 : LS := (29, VI (List.length l : Int)) :: (28, .lst 3 (l.map Step.cs)) :: (8, VI 0) :: (N25 l)
abbrev N27 : LS := [(30, VI 0), (29, VI (List.length l : Int)), (28, .lst 3 (l.map Step.cs)), (8, VI 0), (2, .ref 0 5 0 0), (4, .ref 1 5 0 0)]
abbrev N28 : OB := some ⟨5, [[.lst 1 (c.voters.weights.map cI), VI c.voters.need, .lst 5 (c.seats.map Seat.cs), .lst 8 (c.bids.map Bid.cs), .lst 6 (c.votes.map Vote.cs)]]⟩
abbrev N29 : LS := [(2, .ref 0 5 0 0), (4, .ref 1 5 0 0), (8, VI n), (28, .lst 3 (l.map Step.cs)), (29, VI (List.length l : Int)), (30, VI (k : Int))]
abbrev N30 : LS := (32, .pim [VI a10.kind, VI a10.n, .v (.string a10.data)] 0) :: (31, .v (.bool true)) :: (N29 k l n)
abbrev N31 : LB := [(N28 c), some ⟨5, [[.emp, VI 0, .emp, .emp, .emp]]⟩, some ⟨3, [[VI a10.kind, VI a10.n, .v (.string a10.data)]]⟩]
abbrev N32 : AV := .agg [.lst 1 (c.voters.weights.map cI), VI c.voters.need, .lst 5 (c.seats.map Seat.cs), .lst 8 (c.bids.map Bid.cs), .lst 6 (c.votes.map Vote.cs)]
abbrev N33 : LS := (36, .agg [VI a10.kind, VI a10.n, .v (.string a10.data)]) :: (35, (N32 c)) :: (10, .ref 2 3 0 0) :: (N29 k l n)
abbrev N34 : AV := .agg [.lst 1 (((((c.stepP a10.kind a10.n a10.data).1).voters).weights).map cI), VI ((((c.stepP a10.kind a10.n a10.data).1).voters).need), .lst 5 ((((c.stepP a10.kind a10.n a10.data).1).seats).map Seat.cs), .lst 8 ((((c.stepP a10.kind a10.n a10.data).1).bids).map Bid.cs), .lst 6 ((((c.stepP a10.kind a10.n a10.data).1).votes).map Vote.cs)]
abbrev N35 : LS := (37, .tup [(N34 a10 c), VI ((c.stepP a10.kind a10.n a10.data).2)]) :: (N33 a10 c k l n)
abbrev N36 : OB := some ⟨5, [[.lst 1 (((((c.stepP a10.kind a10.n a10.data).1).voters).weights).map cI), VI ((((c.stepP a10.kind a10.n a10.data).1).voters).need), .lst 5 ((((c.stepP a10.kind a10.n a10.data).1).seats).map Seat.cs), .lst 8 ((((c.stepP a10.kind a10.n a10.data).1).bids).map Bid.cs), .lst 6 ((((c.stepP a10.kind a10.n a10.data).1).votes).map Vote.cs)]]⟩
abbrev N37 : LB := [(N28 c), some ⟨5, [[.emp, VI 0, .emp, .emp, .emp]]⟩, some ⟨3, [[VI a10.kind, VI a10.n, .v (.string a10.data)]]⟩, (N36 a10 c)]
abbrev N38 : LS := (12, VI ((c.stepP a10.kind a10.n a10.data).2)) :: (11, .ref 3 5 0 0) :: (N29 k l n)
abbrev N39 : LB := [(N36 a10 c), some ⟨5, [[.emp, VI 0, .emp, .emp, .emp]]⟩, some ⟨3, [[VI a10.kind, VI a10.n, .v (.string a10.data)]]⟩, (N36 a10 c)]
abbrev N40 : LS := [(43, VI n), (2, .ref 0 5 0 0), (4, .ref 1 5 0 0), (28, .lst 3 (l.map Step.cs)), (29, VI (List.length l : Int)), (30, VI (k : Int))]
abbrev N41 : LS := [(8, VI (n + 1)), (44, VI (n + 1)), (43, VI n), (2, .ref 0 5 0 0), (4, .ref 1 5 0 0), (28, .lst 3 (l.map Step.cs)), (29, VI (List.length l : Int))]
abbrev N42 : LS := (30, VI ((k : Int) + 1)) :: (45, VI ((k : Int) + 1)) :: (N41 l n)
abbrev N43 : LS := [(41, .v (.bool false)), (11, .ref 3 5 0 0), (2, .ref 0 5 0 0), (4, .ref 1 5 0 0), (8, VI n), (28, .lst 3 (l.map Step.cs)), (29, VI (List.length l : Int))]
abbrev N44 : LS := (30, VI ((k : Int) + 1)) :: (45, VI ((k : Int) + 1)) :: (N43 l n)
end
theorem run_fn (s : Synod) (l : List Step) (hx : s.Big) (hl : l.length ≤ 9223372036854775807) : Fn Tryd.prog 20 [.agg [.lst 1 (s.voters.weights.map cI), VI s.voters.need, .lst 5 (s.seats.map Seat.cs), .lst 8 (s.bids.map Bid.cs), .lst 6 (s.votes.map Vote.cs)], .lst 3 (l.map Step.cs)] (.tup [.agg [.lst 1 (((((s.runP l).1).voters).weights).map cI), VI ((((s.runP l).1).voters).need), .lst 5 ((((s.runP l).1).seats).map Seat.cs), .lst 8 ((((s.runP l).1).bids).map Bid.cs), .lst 6 ((((s.runP l).1).votes).map Vote.cs)], VI ((s.runP l).2.1), VI ((s.runP l).2.2)]) := by
  refine fn_walkW F20_ok (of_decide_eq_true (by kernel_rfl)) ?_
  refine srl 4 [1, 2, 4] ⟨(N19 l), [(N0 s), some ⟨5, [[.emp, VI 0, .emp, .emp, .emp]]⟩]⟩ ?_
  refine srr 1 ⟨(13, (N11 s)) :: (N19 l), [(N0 s), some ⟨5, [[.emp, VI 0, .emp, .emp, .emp]]⟩]⟩ ?_
  refine owf [(N11 s)] ⟨(14, VI s.checkE) :: (13, (N11 s)) :: (N19 l), [(N0 s), some ⟨5, [[.emp, VI 0, .emp, .emp, .emp]]⟩]⟩ F18_call (check_fn s (by first | assumption | exact Synod.Ok.big (by assumption))) ?_
  refine owl 1 [1, 2, 4, 7] ⟨(7, VI s.checkE) :: (N19 l), [(N0 s), some ⟨5, [[.emp, VI 0, .emp, .emp, .emp]]⟩]⟩ ?_
  refine EL.seqG [1, 2, 4, 7] (fun y => (y = ⟨(N21 l), [(N0 s), some ⟨5, [[.emp, VI 0, .emp, .emp, .emp]]⟩]⟩ ∧ (s.checkE == 0) = true ∧ decide ((List.length l : Int) > 200) = true) ∨ (y = ⟨(N22 l s), [(N0 s), some ⟨5, [[.emp, VI 0, .emp, .emp, .emp]]⟩]⟩ ∧ (((s.checkE = 0) ∧ ¬ ((List.length l : Int) > 200)) ∨ (¬ (s.checkE = 0))))) ?_ ?_
  intro IHJ1 HJ1
  refine srr 3 ⟨(17, .v (.bool (s.checkE == 0))) :: (16, .v (.bool (s.checkE == 0))) :: (15, VI s.checkE) :: (7, VI s.checkE) :: (N19 l), [(N0 s), some ⟨5, [[.emp, VI 0, .emp, .emp, .emp]]⟩]⟩ ?_
  rcases Bool.eq_false_or_eq_true ((s.checkE == 0)) with h2 | h2
  rw [h2]
  have g2 : (s.checkE = 0) := by simpa using h2
  refine owr 1 ⟨(N20 l s), [(N0 s), some ⟨5, [[.emp, VI 0, .emp, .emp, .emp]]⟩]⟩ ?_
  refine owo (VI (List.length l : Int)) [] [] ⟨(19, VI (List.length l : Int)) :: (N20 l s), [(N0 s), some ⟨5, [[.emp, VI 0, .emp, .emp, .emp]]⟩]⟩ (opE_len Step.cs l (.s 18) 3 (by kernel_rfl) (by kernel_rfl) (.inl rfl)) ?_
  refine owl 2 [1, 2, 4, 7, 21] ⟨(21, .v (.bool (decide ((List.length l : Int) > 200)))) :: (7, VI s.checkE) :: (N19 l), [(N0 s), some ⟨5, [[.emp, VI 0, .emp, .emp, .emp]]⟩]⟩ ?_
  rcases Bool.eq_false_or_eq_true (decide ((List.length l : Int) > 200)) with h3 | h3
  rw [h3]
  have g3 := of_decide_eq_true h3
  have n3 : ((List.length l) > 200) := by omega
  refine cnT ?_
  refine roe 1 ⟨(7, VI 2) :: (21, .v (.bool true)) :: (N19 l), [(N0 s), some ⟨5, [[.emp, VI 0, .emp, .emp, .emp]]⟩]⟩ ?_
  exact thenL_norm (HJ1.get (Or.inl ⟨by kernel_rfl, h2, h3⟩))
  rw [h3]
  have g3 := of_decide_eq_false h3
  have n3 : ¬ ((List.length l) > 200) := by omega
  refine cnF ?_
  refine EL.skip ?_
  exact thenL_norm (HJ1.get (Or.inr ⟨by kernel_rfl, (Or.inl (by refine ⟨(by first | exact g2 | exact h2 | simp_all | omega), (by first | exact g3 | exact h3 | simp_all | omega)⟩))⟩))
  rw [h2]
  have g2 : ¬ (s.checkE = 0) := by simpa using h2
  refine owl 4 [1, 2, 4, 7, 21] ⟨(21, .v (.bool false)) :: (7, VI s.checkE) :: (N19 l), [(N0 s), some ⟨5, [[.emp, VI 0, .emp, .emp, .emp]]⟩]⟩ ?_
  refine cnF ?_
  refine EL.skip ?_
  exact thenL_norm (HJ1.get (Or.inr ⟨by kernel_rfl, (Or.inr (by first | exact g2 | exact h2 | simp_all | omega))⟩))
  rintro _ (⟨rfl, h4, h5⟩ | ⟨rfl, hD6⟩)
  have g4 : (s.checkE = 0) := by simpa using h4
  have g5 := of_decide_eq_true h5
  have n5 : ((List.length l) > 200) := by omega
  refine EL.seq ?_
  refine srl 2 [1, 2, 4, 7, 23] ⟨(23, .v (.bool true)) :: (N21 l), [(N0 s), some ⟨5, [[.emp, VI 0, .emp, .emp, .emp]]⟩]⟩ ?_
  refine cnT ?_
  refine srl 5 [4, 5, 6] ⟨[(6, VI 2), (5, VI 0), (4, .ref 1 5 0 0)], [(N0 s), some ⟨5, [[.emp, VI 0, .emp, .emp, .emp]]⟩]⟩ ?_
  refine rtr ?_
  refine ⟨.inr rfl, .tup [.agg [.emp, VI 0, .emp, .emp, .emp], VI 0, VI 2], by kernel_rfl, Ale.trans (b := .tup [.agg [.lst 1 [], VI 0, .lst 5 [], .lst 8 [], .lst 6 []], VI 0, VI 2]) (Ale.tup (.cons (Ale.agg (.cons (Ale.emp) (.cons (Ale.refl) (.cons (Ale.emp) (.cons (Ale.emp) (.cons (Ale.emp) (.nil))))))) (.cons (Ale.refl) (.cons (Ale.refl) (.nil))))) (Ale.of_eq ?_)⟩
  rotate_left
  refine EL.seq ?_
  refine srl 2 [1, 2, 4, 7, 23] ⟨(23, .v (.bool (s.checkE != 0))) :: (N22 l s), [(N0 s), some ⟨5, [[.emp, VI 0, .emp, .emp, .emp]]⟩]⟩ ?_
  rcases Bool.eq_false_or_eq_true ((s.checkE != 0)) with h7 | h7
  rw [h7]
  have g7 : ¬ (s.checkE = 0) := by simpa using h7
  refine cnT ?_
  refine srl 5 [4, 5, 6] ⟨(N23 s), [(N0 s), some ⟨5, [[.emp, VI 0, .emp, .emp, .emp]]⟩]⟩ ?_
  refine rtr ?_
  refine ⟨.inr rfl, .tup [.agg [.emp, VI 0, .emp, .emp, .emp], VI 0, VI s.checkE], by kernel_rfl, Ale.trans (b := .tup [.agg [.lst 1 [], VI 0, .lst 5 [], .lst 8 [], .lst 6 []], VI 0, VI s.checkE]) (Ale.tup (.cons (Ale.agg (.cons (Ale.emp) (.cons (Ale.refl) (.cons (Ale.emp) (.cons (Ale.emp) (.cons (Ale.emp) (.nil))))))) (.cons (Ale.refl) (.cons (Ale.refl) (.nil))))) (Ale.of_eq ?_)⟩
  rotate_left
  rw [h7]
  have g7 : (s.checkE = 0) := by simpa using h7
  refine cnF ?_
  refine skn ?_
  refine srr 1 ⟨(26, (N11 s)) :: (23, .v (.bool false)) :: (N22 l s), [(N0 s), some ⟨5, [[.emp, VI 0, .emp, .emp, .emp]]⟩]⟩ ?_
  refine owf [(N11 s)] ⟨(N24 l s), [(N0 s), some ⟨5, [[.emp, VI 0, .emp, .emp, .emp]]⟩]⟩ F49_call (own_fn s (Synod.check_0 ‹_›).small) ?_
  refine owl 1 [1, 2, 4] ⟨(N25 l), [(N0 s), some ⟨5, [[.emp, VI 0, .emp, .emp, .emp]]⟩]⟩ ?_
  refine srl 1 [1, 2, 4, 8] ⟨(8, VI 0) :: (N25 l), [(N0 s), some ⟨5, [[.emp, VI 0, .emp, .emp, .emp]]⟩]⟩ ?_
  refine EL.seq ?_
  refine srr 1 ⟨(28, .lst 3 (l.map Step.cs)) :: (8, VI 0) :: (N25 l), [(N0 s), some ⟨5, [[.emp, VI 0, .emp, .emp, .emp]]⟩]⟩ ?_
  refine owo (VI (List.length l : Int)) [] [] ⟨(N26 l), [(N0 s), some ⟨5, [[.emp, VI 0, .emp, .emp, .emp]]⟩]⟩ (opE_len Step.cs l (.s 28) 3 (by kernel_rfl) (by kernel_rfl) (.inl rfl)) ?_
  refine owl 1 [2, 4, 8, 28, 29, 30] ⟨(N27 l), [(N0 s), some ⟨5, [[.emp, VI 0, .emp, .emp, .emp]]⟩]⟩ ?_
  refine EL.block ?_
  refine EL.loopN (fun mM xX => ∃ (k : Nat) (c : Synod) (n : Int), mM = l.length - k ∧ (k ≤ l.length ∧ l.length ≤ 200 ∧ s.checkE = 0 ∧ c.Ok ∧ 0 ≤ n ∧ n ≤ k ∧ s.runGo l 0 = c.runGo (l.drop k) n) ∧ xX = ⟨(N29 k l n), [(N28 c), some ⟨5, [[.emp, VI 0, .emp, .emp, .emp]]⟩]⟩) (y := (fun (k : Nat) (c : Synod) (n : Int) => (⟨(N29 k l n), [(N28 c), some ⟨5, [[.emp, VI 0, .emp, .emp, .emp]]⟩]⟩ : L3)) 0 s 0) [2, 4, 8, 28, 29, 30] [.old 0 false, .old 1 false] [] (by kernel_rfl) trivial ⟨0, s, 0, rfl, by have hc0 : s.checkE = 0 := ‹_›; refine ⟨by omega, by omega, hc0, Synod.check_0 hc0, by omega, by omega, by simp⟩, rfl⟩ ?_
  rintro _ _ ⟨k, c, n, rfl, hI8, rfl⟩
  obtain ⟨hk, hl2, hc0, hok, hn0, hn1, hs⟩ := hI8
  refine srl 1 [2, 4, 8, 28, 29, 30, 31] ⟨(31, .v (.bool (decide ((k : Int) < (List.length l : Int))))) :: (N29 k l n), [(N28 c), some ⟨5, [[.emp, VI 0, .emp, .emp, .emp]]⟩]⟩ ?_
  refine EL.seq ?_
  rcases Bool.eq_false_or_eq_true (decide ((k : Int) < (List.length l : Int))) with h9 | h9
  rw [h9]
  have g9 := of_decide_eq_true h9
  have n9 : ((k) < (List.length l)) := by omega
  refine cnT ?_
  refine skn ?_
  refine EL.seq ?_
  refine EL.block ?_
  refine EL.sreg ?_
  obtain ⟨a10, ha10⟩ : ∃ y, l[((k : Int) : Int).toNat]? = some y := idx_ex ⟨by omega, by omega⟩
  have iha10 : l[k]? = some a10 := by simpa using ha10
  have dha10 := drop_get iha10
  refine owo (.pim [VI a10.kind, VI a10.n, .v (.string a10.data)] 0) [] [] ⟨(N30 a10 k l n), [(N28 c), some ⟨5, [[.emp, VI 0, .emp, .emp, .emp]]⟩]⟩ (opE_iad Step.cs l (.s 28) (.s 30) 3 .i64 (k : Int) a10 (by kernel_rfl) (by kernel_rfl) (.inl rfl) rfl (by omega) ha10) ?_
  refine owl 3 [2, 4, 8, 10, 28, 29, 30] ⟨(10, .ref 2 3 0 0) :: (N29 k l n), (N31 a10 c)⟩ ?_
  refine srr 2 ⟨(N33 a10 c k l n), (N31 a10 c)⟩ ?_
  refine owf [(N32 c), .agg [VI a10.kind, VI a10.n, .v (.string a10.data)]] ⟨(N35 a10 c k l n), (N31 a10 c)⟩ F28_call (step_fn c a10 (by first | assumption | exact Synod.check_0 ‹_›)) ?_
  refine owl 6 [2, 4, 8, 11, 12, 28, 29, 30] ⟨(N38 a10 c k l n), (N37 a10 c)⟩ ?_
  refine srl 2 [2, 4, 8, 11, 28, 29, 30, 41] ⟨(41, .v (.bool (((c.stepP a10.kind a10.n a10.data).2) == 0))) :: (11, .ref 3 5 0 0) :: (N29 k l n), (N37 a10 c)⟩ ?_
  rcases Bool.eq_false_or_eq_true ((((c.stepP a10.kind a10.n a10.data).2) == 0)) with h11 | h11
  rw [h11]
  have g11 : (((c.stepP a10.kind a10.n a10.data).2) = 0) := by simpa using h11
  refine cnT ?_
  refine srl 2 [2, 4, 8, 28, 29, 30] ⟨(N29 k l n), (N39 a10 c)⟩ ?_
  refine EL.reg0 ?_
  refine owr 3 ⟨(8, VI (IntKind.i64.wrap (n + 1))) :: (44, VI (IntKind.i64.wrap (n + 1))) :: (N40 k l n), (N39 a10 c)⟩ ?_
  have e12 : IntKind.i64.wrap (n + 1) = n + 1 := wr64 (by omega)
  rw [e12]
  refine owe 0 ⟨(8, VI (n + 1)) :: (44, VI (n + 1)) :: (N40 k l n), (N39 a10 c)⟩ ?_
  refine inBlk_norm ?_
  refine thenL_norm ?_
  refine EL.reg0 ?_
  refine owr 2 ⟨(30, VI (IntKind.i64.wrap ((k : Int) + 1))) :: (45, VI (IntKind.i64.wrap ((k : Int) + 1))) :: (N41 l n), (N39 a10 c)⟩ ?_
  have e13 : IntKind.i64.wrap ((k : Int) + 1) = (k : Int) + 1 := wr64 (by omega)
  rw [e13]
  refine owe 0 ⟨(N42 k l n), (N39 a10 c)⟩ ?_
  refine thenL_norm ?_
  refine round_end (live := [2, 4, 8, 28, 29, 30]) (src := [.old 0 false, .old 1 false]) (es := []) (y := (fun (k : Nat) (c : Synod) (n : Int) => (⟨(N29 k l n), [(N28 c), some ⟨5, [[.emp, VI 0, .emp, .emp, .emp]]⟩]⟩ : L3)) (k + 1) ((c.stepP a10.kind a10.n a10.data).1) (n + 1)) ?_ trivial ?_ ⟨(k + 1), ((c.stepP a10.kind a10.n a10.data).1), (n + 1), rfl, ?_, rfl⟩
  kernel_rfl
  omega
  focus (first | (refine ⟨by omega, by omega, hc0, Synod.step_ok hok ‹_›, by omega, by omega, ?_⟩; rw [hs]; simp [Synod.runGo, *]; done) | (refine ⟨by omega, by omega, hc0, hok, by omega, by omega, ?_⟩; rw [hs]; simp [Synod.runGo, *]; done))
  rw [h11]
  have g11 : ¬ (((c.stepP a10.kind a10.n a10.data).2) = 0) := by simpa using h11
  refine cnF ?_
  refine EL.skip ?_
  refine inBlk_norm ?_
  refine thenL_norm ?_
  refine EL.reg0 ?_
  refine owr 2 ⟨(30, VI (IntKind.i64.wrap ((k : Int) + 1))) :: (45, VI (IntKind.i64.wrap ((k : Int) + 1))) :: (N43 l n), (N37 a10 c)⟩ ?_
  have e14 : IntKind.i64.wrap ((k : Int) + 1) = (k : Int) + 1 := wr64 (by omega)
  rw [e14]
  refine owe 0 ⟨(N44 k l n), (N37 a10 c)⟩ ?_
  refine thenL_norm ?_
  refine round_end (live := [2, 4, 8, 28, 29, 30]) (src := [.old 0 false, .old 1 false]) (es := []) (y := (fun (k : Nat) (c : Synod) (n : Int) => (⟨(N29 k l n), [(N28 c), some ⟨5, [[.emp, VI 0, .emp, .emp, .emp]]⟩]⟩ : L3)) (k + 1) c n) ?_ trivial ?_ ⟨(k + 1), c, n, rfl, ?_, rfl⟩
  kernel_rfl
  omega
  focus (first | (refine ⟨by omega, by omega, hc0, Synod.step_ok hok ‹_›, by omega, by omega, ?_⟩; rw [hs]; simp [Synod.runGo, *]; done) | (refine ⟨by omega, by omega, hc0, hok, by omega, by omega, ?_⟩; rw [hs]; simp [Synod.runGo, *]; done))
  rw [h9]
  have g9 := of_decide_eq_false h9
  have n9 : ¬ ((k) < (List.length l)) := by omega
  refine cnF ?_
  refine EL.exit ?_
  refine thenL_exit ?_
  refine thenL_exit ?_
  refine inBlk_hit ?_
  refine thenL_norm ?_
  refine srl 5 [4, 5, 6] ⟨[(6, VI 0), (5, VI n), (4, .ref 1 5 0 0)], [(N28 c), (N28 c)]⟩ ?_
  refine EL.ret ?_
  refine ⟨.inr rfl, .tup [(N32 c), VI n, VI 0], by kernel_rfl, Ale.of_eq ?_⟩
  rotate_left
  all_goals (first | (rw [Synod.runP_n ‹_›]; rfl) | (rw [Synod.runP_2 ‹_› (by omega)]; rfl) | (rw [Synod.runP_0 hc0 (by omega), hs, List.drop_eq_nil_of_le (by omega)]; rfl))
end Go.Proofs.YtligepciannclaaDoor
set_option maxRecDepth 100000
set_option maxHeartbeats 4000000
set_option linter.unusedVariables false
set_option linter.unusedSimpArgs false
namespace Go.Proofs.YtligepciannclaaDoor
section
variable (a17 : Seat) (a25 : Bid) (a26 : Bid) (a9 : Vote) (d : ByteArray) (n : Int) (s : Synod)
end
section
variable (a5 : Vote) (d : ByteArray) (n : Int) (s : Synod)
end
section
variable (a5 : Vote) (d : ByteArray) (n : Int) (s : Synod)
end
section
variable (d : ByteArray) (n : Int) (s : Synod)
end
section
variable (s : Synod) (x : Step)
end
section
variable (s : Synod) (x : Step)
end
end Go.Proofs.YtligepciannclaaDoor
set_option maxRecDepth 100000
set_option maxHeartbeats 4000000
set_option linter.unusedVariables false
set_option linter.unusedSimpArgs false
namespace Go.Proofs.YtligepciannclaaDoor
def Synod.same (a b : Synod) : Prop := a.voters.weights = b.voters.weights ∧ a.voters.need = b.voters.need ∧ a.seats = b.seats ∧ a.bids = b.bids ∧ a.votes = b.votes
theorem u64_eq {a b : U64} : a = b ↔ a.n = b.n := by
  cases a; cases b; simp
instance : DecidableEq Bid := fun a b => decidable_of_iff (a.time = b.time ∧ a.phase = b.phase ∧ a.own = b.own ∧ a.value = b.value ∧ a.best = b.best ∧ a.heard.n = b.heard.n) (by cases a; cases b; simp [u64_eq])
instance (a b : Synod) : Decidable (Synod.same a b) := by unfold Synod.same; exact inferInstance
section
variable (a11 : Step) (c : Synod) (k : Nat) (l : List Step) (n : Int) (s : Synod)
end
section
variable (a5 : Int) (k : Nat) (xs : List Int) (ys : List Int)
end
section
variable (a : Synod) (a11 : Seat) (a17 : Bid) (a19 : Bid) (a9 : Seat) (b : Synod) (i : Nat) (k : Nat)
end
end Go.Proofs.YtligepciannclaaDoor
