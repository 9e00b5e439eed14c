/- Plain laws of synods behind steps: who keeps what is done, what stays, what seats promise. No condition. -/
import Derived.Test.YtligepciannclaaDoorPSynL
import Derived.Test.YtligepciannclaaDoorPAvOwn
import Derived.Test.YtligepciannclaaDoorPSeatM
import Derived.Test.YtligepciannclaaDoorTie
import Derived.Test.YtligepciannclaaDoorCards
import Derived.Lib.LaidTab
import Derived.LaidMore
import Derived.Stop.Joined
set_option linter.unusedSimpArgs false
set_option linter.unusedVariables false
set_option maxHeartbeats 4000000
set_option maxRecDepth 100000
namespace Go.Proofs.YtligepciannclaaDoor
theorem toAll_len (n : Nat) (m : Vote) : (toAllP n m).length = n := by simp [toAllP]
theorem begin_len (v : Voters) (no time : Int) (own : ByteArray) : (beginP v no time own).2.1.length ≤ 12 := by
  unfold beginP
  by_cases h1 : ¬ (0 ≤ no ∧ no ≤ 30)
  · rw [if_pos h1]; simp
  · rw [if_neg h1]
    by_cases h2 : (Bid.new time own).checkE v.weights v.need ≠ 0
    · rw [if_pos h2]; simp
    · rw [if_neg h2]
      have := bid_len (v := v) (b := Bid.new time own) (by omega)
      simp only [toAll_len]; exact this
theorem hear_len (v : Voters) (no : Int) (b : Bid) (m : Vote) : (hearP v no b m).2.1.length ≤ 12 := by
  unfold hearP
  by_cases h2 : b.checkE v.weights v.need = 0
  · have := bid_len h2
    (repeat' split) <;> first | (simp; done) | (unfold onP; split <;> simp [toAll_len]; omega)
  · rw [if_pos h2]; split <;> simp
theorem serve_len (s : Seat) (v : Vote) : (s.serveP v).2.1.length ≤ 1 := by
  unfold Seat.serveP
  (repeat' split) <;> simp
theorem app_le {a b k : Nat} (h : a ≤ 200) (hb : b ≤ 12) (hk : k ≤ 100) : (a + b) * k ≤ 140737488355328 :=
  Nat.le_trans (Nat.mul_le_mul (show a + b ≤ 212 by omega) hk) (by decide)
theorem ers_le {l : List Vote} {n : Nat} (h : l.length ≤ 200) : (l.eraseIdx n).length ≤ 200 := Nat.le_trans (List.eraseIdx_sublist l n).length_le h
theorem Synod.many_0 {s : Synod} (h : s.votes.length ≤ 200) : s.manyP = (s, 0) := by unfold Synod.manyP; rw [if_neg (by omega)]
theorem Synod.many_2 {s : Synod} (h : s.votes.length > 200) : s.manyP = (Synod.zero, 2) := by unfold Synod.manyP; rw [if_pos h]
theorem Synod.step_7 {s : Synod} {k n : Int} {d : ByteArray} (h : ¬ (3 ≤ k ∧ k ≤ 6)) : s.stepP k n d = (Synod.zero, 7) := by unfold Synod.stepP; rw [if_pos h]
theorem Synod.step_1 {s : Synod} {k n : Int} {d : ByteArray} (h : 3 ≤ k ∧ k ≤ 6) (h2 : ¬ k = 6) (h3 : ¬ d.size = 0) : s.stepP k n d = (Synod.zero, 1) := by
  unfold Synod.stepP; rw [if_neg (fun hh => hh h), if_pos ⟨h2, h3⟩]
theorem Synod.step_r {s : Synod} {k n : Int} {d : ByteArray} (h : 3 ≤ k ∧ k ≤ 6) (h2 : ¬ k = 6) (h3 : d.size = 0) (h4 : ¬ (0 ≤ n ∧ n < s.votes.length)) : s.stepP k n d = (Synod.zero, 3) := by
  unfold Synod.stepP; rw [if_neg (fun hh => hh h), if_neg (fun hh => hh.2 h3), if_neg h2, if_pos h4]
theorem Synod.step_v {s : Synod} {k n : Int} {d : ByteArray} (h : 3 ≤ k ∧ k ≤ 6) (h2 : ¬ k = 6) (h3 : d.size = 0) {v : Vote} (hv : s.votes[n.toNat]? = some v) (h0 : 0 ≤ n) : s.stepP k n d = if k = 3 then ((s.away n.toNat).passP v).manyP else if k = 4 then (s.away n.toNat).manyP else ({ s with votes := s.votes ++ [v] } : Synod).manyP := by
  have := (List.getElem?_eq_some_iff.1 hv).1
  unfold Synod.stepP; rw [if_neg (fun hh => hh h), if_neg (fun hh => hh.2 h3), if_neg h2, if_neg (fun hh => hh ⟨h0, by omega⟩), hv]
theorem Synod.step_s {s : Synod} {n : Int} {d : ByteArray} (h3 : d.size = 0) {v : Vote} (hv : s.votes[n.toNat]? = some v) (h0 : 0 ≤ n) (hk : v.kind = 1 ∨ v.kind = 3) {st : Seat} (hst : s.seats[v.node.toNat]? = some st) :
    s.stepP 3 n d = Synod.manyP ⟨s.voters, s.seats.set (0 + v.node.toNat) (st.serveP v).1, s.bids, s.votes.eraseIdx n.toNat ++ (st.serveP v).2.1⟩ := by
  rw [Synod.step_v (by omega) (by omega) h3 hv h0, if_pos rfl, Nat.zero_add]
  unfold Synod.passP
  rw [if_pos hk, show (s.away n.toNat).seats = s.seats from rfl, hst]; rfl
theorem Synod.step_b {s : Synod} {n : Int} {d : ByteArray} (h3 : d.size = 0) {v : Vote} (hv : s.votes[n.toNat]? = some v) (h0 : 0 ≤ n) (hk : ¬ (v.kind = 1 ∨ v.kind = 3)) {b : Bid} (hb : s.bids[v.bid.toNat]? = some b) :
    s.stepP 3 n d = Synod.manyP ⟨s.voters, s.seats, s.bids.set (0 + v.bid.toNat) (hearP s.voters v.bid b v).1, s.votes.eraseIdx n.toNat ++ (hearP s.voters v.bid b v).2.1⟩ := by
  rw [Synod.step_v (by omega) (by omega) h3 hv h0, if_pos rfl, Nat.zero_add]
  unfold Synod.passP
  rw [if_neg hk, show (s.away n.toNat).bids = s.bids from rfl, hb]; rfl
theorem Synod.step_4 {s : Synod} {n : Int} {d : ByteArray} (h3 : d.size = 0) {v : Vote} (hv : s.votes[n.toNat]? = some v) (h0 : 0 ≤ n) (hm : s.votes.length ≤ 200) : s.stepP 4 n d = (⟨s.voters, s.seats, s.bids, s.votes.eraseIdx n.toNat⟩, 0) := by
  rw [Synod.step_v (by omega) (by omega) h3 hv h0, if_neg (by omega), if_pos rfl, Synod.many_0]
  · rfl
  · have := (List.eraseIdx_sublist s.votes n.toNat).length_le
    show (s.votes.eraseIdx n.toNat).length ≤ 200; omega
theorem Synod.step_5 {s : Synod} {n : Int} {d : ByteArray} (h3 : d.size = 0) {v : Vote} (hv : s.votes[n.toNat]? = some v) (h0 : 0 ≤ n) : s.stepP 5 n d = Synod.manyP ⟨s.voters, s.seats, s.bids, s.votes ++ [v]⟩ := by
  rw [Synod.step_v (by omega) (by omega) h3 hv h0, if_neg (by omega), if_neg (by omega)]
theorem Synod.step_6m {s : Synod} {n : Int} {d : ByteArray} (h : s.bids.length = 31) : s.stepP 6 n d = (Synod.zero, 2) := by rw [bid_eq]; unfold Synod.bidP; rw [if_pos h]
theorem Synod.step_6e {s : Synod} {n : Int} {d : ByteArray} (h : ¬ s.bids.length = 31) (h2 : ¬ (beginP s.voters s.bids.length n d).2.2 = 0) : s.stepP 6 n d = (Synod.zero, (beginP s.voters s.bids.length n d).2.2) := by rw [bid_eq]; unfold Synod.bidP; rw [if_neg h, if_pos h2]
theorem Synod.step_6 {s : Synod} {n : Int} {d : ByteArray} (h : ¬ s.bids.length = 31) (h2 : (beginP s.voters s.bids.length n d).2.2 = 0) : s.stepP 6 n d = Synod.manyP ⟨s.voters, s.seats, s.bids ++ [(beginP s.voters s.bids.length n d).1], s.votes ++ (beginP s.voters s.bids.length n d).2.1⟩ := by rw [bid_eq]; unfold Synod.bidP; rw [if_neg h, if_neg (fun hh => hh h2)]
theorem Synod.Ok.vv {s : Synod} (ok : s.Ok) : ∀ v, v ∈ s.votes → (0 ≤ v.node ∧ v.node < s.seats.length) ∧ (0 ≤ v.bid ∧ v.bid < s.bids.length) ∧ (1 ≤ v.kind ∧ v.kind ≤ 4) := fun v hv => by
  obtain ⟨a, b, c⟩ := ok.votes v hv
  obtain ⟨r1, r2, r3⟩ := vote_rng a
  exact ⟨⟨r3.1, b⟩, ⟨r2.1, c⟩, r1⟩
section
variable (a22 : Bid) (a4 : Vote) (a8 : Seat) (d : ByteArray) (n : Int) (s : Synod)
abbrev M116 := (List.eraseIdx s.votes (Int.toNat n))
abbrev M117 := ((hearP s.voters a4.bid a22 a4).2.1)
abbrev M118 := (((a8.serveP a4).2.1).map Vote.cs)
abbrev M0 : OB := some ⟨5, [[.lst 1 (s.voters.weights.map cI), VI s.voters.need, .lst 5 (s.seats.map Seat.cs), .lst 8 (s.bids.map Bid.cs), .lst 6 (s.votes.map Vote.cs)]]⟩
abbrev M1 : OB := some ⟨3, [[VI 3, VI n, .v (.string d)]]⟩
abbrev M2 : OB := some ⟨5, [[.emp, VI 0, .emp, .emp, .emp]]⟩
abbrev M3 : LS := [(4, .ref 2 5 0 0), (3, .ref 1 3 0 0), (2, .ref 0 5 0 0)]
abbrev M4 : AV := .agg [.lst 1 (s.voters.weights.map cI), VI s.voters.need, .lst 5 (s.seats.map Seat.cs), .lst 8 (s.bids.map Bid.cs), .lst 6 (s.votes.map Vote.cs)]
abbrev M5 : LB := [(M0 s), (M1 d n), M2, (M0 s), M2]
abbrev M6 : LS := [(5, .lst 1 (s.voters.weights.map cI)), (4, .ref 3 5 0 0), (3, .ref 3 5 0 0), (2, .ref 4 5 0 0), (1, .ref 3 5 0 0)]
abbrev M7 : AV := .agg [.lst 1 (s.voters.weights.map cI), VI s.voters.need]
abbrev M8 : LS := (12, .lst 5 (s.seats.map Seat.cs)) :: (11, .ref 3 5 0 2) :: (10, (M7 s)) :: (9, VI s.voters.need) :: (8, .ref 3 5 0 1) :: (7, .ref 3 5 0 0) :: (6, .lst 1 (s.voters.weights.map cI)) :: (M6 s)
abbrev M9 : OB := some ⟨5, (s.seats.map Seat.cs)⟩
abbrev M10 : LB := [(M0 s), (M1 d n), M2, (M0 s), M2, (M9 s)]
abbrev M11 : LS := (15, .lst 8 (s.bids.map Bid.cs)) :: (14, .ref 3 5 0 3) :: (13, .own 5 5 0 (List.length s.seats)) :: (M8 s)
abbrev M12 : LB := [(M0 s), (M1 d n), M2, (M0 s), M2, (M9 s), some ⟨8, (s.bids.map Bid.cs)⟩]
abbrev M13 : LS := (18, .lst 6 (s.votes.map Vote.cs)) :: (17, .ref 3 5 0 4) :: (16, .own 6 8 0 (List.length s.bids)) :: (M11 s)
abbrev M14 : OB := some ⟨6, (s.votes.map Vote.cs)⟩
abbrev M15 : LB := [(M0 s), (M1 d n), M2, (M0 s), M2, (M9 s), some ⟨8, (s.bids.map Bid.cs)⟩, (M14 s)]
abbrev M16 : OB := some ⟨5, [[.lst 1 (s.voters.weights.map cI), VI s.voters.need, .own 5 5 0 (List.length s.seats), .own 6 8 0 (List.length s.bids), .own 7 6 0 (List.length s.votes)]]⟩
abbrev M17 : LB := [(M0 s), (M1 d n), M2, (M0 s), (M16 s), (M9 s), some ⟨8, (s.bids.map Bid.cs)⟩, (M14 s)]
abbrev M18 : AV := .agg [.lst 1 (s.voters.weights.map cI), VI s.voters.need, .own 4 5 0 (List.length s.seats), .own 5 8 0 (List.length s.bids), .own 6 6 0 (List.length s.votes)]
abbrev M19 : OB := some ⟨5, [[.lst 1 (s.voters.weights.map cI), VI s.voters.need, .own 4 5 0 (List.length s.seats), .own 5 8 0 (List.length s.bids), .own 6 6 0 (List.length s.votes)]]⟩
abbrev M20 : LB := [(M0 s), (M1 d n), M2, (M19 s), (M9 s), some ⟨8, (s.bids.map Bid.cs)⟩, (M14 s)]
abbrev M21 : LB := [(M0 s), (M1 d n), M2, (M19 s), (M9 s), some ⟨8, (s.bids.map Bid.cs)⟩, (M14 s), (M19 s)]
abbrev M22 : LS := [(6, .ref 7 5 0 0), (4, .ref 2 5 0 0), (3, .ref 1 3 0 0)]
abbrev M23 : AV := .agg [VI 3, VI n, .v (.string d)]
abbrev M24 : LB := [(M0 s), (M1 d n), M2, (M19 s), (M9 s), some ⟨8, (s.bids.map Bid.cs)⟩, (M14 s), (M19 s), some ⟨1, [[.ref 7 5 0 0]]⟩, (M1 d n)]
abbrev M25 : OB := some ⟨0, [[VI 6, .fn 74 [.ref 8 1 0 0, .ref 9 3 0 0]], [VI 3, .fn 76 [.ref 8 1 0 0, .ref 9 3 0 0]], [VI 4, .fn 79 [.ref 8 1 0 0, .ref 9 3 0 0]], [VI 5, .fn 80 [.ref 8 1 0 0, .ref 9 3 0 0]]]⟩
abbrev M26 : LB := [(M0 s), (M1 d n), M2, (M19 s), (M9 s), some ⟨8, (s.bids.map Bid.cs)⟩, (M14 s), (M19 s), some ⟨1, [[.ref 7 5 0 0]]⟩, (M1 d n), M25]
abbrev M27 : LS := [(12, VI 3), (11, .ref 9 3 0 0), (10, .mp 10), (9, .fn 80 [.ref 8 1 0 0, .ref 9 3 0 0]), (8, .fn 79 [.ref 8 1 0 0, .ref 9 3 0 0]), (7, .fn 76 [.ref 8 1 0 0, .ref 9 3 0 0]), (6, .fn 74 [.ref 8 1 0 0, .ref 9 3 0 0]), (5, .mp 10), (3, .ref 9 3 0 0), (2, .ref 8 1 0 0)]
abbrev M28 : LS := (13, .fn 76 [.ref 8 1 0 0, .ref 9 3 0 0]) :: M27
abbrev M29 : LS := (15, .fn 76 [.ref 8 1 0 0, .ref 9 3 0 0]) :: (14, (M23 d n)) :: (13, .ref 7 5 0 0) :: M22
abbrev M30 : LS := (7, .fn 76 [.ref 8 1 0 0, .ref 9 3 0 0]) :: M22
abbrev M31 : LS := (23, .v (.string d)) :: (22, .ref 1 3 0 2) :: (18, .v (.bool false)) :: M30
abbrev M34 : LS := (36, VI n) :: (35, .ref 1 3 0 1) :: (34, .v (.bool true)) :: (33, .v (.bool true)) :: (32, VI 3) :: (31, .ref 1 3 0 0) :: (21, .v (.bool false)) :: M30
abbrev M35 : LS := [(30, .v (.bool true)), (7, .fn 76 [.ref 8 1 0 0, .ref 9 3 0 0]), (6, .ref 7 5 0 0), (4, .ref 2 5 0 0)]
abbrev M36 : LS := [(7, .fn 76 [.ref 8 1 0 0, .ref 9 3 0 0]), (6, .ref 7 5 0 0), (4, .ref 2 5 0 0)]
abbrev M37 : LS := (16, .fn 76 [.ref 8 1 0 0, .ref 9 3 0 0]) :: (30, .v (.bool false)) :: M36
abbrev M38 : LS := [(6, VI n), (5, .ref 9 3 0 1), (4, .ref 7 5 0 0), (3, .ref 7 5 0 0), (0, .ref 8 1 0 0), (1, .ref 9 3 0 0)]
abbrev M39 : OB := some ⟨6, [[VI 0, VI 0, VI 0, VI 0, VI 0, .v (.string (⟨#[]⟩))]]⟩
abbrev M40 : LB := [(M0 s), (M1 d n), M2, (M19 s), (M9 s), some ⟨8, (s.bids.map Bid.cs)⟩, (M14 s), (M19 s), some ⟨1, [[.ref 7 5 0 0]]⟩, (M1 d n), M39]
abbrev M41 : LS := [(4, .ref 10 6 0 0), (0, .ref 7 5 0 0), (1, VI n)]
abbrev M42 : LS := (11, VI n) :: (10, .own 6 6 0 (List.length s.votes)) :: (9, .ref 7 5 0 4) :: (8, .ref 7 5 0 0) :: (7, .ref 7 5 0 0) :: (6, .ref 7 5 0 0) :: (M41 n)
abbrev M43 : AV := .agg [VI a4.kind, VI a4.bid, VI a4.node, VI a4.copy.at_.time, VI a4.copy.at_.who, .v (.string a4.copy.data)]
abbrev M44 : LS := (13, (M43 a4)) :: (12, .ref 6 6 (0 + Int.toNat n) 0) :: (M42 n s)
abbrev M45 : OB := some ⟨6, [[VI a4.kind, VI a4.bid, VI a4.node, VI a4.copy.at_.time, VI a4.copy.at_.who, .v (.string a4.copy.data)]]⟩
abbrev M46 : LB := [(M0 s), (M1 d n), M2, (M19 s), (M9 s), some ⟨8, (s.bids.map Bid.cs)⟩, (M14 s), (M19 s), some ⟨1, [[.ref 7 5 0 0]]⟩, (M1 d n), M39, (M45 a4)]
abbrev M47 : LS := (21, VI n) :: (20, VI n) :: (19, .own 6 6 0 (List.length s.votes)) :: (18, .ref 7 5 0 4) :: (17, .ref 7 5 0 0) :: (16, .ref 7 5 0 0) :: (15, .ref 7 5 0 0) :: (14, .ref 7 5 0 0) :: (5, .ref 11 6 0 0) :: (M41 n)
abbrev M48 : OB := some ⟨6, ((M116 n s).map Vote.cs)⟩
abbrev M49 : LB := [(M0 s), (M1 d n), M2, (M19 s), (M9 s), some ⟨8, (s.bids.map Bid.cs)⟩, none, (M19 s), some ⟨1, [[.ref 7 5 0 0]]⟩, (M1 d n), M39, (M45 a4), none, (M48 n s)]
abbrev M50 : LS := (23, .own 13 6 0 (List.length (M116 n s))) :: (22, VI (n + 1)) :: (M47 n s)
abbrev M51 : OB := some ⟨5, [[.lst 1 (s.voters.weights.map cI), VI s.voters.need, .own 4 5 0 (List.length s.seats), .own 5 8 0 (List.length s.bids), .own 13 6 0 (List.length (M116 n s))]]⟩
abbrev M52 : LB := [(M0 s), (M1 d n), M2, (M19 s), (M9 s), some ⟨8, (s.bids.map Bid.cs)⟩, none, (M51 n s), some ⟨1, [[.ref 7 5 0 0]]⟩, (M1 d n), M39, (M45 a4), none, (M48 n s)]
abbrev M53 : LB := [(M0 s), (M1 d n), M2, (M19 s), (M9 s), some ⟨8, (s.bids.map Bid.cs)⟩, none, (M51 n s), some ⟨1, [[.ref 7 5 0 0]]⟩, (M1 d n), (M45 a4), (M45 a4), none, (M48 n s)]
abbrev M54 : OB := some ⟨5, [[.lst 1 (s.voters.weights.map cI), VI s.voters.need, .own 4 5 0 (List.length s.seats), .own 5 8 0 (List.length s.bids), .dead]]⟩
abbrev M55 : OB := some ⟨5, [[.lst 1 (s.voters.weights.map cI), VI s.voters.need, .own 4 5 0 (List.length s.seats), .own 5 8 0 (List.length s.bids), .own 10 6 0 (List.length (M116 n s))]]⟩
abbrev M56 : LB := [(M0 s), (M1 d n), M2, (M54 s), (M9 s), some ⟨8, (s.bids.map Bid.cs)⟩, none, (M55 n s), some ⟨1, [[.ref 7 5 0 0]]⟩, (M1 d n), (M48 n s), (M45 a4)]
abbrev M57 : LB := [(M0 s), (M1 d n), M2, (M54 s), (M9 s), some ⟨8, (s.bids.map Bid.cs)⟩, none, (M55 n s), some ⟨1, [[.ref 7 5 0 0]]⟩, (M1 d n), (M48 n s), (M45 a4), (M45 a4)]
abbrev M58 : LS := [(7, VI a4.kind), (6, .ref 12 6 0 0), (3, .ref 12 6 0 0), (0, .ref 7 5 0 0)]
abbrev M59 : LS := (13, .v (.bool true)) :: (12, .v undef) :: (11, .v undef) :: (10, .v undef) :: (9, .v (.bool true)) :: (8, .v (.bool true)) :: (M58 a4)
abbrev M60 : LS := (11, VI a4.kind) :: (10, .ref 12 6 0 0) :: (9, .v (.bool false)) :: (8, .v (.bool false)) :: (M58 a4)
abbrev M61 : LS := [(0, .ref 7 5 0 0), (3, .ref 12 6 0 0), (13, .v (.bool true))]
abbrev M62 : LS := (28, VI a4.node) :: (27, .ref 12 6 0 2) :: (26, .own 4 5 0 (List.length s.seats)) :: (25, .ref 7 5 0 2) :: (24, .ref 7 5 0 0) :: (23, .ref 7 5 0 0) :: (22, .ref 7 5 0 0) :: (21, VI a4.node) :: (20, .ref 12 6 0 2) :: (19, .own 4 5 0 (List.length s.seats)) :: (18, .ref 7 5 0 2) :: (17, .ref 7 5 0 0) :: (16, .ref 7 5 0 0) :: (15, .ref 7 5 0 0) :: M61
abbrev M63 : LS := (29, .ref 4 5 (0 + Int.toNat a4.node) 0) :: (M62 a4 s)
abbrev M64 : AV := .agg [VI a8.promised.time, VI a8.promised.who, VI a8.kept.at_.time, VI a8.kept.at_.who, .v (.string a8.kept.data)]
abbrev M65 : AV := .agg [VI ((((a8.serveP a4).1).promised).time), VI ((((a8.serveP a4).1).promised).who), VI (((((a8.serveP a4).1).kept).at_).time), VI (((((a8.serveP a4).1).kept).at_).who), .v (.string ((((a8.serveP a4).1).kept).data))]
abbrev M66 : LS := (32, .tup [(M65 a4 a8), .lst 6 (M118 a4 a8), VI ((a8.serveP a4).2.2)]) :: (31, (M43 a4)) :: (30, (M64 a8)) :: (M63 a4 s)
abbrev M67 : LS := (35, VI ((a8.serveP a4).2.2)) :: (34, .lst 6 (M118 a4 a8)) :: (33, (M65 a4 a8)) :: (14, .tup [(M65 a4 a8), .lst 6 (M118 a4 a8), VI ((a8.serveP a4).2.2)]) :: (M66 a4 a8 s)
abbrev M68 : LS := (36, .ref 4 5 (0 + Int.toNat a4.node) 0) :: (M67 a4 a8 s)
abbrev M69 : OB := some ⟨5, ((List.set s.seats (0 + Int.toNat a4.node) ((a8.serveP a4).1)).map Seat.cs)⟩
abbrev M70 : LB := [(M0 s), (M1 d n), M2, (M54 s), (M69 a4 a8 s), some ⟨8, (s.bids.map Bid.cs)⟩, none, (M55 n s), some ⟨1, [[.ref 7 5 0 0]]⟩, (M1 d n), (M48 n s), (M45 a4), (M45 a4)]
abbrev M71 : LS := (5, .lst 6 (M118 a4 a8)) :: (M68 a4 a8 s)
abbrev M72 : LS := (68, .lst 6 (M118 a4 a8)) :: (67, .ref 7 5 0 0) :: (M71 a4 a8 s)
abbrev M73 : LS := [(11, .lst 6 (M118 a4 a8)), (10, .own 10 6 0 (List.length (M116 n s))), (9, .ref 7 5 0 4), (8, .ref 7 5 0 0), (7, .ref 7 5 0 0), (6, .ref 7 5 0 0), (5, .ref 7 5 0 0), (0, .ref 7 5 0 0), (1, .lst 6 (M118 a4 a8))]
abbrev M74 : OB := some ⟨6, (((M116 n s) ++ ((a8.serveP a4).2.1)).map Vote.cs)⟩
abbrev M75 : LB := [(M0 s), (M1 d n), M2, (M54 s), (M69 a4 a8 s), some ⟨8, (s.bids.map Bid.cs)⟩, none, (M55 n s), some ⟨1, [[.ref 7 5 0 0]]⟩, (M1 d n), none, (M45 a4), (M45 a4), (M74 a4 a8 n s)]
abbrev M76 : LS := (12, .own 13 6 0 (List.length ((M116 n s) ++ ((a8.serveP a4).2.1)))) :: (M73 a4 a8 n s)
abbrev M77 : OB := some ⟨5, [[.lst 1 (s.voters.weights.map cI), VI s.voters.need, .own 4 5 0 (List.length s.seats), .own 5 8 0 (List.length s.bids), .own 13 6 0 (List.length ((M116 n s) ++ ((a8.serveP a4).2.1)))]]⟩
abbrev M78 : LB := [(M0 s), (M1 d n), M2, (M54 s), (M69 a4 a8 s), some ⟨8, (s.bids.map Bid.cs)⟩, none, (M77 a4 a8 n s), some ⟨1, [[.ref 7 5 0 0]]⟩, (M1 d n), none, (M45 a4), (M45 a4), (M74 a4 a8 n s)]
abbrev M79 : OB := some ⟨5, [[.lst 1 (s.voters.weights.map cI), VI s.voters.need, .own 4 5 0 (List.length s.seats), .own 5 8 0 (List.length s.bids), .own 12 6 0 (List.length ((M116 n s) ++ ((a8.serveP a4).2.1)))]]⟩
abbrev M80 : LB := [(M0 s), (M1 d n), M2, (M54 s), (M69 a4 a8 s), some ⟨8, (s.bids.map Bid.cs)⟩, none, (M79 a4 a8 n s), some ⟨1, [[.ref 7 5 0 0]]⟩, (M1 d n), none, (M45 a4), (M74 a4 a8 n s)]
abbrev M81 : OB := some ⟨5, [[.lst 1 (s.voters.weights.map cI), VI s.voters.need, .own 4 5 0 (List.length s.seats), .own 5 8 0 (List.length s.bids), .own 10 6 0 (List.length ((M116 n s) ++ ((a8.serveP a4).2.1)))]]⟩
abbrev M82 : LB := [(M0 s), (M1 d n), M2, (M54 s), (M69 a4 a8 s), some ⟨8, (s.bids.map Bid.cs)⟩, none, (M81 a4 a8 n s), some ⟨1, [[.ref 7 5 0 0]]⟩, (M1 d n), (M74 a4 a8 n s)]
abbrev M83 : LS := [(58, VI a4.bid), (57, .ref 12 6 0 1), (56, .own 5 8 0 (List.length s.bids)), (55, .ref 7 5 0 3), (54, .ref 7 5 0 0), (53, .ref 7 5 0 0), (52, .ref 7 5 0 0), (51, VI a4.bid), (50, .ref 12 6 0 1), (49, (M7 s)), (48, .ref 7 5 0 0), (47, .ref 7 5 0 0), (46, .ref 7 5 0 0), (45, .ref 7 5 0 0), (44, VI a4.bid), (43, .ref 12 6 0 1), (42, .own 5 8 0 (List.length s.bids)), (41, .ref 7 5 0 3), (40, .ref 7 5 0 0), (39, .ref 7 5 0 0), (38, .ref 7 5 0 0), (13, .v (.bool false)), (3, .ref 12 6 0 0), (0, .ref 7 5 0 0)]
abbrev M84 : AV := .agg [VI a22.time, VI a22.phase, .v (.string a22.own), .v (.string a22.value), VI a22.best.at_.time, VI a22.best.at_.who, .v (.string a22.best.data), .v (.int .u64 (a22.heard.n : Int))]
abbrev M85 : LS := (60, (M84 a22)) :: (59, .ref 5 8 (0 + Int.toNat a4.bid) 0) :: (M83 a4 s)
abbrev M86 : Bid := (hearP s.voters a4.bid a22 a4).1
abbrev M87 : AV := .agg [VI ((M86 a22 a4 s).time), VI ((M86 a22 a4 s).phase), .v (.string ((M86 a22 a4 s).own)), .v (.string ((M86 a22 a4 s).value)), VI ((((M86 a22 a4 s).best).at_).time), VI ((((M86 a22 a4 s).best).at_).who), .v (.string (((M86 a22 a4 s).best).data)), .v (.int .u64 ((M86 a22 a4 s).heard.n : Int))]
abbrev M88 : LS := (62, .tup [(M87 a22 a4 s), .lst 6 ((M117 a22 a4 s).map Vote.cs), VI ((hearP s.voters a4.bid a22 a4).2.2)]) :: (61, (M43 a4)) :: (M85 a22 a4 s)
abbrev M89 : LS := (65, VI ((hearP s.voters a4.bid a22 a4).2.2)) :: (64, .lst 6 ((M117 a22 a4 s).map Vote.cs)) :: (63, (M87 a22 a4 s)) :: (37, .tup [(M87 a22 a4 s), .lst 6 ((M117 a22 a4 s).map Vote.cs), VI ((hearP s.voters a4.bid a22 a4).2.2)]) :: (M88 a22 a4 s)
abbrev M90 : OB := some ⟨8, ((List.set s.bids (0 + Int.toNat a4.bid) (M86 a22 a4 s)).map Bid.cs)⟩
abbrev M91 : LB := [(M0 s), (M1 d n), M2, (M54 s), (M9 s), (M90 a22 a4 s), none, (M55 n s), some ⟨1, [[.ref 7 5 0 0]]⟩, (M1 d n), (M48 n s), (M45 a4), (M45 a4)]
abbrev M92 : LS := (5, .lst 6 ((M117 a22 a4 s).map Vote.cs)) :: (66, .ref 5 8 (0 + Int.toNat a4.bid) 0) :: (M89 a22 a4 s)
abbrev M93 : LS := (68, .lst 6 ((M117 a22 a4 s).map Vote.cs)) :: (67, .ref 7 5 0 0) :: (M92 a22 a4 s)
abbrev M94 : LS := [(11, .lst 6 ((M117 a22 a4 s).map Vote.cs)), (10, .own 10 6 0 (List.length (M116 n s))), (9, .ref 7 5 0 4), (8, .ref 7 5 0 0), (7, .ref 7 5 0 0), (6, .ref 7 5 0 0), (5, .ref 7 5 0 0), (0, .ref 7 5 0 0), (1, .lst 6 ((M117 a22 a4 s).map Vote.cs))]
abbrev M95 : OB := some ⟨6, (((M116 n s) ++ (M117 a22 a4 s)).map Vote.cs)⟩
abbrev M96 : LB := [(M0 s), (M1 d n), M2, (M54 s), (M9 s), (M90 a22 a4 s), none, (M55 n s), some ⟨1, [[.ref 7 5 0 0]]⟩, (M1 d n), none, (M45 a4), (M45 a4), (M95 a22 a4 n s)]
abbrev M97 : LS := (12, .own 13 6 0 (List.length ((M116 n s) ++ (M117 a22 a4 s)))) :: (M94 a22 a4 n s)
abbrev M98 : OB := some ⟨5, [[.lst 1 (s.voters.weights.map cI), VI s.voters.need, .own 4 5 0 (List.length s.seats), .own 5 8 0 (List.length s.bids), .own 13 6 0 (List.length ((M116 n s) ++ (M117 a22 a4 s)))]]⟩
abbrev M99 : LB := [(M0 s), (M1 d n), M2, (M54 s), (M9 s), (M90 a22 a4 s), none, (M98 a22 a4 n s), some ⟨1, [[.ref 7 5 0 0]]⟩, (M1 d n), none, (M45 a4), (M45 a4), (M95 a22 a4 n s)]
abbrev M100 : OB := some ⟨5, [[.lst 1 (s.voters.weights.map cI), VI s.voters.need, .own 4 5 0 (List.length s.seats), .own 5 8 0 (List.length s.bids), .own 12 6 0 (List.length ((M116 n s) ++ (M117 a22 a4 s)))]]⟩
abbrev M101 : LB := [(M0 s), (M1 d n), M2, (M54 s), (M9 s), (M90 a22 a4 s), none, (M100 a22 a4 n s), some ⟨1, [[.ref 7 5 0 0]]⟩, (M1 d n), none, (M45 a4), (M95 a22 a4 n s)]
abbrev M102 : OB := some ⟨5, [[.lst 1 (s.voters.weights.map cI), VI s.voters.need, .own 4 5 0 (List.length s.seats), .own 5 8 0 (List.length s.bids), .own 10 6 0 (List.length ((M116 n s) ++ (M117 a22 a4 s)))]]⟩
abbrev M103 : LB := [(M0 s), (M1 d n), M2, (M54 s), (M9 s), (M90 a22 a4 s), none, (M102 a22 a4 n s), some ⟨1, [[.ref 7 5 0 0]]⟩, (M1 d n), (M95 a22 a4 n s)]
abbrev M104 : LS := [(51, .v (.bool true)), (8, VI 3), (6, .ref 7 5 0 0), (4, .ref 2 5 0 0)]
abbrev M106 : AV := .agg [.emp, VI 0, .emp, .emp, .emp]
abbrev M107 : LS := [(51, .v (.bool true)), (8, VI 2), (6, .ref 7 5 0 0), (4, .ref 2 5 0 0)]
abbrev M108 : LS := [(51, .v (.bool false)), (8, VI 0), (6, .ref 7 5 0 0), (4, .ref 2 5 0 0)]
abbrev M109 : LB := [(M0 s), (M1 d n), (M81 a4 a8 n s), (M54 s), (M69 a4 a8 s), some ⟨8, (s.bids.map Bid.cs)⟩, none, (M81 a4 a8 n s), some ⟨1, [[.ref 7 5 0 0]]⟩, (M1 d n), (M74 a4 a8 n s)]
abbrev M110 : AV := .agg [.lst 1 (s.voters.weights.map cI), VI s.voters.need, .own 4 5 0 (List.length s.seats), .own 5 8 0 (List.length s.bids), .own 10 6 0 (List.length ((M116 n s) ++ ((a8.serveP a4).2.1)))]
abbrev M111 : AV := .agg [.lst 1 (s.voters.weights.map cI), VI s.voters.need, .lst 5 ((List.set s.seats (0 + Int.toNat a4.node) ((a8.serveP a4).1)).map Seat.cs), .lst 8 (s.bids.map Bid.cs), .lst 6 (((M116 n s) ++ ((a8.serveP a4).2.1)).map Vote.cs)]
abbrev M112 : LB := [(M0 s), (M1 d n), (M102 a22 a4 n s), (M54 s), (M9 s), (M90 a22 a4 s), none, (M102 a22 a4 n s), some ⟨1, [[.ref 7 5 0 0]]⟩, (M1 d n), (M95 a22 a4 n s)]
abbrev M113 : AV := .agg [.lst 1 (s.voters.weights.map cI), VI s.voters.need, .own 4 5 0 (List.length s.seats), .own 5 8 0 (List.length s.bids), .own 10 6 0 (List.length ((M116 n s) ++ (M117 a22 a4 s)))]
abbrev M114 : AV := .agg [.lst 1 (s.voters.weights.map cI), VI s.voters.need, .lst 5 (s.seats.map Seat.cs), .lst 8 ((List.set s.bids (0 + Int.toNat a4.bid) (M86 a22 a4 s)).map Bid.cs), .lst 6 (((M116 n s) ++ (M117 a22 a4 s)).map Vote.cs)]
abbrev M115 : LS := [(51, .v (.bool true)), (8, VI 1), (6, .ref 7 5 0 0), (4, .ref 2 5 0 0)]
end
theorem step3_fn (s : Synod) (n : Int) (d : ByteArray) (ok : s.Ok) : Fn Tryd.prog 28 [.agg [.lst 1 (s.voters.weights.map cI), VI s.voters.need, .lst 5 (s.seats.map Seat.cs), .lst 8 (s.bids.map Bid.cs), .lst 6 (s.votes.map Vote.cs)], .agg [VI 3, VI n, .v (.string d)]] (.tup [.agg [.lst 1 (((((s.stepP 3 n d).1).voters).weights).map cI), VI ((((s.stepP 3 n d).1).voters).need), .lst 5 ((((s.stepP 3 n d).1).seats).map Seat.cs), .lst 8 ((((s.stepP 3 n d).1).bids).map Bid.cs), .lst 6 ((((s.stepP 3 n d).1).votes).map Vote.cs)], VI ((s.stepP 3 n d).2)]) := by
 have q1 := qc_len ok.q
 have q2 := ok.len
 have q3 := ok.few
 have q4 := ok.many
 have vv := ok.vv
 have hx1 : s.voters.weights.length ≤ 9223372036854775807 := by omega
 refine fnw F28_ok ?_
 refine srl 4 [2, 3, 4] ⟨M3, [(M0 s), (M1 d n), M2]⟩ ?_
 refine srr 1 ⟨(9, (M4 s)) :: M3, [(M0 s), (M1 d n), M2]⟩ ?_
 refine owj [(M4 s)] (M18 s) (M20 d n s) ⟨(10, (M18 s)) :: (9, (M4 s)) :: M3, (M20 d n s)⟩ (fiw F49_ok ?_) ?_
 refine srl 2 [1, 2] ⟨[(2, .ref 4 5 0 0), (1, .ref 3 5 0 0)], (M5 d n s)⟩ ?_
 refine sdr 3 ⟨(M6 s), (M5 d n s)⟩ ?_
 refine dwg [.lst 1 (s.voters.weights.map cI)] ⟨(6, .lst 1 (s.voters.weights.map cI)) :: (M6 s), (M5 d n s)⟩ (cloneI_fo s.voters.weights (by first | omega | exact qc_small (by assumption))) ?_
 refine dwr 6 ⟨(M8 s), (M5 d n s)⟩ ?_
 refine DW.fo (ar := [.lst 5 (s.seats.map Seat.cs)]) (fe := Seat.cs) (xs := s.seats) (x' := ⟨(13, .own 5 5 0 (List.length s.seats)) :: (M8 s), (M10 d n s)⟩) (by kernel_rfl) (by kernel_rfl) F68_call (cloneS_fo s.seats (by first | omega | exact qc_small (by assumption))) (by intro y; kernel_rfl) (by kernel_rfl) (by kernel_rfl) ?_
 refine dwr 2 ⟨(M11 s), (M10 d n s)⟩ ?_
 refine DW.fo (ar := [.lst 8 (s.bids.map Bid.cs)]) (fe := Bid.cs) (xs := s.bids) (x' := ⟨(16, .own 6 8 0 (List.length s.bids)) :: (M11 s), (M12 d n s)⟩) (by kernel_rfl) (by kernel_rfl) F69_call (cloneB_fo s.bids (by first | omega | exact qc_small (by assumption))) (by intro y; kernel_rfl) (by kernel_rfl) (by kernel_rfl) ?_
 refine dwr 2 ⟨(M13 s), (M12 d n s)⟩ ?_
 refine DW.fo (ar := [.lst 6 (s.votes.map Vote.cs)]) (fe := Vote.cs) (xs := s.votes) (x' := ⟨(19, .own 7 6 0 (List.length s.votes)) :: (M13 s), (M15 d n s)⟩) (by kernel_rfl) (by kernel_rfl) F70_call (cloneV_fo s.votes (by first | omega | exact qc_small (by assumption))) (by intro y; kernel_rfl) (by kernel_rfl) (by kernel_rfl) ?_
 refine dwl 2 [2] ⟨[(2, .ref 4 5 0 0)], (M17 d n s)⟩ ?_
 refine EL.ret ?_
 exact fne [2] [uf 0, uf 1, uf 2, uf 4, ut 5, ut 6, ut 7] ⟨[(2, .ref 3 5 0 0)], (M20 d n s)⟩ ⟨pq 5 Seat.cs s.seats, pq 8 Bid.cs s.bids, pq 6 Vote.cs s.votes, trivial⟩
 refine owl 3 [3, 4, 6] ⟨M22, (M21 d n s)⟩ ?_
 refine srr 2 ⟨(14, (M23 d n)) :: (13, .ref 7 5 0 0) :: M22, (M21 d n s)⟩ ?_
 refine owj [.ref 7 5 0 0, (M23 d n)] (.fn 76 [.ref 8 1 0 0, .ref 9 3 0 0]) (M24 d n s) ⟨(M29 d n), (M24 d n s)⟩ (fiw F54_ok ?_) ?_
 refine srl 3 [2, 3] ⟨[(3, .ref 9 3 0 0), (2, .ref 8 1 0 0)], (M24 d n s)⟩ ?_
 refine srr 12 ⟨M27, (M26 d n s)⟩ ?_
 refine ow2 ⟨M28, (M26 d n s)⟩ (opE_mlk .int (.v (.nilFunc)) (.s 10) (.s 12) 10 [[VI 6, .fn 74 [.ref 8 1 0 0, .ref 9 3 0 0]], [VI 3, .fn 76 [.ref 8 1 0 0, .ref 9 3 0 0]], [VI 4, .fn 79 [.ref 8 1 0 0, .ref 9 3 0 0]], [VI 5, .fn 80 [.ref 8 1 0 0, .ref 9 3 0 0]]] (.int .i64 3) (some (.fn 76 [.ref 8 1 0 0, .ref 9 3 0 0])) (by kernel_rfl) (by kernel_rfl) (by kernel_rfl) (by kernel_rfl) (by kernel_rfl) (by kernel_rfl)) ?_
 refine owl 1 [4] ⟨[(4, .fn 76 [.ref 8 1 0 0, .ref 9 3 0 0])], (M26 d n s)⟩ ?_
 refine EL.ret ?_
 exact fne [4] [uf 0, uf 1, uf 2, uf 3, ut 4, ut 5, ut 6, uf 7, uf 8, uf 9] ⟨[(4, .fn 76 [.ref 8 1 0 0, .ref 9 3 0 0])], (M24 d n s)⟩ ⟨pq 5 Seat.cs s.seats, pq 8 Bid.cs s.bids, pq 6 Vote.cs s.votes, trivial⟩
 refine owl 1 [3, 4, 6, 7] ⟨M30, (M24 d n s)⟩ ?_
 refine srl 1 [3, 4, 6, 7] ⟨M30, (M24 d n s)⟩ ?_
 refine EL.seq ?_
 refine EL.block ?_
 refine srl 3 [3, 4, 6, 7, 18] ⟨(18, .v (.bool false)) :: M30, (M24 d n s)⟩ ?_
 refine cnF ?_
 refine srr 4 ⟨(25, .v (.bool (!(strEq d (⟨#[]⟩))))) :: (24, .v (.bool (!(strEq d (⟨#[]⟩))))) :: (M31 d), (M24 d n s)⟩ ?_
 cases h1 : (strEq d (⟨#[]⟩))
 have g1 : ¬ (d = (⟨#[]⟩)) := fun hh => Bool.noConfusion ((strEq_iff.2 hh).symm.trans h1)
 refine owl 5 [3, 4, 6, 7, 21] ⟨(21, .v (.bool true)) :: M30, (M24 d n s)⟩ ?_
 refine cnT ?_
 refine roe 1 ⟨(8, VI 1) :: (21, .v (.bool true)) :: M30, (M24 d n s)⟩ ?_
 refine iN ?_
 refine tN ?_
 refine EL.seq ?_
 refine srl 2 [4, 6, 8, 51] ⟨M115, (M24 d n s)⟩ ?_
 refine cnT ?_
 refine srl 4 [4, 5] ⟨[(5, VI 1), (4, .ref 2 5 0 0)], (M24 d n s)⟩ ?_
 refine rtr ?_
 refine rqa (.tup [M106, VI 1]) (Ale.tup (aT (aE 1 (aR (aE 5 (aE 8 (aE 6 (.nil)))))) (aR .nil))) ?_
 rotate_left
 have g1 : (d = (⟨#[]⟩)) := strEq_iff.1 h1
 refine owl 5 [3, 4, 6, 7, 21] ⟨(21, .v (.bool false)) :: M30, (M24 d n s)⟩ ?_
 refine cnF ?_
 refine sdr 8 ⟨(38, .v (.bool (decide (n < 0)))) :: (37, .v (.bool (decide (n < 0)))) :: (M34 n), (M24 d n s)⟩ ?_
 cases h2 : (decide (n < 0))
 have g2 := of_decide_eq_false h2
 refine dwl 12 [4, 6, 7, 30] ⟨(30, .v (.bool (decide (n ≥ (List.length s.votes : Int))))) :: M36, (M24 d n s)⟩ ?_
 cases h3 : (decide (n ≥ (List.length s.votes : Int)))
 have g3 := of_decide_eq_false h3
 refine cnF ?_
 refine EL.reg0 ?_
 refine owr 1 ⟨M37, (M24 d n s)⟩ ?_
 obtain ⟨a4, ha4⟩ : ∃ y, s.votes[(n : Int).toNat]? = some y := idx_ex ⟨by omega, by omega⟩
 have ma4 := vv _ (List.mem_of_getElem? ha4)
 have hO5 : ((a4.kind = 1) ∨ (¬ a4.kind = 1 ∧ a4.kind = 3)) ∨ ((¬ a4.kind = 1 ∧ ¬ a4.kind = 3)) := by omega
 rcases hO5 with hD6 | hD7
 obtain ⟨a8, ha8⟩ : ∃ y, s.seats[(a4.node : Int).toNat]? = some y := idx_ex ⟨by omega, by omega⟩
 cases h9 : (decide ((List.length ((List.eraseIdx s.votes (Int.toNat n)) ++ ((a8.serveP a4).2.1)) : Int) > 200))
 have g9 := of_decide_eq_false h9
 have n9 : ¬ ((List.length ((List.eraseIdx s.votes (Int.toNat n)) ++ ((a8.serveP a4).2.1))) > 200) := by omega
 refine owj [.ref 8 1 0 0, .ref 9 3 0 0] (VI 0) (M82 a4 a8 d n s) ⟨(17, VI 0) :: M37, (M82 a4 a8 d n s)⟩ (fiw F76_ok ?_) ?_
 refine srl 1 [0, 1] ⟨[(0, .ref 8 1 0 0), (1, .ref 9 3 0 0)], (M24 d n s)⟩ ?_
 refine EL.sdrawF ?_
 refine dfr 4 ⟨(M38 n), (M24 d n s)⟩ ?_
 refine DF.fi (u := [(3, (M54 s)), (6, none), (7, (M55 n s)), (10, (M48 n s)), (11, (M45 a4))]) (ar := [.ref 7 5 0 0, VI n]) (r := (M43 a4)) (m' := (M56 a4 d n s)) (x' := ⟨(7, (M43 a4)) :: (M38 n), (M56 a4 d n s)⟩) (by kernel_rfl) (by kernel_rfl) F78_call ?_ (by kernel_rfl) (by kernel_rfl) (by kernel_rfl) ?_
 refine fiw F78_ok ?_
 refine srl 1 [0, 1, 4] ⟨(M41 n), (M40 d n s)⟩ ?_
 refine srr 6 ⟨(M42 n s), (M40 d n s)⟩ ?_
 refine ow2 ⟨(12, .ref 6 6 (0 + Int.toNat n) 0) :: (M42 n s), (M40 d n s)⟩ (opE_iado (.s 10) (.s 11) 6 6 0 (List.length s.votes) .i64 n ⟨6, (s.votes.map Vote.cs)⟩ (by kernel_rfl) (by kernel_rfl) rfl rfl ⟨by omega, by omega⟩ (by kernel_rfl)) ?_
 refine ow2 ⟨(M44 a4 n s), (M40 d n s)⟩ (opE_ldoS Vote.cs s.votes (some 6) (.s 12) 6 6 (0 + Int.toNat n) 0 a4 ((M43 a4)) (by kernel_rfl) (by kernel_rfl) rfl (by kernel_rfl) (by simpa using ha4) (by kernel_rfl)) ?_
 refine owl 2 [0, 1, 4, 5] ⟨(5, .ref 11 6 0 0) :: (M41 n), (M46 a4 d n s)⟩ ?_
 refine srr 9 ⟨(22, VI (IntKind.i64.wrap (n + 1))) :: (M47 n s), (M46 a4 d n s)⟩ ?_
 have e15 := wr64 (n := n + 1) (by omega)
 rw [e15]
 refine owj [.own 6 6 0 (List.length s.votes), VI n, VI (n + 1)] (.own 13 6 0 (List.length (M116 n s))) (M49 a4 d n s) ⟨(M50 n s), (M49 a4 d n s)⟩ (delete_map (fe := Vote.cs) (xs := s.votes) (m := (M46 a4 d n s)) (id := 6) (by_ := 56) (zs := [VI 0, VI 0, VI 0, VI 0, VI 0, .v (.string ⟨#[]⟩)]) (F87_ok.trans (by kernel_rfl)) rfl (by kernel_rfl) (by omega) (by omega) (by omega)) ?_
 refine owl 4 [4, 5] ⟨[(5, .ref 11 6 0 0), (4, .ref 10 6 0 0)], (M52 a4 d n s)⟩ ?_
 refine srl 2 [4] ⟨[(4, .ref 10 6 0 0)], (M53 a4 d n s)⟩ ?_
 refine EL.ret ?_
 exact fne [4] [uf 0, uf 1, uf 2, uf 3, ut 4, ut 5, uf 6, uf 7, uf 8, uf 9, ut 13, uf 10] ⟨[(4, .ref 11 6 0 0)], (M56 a4 d n s)⟩ ⟨pq 5 Seat.cs s.seats, pq 8 Bid.cs s.bids, pq 6 Vote.cs (M116 n s), trivial⟩
 refine DF.fi (u := [(4, (M69 a4 a8 s)), (7, (M79 a4 a8 n s)), (10, none), (12, (M74 a4 a8 n s))]) (ar := [.ref 7 5 0 0, (M43 a4)]) (r := VI 0) (m' := (M80 a4 a8 d n s)) (x' := ⟨(8, VI 0) :: (7, (M43 a4)) :: (M38 n), (M80 a4 a8 d n s)⟩) (by kernel_rfl) (by kernel_rfl) F77_call ?_ (by kernel_rfl) (by kernel_rfl) (by kernel_rfl) ?_
 refine fiw F77_ok ?_
 refine srl 2 [0, 3] ⟨[(3, .ref 12 6 0 0), (0, .ref 7 5 0 0)], (M57 a4 d n s)⟩ ?_
 refine srl 1 [0, 3] ⟨[(3, .ref 12 6 0 0), (0, .ref 7 5 0 0)], (M57 a4 d n s)⟩ ?_
 refine EL.seq ?_
 refine EL.seqG [0, 3, 13] (fun y => (y = ⟨M61, (M57 a4 d n s)⟩ ∧ ((a4.kind = 1) ∨ (¬ a4.kind = 1 ∧ a4.kind = 3)))) ?_ ?_
 intro IHJ16 HJ16
 refine EL.reg0 ?_
 refine owr 4 ⟨(9, .v (.bool (a4.kind == 1))) :: (8, .v (.bool (a4.kind == 1))) :: (M58 a4), (M57 a4 d n s)⟩ ?_
 cases h17 : (a4.kind == 1)
 have g17 := bqF h17
 refine owe 4 ⟨(13, .v (.bool (a4.kind == 3))) :: (12, .v (.bool (a4.kind == 3))) :: (M60 a4), (M57 a4 d n s)⟩ ?_
 have h18 : (a4.kind == 3) = true := eq_true_of_ne_false (fun hh => absurd hh (by simp only [beq_eq_false_iff_ne, ne_eq]; omega))
 rw [h18]
 exact tN (HJ16.get ⟨by kernel_rfl, (Or.inr (by refine ⟨(by first | exact g17 | exact h17 | simp_all | omega), (by first | exact g18 | exact h18 | simp_all | omega)⟩))⟩)
 have g17 := bqT h17
 refine owe 4 ⟨(M59 a4), (M57 a4 d n s)⟩ ?_
 exact tN (HJ16.get ⟨by kernel_rfl, (Or.inl (by first | exact g17 | exact h17 | simp_all | omega))⟩)
 rintro _ (⟨rfl, hD19⟩)
 refine cnT ?_
 refine EL.draw0 ?_
 refine dwr 14 ⟨(M62 a4 s), (M57 a4 d n s)⟩ ?_
 refine dw2 ⟨(M63 a4 s), (M57 a4 d n s)⟩ (opE_iado (.s 26) (.s 28) 5 4 0 (List.length s.seats) .i64 a4.node ⟨5, (s.seats.map Seat.cs)⟩ (by kernel_rfl) (by kernel_rfl) rfl rfl ⟨by omega, by omega⟩ (by kernel_rfl)) ?_
 refine dw2 ⟨(30, (M64 a8)) :: (M63 a4 s), (M57 a4 d n s)⟩ (opE_ldoS Seat.cs s.seats (some 5) (.s 29) 4 5 (0 + Int.toNat a4.node) 0 a8 ((M64 a8)) (by kernel_rfl) (by kernel_rfl) rfl (by kernel_rfl) (by simpa using ha8) (by kernel_rfl)) ?_
 refine dwr 1 ⟨(31, (M43 a4)) :: (30, (M64 a8)) :: (M63 a4 s), (M57 a4 d n s)⟩ ?_
 refine dwg [(M64 a8), (M43 a4)] ⟨(M66 a4 a8 s), (M57 a4 d n s)⟩ (serve_fn a8 a4) ?_
 refine dwr 4 ⟨(M67 a4 a8 s), (M57 a4 d n s)⟩ ?_
 refine dw2 ⟨(M68 a4 a8 s), (M57 a4 d n s)⟩ (opE_iado (.s 19) (.s 21) 5 4 0 (List.length s.seats) .i64 a4.node ⟨5, (s.seats.map Seat.cs)⟩ (by kernel_rfl) (by kernel_rfl) rfl rfl ⟨by omega, by omega⟩ (by kernel_rfl)) ?_
 refine dw2 ⟨(M68 a4 a8 s), (M70 a4 a8 d n s)⟩ (opE_stoS Seat.cs s.seats 5 (.s 36) (.s 33) 4 5 (0 + Int.toNat a4.node) 0 a8 ((a8.serveP a4).1) ((M65 a4 a8)) (by kernel_rfl) (by kernel_rfl) rfl rfl (by kernel_rfl) (by simpa using ha8) (by kernel_rfl) (by kernel_rfl)) ?_
 refine dwe 1 ⟨(M71 a4 a8 s), (M70 a4 a8 d n s)⟩ ?_
 refine tN ?_
 refine srr 2 ⟨(M72 a4 a8 s), (M70 a4 a8 d n s)⟩ ?_
 refine owj [.ref 7 5 0 0, .lst 6 (M118 a4 a8)] (VI 0) (M78 a4 a8 d n s) ⟨(69, VI 0) :: (M72 a4 a8 s), (M78 a4 a8 d n s)⟩ (fiw F81_ok ?_) ?_
 refine srl 1 [0, 1] ⟨[(0, .ref 7 5 0 0), (1, .lst 6 (M118 a4 a8))], (M70 a4 a8 d n s)⟩ ?_
 refine srr 7 ⟨(M73 a4 a8 n s), (M70 a4 a8 d n s)⟩ ?_
 refine ow2 ⟨(M76 a4 a8 n s), (M75 a4 a8 d n s)⟩ (oap Vote.cs (M116 n s) ((a8.serveP a4).2.1) (.s 10) (.s 11) 6 56 10 (.lst 6 (M118 a4 a8)) .lst (by first | (simp; omega) | omega | exact app_le (by first | exact q4 | exact ers_le q4 | omega) (by first | exact begin_len _ _ _ _ | exact Nat.le_trans (serve_len _ _) (by decide) | exact hear_len _ _ _ _ | (simp; done)) (by decide))) ?_
 refine owl 4 [0] ⟨[(0, .ref 7 5 0 0)], (M78 a4 a8 d n s)⟩ ?_
 refine EL.seq ?_
 refine srl 7 [22] ⟨[(22, .v (.bool (decide ((List.length ((M116 n s) ++ ((a8.serveP a4).2.1)) : Int) > 200))))], (M78 a4 a8 d n s)⟩ ?_
 rw [h9]
 refine cnF ?_
 refine skn ?_
 refine srl 1 [4] ⟨[(4, VI 0)], (M78 a4 a8 d n s)⟩ ?_
 refine EL.ret ?_
 exact fne [4] [uf 0, uf 1, uf 2, uf 3, ut 4, ut 5, uf 6, uf 7, uf 8, uf 9, uf 10, uf 11, uf 12, ut 13] ⟨[(4, VI 0)], (M78 a4 a8 d n s)⟩ ⟨pq 5 Seat.cs (List.set s.seats (0 + Int.toNat a4.node) ((a8.serveP a4).1)), pq 8 Bid.cs s.bids, pq 6 Vote.cs ((M116 n s) ++ ((a8.serveP a4).2.1)), trivial⟩
 refine owl 1 [4] ⟨[(4, VI 0)], (M78 a4 a8 d n s)⟩ ?_
 refine EL.ret ?_
 exact fne [4] [uf 0, uf 1, uf 2, uf 3, ut 4, ut 5, uf 6, uf 7, uf 8, uf 9, uf 10, uf 11, ut 13] ⟨[(4, VI 0)], (M80 a4 a8 d n s)⟩ ⟨pq 5 Seat.cs (List.set s.seats (0 + Int.toNat a4.node) ((a8.serveP a4).1)), pq 8 Bid.cs s.bids, pq 6 Vote.cs ((M116 n s) ++ ((a8.serveP a4).2.1)), trivial⟩
 refine dfl 1 [2] ⟨[(2, VI 0)], (M80 a4 a8 d n s)⟩ ?_
 refine EL.ret ?_
 exact fne [2] [uf 0, uf 1, uf 2, uf 3, ut 4, ut 5, uf 6, uf 7, uf 8, uf 9, ut 12] ⟨[(2, VI 0)], (M82 a4 a8 d n s)⟩ ⟨pq 5 Seat.cs (List.set s.seats (0 + Int.toNat a4.node) ((a8.serveP a4).1)), pq 8 Bid.cs s.bids, pq 6 Vote.cs ((M116 n s) ++ ((a8.serveP a4).2.1)), trivial⟩
 refine owe 1 ⟨(8, VI 0) :: (17, VI 0) :: M37, (M82 a4 a8 d n s)⟩ ?_
 refine iN ?_
 refine tN ?_
 refine EL.seq ?_
 refine srl 2 [4, 6, 8, 51] ⟨M108, (M82 a4 a8 d n s)⟩ ?_
 refine cnF ?_
 refine skn ?_
 refine srl 6 [4, 5] ⟨[(5, VI 0), (4, .ref 2 5 0 0)], (M109 a4 a8 d n s)⟩ ?_
 refine EL.ret ?_
 refine rqs (.tup [(M111 a4 a8 n s), VI 0]) (.tup [(M110 a4 a8 n s), VI 0]) (snapR_tup (sA (snapA_agg (sC (by kernel_rfl) (sC (by kernel_rfl) (sC (smp Seat.cs (List.set s.seats (0 + Int.toNat a4.node) ((a8.serveP a4).1))) (sC (smp Bid.cs s.bids) (sC (smp Vote.cs ((List.eraseIdx s.votes (Int.toNat n)) ++ ((a8.serveP a4).2.1))) (rfl))))))) (sA (by kernel_rfl) (snapAs_nil)))) ?_
 rotate_left
 have g9 := of_decide_eq_true h9
 have n9 : ((List.length ((List.eraseIdx s.votes (Int.toNat n)) ++ ((a8.serveP a4).2.1))) > 200) := by omega
 refine owj [.ref 8 1 0 0, .ref 9 3 0 0] (VI 2) (M82 a4 a8 d n s) ⟨(17, VI 2) :: M37, (M82 a4 a8 d n s)⟩ (fiw F76_ok ?_) ?_
 refine srl 1 [0, 1] ⟨[(0, .ref 8 1 0 0), (1, .ref 9 3 0 0)], (M24 d n s)⟩ ?_
 refine EL.sdrawF ?_
 refine dfr 4 ⟨(M38 n), (M24 d n s)⟩ ?_
 refine DF.fi (u := [(3, (M54 s)), (6, none), (7, (M55 n s)), (10, (M48 n s)), (11, (M45 a4))]) (ar := [.ref 7 5 0 0, VI n]) (r := (M43 a4)) (m' := (M56 a4 d n s)) (x' := ⟨(7, (M43 a4)) :: (M38 n), (M56 a4 d n s)⟩) (by kernel_rfl) (by kernel_rfl) F78_call ?_ (by kernel_rfl) (by kernel_rfl) (by kernel_rfl) ?_
 refine fiw F78_ok ?_
 refine srl 1 [0, 1, 4] ⟨(M41 n), (M40 d n s)⟩ ?_
 refine srr 6 ⟨(M42 n s), (M40 d n s)⟩ ?_
 refine ow2 ⟨(12, .ref 6 6 (0 + Int.toNat n) 0) :: (M42 n s), (M40 d n s)⟩ (opE_iado (.s 10) (.s 11) 6 6 0 (List.length s.votes) .i64 n ⟨6, (s.votes.map Vote.cs)⟩ (by kernel_rfl) (by kernel_rfl) rfl rfl ⟨by omega, by omega⟩ (by kernel_rfl)) ?_
 refine ow2 ⟨(M44 a4 n s), (M40 d n s)⟩ (opE_ldoS Vote.cs s.votes (some 6) (.s 12) 6 6 (0 + Int.toNat n) 0 a4 ((M43 a4)) (by kernel_rfl) (by kernel_rfl) rfl (by kernel_rfl) (by simpa using ha4) (by kernel_rfl)) ?_
 refine owl 2 [0, 1, 4, 5] ⟨(5, .ref 11 6 0 0) :: (M41 n), (M46 a4 d n s)⟩ ?_
 refine srr 9 ⟨(22, VI (IntKind.i64.wrap (n + 1))) :: (M47 n s), (M46 a4 d n s)⟩ ?_
 have e10 := wr64 (n := n + 1) (by omega)
 rw [e10]
 refine owj [.own 6 6 0 (List.length s.votes), VI n, VI (n + 1)] (.own 13 6 0 (List.length (M116 n s))) (M49 a4 d n s) ⟨(M50 n s), (M49 a4 d n s)⟩ (delete_map (fe := Vote.cs) (xs := s.votes) (m := (M46 a4 d n s)) (id := 6) (by_ := 56) (zs := [VI 0, VI 0, VI 0, VI 0, VI 0, .v (.string ⟨#[]⟩)]) (F87_ok.trans (by kernel_rfl)) rfl (by kernel_rfl) (by omega) (by omega) (by omega)) ?_
 refine owl 4 [4, 5] ⟨[(5, .ref 11 6 0 0), (4, .ref 10 6 0 0)], (M52 a4 d n s)⟩ ?_
 refine srl 2 [4] ⟨[(4, .ref 10 6 0 0)], (M53 a4 d n s)⟩ ?_
 refine EL.ret ?_
 exact fne [4] [uf 0, uf 1, uf 2, uf 3, ut 4, ut 5, uf 6, uf 7, uf 8, uf 9, ut 13, uf 10] ⟨[(4, .ref 11 6 0 0)], (M56 a4 d n s)⟩ ⟨pq 5 Seat.cs s.seats, pq 8 Bid.cs s.bids, pq 6 Vote.cs (M116 n s), trivial⟩
 refine DF.fi (u := [(4, (M69 a4 a8 s)), (7, (M79 a4 a8 n s)), (10, none), (12, (M74 a4 a8 n s))]) (ar := [.ref 7 5 0 0, (M43 a4)]) (r := VI 2) (m' := (M80 a4 a8 d n s)) (x' := ⟨(8, VI 2) :: (7, (M43 a4)) :: (M38 n), (M80 a4 a8 d n s)⟩) (by kernel_rfl) (by kernel_rfl) F77_call ?_ (by kernel_rfl) (by kernel_rfl) (by kernel_rfl) ?_
 refine fiw F77_ok ?_
 refine srl 2 [0, 3] ⟨[(3, .ref 12 6 0 0), (0, .ref 7 5 0 0)], (M57 a4 d n s)⟩ ?_
 refine srl 1 [0, 3] ⟨[(3, .ref 12 6 0 0), (0, .ref 7 5 0 0)], (M57 a4 d n s)⟩ ?_
 refine EL.seq ?_
 refine EL.seqG [0, 3, 13] (fun y => (y = ⟨M61, (M57 a4 d n s)⟩ ∧ ((a4.kind = 1) ∨ (¬ a4.kind = 1 ∧ a4.kind = 3)))) ?_ ?_
 intro IHJ11 HJ11
 refine EL.reg0 ?_
 refine owr 4 ⟨(9, .v (.bool (a4.kind == 1))) :: (8, .v (.bool (a4.kind == 1))) :: (M58 a4), (M57 a4 d n s)⟩ ?_
 cases h12 : (a4.kind == 1)
 have g12 := bqF h12
 refine owe 4 ⟨(13, .v (.bool (a4.kind == 3))) :: (12, .v (.bool (a4.kind == 3))) :: (M60 a4), (M57 a4 d n s)⟩ ?_
 have h13 : (a4.kind == 3) = true := eq_true_of_ne_false (fun hh => absurd hh (by simp only [beq_eq_false_iff_ne, ne_eq]; omega))
 rw [h13]
 exact tN (HJ11.get ⟨by kernel_rfl, (Or.inr (by refine ⟨(by first | exact g12 | exact h12 | simp_all | omega), (by first | exact g13 | exact h13 | simp_all | omega)⟩))⟩)
 have g12 := bqT h12
 refine owe 4 ⟨(M59 a4), (M57 a4 d n s)⟩ ?_
 exact tN (HJ11.get ⟨by kernel_rfl, (Or.inl (by first | exact g12 | exact h12 | simp_all | omega))⟩)
 rintro _ (⟨rfl, hD14⟩)
 refine cnT ?_
 refine EL.draw0 ?_
 refine dwr 14 ⟨(M62 a4 s), (M57 a4 d n s)⟩ ?_
 refine dw2 ⟨(M63 a4 s), (M57 a4 d n s)⟩ (opE_iado (.s 26) (.s 28) 5 4 0 (List.length s.seats) .i64 a4.node ⟨5, (s.seats.map Seat.cs)⟩ (by kernel_rfl) (by kernel_rfl) rfl rfl ⟨by omega, by omega⟩ (by kernel_rfl)) ?_
 refine dw2 ⟨(30, (M64 a8)) :: (M63 a4 s), (M57 a4 d n s)⟩ (opE_ldoS Seat.cs s.seats (some 5) (.s 29) 4 5 (0 + Int.toNat a4.node) 0 a8 ((M64 a8)) (by kernel_rfl) (by kernel_rfl) rfl (by kernel_rfl) (by simpa using ha8) (by kernel_rfl)) ?_
 refine dwr 1 ⟨(31, (M43 a4)) :: (30, (M64 a8)) :: (M63 a4 s), (M57 a4 d n s)⟩ ?_
 refine dwg [(M64 a8), (M43 a4)] ⟨(M66 a4 a8 s), (M57 a4 d n s)⟩ (serve_fn a8 a4) ?_
 refine dwr 4 ⟨(M67 a4 a8 s), (M57 a4 d n s)⟩ ?_
 refine dw2 ⟨(M68 a4 a8 s), (M57 a4 d n s)⟩ (opE_iado (.s 19) (.s 21) 5 4 0 (List.length s.seats) .i64 a4.node ⟨5, (s.seats.map Seat.cs)⟩ (by kernel_rfl) (by kernel_rfl) rfl rfl ⟨by omega, by omega⟩ (by kernel_rfl)) ?_
 refine dw2 ⟨(M68 a4 a8 s), (M70 a4 a8 d n s)⟩ (opE_stoS Seat.cs s.seats 5 (.s 36) (.s 33) 4 5 (0 + Int.toNat a4.node) 0 a8 ((a8.serveP a4).1) ((M65 a4 a8)) (by kernel_rfl) (by kernel_rfl) rfl rfl (by kernel_rfl) (by simpa using ha8) (by kernel_rfl) (by kernel_rfl)) ?_
 refine dwe 1 ⟨(M71 a4 a8 s), (M70 a4 a8 d n s)⟩ ?_
 refine tN ?_
 refine srr 2 ⟨(M72 a4 a8 s), (M70 a4 a8 d n s)⟩ ?_
 refine owj [.ref 7 5 0 0, .lst 6 (M118 a4 a8)] (VI 2) (M78 a4 a8 d n s) ⟨(69, VI 2) :: (M72 a4 a8 s), (M78 a4 a8 d n s)⟩ (fiw F81_ok ?_) ?_
 refine srl 1 [0, 1] ⟨[(0, .ref 7 5 0 0), (1, .lst 6 (M118 a4 a8))], (M70 a4 a8 d n s)⟩ ?_
 refine srr 7 ⟨(M73 a4 a8 n s), (M70 a4 a8 d n s)⟩ ?_
 refine ow2 ⟨(M76 a4 a8 n s), (M75 a4 a8 d n s)⟩ (oap Vote.cs (M116 n s) ((a8.serveP a4).2.1) (.s 10) (.s 11) 6 56 10 (.lst 6 (M118 a4 a8)) .lst (by first | (simp; omega) | omega | exact app_le (by first | exact q4 | exact ers_le q4 | omega) (by first | exact begin_len _ _ _ _ | exact Nat.le_trans (serve_len _ _) (by decide) | exact hear_len _ _ _ _ | (simp; done)) (by decide))) ?_
 refine owl 4 [0] ⟨[(0, .ref 7 5 0 0)], (M78 a4 a8 d n s)⟩ ?_
 refine EL.seq ?_
 refine srl 7 [22] ⟨[(22, .v (.bool (decide ((List.length ((M116 n s) ++ ((a8.serveP a4).2.1)) : Int) > 200))))], (M78 a4 a8 d n s)⟩ ?_
 rw [h9]
 refine cnT ?_
 refine srl 1 [4] ⟨[(4, VI 2)], (M78 a4 a8 d n s)⟩ ?_
 refine rtr ?_
 exact fne [4] [uf 0, uf 1, uf 2, uf 3, ut 4, ut 5, uf 6, uf 7, uf 8, uf 9, uf 10, uf 11, uf 12, ut 13] ⟨[(4, VI 2)], (M78 a4 a8 d n s)⟩ ⟨pq 5 Seat.cs (List.set s.seats (0 + Int.toNat a4.node) ((a8.serveP a4).1)), pq 8 Bid.cs s.bids, pq 6 Vote.cs ((M116 n s) ++ ((a8.serveP a4).2.1)), trivial⟩
 refine owl 1 [4] ⟨[(4, VI 2)], (M78 a4 a8 d n s)⟩ ?_
 refine EL.ret ?_
 exact fne [4] [uf 0, uf 1, uf 2, uf 3, ut 4, ut 5, uf 6, uf 7, uf 8, uf 9, uf 10, uf 11, ut 13] ⟨[(4, VI 2)], (M80 a4 a8 d n s)⟩ ⟨pq 5 Seat.cs (List.set s.seats (0 + Int.toNat a4.node) ((a8.serveP a4).1)), pq 8 Bid.cs s.bids, pq 6 Vote.cs ((M116 n s) ++ ((a8.serveP a4).2.1)), trivial⟩
 refine dfl 1 [2] ⟨[(2, VI 2)], (M80 a4 a8 d n s)⟩ ?_
 refine EL.ret ?_
 exact fne [2] [uf 0, uf 1, uf 2, uf 3, ut 4, ut 5, uf 6, uf 7, uf 8, uf 9, ut 12] ⟨[(2, VI 2)], (M82 a4 a8 d n s)⟩ ⟨pq 5 Seat.cs (List.set s.seats (0 + Int.toNat a4.node) ((a8.serveP a4).1)), pq 8 Bid.cs s.bids, pq 6 Vote.cs ((M116 n s) ++ ((a8.serveP a4).2.1)), trivial⟩
 refine owe 1 ⟨(8, VI 2) :: (17, VI 2) :: M37, (M82 a4 a8 d n s)⟩ ?_
 refine iN ?_
 refine tN ?_
 refine EL.seq ?_
 refine srl 2 [4, 6, 8, 51] ⟨M107, (M82 a4 a8 d n s)⟩ ?_
 refine cnT ?_
 refine srl 4 [4, 5] ⟨[(5, VI 2), (4, .ref 2 5 0 0)], (M82 a4 a8 d n s)⟩ ?_
 refine rtr ?_
 refine rqa (.tup [M106, VI 2]) (Ale.tup (aT (aE 1 (aR (aE 5 (aE 8 (aE 6 (.nil)))))) (aR .nil))) ?_
 rotate_left
 have h20 : (a4.kind == 1) = false := by simp only [beq_iff_eq, beq_eq_false_iff_ne, ne_eq]; omega
 have g20 := bqF h20
 have h21 : (a4.kind == 3) = false := by simp only [beq_iff_eq, beq_eq_false_iff_ne, ne_eq]; omega
 have g21 := bqF h21
 obtain ⟨a22, ha22⟩ : ∃ y, s.bids[(a4.bid : Int).toNat]? = some y := idx_ex ⟨by omega, by omega⟩
 cases h23 : (decide ((List.length ((List.eraseIdx s.votes (Int.toNat n)) ++ ((hearP s.voters a4.bid a22 a4).2.1)) : Int) > 200))
 have g23 := of_decide_eq_false h23
 have n23 : ¬ ((List.length ((List.eraseIdx s.votes (Int.toNat n)) ++ ((hearP s.voters a4.bid a22 a4).2.1))) > 200) := by omega
 refine owj [.ref 8 1 0 0, .ref 9 3 0 0] (VI 0) (M103 a22 a4 d n s) ⟨(17, VI 0) :: M37, (M103 a22 a4 d n s)⟩ (fiw F76_ok ?_) ?_
 refine srl 1 [0, 1] ⟨[(0, .ref 8 1 0 0), (1, .ref 9 3 0 0)], (M24 d n s)⟩ ?_
 refine EL.sdrawF ?_
 refine dfr 4 ⟨(M38 n), (M24 d n s)⟩ ?_
 refine DF.fi (u := [(3, (M54 s)), (6, none), (7, (M55 n s)), (10, (M48 n s)), (11, (M45 a4))]) (ar := [.ref 7 5 0 0, VI n]) (r := (M43 a4)) (m' := (M56 a4 d n s)) (x' := ⟨(7, (M43 a4)) :: (M38 n), (M56 a4 d n s)⟩) (by kernel_rfl) (by kernel_rfl) F78_call ?_ (by kernel_rfl) (by kernel_rfl) (by kernel_rfl) ?_
 refine fiw F78_ok ?_
 refine srl 1 [0, 1, 4] ⟨(M41 n), (M40 d n s)⟩ ?_
 refine srr 6 ⟨(M42 n s), (M40 d n s)⟩ ?_
 refine ow2 ⟨(12, .ref 6 6 (0 + Int.toNat n) 0) :: (M42 n s), (M40 d n s)⟩ (opE_iado (.s 10) (.s 11) 6 6 0 (List.length s.votes) .i64 n ⟨6, (s.votes.map Vote.cs)⟩ (by kernel_rfl) (by kernel_rfl) rfl rfl ⟨by omega, by omega⟩ (by kernel_rfl)) ?_
 refine ow2 ⟨(M44 a4 n s), (M40 d n s)⟩ (opE_ldoS Vote.cs s.votes (some 6) (.s 12) 6 6 (0 + Int.toNat n) 0 a4 ((M43 a4)) (by kernel_rfl) (by kernel_rfl) rfl (by kernel_rfl) (by simpa using ha4) (by kernel_rfl)) ?_
 refine owl 2 [0, 1, 4, 5] ⟨(5, .ref 11 6 0 0) :: (M41 n), (M46 a4 d n s)⟩ ?_
 refine srr 9 ⟨(22, VI (IntKind.i64.wrap (n + 1))) :: (M47 n s), (M46 a4 d n s)⟩ ?_
 have e25 := wr64 (n := n + 1) (by omega)
 rw [e25]
 refine owj [.own 6 6 0 (List.length s.votes), VI n, VI (n + 1)] (.own 13 6 0 (List.length (M116 n s))) (M49 a4 d n s) ⟨(M50 n s), (M49 a4 d n s)⟩ (delete_map (fe := Vote.cs) (xs := s.votes) (m := (M46 a4 d n s)) (id := 6) (by_ := 56) (zs := [VI 0, VI 0, VI 0, VI 0, VI 0, .v (.string ⟨#[]⟩)]) (F87_ok.trans (by kernel_rfl)) rfl (by kernel_rfl) (by omega) (by omega) (by omega)) ?_
 refine owl 4 [4, 5] ⟨[(5, .ref 11 6 0 0), (4, .ref 10 6 0 0)], (M52 a4 d n s)⟩ ?_
 refine srl 2 [4] ⟨[(4, .ref 10 6 0 0)], (M53 a4 d n s)⟩ ?_
 refine EL.ret ?_
 exact fne [4] [uf 0, uf 1, uf 2, uf 3, ut 4, ut 5, uf 6, uf 7, uf 8, uf 9, ut 13, uf 10] ⟨[(4, .ref 11 6 0 0)], (M56 a4 d n s)⟩ ⟨pq 5 Seat.cs s.seats, pq 8 Bid.cs s.bids, pq 6 Vote.cs (M116 n s), trivial⟩
 refine DF.fi (u := [(5, (M90 a22 a4 s)), (7, (M100 a22 a4 n s)), (10, none), (12, (M95 a22 a4 n s))]) (ar := [.ref 7 5 0 0, (M43 a4)]) (r := VI 0) (m' := (M101 a22 a4 d n s)) (x' := ⟨(8, VI 0) :: (7, (M43 a4)) :: (M38 n), (M101 a22 a4 d n s)⟩) (by kernel_rfl) (by kernel_rfl) F77_call ?_ (by kernel_rfl) (by kernel_rfl) (by kernel_rfl) ?_
 refine fiw F77_ok ?_
 refine srl 2 [0, 3] ⟨[(3, .ref 12 6 0 0), (0, .ref 7 5 0 0)], (M57 a4 d n s)⟩ ?_
 refine srl 1 [0, 3] ⟨[(3, .ref 12 6 0 0), (0, .ref 7 5 0 0)], (M57 a4 d n s)⟩ ?_
 refine EL.seq ?_
 refine srr 4 ⟨(9, .v (.bool (a4.kind == 1))) :: (8, .v (.bool (a4.kind == 1))) :: (M58 a4), (M57 a4 d n s)⟩ ?_
 rw [h20]
 refine owl 4 [0, 3, 13] ⟨[(13, .v (.bool (a4.kind == 3))), (3, .ref 12 6 0 0), (0, .ref 7 5 0 0)], (M57 a4 d n s)⟩ ?_
 rw [h21]
 refine cnF ?_
 refine EL.draw0 ?_
 refine dwr 21 ⟨(M83 a4 s), (M57 a4 d n s)⟩ ?_
 refine dw2 ⟨(59, .ref 5 8 (0 + Int.toNat a4.bid) 0) :: (M83 a4 s), (M57 a4 d n s)⟩ (opE_iado (.s 56) (.s 58) 8 5 0 (List.length s.bids) .i64 a4.bid ⟨8, (s.bids.map Bid.cs)⟩ (by kernel_rfl) (by kernel_rfl) rfl rfl ⟨by omega, by omega⟩ (by kernel_rfl)) ?_
 refine dw2 ⟨(M85 a22 a4 s), (M57 a4 d n s)⟩ (opE_ldoS Bid.cs s.bids (some 8) (.s 59) 5 8 (0 + Int.toNat a4.bid) 0 a22 ((M84 a22)) (by kernel_rfl) (by kernel_rfl) rfl (by kernel_rfl) (by simpa using ha22) (by kernel_rfl)) ?_
 refine dwr 1 ⟨(61, (M43 a4)) :: (M85 a22 a4 s), (M57 a4 d n s)⟩ ?_
 refine dwg [(M7 s), VI a4.bid, (M84 a22), (M43 a4)] ⟨(M88 a22 a4 s), (M57 a4 d n s)⟩ (hear_fn s.voters a4.bid a22 a4 hx1) ?_
 refine dwr 4 ⟨(M89 a22 a4 s), (M57 a4 d n s)⟩ ?_
 refine dw2 ⟨(66, .ref 5 8 (0 + Int.toNat a4.bid) 0) :: (M89 a22 a4 s), (M57 a4 d n s)⟩ (opE_iado (.s 42) (.s 44) 8 5 0 (List.length s.bids) .i64 a4.bid ⟨8, (s.bids.map Bid.cs)⟩ (by kernel_rfl) (by kernel_rfl) rfl rfl ⟨by omega, by omega⟩ (by kernel_rfl)) ?_
 refine dw2 ⟨(66, .ref 5 8 (0 + Int.toNat a4.bid) 0) :: (M89 a22 a4 s), (M91 a22 a4 d n s)⟩ (opE_stoS Bid.cs s.bids 8 (.s 66) (.s 63) 5 8 (0 + Int.toNat a4.bid) 0 a22 (M86 a22 a4 s) ((M87 a22 a4 s)) (by kernel_rfl) (by kernel_rfl) rfl rfl (by kernel_rfl) (by simpa using ha22) (by kernel_rfl) (by kernel_rfl)) ?_
 refine dwe 1 ⟨(M92 a22 a4 s), (M91 a22 a4 d n s)⟩ ?_
 refine tN ?_
 refine srr 2 ⟨(M93 a22 a4 s), (M91 a22 a4 d n s)⟩ ?_
 refine owj [.ref 7 5 0 0, .lst 6 ((M117 a22 a4 s).map Vote.cs)] (VI 0) (M99 a22 a4 d n s) ⟨(69, VI 0) :: (M93 a22 a4 s), (M99 a22 a4 d n s)⟩ (fiw F81_ok ?_) ?_
 refine srl 1 [0, 1] ⟨[(0, .ref 7 5 0 0), (1, .lst 6 ((M117 a22 a4 s).map Vote.cs))], (M91 a22 a4 d n s)⟩ ?_
 refine srr 7 ⟨(M94 a22 a4 n s), (M91 a22 a4 d n s)⟩ ?_
 refine ow2 ⟨(M97 a22 a4 n s), (M96 a22 a4 d n s)⟩ (oap Vote.cs (M116 n s) (M117 a22 a4 s) (.s 10) (.s 11) 6 56 10 (.lst 6 ((M117 a22 a4 s).map Vote.cs)) .lst (by first | (simp; omega) | omega | exact app_le (by first | exact q4 | exact ers_le q4 | omega) (by first | exact begin_len _ _ _ _ | exact Nat.le_trans (serve_len _ _) (by decide) | exact hear_len _ _ _ _ | (simp; done)) (by decide))) ?_
 refine owl 4 [0] ⟨[(0, .ref 7 5 0 0)], (M99 a22 a4 d n s)⟩ ?_
 refine EL.seq ?_
 refine srl 7 [22] ⟨[(22, .v (.bool (decide ((List.length ((M116 n s) ++ (M117 a22 a4 s)) : Int) > 200))))], (M99 a22 a4 d n s)⟩ ?_
 rw [h23]
 refine cnF ?_
 refine skn ?_
 refine srl 1 [4] ⟨[(4, VI 0)], (M99 a22 a4 d n s)⟩ ?_
 refine EL.ret ?_
 exact fne [4] [uf 0, uf 1, uf 2, uf 3, ut 4, ut 5, uf 6, uf 7, uf 8, uf 9, uf 10, uf 11, uf 12, ut 13] ⟨[(4, VI 0)], (M99 a22 a4 d n s)⟩ ⟨pq 5 Seat.cs s.seats, pq 8 Bid.cs (List.set s.bids (0 + Int.toNat a4.bid) (M86 a22 a4 s)), pq 6 Vote.cs ((M116 n s) ++ (M117 a22 a4 s)), trivial⟩
 refine owl 1 [4] ⟨[(4, VI 0)], (M99 a22 a4 d n s)⟩ ?_
 refine EL.ret ?_
 exact fne [4] [uf 0, uf 1, uf 2, uf 3, ut 4, ut 5, uf 6, uf 7, uf 8, uf 9, uf 10, uf 11, ut 13] ⟨[(4, VI 0)], (M101 a22 a4 d n s)⟩ ⟨pq 5 Seat.cs s.seats, pq 8 Bid.cs (List.set s.bids (0 + Int.toNat a4.bid) (M86 a22 a4 s)), pq 6 Vote.cs ((M116 n s) ++ (M117 a22 a4 s)), trivial⟩
 refine dfl 1 [2] ⟨[(2, VI 0)], (M101 a22 a4 d n s)⟩ ?_
 refine EL.ret ?_
 exact fne [2] [uf 0, uf 1, uf 2, uf 3, ut 4, ut 5, uf 6, uf 7, uf 8, uf 9, ut 12] ⟨[(2, VI 0)], (M103 a22 a4 d n s)⟩ ⟨pq 5 Seat.cs s.seats, pq 8 Bid.cs (List.set s.bids (0 + Int.toNat a4.bid) (M86 a22 a4 s)), pq 6 Vote.cs ((M116 n s) ++ (M117 a22 a4 s)), trivial⟩
 refine owe 1 ⟨(8, VI 0) :: (17, VI 0) :: M37, (M103 a22 a4 d n s)⟩ ?_
 refine iN ?_
 refine tN ?_
 refine EL.seq ?_
 refine srl 2 [4, 6, 8, 51] ⟨M108, (M103 a22 a4 d n s)⟩ ?_
 refine cnF ?_
 refine skn ?_
 refine srl 6 [4, 5] ⟨[(5, VI 0), (4, .ref 2 5 0 0)], (M112 a22 a4 d n s)⟩ ?_
 refine EL.ret ?_
 refine rqs (.tup [(M114 a22 a4 n s), VI 0]) (.tup [(M113 a22 a4 n s), VI 0]) (snapR_tup (sA (snapA_agg (sC (by kernel_rfl) (sC (by kernel_rfl) (sC (smp Seat.cs s.seats) (sC (smp Bid.cs (List.set s.bids (0 + Int.toNat a4.bid) (M86 a22 a4 s))) (sC (smp Vote.cs ((List.eraseIdx s.votes (Int.toNat n)) ++ ((hearP s.voters a4.bid a22 a4).2.1))) (rfl))))))) (sA (by kernel_rfl) (snapAs_nil)))) ?_
 rotate_left
 have g23 := of_decide_eq_true h23
 have n23 : ((List.length ((List.eraseIdx s.votes (Int.toNat n)) ++ ((hearP s.voters a4.bid a22 a4).2.1))) > 200) := by omega
 refine owj [.ref 8 1 0 0, .ref 9 3 0 0] (VI 2) (M103 a22 a4 d n s) ⟨(17, VI 2) :: M37, (M103 a22 a4 d n s)⟩ (fiw F76_ok ?_) ?_
 refine srl 1 [0, 1] ⟨[(0, .ref 8 1 0 0), (1, .ref 9 3 0 0)], (M24 d n s)⟩ ?_
 refine EL.sdrawF ?_
 refine dfr 4 ⟨(M38 n), (M24 d n s)⟩ ?_
 refine DF.fi (u := [(3, (M54 s)), (6, none), (7, (M55 n s)), (10, (M48 n s)), (11, (M45 a4))]) (ar := [.ref 7 5 0 0, VI n]) (r := (M43 a4)) (m' := (M56 a4 d n s)) (x' := ⟨(7, (M43 a4)) :: (M38 n), (M56 a4 d n s)⟩) (by kernel_rfl) (by kernel_rfl) F78_call ?_ (by kernel_rfl) (by kernel_rfl) (by kernel_rfl) ?_
 refine fiw F78_ok ?_
 refine srl 1 [0, 1, 4] ⟨(M41 n), (M40 d n s)⟩ ?_
 refine srr 6 ⟨(M42 n s), (M40 d n s)⟩ ?_
 refine ow2 ⟨(12, .ref 6 6 (0 + Int.toNat n) 0) :: (M42 n s), (M40 d n s)⟩ (opE_iado (.s 10) (.s 11) 6 6 0 (List.length s.votes) .i64 n ⟨6, (s.votes.map Vote.cs)⟩ (by kernel_rfl) (by kernel_rfl) rfl rfl ⟨by omega, by omega⟩ (by kernel_rfl)) ?_
 refine ow2 ⟨(M44 a4 n s), (M40 d n s)⟩ (opE_ldoS Vote.cs s.votes (some 6) (.s 12) 6 6 (0 + Int.toNat n) 0 a4 ((M43 a4)) (by kernel_rfl) (by kernel_rfl) rfl (by kernel_rfl) (by simpa using ha4) (by kernel_rfl)) ?_
 refine owl 2 [0, 1, 4, 5] ⟨(5, .ref 11 6 0 0) :: (M41 n), (M46 a4 d n s)⟩ ?_
 refine srr 9 ⟨(22, VI (IntKind.i64.wrap (n + 1))) :: (M47 n s), (M46 a4 d n s)⟩ ?_
 have e24 := wr64 (n := n + 1) (by omega)
 rw [e24]
 refine owj [.own 6 6 0 (List.length s.votes), VI n, VI (n + 1)] (.own 13 6 0 (List.length (M116 n s))) (M49 a4 d n s) ⟨(M50 n s), (M49 a4 d n s)⟩ (delete_map (fe := Vote.cs) (xs := s.votes) (m := (M46 a4 d n s)) (id := 6) (by_ := 56) (zs := [VI 0, VI 0, VI 0, VI 0, VI 0, .v (.string ⟨#[]⟩)]) (F87_ok.trans (by kernel_rfl)) rfl (by kernel_rfl) (by omega) (by omega) (by omega)) ?_
 refine owl 4 [4, 5] ⟨[(5, .ref 11 6 0 0), (4, .ref 10 6 0 0)], (M52 a4 d n s)⟩ ?_
 refine srl 2 [4] ⟨[(4, .ref 10 6 0 0)], (M53 a4 d n s)⟩ ?_
 refine EL.ret ?_
 exact fne [4] [uf 0, uf 1, uf 2, uf 3, ut 4, ut 5, uf 6, uf 7, uf 8, uf 9, ut 13, uf 10] ⟨[(4, .ref 11 6 0 0)], (M56 a4 d n s)⟩ ⟨pq 5 Seat.cs s.seats, pq 8 Bid.cs s.bids, pq 6 Vote.cs (M116 n s), trivial⟩
 refine DF.fi (u := [(5, (M90 a22 a4 s)), (7, (M100 a22 a4 n s)), (10, none), (12, (M95 a22 a4 n s))]) (ar := [.ref 7 5 0 0, (M43 a4)]) (r := VI 2) (m' := (M101 a22 a4 d n s)) (x' := ⟨(8, VI 2) :: (7, (M43 a4)) :: (M38 n), (M101 a22 a4 d n s)⟩) (by kernel_rfl) (by kernel_rfl) F77_call ?_ (by kernel_rfl) (by kernel_rfl) (by kernel_rfl) ?_
 refine fiw F77_ok ?_
 refine srl 2 [0, 3] ⟨[(3, .ref 12 6 0 0), (0, .ref 7 5 0 0)], (M57 a4 d n s)⟩ ?_
 refine srl 1 [0, 3] ⟨[(3, .ref 12 6 0 0), (0, .ref 7 5 0 0)], (M57 a4 d n s)⟩ ?_
 refine EL.seq ?_
 refine srr 4 ⟨(9, .v (.bool (a4.kind == 1))) :: (8, .v (.bool (a4.kind == 1))) :: (M58 a4), (M57 a4 d n s)⟩ ?_
 rw [h20]
 refine owl 4 [0, 3, 13] ⟨[(13, .v (.bool (a4.kind == 3))), (3, .ref 12 6 0 0), (0, .ref 7 5 0 0)], (M57 a4 d n s)⟩ ?_
 rw [h21]
 refine cnF ?_
 refine EL.draw0 ?_
 refine dwr 21 ⟨(M83 a4 s), (M57 a4 d n s)⟩ ?_
 refine dw2 ⟨(59, .ref 5 8 (0 + Int.toNat a4.bid) 0) :: (M83 a4 s), (M57 a4 d n s)⟩ (opE_iado (.s 56) (.s 58) 8 5 0 (List.length s.bids) .i64 a4.bid ⟨8, (s.bids.map Bid.cs)⟩ (by kernel_rfl) (by kernel_rfl) rfl rfl ⟨by omega, by omega⟩ (by kernel_rfl)) ?_
 refine dw2 ⟨(M85 a22 a4 s), (M57 a4 d n s)⟩ (opE_ldoS Bid.cs s.bids (some 8) (.s 59) 5 8 (0 + Int.toNat a4.bid) 0 a22 ((M84 a22)) (by kernel_rfl) (by kernel_rfl) rfl (by kernel_rfl) (by simpa using ha22) (by kernel_rfl)) ?_
 refine dwr 1 ⟨(61, (M43 a4)) :: (M85 a22 a4 s), (M57 a4 d n s)⟩ ?_
 refine dwg [(M7 s), VI a4.bid, (M84 a22), (M43 a4)] ⟨(M88 a22 a4 s), (M57 a4 d n s)⟩ (hear_fn s.voters a4.bid a22 a4 hx1) ?_
 refine dwr 4 ⟨(M89 a22 a4 s), (M57 a4 d n s)⟩ ?_
 refine dw2 ⟨(66, .ref 5 8 (0 + Int.toNat a4.bid) 0) :: (M89 a22 a4 s), (M57 a4 d n s)⟩ (opE_iado (.s 42) (.s 44) 8 5 0 (List.length s.bids) .i64 a4.bid ⟨8, (s.bids.map Bid.cs)⟩ (by kernel_rfl) (by kernel_rfl) rfl rfl ⟨by omega, by omega⟩ (by kernel_rfl)) ?_
 refine dw2 ⟨(66, .ref 5 8 (0 + Int.toNat a4.bid) 0) :: (M89 a22 a4 s), (M91 a22 a4 d n s)⟩ (opE_stoS Bid.cs s.bids 8 (.s 66) (.s 63) 5 8 (0 + Int.toNat a4.bid) 0 a22 (M86 a22 a4 s) ((M87 a22 a4 s)) (by kernel_rfl) (by kernel_rfl) rfl rfl (by kernel_rfl) (by simpa using ha22) (by kernel_rfl) (by kernel_rfl)) ?_
 refine dwe 1 ⟨(M92 a22 a4 s), (M91 a22 a4 d n s)⟩ ?_
 refine tN ?_
 refine srr 2 ⟨(M93 a22 a4 s), (M91 a22 a4 d n s)⟩ ?_
 refine owj [.ref 7 5 0 0, .lst 6 ((M117 a22 a4 s).map Vote.cs)] (VI 2) (M99 a22 a4 d n s) ⟨(69, VI 2) :: (M93 a22 a4 s), (M99 a22 a4 d n s)⟩ (fiw F81_ok ?_) ?_
 refine srl 1 [0, 1] ⟨[(0, .ref 7 5 0 0), (1, .lst 6 ((M117 a22 a4 s).map Vote.cs))], (M91 a22 a4 d n s)⟩ ?_
 refine srr 7 ⟨(M94 a22 a4 n s), (M91 a22 a4 d n s)⟩ ?_
 refine ow2 ⟨(M97 a22 a4 n s), (M96 a22 a4 d n s)⟩ (oap Vote.cs (M116 n s) (M117 a22 a4 s) (.s 10) (.s 11) 6 56 10 (.lst 6 ((M117 a22 a4 s).map Vote.cs)) .lst (by first | (simp; omega) | omega | exact app_le (by first | exact q4 | exact ers_le q4 | omega) (by first | exact begin_len _ _ _ _ | exact Nat.le_trans (serve_len _ _) (by decide) | exact hear_len _ _ _ _ | (simp; done)) (by decide))) ?_
 refine owl 4 [0] ⟨[(0, .ref 7 5 0 0)], (M99 a22 a4 d n s)⟩ ?_
 refine EL.seq ?_
 refine srl 7 [22] ⟨[(22, .v (.bool (decide ((List.length ((M116 n s) ++ (M117 a22 a4 s)) : Int) > 200))))], (M99 a22 a4 d n s)⟩ ?_
 rw [h23]
 refine cnT ?_
 refine srl 1 [4] ⟨[(4, VI 2)], (M99 a22 a4 d n s)⟩ ?_
 refine rtr ?_
 exact fne [4] [uf 0, uf 1, uf 2, uf 3, ut 4, ut 5, uf 6, uf 7, uf 8, uf 9, uf 10, uf 11, uf 12, ut 13] ⟨[(4, VI 2)], (M99 a22 a4 d n s)⟩ ⟨pq 5 Seat.cs s.seats, pq 8 Bid.cs (List.set s.bids (0 + Int.toNat a4.bid) (M86 a22 a4 s)), pq 6 Vote.cs ((M116 n s) ++ (M117 a22 a4 s)), trivial⟩
 refine owl 1 [4] ⟨[(4, VI 2)], (M99 a22 a4 d n s)⟩ ?_
 refine EL.ret ?_
 exact fne [4] [uf 0, uf 1, uf 2, uf 3, ut 4, ut 5, uf 6, uf 7, uf 8, uf 9, uf 10, uf 11, ut 13] ⟨[(4, VI 2)], (M101 a22 a4 d n s)⟩ ⟨pq 5 Seat.cs s.seats, pq 8 Bid.cs (List.set s.bids (0 + Int.toNat a4.bid) (M86 a22 a4 s)), pq 6 Vote.cs ((M116 n s) ++ (M117 a22 a4 s)), trivial⟩
 refine dfl 1 [2] ⟨[(2, VI 2)], (M101 a22 a4 d n s)⟩ ?_
 refine EL.ret ?_
 exact fne [2] [uf 0, uf 1, uf 2, uf 3, ut 4, ut 5, uf 6, uf 7, uf 8, uf 9, ut 12] ⟨[(2, VI 2)], (M103 a22 a4 d n s)⟩ ⟨pq 5 Seat.cs s.seats, pq 8 Bid.cs (List.set s.bids (0 + Int.toNat a4.bid) (M86 a22 a4 s)), pq 6 Vote.cs ((M116 n s) ++ (M117 a22 a4 s)), trivial⟩
 refine owe 1 ⟨(8, VI 2) :: (17, VI 2) :: M37, (M103 a22 a4 d n s)⟩ ?_
 refine iN ?_
 refine tN ?_
 refine EL.seq ?_
 refine srl 2 [4, 6, 8, 51] ⟨M107, (M103 a22 a4 d n s)⟩ ?_
 refine cnT ?_
 refine srl 4 [4, 5] ⟨[(5, VI 2), (4, .ref 2 5 0 0)], (M103 a22 a4 d n s)⟩ ?_
 refine rtr ?_
 refine rqa (.tup [M106, VI 2]) (Ale.tup (aT (aE 1 (aR (aE 5 (aE 8 (aE 6 (.nil)))))) (aR .nil))) ?_
 rotate_left
 have g3 := of_decide_eq_true h3
 refine cnT ?_
 refine roe 1 ⟨(8, VI 3) :: M35, (M24 d n s)⟩ ?_
 refine iN ?_
 refine tN ?_
 refine EL.seq ?_
 refine srl 2 [4, 6, 8, 51] ⟨M104, (M24 d n s)⟩ ?_
 refine cnT ?_
 refine srl 4 [4, 5] ⟨[(5, VI 3), (4, .ref 2 5 0 0)], (M24 d n s)⟩ ?_
 refine rtr ?_
 refine rqa (.tup [M106, VI 3]) (Ale.tup (aT (aE 1 (aR (aE 5 (aE 8 (aE 6 (.nil)))))) (aR .nil))) ?_
 rotate_left
 have g2 := of_decide_eq_true h2
 refine dwl 12 [4, 6, 7, 30] ⟨M35, (M24 d n s)⟩ ?_
 refine cnT ?_
 refine roe 1 ⟨(8, VI 3) :: M35, (M24 d n s)⟩ ?_
 refine iN ?_
 refine tN ?_
 refine EL.seq ?_
 refine srl 2 [4, 6, 8, 51] ⟨M104, (M24 d n s)⟩ ?_
 refine cnT ?_
 refine srl 4 [4, 5] ⟨[(5, VI 3), (4, .ref 2 5 0 0)], (M24 d n s)⟩ ?_
 refine rtr ?_
 refine rqa (.tup [M106, VI 3]) (Ale.tup (aT (aE 1 (aR (aE 5 (aE 8 (aE 6 (.nil)))))) (aR .nil))) ?_
 rotate_left
 all_goals (first | (rw [Synod.step_1 (by omega) (by omega) (fun hh => ‹¬ d = _› (ba_empty.2 hh))]; rfl) | (rw [Synod.step_r (by omega) (by omega) (by rw [‹d = _›]; rfl) (by omega)]; rfl) | (rw [Synod.step_s (by rw [‹d = _›]; rfl) (by assumption) (by omega) (by omega) (by assumption)]; first | (rw [Synod.many_0] <;> first | rfl | (dsimp only; omega)) | (rw [Synod.many_2] <;> first | rfl | (dsimp only; omega))) | (rw [Synod.step_b (by rw [‹d = _›]; rfl) (by assumption) (by omega) (by omega) (by assumption)]; first | (rw [Synod.many_0] <;> first | rfl | (dsimp only; omega)) | (rw [Synod.many_2] <;> first | rfl | (dsimp only; omega))))
section
variable (a4 : Vote) (d : ByteArray) (n : Int) (s : Synod)
abbrev M150 := (List.eraseIdx s.votes (Int.toNat n))
abbrev M119 : OB := some ⟨3, [[VI 4, VI n, .v (.string d)]]⟩
abbrev M120 : LB := [(M0 s), (M119 d n), M2, (M0 s), M2]
abbrev M121 : LB := [(M0 s), (M119 d n), M2, (M0 s), M2, (M9 s)]
abbrev M122 : LB := [(M0 s), (M119 d n), M2, (M0 s), M2, (M9 s), some ⟨8, (s.bids.map Bid.cs)⟩]
abbrev M123 : LB := [(M0 s), (M119 d n), M2, (M0 s), M2, (M9 s), some ⟨8, (s.bids.map Bid.cs)⟩, (M14 s)]
abbrev M124 : LB := [(M0 s), (M119 d n), M2, (M0 s), (M16 s), (M9 s), some ⟨8, (s.bids.map Bid.cs)⟩, (M14 s)]
abbrev M125 : LB := [(M0 s), (M119 d n), M2, (M19 s), (M9 s), some ⟨8, (s.bids.map Bid.cs)⟩, (M14 s)]
abbrev M126 : LB := [(M0 s), (M119 d n), M2, (M19 s), (M9 s), some ⟨8, (s.bids.map Bid.cs)⟩, (M14 s), (M19 s)]
abbrev M127 : AV := .agg [VI 4, VI n, .v (.string d)]
abbrev M128 : LB := [(M0 s), (M119 d n), M2, (M19 s), (M9 s), some ⟨8, (s.bids.map Bid.cs)⟩, (M14 s), (M19 s), some ⟨1, [[.ref 7 5 0 0]]⟩, (M119 d n)]
abbrev M129 : LB := [(M0 s), (M119 d n), M2, (M19 s), (M9 s), some ⟨8, (s.bids.map Bid.cs)⟩, (M14 s), (M19 s), some ⟨1, [[.ref 7 5 0 0]]⟩, (M119 d n), M25]
abbrev M130 : LS := [(12, VI 4), (11, .ref 9 3 0 0), (10, .mp 10), (9, .fn 80 [.ref 8 1 0 0, .ref 9 3 0 0]), (8, .fn 79 [.ref 8 1 0 0, .ref 9 3 0 0]), (7, .fn 76 [.ref 8 1 0 0, .ref 9 3 0 0]), (6, .fn 74 [.ref 8 1 0 0, .ref 9 3 0 0]), (5, .mp 10), (3, .ref 9 3 0 0), (2, .ref 8 1 0 0)]
abbrev M131 : LS := (13, .fn 79 [.ref 8 1 0 0, .ref 9 3 0 0]) :: M130
abbrev M132 : LS := (15, .fn 79 [.ref 8 1 0 0, .ref 9 3 0 0]) :: (14, (M127 d n)) :: (13, .ref 7 5 0 0) :: M22
abbrev M133 : LS := (7, .fn 79 [.ref 8 1 0 0, .ref 9 3 0 0]) :: M22
abbrev M134 : LS := (23, .v (.string d)) :: (22, .ref 1 3 0 2) :: (18, .v (.bool false)) :: M133
abbrev M135 : LS := (36, VI n) :: (35, .ref 1 3 0 1) :: (34, .v (.bool true)) :: (33, .v (.bool true)) :: (32, VI 4) :: (31, .ref 1 3 0 0) :: (21, .v (.bool false)) :: M133
abbrev M136 : LS := [(30, .v (.bool true)), (7, .fn 79 [.ref 8 1 0 0, .ref 9 3 0 0]), (6, .ref 7 5 0 0), (4, .ref 2 5 0 0)]
abbrev M137 : LS := [(7, .fn 79 [.ref 8 1 0 0, .ref 9 3 0 0]), (6, .ref 7 5 0 0), (4, .ref 2 5 0 0)]
abbrev M138 : LS := (16, .fn 79 [.ref 8 1 0 0, .ref 9 3 0 0]) :: (30, .v (.bool false)) :: M137
abbrev M139 : LS := [(5, VI n), (4, .ref 9 3 0 1), (3, .ref 7 5 0 0), (0, .ref 8 1 0 0), (1, .ref 9 3 0 0)]
abbrev M140 : LB := [(M0 s), (M119 d n), M2, (M19 s), (M9 s), some ⟨8, (s.bids.map Bid.cs)⟩, (M14 s), (M19 s), some ⟨1, [[.ref 7 5 0 0]]⟩, (M119 d n), M39]
abbrev M141 : LB := [(M0 s), (M119 d n), M2, (M19 s), (M9 s), some ⟨8, (s.bids.map Bid.cs)⟩, (M14 s), (M19 s), some ⟨1, [[.ref 7 5 0 0]]⟩, (M119 d n), M39, (M45 a4)]
abbrev M142 : LB := [(M0 s), (M119 d n), M2, (M19 s), (M9 s), some ⟨8, (s.bids.map Bid.cs)⟩, none, (M19 s), some ⟨1, [[.ref 7 5 0 0]]⟩, (M119 d n), M39, (M45 a4), none, (M48 n s)]
abbrev M143 : LB := [(M0 s), (M119 d n), M2, (M19 s), (M9 s), some ⟨8, (s.bids.map Bid.cs)⟩, none, (M51 n s), some ⟨1, [[.ref 7 5 0 0]]⟩, (M119 d n), M39, (M45 a4), none, (M48 n s)]
abbrev M144 : LB := [(M0 s), (M119 d n), M2, (M19 s), (M9 s), some ⟨8, (s.bids.map Bid.cs)⟩, none, (M51 n s), some ⟨1, [[.ref 7 5 0 0]]⟩, (M119 d n), (M45 a4), (M45 a4), none, (M48 n s)]
abbrev M145 : LB := [(M0 s), (M119 d n), M2, (M54 s), (M9 s), some ⟨8, (s.bids.map Bid.cs)⟩, none, (M55 n s), some ⟨1, [[.ref 7 5 0 0]]⟩, (M119 d n), (M48 n s), (M45 a4)]
abbrev M146 : LB := [(M0 s), (M119 d n), M2, (M54 s), (M9 s), some ⟨8, (s.bids.map Bid.cs)⟩, none, (M55 n s), some ⟨1, [[.ref 7 5 0 0]]⟩, (M119 d n), (M48 n s)]
abbrev M147 : LB := [(M0 s), (M119 d n), (M55 n s), (M54 s), (M9 s), some ⟨8, (s.bids.map Bid.cs)⟩, none, (M55 n s), some ⟨1, [[.ref 7 5 0 0]]⟩, (M119 d n), (M48 n s)]
abbrev M148 : AV := .agg [.lst 1 (s.voters.weights.map cI), VI s.voters.need, .own 4 5 0 (List.length s.seats), .own 5 8 0 (List.length s.bids), .own 10 6 0 (List.length (M150 n s))]
abbrev M149 : AV := .agg [.lst 1 (s.voters.weights.map cI), VI s.voters.need, .lst 5 (s.seats.map Seat.cs), .lst 8 (s.bids.map Bid.cs), .lst 6 ((M150 n s).map Vote.cs)]
end
theorem step4_fn (s : Synod) (n : Int) (d : ByteArray) (ok : s.Ok) : Fn Tryd.prog 28 [.agg [.lst 1 (s.voters.weights.map cI), VI s.voters.need, .lst 5 (s.seats.map Seat.cs), .lst 8 (s.bids.map Bid.cs), .lst 6 (s.votes.map Vote.cs)], .agg [VI 4, VI n, .v (.string d)]] (.tup [.agg [.lst 1 (((((s.stepP 4 n d).1).voters).weights).map cI), VI ((((s.stepP 4 n d).1).voters).need), .lst 5 ((((s.stepP 4 n d).1).seats).map Seat.cs), .lst 8 ((((s.stepP 4 n d).1).bids).map Bid.cs), .lst 6 ((((s.stepP 4 n d).1).votes).map Vote.cs)], VI ((s.stepP 4 n d).2)]) := by
 have q1 := qc_len ok.q
 have q2 := ok.len
 have q3 := ok.few
 have q4 := ok.many
 have vv := ok.vv
 have hx1 : s.voters.weights.length ≤ 9223372036854775807 := by omega
 refine fnw F28_ok ?_
 refine srl 4 [2, 3, 4] ⟨M3, [(M0 s), (M119 d n), M2]⟩ ?_
 refine srr 1 ⟨(9, (M4 s)) :: M3, [(M0 s), (M119 d n), M2]⟩ ?_
 refine owj [(M4 s)] (M18 s) (M125 d n s) ⟨(10, (M18 s)) :: (9, (M4 s)) :: M3, (M125 d n s)⟩ (fiw F49_ok ?_) ?_
 refine srl 2 [1, 2] ⟨[(2, .ref 4 5 0 0), (1, .ref 3 5 0 0)], (M120 d n s)⟩ ?_
 refine sdr 3 ⟨(M6 s), (M120 d n s)⟩ ?_
 refine dwg [.lst 1 (s.voters.weights.map cI)] ⟨(6, .lst 1 (s.voters.weights.map cI)) :: (M6 s), (M120 d n s)⟩ (cloneI_fo s.voters.weights (by first | omega | exact qc_small (by assumption))) ?_
 refine dwr 6 ⟨(M8 s), (M120 d n s)⟩ ?_
 refine DW.fo (ar := [.lst 5 (s.seats.map Seat.cs)]) (fe := Seat.cs) (xs := s.seats) (x' := ⟨(13, .own 5 5 0 (List.length s.seats)) :: (M8 s), (M121 d n s)⟩) (by kernel_rfl) (by kernel_rfl) F68_call (cloneS_fo s.seats (by first | omega | exact qc_small (by assumption))) (by intro y; kernel_rfl) (by kernel_rfl) (by kernel_rfl) ?_
 refine dwr 2 ⟨(M11 s), (M121 d n s)⟩ ?_
 refine DW.fo (ar := [.lst 8 (s.bids.map Bid.cs)]) (fe := Bid.cs) (xs := s.bids) (x' := ⟨(16, .own 6 8 0 (List.length s.bids)) :: (M11 s), (M122 d n s)⟩) (by kernel_rfl) (by kernel_rfl) F69_call (cloneB_fo s.bids (by first | omega | exact qc_small (by assumption))) (by intro y; kernel_rfl) (by kernel_rfl) (by kernel_rfl) ?_
 refine dwr 2 ⟨(M13 s), (M122 d n s)⟩ ?_
 refine DW.fo (ar := [.lst 6 (s.votes.map Vote.cs)]) (fe := Vote.cs) (xs := s.votes) (x' := ⟨(19, .own 7 6 0 (List.length s.votes)) :: (M13 s), (M123 d n s)⟩) (by kernel_rfl) (by kernel_rfl) F70_call (cloneV_fo s.votes (by first | omega | exact qc_small (by assumption))) (by intro y; kernel_rfl) (by kernel_rfl) (by kernel_rfl) ?_
 refine dwl 2 [2] ⟨[(2, .ref 4 5 0 0)], (M124 d n s)⟩ ?_
 refine EL.ret ?_
 exact fne [2] [uf 0, uf 1, uf 2, uf 4, ut 5, ut 6, ut 7] ⟨[(2, .ref 3 5 0 0)], (M125 d n s)⟩ ⟨pq 5 Seat.cs s.seats, pq 8 Bid.cs s.bids, pq 6 Vote.cs s.votes, trivial⟩
 refine owl 3 [3, 4, 6] ⟨M22, (M126 d n s)⟩ ?_
 refine srr 2 ⟨(14, (M127 d n)) :: (13, .ref 7 5 0 0) :: M22, (M126 d n s)⟩ ?_
 refine owj [.ref 7 5 0 0, (M127 d n)] (.fn 79 [.ref 8 1 0 0, .ref 9 3 0 0]) (M128 d n s) ⟨(M132 d n), (M128 d n s)⟩ (fiw F54_ok ?_) ?_
 refine srl 3 [2, 3] ⟨[(3, .ref 9 3 0 0), (2, .ref 8 1 0 0)], (M128 d n s)⟩ ?_
 refine srr 12 ⟨M130, (M129 d n s)⟩ ?_
 refine ow2 ⟨M131, (M129 d n s)⟩ (opE_mlk .int (.v (.nilFunc)) (.s 10) (.s 12) 10 [[VI 6, .fn 74 [.ref 8 1 0 0, .ref 9 3 0 0]], [VI 3, .fn 76 [.ref 8 1 0 0, .ref 9 3 0 0]], [VI 4, .fn 79 [.ref 8 1 0 0, .ref 9 3 0 0]], [VI 5, .fn 80 [.ref 8 1 0 0, .ref 9 3 0 0]]] (.int .i64 4) (some (.fn 79 [.ref 8 1 0 0, .ref 9 3 0 0])) (by kernel_rfl) (by kernel_rfl) (by kernel_rfl) (by kernel_rfl) (by kernel_rfl) (by kernel_rfl)) ?_
 refine owl 1 [4] ⟨[(4, .fn 79 [.ref 8 1 0 0, .ref 9 3 0 0])], (M129 d n s)⟩ ?_
 refine EL.ret ?_
 exact fne [4] [uf 0, uf 1, uf 2, uf 3, ut 4, ut 5, ut 6, uf 7, uf 8, uf 9] ⟨[(4, .fn 79 [.ref 8 1 0 0, .ref 9 3 0 0])], (M128 d n s)⟩ ⟨pq 5 Seat.cs s.seats, pq 8 Bid.cs s.bids, pq 6 Vote.cs s.votes, trivial⟩
 refine owl 1 [3, 4, 6, 7] ⟨M133, (M128 d n s)⟩ ?_
 refine srl 1 [3, 4, 6, 7] ⟨M133, (M128 d n s)⟩ ?_
 refine EL.seq ?_
 refine EL.block ?_
 refine srl 3 [3, 4, 6, 7, 18] ⟨(18, .v (.bool false)) :: M133, (M128 d n s)⟩ ?_
 refine cnF ?_
 refine srr 4 ⟨(25, .v (.bool (!(strEq d (⟨#[]⟩))))) :: (24, .v (.bool (!(strEq d (⟨#[]⟩))))) :: (M134 d), (M128 d n s)⟩ ?_
 cases h1 : (strEq d (⟨#[]⟩))
 have g1 : ¬ (d = (⟨#[]⟩)) := fun hh => Bool.noConfusion ((strEq_iff.2 hh).symm.trans h1)
 refine owl 5 [3, 4, 6, 7, 21] ⟨(21, .v (.bool true)) :: M133, (M128 d n s)⟩ ?_
 refine cnT ?_
 refine roe 1 ⟨(8, VI 1) :: (21, .v (.bool true)) :: M133, (M128 d n s)⟩ ?_
 refine iN ?_
 refine tN ?_
 refine EL.seq ?_
 refine srl 2 [4, 6, 8, 51] ⟨M115, (M128 d n s)⟩ ?_
 refine cnT ?_
 refine srl 4 [4, 5] ⟨[(5, VI 1), (4, .ref 2 5 0 0)], (M128 d n s)⟩ ?_
 refine rtr ?_
 refine rqa (.tup [M106, VI 1]) (Ale.tup (aT (aE 1 (aR (aE 5 (aE 8 (aE 6 (.nil)))))) (aR .nil))) ?_
 rotate_left
 have g1 : (d = (⟨#[]⟩)) := strEq_iff.1 h1
 refine owl 5 [3, 4, 6, 7, 21] ⟨(21, .v (.bool false)) :: M133, (M128 d n s)⟩ ?_
 refine cnF ?_
 refine sdr 8 ⟨(38, .v (.bool (decide (n < 0)))) :: (37, .v (.bool (decide (n < 0)))) :: (M135 n), (M128 d n s)⟩ ?_
 cases h2 : (decide (n < 0))
 have g2 := of_decide_eq_false h2
 refine dwl 12 [4, 6, 7, 30] ⟨(30, .v (.bool (decide (n ≥ (List.length s.votes : Int))))) :: M137, (M128 d n s)⟩ ?_
 cases h3 : (decide (n ≥ (List.length s.votes : Int)))
 have g3 := of_decide_eq_false h3
 refine cnF ?_
 refine EL.reg0 ?_
 refine owr 1 ⟨M138, (M128 d n s)⟩ ?_
 obtain ⟨a4, ha4⟩ : ∃ y, s.votes[(n : Int).toNat]? = some y := idx_ex ⟨by omega, by omega⟩
 have ma4 := vv _ (List.mem_of_getElem? ha4)
 refine owj [.ref 8 1 0 0, .ref 9 3 0 0] (VI 0) (M146 d n s) ⟨(17, VI 0) :: M138, (M146 d n s)⟩ (fiw F79_ok ?_) ?_
 refine srl 1 [0, 1] ⟨[(0, .ref 8 1 0 0), (1, .ref 9 3 0 0)], (M128 d n s)⟩ ?_
 refine srr 3 ⟨(M139 n), (M128 d n s)⟩ ?_
 refine owj [.ref 7 5 0 0, VI n] (M43 a4) (M145 a4 d n s) ⟨(6, (M43 a4)) :: (M139 n), (M145 a4 d n s)⟩ (fiw F78_ok ?_) ?_
 refine srl 1 [0, 1, 4] ⟨(M41 n), (M140 d n s)⟩ ?_
 refine srr 6 ⟨(M42 n s), (M140 d n s)⟩ ?_
 refine ow2 ⟨(12, .ref 6 6 (0 + Int.toNat n) 0) :: (M42 n s), (M140 d n s)⟩ (opE_iado (.s 10) (.s 11) 6 6 0 (List.length s.votes) .i64 n ⟨6, (s.votes.map Vote.cs)⟩ (by kernel_rfl) (by kernel_rfl) rfl rfl ⟨by omega, by omega⟩ (by kernel_rfl)) ?_
 refine ow2 ⟨(M44 a4 n s), (M140 d n s)⟩ (opE_ldoS Vote.cs s.votes (some 6) (.s 12) 6 6 (0 + Int.toNat n) 0 a4 ((M43 a4)) (by kernel_rfl) (by kernel_rfl) rfl (by kernel_rfl) (by simpa using ha4) (by kernel_rfl)) ?_
 refine owl 2 [0, 1, 4, 5] ⟨(5, .ref 11 6 0 0) :: (M41 n), (M141 a4 d n s)⟩ ?_
 refine srr 9 ⟨(22, VI (IntKind.i64.wrap (n + 1))) :: (M47 n s), (M141 a4 d n s)⟩ ?_
 have e5 := wr64 (n := n + 1) (by omega)
 rw [e5]
 refine owj [.own 6 6 0 (List.length s.votes), VI n, VI (n + 1)] (.own 13 6 0 (List.length (M150 n s))) (M142 a4 d n s) ⟨(M50 n s), (M142 a4 d n s)⟩ (delete_map (fe := Vote.cs) (xs := s.votes) (m := (M141 a4 d n s)) (id := 6) (by_ := 56) (zs := [VI 0, VI 0, VI 0, VI 0, VI 0, .v (.string ⟨#[]⟩)]) (F87_ok.trans (by kernel_rfl)) rfl (by kernel_rfl) (by omega) (by omega) (by omega)) ?_
 refine owl 4 [4, 5] ⟨[(5, .ref 11 6 0 0), (4, .ref 10 6 0 0)], (M143 a4 d n s)⟩ ?_
 refine srl 2 [4] ⟨[(4, .ref 10 6 0 0)], (M144 a4 d n s)⟩ ?_
 refine EL.ret ?_
 exact fne [4] [uf 0, uf 1, uf 2, uf 3, ut 4, ut 5, uf 6, uf 7, uf 8, uf 9, ut 13, uf 10] ⟨[(4, .ref 11 6 0 0)], (M145 a4 d n s)⟩ ⟨pq 5 Seat.cs s.seats, pq 8 Bid.cs s.bids, pq 6 Vote.cs (M150 n s), trivial⟩
 refine owl 0 [] ⟨[], (M145 a4 d n s)⟩ ?_
 refine srl 1 [2] ⟨[(2, VI 0)], (M145 a4 d n s)⟩ ?_
 refine EL.ret ?_
 exact fne [2] [uf 0, uf 1, uf 2, uf 3, ut 4, ut 5, uf 6, uf 7, uf 8, uf 9, ut 10] ⟨[(2, VI 0)], (M146 d n s)⟩ ⟨pq 5 Seat.cs s.seats, pq 8 Bid.cs s.bids, pq 6 Vote.cs (M150 n s), trivial⟩
 refine owe 1 ⟨(8, VI 0) :: (17, VI 0) :: M138, (M146 d n s)⟩ ?_
 refine iN ?_
 refine tN ?_
 refine EL.seq ?_
 refine srl 2 [4, 6, 8, 51] ⟨M108, (M146 d n s)⟩ ?_
 refine cnF ?_
 refine skn ?_
 refine srl 6 [4, 5] ⟨[(5, VI 0), (4, .ref 2 5 0 0)], (M147 d n s)⟩ ?_
 refine EL.ret ?_
 refine rqs (.tup [(M149 n s), VI 0]) (.tup [(M148 n s), VI 0]) (snapR_tup (sA (snapA_agg (sC (by kernel_rfl) (sC (by kernel_rfl) (sC (smp Seat.cs s.seats) (sC (smp Bid.cs s.bids) (sC (smp Vote.cs (List.eraseIdx s.votes (Int.toNat n))) (rfl))))))) (sA (by kernel_rfl) (snapAs_nil)))) ?_
 rotate_left
 have g3 := of_decide_eq_true h3
 refine cnT ?_
 refine roe 1 ⟨(8, VI 3) :: M136, (M128 d n s)⟩ ?_
 refine iN ?_
 refine tN ?_
 refine EL.seq ?_
 refine srl 2 [4, 6, 8, 51] ⟨M104, (M128 d n s)⟩ ?_
 refine cnT ?_
 refine srl 4 [4, 5] ⟨[(5, VI 3), (4, .ref 2 5 0 0)], (M128 d n s)⟩ ?_
 refine rtr ?_
 refine rqa (.tup [M106, VI 3]) (Ale.tup (aT (aE 1 (aR (aE 5 (aE 8 (aE 6 (.nil)))))) (aR .nil))) ?_
 rotate_left
 have g2 := of_decide_eq_true h2
 refine dwl 12 [4, 6, 7, 30] ⟨M136, (M128 d n s)⟩ ?_
 refine cnT ?_
 refine roe 1 ⟨(8, VI 3) :: M136, (M128 d n s)⟩ ?_
 refine iN ?_
 refine tN ?_
 refine EL.seq ?_
 refine srl 2 [4, 6, 8, 51] ⟨M104, (M128 d n s)⟩ ?_
 refine cnT ?_
 refine srl 4 [4, 5] ⟨[(5, VI 3), (4, .ref 2 5 0 0)], (M128 d n s)⟩ ?_
 refine rtr ?_
 refine rqa (.tup [M106, VI 3]) (Ale.tup (aT (aE 1 (aR (aE 5 (aE 8 (aE 6 (.nil)))))) (aR .nil))) ?_
 rotate_left
 all_goals (first | (rw [Synod.step_1 (by omega) (by omega) (fun hh => ‹¬ d = _› (ba_empty.2 hh))]; rfl) | (rw [Synod.step_r (by omega) (by omega) (by rw [‹d = _›]; rfl) (by omega)]; rfl) | (rw [Synod.step_4 (by rw [‹d = _›]; rfl) (by assumption) (by omega) q4] <;> rfl))
section
variable (a4 : Vote) (d : ByteArray) (n : Int) (s : Synod)
abbrev M151 : OB := some ⟨3, [[VI 5, VI n, .v (.string d)]]⟩
abbrev M152 : LB := [(M0 s), (M151 d n), M2, (M0 s), M2]
abbrev M153 : LB := [(M0 s), (M151 d n), M2, (M0 s), M2, (M9 s)]
abbrev M154 : LB := [(M0 s), (M151 d n), M2, (M0 s), M2, (M9 s), some ⟨8, (s.bids.map Bid.cs)⟩]
abbrev M155 : LB := [(M0 s), (M151 d n), M2, (M0 s), M2, (M9 s), some ⟨8, (s.bids.map Bid.cs)⟩, (M14 s)]
abbrev M156 : LB := [(M0 s), (M151 d n), M2, (M0 s), (M16 s), (M9 s), some ⟨8, (s.bids.map Bid.cs)⟩, (M14 s)]
abbrev M157 : LB := [(M0 s), (M151 d n), M2, (M19 s), (M9 s), some ⟨8, (s.bids.map Bid.cs)⟩, (M14 s)]
abbrev M158 : LB := [(M0 s), (M151 d n), M2, (M19 s), (M9 s), some ⟨8, (s.bids.map Bid.cs)⟩, (M14 s), (M19 s)]
abbrev M159 : AV := .agg [VI 5, VI n, .v (.string d)]
abbrev M160 : LB := [(M0 s), (M151 d n), M2, (M19 s), (M9 s), some ⟨8, (s.bids.map Bid.cs)⟩, (M14 s), (M19 s), some ⟨1, [[.ref 7 5 0 0]]⟩, (M151 d n)]
abbrev M161 : LB := [(M0 s), (M151 d n), M2, (M19 s), (M9 s), some ⟨8, (s.bids.map Bid.cs)⟩, (M14 s), (M19 s), some ⟨1, [[.ref 7 5 0 0]]⟩, (M151 d n), M25]
abbrev M162 : LS := [(12, VI 5), (11, .ref 9 3 0 0), (10, .mp 10), (9, .fn 80 [.ref 8 1 0 0, .ref 9 3 0 0]), (8, .fn 79 [.ref 8 1 0 0, .ref 9 3 0 0]), (7, .fn 76 [.ref 8 1 0 0, .ref 9 3 0 0]), (6, .fn 74 [.ref 8 1 0 0, .ref 9 3 0 0]), (5, .mp 10), (3, .ref 9 3 0 0), (2, .ref 8 1 0 0)]
abbrev M163 : LS := (13, .fn 80 [.ref 8 1 0 0, .ref 9 3 0 0]) :: M162
abbrev M164 : LS := (15, .fn 80 [.ref 8 1 0 0, .ref 9 3 0 0]) :: (14, (M159 d n)) :: (13, .ref 7 5 0 0) :: M22
abbrev M165 : LS := (7, .fn 80 [.ref 8 1 0 0, .ref 9 3 0 0]) :: M22
abbrev M166 : LS := (23, .v (.string d)) :: (22, .ref 1 3 0 2) :: (18, .v (.bool false)) :: M165
abbrev M167 : LS := (36, VI n) :: (35, .ref 1 3 0 1) :: (34, .v (.bool true)) :: (33, .v (.bool true)) :: (32, VI 5) :: (31, .ref 1 3 0 0) :: (21, .v (.bool false)) :: M165
abbrev M168 : LS := [(30, .v (.bool true)), (7, .fn 80 [.ref 8 1 0 0, .ref 9 3 0 0]), (6, .ref 7 5 0 0), (4, .ref 2 5 0 0)]
abbrev M169 : LS := [(7, .fn 80 [.ref 8 1 0 0, .ref 9 3 0 0]), (6, .ref 7 5 0 0), (4, .ref 2 5 0 0)]
abbrev M170 : LS := (16, .fn 80 [.ref 8 1 0 0, .ref 9 3 0 0]) :: (30, .v (.bool false)) :: M169
abbrev M171 : LS := [(10, VI n), (9, .ref 9 3 0 1), (8, .own 6 6 0 (List.length s.votes)), (7, .ref 7 5 0 4), (6, .ref 7 5 0 0), (5, .ref 7 5 0 0), (4, .ref 7 5 0 0), (3, .ref 7 5 0 0), (0, .ref 8 1 0 0), (1, .ref 9 3 0 0)]
abbrev M172 : LS := (12, (M43 a4)) :: (11, .ref 6 6 (0 + Int.toNat n) 0) :: (M171 n s)
abbrev M173 : LB := [(M0 s), (M151 d n), M2, (M19 s), (M9 s), some ⟨8, (s.bids.map Bid.cs)⟩, (M14 s), (M19 s), some ⟨1, [[.ref 7 5 0 0]]⟩, (M151 d n), (M45 a4)]
abbrev M174 : LS := [(11, .own 10 6 0 1), (10, .own 6 6 0 (List.length s.votes)), (9, .ref 7 5 0 4), (8, .ref 7 5 0 0), (7, .ref 7 5 0 0), (6, .ref 7 5 0 0), (5, .ref 7 5 0 0), (0, .ref 7 5 0 0), (1, .own 10 6 0 1)]
abbrev M175 : OB := some ⟨6, ((s.votes ++ ([a4])).map Vote.cs)⟩
abbrev M176 : LB := [(M0 s), (M151 d n), M2, (M19 s), (M9 s), some ⟨8, (s.bids.map Bid.cs)⟩, none, (M19 s), some ⟨1, [[.ref 7 5 0 0]]⟩, (M151 d n), (M45 a4), (M175 a4 s)]
abbrev M177 : LS := (12, .own 11 6 0 (List.length (s.votes ++ ([a4])))) :: (M174 s)
abbrev M178 : OB := some ⟨5, [[.lst 1 (s.voters.weights.map cI), VI s.voters.need, .own 4 5 0 (List.length s.seats), .own 5 8 0 (List.length s.bids), .own 11 6 0 (List.length (s.votes ++ ([a4])))]]⟩
abbrev M179 : LB := [(M0 s), (M151 d n), M2, (M19 s), (M9 s), some ⟨8, (s.bids.map Bid.cs)⟩, none, (M178 a4 s), some ⟨1, [[.ref 7 5 0 0]]⟩, (M151 d n), (M45 a4), (M175 a4 s)]
abbrev M180 : LB := [(M0 s), (M151 d n), M2, (M54 s), (M9 s), some ⟨8, (s.bids.map Bid.cs)⟩, none, (M178 a4 s), some ⟨1, [[.ref 7 5 0 0]]⟩, (M151 d n), (M45 a4), (M175 a4 s)]
abbrev M181 : OB := some ⟨5, [[.lst 1 (s.voters.weights.map cI), VI s.voters.need, .own 4 5 0 (List.length s.seats), .own 5 8 0 (List.length s.bids), .own 10 6 0 (List.length (s.votes ++ ([a4])))]]⟩
abbrev M182 : LB := [(M0 s), (M151 d n), M2, (M54 s), (M9 s), some ⟨8, (s.bids.map Bid.cs)⟩, none, (M181 a4 s), some ⟨1, [[.ref 7 5 0 0]]⟩, (M151 d n), (M175 a4 s)]
abbrev M183 : LB := [(M0 s), (M151 d n), (M181 a4 s), (M54 s), (M9 s), some ⟨8, (s.bids.map Bid.cs)⟩, none, (M181 a4 s), some ⟨1, [[.ref 7 5 0 0]]⟩, (M151 d n), (M175 a4 s)]
abbrev M184 : AV := .agg [.lst 1 (s.voters.weights.map cI), VI s.voters.need, .own 4 5 0 (List.length s.seats), .own 5 8 0 (List.length s.bids), .own 10 6 0 (List.length (s.votes ++ ([a4])))]
abbrev M185 : AV := .agg [.lst 1 (s.voters.weights.map cI), VI s.voters.need, .lst 5 (s.seats.map Seat.cs), .lst 8 (s.bids.map Bid.cs), .lst 6 ((s.votes ++ ([a4])).map Vote.cs)]
end
theorem step5_fn (s : Synod) (n : Int) (d : ByteArray) (ok : s.Ok) : Fn Tryd.prog 28 [.agg [.lst 1 (s.voters.weights.map cI), VI s.voters.need, .lst 5 (s.seats.map Seat.cs), .lst 8 (s.bids.map Bid.cs), .lst 6 (s.votes.map Vote.cs)], .agg [VI 5, VI n, .v (.string d)]] (.tup [.agg [.lst 1 (((((s.stepP 5 n d).1).voters).weights).map cI), VI ((((s.stepP 5 n d).1).voters).need), .lst 5 ((((s.stepP 5 n d).1).seats).map Seat.cs), .lst 8 ((((s.stepP 5 n d).1).bids).map Bid.cs), .lst 6 ((((s.stepP 5 n d).1).votes).map Vote.cs)], VI ((s.stepP 5 n d).2)]) := by
 have q1 := qc_len ok.q
 have q2 := ok.len
 have q3 := ok.few
 have q4 := ok.many
 have vv := ok.vv
 have hx1 : s.voters.weights.length ≤ 9223372036854775807 := by omega
 refine fnw F28_ok ?_
 refine srl 4 [2, 3, 4] ⟨M3, [(M0 s), (M151 d n), M2]⟩ ?_
 refine srr 1 ⟨(9, (M4 s)) :: M3, [(M0 s), (M151 d n), M2]⟩ ?_
 refine owj [(M4 s)] (M18 s) (M157 d n s) ⟨(10, (M18 s)) :: (9, (M4 s)) :: M3, (M157 d n s)⟩ (fiw F49_ok ?_) ?_
 refine srl 2 [1, 2] ⟨[(2, .ref 4 5 0 0), (1, .ref 3 5 0 0)], (M152 d n s)⟩ ?_
 refine sdr 3 ⟨(M6 s), (M152 d n s)⟩ ?_
 refine dwg [.lst 1 (s.voters.weights.map cI)] ⟨(6, .lst 1 (s.voters.weights.map cI)) :: (M6 s), (M152 d n s)⟩ (cloneI_fo s.voters.weights (by first | omega | exact qc_small (by assumption))) ?_
 refine dwr 6 ⟨(M8 s), (M152 d n s)⟩ ?_
 refine DW.fo (ar := [.lst 5 (s.seats.map Seat.cs)]) (fe := Seat.cs) (xs := s.seats) (x' := ⟨(13, .own 5 5 0 (List.length s.seats)) :: (M8 s), (M153 d n s)⟩) (by kernel_rfl) (by kernel_rfl) F68_call (cloneS_fo s.seats (by first | omega | exact qc_small (by assumption))) (by intro y; kernel_rfl) (by kernel_rfl) (by kernel_rfl) ?_
 refine dwr 2 ⟨(M11 s), (M153 d n s)⟩ ?_
 refine DW.fo (ar := [.lst 8 (s.bids.map Bid.cs)]) (fe := Bid.cs) (xs := s.bids) (x' := ⟨(16, .own 6 8 0 (List.length s.bids)) :: (M11 s), (M154 d n s)⟩) (by kernel_rfl) (by kernel_rfl) F69_call (cloneB_fo s.bids (by first | omega | exact qc_small (by assumption))) (by intro y; kernel_rfl) (by kernel_rfl) (by kernel_rfl) ?_
 refine dwr 2 ⟨(M13 s), (M154 d n s)⟩ ?_
 refine DW.fo (ar := [.lst 6 (s.votes.map Vote.cs)]) (fe := Vote.cs) (xs := s.votes) (x' := ⟨(19, .own 7 6 0 (List.length s.votes)) :: (M13 s), (M155 d n s)⟩) (by kernel_rfl) (by kernel_rfl) F70_call (cloneV_fo s.votes (by first | omega | exact qc_small (by assumption))) (by intro y; kernel_rfl) (by kernel_rfl) (by kernel_rfl) ?_
 refine dwl 2 [2] ⟨[(2, .ref 4 5 0 0)], (M156 d n s)⟩ ?_
 refine EL.ret ?_
 exact fne [2] [uf 0, uf 1, uf 2, uf 4, ut 5, ut 6, ut 7] ⟨[(2, .ref 3 5 0 0)], (M157 d n s)⟩ ⟨pq 5 Seat.cs s.seats, pq 8 Bid.cs s.bids, pq 6 Vote.cs s.votes, trivial⟩
 refine owl 3 [3, 4, 6] ⟨M22, (M158 d n s)⟩ ?_
 refine srr 2 ⟨(14, (M159 d n)) :: (13, .ref 7 5 0 0) :: M22, (M158 d n s)⟩ ?_
 refine owj [.ref 7 5 0 0, (M159 d n)] (.fn 80 [.ref 8 1 0 0, .ref 9 3 0 0]) (M160 d n s) ⟨(M164 d n), (M160 d n s)⟩ (fiw F54_ok ?_) ?_
 refine srl 3 [2, 3] ⟨[(3, .ref 9 3 0 0), (2, .ref 8 1 0 0)], (M160 d n s)⟩ ?_
 refine srr 12 ⟨M162, (M161 d n s)⟩ ?_
 refine ow2 ⟨M163, (M161 d n s)⟩ (opE_mlk .int (.v (.nilFunc)) (.s 10) (.s 12) 10 [[VI 6, .fn 74 [.ref 8 1 0 0, .ref 9 3 0 0]], [VI 3, .fn 76 [.ref 8 1 0 0, .ref 9 3 0 0]], [VI 4, .fn 79 [.ref 8 1 0 0, .ref 9 3 0 0]], [VI 5, .fn 80 [.ref 8 1 0 0, .ref 9 3 0 0]]] (.int .i64 5) (some (.fn 80 [.ref 8 1 0 0, .ref 9 3 0 0])) (by kernel_rfl) (by kernel_rfl) (by kernel_rfl) (by kernel_rfl) (by kernel_rfl) (by kernel_rfl)) ?_
 refine owl 1 [4] ⟨[(4, .fn 80 [.ref 8 1 0 0, .ref 9 3 0 0])], (M161 d n s)⟩ ?_
 refine EL.ret ?_
 exact fne [4] [uf 0, uf 1, uf 2, uf 3, ut 4, ut 5, ut 6, uf 7, uf 8, uf 9] ⟨[(4, .fn 80 [.ref 8 1 0 0, .ref 9 3 0 0])], (M160 d n s)⟩ ⟨pq 5 Seat.cs s.seats, pq 8 Bid.cs s.bids, pq 6 Vote.cs s.votes, trivial⟩
 refine owl 1 [3, 4, 6, 7] ⟨M165, (M160 d n s)⟩ ?_
 refine srl 1 [3, 4, 6, 7] ⟨M165, (M160 d n s)⟩ ?_
 refine EL.seq ?_
 refine EL.block ?_
 refine srl 3 [3, 4, 6, 7, 18] ⟨(18, .v (.bool false)) :: M165, (M160 d n s)⟩ ?_
 refine cnF ?_
 refine srr 4 ⟨(25, .v (.bool (!(strEq d (⟨#[]⟩))))) :: (24, .v (.bool (!(strEq d (⟨#[]⟩))))) :: (M166 d), (M160 d n s)⟩ ?_
 cases h1 : (strEq d (⟨#[]⟩))
 have g1 : ¬ (d = (⟨#[]⟩)) := fun hh => Bool.noConfusion ((strEq_iff.2 hh).symm.trans h1)
 refine owl 5 [3, 4, 6, 7, 21] ⟨(21, .v (.bool true)) :: M165, (M160 d n s)⟩ ?_
 refine cnT ?_
 refine roe 1 ⟨(8, VI 1) :: (21, .v (.bool true)) :: M165, (M160 d n s)⟩ ?_
 refine iN ?_
 refine tN ?_
 refine EL.seq ?_
 refine srl 2 [4, 6, 8, 51] ⟨M115, (M160 d n s)⟩ ?_
 refine cnT ?_
 refine srl 4 [4, 5] ⟨[(5, VI 1), (4, .ref 2 5 0 0)], (M160 d n s)⟩ ?_
 refine rtr ?_
 refine rqa (.tup [M106, VI 1]) (Ale.tup (aT (aE 1 (aR (aE 5 (aE 8 (aE 6 (.nil)))))) (aR .nil))) ?_
 rotate_left
 have g1 : (d = (⟨#[]⟩)) := strEq_iff.1 h1
 refine owl 5 [3, 4, 6, 7, 21] ⟨(21, .v (.bool false)) :: M165, (M160 d n s)⟩ ?_
 refine cnF ?_
 refine sdr 8 ⟨(38, .v (.bool (decide (n < 0)))) :: (37, .v (.bool (decide (n < 0)))) :: (M167 n), (M160 d n s)⟩ ?_
 cases h2 : (decide (n < 0))
 have g2 := of_decide_eq_false h2
 refine dwl 12 [4, 6, 7, 30] ⟨(30, .v (.bool (decide (n ≥ (List.length s.votes : Int))))) :: M169, (M160 d n s)⟩ ?_
 cases h3 : (decide (n ≥ (List.length s.votes : Int)))
 have g3 := of_decide_eq_false h3
 refine cnF ?_
 refine EL.reg0 ?_
 refine owr 1 ⟨M170, (M160 d n s)⟩ ?_
 obtain ⟨a4, ha4⟩ : ∃ y, s.votes[(n : Int).toNat]? = some y := idx_ex ⟨by omega, by omega⟩
 have ma4 := vv _ (List.mem_of_getElem? ha4)
 cases h5 : (decide ((List.length (s.votes ++ ([a4])) : Int) > 200))
 have g5 := of_decide_eq_false h5
 have n5 : ¬ ((List.length (s.votes ++ ([a4]))) > 200) := by omega
 refine owj [.ref 8 1 0 0, .ref 9 3 0 0] (VI 0) (M182 a4 d n s) ⟨(17, VI 0) :: M170, (M182 a4 d n s)⟩ (fiw F80_ok ?_) ?_
 refine srl 1 [0, 1] ⟨[(0, .ref 8 1 0 0), (1, .ref 9 3 0 0)], (M160 d n s)⟩ ?_
 refine sdr 8 ⟨(M171 n s), (M160 d n s)⟩ ?_
 refine dw2 ⟨(11, .ref 6 6 (0 + Int.toNat n) 0) :: (M171 n s), (M160 d n s)⟩ (opE_iado (.s 8) (.s 10) 6 6 0 (List.length s.votes) .i64 n ⟨6, (s.votes.map Vote.cs)⟩ (by kernel_rfl) (by kernel_rfl) rfl rfl ⟨by omega, by omega⟩ (by kernel_rfl)) ?_
 refine dw2 ⟨(M172 a4 n s), (M160 d n s)⟩ (opE_ldoS Vote.cs s.votes (some 6) (.s 11) 6 6 (0 + Int.toNat n) 0 a4 ((M43 a4)) (by kernel_rfl) (by kernel_rfl) rfl (by kernel_rfl) (by simpa using ha4) (by kernel_rfl)) ?_
 refine dwr 1 ⟨(13, .own 10 6 0 1) :: (M172 a4 n s), (M173 a4 d n s)⟩ ?_
 refine DW.fi (ar := [.ref 7 5 0 0, .own 10 6 0 1]) (r := VI 0) (m' := (M180 a4 d n s)) (x' := ⟨(14, VI 0) :: (13, .own 10 6 0 1) :: (M172 a4 n s), (M180 a4 d n s)⟩) (by kernel_rfl) (by kernel_rfl) F81_call ?_ (by kernel_rfl) (by kernel_rfl) (by kernel_rfl) ?_
 refine fiw F81_ok ?_
 refine srl 1 [0, 1] ⟨[(0, .ref 7 5 0 0), (1, .own 10 6 0 1)], (M173 a4 d n s)⟩ ?_
 refine srr 7 ⟨(M174 s), (M173 a4 d n s)⟩ ?_
 refine ow2 ⟨(M177 a4 s), (M176 a4 d n s)⟩ (oap Vote.cs s.votes ([a4]) (.s 10) (.s 11) 6 56 6 (.own 10 6 0 1) (.own (els := [[VI a4.kind, VI a4.bid, VI a4.node, VI a4.copy.at_.time, VI a4.copy.at_.who, .v (.string a4.copy.data)]]) (by kernel_rfl) (by kernel_rfl) (of_decide_eq_true (by kernel_rfl))) (by first | (simp; omega) | omega | exact app_le (by first | exact q4 | exact ers_le q4 | omega) (by first | exact begin_len _ _ _ _ | exact Nat.le_trans (serve_len _ _) (by decide) | exact hear_len _ _ _ _ | (simp; done)) (by decide))) ?_
 refine owl 4 [0] ⟨[(0, .ref 7 5 0 0)], (M179 a4 d n s)⟩ ?_
 refine EL.seq ?_
 refine srl 7 [22] ⟨[(22, .v (.bool (decide ((List.length (s.votes ++ ([a4])) : Int) > 200))))], (M179 a4 d n s)⟩ ?_
 rw [h5]
 refine cnF ?_
 refine skn ?_
 refine srl 1 [4] ⟨[(4, VI 0)], (M179 a4 d n s)⟩ ?_
 refine EL.ret ?_
 exact fne [4] [uf 0, uf 1, uf 2, uf 3, ut 4, ut 5, uf 6, uf 7, uf 8, uf 9, uf 10, ut 11] ⟨[(4, VI 0)], (M180 a4 d n s)⟩ ⟨pq 5 Seat.cs s.seats, pq 8 Bid.cs s.bids, pq 6 Vote.cs (s.votes ++ ([a4])), trivial⟩
 refine dwl 1 [2] ⟨[(2, VI 0)], (M180 a4 d n s)⟩ ?_
 refine EL.ret ?_
 exact fne [2] [uf 0, uf 1, uf 2, uf 3, ut 4, ut 5, uf 6, uf 7, uf 8, uf 9, ut 11] ⟨[(2, VI 0)], (M182 a4 d n s)⟩ ⟨pq 5 Seat.cs s.seats, pq 8 Bid.cs s.bids, pq 6 Vote.cs (s.votes ++ ([a4])), trivial⟩
 refine owe 1 ⟨(8, VI 0) :: (17, VI 0) :: M170, (M182 a4 d n s)⟩ ?_
 refine iN ?_
 refine tN ?_
 refine EL.seq ?_
 refine srl 2 [4, 6, 8, 51] ⟨M108, (M182 a4 d n s)⟩ ?_
 refine cnF ?_
 refine skn ?_
 refine srl 6 [4, 5] ⟨[(5, VI 0), (4, .ref 2 5 0 0)], (M183 a4 d n s)⟩ ?_
 refine EL.ret ?_
 refine rqs (.tup [(M185 a4 s), VI 0]) (.tup [(M184 a4 s), VI 0]) (snapR_tup (sA (snapA_agg (sC (by kernel_rfl) (sC (by kernel_rfl) (sC (smp Seat.cs s.seats) (sC (smp Bid.cs s.bids) (sC (smp Vote.cs (s.votes ++ ([a4]))) (rfl))))))) (sA (by kernel_rfl) (snapAs_nil)))) ?_
 rotate_left
 have g5 := of_decide_eq_true h5
 have n5 : ((List.length (s.votes ++ ([a4]))) > 200) := by omega
 refine owj [.ref 8 1 0 0, .ref 9 3 0 0] (VI 2) (M182 a4 d n s) ⟨(17, VI 2) :: M170, (M182 a4 d n s)⟩ (fiw F80_ok ?_) ?_
 refine srl 1 [0, 1] ⟨[(0, .ref 8 1 0 0), (1, .ref 9 3 0 0)], (M160 d n s)⟩ ?_
 refine sdr 8 ⟨(M171 n s), (M160 d n s)⟩ ?_
 refine dw2 ⟨(11, .ref 6 6 (0 + Int.toNat n) 0) :: (M171 n s), (M160 d n s)⟩ (opE_iado (.s 8) (.s 10) 6 6 0 (List.length s.votes) .i64 n ⟨6, (s.votes.map Vote.cs)⟩ (by kernel_rfl) (by kernel_rfl) rfl rfl ⟨by omega, by omega⟩ (by kernel_rfl)) ?_
 refine dw2 ⟨(M172 a4 n s), (M160 d n s)⟩ (opE_ldoS Vote.cs s.votes (some 6) (.s 11) 6 6 (0 + Int.toNat n) 0 a4 ((M43 a4)) (by kernel_rfl) (by kernel_rfl) rfl (by kernel_rfl) (by simpa using ha4) (by kernel_rfl)) ?_
 refine dwr 1 ⟨(13, .own 10 6 0 1) :: (M172 a4 n s), (M173 a4 d n s)⟩ ?_
 refine DW.fi (ar := [.ref 7 5 0 0, .own 10 6 0 1]) (r := VI 2) (m' := (M180 a4 d n s)) (x' := ⟨(14, VI 2) :: (13, .own 10 6 0 1) :: (M172 a4 n s), (M180 a4 d n s)⟩) (by kernel_rfl) (by kernel_rfl) F81_call ?_ (by kernel_rfl) (by kernel_rfl) (by kernel_rfl) ?_
 refine fiw F81_ok ?_
 refine srl 1 [0, 1] ⟨[(0, .ref 7 5 0 0), (1, .own 10 6 0 1)], (M173 a4 d n s)⟩ ?_
 refine srr 7 ⟨(M174 s), (M173 a4 d n s)⟩ ?_
 refine ow2 ⟨(M177 a4 s), (M176 a4 d n s)⟩ (oap Vote.cs s.votes ([a4]) (.s 10) (.s 11) 6 56 6 (.own 10 6 0 1) (.own (els := [[VI a4.kind, VI a4.bid, VI a4.node, VI a4.copy.at_.time, VI a4.copy.at_.who, .v (.string a4.copy.data)]]) (by kernel_rfl) (by kernel_rfl) (of_decide_eq_true (by kernel_rfl))) (by first | (simp; omega) | omega | exact app_le (by first | exact q4 | exact ers_le q4 | omega) (by first | exact begin_len _ _ _ _ | exact Nat.le_trans (serve_len _ _) (by decide) | exact hear_len _ _ _ _ | (simp; done)) (by decide))) ?_
 refine owl 4 [0] ⟨[(0, .ref 7 5 0 0)], (M179 a4 d n s)⟩ ?_
 refine EL.seq ?_
 refine srl 7 [22] ⟨[(22, .v (.bool (decide ((List.length (s.votes ++ ([a4])) : Int) > 200))))], (M179 a4 d n s)⟩ ?_
 rw [h5]
 refine cnT ?_
 refine srl 1 [4] ⟨[(4, VI 2)], (M179 a4 d n s)⟩ ?_
 refine rtr ?_
 exact fne [4] [uf 0, uf 1, uf 2, uf 3, ut 4, ut 5, uf 6, uf 7, uf 8, uf 9, uf 10, ut 11] ⟨[(4, VI 2)], (M180 a4 d n s)⟩ ⟨pq 5 Seat.cs s.seats, pq 8 Bid.cs s.bids, pq 6 Vote.cs (s.votes ++ ([a4])), trivial⟩
 refine dwl 1 [2] ⟨[(2, VI 2)], (M180 a4 d n s)⟩ ?_
 refine EL.ret ?_
 exact fne [2] [uf 0, uf 1, uf 2, uf 3, ut 4, ut 5, uf 6, uf 7, uf 8, uf 9, ut 11] ⟨[(2, VI 2)], (M182 a4 d n s)⟩ ⟨pq 5 Seat.cs s.seats, pq 8 Bid.cs s.bids, pq 6 Vote.cs (s.votes ++ ([a4])), trivial⟩
 refine owe 1 ⟨(8, VI 2) :: (17, VI 2) :: M170, (M182 a4 d n s)⟩ ?_
 refine iN ?_
 refine tN ?_
 refine EL.seq ?_
 refine srl 2 [4, 6, 8, 51] ⟨M107, (M182 a4 d n s)⟩ ?_
 refine cnT ?_
 refine srl 4 [4, 5] ⟨[(5, VI 2), (4, .ref 2 5 0 0)], (M182 a4 d n s)⟩ ?_
 refine rtr ?_
 refine rqa (.tup [M106, VI 2]) (Ale.tup (aT (aE 1 (aR (aE 5 (aE 8 (aE 6 (.nil)))))) (aR .nil))) ?_
 rotate_left
 have g3 := of_decide_eq_true h3
 refine cnT ?_
 refine roe 1 ⟨(8, VI 3) :: M168, (M160 d n s)⟩ ?_
 refine iN ?_
 refine tN ?_
 refine EL.seq ?_
 refine srl 2 [4, 6, 8, 51] ⟨M104, (M160 d n s)⟩ ?_
 refine cnT ?_
 refine srl 4 [4, 5] ⟨[(5, VI 3), (4, .ref 2 5 0 0)], (M160 d n s)⟩ ?_
 refine rtr ?_
 refine rqa (.tup [M106, VI 3]) (Ale.tup (aT (aE 1 (aR (aE 5 (aE 8 (aE 6 (.nil)))))) (aR .nil))) ?_
 rotate_left
 have g2 := of_decide_eq_true h2
 refine dwl 12 [4, 6, 7, 30] ⟨M168, (M160 d n s)⟩ ?_
 refine cnT ?_
 refine roe 1 ⟨(8, VI 3) :: M168, (M160 d n s)⟩ ?_
 refine iN ?_
 refine tN ?_
 refine EL.seq ?_
 refine srl 2 [4, 6, 8, 51] ⟨M104, (M160 d n s)⟩ ?_
 refine cnT ?_
 refine srl 4 [4, 5] ⟨[(5, VI 3), (4, .ref 2 5 0 0)], (M160 d n s)⟩ ?_
 refine rtr ?_
 refine rqa (.tup [M106, VI 3]) (Ale.tup (aT (aE 1 (aR (aE 5 (aE 8 (aE 6 (.nil)))))) (aR .nil))) ?_
 rotate_left
 all_goals (first | (rw [Synod.step_1 (by omega) (by omega) (fun hh => ‹¬ d = _› (ba_empty.2 hh))]; rfl) | (rw [Synod.step_r (by omega) (by omega) (by rw [‹d = _›]; rfl) (by omega)]; rfl) | (rw [Synod.step_5 (by rw [‹d = _›]; rfl) (by assumption) (by omega)]; first | (rw [Synod.many_0] <;> first | rfl | (dsimp only; omega)) | (rw [Synod.many_2] <;> first | rfl | (dsimp only; omega))))
section
variable (d : ByteArray) (n : Int) (s : Synod)
abbrev M238 := (beginP s.voters (List.length s.bids : Int) n d)
abbrev M186 : OB := some ⟨3, [[VI 6, VI n, .v (.string d)]]⟩
abbrev M187 : LB := [(M0 s), (M186 d n), M2, (M0 s), M2]
abbrev M188 : LB := [(M0 s), (M186 d n), M2, (M0 s), M2, (M9 s)]
abbrev M189 : LB := [(M0 s), (M186 d n), M2, (M0 s), M2, (M9 s), some ⟨8, (s.bids.map Bid.cs)⟩]
abbrev M190 : LB := [(M0 s), (M186 d n), M2, (M0 s), M2, (M9 s), some ⟨8, (s.bids.map Bid.cs)⟩, (M14 s)]
abbrev M191 : LB := [(M0 s), (M186 d n), M2, (M0 s), (M16 s), (M9 s), some ⟨8, (s.bids.map Bid.cs)⟩, (M14 s)]
abbrev M192 : LB := [(M0 s), (M186 d n), M2, (M19 s), (M9 s), some ⟨8, (s.bids.map Bid.cs)⟩, (M14 s)]
abbrev M193 : LB := [(M0 s), (M186 d n), M2, (M19 s), (M9 s), some ⟨8, (s.bids.map Bid.cs)⟩, (M14 s), (M19 s)]
abbrev M194 : AV := .agg [VI 6, VI n, .v (.string d)]
abbrev M195 : LB := [(M0 s), (M186 d n), M2, (M19 s), (M9 s), some ⟨8, (s.bids.map Bid.cs)⟩, (M14 s), (M19 s), some ⟨1, [[.ref 7 5 0 0]]⟩, (M186 d n)]
abbrev M196 : LB := [(M0 s), (M186 d n), M2, (M19 s), (M9 s), some ⟨8, (s.bids.map Bid.cs)⟩, (M14 s), (M19 s), some ⟨1, [[.ref 7 5 0 0]]⟩, (M186 d n), M25]
abbrev M197 : LS := [(12, VI 6), (11, .ref 9 3 0 0), (10, .mp 10), (9, .fn 80 [.ref 8 1 0 0, .ref 9 3 0 0]), (8, .fn 79 [.ref 8 1 0 0, .ref 9 3 0 0]), (7, .fn 76 [.ref 8 1 0 0, .ref 9 3 0 0]), (6, .fn 74 [.ref 8 1 0 0, .ref 9 3 0 0]), (5, .mp 10), (3, .ref 9 3 0 0), (2, .ref 8 1 0 0)]
abbrev M198 : LS := (13, .fn 74 [.ref 8 1 0 0, .ref 9 3 0 0]) :: M197
abbrev M199 : LS := (15, .fn 74 [.ref 8 1 0 0, .ref 9 3 0 0]) :: (14, (M194 d n)) :: (13, .ref 7 5 0 0) :: M22
abbrev M200 : LS := (7, .fn 74 [.ref 8 1 0 0, .ref 9 3 0 0]) :: M22
abbrev M201 : LS := (23, .v (.string d)) :: (22, .ref 1 3 0 2) :: (18, .v (.bool false)) :: M200
abbrev M202 : LS := [(30, .v (.bool false)), (7, .fn 74 [.ref 8 1 0 0, .ref 9 3 0 0]), (6, .ref 7 5 0 0), (4, .ref 2 5 0 0)]
abbrev M203 : LS := (16, .fn 74 [.ref 8 1 0 0, .ref 9 3 0 0]) :: M202
abbrev M204 : LS := [(4, (M194 d n)), (3, .ref 7 5 0 0), (0, .ref 8 1 0 0), (1, .ref 9 3 0 0)]
abbrev M205 : LB := [(M0 s), (M186 d n), M2, (M19 s), (M9 s), some ⟨8, (s.bids.map Bid.cs)⟩, (M14 s), (M19 s), some ⟨1, [[.ref 7 5 0 0]]⟩, (M186 d n), (M186 d n)]
abbrev M206 : LS := [(30, .v (.string d)), (29, .ref 10 3 0 2), (28, VI n), (27, .ref 10 3 0 1), (26, VI (List.length s.bids : Int)), (25, .own 5 8 0 (List.length s.bids)), (24, .ref 7 5 0 3), (23, .ref 7 5 0 0), (22, .ref 7 5 0 0), (21, .ref 7 5 0 0), (20, (M7 s)), (19, .ref 7 5 0 0), (18, .ref 7 5 0 0), (17, .ref 7 5 0 0), (16, .ref 7 5 0 0), (14, .v (.bool false)), (3, .ref 10 3 0 0), (0, .ref 7 5 0 0)]
abbrev M207 : Bid := (M238 d n s).1
abbrev M208 : AV := .agg [VI ((M207 d n s).time), VI ((M207 d n s).phase), .v (.string ((M207 d n s).own)), .v (.string ((M207 d n s).value)), VI ((((M207 d n s).best).at_).time), VI ((((M207 d n s).best).at_).who), .v (.string (((M207 d n s).best).data)), .v (.int .u64 ((M207 d n s).heard.n : Int))]
abbrev M209 : LS := (31, .tup [(M208 d n s), .lst 6 (((M238 d n s).2.1).map Vote.cs), VI ((M238 d n s).2.2)]) :: (M206 d n s)
abbrev M210 : OB := some ⟨8, [[VI ((M207 d n s).time), VI ((M207 d n s).phase), .v (.string ((M207 d n s).own)), .v (.string ((M207 d n s).value)), VI ((((M207 d n s).best).at_).time), VI ((((M207 d n s).best).at_).who), .v (.string (((M207 d n s).best).data)), .v (.int .u64 ((M207 d n s).heard.n : Int))]]⟩
abbrev M211 : LB := [(M0 s), (M186 d n), M2, (M19 s), (M9 s), some ⟨8, (s.bids.map Bid.cs)⟩, (M14 s), (M19 s), some ⟨1, [[.ref 7 5 0 0]]⟩, (M186 d n), (M186 d n), (M210 d n s)]
abbrev M212 : LS := [(7, VI ((M238 d n s).2.2)), (6, .lst 6 (((M238 d n s).2.1).map Vote.cs)), (5, .ref 11 8 0 0), (0, .ref 7 5 0 0)]
abbrev M213 : LS := (5, VI ((M238 d n s).2.2)) :: (M204 d n)
abbrev M214 : LS := (17, VI ((M238 d n s).2.2)) :: M203
abbrev M215 : LS := (8, VI ((M238 d n s).2.2)) :: (M214 d n s)
abbrev M216 : LS := [(8, VI ((M238 d n s).2.2)), (6, .ref 7 5 0 0), (4, .ref 2 5 0 0)]
abbrev M217 : LB := [(M0 s), (M186 d n), M2, (M19 s), (M9 s), some ⟨8, (s.bids.map Bid.cs)⟩, (M14 s), (M19 s), some ⟨1, [[.ref 7 5 0 0]]⟩, (M186 d n), (M186 d n), (M210 d n s), (M210 d n s)]
abbrev M218 : LS := (45, .own 12 8 0 1) :: (44, (M208 d n s)) :: (43, .own 5 8 0 (List.length s.bids)) :: (42, .ref 7 5 0 3) :: (41, .ref 7 5 0 0) :: (40, .ref 7 5 0 0) :: (39, .ref 7 5 0 0) :: (38, .ref 7 5 0 0) :: (36, .v (.bool false)) :: (M212 d n s)
abbrev M219 : OB := some ⟨8, ((s.bids ++ ([(M207 d n s)])).map Bid.cs)⟩
abbrev M220 : LB := [(M0 s), (M186 d n), M2, (M19 s), (M9 s), none, (M14 s), (M19 s), some ⟨1, [[.ref 7 5 0 0]]⟩, (M186 d n), (M186 d n), (M210 d n s), (M210 d n s), (M219 d n s)]
abbrev M221 : LS := (46, .own 13 8 0 (List.length (s.bids ++ ([(M207 d n s)])))) :: (M218 d n s)
abbrev M222 : OB := some ⟨5, [[.lst 1 (s.voters.weights.map cI), VI s.voters.need, .own 4 5 0 (List.length s.seats), .own 13 8 0 (List.length (s.bids ++ ([(M207 d n s)]))), .own 6 6 0 (List.length s.votes)]]⟩
abbrev M223 : LB := [(M0 s), (M186 d n), M2, (M19 s), (M9 s), none, (M14 s), (M222 d n s), some ⟨1, [[.ref 7 5 0 0]]⟩, (M186 d n), (M186 d n), (M210 d n s), (M210 d n s), (M219 d n s)]
abbrev M224 : LS := [(51, .lst 6 (((M238 d n s).2.1).map Vote.cs)), (50, .ref 7 5 0 0), (6, .lst 6 (((M238 d n s).2.1).map Vote.cs)), (0, .ref 7 5 0 0)]
abbrev M225 : LS := [(11, .lst 6 (((M238 d n s).2.1).map Vote.cs)), (10, .own 6 6 0 (List.length s.votes)), (9, .ref 7 5 0 4), (8, .ref 7 5 0 0), (7, .ref 7 5 0 0), (6, .ref 7 5 0 0), (5, .ref 7 5 0 0), (0, .ref 7 5 0 0), (1, .lst 6 (((M238 d n s).2.1).map Vote.cs))]
abbrev M226 : OB := some ⟨6, ((s.votes ++ ((M238 d n s).2.1)).map Vote.cs)⟩
abbrev M227 : LB := [(M0 s), (M186 d n), M2, (M19 s), (M9 s), none, none, (M222 d n s), some ⟨1, [[.ref 7 5 0 0]]⟩, (M186 d n), (M186 d n), (M210 d n s), (M210 d n s), (M219 d n s), (M226 d n s)]
abbrev M228 : LS := (12, .own 14 6 0 (List.length (s.votes ++ ((M238 d n s).2.1)))) :: (M225 d n s)
abbrev M229 : OB := some ⟨5, [[.lst 1 (s.voters.weights.map cI), VI s.voters.need, .own 4 5 0 (List.length s.seats), .own 13 8 0 (List.length (s.bids ++ ([(M207 d n s)]))), .own 14 6 0 (List.length (s.votes ++ ((M238 d n s).2.1)))]]⟩
abbrev M230 : LB := [(M0 s), (M186 d n), M2, (M19 s), (M9 s), none, none, (M229 d n s), some ⟨1, [[.ref 7 5 0 0]]⟩, (M186 d n), (M186 d n), (M210 d n s), (M210 d n s), (M219 d n s), (M226 d n s)]
abbrev M231 : OB := some ⟨5, [[.lst 1 (s.voters.weights.map cI), VI s.voters.need, .own 4 5 0 (List.length s.seats), .dead, .dead]]⟩
abbrev M232 : LB := [(M0 s), (M186 d n), M2, (M231 s), (M9 s), none, none, (M229 d n s), some ⟨1, [[.ref 7 5 0 0]]⟩, (M186 d n), (M186 d n), (M210 d n s), (M210 d n s), (M219 d n s), (M226 d n s)]
abbrev M233 : OB := some ⟨5, [[.lst 1 (s.voters.weights.map cI), VI s.voters.need, .own 4 5 0 (List.length s.seats), .own 10 8 0 (List.length (s.bids ++ ([(M207 d n s)]))), .own 11 6 0 (List.length (s.votes ++ ((M238 d n s).2.1)))]]⟩
abbrev M234 : LB := [(M0 s), (M186 d n), M2, (M231 s), (M9 s), none, none, (M233 d n s), some ⟨1, [[.ref 7 5 0 0]]⟩, (M186 d n), (M219 d n s), (M226 d n s)]
abbrev M235 : LB := [(M0 s), (M186 d n), (M233 d n s), (M231 s), (M9 s), none, none, (M233 d n s), some ⟨1, [[.ref 7 5 0 0]]⟩, (M186 d n), (M219 d n s), (M226 d n s)]
abbrev M236 : AV := .agg [.lst 1 (s.voters.weights.map cI), VI s.voters.need, .own 4 5 0 (List.length s.seats), .own 10 8 0 (List.length (s.bids ++ ([(M207 d n s)]))), .own 11 6 0 (List.length (s.votes ++ ((M238 d n s).2.1)))]
abbrev M237 : AV := .agg [.lst 1 (s.voters.weights.map cI), VI s.voters.need, .lst 5 (s.seats.map Seat.cs), .lst 8 ((s.bids ++ ([(M207 d n s)])).map Bid.cs), .lst 6 ((s.votes ++ ((M238 d n s).2.1)).map Vote.cs)]
end
theorem step6_fn (s : Synod) (n : Int) (d : ByteArray) (ok : s.Ok) : Fn Tryd.prog 28 [.agg [.lst 1 (s.voters.weights.map cI), VI s.voters.need, .lst 5 (s.seats.map Seat.cs), .lst 8 (s.bids.map Bid.cs), .lst 6 (s.votes.map Vote.cs)], .agg [VI 6, VI n, .v (.string d)]] (.tup [.agg [.lst 1 (((((s.stepP 6 n d).1).voters).weights).map cI), VI ((((s.stepP 6 n d).1).voters).need), .lst 5 ((((s.stepP 6 n d).1).seats).map Seat.cs), .lst 8 ((((s.stepP 6 n d).1).bids).map Bid.cs), .lst 6 ((((s.stepP 6 n d).1).votes).map Vote.cs)], VI ((s.stepP 6 n d).2)]) := by
 have q1 := qc_len ok.q
 have q2 := ok.len
 have q3 := ok.few
 have q4 := ok.many
 have vv := ok.vv
 have hx1 : s.voters.weights.length ≤ 9223372036854775807 := by omega
 refine fnw F28_ok ?_
 refine srl 4 [2, 3, 4] ⟨M3, [(M0 s), (M186 d n), M2]⟩ ?_
 refine srr 1 ⟨(9, (M4 s)) :: M3, [(M0 s), (M186 d n), M2]⟩ ?_
 refine owj [(M4 s)] (M18 s) (M192 d n s) ⟨(10, (M18 s)) :: (9, (M4 s)) :: M3, (M192 d n s)⟩ (fiw F49_ok ?_) ?_
 refine srl 2 [1, 2] ⟨[(2, .ref 4 5 0 0), (1, .ref 3 5 0 0)], (M187 d n s)⟩ ?_
 refine sdr 3 ⟨(M6 s), (M187 d n s)⟩ ?_
 refine dwg [.lst 1 (s.voters.weights.map cI)] ⟨(6, .lst 1 (s.voters.weights.map cI)) :: (M6 s), (M187 d n s)⟩ (cloneI_fo s.voters.weights (by first | omega | exact qc_small (by assumption))) ?_
 refine dwr 6 ⟨(M8 s), (M187 d n s)⟩ ?_
 refine DW.fo (ar := [.lst 5 (s.seats.map Seat.cs)]) (fe := Seat.cs) (xs := s.seats) (x' := ⟨(13, .own 5 5 0 (List.length s.seats)) :: (M8 s), (M188 d n s)⟩) (by kernel_rfl) (by kernel_rfl) F68_call (cloneS_fo s.seats (by first | omega | exact qc_small (by assumption))) (by intro y; kernel_rfl) (by kernel_rfl) (by kernel_rfl) ?_
 refine dwr 2 ⟨(M11 s), (M188 d n s)⟩ ?_
 refine DW.fo (ar := [.lst 8 (s.bids.map Bid.cs)]) (fe := Bid.cs) (xs := s.bids) (x' := ⟨(16, .own 6 8 0 (List.length s.bids)) :: (M11 s), (M189 d n s)⟩) (by kernel_rfl) (by kernel_rfl) F69_call (cloneB_fo s.bids (by first | omega | exact qc_small (by assumption))) (by intro y; kernel_rfl) (by kernel_rfl) (by kernel_rfl) ?_
 refine dwr 2 ⟨(M13 s), (M189 d n s)⟩ ?_
 refine DW.fo (ar := [.lst 6 (s.votes.map Vote.cs)]) (fe := Vote.cs) (xs := s.votes) (x' := ⟨(19, .own 7 6 0 (List.length s.votes)) :: (M13 s), (M190 d n s)⟩) (by kernel_rfl) (by kernel_rfl) F70_call (cloneV_fo s.votes (by first | omega | exact qc_small (by assumption))) (by intro y; kernel_rfl) (by kernel_rfl) (by kernel_rfl) ?_
 refine dwl 2 [2] ⟨[(2, .ref 4 5 0 0)], (M191 d n s)⟩ ?_
 refine EL.ret ?_
 exact fne [2] [uf 0, uf 1, uf 2, uf 4, ut 5, ut 6, ut 7] ⟨[(2, .ref 3 5 0 0)], (M192 d n s)⟩ ⟨pq 5 Seat.cs s.seats, pq 8 Bid.cs s.bids, pq 6 Vote.cs s.votes, trivial⟩
 refine owl 3 [3, 4, 6] ⟨M22, (M193 d n s)⟩ ?_
 refine srr 2 ⟨(14, (M194 d n)) :: (13, .ref 7 5 0 0) :: M22, (M193 d n s)⟩ ?_
 refine owj [.ref 7 5 0 0, (M194 d n)] (.fn 74 [.ref 8 1 0 0, .ref 9 3 0 0]) (M195 d n s) ⟨(M199 d n), (M195 d n s)⟩ (fiw F54_ok ?_) ?_
 refine srl 3 [2, 3] ⟨[(3, .ref 9 3 0 0), (2, .ref 8 1 0 0)], (M195 d n s)⟩ ?_
 refine srr 12 ⟨M197, (M196 d n s)⟩ ?_
 refine ow2 ⟨M198, (M196 d n s)⟩ (opE_mlk .int (.v (.nilFunc)) (.s 10) (.s 12) 10 [[VI 6, .fn 74 [.ref 8 1 0 0, .ref 9 3 0 0]], [VI 3, .fn 76 [.ref 8 1 0 0, .ref 9 3 0 0]], [VI 4, .fn 79 [.ref 8 1 0 0, .ref 9 3 0 0]], [VI 5, .fn 80 [.ref 8 1 0 0, .ref 9 3 0 0]]] (.int .i64 6) (some (.fn 74 [.ref 8 1 0 0, .ref 9 3 0 0])) (by kernel_rfl) (by kernel_rfl) (by kernel_rfl) (by kernel_rfl) (by kernel_rfl) (by kernel_rfl)) ?_
 refine owl 1 [4] ⟨[(4, .fn 74 [.ref 8 1 0 0, .ref 9 3 0 0])], (M196 d n s)⟩ ?_
 refine EL.ret ?_
 exact fne [4] [uf 0, uf 1, uf 2, uf 3, ut 4, ut 5, ut 6, uf 7, uf 8, uf 9] ⟨[(4, .fn 74 [.ref 8 1 0 0, .ref 9 3 0 0])], (M195 d n s)⟩ ⟨pq 5 Seat.cs s.seats, pq 8 Bid.cs s.bids, pq 6 Vote.cs s.votes, trivial⟩
 refine owl 1 [3, 4, 6, 7] ⟨M200, (M195 d n s)⟩ ?_
 refine srl 1 [3, 4, 6, 7] ⟨M200, (M195 d n s)⟩ ?_
 refine EL.seq ?_
 refine EL.block ?_
 refine srl 3 [3, 4, 6, 7, 18] ⟨(18, .v (.bool false)) :: M200, (M195 d n s)⟩ ?_
 refine cnF ?_
 refine srr 4 ⟨(25, .v (.bool (!(strEq d (⟨#[]⟩))))) :: (24, .v (.bool (!(strEq d (⟨#[]⟩))))) :: (M201 d), (M195 d n s)⟩ ?_
 cases h1 : (strEq d (⟨#[]⟩))
 have g1 : ¬ (d = (⟨#[]⟩)) := fun hh => Bool.noConfusion ((strEq_iff.2 hh).symm.trans h1)
 refine owl 5 [3, 4, 6, 7, 21] ⟨(21, .v (.bool false)) :: M200, (M195 d n s)⟩ ?_
 refine cnF ?_
 refine sdl 20 [4, 6, 7, 30] ⟨M202, (M195 d n s)⟩ ?_
 refine cnF ?_
 refine EL.reg0 ?_
 refine owr 1 ⟨M203, (M195 d n s)⟩ ?_
 cases h5 : ((List.length s.bids : Int) == 31)
 have g5 := bqF h5
 have n5 : ¬ ((List.length s.bids) = 31) := by omega
 cases h6 : (((beginP s.voters (List.length s.bids : Int) n d).2.2) != 0)
 have g6 := bnF h6
 cases h7 : (decide ((List.length (s.votes ++ ((beginP s.voters (List.length s.bids : Int) n d).2.1)) : Int) > 200))
 have g7 := of_decide_eq_false h7
 refine owj [.ref 8 1 0 0, .ref 9 3 0 0] (VI 0) (M234 d n s) ⟨(17, VI 0) :: M203, (M234 d n s)⟩ (fiw F74_ok ?_) ?_
 refine srl 1 [0, 1] ⟨[(0, .ref 8 1 0 0), (1, .ref 9 3 0 0)], (M195 d n s)⟩ ?_
 refine srr 2 ⟨(M204 d n), (M195 d n s)⟩ ?_
 refine owj [.ref 7 5 0 0, (M194 d n)] (VI 0) (M234 d n s) ⟨(5, VI 0) :: (M204 d n), (M234 d n s)⟩ (fiw F75_ok ?_) ?_
 refine srl 2 [0, 3] ⟨[(3, .ref 10 3 0 0), (0, .ref 7 5 0 0)], (M205 d n s)⟩ ?_
 refine EL.seq ?_
 refine srl 7 [0, 3, 14] ⟨[(14, .v (.bool ((List.length s.bids : Int) == 31))), (3, .ref 10 3 0 0), (0, .ref 7 5 0 0)], (M205 d n s)⟩ ?_
 rw [h5]
 refine cnF ?_
 refine skn ?_
 refine sdr 15 ⟨(M206 d n s), (M205 d n s)⟩ ?_
 refine dwg [(M7 s), VI (List.length s.bids : Int), VI n, .v (.string d)] ⟨(M209 d n s), (M205 d n s)⟩ (begin_fn s.voters (List.length s.bids : Int) n d hx1) ?_
 refine dwl 8 [0, 5, 6, 7] ⟨(M212 d n s), (M211 d n s)⟩ ?_
 refine EL.seq ?_
 refine srl 2 [0, 5, 6, 7, 36] ⟨(36, .v (.bool (((M238 d n s).2.2) != 0))) :: (M212 d n s), (M211 d n s)⟩ ?_
 rw [h6]
 refine cnF ?_
 refine skn ?_
 refine sdr 8 ⟨(M218 d n s), (M217 d n s)⟩ ?_
 refine dw2 ⟨(M221 d n s), (M220 d n s)⟩ (oap Bid.cs s.bids ([(M207 d n s)]) (.s 43) (.s 45) 8 88 5 (.own 12 8 0 1) (.own (els := [[VI ((M207 d n s).time), VI ((M207 d n s).phase), .v (.string ((M207 d n s).own)), .v (.string ((M207 d n s).value)), VI ((((M207 d n s).best).at_).time), VI ((((M207 d n s).best).at_).who), .v (.string (((M207 d n s).best).data)), .v (.int .u64 ((M207 d n s).heard.n : Int))]]) (by kernel_rfl) (by kernel_rfl) (of_decide_eq_true (by kernel_rfl))) (by first | (simp; omega) | omega | exact app_le (by first | exact q4 | exact ers_le q4 | omega) (by first | exact begin_len _ _ _ _ | exact Nat.le_trans (serve_len _ _) (by decide) | exact hear_len _ _ _ _ | (simp; done)) (by decide))) ?_
 refine dwl 4 [0, 6] ⟨[(6, .lst 6 (((M238 d n s).2.1).map Vote.cs)), (0, .ref 7 5 0 0)], (M223 d n s)⟩ ?_
 refine srr 2 ⟨(M224 d n s), (M223 d n s)⟩ ?_
 refine owj [.ref 7 5 0 0, .lst 6 (((M238 d n s).2.1).map Vote.cs)] (VI 0) (M232 d n s) ⟨(52, VI 0) :: (M224 d n s), (M232 d n s)⟩ (fiw F81_ok ?_) ?_
 refine srl 1 [0, 1] ⟨[(0, .ref 7 5 0 0), (1, .lst 6 (((M238 d n s).2.1).map Vote.cs))], (M223 d n s)⟩ ?_
 refine srr 7 ⟨(M225 d n s), (M223 d n s)⟩ ?_
 refine ow2 ⟨(M228 d n s), (M227 d n s)⟩ (oap Vote.cs s.votes ((M238 d n s).2.1) (.s 10) (.s 11) 6 56 6 (.lst 6 (((M238 d n s).2.1).map Vote.cs)) .lst (by first | (simp; omega) | omega | exact app_le (by first | exact q4 | exact ers_le q4 | omega) (by first | exact begin_len _ _ _ _ | exact Nat.le_trans (serve_len _ _) (by decide) | exact hear_len _ _ _ _ | (simp; done)) (by decide))) ?_
 refine owl 4 [0] ⟨[(0, .ref 7 5 0 0)], (M230 d n s)⟩ ?_
 refine EL.seq ?_
 refine srl 7 [22] ⟨[(22, .v (.bool (decide ((List.length (s.votes ++ ((M238 d n s).2.1)) : Int) > 200))))], (M230 d n s)⟩ ?_
 rw [h7]
 refine cnF ?_
 refine skn ?_
 refine srl 1 [4] ⟨[(4, VI 0)], (M230 d n s)⟩ ?_
 refine EL.ret ?_
 exact fne [4] [uf 0, uf 1, uf 2, uf 3, ut 4, uf 5, uf 6, uf 7, uf 8, uf 9, uf 10, uf 11, uf 12, ut 13, ut 14] ⟨[(4, VI 0)], (M232 d n s)⟩ ⟨pq 5 Seat.cs s.seats, pq 8 Bid.cs (s.bids ++ ([(M207 d n s)])), pq 6 Vote.cs (s.votes ++ ((M238 d n s).2.1)), trivial⟩
 refine owl 1 [4] ⟨[(4, VI 0)], (M232 d n s)⟩ ?_
 refine EL.ret ?_
 exact fne [4] [uf 0, uf 1, uf 2, uf 3, ut 4, uf 5, uf 6, uf 7, uf 8, uf 9, ut 13, ut 14] ⟨[(4, VI 0)], (M234 d n s)⟩ ⟨pq 5 Seat.cs s.seats, pq 8 Bid.cs (s.bids ++ ([(M207 d n s)])), pq 6 Vote.cs (s.votes ++ ((M238 d n s).2.1)), trivial⟩
 refine owl 1 [2] ⟨[(2, VI 0)], (M234 d n s)⟩ ?_
 refine EL.ret ?_
 exact fne [2] [uf 0, uf 1, uf 2, uf 3, ut 4, uf 5, uf 6, uf 7, uf 8, uf 9, ut 10, ut 11] ⟨[(2, VI 0)], (M234 d n s)⟩ ⟨pq 5 Seat.cs s.seats, pq 8 Bid.cs (s.bids ++ ([(M207 d n s)])), pq 6 Vote.cs (s.votes ++ ((M238 d n s).2.1)), trivial⟩
 refine owe 1 ⟨(8, VI 0) :: (17, VI 0) :: M203, (M234 d n s)⟩ ?_
 refine iN ?_
 refine tN ?_
 refine EL.seq ?_
 refine srl 2 [4, 6, 8, 51] ⟨M108, (M234 d n s)⟩ ?_
 refine cnF ?_
 refine skn ?_
 refine srl 6 [4, 5] ⟨[(5, VI 0), (4, .ref 2 5 0 0)], (M235 d n s)⟩ ?_
 refine EL.ret ?_
 refine rqs (.tup [(M237 d n s), VI 0]) (.tup [(M236 d n s), VI 0]) (snapR_tup (sA (snapA_agg (sC (by kernel_rfl) (sC (by kernel_rfl) (sC (smp Seat.cs s.seats) (sC (smp Bid.cs (s.bids ++ ([(M207 d n s)]))) (sC (smp Vote.cs (s.votes ++ ((beginP s.voters (List.length s.bids : Int) n d).2.1))) (rfl))))))) (sA (by kernel_rfl) (snapAs_nil)))) ?_
 rotate_left
 have g7 := of_decide_eq_true h7
 refine owj [.ref 8 1 0 0, .ref 9 3 0 0] (VI 2) (M234 d n s) ⟨(17, VI 2) :: M203, (M234 d n s)⟩ (fiw F74_ok ?_) ?_
 refine srl 1 [0, 1] ⟨[(0, .ref 8 1 0 0), (1, .ref 9 3 0 0)], (M195 d n s)⟩ ?_
 refine srr 2 ⟨(M204 d n), (M195 d n s)⟩ ?_
 refine owj [.ref 7 5 0 0, (M194 d n)] (VI 2) (M234 d n s) ⟨(5, VI 2) :: (M204 d n), (M234 d n s)⟩ (fiw F75_ok ?_) ?_
 refine srl 2 [0, 3] ⟨[(3, .ref 10 3 0 0), (0, .ref 7 5 0 0)], (M205 d n s)⟩ ?_
 refine EL.seq ?_
 refine srl 7 [0, 3, 14] ⟨[(14, .v (.bool ((List.length s.bids : Int) == 31))), (3, .ref 10 3 0 0), (0, .ref 7 5 0 0)], (M205 d n s)⟩ ?_
 rw [h5]
 refine cnF ?_
 refine skn ?_
 refine sdr 15 ⟨(M206 d n s), (M205 d n s)⟩ ?_
 refine dwg [(M7 s), VI (List.length s.bids : Int), VI n, .v (.string d)] ⟨(M209 d n s), (M205 d n s)⟩ (begin_fn s.voters (List.length s.bids : Int) n d hx1) ?_
 refine dwl 8 [0, 5, 6, 7] ⟨(M212 d n s), (M211 d n s)⟩ ?_
 refine EL.seq ?_
 refine srl 2 [0, 5, 6, 7, 36] ⟨(36, .v (.bool (((M238 d n s).2.2) != 0))) :: (M212 d n s), (M211 d n s)⟩ ?_
 rw [h6]
 refine cnF ?_
 refine skn ?_
 refine sdr 8 ⟨(M218 d n s), (M217 d n s)⟩ ?_
 refine dw2 ⟨(M221 d n s), (M220 d n s)⟩ (oap Bid.cs s.bids ([(M207 d n s)]) (.s 43) (.s 45) 8 88 5 (.own 12 8 0 1) (.own (els := [[VI ((M207 d n s).time), VI ((M207 d n s).phase), .v (.string ((M207 d n s).own)), .v (.string ((M207 d n s).value)), VI ((((M207 d n s).best).at_).time), VI ((((M207 d n s).best).at_).who), .v (.string (((M207 d n s).best).data)), .v (.int .u64 ((M207 d n s).heard.n : Int))]]) (by kernel_rfl) (by kernel_rfl) (of_decide_eq_true (by kernel_rfl))) (by first | (simp; omega) | omega | exact app_le (by first | exact q4 | exact ers_le q4 | omega) (by first | exact begin_len _ _ _ _ | exact Nat.le_trans (serve_len _ _) (by decide) | exact hear_len _ _ _ _ | (simp; done)) (by decide))) ?_
 refine dwl 4 [0, 6] ⟨[(6, .lst 6 (((M238 d n s).2.1).map Vote.cs)), (0, .ref 7 5 0 0)], (M223 d n s)⟩ ?_
 refine srr 2 ⟨(M224 d n s), (M223 d n s)⟩ ?_
 refine owj [.ref 7 5 0 0, .lst 6 (((M238 d n s).2.1).map Vote.cs)] (VI 2) (M232 d n s) ⟨(52, VI 2) :: (M224 d n s), (M232 d n s)⟩ (fiw F81_ok ?_) ?_
 refine srl 1 [0, 1] ⟨[(0, .ref 7 5 0 0), (1, .lst 6 (((M238 d n s).2.1).map Vote.cs))], (M223 d n s)⟩ ?_
 refine srr 7 ⟨(M225 d n s), (M223 d n s)⟩ ?_
 refine ow2 ⟨(M228 d n s), (M227 d n s)⟩ (oap Vote.cs s.votes ((M238 d n s).2.1) (.s 10) (.s 11) 6 56 6 (.lst 6 (((M238 d n s).2.1).map Vote.cs)) .lst (by first | (simp; omega) | omega | exact app_le (by first | exact q4 | exact ers_le q4 | omega) (by first | exact begin_len _ _ _ _ | exact Nat.le_trans (serve_len _ _) (by decide) | exact hear_len _ _ _ _ | (simp; done)) (by decide))) ?_
 refine owl 4 [0] ⟨[(0, .ref 7 5 0 0)], (M230 d n s)⟩ ?_
 refine EL.seq ?_
 refine srl 7 [22] ⟨[(22, .v (.bool (decide ((List.length (s.votes ++ ((M238 d n s).2.1)) : Int) > 200))))], (M230 d n s)⟩ ?_
 rw [h7]
 refine cnT ?_
 refine srl 1 [4] ⟨[(4, VI 2)], (M230 d n s)⟩ ?_
 refine rtr ?_
 exact fne [4] [uf 0, uf 1, uf 2, uf 3, ut 4, uf 5, uf 6, uf 7, uf 8, uf 9, uf 10, uf 11, uf 12, ut 13, ut 14] ⟨[(4, VI 2)], (M232 d n s)⟩ ⟨pq 5 Seat.cs s.seats, pq 8 Bid.cs (s.bids ++ ([(M207 d n s)])), pq 6 Vote.cs (s.votes ++ ((M238 d n s).2.1)), trivial⟩
 refine owl 1 [4] ⟨[(4, VI 2)], (M232 d n s)⟩ ?_
 refine EL.ret ?_
 exact fne [4] [uf 0, uf 1, uf 2, uf 3, ut 4, uf 5, uf 6, uf 7, uf 8, uf 9, ut 13, ut 14] ⟨[(4, VI 2)], (M234 d n s)⟩ ⟨pq 5 Seat.cs s.seats, pq 8 Bid.cs (s.bids ++ ([(M207 d n s)])), pq 6 Vote.cs (s.votes ++ ((M238 d n s).2.1)), trivial⟩
 refine owl 1 [2] ⟨[(2, VI 2)], (M234 d n s)⟩ ?_
 refine EL.ret ?_
 exact fne [2] [uf 0, uf 1, uf 2, uf 3, ut 4, uf 5, uf 6, uf 7, uf 8, uf 9, ut 10, ut 11] ⟨[(2, VI 2)], (M234 d n s)⟩ ⟨pq 5 Seat.cs s.seats, pq 8 Bid.cs (s.bids ++ ([(M207 d n s)])), pq 6 Vote.cs (s.votes ++ ((M238 d n s).2.1)), trivial⟩
 refine owe 1 ⟨(8, VI 2) :: (17, VI 2) :: M203, (M234 d n s)⟩ ?_
 refine iN ?_
 refine tN ?_
 refine EL.seq ?_
 refine srl 2 [4, 6, 8, 51] ⟨M107, (M234 d n s)⟩ ?_
 refine cnT ?_
 refine srl 4 [4, 5] ⟨[(5, VI 2), (4, .ref 2 5 0 0)], (M234 d n s)⟩ ?_
 refine rtr ?_
 refine rqa (.tup [M106, VI 2]) (Ale.tup (aT (aE 1 (aR (aE 5 (aE 8 (aE 6 (.nil)))))) (aR .nil))) ?_
 rotate_left
 have g6 := bnT h6
 refine owj [.ref 8 1 0 0, .ref 9 3 0 0] (VI ((M238 d n s).2.2)) (M195 d n s) ⟨(M214 d n s), (M195 d n s)⟩ (fiw F74_ok ?_) ?_
 refine srl 1 [0, 1] ⟨[(0, .ref 8 1 0 0), (1, .ref 9 3 0 0)], (M195 d n s)⟩ ?_
 refine srr 2 ⟨(M204 d n), (M195 d n s)⟩ ?_
 refine owj [.ref 7 5 0 0, (M194 d n)] (VI ((M238 d n s).2.2)) (M195 d n s) ⟨(M213 d n s), (M195 d n s)⟩ (fiw F75_ok ?_) ?_
 refine srl 2 [0, 3] ⟨[(3, .ref 10 3 0 0), (0, .ref 7 5 0 0)], (M205 d n s)⟩ ?_
 refine EL.seq ?_
 refine srl 7 [0, 3, 14] ⟨[(14, .v (.bool ((List.length s.bids : Int) == 31))), (3, .ref 10 3 0 0), (0, .ref 7 5 0 0)], (M205 d n s)⟩ ?_
 rw [h5]
 refine cnF ?_
 refine skn ?_
 refine sdr 15 ⟨(M206 d n s), (M205 d n s)⟩ ?_
 refine dwg [(M7 s), VI (List.length s.bids : Int), VI n, .v (.string d)] ⟨(M209 d n s), (M205 d n s)⟩ (begin_fn s.voters (List.length s.bids : Int) n d hx1) ?_
 refine dwl 8 [0, 5, 6, 7] ⟨(M212 d n s), (M211 d n s)⟩ ?_
 refine EL.seq ?_
 refine srl 2 [0, 5, 6, 7, 36] ⟨(36, .v (.bool (((M238 d n s).2.2) != 0))) :: (M212 d n s), (M211 d n s)⟩ ?_
 rw [h6]
 refine cnT ?_
 refine srl 2 [4] ⟨[(4, VI ((M238 d n s).2.2))], (M211 d n s)⟩ ?_
 refine rtr ?_
 exact fne [4] [uf 0, uf 1, uf 2, uf 3, ut 4, ut 5, ut 6, uf 7, uf 8, uf 9] ⟨[(4, VI ((M238 d n s).2.2))], (M195 d n s)⟩ ⟨pq 5 Seat.cs s.seats, pq 8 Bid.cs s.bids, pq 6 Vote.cs s.votes, trivial⟩
 refine owl 1 [2] ⟨[(2, VI ((M238 d n s).2.2))], (M195 d n s)⟩ ?_
 refine EL.ret ?_
 exact fne [2] [uf 0, uf 1, uf 2, uf 3, ut 4, ut 5, ut 6, uf 7, uf 8, uf 9] ⟨[(2, VI ((M238 d n s).2.2))], (M195 d n s)⟩ ⟨pq 5 Seat.cs s.seats, pq 8 Bid.cs s.bids, pq 6 Vote.cs s.votes, trivial⟩
 refine owe 1 ⟨(M215 d n s), (M195 d n s)⟩ ?_
 refine iN ?_
 refine tN ?_
 refine EL.seq ?_
 refine srl 2 [4, 6, 8, 51] ⟨(51, .v (.bool (((M238 d n s).2.2) != 0))) :: (M216 d n s), (M195 d n s)⟩ ?_
 rw [h6]
 refine cnT ?_
 refine srl 4 [4, 5] ⟨[(5, VI ((M238 d n s).2.2)), (4, .ref 2 5 0 0)], (M195 d n s)⟩ ?_
 refine rtr ?_
 refine rqa (.tup [M106, VI ((beginP s.voters (List.length s.bids : Int) n d).2.2)]) (Ale.tup (aT (aE 1 (aR (aE 5 (aE 8 (aE 6 (.nil)))))) (aR .nil))) ?_
 rotate_left
 have g5 := bqT h5
 have n5 : ((List.length s.bids) = 31) := by omega
 refine owj [.ref 8 1 0 0, .ref 9 3 0 0] (VI 2) (M195 d n s) ⟨(17, VI 2) :: M203, (M195 d n s)⟩ (fiw F74_ok ?_) ?_
 refine srl 1 [0, 1] ⟨[(0, .ref 8 1 0 0), (1, .ref 9 3 0 0)], (M195 d n s)⟩ ?_
 refine srr 2 ⟨(M204 d n), (M195 d n s)⟩ ?_
 refine owj [.ref 7 5 0 0, (M194 d n)] (VI 2) (M195 d n s) ⟨(5, VI 2) :: (M204 d n), (M195 d n s)⟩ (fiw F75_ok ?_) ?_
 refine srl 2 [0, 3] ⟨[(3, .ref 10 3 0 0), (0, .ref 7 5 0 0)], (M205 d n s)⟩ ?_
 refine EL.seq ?_
 refine srl 7 [0, 3, 14] ⟨[(14, .v (.bool ((List.length s.bids : Int) == 31))), (3, .ref 10 3 0 0), (0, .ref 7 5 0 0)], (M205 d n s)⟩ ?_
 rw [h5]
 refine cnT ?_
 refine srl 1 [4] ⟨[(4, VI 2)], (M205 d n s)⟩ ?_
 refine rtr ?_
 exact fne [4] [uf 0, uf 1, uf 2, uf 3, ut 4, ut 5, ut 6, uf 7, uf 8, uf 9] ⟨[(4, VI 2)], (M195 d n s)⟩ ⟨pq 5 Seat.cs s.seats, pq 8 Bid.cs s.bids, pq 6 Vote.cs s.votes, trivial⟩
 refine owl 1 [2] ⟨[(2, VI 2)], (M195 d n s)⟩ ?_
 refine EL.ret ?_
 exact fne [2] [uf 0, uf 1, uf 2, uf 3, ut 4, ut 5, ut 6, uf 7, uf 8, uf 9] ⟨[(2, VI 2)], (M195 d n s)⟩ ⟨pq 5 Seat.cs s.seats, pq 8 Bid.cs s.bids, pq 6 Vote.cs s.votes, trivial⟩
 refine owe 1 ⟨(8, VI 2) :: (17, VI 2) :: M203, (M195 d n s)⟩ ?_
 refine iN ?_
 refine tN ?_
 refine EL.seq ?_
 refine srl 2 [4, 6, 8, 51] ⟨M107, (M195 d n s)⟩ ?_
 refine cnT ?_
 refine srl 4 [4, 5] ⟨[(5, VI 2), (4, .ref 2 5 0 0)], (M195 d n s)⟩ ?_
 refine rtr ?_
 refine rqa (.tup [M106, VI 2]) (Ale.tup (aT (aE 1 (aR (aE 5 (aE 8 (aE 6 (.nil)))))) (aR .nil))) ?_
 rotate_left
 have g1 : (d = (⟨#[]⟩)) := strEq_iff.1 h1
 refine owl 5 [3, 4, 6, 7, 21] ⟨(21, .v (.bool false)) :: M200, (M195 d n s)⟩ ?_
 refine cnF ?_
 refine sdl 20 [4, 6, 7, 30] ⟨M202, (M195 d n s)⟩ ?_
 refine cnF ?_
 refine EL.reg0 ?_
 refine owr 1 ⟨M203, (M195 d n s)⟩ ?_
 cases h2 : ((List.length s.bids : Int) == 31)
 have g2 := bqF h2
 have n2 : ¬ ((List.length s.bids) = 31) := by omega
 cases h3 : (((beginP s.voters (List.length s.bids : Int) n d).2.2) != 0)
 have g3 := bnF h3
 cases h4 : (decide ((List.length (s.votes ++ ((beginP s.voters (List.length s.bids : Int) n d).2.1)) : Int) > 200))
 have g4 := of_decide_eq_false h4
 refine owj [.ref 8 1 0 0, .ref 9 3 0 0] (VI 0) (M234 d n s) ⟨(17, VI 0) :: M203, (M234 d n s)⟩ (fiw F74_ok ?_) ?_
 refine srl 1 [0, 1] ⟨[(0, .ref 8 1 0 0), (1, .ref 9 3 0 0)], (M195 d n s)⟩ ?_
 refine srr 2 ⟨(M204 d n), (M195 d n s)⟩ ?_
 refine owj [.ref 7 5 0 0, (M194 d n)] (VI 0) (M234 d n s) ⟨(5, VI 0) :: (M204 d n), (M234 d n s)⟩ (fiw F75_ok ?_) ?_
 refine srl 2 [0, 3] ⟨[(3, .ref 10 3 0 0), (0, .ref 7 5 0 0)], (M205 d n s)⟩ ?_
 refine EL.seq ?_
 refine srl 7 [0, 3, 14] ⟨[(14, .v (.bool ((List.length s.bids : Int) == 31))), (3, .ref 10 3 0 0), (0, .ref 7 5 0 0)], (M205 d n s)⟩ ?_
 rw [h2]
 refine cnF ?_
 refine skn ?_
 refine sdr 15 ⟨(M206 d n s), (M205 d n s)⟩ ?_
 refine dwg [(M7 s), VI (List.length s.bids : Int), VI n, .v (.string d)] ⟨(M209 d n s), (M205 d n s)⟩ (begin_fn s.voters (List.length s.bids : Int) n d hx1) ?_
 refine dwl 8 [0, 5, 6, 7] ⟨(M212 d n s), (M211 d n s)⟩ ?_
 refine EL.seq ?_
 refine srl 2 [0, 5, 6, 7, 36] ⟨(36, .v (.bool (((M238 d n s).2.2) != 0))) :: (M212 d n s), (M211 d n s)⟩ ?_
 rw [h3]
 refine cnF ?_
 refine skn ?_
 refine sdr 8 ⟨(M218 d n s), (M217 d n s)⟩ ?_
 refine dw2 ⟨(M221 d n s), (M220 d n s)⟩ (oap Bid.cs s.bids ([(M207 d n s)]) (.s 43) (.s 45) 8 88 5 (.own 12 8 0 1) (.own (els := [[VI ((M207 d n s).time), VI ((M207 d n s).phase), .v (.string ((M207 d n s).own)), .v (.string ((M207 d n s).value)), VI ((((M207 d n s).best).at_).time), VI ((((M207 d n s).best).at_).who), .v (.string (((M207 d n s).best).data)), .v (.int .u64 ((M207 d n s).heard.n : Int))]]) (by kernel_rfl) (by kernel_rfl) (of_decide_eq_true (by kernel_rfl))) (by first | (simp; omega) | omega | exact app_le (by first | exact q4 | exact ers_le q4 | omega) (by first | exact begin_len _ _ _ _ | exact Nat.le_trans (serve_len _ _) (by decide) | exact hear_len _ _ _ _ | (simp; done)) (by decide))) ?_
 refine dwl 4 [0, 6] ⟨[(6, .lst 6 (((M238 d n s).2.1).map Vote.cs)), (0, .ref 7 5 0 0)], (M223 d n s)⟩ ?_
 refine srr 2 ⟨(M224 d n s), (M223 d n s)⟩ ?_
 refine owj [.ref 7 5 0 0, .lst 6 (((M238 d n s).2.1).map Vote.cs)] (VI 0) (M232 d n s) ⟨(52, VI 0) :: (M224 d n s), (M232 d n s)⟩ (fiw F81_ok ?_) ?_
 refine srl 1 [0, 1] ⟨[(0, .ref 7 5 0 0), (1, .lst 6 (((M238 d n s).2.1).map Vote.cs))], (M223 d n s)⟩ ?_
 refine srr 7 ⟨(M225 d n s), (M223 d n s)⟩ ?_
 refine ow2 ⟨(M228 d n s), (M227 d n s)⟩ (oap Vote.cs s.votes ((M238 d n s).2.1) (.s 10) (.s 11) 6 56 6 (.lst 6 (((M238 d n s).2.1).map Vote.cs)) .lst (by first | (simp; omega) | omega | exact app_le (by first | exact q4 | exact ers_le q4 | omega) (by first | exact begin_len _ _ _ _ | exact Nat.le_trans (serve_len _ _) (by decide) | exact hear_len _ _ _ _ | (simp; done)) (by decide))) ?_
 refine owl 4 [0] ⟨[(0, .ref 7 5 0 0)], (M230 d n s)⟩ ?_
 refine EL.seq ?_
 refine srl 7 [22] ⟨[(22, .v (.bool (decide ((List.length (s.votes ++ ((M238 d n s).2.1)) : Int) > 200))))], (M230 d n s)⟩ ?_
 rw [h4]
 refine cnF ?_
 refine skn ?_
 refine srl 1 [4] ⟨[(4, VI 0)], (M230 d n s)⟩ ?_
 refine EL.ret ?_
 exact fne [4] [uf 0, uf 1, uf 2, uf 3, ut 4, uf 5, uf 6, uf 7, uf 8, uf 9, uf 10, uf 11, uf 12, ut 13, ut 14] ⟨[(4, VI 0)], (M232 d n s)⟩ ⟨pq 5 Seat.cs s.seats, pq 8 Bid.cs (s.bids ++ ([(M207 d n s)])), pq 6 Vote.cs (s.votes ++ ((M238 d n s).2.1)), trivial⟩
 refine owl 1 [4] ⟨[(4, VI 0)], (M232 d n s)⟩ ?_
 refine EL.ret ?_
 exact fne [4] [uf 0, uf 1, uf 2, uf 3, ut 4, uf 5, uf 6, uf 7, uf 8, uf 9, ut 13, ut 14] ⟨[(4, VI 0)], (M234 d n s)⟩ ⟨pq 5 Seat.cs s.seats, pq 8 Bid.cs (s.bids ++ ([(M207 d n s)])), pq 6 Vote.cs (s.votes ++ ((M238 d n s).2.1)), trivial⟩
 refine owl 1 [2] ⟨[(2, VI 0)], (M234 d n s)⟩ ?_
 refine EL.ret ?_
 exact fne [2] [uf 0, uf 1, uf 2, uf 3, ut 4, uf 5, uf 6, uf 7, uf 8, uf 9, ut 10, ut 11] ⟨[(2, VI 0)], (M234 d n s)⟩ ⟨pq 5 Seat.cs s.seats, pq 8 Bid.cs (s.bids ++ ([(M207 d n s)])), pq 6 Vote.cs (s.votes ++ ((M238 d n s).2.1)), trivial⟩
 refine owe 1 ⟨(8, VI 0) :: (17, VI 0) :: M203, (M234 d n s)⟩ ?_
 refine iN ?_
 refine tN ?_
 refine EL.seq ?_
 refine srl 2 [4, 6, 8, 51] ⟨M108, (M234 d n s)⟩ ?_
 refine cnF ?_
 refine skn ?_
 refine srl 6 [4, 5] ⟨[(5, VI 0), (4, .ref 2 5 0 0)], (M235 d n s)⟩ ?_
 refine EL.ret ?_
 refine rqs (.tup [(M237 d n s), VI 0]) (.tup [(M236 d n s), VI 0]) (snapR_tup (sA (snapA_agg (sC (by kernel_rfl) (sC (by kernel_rfl) (sC (smp Seat.cs s.seats) (sC (smp Bid.cs (s.bids ++ ([(M207 d n s)]))) (sC (smp Vote.cs (s.votes ++ ((beginP s.voters (List.length s.bids : Int) n d).2.1))) (rfl))))))) (sA (by kernel_rfl) (snapAs_nil)))) ?_
 rotate_left
 have g4 := of_decide_eq_true h4
 refine owj [.ref 8 1 0 0, .ref 9 3 0 0] (VI 2) (M234 d n s) ⟨(17, VI 2) :: M203, (M234 d n s)⟩ (fiw F74_ok ?_) ?_
 refine srl 1 [0, 1] ⟨[(0, .ref 8 1 0 0), (1, .ref 9 3 0 0)], (M195 d n s)⟩ ?_
 refine srr 2 ⟨(M204 d n), (M195 d n s)⟩ ?_
 refine owj [.ref 7 5 0 0, (M194 d n)] (VI 2) (M234 d n s) ⟨(5, VI 2) :: (M204 d n), (M234 d n s)⟩ (fiw F75_ok ?_) ?_
 refine srl 2 [0, 3] ⟨[(3, .ref 10 3 0 0), (0, .ref 7 5 0 0)], (M205 d n s)⟩ ?_
 refine EL.seq ?_
 refine srl 7 [0, 3, 14] ⟨[(14, .v (.bool ((List.length s.bids : Int) == 31))), (3, .ref 10 3 0 0), (0, .ref 7 5 0 0)], (M205 d n s)⟩ ?_
 rw [h2]
 refine cnF ?_
 refine skn ?_
 refine sdr 15 ⟨(M206 d n s), (M205 d n s)⟩ ?_
 refine dwg [(M7 s), VI (List.length s.bids : Int), VI n, .v (.string d)] ⟨(M209 d n s), (M205 d n s)⟩ (begin_fn s.voters (List.length s.bids : Int) n d hx1) ?_
 refine dwl 8 [0, 5, 6, 7] ⟨(M212 d n s), (M211 d n s)⟩ ?_
 refine EL.seq ?_
 refine srl 2 [0, 5, 6, 7, 36] ⟨(36, .v (.bool (((M238 d n s).2.2) != 0))) :: (M212 d n s), (M211 d n s)⟩ ?_
 rw [h3]
 refine cnF ?_
 refine skn ?_
 refine sdr 8 ⟨(M218 d n s), (M217 d n s)⟩ ?_
 refine dw2 ⟨(M221 d n s), (M220 d n s)⟩ (oap Bid.cs s.bids ([(M207 d n s)]) (.s 43) (.s 45) 8 88 5 (.own 12 8 0 1) (.own (els := [[VI ((M207 d n s).time), VI ((M207 d n s).phase), .v (.string ((M207 d n s).own)), .v (.string ((M207 d n s).value)), VI ((((M207 d n s).best).at_).time), VI ((((M207 d n s).best).at_).who), .v (.string (((M207 d n s).best).data)), .v (.int .u64 ((M207 d n s).heard.n : Int))]]) (by kernel_rfl) (by kernel_rfl) (of_decide_eq_true (by kernel_rfl))) (by first | (simp; omega) | omega | exact app_le (by first | exact q4 | exact ers_le q4 | omega) (by first | exact begin_len _ _ _ _ | exact Nat.le_trans (serve_len _ _) (by decide) | exact hear_len _ _ _ _ | (simp; done)) (by decide))) ?_
 refine dwl 4 [0, 6] ⟨[(6, .lst 6 (((M238 d n s).2.1).map Vote.cs)), (0, .ref 7 5 0 0)], (M223 d n s)⟩ ?_
 refine srr 2 ⟨(M224 d n s), (M223 d n s)⟩ ?_
 refine owj [.ref 7 5 0 0, .lst 6 (((M238 d n s).2.1).map Vote.cs)] (VI 2) (M232 d n s) ⟨(52, VI 2) :: (M224 d n s), (M232 d n s)⟩ (fiw F81_ok ?_) ?_
 refine srl 1 [0, 1] ⟨[(0, .ref 7 5 0 0), (1, .lst 6 (((M238 d n s).2.1).map Vote.cs))], (M223 d n s)⟩ ?_
 refine srr 7 ⟨(M225 d n s), (M223 d n s)⟩ ?_
 refine ow2 ⟨(M228 d n s), (M227 d n s)⟩ (oap Vote.cs s.votes ((M238 d n s).2.1) (.s 10) (.s 11) 6 56 6 (.lst 6 (((M238 d n s).2.1).map Vote.cs)) .lst (by first | (simp; omega) | omega | exact app_le (by first | exact q4 | exact ers_le q4 | omega) (by first | exact begin_len _ _ _ _ | exact Nat.le_trans (serve_len _ _) (by decide) | exact hear_len _ _ _ _ | (simp; done)) (by decide))) ?_
 refine owl 4 [0] ⟨[(0, .ref 7 5 0 0)], (M230 d n s)⟩ ?_
 refine EL.seq ?_
 refine srl 7 [22] ⟨[(22, .v (.bool (decide ((List.length (s.votes ++ ((M238 d n s).2.1)) : Int) > 200))))], (M230 d n s)⟩ ?_
 rw [h4]
 refine cnT ?_
 refine srl 1 [4] ⟨[(4, VI 2)], (M230 d n s)⟩ ?_
 refine rtr ?_
 exact fne [4] [uf 0, uf 1, uf 2, uf 3, ut 4, uf 5, uf 6, uf 7, uf 8, uf 9, uf 10, uf 11, uf 12, ut 13, ut 14] ⟨[(4, VI 2)], (M232 d n s)⟩ ⟨pq 5 Seat.cs s.seats, pq 8 Bid.cs (s.bids ++ ([(M207 d n s)])), pq 6 Vote.cs (s.votes ++ ((M238 d n s).2.1)), trivial⟩
 refine owl 1 [4] ⟨[(4, VI 2)], (M232 d n s)⟩ ?_
 refine EL.ret ?_
 exact fne [4] [uf 0, uf 1, uf 2, uf 3, ut 4, uf 5, uf 6, uf 7, uf 8, uf 9, ut 13, ut 14] ⟨[(4, VI 2)], (M234 d n s)⟩ ⟨pq 5 Seat.cs s.seats, pq 8 Bid.cs (s.bids ++ ([(M207 d n s)])), pq 6 Vote.cs (s.votes ++ ((M238 d n s).2.1)), trivial⟩
 refine owl 1 [2] ⟨[(2, VI 2)], (M234 d n s)⟩ ?_
 refine EL.ret ?_
 exact fne [2] [uf 0, uf 1, uf 2, uf 3, ut 4, uf 5, uf 6, uf 7, uf 8, uf 9, ut 10, ut 11] ⟨[(2, VI 2)], (M234 d n s)⟩ ⟨pq 5 Seat.cs s.seats, pq 8 Bid.cs (s.bids ++ ([(M207 d n s)])), pq 6 Vote.cs (s.votes ++ ((M238 d n s).2.1)), trivial⟩
 refine owe 1 ⟨(8, VI 2) :: (17, VI 2) :: M203, (M234 d n s)⟩ ?_
 refine iN ?_
 refine tN ?_
 refine EL.seq ?_
 refine srl 2 [4, 6, 8, 51] ⟨M107, (M234 d n s)⟩ ?_
 refine cnT ?_
 refine srl 4 [4, 5] ⟨[(5, VI 2), (4, .ref 2 5 0 0)], (M234 d n s)⟩ ?_
 refine rtr ?_
 refine rqa (.tup [M106, VI 2]) (Ale.tup (aT (aE 1 (aR (aE 5 (aE 8 (aE 6 (.nil)))))) (aR .nil))) ?_
 rotate_left
 have g3 := bnT h3
 refine owj [.ref 8 1 0 0, .ref 9 3 0 0] (VI ((M238 d n s).2.2)) (M195 d n s) ⟨(M214 d n s), (M195 d n s)⟩ (fiw F74_ok ?_) ?_
 refine srl 1 [0, 1] ⟨[(0, .ref 8 1 0 0), (1, .ref 9 3 0 0)], (M195 d n s)⟩ ?_
 refine srr 2 ⟨(M204 d n), (M195 d n s)⟩ ?_
 refine owj [.ref 7 5 0 0, (M194 d n)] (VI ((M238 d n s).2.2)) (M195 d n s) ⟨(M213 d n s), (M195 d n s)⟩ (fiw F75_ok ?_) ?_
 refine srl 2 [0, 3] ⟨[(3, .ref 10 3 0 0), (0, .ref 7 5 0 0)], (M205 d n s)⟩ ?_
 refine EL.seq ?_
 refine srl 7 [0, 3, 14] ⟨[(14, .v (.bool ((List.length s.bids : Int) == 31))), (3, .ref 10 3 0 0), (0, .ref 7 5 0 0)], (M205 d n s)⟩ ?_
 rw [h2]
 refine cnF ?_
 refine skn ?_
 refine sdr 15 ⟨(M206 d n s), (M205 d n s)⟩ ?_
 refine dwg [(M7 s), VI (List.length s.bids : Int), VI n, .v (.string d)] ⟨(M209 d n s), (M205 d n s)⟩ (begin_fn s.voters (List.length s.bids : Int) n d hx1) ?_
 refine dwl 8 [0, 5, 6, 7] ⟨(M212 d n s), (M211 d n s)⟩ ?_
 refine EL.seq ?_
 refine srl 2 [0, 5, 6, 7, 36] ⟨(36, .v (.bool (((M238 d n s).2.2) != 0))) :: (M212 d n s), (M211 d n s)⟩ ?_
 rw [h3]
 refine cnT ?_
 refine srl 2 [4] ⟨[(4, VI ((M238 d n s).2.2))], (M211 d n s)⟩ ?_
 refine rtr ?_
 exact fne [4] [uf 0, uf 1, uf 2, uf 3, ut 4, ut 5, ut 6, uf 7, uf 8, uf 9] ⟨[(4, VI ((M238 d n s).2.2))], (M195 d n s)⟩ ⟨pq 5 Seat.cs s.seats, pq 8 Bid.cs s.bids, pq 6 Vote.cs s.votes, trivial⟩
 refine owl 1 [2] ⟨[(2, VI ((M238 d n s).2.2))], (M195 d n s)⟩ ?_
 refine EL.ret ?_
 exact fne [2] [uf 0, uf 1, uf 2, uf 3, ut 4, ut 5, ut 6, uf 7, uf 8, uf 9] ⟨[(2, VI ((M238 d n s).2.2))], (M195 d n s)⟩ ⟨pq 5 Seat.cs s.seats, pq 8 Bid.cs s.bids, pq 6 Vote.cs s.votes, trivial⟩
 refine owe 1 ⟨(M215 d n s), (M195 d n s)⟩ ?_
 refine iN ?_
 refine tN ?_
 refine EL.seq ?_
 refine srl 2 [4, 6, 8, 51] ⟨(51, .v (.bool (((M238 d n s).2.2) != 0))) :: (M216 d n s), (M195 d n s)⟩ ?_
 rw [h3]
 refine cnT ?_
 refine srl 4 [4, 5] ⟨[(5, VI ((M238 d n s).2.2)), (4, .ref 2 5 0 0)], (M195 d n s)⟩ ?_
 refine rtr ?_
 refine rqa (.tup [M106, VI ((beginP s.voters (List.length s.bids : Int) n d).2.2)]) (Ale.tup (aT (aE 1 (aR (aE 5 (aE 8 (aE 6 (.nil)))))) (aR .nil))) ?_
 rotate_left
 have g2 := bqT h2
 have n2 : ((List.length s.bids) = 31) := by omega
 refine owj [.ref 8 1 0 0, .ref 9 3 0 0] (VI 2) (M195 d n s) ⟨(17, VI 2) :: M203, (M195 d n s)⟩ (fiw F74_ok ?_) ?_
 refine srl 1 [0, 1] ⟨[(0, .ref 8 1 0 0), (1, .ref 9 3 0 0)], (M195 d n s)⟩ ?_
 refine srr 2 ⟨(M204 d n), (M195 d n s)⟩ ?_
 refine owj [.ref 7 5 0 0, (M194 d n)] (VI 2) (M195 d n s) ⟨(5, VI 2) :: (M204 d n), (M195 d n s)⟩ (fiw F75_ok ?_) ?_
 refine srl 2 [0, 3] ⟨[(3, .ref 10 3 0 0), (0, .ref 7 5 0 0)], (M205 d n s)⟩ ?_
 refine EL.seq ?_
 refine srl 7 [0, 3, 14] ⟨[(14, .v (.bool ((List.length s.bids : Int) == 31))), (3, .ref 10 3 0 0), (0, .ref 7 5 0 0)], (M205 d n s)⟩ ?_
 rw [h2]
 refine cnT ?_
 refine srl 1 [4] ⟨[(4, VI 2)], (M205 d n s)⟩ ?_
 refine rtr ?_
 exact fne [4] [uf 0, uf 1, uf 2, uf 3, ut 4, ut 5, ut 6, uf 7, uf 8, uf 9] ⟨[(4, VI 2)], (M195 d n s)⟩ ⟨pq 5 Seat.cs s.seats, pq 8 Bid.cs s.bids, pq 6 Vote.cs s.votes, trivial⟩
 refine owl 1 [2] ⟨[(2, VI 2)], (M195 d n s)⟩ ?_
 refine EL.ret ?_
 exact fne [2] [uf 0, uf 1, uf 2, uf 3, ut 4, ut 5, ut 6, uf 7, uf 8, uf 9] ⟨[(2, VI 2)], (M195 d n s)⟩ ⟨pq 5 Seat.cs s.seats, pq 8 Bid.cs s.bids, pq 6 Vote.cs s.votes, trivial⟩
 refine owe 1 ⟨(8, VI 2) :: (17, VI 2) :: M203, (M195 d n s)⟩ ?_
 refine iN ?_
 refine tN ?_
 refine EL.seq ?_
 refine srl 2 [4, 6, 8, 51] ⟨M107, (M195 d n s)⟩ ?_
 refine cnT ?_
 refine srl 4 [4, 5] ⟨[(5, VI 2), (4, .ref 2 5 0 0)], (M195 d n s)⟩ ?_
 refine rtr ?_
 refine rqa (.tup [M106, VI 2]) (Ale.tup (aT (aE 1 (aR (aE 5 (aE 8 (aE 6 (.nil)))))) (aR .nil))) ?_
 rotate_left
 all_goals (first | (rw [Synod.step_6m (by omega)]; rfl) | (rw [Synod.step_6e (by omega) (by assumption)]; rfl) | (rw [Synod.step_6 (by omega) (by assumption)]; first | (rw [Synod.many_0] <;> first | rfl | (dsimp only; omega)) | (rw [Synod.many_2] <;> first | rfl | (dsimp only; omega))))
section
variable (s : Synod) (x : Step)
abbrev M239 : OB := some ⟨3, [[VI x.kind, VI x.n, .v (.string x.data)]]⟩
abbrev M240 : LB := [(M0 s), (M239 x), M2, (M0 s), M2]
abbrev M241 : LB := [(M0 s), (M239 x), M2, (M0 s), M2, (M9 s)]
abbrev M242 : LB := [(M0 s), (M239 x), M2, (M0 s), M2, (M9 s), some ⟨8, (s.bids.map Bid.cs)⟩]
abbrev M243 : LB := [(M0 s), (M239 x), M2, (M0 s), M2, (M9 s), some ⟨8, (s.bids.map Bid.cs)⟩, (M14 s)]
abbrev M244 : LB := [(M0 s), (M239 x), M2, (M0 s), (M16 s), (M9 s), some ⟨8, (s.bids.map Bid.cs)⟩, (M14 s)]
abbrev M245 : LB := [(M0 s), (M239 x), M2, (M19 s), (M9 s), some ⟨8, (s.bids.map Bid.cs)⟩, (M14 s)]
abbrev M246 : LB := [(M0 s), (M239 x), M2, (M19 s), (M9 s), some ⟨8, (s.bids.map Bid.cs)⟩, (M14 s), (M19 s)]
abbrev M247 : AV := .agg [VI x.kind, VI x.n, .v (.string x.data)]
abbrev M248 : LB := [(M0 s), (M239 x), M2, (M19 s), (M9 s), some ⟨8, (s.bids.map Bid.cs)⟩, (M14 s), (M19 s), some ⟨1, [[.ref 7 5 0 0]]⟩, (M239 x)]
abbrev M249 : LB := [(M0 s), (M239 x), M2, (M19 s), (M9 s), some ⟨8, (s.bids.map Bid.cs)⟩, (M14 s), (M19 s), some ⟨1, [[.ref 7 5 0 0]]⟩, (M239 x), M25]
abbrev M250 : LS := [(12, VI x.kind), (11, .ref 9 3 0 0), (10, .mp 10), (9, .fn 80 [.ref 8 1 0 0, .ref 9 3 0 0]), (8, .fn 79 [.ref 8 1 0 0, .ref 9 3 0 0]), (7, .fn 76 [.ref 8 1 0 0, .ref 9 3 0 0]), (6, .fn 74 [.ref 8 1 0 0, .ref 9 3 0 0]), (5, .mp 10), (3, .ref 9 3 0 0), (2, .ref 8 1 0 0)]
abbrev M251 : LS := (15, .v (.nilFunc)) :: (14, (M247 x)) :: (13, .ref 7 5 0 0) :: M22
abbrev M252 : LS := (8, VI 7) :: (18, .v (.bool true)) :: (7, .v (.nilFunc)) :: M22
abbrev M253 : LS := [(51, .v (.bool true)), (8, VI 7), (6, .ref 7 5 0 0), (4, .ref 2 5 0 0)]
end
theorem step0_fn (s : Synod) (x : Step) (ok : s.Ok) (hk : ¬ (3 ≤ x.kind ∧ x.kind ≤ 6)) : Fn Tryd.prog 28 [.agg [.lst 1 (s.voters.weights.map cI), VI s.voters.need, .lst 5 (s.seats.map Seat.cs), .lst 8 (s.bids.map Bid.cs), .lst 6 (s.votes.map Vote.cs)], .agg [VI x.kind, VI x.n, .v (.string x.data)]] (.tup [.agg [.lst 1 (((((s.stepP x.kind x.n x.data).1).voters).weights).map cI), VI ((((s.stepP x.kind x.n x.data).1).voters).need), .lst 5 ((((s.stepP x.kind x.n x.data).1).seats).map Seat.cs), .lst 8 ((((s.stepP x.kind x.n x.data).1).bids).map Bid.cs), .lst 6 ((((s.stepP x.kind x.n x.data).1).votes).map Vote.cs)], VI ((s.stepP x.kind x.n x.data).2)]) := by
 have q1 := qc_len ok.q
 have q2 := ok.len
 have q3 := ok.few
 have q4 := ok.many
 have vv := ok.vv
 have hx1 : s.voters.weights.length ≤ 9223372036854775807 := by omega
 have hk3 : (x.kind == 3) = false := by cases h : (x.kind == 3) with | false => rfl | true => exact absurd (eq_of_beq h) (by omega)
 have hk4 : (x.kind == 4) = false := by cases h : (x.kind == 4) with | false => rfl | true => exact absurd (eq_of_beq h) (by omega)
 have hk5 : (x.kind == 5) = false := by cases h : (x.kind == 5) with | false => rfl | true => exact absurd (eq_of_beq h) (by omega)
 have hk6 : (x.kind == 6) = false := by cases h : (x.kind == 6) with | false => rfl | true => exact absurd (eq_of_beq h) (by omega)
 refine fnw F28_ok ?_
 refine srl 4 [2, 3, 4] ⟨M3, [(M0 s), (M239 x), M2]⟩ ?_
 refine srr 1 ⟨(9, (M4 s)) :: M3, [(M0 s), (M239 x), M2]⟩ ?_
 refine owj [(M4 s)] (M18 s) (M245 s x) ⟨(10, (M18 s)) :: (9, (M4 s)) :: M3, (M245 s x)⟩ (fiw F49_ok ?_) ?_
 refine srl 2 [1, 2] ⟨[(2, .ref 4 5 0 0), (1, .ref 3 5 0 0)], (M240 s x)⟩ ?_
 refine sdr 3 ⟨(M6 s), (M240 s x)⟩ ?_
 refine dwg [.lst 1 (s.voters.weights.map cI)] ⟨(6, .lst 1 (s.voters.weights.map cI)) :: (M6 s), (M240 s x)⟩ (cloneI_fo s.voters.weights (by first | omega | exact qc_small (by assumption))) ?_
 refine dwr 6 ⟨(M8 s), (M240 s x)⟩ ?_
 refine DW.fo (ar := [.lst 5 (s.seats.map Seat.cs)]) (fe := Seat.cs) (xs := s.seats) (x' := ⟨(13, .own 5 5 0 (List.length s.seats)) :: (M8 s), (M241 s x)⟩) (by kernel_rfl) (by kernel_rfl) F68_call (cloneS_fo s.seats (by first | omega | exact qc_small (by assumption))) (by intro y; kernel_rfl) (by kernel_rfl) (by kernel_rfl) ?_
 refine dwr 2 ⟨(M11 s), (M241 s x)⟩ ?_
 refine DW.fo (ar := [.lst 8 (s.bids.map Bid.cs)]) (fe := Bid.cs) (xs := s.bids) (x' := ⟨(16, .own 6 8 0 (List.length s.bids)) :: (M11 s), (M242 s x)⟩) (by kernel_rfl) (by kernel_rfl) F69_call (cloneB_fo s.bids (by first | omega | exact qc_small (by assumption))) (by intro y; kernel_rfl) (by kernel_rfl) (by kernel_rfl) ?_
 refine dwr 2 ⟨(M13 s), (M242 s x)⟩ ?_
 refine DW.fo (ar := [.lst 6 (s.votes.map Vote.cs)]) (fe := Vote.cs) (xs := s.votes) (x' := ⟨(19, .own 7 6 0 (List.length s.votes)) :: (M13 s), (M243 s x)⟩) (by kernel_rfl) (by kernel_rfl) F70_call (cloneV_fo s.votes (by first | omega | exact qc_small (by assumption))) (by intro y; kernel_rfl) (by kernel_rfl) (by kernel_rfl) ?_
 refine dwl 2 [2] ⟨[(2, .ref 4 5 0 0)], (M244 s x)⟩ ?_
 refine EL.ret ?_
 exact fne [2] [uf 0, uf 1, uf 2, uf 4, ut 5, ut 6, ut 7] ⟨[(2, .ref 3 5 0 0)], (M245 s x)⟩ ⟨pq 5 Seat.cs s.seats, pq 8 Bid.cs s.bids, pq 6 Vote.cs s.votes, trivial⟩
 refine owl 3 [3, 4, 6] ⟨M22, (M246 s x)⟩ ?_
 refine srr 2 ⟨(14, (M247 x)) :: (13, .ref 7 5 0 0) :: M22, (M246 s x)⟩ ?_
 refine owj [.ref 7 5 0 0, (M247 x)] (.v (.nilFunc)) (M246 s x) ⟨(M251 x), (M246 s x)⟩ (fiw F54_ok ?_) ?_
 refine srl 3 [2, 3] ⟨[(3, .ref 9 3 0 0), (2, .ref 8 1 0 0)], (M248 s x)⟩ ?_
 refine srr 12 ⟨(M250 x), (M249 s x)⟩ ?_
 refine ow2 ⟨(13, .v (.nilFunc)) :: (M250 x), (M249 s x)⟩ (opE_mlk .int (.v (.nilFunc)) (.s 10) (.s 12) 10 [[VI 6, .fn 74 [.ref 8 1 0 0, .ref 9 3 0 0]], [VI 3, .fn 76 [.ref 8 1 0 0, .ref 9 3 0 0]], [VI 4, .fn 79 [.ref 8 1 0 0, .ref 9 3 0 0]], [VI 5, .fn 80 [.ref 8 1 0 0, .ref 9 3 0 0]]] (.int .i64 x.kind) none (by kernel_rfl) (by kernel_rfl) (by kernel_rfl) (by kernel_rfl) (by kernel_rfl) (by simp [mfind, keyEq, hk6, hk3, hk4, hk5])) ?_
 refine owl 1 [4] ⟨[(4, .v (.nilFunc))], (M249 s x)⟩ ?_
 refine EL.ret ?_
 exact fne [4] [uf 0, uf 1, uf 2, uf 3, ut 4, ut 5, ut 6, uf 7] ⟨[(4, .v (.nilFunc))], (M246 s x)⟩ ⟨pq 5 Seat.cs s.seats, pq 8 Bid.cs s.bids, pq 6 Vote.cs s.votes, trivial⟩
 refine owl 1 [3, 4, 6, 7] ⟨(7, .v (.nilFunc)) :: M22, (M246 s x)⟩ ?_
 refine srl 1 [3, 4, 6, 7] ⟨(7, .v (.nilFunc)) :: M22, (M246 s x)⟩ ?_
 refine EL.seq ?_
 refine EL.block ?_
 refine srl 3 [3, 4, 6, 7, 18] ⟨(18, .v (.bool true)) :: (7, .v (.nilFunc)) :: M22, (M246 s x)⟩ ?_
 refine cnT ?_
 refine roe 1 ⟨M252, (M246 s x)⟩ ?_
 refine iN ?_
 refine tN ?_
 refine EL.seq ?_
 refine srl 2 [4, 6, 8, 51] ⟨M253, (M246 s x)⟩ ?_
 refine cnT ?_
 refine srl 4 [4, 5] ⟨[(5, VI 7), (4, .ref 2 5 0 0)], (M246 s x)⟩ ?_
 refine rtr ?_
 refine rqa (.tup [M106, VI 7]) (Ale.tup (aT (aE 1 (aR (aE 5 (aE 8 (aE 6 (.nil)))))) (aR .nil))) ?_
 focus ((rw [Synod.step_7 hk] <;> rfl))
theorem step_fn (s : Synod) (x : Step) (ok : s.Ok) : Fn Tryd.prog 28 [.agg [.lst 1 (s.voters.weights.map cI), VI s.voters.need, .lst 5 (s.seats.map Seat.cs), .lst 8 (s.bids.map Bid.cs), .lst 6 (s.votes.map Vote.cs)], .agg [VI x.kind, VI x.n, .v (.string x.data)]] (.tup [.agg [.lst 1 ((s.stepP x.kind x.n x.data).1.voters.weights.map cI), VI (s.stepP x.kind x.n x.data).1.voters.need, .lst 5 ((s.stepP x.kind x.n x.data).1.seats.map Seat.cs), .lst 8 ((s.stepP x.kind x.n x.data).1.bids.map Bid.cs), .lst 6 ((s.stepP x.kind x.n x.data).1.votes.map Vote.cs)], VI (s.stepP x.kind x.n x.data).2]) := by
  by_cases hk : 3 ≤ x.kind ∧ x.kind ≤ 6
  · obtain ⟨k, n, d⟩ := x
    simp only at hk
    have : k = 3 ∨ k = 4 ∨ k = 5 ∨ k = 6 := by omega
    rcases this with rfl | rfl | rfl | rfl
    · exact step3_fn s n d ok
    · exact step4_fn s n d ok
    · exact step5_fn s n d ok
    · exact step6_fn s n d ok
  · exact step0_fn s x ok hk
theorem Synod.Ok.big {s : Synod} (ok : s.Ok) : s.Big := by
  have := qc_len ok.q; have := ok.len; have := ok.few; have := ok.many
  refine ⟨?_, ?_, ?_, ?_⟩ <;> omega
theorem Synod.zero_big : Synod.zero.Big := by unfold Synod.Big Synod.zero; dsimp only; simp
theorem Synod.Ok.small {s : Synod} (ok : s.Ok) : s.voters.weights.length ≤ 1000000 ∧ s.seats.length ≤ 1000000 ∧ s.bids.length ≤ 1000000 ∧ s.votes.length ≤ 1000000 := by
  have := qc_len ok.q; have := ok.len; have := ok.few; have := ok.many
  omega
abbrev Step.cs (x : Step) : List AV := [VI x.kind, VI x.n, .v (.string x.data)]
section
variable (s : Synod)
abbrev N0 : OB := some ⟨5, [[.lst 1 (s.voters.weights.map cI), VI s.voters.need, .lst 5 (s.seats.map Seat.cs), .lst 8 (s.bids.map Bid.cs), .lst 6 (s.votes.map Vote.cs)]]⟩
abbrev N1 : OB := some ⟨5, [[.emp, VI 0, .emp, .emp, .emp]]⟩
abbrev N2 : LS := [(5, .lst 1 (s.voters.weights.map cI)), (4, .ref 0 5 0 0), (3, .ref 0 5 0 0), (2, .ref 1 5 0 0), (1, .ref 0 5 0 0)]
abbrev N3 : AV := .agg [.lst 1 (s.voters.weights.map cI), VI s.voters.need]
abbrev N4 : LS := (12, .lst 5 (s.seats.map Seat.cs)) :: (11, .ref 0 5 0 2) :: (10, (N3 s)) :: (9, VI s.voters.need) :: (8, .ref 0 5 0 1) :: (7, .ref 0 5 0 0) :: (6, .lst 1 (s.voters.weights.map cI)) :: (N2 s)
abbrev N5 : OB := some ⟨5, (s.seats.map Seat.cs)⟩
abbrev N6 : LS := (15, .lst 8 (s.bids.map Bid.cs)) :: (14, .ref 0 5 0 3) :: (13, .own 2 5 0 (List.length s.seats)) :: (N4 s)
abbrev N7 : LB := [(N0 s), N1, (N5 s), some ⟨8, (s.bids.map Bid.cs)⟩]
abbrev N8 : LS := (18, .lst 6 (s.votes.map Vote.cs)) :: (17, .ref 0 5 0 4) :: (16, .own 3 8 0 (List.length s.bids)) :: (N6 s)
abbrev N9 : OB := some ⟨6, (s.votes.map Vote.cs)⟩
abbrev N10 : LB := [(N0 s), N1, (N5 s), some ⟨8, (s.bids.map Bid.cs)⟩, (N9 s)]
abbrev N11 : OB := some ⟨5, [[.lst 1 (s.voters.weights.map cI), VI s.voters.need, .own 2 5 0 (List.length s.seats), .own 3 8 0 (List.length s.bids), .own 4 6 0 (List.length s.votes)]]⟩
abbrev N12 : LB := [(N0 s), (N11 s), (N5 s), some ⟨8, (s.bids.map Bid.cs)⟩, (N9 s)]
abbrev N13 : AV := .agg [.lst 1 (s.voters.weights.map cI), VI s.voters.need, .own 2 5 0 (List.length s.seats), .own 3 8 0 (List.length s.bids), .own 4 6 0 (List.length s.votes)]
abbrev N14 : AV := .agg [.lst 1 (s.voters.weights.map cI), VI s.voters.need, .lst 5 (s.seats.map Seat.cs), .lst 8 (s.bids.map Bid.cs), .lst 6 (s.votes.map Vote.cs)]
end
theorem own_fn (s : Synod) (hs : s.voters.weights.length ≤ 1000000 ∧ s.seats.length ≤ 1000000 ∧ s.bids.length ≤ 1000000 ∧ s.votes.length ≤ 1000000) : Fn Tryd.prog 49 [.agg [.lst 1 (s.voters.weights.map cI), VI s.voters.need, .lst 5 (s.seats.map Seat.cs), .lst 8 (s.bids.map Bid.cs), .lst 6 (s.votes.map Vote.cs)]] (.agg [.lst 1 (s.voters.weights.map cI), VI s.voters.need, .lst 5 (s.seats.map Seat.cs), .lst 8 (s.bids.map Bid.cs), .lst 6 (s.votes.map Vote.cs)]) := by
 refine fnw F49_ok ?_
 refine srl 2 [1, 2] ⟨[(2, .ref 1 5 0 0), (1, .ref 0 5 0 0)], [(N0 s), N1]⟩ ?_
 refine sdr 3 ⟨(N2 s), [(N0 s), N1]⟩ ?_
 refine dwg [.lst 1 (s.voters.weights.map cI)] ⟨(6, .lst 1 (s.voters.weights.map cI)) :: (N2 s), [(N0 s), N1]⟩ (cloneI_fo s.voters.weights (by first | omega | exact qc_small (by assumption))) ?_
 refine dwr 6 ⟨(N4 s), [(N0 s), N1]⟩ ?_
 refine DW.fo (ar := [.lst 5 (s.seats.map Seat.cs)]) (fe := Seat.cs) (xs := s.seats) (x' := ⟨(13, .own 2 5 0 (List.length s.seats)) :: (N4 s), [(N0 s), N1, (N5 s)]⟩) (by kernel_rfl) (by kernel_rfl) F68_call (cloneS_fo s.seats (by first | omega | exact qc_small (by assumption))) (by intro y; kernel_rfl) (by kernel_rfl) (by kernel_rfl) ?_
 refine dwr 2 ⟨(N6 s), [(N0 s), N1, (N5 s)]⟩ ?_
 refine DW.fo (ar := [.lst 8 (s.bids.map Bid.cs)]) (fe := Bid.cs) (xs := s.bids) (x' := ⟨(16, .own 3 8 0 (List.length s.bids)) :: (N6 s), (N7 s)⟩) (by kernel_rfl) (by kernel_rfl) F69_call (cloneB_fo s.bids (by first | omega | exact qc_small (by assumption))) (by intro y; kernel_rfl) (by kernel_rfl) (by kernel_rfl) ?_
 refine dwr 2 ⟨(N8 s), (N7 s)⟩ ?_
 refine DW.fo (ar := [.lst 6 (s.votes.map Vote.cs)]) (fe := Vote.cs) (xs := s.votes) (x' := ⟨(19, .own 4 6 0 (List.length s.votes)) :: (N8 s), (N10 s)⟩) (by kernel_rfl) (by kernel_rfl) F70_call (cloneV_fo s.votes (by first | omega | exact qc_small (by assumption))) (by intro y; kernel_rfl) (by kernel_rfl) (by kernel_rfl) ?_
 refine dwl 2 [2] ⟨[(2, .ref 1 5 0 0)], (N12 s)⟩ ?_
 refine EL.ret ?_
 refine rqs (N14 s) (N13 s) (snapA_agg (sC (by kernel_rfl) (sC (by kernel_rfl) (sC (smp Seat.cs s.seats) (sC (smp Bid.cs s.bids) (sC (smp Vote.cs s.votes) (rfl))))))) ?_
 focus (rfl)
section
variable (s : Synod) (x : Step)
abbrev N24 := ((s.stepP x.kind x.n x.data).1)
abbrev N15 : OB := some ⟨3, [[VI x.kind, VI x.n, .v (.string x.data)]]⟩
abbrev N16 : LS := [(4, .ref 2 5 0 0), (3, .ref 1 3 0 0), (2, .ref 0 5 0 0)]
abbrev N18 : AV := .agg [.emp, VI 0, .emp, .emp, .emp]
abbrev N19 : AV := .agg [VI x.kind, VI x.n, .v (.string x.data)]
abbrev N20 : LS := (14, (N19 x)) :: (13, (N14 s)) :: (10, .v (.bool false)) :: (6, VI s.checkE) :: N16
abbrev N21 : AV := .agg [.lst 1 ((((N24 s x).voters).weights).map cI), VI (((N24 s x).voters).need), .lst 5 (((N24 s x).seats).map Seat.cs), .lst 8 (((N24 s x).bids).map Bid.cs), .lst 6 (((N24 s x).votes).map Vote.cs)]
abbrev N22 : LS := (15, .tup [(N21 s x), VI ((s.stepP x.kind x.n x.data).2)]) :: (N20 s x)
abbrev N23 : OB := some ⟨5, [[.lst 1 ((((N24 s x).voters).weights).map cI), VI (((N24 s x).voters).need), .lst 5 (((N24 s x).seats).map Seat.cs), .lst 8 (((N24 s x).bids).map Bid.cs), .lst 6 (((N24 s x).votes).map Vote.cs)]]⟩
end
theorem do_fn (s : Synod) (x : Step) (hx : s.Big) : Fn Tryd.prog 13 [.agg [.lst 1 (s.voters.weights.map cI), VI s.voters.need, .lst 5 (s.seats.map Seat.cs), .lst 8 (s.bids.map Bid.cs), .lst 6 (s.votes.map Vote.cs)], .agg [VI x.kind, VI x.n, .v (.string x.data)]] (.tup [.agg [.lst 1 (((((s.doP x.kind x.n x.data).1).voters).weights).map cI), VI ((((s.doP x.kind x.n x.data).1).voters).need), .lst 5 ((((s.doP x.kind x.n x.data).1).seats).map Seat.cs), .lst 8 ((((s.doP x.kind x.n x.data).1).bids).map Bid.cs), .lst 6 ((((s.doP x.kind x.n x.data).1).votes).map Vote.cs)], VI ((s.doP x.kind x.n x.data).2)]) := by
 refine fnw F13_ok ?_
 refine srl 4 [2, 3, 4] ⟨N16, [(N0 s), (N15 x), N1]⟩ ?_
 refine EL.seq ?_
 refine srr 1 ⟨(7, (N14 s)) :: N16, [(N0 s), (N15 x), N1]⟩ ?_
 refine owg [(N14 s)] ⟨(8, VI s.checkE) :: (7, (N14 s)) :: N16, [(N0 s), (N15 x), N1]⟩ (check_fn s (by first | assumption | exact Synod.Ok.big (by assumption))) ?_
 refine owl 1 [2, 3, 4, 6] ⟨(6, VI s.checkE) :: N16, [(N0 s), (N15 x), N1]⟩ ?_
 refine srl 2 [2, 3, 4, 6, 10] ⟨(10, .v (.bool (s.checkE != 0))) :: (6, VI s.checkE) :: N16, [(N0 s), (N15 x), N1]⟩ ?_
 cases h1 : (s.checkE != 0)
 have g1 := bnF h1
 refine cnF ?_
 refine skn ?_
 refine srr 2 ⟨(N20 s x), [(N0 s), (N15 x), N1]⟩ ?_
 refine owg [(N14 s), (N19 x)] ⟨(N22 s x), [(N0 s), (N15 x), N1]⟩ (step_fn s x (by first | assumption | exact Synod.check_0 ‹_›)) ?_
 refine owl 4 [4, 5] ⟨[(5, VI ((s.stepP x.kind x.n x.data).2)), (4, .ref 2 5 0 0)], [(N0 s), (N15 x), (N23 s x)]⟩ ?_
 refine EL.ret ?_
 refine rqe (.tup [(N21 s x), VI ((s.stepP x.kind x.n x.data).2)]) ?_
 rotate_left
 have g1 := bnT h1
 refine cnT ?_
 refine srl 4 [4, 5] ⟨[(5, VI s.checkE), (4, .ref 2 5 0 0)], [(N0 s), (N15 x), N1]⟩ ?_
 refine rtr ?_
 refine rqa (.tup [N18, VI s.checkE]) (Ale.tup (aT (aE 1 (aR (aE 5 (aE 8 (aE 6 (.nil)))))) (aR .nil))) ?_
 rotate_left
 all_goals (first | (rw [Synod.doP_0 ‹_›] <;> rfl) | (rw [Synod.doP_n ‹_›] <;> rfl))
section
variable (a10 : Step) (c : Synod) (k : Nat) (l : List Step) (n : Int) (s : Synod)
abbrev N52 := (c.stepP a10.kind a10.n a10.data)
abbrev N25 : LS := [(4, .ref 1 5 0 0), (2, .ref 0 5 0 0), (1, .lst 3 (l.map Step.cs))]
abbrev N26 : LS := (18, .lst 3 (l.map Step.cs)) :: (17, .v (.bool true)) :: (16, .v (.bool true)) :: (15, VI s.checkE) :: (7, VI s.checkE) :: (N25 l)
abbrev N27 : LS := [(1, .lst 3 (l.map Step.cs)), (2, .ref 0 5 0 0), (4, .ref 1 5 0 0), (7, VI 2)]
abbrev N28 : LS := [(1, .lst 3 (l.map Step.cs)), (2, .ref 0 5 0 0), (4, .ref 1 5 0 0), (7, VI s.checkE)]
abbrev N29 : LS := [(6, VI s.checkE), (5, VI 0), (4, .ref 1 5 0 0)]
abbrev N30 : LS := (27, (N14 s)) :: (26, (N14 s)) :: (23, .v (.bool false)) :: (N28 l s)
abbrev N31 : LS := [(1, .lst 3 (l.map Step.cs)), (2, .ref 0 5 0 0), (4, .ref 1 5 0 0)]
abbrev N32 : LS := (29, VI (List.length l : Int)) :: (28, .lst 3 (l.map Step.cs)) :: (8, VI 0) :: (N31 l)
abbrev N33 : LS := [(30, VI 0), (29, VI (List.length l : Int)), (28, .lst 3 (l.map Step.cs)), (8, VI 0), (2, .ref 0 5 0 0), (4, .ref 1 5 0 0)]
abbrev N34 : OB := some ⟨5, [[.lst 1 (c.voters.weights.map cI), VI c.voters.need, .lst 5 (c.seats.map Seat.cs), .lst 8 (c.bids.map Bid.cs), .lst 6 (c.votes.map Vote.cs)]]⟩
abbrev N35 : LS := [(2, .ref 0 5 0 0), (4, .ref 1 5 0 0), (8, VI n), (28, .lst 3 (l.map Step.cs)), (29, VI (List.length l : Int)), (30, VI (k : Int))]
abbrev N36 : LS := (32, .pim [VI a10.kind, VI a10.n, .v (.string a10.data)] 0) :: (31, .v (.bool true)) :: (N35 k l n)
abbrev N37 : OB := some ⟨3, [[VI a10.kind, VI a10.n, .v (.string a10.data)]]⟩
abbrev N38 : AV := .agg [VI a10.kind, VI a10.n, .v (.string a10.data)]
abbrev N39 : AV := .agg [.lst 1 (c.voters.weights.map cI), VI c.voters.need, .lst 5 (c.seats.map Seat.cs), .lst 8 (c.bids.map Bid.cs), .lst 6 (c.votes.map Vote.cs)]
abbrev N40 : LS := (36, (N38 a10)) :: (35, (N39 c)) :: (10, .ref 2 3 0 0) :: (N35 k l n)
abbrev N41 : AV := .agg [.lst 1 (((((N52 a10 c).1).voters).weights).map cI), VI ((((N52 a10 c).1).voters).need), .lst 5 ((((N52 a10 c).1).seats).map Seat.cs), .lst 8 ((((N52 a10 c).1).bids).map Bid.cs), .lst 6 ((((N52 a10 c).1).votes).map Vote.cs)]
abbrev N42 : LS := (37, .tup [(N41 a10 c), VI ((N52 a10 c).2)]) :: (N40 a10 c k l n)
abbrev N43 : OB := some ⟨5, [[.lst 1 (((((N52 a10 c).1).voters).weights).map cI), VI ((((N52 a10 c).1).voters).need), .lst 5 ((((N52 a10 c).1).seats).map Seat.cs), .lst 8 ((((N52 a10 c).1).bids).map Bid.cs), .lst 6 ((((N52 a10 c).1).votes).map Vote.cs)]]⟩
abbrev N44 : LB := [(N34 c), N1, (N37 a10), (N43 a10 c)]
abbrev N45 : LS := (12, VI ((N52 a10 c).2)) :: (11, .ref 3 5 0 0) :: (N35 k l n)
abbrev N46 : LB := [(N43 a10 c), N1, (N37 a10), (N43 a10 c)]
abbrev N47 : LS := [(43, VI n), (2, .ref 0 5 0 0), (4, .ref 1 5 0 0), (28, .lst 3 (l.map Step.cs)), (29, VI (List.length l : Int)), (30, VI (k : Int))]
abbrev N48 : LS := [(8, VI (n + 1)), (44, VI (n + 1)), (43, VI n), (2, .ref 0 5 0 0), (4, .ref 1 5 0 0), (28, .lst 3 (l.map Step.cs)), (29, VI (List.length l : Int))]
abbrev N49 : LS := (30, VI ((k : Int) + 1)) :: (45, VI ((k : Int) + 1)) :: (N48 l n)
abbrev N50 : LS := [(41, .v (.bool false)), (11, .ref 3 5 0 0), (2, .ref 0 5 0 0), (4, .ref 1 5 0 0), (8, VI n), (28, .lst 3 (l.map Step.cs)), (29, VI (List.length l : Int))]
abbrev N51 : LS := (30, VI ((k : Int) + 1)) :: (45, VI ((k : Int) + 1)) :: (N50 l n)
end
theorem run_fn (s : Synod) (l : List Step) (hx : s.Big) (hl : l.length ≤ 9223372036854775807) : Fn Tryd.prog 20 [.agg [.lst 1 (s.voters.weights.map cI), VI s.voters.need, .lst 5 (s.seats.map Seat.cs), .lst 8 (s.bids.map Bid.cs), .lst 6 (s.votes.map Vote.cs)], .lst 3 (l.map Step.cs)] (.tup [.agg [.lst 1 (((((s.runP l).1).voters).weights).map cI), VI ((((s.runP l).1).voters).need), .lst 5 ((((s.runP l).1).seats).map Seat.cs), .lst 8 ((((s.runP l).1).bids).map Bid.cs), .lst 6 ((((s.runP l).1).votes).map Vote.cs)], VI ((s.runP l).2.1), VI ((s.runP l).2.2)]) := by
 refine fnw F20_ok ?_
 refine srl 4 [1, 2, 4] ⟨(N25 l), [(N0 s), N1]⟩ ?_
 refine srr 1 ⟨(13, (N14 s)) :: (N25 l), [(N0 s), N1]⟩ ?_
 refine owg [(N14 s)] ⟨(14, VI s.checkE) :: (13, (N14 s)) :: (N25 l), [(N0 s), N1]⟩ (check_fn s (by first | assumption | exact Synod.Ok.big (by assumption))) ?_
 refine owl 1 [1, 2, 4, 7] ⟨(7, VI s.checkE) :: (N25 l), [(N0 s), N1]⟩ ?_
 refine EL.seqG [1, 2, 4, 7] (fun y => (y = ⟨(N27 l), [(N0 s), N1]⟩ ∧ (s.checkE == 0) = true ∧ decide ((List.length l : Int) > 200) = true) ∨ (y = ⟨(N28 l s), [(N0 s), N1]⟩ ∧ ((s.checkE = 0 ∧ ¬ ((List.length l : Int) > 200)) ∨ (¬ s.checkE = 0)))) ?_ ?_
 intro IHJ1 HJ1
 refine srr 3 ⟨(17, .v (.bool (s.checkE == 0))) :: (16, .v (.bool (s.checkE == 0))) :: (15, VI s.checkE) :: (7, VI s.checkE) :: (N25 l), [(N0 s), N1]⟩ ?_
 cases h2 : (s.checkE == 0)
 have g2 := bqF h2
 refine owl 4 [1, 2, 4, 7, 21] ⟨(21, .v (.bool false)) :: (7, VI s.checkE) :: (N25 l), [(N0 s), N1]⟩ ?_
 refine cnF ?_
 refine EL.skip ?_
 exact tN (HJ1.get (Or.inr ⟨by kernel_rfl, (Or.inr (by first | exact g2 | exact h2 | simp_all | omega))⟩))
 have g2 := bqT h2
 refine owr 1 ⟨(N26 l s), [(N0 s), N1]⟩ ?_
 refine ow2 ⟨(19, VI (List.length l : Int)) :: (N26 l s), [(N0 s), N1]⟩ (oln Step.cs l (.s 18) 3) ?_
 refine owl 2 [1, 2, 4, 7, 21] ⟨(21, .v (.bool (decide ((List.length l : Int) > 200)))) :: (7, VI s.checkE) :: (N25 l), [(N0 s), N1]⟩ ?_
 cases h3 : (decide ((List.length l : Int) > 200))
 have g3 := of_decide_eq_false h3
 have n3 : ¬ ((List.length l) > 200) := by omega
 refine cnF ?_
 refine EL.skip ?_
 exact tN (HJ1.get (Or.inr ⟨by kernel_rfl, (Or.inl (by refine ⟨(by first | exact g2 | exact h2 | simp_all | omega), (by first | exact g3 | exact h3 | simp_all | omega)⟩))⟩))
 have g3 := of_decide_eq_true h3
 have n3 : ((List.length l) > 200) := by omega
 refine cnT ?_
 refine roe 1 ⟨(7, VI 2) :: (21, .v (.bool true)) :: (N25 l), [(N0 s), N1]⟩ ?_
 exact tN (HJ1.get (Or.inl ⟨by kernel_rfl, h2, h3⟩))
 rintro _ (⟨rfl, h4, h5⟩ | ⟨rfl, hD6⟩)
 have g4 := bqT h4
 have g5 := of_decide_eq_true h5
 have n5 : ((List.length l) > 200) := by omega
 refine EL.seq ?_
 refine srl 2 [1, 2, 4, 7, 23] ⟨(23, .v (.bool true)) :: (N27 l), [(N0 s), N1]⟩ ?_
 refine cnT ?_
 refine srl 5 [4, 5, 6] ⟨[(6, VI 2), (5, VI 0), (4, .ref 1 5 0 0)], [(N0 s), N1]⟩ ?_
 refine rtr ?_
 refine rqa (.tup [N18, VI 0, VI 2]) (Ale.tup (aT (aE 1 (aR (aE 5 (aE 8 (aE 6 (.nil)))))) (aR (aR .nil)))) ?_
 rotate_left
 refine EL.seq ?_
 refine srl 2 [1, 2, 4, 7, 23] ⟨(23, .v (.bool (s.checkE != 0))) :: (N28 l s), [(N0 s), N1]⟩ ?_
 cases h7 : (s.checkE != 0)
 have g7 := bnF h7
 refine cnF ?_
 refine skn ?_
 refine srr 1 ⟨(26, (N14 s)) :: (23, .v (.bool false)) :: (N28 l s), [(N0 s), N1]⟩ ?_
 refine owg [(N14 s)] ⟨(N30 l s), [(N0 s), N1]⟩ (own_fn s (Synod.check_0 ‹_›).small) ?_
 refine owl 1 [1, 2, 4] ⟨(N31 l), [(N0 s), N1]⟩ ?_
 refine srl 1 [1, 2, 4, 8] ⟨(8, VI 0) :: (N31 l), [(N0 s), N1]⟩ ?_
 refine EL.seq ?_
 refine srr 1 ⟨(28, .lst 3 (l.map Step.cs)) :: (8, VI 0) :: (N31 l), [(N0 s), N1]⟩ ?_
 refine ow2 ⟨(N32 l), [(N0 s), N1]⟩ (oln Step.cs l (.s 28) 3) ?_
 refine owl 1 [2, 4, 8, 28, 29, 30] ⟨(N33 l), [(N0 s), N1]⟩ ?_
 refine EL.block ?_
 refine EL.loopN (fun mM xX => ∃ (k : Nat) (c : Synod) (n : Int), mM = l.length - k ∧ (k ≤ l.length ∧ l.length ≤ 200 ∧ s.checkE = 0 ∧ c.Ok ∧ 0 ≤ n ∧ n ≤ k ∧ s.runGo l 0 = c.runGo (l.drop k) n) ∧ xX = ⟨(N35 k l n), [(N34 c), N1]⟩) (y := (fun (k : Nat) (c : Synod) (n : Int) => (⟨(N35 k l n), [(N34 c), N1]⟩ : L3)) 0 s 0) [2, 4, 8, 28, 29, 30] [uf 0, uf 1] [] (by kernel_rfl) trivial ⟨0, s, 0, rfl, by have hc0 : s.checkE = 0 := ‹_›; refine ⟨by omega, by omega, hc0, Synod.check_0 hc0, by omega, by omega, by simp⟩, rfl⟩ ?_
 rintro _ _ ⟨k, c, n, rfl, hI8, rfl⟩
 obtain ⟨hk, hl2, hc0, hok, hn0, hn1, hs⟩ := hI8
 refine srl 1 [2, 4, 8, 28, 29, 30, 31] ⟨(31, .v (.bool (decide ((k : Int) < (List.length l : Int))))) :: (N35 k l n), [(N34 c), N1]⟩ ?_
 refine EL.seq ?_
 cases h9 : (decide ((k : Int) < (List.length l : Int)))
 have g9 := of_decide_eq_false h9
 have n9 : ¬ ((k) < (List.length l)) := by omega
 refine cnF ?_
 refine EL.exit ?_
 refine tX ?_
 refine tX ?_
 refine iH ?_
 refine tN ?_
 refine srl 5 [4, 5, 6] ⟨[(6, VI 0), (5, VI n), (4, .ref 1 5 0 0)], [(N34 c), (N34 c)]⟩ ?_
 refine EL.ret ?_
 refine rqe (.tup [(N39 c), VI n, VI 0]) ?_
 rotate_left
 have g9 := of_decide_eq_true h9
 have n9 : ((k) < (List.length l)) := by omega
 refine cnT ?_
 refine skn ?_
 refine EL.seq ?_
 refine EL.block ?_
 refine EL.sreg ?_
 obtain ⟨a10, ha10⟩ : ∃ y, l[((k : Int) : Int).toNat]? = some y := idx_ex ⟨by omega, by omega⟩
 have iha10 : l[k]? = some a10 := by simpa using ha10
 have dha10 := drop_get iha10
 refine ow2 ⟨(N36 a10 k l n), [(N34 c), N1]⟩ (oid Step.cs l (.s 28) (.s 30) 3 .i64 (k : Int) a10 (by omega) ha10) ?_
 refine owl 3 [2, 4, 8, 10, 28, 29, 30] ⟨(10, .ref 2 3 0 0) :: (N35 k l n), [(N34 c), N1, (N37 a10)]⟩ ?_
 refine srr 2 ⟨(N40 a10 c k l n), [(N34 c), N1, (N37 a10)]⟩ ?_
 refine owg [(N39 c), (N38 a10)] ⟨(N42 a10 c k l n), [(N34 c), N1, (N37 a10)]⟩ (step_fn c a10 (by first | assumption | exact Synod.check_0 ‹_›)) ?_
 refine owl 6 [2, 4, 8, 11, 12, 28, 29, 30] ⟨(N45 a10 c k l n), (N44 a10 c)⟩ ?_
 refine srl 2 [2, 4, 8, 11, 28, 29, 30, 41] ⟨(41, .v (.bool (((N52 a10 c).2) == 0))) :: (11, .ref 3 5 0 0) :: (N35 k l n), (N44 a10 c)⟩ ?_
 cases h11 : (((c.stepP a10.kind a10.n a10.data).2) == 0)
 have g11 := bqF h11
 refine cnF ?_
 refine EL.skip ?_
 refine iN ?_
 refine tN ?_
 refine EL.reg0 ?_
 refine owr 2 ⟨(30, VI (IntKind.i64.wrap ((k : Int) + 1))) :: (45, VI (IntKind.i64.wrap ((k : Int) + 1))) :: (N50 l n), (N44 a10 c)⟩ ?_
 have e14 := wr64 (n := (k : Int) + 1) (by omega)
 rw [e14]
 refine owe 0 ⟨(N51 k l n), (N44 a10 c)⟩ ?_
 refine tN ?_
 refine rE (live := [2, 4, 8, 28, 29, 30]) (src := [uf 0, uf 1]) (es := []) (y := (fun (k : Nat) (c : Synod) (n : Int) => (⟨(N35 k l n), [(N34 c), N1]⟩ : L3)) (k + 1) c n) ?_ trivial ?_ ⟨(k + 1), c, n, rfl, ?_, rfl⟩
 kernel_rfl
 omega
 focus (first | (refine ⟨by omega, by omega, hc0, Synod.step_ok hok ‹_›, by omega, by omega, ?_⟩; rw [hs]; simp [Synod.runGo, *]; done) | (refine ⟨by omega, by omega, hc0, hok, by omega, by omega, ?_⟩; rw [hs]; simp [Synod.runGo, *]; done))
 have g11 := bqT h11
 refine cnT ?_
 refine srl 2 [2, 4, 8, 28, 29, 30] ⟨(N35 k l n), (N46 a10 c)⟩ ?_
 refine EL.reg0 ?_
 refine owr 3 ⟨(8, VI (IntKind.i64.wrap (n + 1))) :: (44, VI (IntKind.i64.wrap (n + 1))) :: (N47 k l n), (N46 a10 c)⟩ ?_
 have e12 := wr64 (n := n + 1) (by omega)
 rw [e12]
 refine owe 0 ⟨(8, VI (n + 1)) :: (44, VI (n + 1)) :: (N47 k l n), (N46 a10 c)⟩ ?_
 refine iN ?_
 refine tN ?_
 refine EL.reg0 ?_
 refine owr 2 ⟨(30, VI (IntKind.i64.wrap ((k : Int) + 1))) :: (45, VI (IntKind.i64.wrap ((k : Int) + 1))) :: (N48 l n), (N46 a10 c)⟩ ?_
 have e13 := wr64 (n := (k : Int) + 1) (by omega)
 rw [e13]
 refine owe 0 ⟨(N49 k l n), (N46 a10 c)⟩ ?_
 refine tN ?_
 refine rE (live := [2, 4, 8, 28, 29, 30]) (src := [uf 0, uf 1]) (es := []) (y := (fun (k : Nat) (c : Synod) (n : Int) => (⟨(N35 k l n), [(N34 c), N1]⟩ : L3)) (k + 1) ((c.stepP a10.kind a10.n a10.data).1) (n + 1)) ?_ trivial ?_ ⟨(k + 1), ((c.stepP a10.kind a10.n a10.data).1), (n + 1), rfl, ?_, rfl⟩
 kernel_rfl
 omega
 focus (first | (refine ⟨by omega, by omega, hc0, Synod.step_ok hok ‹_›, by omega, by omega, ?_⟩; rw [hs]; simp [Synod.runGo, *]; done) | (refine ⟨by omega, by omega, hc0, hok, by omega, by omega, ?_⟩; rw [hs]; simp [Synod.runGo, *]; done))
 have g7 := bnT h7
 refine cnT ?_
 refine srl 5 [4, 5, 6] ⟨(N29 s), [(N0 s), N1]⟩ ?_
 refine rtr ?_
 refine rqa (.tup [N18, VI 0, VI s.checkE]) (Ale.tup (aT (aE 1 (aR (aE 5 (aE 8 (aE 6 (.nil)))))) (aR (aR .nil)))) ?_
 rotate_left
 all_goals (first | (rw [Synod.runP_n ‹_›]; rfl) | (rw [Synod.runP_2 ‹_› (by omega)]; rfl) | (rw [Synod.runP_0 hc0 (by omega), hs, List.drop_eq_nil_of_le (by omega)]; rfl))
section
variable (a17 : Seat) (a25 : Bid) (a26 : Bid) (a9 : Vote) (d : ByteArray) (n : Int) (s : Synod)
end
section
variable (a5 : Vote) (d : ByteArray) (n : Int) (s : Synod)
end
section
variable (a5 : Vote) (d : ByteArray) (n : Int) (s : Synod)
end
section
variable (d : ByteArray) (n : Int) (s : Synod)
end
section
variable (x : Step)
end
section
variable (s : Synod) (x : Step)
end
def Synod.same (a b : Synod) : Prop := a.voters.weights = b.voters.weights ∧ a.voters.need = b.voters.need ∧ a.seats = b.seats ∧ a.bids = b.bids ∧ a.votes = b.votes
theorem u64_eq {a b : U64} : a = b ↔ a.n = b.n := by
  cases a; cases b; simp
instance : DecidableEq Bid := fun a b => decidable_of_iff (a.time = b.time ∧ a.phase = b.phase ∧ a.own = b.own ∧ a.value = b.value ∧ a.best = b.best ∧ a.heard.n = b.heard.n) (by cases a; cases b; simp [u64_eq])
instance (a b : Synod) : Decidable (Synod.same a b) := by unfold Synod.same; exact inferInstance
section
variable (a11 : Step) (c : Synod) (k : Nat) (l : List Step) (n : Int) (s : Synod)
end
section
variable (a5 : Int) (k : Nat) (xs : List Int) (ys : List Int)
end
section
variable (a : Synod) (a11 : Seat) (a17 : Bid) (a19 : Bid) (a9 : Seat) (b : Synod) (i : Nat) (k : Nat)
end
theorem Synod.new_big {v : Voters} (h : v.weights.length ≤ 9223372036854775807) : (Synod.newP v).1.Big := by
  unfold Synod.newP
  split
  · exact (Synod.new_ok ‹_›).big
  · exact Synod.zero_big
theorem Synod.run_cases (s : Synod) (l : List Step) : (s.runP l).2.2 = 0 ∧ s.Ok ∧ l.length ≤ 200 ∧ s.runP l = ((s.runGo l 0).1, (s.runGo l 0).2, 0) ∧ (s.runP l).1.Ok ∨ (s.runP l).2.2 ≠ 0 ∧ (s.runP l).1 = Synod.zero ∧ (s.runP l).2.1 = 0 := by
  by_cases h : s.checkE = 0
  · by_cases h2 : 200 < l.length
    · rw [Synod.runP_2 h h2]; right; simp
    · rw [Synod.runP_0 h h2]; left; exact ⟨rfl, Synod.check_0 h, by omega, rfl, (Synod.run_go l 0 (Synod.check_0 h)).2⟩
  · rw [Synod.runP_n h]; right; exact ⟨h, rfl, rfl⟩
theorem Synod.run_big (s : Synod) (l : List Step) : (s.runP l).1.Big := by
  rcases Synod.run_cases s l with ⟨_, _, _, _, h⟩ | ⟨_, h, _⟩
  · exact h.big
  · rw [h]; exact Synod.zero_big
theorem Synod.many_zero {s : Synod} (h : s.manyP.2 ≠ 0) : s.manyP.1 = Synod.zero := by
  unfold Synod.manyP at h ⊢
  split at h
  · rename_i h1; rw [if_pos h1]
  · exact absurd rfl h
theorem Synod.bid_zero {s : Synod} {t : Int} {d : ByteArray} (h : (s.bidP t d).2 ≠ 0) : (s.bidP t d).1 = Synod.zero := by
  unfold Synod.bidP at h ⊢
  by_cases h1 : s.bids.length = 31
  · rw [if_pos h1]
  · rw [if_neg h1] at h ⊢
    by_cases h2 : (beginP s.voters s.bids.length t d).2.2 ≠ 0
    · rw [if_pos h2]
    · rw [if_neg h2] at h ⊢; exact Synod.many_zero h
theorem Synod.step_zero {s : Synod} {k n : Int} {d : ByteArray} (h : (s.stepP k n d).2 ≠ 0) : (s.stepP k n d).1 = Synod.zero := by
  unfold Synod.stepP at h ⊢
  by_cases h1 : ¬ (3 ≤ k ∧ k ≤ 6)
  · rw [if_pos h1]
  · rw [if_neg h1] at h ⊢
    by_cases h2 : k ≠ 6 ∧ d.size ≠ 0
    · rw [if_pos h2]
    · rw [if_neg h2] at h ⊢
      by_cases h3 : k = 6
      · rw [if_pos h3] at h ⊢; exact Synod.bid_zero h
      · rw [if_neg h3] at h ⊢
        by_cases h4 : ¬ (0 ≤ n ∧ n < s.votes.length)
        · rw [if_pos h4]
        · rw [if_neg h4] at h ⊢
          cases hv : s.votes[n.toNat]? with
          | none => rfl
          | some v =>
            rw [hv] at h
            dsimp only at h ⊢
            split
            · rename_i h5; rw [if_pos h5] at h; exact Synod.many_zero h
            · rename_i h5; rw [if_neg h5] at h
              split
              · rename_i h6; rw [if_pos h6] at h; exact Synod.many_zero h
              · rename_i h6; rw [if_neg h6] at h; exact Synod.many_zero h
theorem Synod.do_cases (s : Synod) (k n : Int) (d : ByteArray) : (s.doP k n d).2 = 0 ∧ s.Ok ∧ s.doP k n d = s.stepP k n d ∧ (s.doP k n d).1.Ok ∨ (s.doP k n d).2 ≠ 0 ∧ (s.doP k n d).1 = Synod.zero := by
  by_cases h : s.checkE = 0
  · rw [Synod.doP_0 h]
    by_cases h2 : (s.stepP k n d).2 = 0
    · exact .inl ⟨h2, Synod.check_0 h, rfl, Synod.step_ok (Synod.check_0 h) h2⟩
    · exact .inr ⟨h2, Synod.step_zero h2⟩
  · rw [Synod.doP_n h]; exact .inr ⟨h, rfl⟩
theorem Synod.do_big (s : Synod) (k n : Int) (d : ByteArray) : (s.doP k n d).1.Big := by
  rcases Synod.do_cases s k n d with ⟨_, _, _, h⟩ | ⟨_, h⟩
  · exact h.big
  · rw [h]; exact Synod.zero_big
def Synod.satP (v : Voters) (l : List Step) : Synod × Bool :=
  if (Synod.newP v).2 = 0 then (((Synod.newP v).1.runP l).1, ((Synod.newP v).1.runP l).2.2 == 0) else ((Synod.newP v).1, false)
theorem Synod.sat_n {v : Voters} {l : List Step} (h : ¬ (Synod.newP v).2 = 0) : Synod.satP v l = ((Synod.newP v).1, false) := if_neg h
theorem Synod.sat_0 {v : Voters} {l : List Step} (h : (Synod.newP v).2 = 0) : Synod.satP v l = (((Synod.newP v).1.runP l).1, ((Synod.newP v).1.runP l).2.2 == 0) := if_pos h
theorem Synod.sat_big {v : Voters} {l : List Step} (h : v.weights.length ≤ 9223372036854775807) : (Synod.satP v l).1.Big := by
  unfold Synod.satP
  split
  · exact Synod.run_big _ _
  · exact Synod.new_big h
theorem Synod.sat_is {v : Voters} {l : List Step} (h : (Synod.satP v l).2 = true) : qcheckP v.weights v.need = 0 ∧ Runs (Synod.new v) (Synod.satP v l).1 ∧ (Synod.satP v l).1.Ok := by
  by_cases h0 : (Synod.newP v).2 = 0
  · have hq : qcheckP v.weights v.need = 0 := by
      unfold Synod.newP at h0
      by_cases hq : qcheckP v.weights v.need = 0
      · exact hq
      · rw [if_neg hq] at h0; exact h0
    have e : (Synod.newP v).1 = Synod.new v := by unfold Synod.newP; rw [if_pos hq]
    rw [Synod.sat_0 h0] at h ⊢
    rw [e] at h ⊢
    rcases Synod.run_cases (Synod.new v) l with ⟨_, ok, _, e2, ok2⟩ | ⟨h2, _⟩
    · refine ⟨hq, ?_, ok2⟩
      rw [e2]; exact (Synod.run_go l 0 ok).1
    · exact absurd (eq_of_beq h) h2
  · rw [Synod.sat_n h0] at h; simp at h
section
variable (l : List Step) (v : Voters)
abbrev T16 := (((Synod.newP v).1).runP l)
abbrev T0 : OB := some ⟨2, [[.lst 1 (v.weights.map cI), VI v.need]]⟩
abbrev T1 : OB := some ⟨5, [[.emp, VI 0, .emp, .emp, .emp]]⟩
abbrev T2 : LS := [(4, .ref 1 5 0 0), (2, .ref 0 2 0 0), (1, .lst 3 (l.map Step.cs))]
abbrev T3 : AV := .agg [.lst 1 (v.weights.map cI), VI v.need]
abbrev T4 : AV := .agg [.lst 1 (((((Synod.newP v).1).voters).weights).map cI), VI ((((Synod.newP v).1).voters).need), .lst 5 ((((Synod.newP v).1).seats).map Seat.cs), .lst 8 ((((Synod.newP v).1).bids).map Bid.cs), .lst 6 ((((Synod.newP v).1).votes).map Vote.cs)]
abbrev T5 : LS := (13, .tup [(T4 v), VI ((Synod.newP v).2)]) :: (12, (T3 v)) :: (T2 l)
abbrev T6 : OB := some ⟨5, [[.lst 1 (((((Synod.newP v).1).voters).weights).map cI), VI ((((Synod.newP v).1).voters).need), .lst 5 ((((Synod.newP v).1).seats).map Seat.cs), .lst 8 ((((Synod.newP v).1).bids).map Bid.cs), .lst 6 ((((Synod.newP v).1).votes).map Vote.cs)]]⟩
abbrev T7 : LS := [(7, VI ((Synod.newP v).2)), (6, .ref 2 5 0 0), (4, .ref 1 5 0 0), (1, .lst 3 (l.map Step.cs))]
abbrev T8 : LS := [(6, .ref 2 5 0 0), (4, .ref 1 5 0 0), (1, .lst 3 (l.map Step.cs))]
abbrev T9 : LS := (21, .lst 3 (l.map Step.cs)) :: (20, (T4 v)) :: (17, .v (.bool false)) :: (T8 l)
abbrev T10 : AV := .agg [.lst 1 (((((T16 l v).1).voters).weights).map cI), VI ((((T16 l v).1).voters).need), .lst 5 ((((T16 l v).1).seats).map Seat.cs), .lst 8 ((((T16 l v).1).bids).map Bid.cs), .lst 6 ((((T16 l v).1).votes).map Vote.cs)]
abbrev T11 : LS := (22, .tup [(T10 l v), VI ((T16 l v).2.1), VI ((T16 l v).2.2)]) :: (T9 l v)
abbrev T12 : OB := some ⟨5, [[.lst 1 (((((T16 l v).1).voters).weights).map cI), VI ((((T16 l v).1).voters).need), .lst 5 ((((T16 l v).1).seats).map Seat.cs), .lst 8 ((((T16 l v).1).bids).map Bid.cs), .lst 6 ((((T16 l v).1).votes).map Vote.cs)]]⟩
abbrev T13 : LB := [(T0 v), T1, (T6 v), (T12 l v)]
abbrev T14 : LS := [(10, VI ((T16 l v).2.2)), (8, .ref 3 5 0 0), (4, .ref 1 5 0 0)]
abbrev T15 : LB := [(T0 v), (T12 l v), (T6 v), (T12 l v)]
end
theorem sat_fn (v : Voters) (l : List Step) (hx : v.weights.length ≤ 9223372036854775807) (hl : l.length ≤ 9223372036854775807) : Fn Tryd.prog 22 [.agg [.lst 1 (v.weights.map cI), VI v.need], .lst 3 (l.map Step.cs)] (.tup [.agg [.lst 1 (((((Synod.satP v l).1).voters).weights).map cI), VI ((((Synod.satP v l).1).voters).need), .lst 5 ((((Synod.satP v l).1).seats).map Seat.cs), .lst 8 ((((Synod.satP v l).1).bids).map Bid.cs), .lst 6 ((((Synod.satP v l).1).votes).map Vote.cs)], .v (.bool ((Synod.satP v l).2))]) := by
 refine fnw F22_ok ?_
 refine srl 3 [1, 2, 4] ⟨(T2 l), [(T0 v), T1]⟩ ?_
 refine srr 1 ⟨(12, (T3 v)) :: (T2 l), [(T0 v), T1]⟩ ?_
 refine owg [(T3 v)] ⟨(T5 l v), [(T0 v), T1]⟩ (new_fn v (by first | omega | assumption)) ?_
 refine owl 6 [1, 4, 6, 7] ⟨(T7 l v), [(T0 v), T1, (T6 v)]⟩ ?_
 refine EL.seq ?_
 refine srl 2 [1, 4, 6, 17] ⟨(17, .v (.bool (((Synod.newP v).2) != 0))) :: (T8 l), [(T0 v), T1, (T6 v)]⟩ ?_
 cases h1 : (((Synod.newP v).2) != 0)
 have g1 := bnF h1
 refine cnF ?_
 refine skn ?_
 refine srr 2 ⟨(T9 l v), [(T0 v), T1, (T6 v)]⟩ ?_
 refine owg [(T4 v), .lst 3 (l.map Step.cs)] ⟨(T11 l v), [(T0 v), T1, (T6 v)]⟩ (run_fn ((Synod.newP v).1) l (by first | assumption | exact Synod.new_big (by first | assumption | decide) | exact Synod.run_big _ _ | exact Synod.do_big _ _ _ _ | exact Synod.sat_big (by assumption) | exact Synod.zero_big | exact Synod.Ok.big (by assumption)) (by first | omega | decide | (simp; omega))) ?_
 refine owl 8 [4, 8, 10] ⟨(T14 l v), (T13 l v)⟩ ?_
 refine srl 5 [4, 5] ⟨[(5, .v (.bool (((T16 l v).2.2) == 0))), (4, .ref 1 5 0 0)], (T15 l v)⟩ ?_
 refine EL.ret ?_
 refine rqe (.tup [.agg [.lst 1 (((((((Synod.newP v).1).runP l).1).voters).weights).map cI), VI ((((((Synod.newP v).1).runP l).1).voters).need), .lst 5 ((((((Synod.newP v).1).runP l).1).seats).map Seat.cs), .lst 8 ((((((Synod.newP v).1).runP l).1).bids).map Bid.cs), .lst 6 ((((((Synod.newP v).1).runP l).1).votes).map Vote.cs)], .v (.bool (((((Synod.newP v).1).runP l).2.2) == 0))]) ?_
 rotate_left
 have g1 := bnT h1
 refine cnT ?_
 refine srl 3 [4, 5] ⟨[(5, .v (.bool false)), (4, .ref 1 5 0 0)], [(T0 v), (T6 v), (T6 v)]⟩ ?_
 refine rtr ?_
 refine rqe (.tup [.agg [.lst 1 (((((Synod.newP v).1).voters).weights).map cI), VI ((((Synod.newP v).1).voters).need), .lst 5 ((((Synod.newP v).1).seats).map Seat.cs), .lst 8 ((((Synod.newP v).1).bids).map Bid.cs), .lst 6 ((((Synod.newP v).1).votes).map Vote.cs)], .v (.bool false)]) ?_
 rotate_left
 all_goals (first | (rw [Synod.sat_n ‹_›] <;> rfl) | (rw [Synod.sat_0 ‹_›] <;> rfl))
section
variable (k : Nat) (n : Int) (out : List Step)
abbrev T17 : LS := [(0, VI n), (3, .own 0 3 0 (List.length out)), (4, VI (k : Int))]
abbrev T18 : AV := .agg [VI 3, VI 0, .v (.string (⟨#[]⟩))]
abbrev T19 : OB := some ⟨3, [[VI 3, VI 0, .v (.string (⟨#[]⟩))]]⟩
abbrev T20 : LB := [some ⟨3, (out.map Step.cs)⟩, T19]
abbrev T21 : LS := (12, .own 1 3 0 1) :: (11, T18) :: (10, .own 0 3 0 (List.length out)) :: (7, .v (.bool true)) :: (T17 k n out)
abbrev T22 : OB := some ⟨3, ((out ++ ([(⟨3, 0, ⟨#[]⟩⟩ : Step)])).map Step.cs)⟩
abbrev T23 : LS := (13, .own 2 3 0 (List.length (out ++ ([(⟨3, 0, ⟨#[]⟩⟩ : Step)])))) :: (T21 k n out)
abbrev T24 : LS := [(3, .own 2 3 0 (List.length (out ++ ([(⟨3, 0, ⟨#[]⟩⟩ : Step)])))), (13, .own 2 3 0 (List.length (out ++ ([(⟨3, 0, ⟨#[]⟩⟩ : Step)])))), (12, .own 1 3 0 1), (11, T18), (10, .own 0 3 0 (List.length out)), (7, .v (.bool true)), (0, VI n), (4, VI (k : Int))]
abbrev T25 : LS := [(8, VI (k : Int)), (3, .own 2 3 0 (List.length (out ++ ([(⟨3, 0, ⟨#[]⟩⟩ : Step)])))), (13, .own 2 3 0 (List.length (out ++ ([(⟨3, 0, ⟨#[]⟩⟩ : Step)])))), (12, .own 1 3 0 1), (11, T18), (10, .own 0 3 0 (List.length out)), (7, .v (.bool true)), (0, VI n)]
abbrev T26 : LS := (4, VI ((k : Int) + 1)) :: (9, VI ((k : Int) + 1)) :: (T25 k n out)
end
theorem passes_fo (n : Int) (hn : 0 ≤ n ∧ n ≤ 1000) : Fo Tryd.prog 35 [VI n] 3 ((List.replicate (Int.toNat n) (⟨3, 0, ⟨#[]⟩⟩ : Step)).map Step.cs) := by
 refine fo_of ?_
 rw [List.length_map]
 refine fV (m := []) (m' := [some ⟨3, ((List.replicate (Int.toNat n) (⟨3, 0, ⟨#[]⟩⟩ : Step)).map Step.cs)⟩]) F35_ok (of_decide_eq_true (by kernel_rfl)) ?_
 refine srl 1 [0] ⟨[(0, VI n)], []⟩ ?_
 refine srl 1 [0, 3] ⟨[(3, .emp), (0, VI n)], []⟩ ?_
 refine EL.seq ?_
 refine srl 1 [0, 3, 4] ⟨[(4, VI 0), (3, .emp), (0, VI n)], []⟩ ?_
 refine EL.block ?_
 refine EL.loopN (fun mM xX => ∃ (k : Nat) (out : List Step), mM = n.toNat - k ∧ (k ≤ n.toNat ∧ out = List.replicate k (⟨3, 0, ⟨#[]⟩⟩ : Step)) ∧ xX = ⟨(T17 k n out), [some ⟨3, (out.map Step.cs)⟩]⟩) (y := (fun (k : Nat) (out : List Step) => (⟨(T17 k n out), [some ⟨3, (out.map Step.cs)⟩]⟩ : L3)) 0 []) [0, 3, 4] [.new 3] [(3, 0)] (by kernel_rfl) trivial ⟨0, [], rfl, by simp, rfl⟩ ?_
 rintro _ _ ⟨k, out, rfl, hI1, rfl⟩
 obtain ⟨hk, ho⟩ := hI1
 have hol : out.length = k := by rw [ho]; simp
 refine EL.seq ?_
 refine srl 3 [0, 3, 4, 7] ⟨(7, .v (.bool (decide ((k : Int) < n)))) :: (T17 k n out), [some ⟨3, (out.map Step.cs)⟩]⟩ ?_
 cases h2 : (decide ((k : Int) < n))
 have g2 := of_decide_eq_false h2
 refine cnF ?_
 refine EL.exit ?_
 refine tX ?_
 refine tX ?_
 refine iH ?_
 refine tN ?_
 refine srl 2 [2] ⟨[(2, .own 0 3 0 (List.length out))], [some ⟨3, (out.map Step.cs)⟩]⟩ ?_
 refine EL.ret ?_
 (have hkn : k = n.toNat := (by omega)); rw [hkn] at ho; rw [← ho]
 exact fne [2] [ut 0] ⟨[(2, .own 0 3 0 (List.length out))], [some ⟨3, (out.map Step.cs)⟩]⟩ ⟨pq 3 Step.cs out, trivial⟩
 have g2 := of_decide_eq_true h2
 refine cnT ?_
 refine skn ?_
 refine EL.seq ?_
 refine EL.block ?_
 refine EL.reg0 ?_
 refine owr 3 ⟨(T21 k n out), (T20 out)⟩ ?_
 refine ow2 ⟨(T23 k n out), [none, T19, (T22 out)]⟩ (oap Step.cs out ([(⟨3, 0, ⟨#[]⟩⟩ : Step)]) (.s 10) (.s 12) 3 32 0 (.own 1 3 0 1) (.own (els := [[VI 3, VI 0, .v (.string (⟨#[]⟩))]]) (by kernel_rfl) (by kernel_rfl) (of_decide_eq_true (by kernel_rfl))) (by simp; omega)) ?_
 refine owe 1 ⟨(T24 k n out), [none, T19, (T22 out)]⟩ ?_
 refine iN ?_
 refine tN ?_
 refine EL.reg0 ?_
 refine owr 3 ⟨(4, VI (IntKind.i64.wrap ((k : Int) + 1))) :: (9, VI (IntKind.i64.wrap ((k : Int) + 1))) :: (T25 k n out), [none, T19, (T22 out)]⟩ ?_
 have e3 := wr64 (n := (k : Int) + 1) (by omega)
 rw [e3]
 refine owe 0 ⟨(T26 k n out), [none, T19, (T22 out)]⟩ ?_
 refine tN ?_
 refine rE (live := [0, 3, 4]) (src := [ut 2]) (es := []) (y := (fun (k : Nat) (out : List Step) => (⟨(T17 k n out), [some ⟨3, (out.map Step.cs)⟩]⟩ : L3)) (k + 1) (out ++ ([(⟨3, 0, ⟨#[]⟩⟩ : Step)]))) ?_ ⟨pq 3 Step.cs (out ++ ([(⟨3, 0, ⟨#[]⟩⟩ : Step)])), trivial⟩ ?_ ⟨(k + 1), (out ++ ([(⟨3, 0, ⟨#[]⟩⟩ : Step)])), rfl, ?_, rfl⟩
 kernel_rfl
 omega
 focus (refine ⟨by omega, ?_⟩; rw [ho, List.replicate_succ'])
abbrev T27 : Voters := (⟨[1, 1, 1], 2⟩ : Voters)
abbrev T28 : AV := .agg [.lst 1 (T27.weights.map cI), VI T27.need]
abbrev T29 : AV := .agg [.lst 1 (((((Synod.newP T27).1).voters).weights).map cI), VI ((((Synod.newP T27).1).voters).need), .lst 5 ((((Synod.newP T27).1).seats).map Seat.cs), .lst 8 ((((Synod.newP T27).1).bids).map Bid.cs), .lst 6 ((((Synod.newP T27).1).votes).map Vote.cs)]
abbrev T30 : OB := some ⟨5, [[.lst 1 (((((Synod.newP T27).1).voters).weights).map cI), VI ((((Synod.newP T27).1).voters).need), .lst 5 ((((Synod.newP T27).1).seats).map Seat.cs), .lst 8 ((((Synod.newP T27).1).bids).map Bid.cs), .lst 6 ((((Synod.newP T27).1).votes).map Vote.cs)]]⟩
abbrev T31 : AV := .agg [VI 6, VI 1, .v (.string (⟨#[97]⟩))]
abbrev T32 : OB := some ⟨3, [[VI 6, VI 1, .v (.string (⟨#[97]⟩))]]⟩
abbrev T33 : LS := [(15, .own 1 3 0 1), (14, T31), (2, VI ((Synod.newP T27).2)), (1, .ref 0 5 0 0)]
abbrev T34 : OB := some ⟨3, ((List.replicate (Int.toNat 12) (⟨3, 0, ⟨#[]⟩⟩ : Step)).map Step.cs)⟩
abbrev T35 : LS := (16, .own 2 3 0 (List.length (List.replicate (Int.toNat 12) (⟨3, 0, ⟨#[]⟩⟩ : Step)))) :: T33
abbrev T36 : OB := some ⟨3, ((([(⟨6, 1, ⟨#[97]⟩⟩ : Step)]) ++ (List.replicate (Int.toNat 12) (⟨3, 0, ⟨#[]⟩⟩ : Step))).map Step.cs)⟩
abbrev T37 : LS := (17, .own 3 3 0 (List.length (([(⟨6, 1, ⟨#[97]⟩⟩ : Step)]) ++ (List.replicate (Int.toNat 12) (⟨3, 0, ⟨#[]⟩⟩ : Step))))) :: T35
abbrev T38 : LS := [(3, .own 3 3 0 (List.length (([(⟨6, 1, ⟨#[97]⟩⟩ : Step)]) ++ (List.replicate (Int.toNat 12) (⟨3, 0, ⟨#[]⟩⟩ : Step))))), (2, VI ((Synod.newP T27).2)), (1, .ref 0 5 0 0)]
abbrev T39 : AV := .agg [VI 6, VI 5, .v (.string (⟨#[98]⟩))]
abbrev T40 : OB := some ⟨3, [[VI 6, VI 5, .v (.string (⟨#[98]⟩))]]⟩
abbrev T41 : LS := (22, .own 4 3 0 1) :: (21, T39) :: (20, .own 3 3 0 (List.length (([(⟨6, 1, ⟨#[97]⟩⟩ : Step)]) ++ (List.replicate (Int.toNat 12) (⟨3, 0, ⟨#[]⟩⟩ : Step))))) :: (19, T29) :: T38
abbrev T42 : OB := some ⟨3, (((([(⟨6, 1, ⟨#[97]⟩⟩ : Step)]) ++ (List.replicate (Int.toNat 12) (⟨3, 0, ⟨#[]⟩⟩ : Step))) ++ ([(⟨6, 5, ⟨#[98]⟩⟩ : Step)])).map Step.cs)⟩
abbrev T43 : LB := [T30, none, T34, none, T40, T42]
abbrev T44 : LS := (23, .own 5 3 0 (List.length ((([(⟨6, 1, ⟨#[97]⟩⟩ : Step)]) ++ (List.replicate (Int.toNat 12) (⟨3, 0, ⟨#[]⟩⟩ : Step))) ++ ([(⟨6, 5, ⟨#[98]⟩⟩ : Step)])))) :: T41
abbrev T45 : LB := [T30, none, T34, none, T40, T42, T34]
abbrev T46 : LS := (24, .own 6 3 0 (List.length (List.replicate (Int.toNat 12) (⟨3, 0, ⟨#[]⟩⟩ : Step)))) :: T44
abbrev T47 : OB := some ⟨3, ((((([(⟨6, 1, ⟨#[97]⟩⟩ : Step)]) ++ (List.replicate (Int.toNat 12) (⟨3, 0, ⟨#[]⟩⟩ : Step))) ++ ([(⟨6, 5, ⟨#[98]⟩⟩ : Step)])) ++ (List.replicate (Int.toNat 12) (⟨3, 0, ⟨#[]⟩⟩ : Step))).map Step.cs)⟩
abbrev T48 : LB := [T30, none, T34, none, T40, none, T34, T47]
abbrev T49 : LS := (25, .own 7 3 0 (List.length (((([(⟨6, 1, ⟨#[97]⟩⟩ : Step)]) ++ (List.replicate (Int.toNat 12) (⟨3, 0, ⟨#[]⟩⟩ : Step))) ++ ([(⟨6, 5, ⟨#[98]⟩⟩ : Step)])) ++ (List.replicate (Int.toNat 12) (⟨3, 0, ⟨#[]⟩⟩ : Step))))) :: T46
abbrev T50 : Synod := (((Synod.newP T27).1).runP (((([(⟨6, 1, ⟨#[97]⟩⟩ : Step)]) ++ (List.replicate (Int.toNat 12) (⟨3, 0, ⟨#[]⟩⟩ : Step))) ++ ([(⟨6, 5, ⟨#[98]⟩⟩ : Step)])) ++ (List.replicate (Int.toNat 12) (⟨3, 0, ⟨#[]⟩⟩ : Step)))).1
abbrev T51 : AV := .agg [.lst 1 (T50.voters.weights.map cI), VI T50.voters.need, .lst 5 (T50.seats.map Seat.cs), .lst 8 (T50.bids.map Bid.cs), .lst 6 (T50.votes.map Vote.cs)]
abbrev T52 : LB := [T30, none, T34, none, T40, none, T34, none]
abbrev T53 : LS := (26, .tup [T51, VI ((((Synod.newP T27).1).runP (((([(⟨6, 1, ⟨#[97]⟩⟩ : Step)]) ++ (List.replicate (Int.toNat 12) (⟨3, 0, ⟨#[]⟩⟩ : Step))) ++ ([(⟨6, 5, ⟨#[98]⟩⟩ : Step)])) ++ (List.replicate (Int.toNat 12) (⟨3, 0, ⟨#[]⟩⟩ : Step)))).2.1), VI ((((Synod.newP T27).1).runP (((([(⟨6, 1, ⟨#[97]⟩⟩ : Step)]) ++ (List.replicate (Int.toNat 12) (⟨3, 0, ⟨#[]⟩⟩ : Step))) ++ ([(⟨6, 5, ⟨#[98]⟩⟩ : Step)])) ++ (List.replicate (Int.toNat 12) (⟨3, 0, ⟨#[]⟩⟩ : Step)))).2.2)]) :: T49
abbrev T54 : OB := some ⟨5, [[.lst 1 (T50.voters.weights.map cI), VI T50.voters.need, .lst 5 (T50.seats.map Seat.cs), .lst 8 (T50.bids.map Bid.cs), .lst 6 (T50.votes.map Vote.cs)]]⟩
abbrev T55 : LB := [T30, none, T34, none, T40, none, T34, none, T54]
abbrev T56 : LS := [(6, VI ((((Synod.newP T27).1).runP (((([(⟨6, 1, ⟨#[97]⟩⟩ : Step)]) ++ (List.replicate (Int.toNat 12) (⟨3, 0, ⟨#[]⟩⟩ : Step))) ++ ([(⟨6, 5, ⟨#[98]⟩⟩ : Step)])) ++ (List.replicate (Int.toNat 12) (⟨3, 0, ⟨#[]⟩⟩ : Step)))).2.2)), (5, VI ((((Synod.newP T27).1).runP (((([(⟨6, 1, ⟨#[97]⟩⟩ : Step)]) ++ (List.replicate (Int.toNat 12) (⟨3, 0, ⟨#[]⟩⟩ : Step))) ++ ([(⟨6, 5, ⟨#[98]⟩⟩ : Step)])) ++ (List.replicate (Int.toNat 12) (⟨3, 0, ⟨#[]⟩⟩ : Step)))).2.1)), (4, .ref 8 5 0 0), (2, VI ((Synod.newP T27).2)), (1, .ref 0 5 0 0)]
abbrev T57 : AV := .agg [VI 1, VI 0, .v (.string (⟨#[]⟩))]
abbrev T58 : Synod := (((Synod.newP T27).1).doP (⟨1, 0, ⟨#[]⟩⟩ : Step).kind (⟨1, 0, ⟨#[]⟩⟩ : Step).n (⟨1, 0, ⟨#[]⟩⟩ : Step).data).1
abbrev T59 : AV := .agg [.lst 1 (T58.voters.weights.map cI), VI T58.voters.need, .lst 5 (T58.seats.map Seat.cs), .lst 8 (T58.bids.map Bid.cs), .lst 6 (T58.votes.map Vote.cs)]
abbrev T60 : LS := (33, .tup [T59, VI ((((Synod.newP T27).1).doP (⟨1, 0, ⟨#[]⟩⟩ : Step).kind (⟨1, 0, ⟨#[]⟩⟩ : Step).n (⟨1, 0, ⟨#[]⟩⟩ : Step).data).2)]) :: (32, T57) :: (31, T29) :: T56
abbrev T61 : OB := some ⟨5, [[.lst 1 (T58.voters.weights.map cI), VI T58.voters.need, .lst 5 (T58.seats.map Seat.cs), .lst 8 (T58.bids.map Bid.cs), .lst 6 (T58.votes.map Vote.cs)]]⟩
abbrev T62 : LB := [T30, none, T34, none, T40, none, T34, none, T54, T61]
abbrev T63 : LS := (8, VI ((((Synod.newP T27).1).doP (⟨1, 0, ⟨#[]⟩⟩ : Step).kind (⟨1, 0, ⟨#[]⟩⟩ : Step).n (⟨1, 0, ⟨#[]⟩⟩ : Step).data).2)) :: T56
abbrev T64 : LS := (39, VI ((((Synod.newP T27).1).runP (((([(⟨6, 1, ⟨#[97]⟩⟩ : Step)]) ++ (List.replicate (Int.toNat 12) (⟨3, 0, ⟨#[]⟩⟩ : Step))) ++ ([(⟨6, 5, ⟨#[98]⟩⟩ : Step)])) ++ (List.replicate (Int.toNat 12) (⟨3, 0, ⟨#[]⟩⟩ : Step)))).2.2)) :: (38, .v (.bool true)) :: (37, .v (.bool true)) :: (36, VI ((Synod.newP T27).2)) :: T63
abbrev T65 : LS := (43, VI ((((Synod.newP T27).1).runP (((([(⟨6, 1, ⟨#[97]⟩⟩ : Step)]) ++ (List.replicate (Int.toNat 12) (⟨3, 0, ⟨#[]⟩⟩ : Step))) ++ ([(⟨6, 5, ⟨#[98]⟩⟩ : Step)])) ++ (List.replicate (Int.toNat 12) (⟨3, 0, ⟨#[]⟩⟩ : Step)))).2.1)) :: (42, .v (.bool true)) :: (41, .v (.bool true)) :: (40, .v (.bool true)) :: T64
abbrev T66 : LS := (48, .lst 8 (T50.bids.map Bid.cs)) :: (47, .ref 8 5 0 3) :: (46, .v (.bool true)) :: (45, .v (.bool true)) :: (44, .v (.bool true)) :: T65
abbrev T67 : Bid := List.getD T50.bids (Int.toNat 0) (⟨0, 0, ⟨#[]⟩, ⟨#[]⟩, (⟨(⟨0, 0⟩ : Stamp), ⟨#[]⟩⟩ : Copy), ⟨0, by decide⟩⟩ : Bid)
abbrev T68 : LS := (54, .lst 8 (T50.bids.map Bid.cs)) :: (53, .ref 8 5 0 3) :: (52, .v (.bool true)) :: (51, .v (.bool true)) :: (50, .v (.bool true)) :: (49, VI (List.length T50.bids : Int)) :: T66
abbrev T69 : LS := (55, .pim [VI T67.time, VI T67.phase, .v (.string T67.own), .v (.string T67.value), VI T67.best.at_.time, VI T67.best.at_.who, .v (.string T67.best.data), .v (.int .u64 (T67.heard.n : Int))] 0) :: T68
abbrev T70 : LS := (57, VI T67.phase) :: (56, .pim [VI T67.time, VI T67.phase, .v (.string T67.own), .v (.string T67.value), VI T67.best.at_.time, VI T67.best.at_.who, .v (.string T67.best.data), .v (.int .u64 (T67.heard.n : Int))] 1) :: T69
abbrev T71 : Bid := List.getD T50.bids (Int.toNat 1) (⟨0, 0, ⟨#[]⟩, ⟨#[]⟩, (⟨(⟨0, 0⟩ : Stamp), ⟨#[]⟩⟩ : Copy), ⟨0, by decide⟩⟩ : Bid)
abbrev T72 : LS := (62, .lst 8 (T50.bids.map Bid.cs)) :: (61, .ref 8 5 0 3) :: (60, .v (.bool true)) :: (59, .v (.bool true)) :: (58, .v (.bool true)) :: T70
abbrev T73 : LS := (63, .pim [VI T71.time, VI T71.phase, .v (.string T71.own), .v (.string T71.value), VI T71.best.at_.time, VI T71.best.at_.who, .v (.string T71.best.data), .v (.int .u64 (T71.heard.n : Int))] 0) :: T72
abbrev T74 : LS := (65, VI T71.phase) :: (64, .pim [VI T71.time, VI T71.phase, .v (.string T71.own), .v (.string T71.value), VI T71.best.at_.time, VI T71.best.at_.who, .v (.string T71.best.data), .v (.int .u64 (T71.heard.n : Int))] 1) :: T73
abbrev T75 : LS := (70, .lst 8 (T50.bids.map Bid.cs)) :: (69, .ref 8 5 0 3) :: (68, .v (.bool true)) :: (67, .v (.bool true)) :: (66, .v (.bool true)) :: T74
abbrev T76 : LS := (71, .pim [VI T71.time, VI T71.phase, .v (.string T71.own), .v (.string T71.value), VI T71.best.at_.time, VI T71.best.at_.who, .v (.string T71.best.data), .v (.int .u64 (T71.heard.n : Int))] 0) :: T75
abbrev T77 : LS := (73, .v (.string T71.value)) :: (72, .pim [VI T71.time, VI T71.phase, .v (.string T71.own), .v (.string T71.value), VI T71.best.at_.time, VI T71.best.at_.who, .v (.string T71.best.data), .v (.int .u64 (T71.heard.n : Int))] 3) :: T76
abbrev T78 : LS := (78, .lst 6 (T50.votes.map Vote.cs)) :: (77, .ref 8 5 0 4) :: (76, .v (.bool true)) :: (75, .v (.bool true)) :: (74, .v (.bool true)) :: T77
abbrev T79 : LS := (83, VI ((((Synod.newP T27).1).doP (⟨1, 0, ⟨#[]⟩⟩ : Step).kind (⟨1, 0, ⟨#[]⟩⟩ : Step).n (⟨1, 0, ⟨#[]⟩⟩ : Step).data).2)) :: (82, .v (.bool true)) :: (81, .v (.bool true)) :: (80, .v (.bool true)) :: (79, VI (List.length T50.votes : Int)) :: T78
abbrev T80 : LS := (87, T29) :: (86, .v (.bool true)) :: (85, .v (.bool true)) :: (84, .v (.bool true)) :: T79
theorem sbegun_fn : Fn Tryd.prog 16 [] (.v (.bool true)) := by
 refine fnw F16_ok ?_
 refine srl 1 [] ⟨[], []⟩ ?_
 refine EL.sreg ?_
 refine owg [] ⟨[(10, T28)], []⟩ (three_fn) ?_
 refine owg [T28] ⟨[(11, .tup [T29, VI ((Synod.newP T27).2)]), (10, T28)], []⟩ (new_fn T27 (by first | assumption | decide)) ?_
 refine owl 6 [1, 2] ⟨[(2, VI ((Synod.newP T27).2)), (1, .ref 0 5 0 0)], [T30]⟩ ?_
 refine srr 2 ⟨T33, [T30, T32]⟩ ?_
 refine OW.fo (ar := [VI 12]) (fe := Step.cs) (xs := (List.replicate (Int.toNat 12) (⟨3, 0, ⟨#[]⟩⟩ : Step))) (x' := ⟨T35, [T30, T32, T34]⟩) (by kernel_rfl) (by kernel_rfl) F35_call (passes_fo 12 (by first | omega | decide)) (by intro y; kernel_rfl) (by kernel_rfl) (by kernel_rfl) ?_
 refine ow2 ⟨T37, [T30, none, T34, T36]⟩ (oap Step.cs ([(⟨6, 1, ⟨#[97]⟩⟩ : Step)]) (List.replicate (Int.toNat 12) (⟨3, 0, ⟨#[]⟩⟩ : Step)) (.s 15) (.s 16) 3 32 1 (.own 2 3 0 (List.length (List.replicate (Int.toNat 12) (⟨3, 0, ⟨#[]⟩⟩ : Step)))) (.own (els := ((List.replicate (Int.toNat 12) (⟨3, 0, ⟨#[]⟩⟩ : Step)).map Step.cs)) (by kernel_rfl) (by simp) (by simp)) (by first | (simp; done) | (simp; omega))) ?_
 refine owl 1 [1, 2, 3] ⟨T38, [T30, none, T34, T36]⟩ ?_
 refine sdr 4 ⟨T41, [T30, none, T34, T36, T40]⟩ ?_
 refine dw2 ⟨T44, T43⟩ (oap Step.cs (([(⟨6, 1, ⟨#[97]⟩⟩ : Step)]) ++ (List.replicate (Int.toNat 12) (⟨3, 0, ⟨#[]⟩⟩ : Step))) ([(⟨6, 5, ⟨#[98]⟩⟩ : Step)]) (.s 20) (.s 22) 3 32 3 (.own 4 3 0 1) (.own (els := [[VI 6, VI 5, .v (.string (⟨#[98]⟩))]]) (by kernel_rfl) (by kernel_rfl) (of_decide_eq_true (by kernel_rfl))) (by first | (simp; done) | (simp; omega))) ?_
 refine DW.fo (ar := [VI 12]) (fe := Step.cs) (xs := (List.replicate (Int.toNat 12) (⟨3, 0, ⟨#[]⟩⟩ : Step))) (x' := ⟨T46, T45⟩) (by kernel_rfl) (by kernel_rfl) F35_call (passes_fo 12 (by first | omega | decide)) (by intro y; kernel_rfl) (by kernel_rfl) (by kernel_rfl) ?_
 refine dw2 ⟨T49, T48⟩ (oap Step.cs ((([(⟨6, 1, ⟨#[97]⟩⟩ : Step)]) ++ (List.replicate (Int.toNat 12) (⟨3, 0, ⟨#[]⟩⟩ : Step))) ++ ([(⟨6, 5, ⟨#[98]⟩⟩ : Step)])) (List.replicate (Int.toNat 12) (⟨3, 0, ⟨#[]⟩⟩ : Step)) (.s 23) (.s 24) 3 32 5 (.own 6 3 0 (List.length (List.replicate (Int.toNat 12) (⟨3, 0, ⟨#[]⟩⟩ : Step)))) (.own (els := ((List.replicate (Int.toNat 12) (⟨3, 0, ⟨#[]⟩⟩ : Step)).map Step.cs)) (by kernel_rfl) (by simp) (by simp)) (by first | (simp; done) | (simp; omega))) ?_
 refine DW.fn (ar := [T29, .own 7 3 0 (List.length (((([(⟨6, 1, ⟨#[97]⟩⟩ : Step)]) ++ (List.replicate (Int.toNat 12) (⟨3, 0, ⟨#[]⟩⟩ : Step))) ++ ([(⟨6, 5, ⟨#[98]⟩⟩ : Step)])) ++ (List.replicate (Int.toNat 12) (⟨3, 0, ⟨#[]⟩⟩ : Step))))]) (x' := ⟨T53, T52⟩) (by kernel_rfl) (by kernel_rfl) F20_call (run_fn ((Synod.newP T27).1) (((([(⟨6, 1, ⟨#[97]⟩⟩ : Step)]) ++ (List.replicate (Int.toNat 12) (⟨3, 0, ⟨#[]⟩⟩ : Step))) ++ ([(⟨6, 5, ⟨#[98]⟩⟩ : Step)])) ++ (List.replicate (Int.toNat 12) (⟨3, 0, ⟨#[]⟩⟩ : Step))) (by first | assumption | exact Synod.new_big (by first | assumption | decide) | exact Synod.run_big _ _ | exact Synod.do_big _ _ _ _ | exact Synod.sat_big (by assumption) | exact Synod.zero_big | exact Synod.Ok.big (by assumption)) (by first | omega | decide | (simp; omega))) (sA (by kernel_rfl) (sA (snapA_map Step.cs (((([(⟨6, 1, ⟨#[97]⟩⟩ : Step)]) ++ (List.replicate (Int.toNat 12) (⟨3, 0, ⟨#[]⟩⟩ : Step))) ++ ([(⟨6, 5, ⟨#[98]⟩⟩ : Step)])) ++ (List.replicate (Int.toNat 12) (⟨3, 0, ⟨#[]⟩⟩ : Step))) (by kernel_rfl) (by intro y; kernel_rfl) (by simp)) (snapAs_nil))) (by kernel_rfl) ?_
 refine dwl 8 [1, 2, 4, 5, 6] ⟨T56, T55⟩ ?_
 refine srr 2 ⟨(32, T57) :: (31, T29) :: T56, T55⟩ ?_
 refine owg [T29, T57] ⟨T60, T55⟩ (do_fn ((Synod.newP T27).1) (⟨1, 0, ⟨#[]⟩⟩ : Step) (by first | assumption | exact Synod.new_big (by first | assumption | decide) | exact Synod.run_big _ _ | exact Synod.do_big _ _ _ _ | exact Synod.sat_big (by assumption) | exact Synod.zero_big | exact Synod.Ok.big (by assumption))) ?_
 refine owl 6 [1, 2, 4, 5, 6, 8] ⟨T63, T62⟩ ?_
 refine srr 3 ⟨(38, .v (.bool (((Synod.newP T27).2) == 0))) :: (37, .v (.bool (((Synod.newP T27).2) == 0))) :: (36, VI ((Synod.newP T27).2)) :: T63, T62⟩ ?_
 have h1 : (((Synod.newP T27).2) == 0) = true := by first | kernel_rfl | decide
 rw [h1]
 refine owr 4 ⟨(42, .v (.bool (((((Synod.newP T27).1).runP (((([(⟨6, 1, ⟨#[97]⟩⟩ : Step)]) ++ (List.replicate (Int.toNat 12) (⟨3, 0, ⟨#[]⟩⟩ : Step))) ++ ([(⟨6, 5, ⟨#[98]⟩⟩ : Step)])) ++ (List.replicate (Int.toNat 12) (⟨3, 0, ⟨#[]⟩⟩ : Step)))).2.2) == 0))) :: (41, .v (.bool (((((Synod.newP T27).1).runP (((([(⟨6, 1, ⟨#[97]⟩⟩ : Step)]) ++ (List.replicate (Int.toNat 12) (⟨3, 0, ⟨#[]⟩⟩ : Step))) ++ ([(⟨6, 5, ⟨#[98]⟩⟩ : Step)])) ++ (List.replicate (Int.toNat 12) (⟨3, 0, ⟨#[]⟩⟩ : Step)))).2.2) == 0))) :: (40, .v (.bool (((((Synod.newP T27).1).runP (((([(⟨6, 1, ⟨#[97]⟩⟩ : Step)]) ++ (List.replicate (Int.toNat 12) (⟨3, 0, ⟨#[]⟩⟩ : Step))) ++ ([(⟨6, 5, ⟨#[98]⟩⟩ : Step)])) ++ (List.replicate (Int.toNat 12) (⟨3, 0, ⟨#[]⟩⟩ : Step)))).2.2) == 0))) :: T64, T62⟩ ?_
 have h2 : (((((Synod.newP T27).1).runP (((([(⟨6, 1, ⟨#[97]⟩⟩ : Step)]) ++ (List.replicate (Int.toNat 12) (⟨3, 0, ⟨#[]⟩⟩ : Step))) ++ ([(⟨6, 5, ⟨#[98]⟩⟩ : Step)])) ++ (List.replicate (Int.toNat 12) (⟨3, 0, ⟨#[]⟩⟩ : Step)))).2.2) == 0) = true := by first | kernel_rfl | decide
 rw [h2]
 refine owr 4 ⟨(46, .v (.bool (((((Synod.newP T27).1).runP (((([(⟨6, 1, ⟨#[97]⟩⟩ : Step)]) ++ (List.replicate (Int.toNat 12) (⟨3, 0, ⟨#[]⟩⟩ : Step))) ++ ([(⟨6, 5, ⟨#[98]⟩⟩ : Step)])) ++ (List.replicate (Int.toNat 12) (⟨3, 0, ⟨#[]⟩⟩ : Step)))).2.1) == 26))) :: (45, .v (.bool (((((Synod.newP T27).1).runP (((([(⟨6, 1, ⟨#[97]⟩⟩ : Step)]) ++ (List.replicate (Int.toNat 12) (⟨3, 0, ⟨#[]⟩⟩ : Step))) ++ ([(⟨6, 5, ⟨#[98]⟩⟩ : Step)])) ++ (List.replicate (Int.toNat 12) (⟨3, 0, ⟨#[]⟩⟩ : Step)))).2.1) == 26))) :: (44, .v (.bool (((((Synod.newP T27).1).runP (((([(⟨6, 1, ⟨#[97]⟩⟩ : Step)]) ++ (List.replicate (Int.toNat 12) (⟨3, 0, ⟨#[]⟩⟩ : Step))) ++ ([(⟨6, 5, ⟨#[98]⟩⟩ : Step)])) ++ (List.replicate (Int.toNat 12) (⟨3, 0, ⟨#[]⟩⟩ : Step)))).2.1) == 26))) :: T65, T62⟩ ?_
 have h3 : (((((Synod.newP T27).1).runP (((([(⟨6, 1, ⟨#[97]⟩⟩ : Step)]) ++ (List.replicate (Int.toNat 12) (⟨3, 0, ⟨#[]⟩⟩ : Step))) ++ ([(⟨6, 5, ⟨#[98]⟩⟩ : Step)])) ++ (List.replicate (Int.toNat 12) (⟨3, 0, ⟨#[]⟩⟩ : Step)))).2.1) == 26) = true := by first | kernel_rfl | decide
 rw [h3]
 refine owr 2 ⟨T66, T62⟩ ?_
 refine ow2 ⟨(49, VI (List.length T50.bids : Int)) :: T66, T62⟩ (oln Bid.cs T50.bids (.s 48) 8) ?_
 refine owr 3 ⟨(52, .v (.bool ((List.length T50.bids : Int) == 2))) :: (51, .v (.bool ((List.length T50.bids : Int) == 2))) :: (50, .v (.bool ((List.length T50.bids : Int) == 2))) :: (49, VI (List.length T50.bids : Int)) :: T66, T62⟩ ?_
 have h4 : ((List.length T50.bids : Int) == 2) = true := by first | kernel_rfl | decide
 rw [h4]
 refine owr 2 ⟨T68, T62⟩ ?_
 have hq6 : T50.bids[(0 : Int).toNat]? = some T67 := by kernel_rfl
 refine ow2 ⟨T69, T62⟩ (oid Bid.cs T50.bids (.s 54) (.c (VI 0)) 8 .i64 0 T67 (by first | omega | exact of_decide_eq_true (by kernel_rfl)) hq6) ?_
 refine owr 5 ⟨(60, .v (.bool (T67.phase == 3))) :: (59, .v (.bool (T67.phase == 3))) :: (58, .v (.bool (T67.phase == 3))) :: T70, T62⟩ ?_
 have h7 : (T67.phase == 3) = true := by first | kernel_rfl | decide
 rw [h7]
 refine owr 2 ⟨T72, T62⟩ ?_
 have hq9 : T50.bids[(1 : Int).toNat]? = some T71 := by kernel_rfl
 refine ow2 ⟨T73, T62⟩ (oid Bid.cs T50.bids (.s 62) (.c (VI 1)) 8 .i64 1 T71 (by first | omega | exact of_decide_eq_true (by kernel_rfl)) hq9) ?_
 refine owr 5 ⟨(68, .v (.bool (T71.phase == 3))) :: (67, .v (.bool (T71.phase == 3))) :: (66, .v (.bool (T71.phase == 3))) :: T74, T62⟩ ?_
 have h10 : (T71.phase == 3) = true := by first | kernel_rfl | decide
 rw [h10]
 refine owr 2 ⟨T75, T62⟩ ?_
 refine ow2 ⟨T76, T62⟩ (oid Bid.cs T50.bids (.s 70) (.c (VI 1)) 8 .i64 1 T71 (by first | omega | exact of_decide_eq_true (by kernel_rfl)) hq9) ?_
 refine owr 5 ⟨(76, .v (.bool (strEq T71.value (⟨#[97]⟩)))) :: (75, .v (.bool (strEq T71.value (⟨#[97]⟩)))) :: (74, .v (.bool (strEq T71.value (⟨#[97]⟩)))) :: T77, T62⟩ ?_
 have h11 : strEq T71.value (⟨#[97]⟩) = true := by first | kernel_rfl | decide
 rw [h11]
 refine owr 2 ⟨T78, T62⟩ ?_
 refine ow2 ⟨(79, VI (List.length T50.votes : Int)) :: T78, T62⟩ (oln Vote.cs T50.votes (.s 78) 6) ?_
 refine owr 3 ⟨(82, .v (.bool ((List.length T50.votes : Int) == 0))) :: (81, .v (.bool ((List.length T50.votes : Int) == 0))) :: (80, .v (.bool ((List.length T50.votes : Int) == 0))) :: (79, VI (List.length T50.votes : Int)) :: T78, T62⟩ ?_
 have h12 : ((List.length T50.votes : Int) == 0) = true := by first | kernel_rfl | decide
 rw [h12]
 refine owr 4 ⟨(86, .v (.bool (((((Synod.newP T27).1).doP (⟨1, 0, ⟨#[]⟩⟩ : Step).kind (⟨1, 0, ⟨#[]⟩⟩ : Step).n (⟨1, 0, ⟨#[]⟩⟩ : Step).data).2) == 7))) :: (85, .v (.bool (((((Synod.newP T27).1).doP (⟨1, 0, ⟨#[]⟩⟩ : Step).kind (⟨1, 0, ⟨#[]⟩⟩ : Step).n (⟨1, 0, ⟨#[]⟩⟩ : Step).data).2) == 7))) :: (84, .v (.bool (((((Synod.newP T27).1).doP (⟨1, 0, ⟨#[]⟩⟩ : Step).kind (⟨1, 0, ⟨#[]⟩⟩ : Step).n (⟨1, 0, ⟨#[]⟩⟩ : Step).data).2) == 7))) :: T79, T62⟩ ?_
 have h13 : (((((Synod.newP T27).1).doP (⟨1, 0, ⟨#[]⟩⟩ : Step).kind (⟨1, 0, ⟨#[]⟩⟩ : Step).n (⟨1, 0, ⟨#[]⟩⟩ : Step).data).2) == 7) = true := by first | kernel_rfl | decide
 rw [h13]
 refine owr 1 ⟨T80, T62⟩ ?_
 refine owg [T29] ⟨(88, VI (((Synod.newP T27).1).checkE)) :: T80, T62⟩ (check_fn ((Synod.newP T27).1) (by first | assumption | exact Synod.new_big (by first | assumption | decide) | exact Synod.run_big _ _ | exact Synod.do_big _ _ _ _ | exact Synod.sat_big (by assumption) | exact Synod.zero_big | exact Synod.Ok.big (by assumption))) ?_
 refine owl 3 [0] ⟨[(0, .v (.bool ((((Synod.newP T27).1).checkE) == 0)))], T62⟩ ?_
 refine EL.ret ?_
 refine rqe (.v (.bool ((((Synod.newP T27).1).checkE) == 0))) ?_
 focus (rfl)
instance : GoT Voters := GoT.via (fun x => (x.weights, x.need))
theorem opens_i64 : Opens Tryd.prog 3 Int := GoT_i64 Tryd.underlying3 (by kernel_rfl)
theorem opens_str : Opens Tryd.prog 9 ByteArray := GoT_str Tryd.underlying9 (by kernel_rfl)
theorem opens_Step : Opens Tryd.prog 31 Step := Opens.via (opens_struct Tryd.underlying31 rfl (by kernel_rfl) (opens_cons opens_i64 rfl (opens_cons opens_i64 rfl (opens_last opens_str rfl)))) _ (fun p => ⟨p.1, p.2.1, p.2.2⟩) (fun _ => rfl)
theorem opens_Li64 : Opens Tryd.prog 22 (List Int) := opens_slice Tryd.underlying22 (by kernel_rfl) opens_i64 (by decide)
theorem opens_LStep : Opens Tryd.prog 40 (List Step) := opens_slice Tryd.underlying40 (by kernel_rfl) opens_Step (by decide)
theorem opens_Voters : Opens Tryd.prog 24 Voters := Opens.via (opens_struct Tryd.underlying24 rfl (by kernel_rfl) (opens_cons opens_Li64 rfl (opens_last opens_i64 rfl))) _ (fun p => ⟨p.1, p.2⟩) (fun _ => rfl)
instance : GoT Synod := GoT.via (fun x => (x.voters, x.seats, x.bids, x.votes))
theorem rep_ints {w : World} {A : Option Addr} {n c : Nat} {xs : List Int} (h : GoT.rep w w.heap.size [.slice A n c] xs) : Rep (E0 w fun b => b < w.heap.size) (.slice A n c) (.lst 1 (xs.map cI)) :=
  rep_list (fun x : Int => [I x]) (fun x => -9223372036854775808 ≤ x ∧ x ≤ 9223372036854775807) (fun h => h) (fun _ => rfl) (by intro x v hv; simp at hv; subst hv; exact ⟨rfl, rfl⟩) h
theorem Voters.av {w : World} {cs : List Value} {v : Voters} (h : GoT.rep w w.heap.size cs v) :
    Rep (E0 w fun b => b < w.heap.size) (.agg cs.toArray) (.agg [.lst 1 (v.weights.map cI), VI v.need]) ∧ v.weights.length ≤ 9223372036854775807 := by
  obtain ⟨c0, r0, rfl, h0, h1⟩ := h
  obtain ⟨A0, n0, k0, rfl, g0⟩ := h0
  obtain ⟨rfl, _⟩ := h1
  refine ⟨R2.agg (.cons (rep_ints ⟨_, _, _, rfl, g0⟩) (.cons (.v rfl) .nil)), ?_⟩
  have := g0.1; have := g0.2.1; have := g0.2.2.1
  dsimp only at *
  omega
theorem gl_gN : Tryd.prog.globalNamed "math/bits.deBruijn64tab" = some 0 := by kernel_rfl
theorem gl_cells {W : World} (h : laidMetH Tryd.prog [("math/bits.deBruijn64tab", Rows.laid_math_bits_deBruijn64tab)] W) : ∀ (i : Nat) v, glT[i]? = some v → W.cell? ⟨0, i, none⟩ = some v := by
  rw [MakeChecks.laidMetH_plain _ _ _ (by kernel_rfl)] at h
  have hT := Lib.tabIs_of_head (k := .u8) (zs := glZ) gl_gN (by kernel_rfl) Tryd.underlying118 Tryd.underlying5 (by kernel_rfl) (by kernel_rfl) h
  intro i v hv
  have hi : i < glZ.length := by
    have := (List.getElem?_eq_some_iff.1 hv).1; simpa [glT] using this
  have := hT.cell gl_gN i hi
  rw [this]
  simp only [glT, List.getElem?_map, Option.map_eq_some_iff] at hv
  obtain ⟨z, hz, rfl⟩ := hv
  simp [List.getD, hz]
theorem glE_of {W : World} (h : laidMetH Tryd.prog [("math/bits.deBruijn64tab", Rows.laid_math_bits_deBruijn64tab)] W) : GlE (E0 W fun b => b < W.heap.size) :=
  ⟨cell_lt (gl_cells h 0 _ rfl), gl_cells h⟩
structure Sat (v : Voters) (s : Synod) : Prop where
  ok : s.Ok
  inv : ∃ H : Hist, Inv s H
  bound : Bound s
theorem Synod.sat_sat {v : Voters} {l : List Step} (h : (Synod.satP v l).2 = true) : Sat v (Synod.satP v l).1 := by
  obtain ⟨hq, hr, ok⟩ := Synod.sat_is h
  obtain ⟨H, I, _⟩ := hr.inv (Inv.start hq)
  exact ⟨ok, ⟨H, I⟩, hr.bound (Inv.start hq) (Bound.start v)⟩
structure Lv (v : Voters) (s : Synod) (n : Nat) (T : Int) : Prop where
  sat : Sat v s
  live : Live s n T
theorem Sat.step {v : Voters} {s : Synod} (S : Sat v s) {k n : Int} {d : ByteArray} (h : (s.stepP k n d).2 = 0) : Sat v (s.stepP k n d).1 := by
  obtain ⟨H, I⟩ := S.inv
  have hn := step_nxt S.ok h
  obtain ⟨H2, I2, _⟩ := I.step hn
  exact ⟨Synod.step_ok S.ok h, ⟨H2, I2⟩, S.bound.step I hn⟩
theorem Sat.starts {v : Voters} {s : Synod} (S : Sat v s) {t : Int} {own : ByteArray} (ht : 0 ≤ t ∧ t ≤ 1000000) (hb : ∀ (j : Nat) (b : Bid), s.bids[j]? = some b → b.time ≤ t) (h : (s.doP 6 (t + 1) own).2 = 0) : Lv v (s.doP 6 (t + 1) own).1 s.bids.length (t + 1) := by
  rw [Synod.doP_0 (Synod.ok_iff.2 S.ok)] at h ⊢
  have S2 := S.step h
  rw [bid_eq] at h S2 ⊢
  refine ⟨S2, live_begin S.ok S.bound (fun b hb2 => ?_) (by omega) h⟩
  obtain ⟨j, hj⟩ := List.getElem?_of_mem hb2
  have := hb j b hj; omega
theorem Sat.starts_e {v : Voters} {s : Synod} (S : Sat v s) {t : Int} {own : ByteArray} (ht : 0 ≤ t ∧ t ≤ 1000000) (h : ¬ (s.doP 6 (t + 1) own).2 = 0) : t = 1000000 ∨ own.size > 64 ∨ s.bids.length = 31 ∨ (s.doP 6 (t + 1) own).2 = 2 := by
  rw [Synod.doP_0 (Synod.ok_iff.2 S.ok), bid_eq] at h ⊢
  exact begin_err S.ok ht h
theorem Lv.pass {v : Voters} {s : Synod} {n : Nat} {T : Int} (L : Lv v s n T) (h : s.votes.length > 0) (h2 : (s.doP 3 0 ⟨#[]⟩).2 = 0) : Lv v (s.doP 3 0 ⟨#[]⟩).1 n T := by
  rw [Synod.doP_0 (Synod.ok_iff.2 L.sat.ok)] at h2 ⊢
  obtain ⟨H, I⟩ := L.sat.inv
  exact ⟨L.sat.step h2, live_pass I L.sat.ok L.live (by omega) h2⟩
theorem Lv.pass_e {v : Voters} {s : Synod} {n : Nat} {T : Int} (L : Lv v s n T) (h : s.votes.length > 0) (h2 : ¬ (s.doP 3 0 ⟨#[]⟩).2 = 0) : (s.doP 3 0 ⟨#[]⟩).2 = 2 := by
  rw [Synod.doP_0 (Synod.ok_iff.2 L.sat.ok)] at h2 ⊢
  exact pass_err (by omega) h2
theorem Lv.has {v : Voters} {s : Synod} {n : Nat} {T : Int} (L : Lv v s n T) : n < s.bids.length := by
  obtain ⟨b, hb, _⟩ := L.live.bid
  exact (List.getElem?_eq_some_iff.1 hb).1
theorem Lv.ends {v : Voters} {s : Synod} {n : Nat} {T : Int} (L : Lv v s n T) (h : ¬ s.votes.length > 0) {b : Bid} (hb : s.bids[n]? = some b) : b.phase = 3 := by
  obtain ⟨c, hc, h3⟩ := live_end L.sat.ok L.live (by omega)
  rw [hb] at hc; obtain rfl := Option.some.inj hc; exact h3
end Go.Proofs.YtligepciannclaaDoor
