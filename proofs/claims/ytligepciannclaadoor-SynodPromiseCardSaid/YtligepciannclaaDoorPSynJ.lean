/- Plain laws of synods behind steps: who keeps what is done, what stays, what seats promise. No condition. -/
import Derived.Test.YtligepciannclaaDoorPSynE
import Derived.Test.YtligepciannclaaDoorPSeatC
import Derived.Test.YtligepciannclaaDoorTie
import Derived.Test.YtligepciannclaaDoorCards
import Derived.Lib.LaidTab
import Derived.LaidMore
import Derived.Stop.Joined
set_option maxRecDepth 100000
set_option maxHeartbeats 4000000
set_option linter.unusedVariables false
set_option linter.unusedSimpArgs false
namespace Go.Proofs.YtligepciannclaaDoor
theorem same_all {α : Type} {xs ys : List α} (hl : xs.length = ys.length) (h : ∀ j, j < xs.length → xs[j]? = ys[j]?) : xs = ys := by
  apply List.ext_getElem?
  intro j
  by_cases hj : j < xs.length
  · exact h j hj
  · rw [List.getElem?_eq_none (by omega), List.getElem?_eq_none (by omega)]
theorem same_next {α : Type} {xs ys : List α} {k : Nat} {a b : α} (h : ∀ j, j < k → xs[j]? = ys[j]?) (ha : xs[k]? = some a) (hb : ys[k]? = some b) (e : a = b) : ∀ j, j < k + 1 → xs[j]? = ys[j]? := by
  intro j hj
  by_cases hjk : j = k
  · subst hjk; rw [ha, hb, e]
  · exact h j (by omega)
theorem same_not {α : Type} {xs ys : List α} {k : Nat} {a b : α} (ha : xs[k]? = some a) (hb : ys[k]? = some b) (e : xs = ys) : a = b := by
  subst e; rw [ha] at hb; exact Option.some.inj hb
def Synod.same (a b : Synod) : Prop := a.voters.weights = b.voters.weights ∧ a.voters.need = b.voters.need ∧ a.seats = b.seats ∧ a.bids = b.bids ∧ a.votes = b.votes
theorem u64_eq {a b : U64} : a = b ↔ a.n = b.n := by
  cases a; cases b; simp
instance : DecidableEq Bid := fun a b => decidable_of_iff (a.time = b.time ∧ a.phase = b.phase ∧ a.own = b.own ∧ a.value = b.value ∧ a.best = b.best ∧ a.heard.n = b.heard.n) (by cases a; cases b; simp [u64_eq])
instance (a b : Synod) : Decidable (Synod.same a b) := by unfold Synod.same; exact inferInstance
theorem Synod.same_self (a : Synod) : Synod.same a a := ⟨rfl, rfl, rfl, rfl, rfl⟩
section
variable (a11 : Step) (c : Synod) (k : Nat) (l : List Step) (n : Int) (s : Synod)
end
section
variable (a5 : Int) (k : Nat) (xs : List Int) (ys : List Int)
abbrev P26 : LS := [(6, .lst 1 (xs.map cI)), (0, .lst 1 (xs.map cI)), (1, .lst 1 (ys.map cI))]
abbrev P27 : LS := (8, .lst 1 (ys.map cI)) :: (7, VI (List.length xs : Int)) :: (P26 xs ys)
abbrev P28 : LS := [(5, VI 0), (0, .lst 1 (xs.map cI)), (1, .lst 1 (ys.map cI))]
abbrev P29 : LS := [(0, .lst 1 (xs.map cI)), (1, .lst 1 (ys.map cI)), (5, VI (k : Int))]
abbrev P30 : LS := (12, .lst 1 (xs.map cI)) :: (11, VI (k : Int)) :: (P29 k xs ys)
abbrev P31 : LS := (18, VI (k : Int)) :: (17, .lst 1 (xs.map cI)) :: (14, .v (.bool true)) :: (P29 k xs ys)
abbrev P32 : LS := (22, VI (k : Int)) :: (21, .lst 1 (ys.map cI)) :: (20, VI a5) :: (19, .pim [VI a5] 0) :: (P31 k xs ys)
abbrev P33 : LS := [(15, VI (k : Int)), (25, .v (.bool false)), (0, .lst 1 (xs.map cI)), (1, .lst 1 (ys.map cI))]
abbrev P34 : LS := (5, VI ((k : Int) + 1)) :: (16, VI ((k : Int) + 1)) :: (P33 k xs ys)
end
theorem sameInts_fn (xs : List Int) (ys : List Int) (hx : xs.length ≤ 9223372036854775807) : Fn Tryd.prog 36 [.lst 1 (xs.map cI), .lst 1 (ys.map cI)] (.v (.bool (decide (xs = ys)))) := by
  refine fn_walkW F36_ok (of_decide_eq_true (by kernel_rfl)) ?_
  refine srl 1 [0, 1] ⟨[(0, .lst 1 (xs.map cI)), (1, .lst 1 (ys.map cI))], []⟩ ?_
  refine EL.seq ?_
  refine srr 1 ⟨(P26 xs ys), []⟩ ?_
  refine owo (VI (List.length xs : Int)) [] [] ⟨(7, VI (List.length xs : Int)) :: (P26 xs ys), []⟩ (opE_len cI xs (.s 6) 1 (by kernel_rfl) (by kernel_rfl) (.inl rfl)) ?_
  refine owr 1 ⟨(P27 xs ys), []⟩ ?_
  refine owo (VI (List.length ys : Int)) [] [] ⟨(9, VI (List.length ys : Int)) :: (P27 xs ys), []⟩ (opE_len cI ys (.s 8) 1 (by kernel_rfl) (by kernel_rfl) (.inl rfl)) ?_
  refine owl 1 [0, 1, 10] ⟨[(10, .v (.bool ((List.length xs : Int) != (List.length ys : Int)))), (0, .lst 1 (xs.map cI)), (1, .lst 1 (ys.map cI))], []⟩ ?_
  rcases Bool.eq_false_or_eq_true (((List.length xs : Int) != (List.length ys : Int))) with h1 | h1
  rw [h1]
  have g1 : ¬ ((List.length xs : Int) = (List.length ys : Int)) := by simpa using h1
  have n1 : ¬ ((List.length xs) = (List.length ys)) := by omega
  refine cnT ?_
  refine srl 1 [4] ⟨[(4, .v (.bool false))], []⟩ ?_
  refine rtr ?_
  refine ⟨.inr rfl, .v (.bool false), by kernel_rfl, Ale.of_eq ?_⟩
  rotate_left
  rw [h1]
  have g1 : ((List.length xs : Int) = (List.length ys : Int)) := by simpa using h1
  have n1 : ((List.length xs) = (List.length ys)) := by omega
  refine cnF ?_
  refine skn ?_
  refine EL.seq ?_
  refine srl 1 [0, 1, 5] ⟨(P28 xs ys), []⟩ ?_
  refine EL.block ?_
  refine EL.loopN (fun mM xX => ∃ (k : Nat), mM = xs.length - k ∧ (k ≤ xs.length ∧ xs.length = ys.length ∧ decide (xs = ys) = decide (xs.drop k = ys.drop k)) ∧ xX = ⟨(P29 k xs ys), []⟩) (y := (fun (k : Nat) => (⟨(P29 k xs ys), []⟩ : L3)) 0) [0, 1, 5] [] [] (by kernel_rfl) trivial ⟨0, rfl, by simp; omega, rfl⟩ ?_
  rintro _ _ ⟨k, rfl, hI2, rfl⟩
  obtain ⟨hk, hl, hs⟩ := hI2
  refine EL.seq ?_
  refine srr 2 ⟨(P30 k xs ys), []⟩ ?_
  refine owo (VI (List.length xs : Int)) [] [] ⟨(13, VI (List.length xs : Int)) :: (P30 k xs ys), []⟩ (opE_len cI xs (.s 12) 1 (by kernel_rfl) (by kernel_rfl) (.inl rfl)) ?_
  refine owl 1 [0, 1, 5, 14] ⟨(14, .v (.bool (decide ((k : Int) < (List.length xs : Int))))) :: (P29 k xs ys), []⟩ ?_
  rcases Bool.eq_false_or_eq_true (decide ((k : Int) < (List.length xs : Int))) with h3 | h3
  rw [h3]
  have g3 := of_decide_eq_true h3
  have n3 : ((k) < (List.length xs)) := by omega
  refine cnT ?_
  refine skn ?_
  refine EL.seq ?_
  refine EL.block ?_
  refine sdr 2 ⟨(P31 k xs ys), []⟩ ?_
  obtain ⟨a5, ha5⟩ : ∃ y, xs[((k : Int) : Int).toNat]? = some y := idx_ex ⟨by omega, by omega⟩
  have iha5 : xs[k]? = some a5 := by simpa using ha5
  have dha5 := drop_get iha5
  refine dwo (.pim [VI a5] 0) [] [] ⟨(19, .pim [VI a5] 0) :: (P31 k xs ys), []⟩ (opE_iad cI xs (.s 17) (.s 18) 1 .i64 (k : Int) a5 (by kernel_rfl) (by kernel_rfl) (.inl rfl) rfl (by omega) ha5) ?_
  refine dwr 3 ⟨(P32 a5 k xs ys), []⟩ ?_
  obtain ⟨a7, ha7⟩ : ∃ y, ys[((k : Int) : Int).toNat]? = some y := idx_ex ⟨by omega, by omega⟩
  have iha7 : ys[k]? = some a7 := by simpa using ha7
  have dha7 := drop_get iha7
  refine dwo (.pim [VI a7] 0) [] [] ⟨(23, .pim [VI a7] 0) :: (P32 a5 k xs ys), []⟩ (opE_iad cI ys (.s 21) (.s 22) 1 .i64 (k : Int) a7 (by kernel_rfl) (by kernel_rfl) (.inl rfl) rfl (by omega) ha7) ?_
  refine dwl 2 [0, 1, 5, 25] ⟨(25, .v (.bool (a5 != a7))) :: (P29 k xs ys), []⟩ ?_
  rcases Bool.eq_false_or_eq_true ((a5 != a7)) with h8 | h8
  rw [h8]
  have g8 : ¬ (a5 = a7) := by simpa using h8
  refine cnT ?_
  refine srl 1 [4] ⟨[(4, .v (.bool false))], []⟩ ?_
  refine EL.ret ?_
  refine inBlk_ret ?_
  refine thenL_ret ?_
  refine thenL_ret ?_
  refine inBlk_ret ?_
  refine thenL_ret ?_
  refine ⟨.inr rfl, .v (.bool false), by kernel_rfl, Ale.of_eq ?_⟩
  rotate_left
  rw [h8]
  have g8 : (a5 = a7) := by simpa using h8
  refine cnF ?_
  refine EL.skip ?_
  refine inBlk_norm ?_
  refine thenL_norm ?_
  refine EL.reg0 ?_
  refine owr 3 ⟨(5, VI (IntKind.i64.wrap ((k : Int) + 1))) :: (16, VI (IntKind.i64.wrap ((k : Int) + 1))) :: (P33 k xs ys), []⟩ ?_
  have e9 : IntKind.i64.wrap ((k : Int) + 1) = (k : Int) + 1 := wr64 (by omega)
  rw [e9]
  refine owe 0 ⟨(P34 k xs ys), []⟩ ?_
  refine thenL_norm ?_
  refine round_end (live := [0, 1, 5]) (src := []) (es := []) (y := (fun (k : Nat) => (⟨(P29 k xs ys), []⟩ : L3)) (k + 1)) ?_ trivial ?_ ⟨(k + 1), rfl, ?_, rfl⟩
  kernel_rfl
  omega
  focus (refine ⟨by omega, by omega, ?_⟩; rw [hs]; simp [*])
  rw [h3]
  have g3 := of_decide_eq_false h3
  have n3 : ¬ ((k) < (List.length xs)) := by omega
  refine cnF ?_
  refine EL.exit ?_
  refine thenL_exit ?_
  refine thenL_exit ?_
  refine inBlk_hit ?_
  refine thenL_norm ?_
  refine srl 1 [4] ⟨[(4, .v (.bool true))], []⟩ ?_
  refine EL.ret ?_
  refine ⟨.inr rfl, .v (.bool true), by kernel_rfl, Ale.of_eq ?_⟩
  rotate_left
  all_goals ((refine congrArg (fun b => AV.v (Value.bool b)) ?_; first | (have hne : xs ≠ ys := (fun h => by subst h; omega); simp [hne]; done) | (rw [hs, List.drop_eq_nil_of_le (by omega), List.drop_eq_nil_of_le (by omega)]; simp; done) | (rw [hs]; simp [*]; done)))
section
variable (a : Synod) (a11 : Seat) (a17 : Bid) (a19 : Bid) (a9 : Seat) (b : Synod) (i : Nat) (k : Nat)
abbrev P35 : OB := some ⟨5, [[.lst 1 (a.voters.weights.map cI), VI a.voters.need, .lst 5 (a.seats.map Seat.cs), .lst 8 (a.bids.map Bid.cs), .lst 6 (a.votes.map Vote.cs)]]⟩
abbrev P36 : OB := some ⟨5, [[.lst 1 (b.voters.weights.map cI), VI b.voters.need, .lst 5 (b.seats.map Seat.cs), .lst 8 (b.bids.map Bid.cs), .lst 6 (b.votes.map Vote.cs)]]⟩
abbrev P37 : LS := [(12, .lst 1 (b.voters.weights.map cI)), (11, .ref 1 5 0 0), (10, .ref 1 5 0 0), (9, .lst 1 (a.voters.weights.map cI)), (8, .ref 0 5 0 0), (7, .ref 0 5 0 0), (3, .ref 1 5 0 0), (2, .ref 0 5 0 0)]
abbrev P38 : LS := (21, VI b.voters.need) :: (20, .ref 1 5 0 1) :: (19, .ref 1 5 0 0) :: (18, VI a.voters.need) :: (17, .ref 0 5 0 1) :: (16, .ref 0 5 0 0) :: (15, .v (.bool false)) :: (14, .v (.bool false)) :: (13, .v (.bool true)) :: (P37 a b)
abbrev P39 : LS := [(49, .v (.bool true)), (3, .ref 1 5 0 0), (2, .ref 0 5 0 0)]
abbrev P40 : LS := (26, .lst 5 (a.seats.map Seat.cs)) :: (25, .ref 0 5 0 2) :: (24, .v (.bool false)) :: (23, .v (.bool false)) :: (22, .v (.bool false)) :: (P38 a b)
abbrev P41 : LS := (29, .lst 5 (b.seats.map Seat.cs)) :: (28, .ref 1 5 0 2) :: (27, VI (List.length a.seats : Int)) :: (P40 a b)
abbrev P42 : LS := (35, .lst 8 (a.bids.map Bid.cs)) :: (34, .ref 0 5 0 3) :: (33, .v (.bool false)) :: (32, .v (.bool false)) :: (31, .v (.bool false)) :: (30, VI (List.length b.seats : Int)) :: (P41 a b)
abbrev P43 : LS := (38, .lst 8 (b.bids.map Bid.cs)) :: (37, .ref 1 5 0 3) :: (36, VI (List.length a.bids : Int)) :: (P42 a b)
abbrev P44 : LS := (46, .lst 6 (b.votes.map Vote.cs)) :: (45, .ref 1 5 0 4) :: (44, .lst 6 (a.votes.map Vote.cs)) :: (43, .ref 0 5 0 4) :: (42, .v (.bool false)) :: (41, .v (.bool false)) :: (40, .v (.bool false)) :: (39, VI (List.length b.bids : Int)) :: (P43 a b)
abbrev P45 : LS := [(5, VI 0), (3, .ref 1 5 0 0), (2, .ref 0 5 0 0)]
abbrev P46 : LS := [(2, .ref 0 5 0 0), (3, .ref 1 5 0 0), (5, VI (k : Int))]
abbrev P47 : LS := (52, .lst 5 (a.seats.map Seat.cs)) :: (51, .ref 0 5 0 2) :: (50, VI (k : Int)) :: (P46 k)
abbrev P48 : LS := (59, VI (k : Int)) :: (58, .lst 5 (a.seats.map Seat.cs)) :: (57, .ref 0 5 0 2) :: (54, .v (.bool true)) :: (P46 k)
abbrev P49 : LS := (60, .pim [VI a9.promised.time, VI a9.promised.who, VI a9.kept.at_.time, VI a9.kept.at_.who, .v (.string a9.kept.data)] 0) :: (P48 a k)
abbrev P50 : AV := .agg [VI a9.promised.time, VI a9.promised.who, VI a9.kept.at_.time, VI a9.kept.at_.who, .v (.string a9.kept.data)]
abbrev P51 : LS := (64, VI (k : Int)) :: (63, .lst 5 (b.seats.map Seat.cs)) :: (62, .ref 1 5 0 2) :: (61, (P50 a9)) :: (P49 a a9 k)
abbrev P52 : LS := (65, .pim [VI a11.promised.time, VI a11.promised.who, VI a11.kept.at_.time, VI a11.kept.at_.who, .v (.string a11.kept.data)] 0) :: (P51 a a9 b k)
abbrev P53 : LS := [(55, VI (k : Int)), (67, .v (.bool false)), (2, .ref 0 5 0 0), (3, .ref 1 5 0 0)]
abbrev P54 : LS := (5, VI ((k : Int) + 1)) :: (56, VI ((k : Int) + 1)) :: (P53 k)
abbrev P55 : LS := [(6, VI 0), (2, .ref 0 5 0 0), (3, .ref 1 5 0 0)]
abbrev P56 : LS := [(2, .ref 0 5 0 0), (3, .ref 1 5 0 0), (6, VI (i : Int))]
abbrev P57 : LS := (70, .lst 8 (a.bids.map Bid.cs)) :: (69, .ref 0 5 0 3) :: (68, VI (i : Int)) :: (P56 i)
abbrev P58 : LS := (77, VI (i : Int)) :: (76, .lst 8 (a.bids.map Bid.cs)) :: (75, .ref 0 5 0 3) :: (72, .v (.bool true)) :: (P56 i)
abbrev P59 : LS := (78, .pim [VI a17.time, VI a17.phase, .v (.string a17.own), .v (.string a17.value), VI a17.best.at_.time, VI a17.best.at_.who, .v (.string a17.best.data), .v (.int .u64 (a17.heard.n : Int))] 0) :: (P58 a i)
abbrev P60 : AV := .agg [VI a17.time, VI a17.phase, .v (.string a17.own), .v (.string a17.value), VI a17.best.at_.time, VI a17.best.at_.who, .v (.string a17.best.data), .v (.int .u64 (a17.heard.n : Int))]
abbrev P61 : LS := (82, VI (i : Int)) :: (81, .lst 8 (b.bids.map Bid.cs)) :: (80, .ref 1 5 0 3) :: (79, (P60 a17)) :: (P59 a a17 i)
abbrev P62 : LS := (83, .pim [VI a19.time, VI a19.phase, .v (.string a19.own), .v (.string a19.value), VI a19.best.at_.time, VI a19.best.at_.who, .v (.string a19.best.data), .v (.int .u64 (a19.heard.n : Int))] 0) :: (P61 a a17 b i)
abbrev P63 : LS := [(73, VI (i : Int)), (85, .v (.bool false)), (2, .ref 0 5 0 0), (3, .ref 1 5 0 0)]
abbrev P64 : LS := (6, VI ((i : Int) + 1)) :: (74, VI ((i : Int) + 1)) :: (P63 i)
end
theorem sameSynod_fn (a : Synod) (b : Synod) (hx : a.Big) : Fn Tryd.prog 17 [.agg [.lst 1 (a.voters.weights.map cI), VI a.voters.need, .lst 5 (a.seats.map Seat.cs), .lst 8 (a.bids.map Bid.cs), .lst 6 (a.votes.map Vote.cs)], .agg [.lst 1 (b.voters.weights.map cI), VI b.voters.need, .lst 5 (b.seats.map Seat.cs), .lst 8 (b.bids.map Bid.cs), .lst 6 (b.votes.map Vote.cs)]] (.v (.bool (decide (Synod.same a b)))) := by
  refine fn_walkW F17_ok (of_decide_eq_true (by kernel_rfl)) ?_
  refine srl 3 [2, 3] ⟨[(3, .ref 1 5 0 0), (2, .ref 0 5 0 0)], [(P35 a), (P36 b)]⟩ ?_
  refine EL.seq ?_
  refine srr 6 ⟨(P37 a b), [(P35 a), (P36 b)]⟩ ?_
  refine owf [.lst 1 (a.voters.weights.map cI), .lst 1 (b.voters.weights.map cI)] ⟨(13, .v (.bool (decide (a.voters.weights = b.voters.weights)))) :: (P37 a b), [(P35 a), (P36 b)]⟩ F36_call (sameInts_fn a.voters.weights b.voters.weights (by first | omega | exact hx.1)) ?_
  refine owr 2 ⟨(15, .v (.bool (!(decide (a.voters.weights = b.voters.weights))))) :: (14, .v (.bool (!(decide (a.voters.weights = b.voters.weights))))) :: (13, .v (.bool (decide (a.voters.weights = b.voters.weights)))) :: (P37 a b), [(P35 a), (P36 b)]⟩ ?_
  rcases Bool.eq_false_or_eq_true (decide (a.voters.weights = b.voters.weights)) with h1 | h1
  rw [h1]
  have g1 := of_decide_eq_true h1
  refine owr 9 ⟨(24, .v (.bool (a.voters.need != b.voters.need))) :: (23, .v (.bool (a.voters.need != b.voters.need))) :: (22, .v (.bool (a.voters.need != b.voters.need))) :: (P38 a b), [(P35 a), (P36 b)]⟩ ?_
  rcases Bool.eq_false_or_eq_true ((a.voters.need != b.voters.need)) with h2 | h2
  rw [h2]
  have g2 : ¬ (a.voters.need = b.voters.need) := by simpa using h2
  refine owl 25 [2, 3, 49] ⟨P39, [(P35 a), (P36 b)]⟩ ?_
  refine cnT ?_
  refine srl 1 [4] ⟨[(4, .v (.bool false))], [(P35 a), (P36 b)]⟩ ?_
  refine rtr ?_
  refine ⟨.inr rfl, .v (.bool false), by kernel_rfl, Ale.of_eq ?_⟩
  rotate_left
  rw [h2]
  have g2 : (a.voters.need = b.voters.need) := by simpa using h2
  refine owr 2 ⟨(P40 a b), [(P35 a), (P36 b)]⟩ ?_
  refine owo (VI (List.length a.seats : Int)) [] [] ⟨(27, VI (List.length a.seats : Int)) :: (P40 a b), [(P35 a), (P36 b)]⟩ (opE_len Seat.cs a.seats (.s 26) 5 (by kernel_rfl) (by kernel_rfl) (.inl rfl)) ?_
  refine owr 2 ⟨(P41 a b), [(P35 a), (P36 b)]⟩ ?_
  refine owo (VI (List.length b.seats : Int)) [] [] ⟨(30, VI (List.length b.seats : Int)) :: (P41 a b), [(P35 a), (P36 b)]⟩ (opE_len Seat.cs b.seats (.s 29) 5 (by kernel_rfl) (by kernel_rfl) (.inl rfl)) ?_
  refine owr 3 ⟨(33, .v (.bool ((List.length a.seats : Int) != (List.length b.seats : Int)))) :: (32, .v (.bool ((List.length a.seats : Int) != (List.length b.seats : Int)))) :: (31, .v (.bool ((List.length a.seats : Int) != (List.length b.seats : Int)))) :: (30, VI (List.length b.seats : Int)) :: (P41 a b), [(P35 a), (P36 b)]⟩ ?_
  rcases Bool.eq_false_or_eq_true (((List.length a.seats : Int) != (List.length b.seats : Int))) with h3 | h3
  rw [h3]
  have g3 : ¬ ((List.length a.seats : Int) = (List.length b.seats : Int)) := by simpa using h3
  have n3 : ¬ ((List.length a.seats) = (List.length b.seats)) := by omega
  refine owl 16 [2, 3, 49] ⟨P39, [(P35 a), (P36 b)]⟩ ?_
  refine cnT ?_
  refine srl 1 [4] ⟨[(4, .v (.bool false))], [(P35 a), (P36 b)]⟩ ?_
  refine rtr ?_
  refine ⟨.inr rfl, .v (.bool false), by kernel_rfl, Ale.of_eq ?_⟩
  rotate_left
  rw [h3]
  have g3 : ((List.length a.seats : Int) = (List.length b.seats : Int)) := by simpa using h3
  have n3 : ((List.length a.seats) = (List.length b.seats)) := by omega
  refine owr 2 ⟨(P42 a b), [(P35 a), (P36 b)]⟩ ?_
  refine owo (VI (List.length a.bids : Int)) [] [] ⟨(36, VI (List.length a.bids : Int)) :: (P42 a b), [(P35 a), (P36 b)]⟩ (opE_len Bid.cs a.bids (.s 35) 8 (by kernel_rfl) (by kernel_rfl) (.inl rfl)) ?_
  refine owr 2 ⟨(P43 a b), [(P35 a), (P36 b)]⟩ ?_
  refine owo (VI (List.length b.bids : Int)) [] [] ⟨(39, VI (List.length b.bids : Int)) :: (P43 a b), [(P35 a), (P36 b)]⟩ (opE_len Bid.cs b.bids (.s 38) 8 (by kernel_rfl) (by kernel_rfl) (.inl rfl)) ?_
  refine owr 3 ⟨(42, .v (.bool ((List.length a.bids : Int) != (List.length b.bids : Int)))) :: (41, .v (.bool ((List.length a.bids : Int) != (List.length b.bids : Int)))) :: (40, .v (.bool ((List.length a.bids : Int) != (List.length b.bids : Int)))) :: (39, VI (List.length b.bids : Int)) :: (P43 a b), [(P35 a), (P36 b)]⟩ ?_
  rcases Bool.eq_false_or_eq_true (((List.length a.bids : Int) != (List.length b.bids : Int))) with h4 | h4
  rw [h4]
  have g4 : ¬ ((List.length a.bids : Int) = (List.length b.bids : Int)) := by simpa using h4
  have n4 : ¬ ((List.length a.bids) = (List.length b.bids)) := by omega
  refine owl 7 [2, 3, 49] ⟨P39, [(P35 a), (P36 b)]⟩ ?_
  refine cnT ?_
  refine srl 1 [4] ⟨[(4, .v (.bool false))], [(P35 a), (P36 b)]⟩ ?_
  refine rtr ?_
  refine ⟨.inr rfl, .v (.bool false), by kernel_rfl, Ale.of_eq ?_⟩
  rotate_left
  rw [h4]
  have g4 : ((List.length a.bids : Int) = (List.length b.bids : Int)) := by simpa using h4
  have n4 : ((List.length a.bids) = (List.length b.bids)) := by omega
  refine owr 4 ⟨(P44 a b), [(P35 a), (P36 b)]⟩ ?_
  refine owf [.lst 6 (a.votes.map Vote.cs), .lst 6 (b.votes.map Vote.cs)] ⟨(47, .v (.bool (decide (a.votes = b.votes)))) :: (P44 a b), [(P35 a), (P36 b)]⟩ F37_call (sameVotes_fn a.votes b.votes (by first | omega | exact hx.2.2.2)) ?_
  refine owl 2 [2, 3, 49] ⟨[(49, .v (.bool (!(decide (a.votes = b.votes))))), (3, .ref 1 5 0 0), (2, .ref 0 5 0 0)], [(P35 a), (P36 b)]⟩ ?_
  rcases Bool.eq_false_or_eq_true (decide (a.votes = b.votes)) with h5 | h5
  rw [h5]
  have g5 := of_decide_eq_true h5
  refine cnF ?_
  refine skn ?_
  refine EL.seq ?_
  refine srl 1 [2, 3, 5] ⟨P45, [(P35 a), (P36 b)]⟩ ?_
  refine EL.block ?_
  refine EL.loopN (fun mM xX => ∃ (k : Nat), mM = a.seats.length - k ∧ (k ≤ a.seats.length ∧ a.seats.length = b.seats.length ∧ (∀ j, j < k → a.seats[j]? = b.seats[j]?)) ∧ xX = ⟨(P46 k), [(P35 a), (P36 b)]⟩) (y := (fun (k : Nat) => (⟨(P46 k), [(P35 a), (P36 b)]⟩ : L3)) 0) [2, 3, 5] [.old 0 false, .old 1 false] [] (by kernel_rfl) trivial ⟨0, rfl, by first | exact ⟨by omega, by omega, fun j hj => absurd hj (Nat.not_lt_zero _)⟩, rfl⟩ ?_
  rintro _ _ ⟨k, rfl, hI6, rfl⟩
  obtain ⟨hkk, hls, hsk⟩ := hI6
  refine EL.seq ?_
  refine srr 3 ⟨(P47 a k), [(P35 a), (P36 b)]⟩ ?_
  refine owo (VI (List.length a.seats : Int)) [] [] ⟨(53, VI (List.length a.seats : Int)) :: (P47 a k), [(P35 a), (P36 b)]⟩ (opE_len Seat.cs a.seats (.s 52) 5 (by kernel_rfl) (by kernel_rfl) (.inl rfl)) ?_
  refine owl 1 [2, 3, 5, 54] ⟨(54, .v (.bool (decide ((k : Int) < (List.length a.seats : Int))))) :: (P46 k), [(P35 a), (P36 b)]⟩ ?_
  rcases Bool.eq_false_or_eq_true (decide ((k : Int) < (List.length a.seats : Int))) with h7 | h7
  rw [h7]
  have g7 := of_decide_eq_true h7
  have n7 : ((k) < (List.length a.seats)) := by omega
  refine cnT ?_
  refine skn ?_
  refine EL.seq ?_
  refine EL.block ?_
  refine sdr 3 ⟨(P48 a k), [(P35 a), (P36 b)]⟩ ?_
  obtain ⟨a9, ha9⟩ : ∃ y, a.seats[((k : Int) : Int).toNat]? = some y := idx_ex ⟨by omega, by omega⟩
  have iha9 : a.seats[k]? = some a9 := by simpa using ha9
  have dha9 := drop_get iha9
  refine dwo (.pim [VI a9.promised.time, VI a9.promised.who, VI a9.kept.at_.time, VI a9.kept.at_.who, .v (.string a9.kept.data)] 0) [] [] ⟨(P49 a a9 k), [(P35 a), (P36 b)]⟩ (opE_iad Seat.cs a.seats (.s 58) (.s 59) 5 .i64 (k : Int) a9 (by kernel_rfl) (by kernel_rfl) (.inl rfl) rfl (by omega) ha9) ?_
  refine dwr 4 ⟨(P51 a a9 b k), [(P35 a), (P36 b)]⟩ ?_
  obtain ⟨a11, ha11⟩ : ∃ y, b.seats[((k : Int) : Int).toNat]? = some y := idx_ex ⟨by omega, by omega⟩
  have iha11 : b.seats[k]? = some a11 := by simpa using ha11
  have dha11 := drop_get iha11
  refine dwo (.pim [VI a11.promised.time, VI a11.promised.who, VI a11.kept.at_.time, VI a11.kept.at_.who, .v (.string a11.kept.data)] 0) [] [] ⟨(P52 a a11 a9 b k), [(P35 a), (P36 b)]⟩ (opE_iad Seat.cs b.seats (.s 63) (.s 64) 5 .i64 (k : Int) a11 (by kernel_rfl) (by kernel_rfl) (.inl rfl) rfl (by omega) ha11) ?_
  refine dwl 2 [2, 3, 5, 67] ⟨(67, .v (.bool (!((a9.promised.time == a11.promised.time) && ((a9.promised.who == a11.promised.who) && ((a9.kept.at_.time == a11.kept.at_.time) && ((a9.kept.at_.who == a11.kept.at_.who) && (strEq a9.kept.data a11.kept.data && true)))))))) :: (P46 k), [(P35 a), (P36 b)]⟩ ?_
  rcases Bool.eq_false_or_eq_true (((a9.promised.time == a11.promised.time) && ((a9.promised.who == a11.promised.who) && ((a9.kept.at_.time == a11.kept.at_.time) && ((a9.kept.at_.who == a11.kept.at_.who) && (strEq a9.kept.data a11.kept.data && true)))))) with h12 | h12
  rw [h12]
  have g12 : a9.promised.time = a11.promised.time ∧ a9.promised.who = a11.promised.who ∧ a9.kept.at_.time = a11.kept.at_.time ∧ a9.kept.at_.who = a11.kept.at_.who ∧ a9.kept.data = a11.kept.data := by simpa [strEq_iff] using h12
  refine cnF ?_
  refine EL.skip ?_
  refine inBlk_norm ?_
  refine thenL_norm ?_
  refine EL.reg0 ?_
  refine owr 3 ⟨(5, VI (IntKind.i64.wrap ((k : Int) + 1))) :: (56, VI (IntKind.i64.wrap ((k : Int) + 1))) :: (P53 k), [(P35 a), (P36 b)]⟩ ?_
  have e13 : IntKind.i64.wrap ((k : Int) + 1) = (k : Int) + 1 := wr64 (by omega)
  rw [e13]
  refine owe 0 ⟨(P54 k), [(P35 a), (P36 b)]⟩ ?_
  refine thenL_norm ?_
  refine round_end (live := [2, 3, 5]) (src := [.old 0 false, .old 1 false]) (es := []) (y := (fun (k : Nat) => (⟨(P46 k), [(P35 a), (P36 b)]⟩ : L3)) (k + 1)) ?_ trivial ?_ ⟨(k + 1), rfl, ?_, rfl⟩
  kernel_rfl
  omega
  focus (first | (exact ⟨by omega, by omega, same_next hsk (by assumption) (by assumption) (by simp only [u64_eq, Seat.ext_iff, Bid.ext_iff, Copy.ext_iff, Stamp.ext_iff, *, and_self, true_and] <;> omega)⟩))
  rw [h12]
  have g12 : ¬ (a9.promised.time = a11.promised.time ∧ a9.promised.who = a11.promised.who ∧ a9.kept.at_.time = a11.kept.at_.time ∧ a9.kept.at_.who = a11.kept.at_.who ∧ a9.kept.data = a11.kept.data) := fun ⟨q0, q1, q2, q3, q4⟩ => Bool.noConfusion ((show (((a9.promised.time == a11.promised.time) && ((a9.promised.who == a11.promised.who) && ((a9.kept.at_.time == a11.kept.at_.time) && ((a9.kept.at_.who == a11.kept.at_.who) && (strEq a9.kept.data a11.kept.data && true)))))) = true by first | (simp [q0, q1, q2, q3, q4, strEq_iff]; done) | (simp only [q0, q1, q2, q3, q4, beq_self_eq_true, Bool.and_self, Bool.and_true, Bool.true_and]; done)).symm.trans h12)
  refine cnT ?_
  refine srl 1 [4] ⟨[(4, .v (.bool false))], [(P35 a), (P36 b)]⟩ ?_
  refine EL.ret ?_
  refine inBlk_ret ?_
  refine thenL_ret ?_
  refine thenL_ret ?_
  refine inBlk_ret ?_
  refine thenL_ret ?_
  refine ⟨.inr rfl, .v (.bool false), by kernel_rfl, Ale.of_eq ?_⟩
  rotate_left
  rw [h7]
  have g7 := of_decide_eq_false h7
  have n7 : ¬ ((k) < (List.length a.seats)) := by omega
  refine cnF ?_
  refine EL.exit ?_
  refine thenL_exit ?_
  refine thenL_exit ?_
  refine inBlk_hit ?_
  refine thenL_norm ?_
  refine EL.seq ?_
  refine srl 1 [2, 3, 6] ⟨P55, [(P35 a), (P36 b)]⟩ ?_
  refine EL.block ?_
  refine EL.loopN (fun mM xX => ∃ (i : Nat), mM = a.bids.length - i ∧ (i ≤ a.bids.length ∧ a.bids.length = b.bids.length ∧ (∀ j, j < i → a.bids[j]? = b.bids[j]?)) ∧ xX = ⟨(P56 i), [(P35 a), (P36 b)]⟩) (y := (fun (i : Nat) => (⟨(P56 i), [(P35 a), (P36 b)]⟩ : L3)) 0) [2, 3, 6] [.old 0 false, .old 1 false] [] (by kernel_rfl) trivial ⟨0, rfl, by first | exact ⟨by omega, by omega, fun j hj => absurd hj (Nat.not_lt_zero _)⟩, rfl⟩ ?_
  rintro _ _ ⟨i, rfl, hI14, rfl⟩
  obtain ⟨hki, hlb, hsi⟩ := hI14
  refine EL.seq ?_
  refine srr 3 ⟨(P57 a i), [(P35 a), (P36 b)]⟩ ?_
  refine owo (VI (List.length a.bids : Int)) [] [] ⟨(71, VI (List.length a.bids : Int)) :: (P57 a i), [(P35 a), (P36 b)]⟩ (opE_len Bid.cs a.bids (.s 70) 8 (by kernel_rfl) (by kernel_rfl) (.inl rfl)) ?_
  refine owl 1 [2, 3, 6, 72] ⟨(72, .v (.bool (decide ((i : Int) < (List.length a.bids : Int))))) :: (P56 i), [(P35 a), (P36 b)]⟩ ?_
  rcases Bool.eq_false_or_eq_true (decide ((i : Int) < (List.length a.bids : Int))) with h15 | h15
  rw [h15]
  have g15 := of_decide_eq_true h15
  have n15 : ((i) < (List.length a.bids)) := by omega
  refine cnT ?_
  refine skn ?_
  refine EL.seq ?_
  refine EL.block ?_
  refine sdr 3 ⟨(P58 a i), [(P35 a), (P36 b)]⟩ ?_
  obtain ⟨a17, ha17⟩ : ∃ y, a.bids[((i : Int) : Int).toNat]? = some y := idx_ex ⟨by omega, by omega⟩
  have iha17 : a.bids[i]? = some a17 := by simpa using ha17
  have dha17 := drop_get iha17
  refine dwo (.pim [VI a17.time, VI a17.phase, .v (.string a17.own), .v (.string a17.value), VI a17.best.at_.time, VI a17.best.at_.who, .v (.string a17.best.data), .v (.int .u64 (a17.heard.n : Int))] 0) [] [] ⟨(P59 a a17 i), [(P35 a), (P36 b)]⟩ (opE_iad Bid.cs a.bids (.s 76) (.s 77) 8 .i64 (i : Int) a17 (by kernel_rfl) (by kernel_rfl) (.inl rfl) rfl (by omega) ha17) ?_
  refine dwr 4 ⟨(P61 a a17 b i), [(P35 a), (P36 b)]⟩ ?_
  obtain ⟨a19, ha19⟩ : ∃ y, b.bids[((i : Int) : Int).toNat]? = some y := idx_ex ⟨by omega, by omega⟩
  have iha19 : b.bids[i]? = some a19 := by simpa using ha19
  have dha19 := drop_get iha19
  refine dwo (.pim [VI a19.time, VI a19.phase, .v (.string a19.own), .v (.string a19.value), VI a19.best.at_.time, VI a19.best.at_.who, .v (.string a19.best.data), .v (.int .u64 (a19.heard.n : Int))] 0) [] [] ⟨(P62 a a17 a19 b i), [(P35 a), (P36 b)]⟩ (opE_iad Bid.cs b.bids (.s 81) (.s 82) 8 .i64 (i : Int) a19 (by kernel_rfl) (by kernel_rfl) (.inl rfl) rfl (by omega) ha19) ?_
  refine dwl 2 [2, 3, 6, 85] ⟨(85, .v (.bool (!((a17.time == a19.time) && ((a17.phase == a19.phase) && (strEq a17.own a19.own && (strEq a17.value a19.value && ((a17.best.at_.time == a19.best.at_.time) && ((a17.best.at_.who == a19.best.at_.who) && (strEq a17.best.data a19.best.data && (((a17.heard.n : Int) == (a19.heard.n : Int)) && true))))))))))) :: (P56 i), [(P35 a), (P36 b)]⟩ ?_
  rcases Bool.eq_false_or_eq_true (((a17.time == a19.time) && ((a17.phase == a19.phase) && (strEq a17.own a19.own && (strEq a17.value a19.value && ((a17.best.at_.time == a19.best.at_.time) && ((a17.best.at_.who == a19.best.at_.who) && (strEq a17.best.data a19.best.data && (((a17.heard.n : Int) == (a19.heard.n : Int)) && true))))))))) with h20 | h20
  rw [h20]
  have g20 : a17.time = a19.time ∧ a17.phase = a19.phase ∧ a17.own = a19.own ∧ a17.value = a19.value ∧ a17.best.at_.time = a19.best.at_.time ∧ a17.best.at_.who = a19.best.at_.who ∧ a17.best.data = a19.best.data ∧ (a17.heard.n : Int) = (a19.heard.n : Int) := by simpa [strEq_iff] using h20
  refine cnF ?_
  refine EL.skip ?_
  refine inBlk_norm ?_
  refine thenL_norm ?_
  refine EL.reg0 ?_
  refine owr 3 ⟨(6, VI (IntKind.i64.wrap ((i : Int) + 1))) :: (74, VI (IntKind.i64.wrap ((i : Int) + 1))) :: (P63 i), [(P35 a), (P36 b)]⟩ ?_
  have e21 : IntKind.i64.wrap ((i : Int) + 1) = (i : Int) + 1 := wr64 (by omega)
  rw [e21]
  refine owe 0 ⟨(P64 i), [(P35 a), (P36 b)]⟩ ?_
  refine thenL_norm ?_
  refine round_end (live := [2, 3, 6]) (src := [.old 0 false, .old 1 false]) (es := []) (y := (fun (i : Nat) => (⟨(P56 i), [(P35 a), (P36 b)]⟩ : L3)) (i + 1)) ?_ trivial ?_ ⟨(i + 1), rfl, ?_, rfl⟩
  kernel_rfl
  omega
  focus (first | (exact ⟨by omega, by omega, same_next hsi (by assumption) (by assumption) (by simp only [u64_eq, Seat.ext_iff, Bid.ext_iff, Copy.ext_iff, Stamp.ext_iff, *, and_self, true_and] <;> omega)⟩))
  rw [h20]
  have g20 : ¬ (a17.time = a19.time ∧ a17.phase = a19.phase ∧ a17.own = a19.own ∧ a17.value = a19.value ∧ a17.best.at_.time = a19.best.at_.time ∧ a17.best.at_.who = a19.best.at_.who ∧ a17.best.data = a19.best.data ∧ (a17.heard.n : Int) = (a19.heard.n : Int)) := fun ⟨q0, q1, q2, q3, q4, q5, q6, q7⟩ => Bool.noConfusion ((show (((a17.time == a19.time) && ((a17.phase == a19.phase) && (strEq a17.own a19.own && (strEq a17.value a19.value && ((a17.best.at_.time == a19.best.at_.time) && ((a17.best.at_.who == a19.best.at_.who) && (strEq a17.best.data a19.best.data && (((a17.heard.n : Int) == (a19.heard.n : Int)) && true))))))))) = true by first | (simp [q0, q1, q2, q3, q4, q5, q6, q7, strEq_iff]; done) | (simp only [q0, q1, q2, q3, q4, q5, q6, q7, beq_self_eq_true, Bool.and_self, Bool.and_true, Bool.true_and]; done)).symm.trans h20)
  refine cnT ?_
  refine srl 1 [4] ⟨[(4, .v (.bool false))], [(P35 a), (P36 b)]⟩ ?_
  refine EL.ret ?_
  refine inBlk_ret ?_
  refine thenL_ret ?_
  refine thenL_ret ?_
  refine inBlk_ret ?_
  refine thenL_ret ?_
  refine ⟨.inr rfl, .v (.bool false), by kernel_rfl, Ale.of_eq ?_⟩
  rotate_left
  rw [h15]
  have g15 := of_decide_eq_false h15
  have n15 : ¬ ((i) < (List.length a.bids)) := by omega
  refine cnF ?_
  refine EL.exit ?_
  refine thenL_exit ?_
  refine thenL_exit ?_
  refine inBlk_hit ?_
  refine thenL_norm ?_
  refine srl 1 [4] ⟨[(4, .v (.bool true))], [(P35 a), (P36 b)]⟩ ?_
  refine EL.ret ?_
  refine ⟨.inr rfl, .v (.bool true), by kernel_rfl, Ale.of_eq ?_⟩
  rotate_left
  rw [h5]
  have g5 := of_decide_eq_false h5
  refine cnT ?_
  refine srl 1 [4] ⟨[(4, .v (.bool false))], [(P35 a), (P36 b)]⟩ ?_
  refine rtr ?_
  refine ⟨.inr rfl, .v (.bool false), by kernel_rfl, Ale.of_eq ?_⟩
  rotate_left
  rw [h1]
  have g1 := of_decide_eq_false h1
  refine owl 34 [2, 3, 49] ⟨P39, [(P35 a), (P36 b)]⟩ ?_
  refine cnT ?_
  refine srl 1 [4] ⟨[(4, .v (.bool false))], [(P35 a), (P36 b)]⟩ ?_
  refine rtr ?_
  refine ⟨.inr rfl, .v (.bool false), by kernel_rfl, Ale.of_eq ?_⟩
  rotate_left
  all_goals ((refine congrArg (fun b => AV.v (Value.bool b)) ?_; first | (rw [eq_comm, decide_eq_true_eq]; exact ⟨of_decide_eq_true (by assumption), by assumption, same_all hls (fun j hj => hsk j (by omega)), same_all hlb (fun j hj => hsi j (by omega)), of_decide_eq_true (by assumption)⟩) | (rw [eq_comm, decide_eq_false_iff_not]; rintro ⟨e1, e2, e3, e4, e5⟩; first | contradiction | (exact absurd e1 (of_decide_eq_false (by assumption))) | (exact absurd e5 (of_decide_eq_false (by assumption))) | (have e6 := congrArg List.length e3; have e7 := congrArg List.length e4; omega) | (have e8 := same_not ‹a.seats[k]? = some _› ‹b.seats[k]? = some _› e3; subst e8; simp at *; done) | (have e8 := same_not ‹a.bids[i]? = some _› ‹b.bids[i]? = some _› e4; subst e8; simp at *; done))))
end Go.Proofs.YtligepciannclaaDoor
set_option maxRecDepth 100000
set_option maxHeartbeats 4000000
set_option linter.unusedVariables false
set_option linter.unusedSimpArgs false
namespace Go.Proofs.YtligepciannclaaDoor
theorem Synod.new_big {v : Voters} (h : v.weights.length ≤ 9223372036854775807) : (Synod.newP v).1.Big := by
  unfold Synod.newP
  split
  · exact (Synod.new_ok ‹_›).big
  · exact Synod.zero_big
theorem Synod.run_cases (s : Synod) (l : List Step) : (s.runP l).2.2 = 0 ∧ s.Ok ∧ l.length ≤ 200 ∧ s.runP l = ((s.runGo l 0).1, (s.runGo l 0).2, 0) ∧ (s.runP l).1.Ok ∨ (s.runP l).2.2 ≠ 0 ∧ (s.runP l).1 = Synod.zero ∧ (s.runP l).2.1 = 0 := by
  by_cases h : s.checkE = 0
  · by_cases h2 : 200 < l.length
    · rw [Synod.runP_2 h h2]; right; simp
    · rw [Synod.runP_0 h h2]; left; exact ⟨rfl, Synod.check_0 h, by omega, rfl, (Synod.run_go l 0 (Synod.check_0 h)).2⟩
  · rw [Synod.runP_n h]; right; exact ⟨h, rfl, rfl⟩
theorem Synod.run_big (s : Synod) (l : List Step) : (s.runP l).1.Big := by
  rcases Synod.run_cases s l with ⟨_, _, _, _, h⟩ | ⟨_, h, _⟩
  · exact h.big
  · rw [h]; exact Synod.zero_big
theorem Synod.many_zero {s : Synod} (h : s.manyP.2 ≠ 0) : s.manyP.1 = Synod.zero := by
  unfold Synod.manyP at h ⊢
  split at h
  · rename_i h1; rw [if_pos h1]
  · exact absurd rfl h
theorem Synod.bid_zero {s : Synod} {t : Int} {d : ByteArray} (h : (s.bidP t d).2 ≠ 0) : (s.bidP t d).1 = Synod.zero := by
  unfold Synod.bidP at h ⊢
  by_cases h1 : s.bids.length = 31
  · rw [if_pos h1]
  · rw [if_neg h1] at h ⊢
    by_cases h2 : (beginP s.voters s.bids.length t d).2.2 ≠ 0
    · rw [if_pos h2]
    · rw [if_neg h2] at h ⊢; exact Synod.many_zero h
theorem Synod.step_zero {s : Synod} {k n : Int} {d : ByteArray} (h : (s.stepP k n d).2 ≠ 0) : (s.stepP k n d).1 = Synod.zero := by
  unfold Synod.stepP at h ⊢
  by_cases h1 : ¬ (3 ≤ k ∧ k ≤ 6)
  · rw [if_pos h1]
  · rw [if_neg h1] at h ⊢
    by_cases h2 : k ≠ 6 ∧ d.size ≠ 0
    · rw [if_pos h2]
    · rw [if_neg h2] at h ⊢
      by_cases h3 : k = 6
      · rw [if_pos h3] at h ⊢; exact Synod.bid_zero h
      · rw [if_neg h3] at h ⊢
        by_cases h4 : ¬ (0 ≤ n ∧ n < s.votes.length)
        · rw [if_pos h4]
        · rw [if_neg h4] at h ⊢
          cases hv : s.votes[n.toNat]? with
          | none => rfl
          | some v =>
            rw [hv] at h
            dsimp only at h ⊢
            split
            · rename_i h5; rw [if_pos h5] at h; exact Synod.many_zero h
            · rename_i h5; rw [if_neg h5] at h
              split
              · rename_i h6; rw [if_pos h6] at h; exact Synod.many_zero h
              · rename_i h6; rw [if_neg h6] at h; exact Synod.many_zero h
theorem Synod.do_cases (s : Synod) (k n : Int) (d : ByteArray) : (s.doP k n d).2 = 0 ∧ s.Ok ∧ s.doP k n d = s.stepP k n d ∧ (s.doP k n d).1.Ok ∨ (s.doP k n d).2 ≠ 0 ∧ (s.doP k n d).1 = Synod.zero := by
  by_cases h : s.checkE = 0
  · rw [Synod.doP_0 h]
    by_cases h2 : (s.stepP k n d).2 = 0
    · exact .inl ⟨h2, Synod.check_0 h, rfl, Synod.step_ok (Synod.check_0 h) h2⟩
    · exact .inr ⟨h2, Synod.step_zero h2⟩
  · rw [Synod.doP_n h]; exact .inr ⟨h, rfl⟩
theorem Synod.do_big (s : Synod) (k n : Int) (d : ByteArray) : (s.doP k n d).1.Big := by
  rcases Synod.do_cases s k n d with ⟨_, _, _, h⟩ | ⟨_, h⟩
  · exact h.big
  · rw [h]; exact Synod.zero_big
def Synod.satP (v : Voters) (l : List Step) : Synod × Bool :=
  if (Synod.newP v).2 = 0 then (((Synod.newP v).1.runP l).1, ((Synod.newP v).1.runP l).2.2 == 0) else ((Synod.newP v).1, false)
theorem Synod.sat_big {v : Voters} {l : List Step} (h : v.weights.length ≤ 9223372036854775807) : (Synod.satP v l).1.Big := by
  unfold Synod.satP
  split
  · exact Synod.run_big _ _
  · exact Synod.new_big h
section
variable (l : List Step) (v : Voters)
end
section
variable (k : Nat) (n : Int) (out : List Step)
abbrev T17 : LS := [(0, VI n), (3, .own 0 3 0 (List.length out)), (4, VI (k : Int))]
abbrev T18 : LB := [some ⟨3, (out.map Step.cs)⟩, some ⟨3, [[VI 3, VI 0, .v (.string (⟨#[]⟩))]]⟩]
abbrev T19 : LS := (12, .own 1 3 0 1) :: (11, .agg [VI 3, VI 0, .v (.string (⟨#[]⟩))]) :: (10, .own 0 3 0 (List.length out)) :: (7, .v (.bool true)) :: (T17 k n out)
abbrev T20 : LB := [none, some ⟨3, [[VI 3, VI 0, .v (.string (⟨#[]⟩))]]⟩, some ⟨3, ((out ++ ([(⟨3, 0, ⟨#[]⟩⟩ : Step)])).map Step.cs)⟩]
abbrev T21 : LS := (13, .own 2 3 0 (List.length (out ++ ([(⟨3, 0, ⟨#[]⟩⟩ : Step)])))) :: (T19 k n out)
abbrev T22 : LS := [(3, .own 2 3 0 (List.length (out ++ ([(⟨3, 0, ⟨#[]⟩⟩ : Step)])))), (13, .own 2 3 0 (List.length (out ++ ([(⟨3, 0, ⟨#[]⟩⟩ : Step)])))), (12, .own 1 3 0 1), (11, .agg [VI 3, VI 0, .v (.string (⟨#[]⟩))]), (10, .own 0 3 0 (List.length out)), (7, .v (.bool true)), (0, VI n), (4, VI (k : Int))]
abbrev T23 : LS := [(8, VI (k : Int)), (3, .own 2 3 0 (List.length (out ++ ([(⟨3, 0, ⟨#[]⟩⟩ : Step)])))), (13, .own 2 3 0 (List.length (out ++ ([(⟨3, 0, ⟨#[]⟩⟩ : Step)])))), (12, .own 1 3 0 1), (11, .agg [VI 3, VI 0, .v (.string (⟨#[]⟩))]), (10, .own 0 3 0 (List.length out)), (7, .v (.bool true)), (0, VI n)]
abbrev T24 : LS := (4, VI ((k : Int) + 1)) :: (9, VI ((k : Int) + 1)) :: (T23 k n out)
end
theorem passes_fo (n : Int) (hn : 0 ≤ n ∧ n ≤ 1000) : Fo Tryd.prog 35 [VI n] 3 ((List.replicate (Int.toNat n) (⟨3, 0, ⟨#[]⟩⟩ : Step)).map Step.cs) := by
  refine fo_of ?_
  rw [List.length_map]
  refine fi_walkW (m := []) (m' := [some ⟨3, ((List.replicate (Int.toNat n) (⟨3, 0, ⟨#[]⟩⟩ : Step)).map Step.cs)⟩]) F35_ok (of_decide_eq_true (by kernel_rfl)) ?_
  refine srl 1 [0] ⟨[(0, VI n)], []⟩ ?_
  refine srl 1 [0, 3] ⟨[(3, .emp), (0, VI n)], []⟩ ?_
  refine EL.seq ?_
  refine srl 1 [0, 3, 4] ⟨[(4, VI 0), (3, .emp), (0, VI n)], []⟩ ?_
  refine EL.block ?_
  refine EL.loopN (fun mM xX => ∃ (k : Nat) (out : List Step), mM = n.toNat - k ∧ (k ≤ n.toNat ∧ out = List.replicate k (⟨3, 0, ⟨#[]⟩⟩ : Step)) ∧ xX = ⟨(T17 k n out), [some ⟨3, (out.map Step.cs)⟩]⟩) (y := (fun (k : Nat) (out : List Step) => (⟨(T17 k n out), [some ⟨3, (out.map Step.cs)⟩]⟩ : L3)) 0 []) [0, 3, 4] [.new 3] [(3, 0)] (by kernel_rfl) trivial ⟨0, [], rfl, by simp, rfl⟩ ?_
  rintro _ _ ⟨k, out, rfl, hI1, rfl⟩
  obtain ⟨hk, ho⟩ := hI1
  have hol : out.length = k := by rw [ho]; simp
  refine EL.seq ?_
  refine srl 3 [0, 3, 4, 7] ⟨(7, .v (.bool (decide ((k : Int) < n)))) :: (T17 k n out), [some ⟨3, (out.map Step.cs)⟩]⟩ ?_
  rcases Bool.eq_false_or_eq_true (decide ((k : Int) < n)) with h2 | h2
  rw [h2]
  have g2 := of_decide_eq_true h2
  refine cnT ?_
  refine skn ?_
  refine EL.seq ?_
  refine EL.block ?_
  refine EL.reg0 ?_
  refine owr 3 ⟨(T19 k n out), (T18 out)⟩ ?_
  refine owo (.own 2 3 0 (List.length (out ++ ([(⟨3, 0, ⟨#[]⟩⟩ : Step)])))) [(0, none), (2, some ⟨3, ((out ++ ([(⟨3, 0, ⟨#[]⟩⟩ : Step)])).map Step.cs)⟩)] [1, 0] ⟨(T21 k n out), (T20 out)⟩ (opE_appO Step.cs out ([(⟨3, 0, ⟨#[]⟩⟩ : Step)]) (.s 10) (.s 12) 3 32 0 (.own 1 3 0 1) _ (by kernel_rfl) (by kernel_rfl) rfl (by kernel_rfl) rfl (.own (els := [[VI 3, VI 0, .v (.string (⟨#[]⟩))]]) (by kernel_rfl) (by kernel_rfl) (of_decide_eq_true (by kernel_rfl))) (by simp; omega)) ?_
  refine owe 1 ⟨(T22 k n out), (T20 out)⟩ ?_
  refine inBlk_norm ?_
  refine thenL_norm ?_
  refine EL.reg0 ?_
  refine owr 3 ⟨(4, VI (IntKind.i64.wrap ((k : Int) + 1))) :: (9, VI (IntKind.i64.wrap ((k : Int) + 1))) :: (T23 k n out), (T20 out)⟩ ?_
  have e3 : IntKind.i64.wrap ((k : Int) + 1) = (k : Int) + 1 := wr64 (by omega)
  rw [e3]
  refine owe 0 ⟨(T24 k n out), (T20 out)⟩ ?_
  refine thenL_norm ?_
  refine round_end (live := [0, 3, 4]) (src := [.old 2 true]) (es := []) (y := (fun (k : Nat) (out : List Step) => (⟨(T17 k n out), [some ⟨3, (out.map Step.cs)⟩]⟩ : L3)) (k + 1) (out ++ ([(⟨3, 0, ⟨#[]⟩⟩ : Step)]))) ?_ ⟨pq 3 Step.cs (out ++ ([(⟨3, 0, ⟨#[]⟩⟩ : Step)])), trivial⟩ ?_ ⟨(k + 1), (out ++ ([(⟨3, 0, ⟨#[]⟩⟩ : Step)])), rfl, ?_, rfl⟩
  kernel_rfl
  omega
  focus (refine ⟨by omega, ?_⟩; rw [ho, List.replicate_succ'])
  rw [h2]
  have g2 := of_decide_eq_false h2
  refine cnF ?_
  refine EL.exit ?_
  refine thenL_exit ?_
  refine thenL_exit ?_
  refine inBlk_hit ?_
  refine thenL_norm ?_
  refine srl 2 [2] ⟨[(2, .own 0 3 0 (List.length out))], [some ⟨3, (out.map Step.cs)⟩]⟩ ?_
  refine EL.ret ?_
  (have hkn : k = n.toNat := (by omega)); rw [hkn] at ho; rw [← ho]
  refine ⟨.inr rfl, ⟨[(2, .own 0 3 0 (List.length out))], [some ⟨3, (out.map Step.cs)⟩]⟩, norm_le (live := [2]) (src := [.old 0 true]) (es := []) (by kernel_rfl) ⟨pq 3 Step.cs out, trivial⟩, by kernel_rfl, rfl⟩
abbrev T25 : Voters := (⟨[1, 1, 1], 2⟩ : Voters)
abbrev T26 : AV := .agg [.lst 1 (((((Synod.newP T25).1).voters).weights).map cI), VI ((((Synod.newP T25).1).voters).need), .lst 5 ((((Synod.newP T25).1).seats).map Seat.cs), .lst 8 ((((Synod.newP T25).1).bids).map Bid.cs), .lst 6 ((((Synod.newP T25).1).votes).map Vote.cs)]
abbrev T27 : OB := some ⟨5, [[.lst 1 (((((Synod.newP T25).1).voters).weights).map cI), VI ((((Synod.newP T25).1).voters).need), .lst 5 ((((Synod.newP T25).1).seats).map Seat.cs), .lst 8 ((((Synod.newP T25).1).bids).map Bid.cs), .lst 6 ((((Synod.newP T25).1).votes).map Vote.cs)]]⟩
abbrev T28 : LS := [(15, .own 1 3 0 1), (14, .agg [VI 6, VI 1, .v (.string (⟨#[97]⟩))]), (2, VI ((Synod.newP T25).2)), (1, .ref 0 5 0 0)]
abbrev T29 : OB := some ⟨3, ((List.replicate (Int.toNat 12) (⟨3, 0, ⟨#[]⟩⟩ : Step)).map Step.cs)⟩
abbrev T30 : LB := [T27, some ⟨3, [[VI 6, VI 1, .v (.string (⟨#[97]⟩))]]⟩, T29]
abbrev T31 : LS := (16, .own 2 3 0 (List.length (List.replicate (Int.toNat 12) (⟨3, 0, ⟨#[]⟩⟩ : Step)))) :: T28
abbrev T32 : OB := some ⟨3, ((([(⟨6, 1, ⟨#[97]⟩⟩ : Step)]) ++ (List.replicate (Int.toNat 12) (⟨3, 0, ⟨#[]⟩⟩ : Step))).map Step.cs)⟩
abbrev T33 : LS := (17, .own 3 3 0 (List.length (([(⟨6, 1, ⟨#[97]⟩⟩ : Step)]) ++ (List.replicate (Int.toNat 12) (⟨3, 0, ⟨#[]⟩⟩ : Step))))) :: T31
abbrev T34 : LS := [(3, .own 3 3 0 (List.length (([(⟨6, 1, ⟨#[97]⟩⟩ : Step)]) ++ (List.replicate (Int.toNat 12) (⟨3, 0, ⟨#[]⟩⟩ : Step))))), (2, VI ((Synod.newP T25).2)), (1, .ref 0 5 0 0)]
abbrev T35 : LB := [T27, none, T29, T32, some ⟨3, [[VI 6, VI 5, .v (.string (⟨#[98]⟩))]]⟩]
abbrev T36 : LS := (22, .own 4 3 0 1) :: (21, .agg [VI 6, VI 5, .v (.string (⟨#[98]⟩))]) :: (20, .own 3 3 0 (List.length (([(⟨6, 1, ⟨#[97]⟩⟩ : Step)]) ++ (List.replicate (Int.toNat 12) (⟨3, 0, ⟨#[]⟩⟩ : Step))))) :: (19, T26) :: T34
abbrev T37 : OB := some ⟨3, (((([(⟨6, 1, ⟨#[97]⟩⟩ : Step)]) ++ (List.replicate (Int.toNat 12) (⟨3, 0, ⟨#[]⟩⟩ : Step))) ++ ([(⟨6, 5, ⟨#[98]⟩⟩ : Step)])).map Step.cs)⟩
abbrev T38 : LB := [T27, none, T29, none, some ⟨3, [[VI 6, VI 5, .v (.string (⟨#[98]⟩))]]⟩, T37]
abbrev T39 : LS := (23, .own 5 3 0 (List.length ((([(⟨6, 1, ⟨#[97]⟩⟩ : Step)]) ++ (List.replicate (Int.toNat 12) (⟨3, 0, ⟨#[]⟩⟩ : Step))) ++ ([(⟨6, 5, ⟨#[98]⟩⟩ : Step)])))) :: T36
abbrev T40 : LB := [T27, none, T29, none, some ⟨3, [[VI 6, VI 5, .v (.string (⟨#[98]⟩))]]⟩, T37, T29]
abbrev T41 : LS := (24, .own 6 3 0 (List.length (List.replicate (Int.toNat 12) (⟨3, 0, ⟨#[]⟩⟩ : Step)))) :: T39
abbrev T42 : OB := some ⟨3, ((((([(⟨6, 1, ⟨#[97]⟩⟩ : Step)]) ++ (List.replicate (Int.toNat 12) (⟨3, 0, ⟨#[]⟩⟩ : Step))) ++ ([(⟨6, 5, ⟨#[98]⟩⟩ : Step)])) ++ (List.replicate (Int.toNat 12) (⟨3, 0, ⟨#[]⟩⟩ : Step))).map Step.cs)⟩
abbrev T43 : LB := [T27, none, T29, none, some ⟨3, [[VI 6, VI 5, .v (.string (⟨#[98]⟩))]]⟩, none, T29, T42]
abbrev T44 : LS := (25, .own 7 3 0 (List.length (((([(⟨6, 1, ⟨#[97]⟩⟩ : Step)]) ++ (List.replicate (Int.toNat 12) (⟨3, 0, ⟨#[]⟩⟩ : Step))) ++ ([(⟨6, 5, ⟨#[98]⟩⟩ : Step)])) ++ (List.replicate (Int.toNat 12) (⟨3, 0, ⟨#[]⟩⟩ : Step))))) :: T41
abbrev T45 : Synod := (((Synod.newP T25).1).runP (((([(⟨6, 1, ⟨#[97]⟩⟩ : Step)]) ++ (List.replicate (Int.toNat 12) (⟨3, 0, ⟨#[]⟩⟩ : Step))) ++ ([(⟨6, 5, ⟨#[98]⟩⟩ : Step)])) ++ (List.replicate (Int.toNat 12) (⟨3, 0, ⟨#[]⟩⟩ : Step)))).1
abbrev T46 : AV := .agg [.lst 1 (T45.voters.weights.map cI), VI T45.voters.need, .lst 5 (T45.seats.map Seat.cs), .lst 8 (T45.bids.map Bid.cs), .lst 6 (T45.votes.map Vote.cs)]
abbrev T47 : LB := [T27, none, T29, none, some ⟨3, [[VI 6, VI 5, .v (.string (⟨#[98]⟩))]]⟩, none, T29, none]
abbrev T48 : LS := (26, .tup [T46, VI ((((Synod.newP T25).1).runP (((([(⟨6, 1, ⟨#[97]⟩⟩ : Step)]) ++ (List.replicate (Int.toNat 12) (⟨3, 0, ⟨#[]⟩⟩ : Step))) ++ ([(⟨6, 5, ⟨#[98]⟩⟩ : Step)])) ++ (List.replicate (Int.toNat 12) (⟨3, 0, ⟨#[]⟩⟩ : Step)))).2.1), VI ((((Synod.newP T25).1).runP (((([(⟨6, 1, ⟨#[97]⟩⟩ : Step)]) ++ (List.replicate (Int.toNat 12) (⟨3, 0, ⟨#[]⟩⟩ : Step))) ++ ([(⟨6, 5, ⟨#[98]⟩⟩ : Step)])) ++ (List.replicate (Int.toNat 12) (⟨3, 0, ⟨#[]⟩⟩ : Step)))).2.2)]) :: T44
abbrev T49 : OB := some ⟨5, [[.lst 1 (T45.voters.weights.map cI), VI T45.voters.need, .lst 5 (T45.seats.map Seat.cs), .lst 8 (T45.bids.map Bid.cs), .lst 6 (T45.votes.map Vote.cs)]]⟩
abbrev T50 : LB := [T27, none, T29, none, some ⟨3, [[VI 6, VI 5, .v (.string (⟨#[98]⟩))]]⟩, none, T29, none, T49]
abbrev T51 : LS := [(6, VI ((((Synod.newP T25).1).runP (((([(⟨6, 1, ⟨#[97]⟩⟩ : Step)]) ++ (List.replicate (Int.toNat 12) (⟨3, 0, ⟨#[]⟩⟩ : Step))) ++ ([(⟨6, 5, ⟨#[98]⟩⟩ : Step)])) ++ (List.replicate (Int.toNat 12) (⟨3, 0, ⟨#[]⟩⟩ : Step)))).2.2)), (5, VI ((((Synod.newP T25).1).runP (((([(⟨6, 1, ⟨#[97]⟩⟩ : Step)]) ++ (List.replicate (Int.toNat 12) (⟨3, 0, ⟨#[]⟩⟩ : Step))) ++ ([(⟨6, 5, ⟨#[98]⟩⟩ : Step)])) ++ (List.replicate (Int.toNat 12) (⟨3, 0, ⟨#[]⟩⟩ : Step)))).2.1)), (4, .ref 8 5 0 0), (2, VI ((Synod.newP T25).2)), (1, .ref 0 5 0 0)]
abbrev T52 : LS := (32, .agg [VI 1, VI 0, .v (.string (⟨#[]⟩))]) :: (31, T26) :: T51
abbrev T53 : Synod := (((Synod.newP T25).1).doP (⟨1, 0, ⟨#[]⟩⟩ : Step).kind (⟨1, 0, ⟨#[]⟩⟩ : Step).n (⟨1, 0, ⟨#[]⟩⟩ : Step).data).1
abbrev T54 : AV := .agg [.lst 1 (T53.voters.weights.map cI), VI T53.voters.need, .lst 5 (T53.seats.map Seat.cs), .lst 8 (T53.bids.map Bid.cs), .lst 6 (T53.votes.map Vote.cs)]
abbrev T55 : LS := (33, .tup [T54, VI ((((Synod.newP T25).1).doP (⟨1, 0, ⟨#[]⟩⟩ : Step).kind (⟨1, 0, ⟨#[]⟩⟩ : Step).n (⟨1, 0, ⟨#[]⟩⟩ : Step).data).2)]) :: T52
abbrev T56 : OB := some ⟨5, [[.lst 1 (T53.voters.weights.map cI), VI T53.voters.need, .lst 5 (T53.seats.map Seat.cs), .lst 8 (T53.bids.map Bid.cs), .lst 6 (T53.votes.map Vote.cs)]]⟩
abbrev T57 : LB := [T27, none, T29, none, some ⟨3, [[VI 6, VI 5, .v (.string (⟨#[98]⟩))]]⟩, none, T29, none, T49, T56]
abbrev T58 : LS := (8, VI ((((Synod.newP T25).1).doP (⟨1, 0, ⟨#[]⟩⟩ : Step).kind (⟨1, 0, ⟨#[]⟩⟩ : Step).n (⟨1, 0, ⟨#[]⟩⟩ : Step).data).2)) :: T51
abbrev T59 : LS := (39, VI ((((Synod.newP T25).1).runP (((([(⟨6, 1, ⟨#[97]⟩⟩ : Step)]) ++ (List.replicate (Int.toNat 12) (⟨3, 0, ⟨#[]⟩⟩ : Step))) ++ ([(⟨6, 5, ⟨#[98]⟩⟩ : Step)])) ++ (List.replicate (Int.toNat 12) (⟨3, 0, ⟨#[]⟩⟩ : Step)))).2.2)) :: (38, .v (.bool true)) :: (37, .v (.bool true)) :: (36, VI ((Synod.newP T25).2)) :: T58
abbrev T60 : LS := (43, VI ((((Synod.newP T25).1).runP (((([(⟨6, 1, ⟨#[97]⟩⟩ : Step)]) ++ (List.replicate (Int.toNat 12) (⟨3, 0, ⟨#[]⟩⟩ : Step))) ++ ([(⟨6, 5, ⟨#[98]⟩⟩ : Step)])) ++ (List.replicate (Int.toNat 12) (⟨3, 0, ⟨#[]⟩⟩ : Step)))).2.1)) :: (42, .v (.bool true)) :: (41, .v (.bool true)) :: (40, .v (.bool true)) :: T59
abbrev T61 : LS := (48, .lst 8 (T45.bids.map Bid.cs)) :: (47, .ref 8 5 0 3) :: (46, .v (.bool true)) :: (45, .v (.bool true)) :: (44, .v (.bool true)) :: T60
abbrev T62 : Bid := List.getD T45.bids (Int.toNat 0) (⟨0, 0, ⟨#[]⟩, ⟨#[]⟩, (⟨(⟨0, 0⟩ : Stamp), ⟨#[]⟩⟩ : Copy), ⟨0, by decide⟩⟩ : Bid)
abbrev T63 : LS := (54, .lst 8 (T45.bids.map Bid.cs)) :: (53, .ref 8 5 0 3) :: (52, .v (.bool true)) :: (51, .v (.bool true)) :: (50, .v (.bool true)) :: (49, VI (List.length T45.bids : Int)) :: T61
abbrev T64 : LS := (55, .pim [VI T62.time, VI T62.phase, .v (.string T62.own), .v (.string T62.value), VI T62.best.at_.time, VI T62.best.at_.who, .v (.string T62.best.data), .v (.int .u64 (T62.heard.n : Int))] 0) :: T63
abbrev T65 : LS := (57, VI T62.phase) :: (56, .pim [VI T62.time, VI T62.phase, .v (.string T62.own), .v (.string T62.value), VI T62.best.at_.time, VI T62.best.at_.who, .v (.string T62.best.data), .v (.int .u64 (T62.heard.n : Int))] 1) :: T64
abbrev T66 : Bid := List.getD T45.bids (Int.toNat 1) (⟨0, 0, ⟨#[]⟩, ⟨#[]⟩, (⟨(⟨0, 0⟩ : Stamp), ⟨#[]⟩⟩ : Copy), ⟨0, by decide⟩⟩ : Bid)
abbrev T67 : LS := (62, .lst 8 (T45.bids.map Bid.cs)) :: (61, .ref 8 5 0 3) :: (60, .v (.bool true)) :: (59, .v (.bool true)) :: (58, .v (.bool true)) :: T65
abbrev T68 : LS := (63, .pim [VI T66.time, VI T66.phase, .v (.string T66.own), .v (.string T66.value), VI T66.best.at_.time, VI T66.best.at_.who, .v (.string T66.best.data), .v (.int .u64 (T66.heard.n : Int))] 0) :: T67
abbrev T69 : LS := (65, VI T66.phase) :: (64, .pim [VI T66.time, VI T66.phase, .v (.string T66.own), .v (.string T66.value), VI T66.best.at_.time, VI T66.best.at_.who, .v (.string T66.best.data), .v (.int .u64 (T66.heard.n : Int))] 1) :: T68
abbrev T70 : LS := (70, .lst 8 (T45.bids.map Bid.cs)) :: (69, .ref 8 5 0 3) :: (68, .v (.bool true)) :: (67, .v (.bool true)) :: (66, .v (.bool true)) :: T69
abbrev T71 : LS := (71, .pim [VI T66.time, VI T66.phase, .v (.string T66.own), .v (.string T66.value), VI T66.best.at_.time, VI T66.best.at_.who, .v (.string T66.best.data), .v (.int .u64 (T66.heard.n : Int))] 0) :: T70
abbrev T72 : LS := (73, .v (.string T66.value)) :: (72, .pim [VI T66.time, VI T66.phase, .v (.string T66.own), .v (.string T66.value), VI T66.best.at_.time, VI T66.best.at_.who, .v (.string T66.best.data), .v (.int .u64 (T66.heard.n : Int))] 3) :: T71
abbrev T73 : LS := (78, .lst 6 (T45.votes.map Vote.cs)) :: (77, .ref 8 5 0 4) :: (76, .v (.bool true)) :: (75, .v (.bool true)) :: (74, .v (.bool true)) :: T72
abbrev T74 : LS := (83, VI ((((Synod.newP T25).1).doP (⟨1, 0, ⟨#[]⟩⟩ : Step).kind (⟨1, 0, ⟨#[]⟩⟩ : Step).n (⟨1, 0, ⟨#[]⟩⟩ : Step).data).2)) :: (82, .v (.bool true)) :: (81, .v (.bool true)) :: (80, .v (.bool true)) :: (79, VI (List.length T45.votes : Int)) :: T73
abbrev T75 : LS := (87, T26) :: (86, .v (.bool true)) :: (85, .v (.bool true)) :: (84, .v (.bool true)) :: T74
theorem sbegun_fn : Fn Tryd.prog 16 [] (.v (.bool true)) := by
  refine fn_walkW F16_ok (of_decide_eq_true (by kernel_rfl)) ?_
  refine srl 1 [] ⟨[], []⟩ ?_
  refine EL.sreg ?_
  refine owf [] ⟨[(10, .agg [.lst 1 (T25.weights.map cI), VI T25.need])], []⟩ F34_call (three_fn) ?_
  refine owf [.agg [.lst 1 (T25.weights.map cI), VI T25.need]] ⟨[(11, .tup [T26, VI ((Synod.newP T25).2)]), (10, .agg [.lst 1 (T25.weights.map cI), VI T25.need])], []⟩ F12_call (new_fn T25 (by first | assumption | decide)) ?_
  refine owl 6 [1, 2] ⟨[(2, VI ((Synod.newP T25).2)), (1, .ref 0 5 0 0)], [T27]⟩ ?_
  refine srr 2 ⟨T28, [T27, some ⟨3, [[VI 6, VI 1, .v (.string (⟨#[97]⟩))]]⟩]⟩ ?_
  refine OW.fo (ar := [VI 12]) (fe := Step.cs) (xs := (List.replicate (Int.toNat 12) (⟨3, 0, ⟨#[]⟩⟩ : Step))) (x' := ⟨T31, T30⟩) (by kernel_rfl) (by kernel_rfl) F35_call (passes_fo 12 (by first | omega | decide)) (by intro y; kernel_rfl) (by kernel_rfl) (by kernel_rfl) ?_
  refine owo (.own 3 3 0 (List.length (([(⟨6, 1, ⟨#[97]⟩⟩ : Step)]) ++ (List.replicate (Int.toNat 12) (⟨3, 0, ⟨#[]⟩⟩ : Step))))) [(1, none), (3, some ⟨3, ((([(⟨6, 1, ⟨#[97]⟩⟩ : Step)]) ++ (List.replicate (Int.toNat 12) (⟨3, 0, ⟨#[]⟩⟩ : Step))).map Step.cs)⟩)] [2, 1] ⟨T33, [T27, none, T29, T32]⟩ (opE_appO Step.cs ([(⟨6, 1, ⟨#[97]⟩⟩ : Step)]) (List.replicate (Int.toNat 12) (⟨3, 0, ⟨#[]⟩⟩ : Step)) (.s 15) (.s 16) 3 32 1 (.own 2 3 0 (List.length (List.replicate (Int.toNat 12) (⟨3, 0, ⟨#[]⟩⟩ : Step)))) _ (by kernel_rfl) (by kernel_rfl) rfl (by kernel_rfl) rfl (.own (els := ((List.replicate (Int.toNat 12) (⟨3, 0, ⟨#[]⟩⟩ : Step)).map Step.cs)) (by kernel_rfl) (by simp) (by simp)) (by first | (simp; done) | (simp; omega))) ?_
  refine owl 1 [1, 2, 3] ⟨T34, [T27, none, T29, T32]⟩ ?_
  refine sdr 4 ⟨T36, T35⟩ ?_
  refine dwo (.own 5 3 0 (List.length ((([(⟨6, 1, ⟨#[97]⟩⟩ : Step)]) ++ (List.replicate (Int.toNat 12) (⟨3, 0, ⟨#[]⟩⟩ : Step))) ++ ([(⟨6, 5, ⟨#[98]⟩⟩ : Step)])))) [(3, none), (5, some ⟨3, (((([(⟨6, 1, ⟨#[97]⟩⟩ : Step)]) ++ (List.replicate (Int.toNat 12) (⟨3, 0, ⟨#[]⟩⟩ : Step))) ++ ([(⟨6, 5, ⟨#[98]⟩⟩ : Step)])).map Step.cs)⟩)] [4, 3] ⟨T39, T38⟩ (opE_appO Step.cs (([(⟨6, 1, ⟨#[97]⟩⟩ : Step)]) ++ (List.replicate (Int.toNat 12) (⟨3, 0, ⟨#[]⟩⟩ : Step))) ([(⟨6, 5, ⟨#[98]⟩⟩ : Step)]) (.s 20) (.s 22) 3 32 3 (.own 4 3 0 1) _ (by kernel_rfl) (by kernel_rfl) rfl (by kernel_rfl) rfl (.own (els := [[VI 6, VI 5, .v (.string (⟨#[98]⟩))]]) (by kernel_rfl) (by kernel_rfl) (of_decide_eq_true (by kernel_rfl))) (by first | (simp; done) | (simp; omega))) ?_
  refine DW.fo (ar := [VI 12]) (fe := Step.cs) (xs := (List.replicate (Int.toNat 12) (⟨3, 0, ⟨#[]⟩⟩ : Step))) (x' := ⟨T41, T40⟩) (by kernel_rfl) (by kernel_rfl) F35_call (passes_fo 12 (by first | omega | decide)) (by intro y; kernel_rfl) (by kernel_rfl) (by kernel_rfl) ?_
  refine dwo (.own 7 3 0 (List.length (((([(⟨6, 1, ⟨#[97]⟩⟩ : Step)]) ++ (List.replicate (Int.toNat 12) (⟨3, 0, ⟨#[]⟩⟩ : Step))) ++ ([(⟨6, 5, ⟨#[98]⟩⟩ : Step)])) ++ (List.replicate (Int.toNat 12) (⟨3, 0, ⟨#[]⟩⟩ : Step))))) [(5, none), (7, some ⟨3, ((((([(⟨6, 1, ⟨#[97]⟩⟩ : Step)]) ++ (List.replicate (Int.toNat 12) (⟨3, 0, ⟨#[]⟩⟩ : Step))) ++ ([(⟨6, 5, ⟨#[98]⟩⟩ : Step)])) ++ (List.replicate (Int.toNat 12) (⟨3, 0, ⟨#[]⟩⟩ : Step))).map Step.cs)⟩)] [6, 5] ⟨T44, T43⟩ (opE_appO Step.cs ((([(⟨6, 1, ⟨#[97]⟩⟩ : Step)]) ++ (List.replicate (Int.toNat 12) (⟨3, 0, ⟨#[]⟩⟩ : Step))) ++ ([(⟨6, 5, ⟨#[98]⟩⟩ : Step)])) (List.replicate (Int.toNat 12) (⟨3, 0, ⟨#[]⟩⟩ : Step)) (.s 23) (.s 24) 3 32 5 (.own 6 3 0 (List.length (List.replicate (Int.toNat 12) (⟨3, 0, ⟨#[]⟩⟩ : Step)))) _ (by kernel_rfl) (by kernel_rfl) rfl (by kernel_rfl) rfl (.own (els := ((List.replicate (Int.toNat 12) (⟨3, 0, ⟨#[]⟩⟩ : Step)).map Step.cs)) (by kernel_rfl) (by simp) (by simp)) (by first | (simp; done) | (simp; omega))) ?_
  refine DW.fn (ar := [T26, .own 7 3 0 (List.length (((([(⟨6, 1, ⟨#[97]⟩⟩ : Step)]) ++ (List.replicate (Int.toNat 12) (⟨3, 0, ⟨#[]⟩⟩ : Step))) ++ ([(⟨6, 5, ⟨#[98]⟩⟩ : Step)])) ++ (List.replicate (Int.toNat 12) (⟨3, 0, ⟨#[]⟩⟩ : Step))))]) (x' := ⟨T48, T47⟩) (by kernel_rfl) (by kernel_rfl) F20_call (run_fn ((Synod.newP T25).1) (((([(⟨6, 1, ⟨#[97]⟩⟩ : Step)]) ++ (List.replicate (Int.toNat 12) (⟨3, 0, ⟨#[]⟩⟩ : Step))) ++ ([(⟨6, 5, ⟨#[98]⟩⟩ : Step)])) ++ (List.replicate (Int.toNat 12) (⟨3, 0, ⟨#[]⟩⟩ : Step))) (by first | assumption | exact Synod.new_big (by first | assumption | decide) | exact Synod.run_big _ _ | exact Synod.do_big _ _ _ _ | exact Synod.sat_big (by assumption) | exact Synod.zero_big | exact Synod.Ok.big (by assumption)) (by first | omega | decide | (simp; omega))) (snapAs_cons (by kernel_rfl) (snapAs_cons (snapA_map Step.cs (((([(⟨6, 1, ⟨#[97]⟩⟩ : Step)]) ++ (List.replicate (Int.toNat 12) (⟨3, 0, ⟨#[]⟩⟩ : Step))) ++ ([(⟨6, 5, ⟨#[98]⟩⟩ : Step)])) ++ (List.replicate (Int.toNat 12) (⟨3, 0, ⟨#[]⟩⟩ : Step))) (by kernel_rfl) (by intro y; kernel_rfl) (by simp)) (snapAs_nil))) (by kernel_rfl) ?_
  refine dwl 8 [1, 2, 4, 5, 6] ⟨T51, T50⟩ ?_
  refine srr 2 ⟨T52, T50⟩ ?_
  refine owf [T26, .agg [VI 1, VI 0, .v (.string (⟨#[]⟩))]] ⟨T55, T50⟩ F13_call (do_fn ((Synod.newP T25).1) (⟨1, 0, ⟨#[]⟩⟩ : Step) (by first | assumption | exact Synod.new_big (by first | assumption | decide) | exact Synod.run_big _ _ | exact Synod.do_big _ _ _ _ | exact Synod.sat_big (by assumption) | exact Synod.zero_big | exact Synod.Ok.big (by assumption))) ?_
  refine owl 6 [1, 2, 4, 5, 6, 8] ⟨T58, T57⟩ ?_
  refine srr 3 ⟨(38, .v (.bool (((Synod.newP T25).2) == 0))) :: (37, .v (.bool (((Synod.newP T25).2) == 0))) :: (36, VI ((Synod.newP T25).2)) :: T58, T57⟩ ?_
  have h1 : (((Synod.newP T25).2) == 0) = true := by first | kernel_rfl | decide
  rw [h1]
  refine owr 4 ⟨(42, .v (.bool (((((Synod.newP T25).1).runP (((([(⟨6, 1, ⟨#[97]⟩⟩ : Step)]) ++ (List.replicate (Int.toNat 12) (⟨3, 0, ⟨#[]⟩⟩ : Step))) ++ ([(⟨6, 5, ⟨#[98]⟩⟩ : Step)])) ++ (List.replicate (Int.toNat 12) (⟨3, 0, ⟨#[]⟩⟩ : Step)))).2.2) == 0))) :: (41, .v (.bool (((((Synod.newP T25).1).runP (((([(⟨6, 1, ⟨#[97]⟩⟩ : Step)]) ++ (List.replicate (Int.toNat 12) (⟨3, 0, ⟨#[]⟩⟩ : Step))) ++ ([(⟨6, 5, ⟨#[98]⟩⟩ : Step)])) ++ (List.replicate (Int.toNat 12) (⟨3, 0, ⟨#[]⟩⟩ : Step)))).2.2) == 0))) :: (40, .v (.bool (((((Synod.newP T25).1).runP (((([(⟨6, 1, ⟨#[97]⟩⟩ : Step)]) ++ (List.replicate (Int.toNat 12) (⟨3, 0, ⟨#[]⟩⟩ : Step))) ++ ([(⟨6, 5, ⟨#[98]⟩⟩ : Step)])) ++ (List.replicate (Int.toNat 12) (⟨3, 0, ⟨#[]⟩⟩ : Step)))).2.2) == 0))) :: T59, T57⟩ ?_
  have h2 : (((((Synod.newP T25).1).runP (((([(⟨6, 1, ⟨#[97]⟩⟩ : Step)]) ++ (List.replicate (Int.toNat 12) (⟨3, 0, ⟨#[]⟩⟩ : Step))) ++ ([(⟨6, 5, ⟨#[98]⟩⟩ : Step)])) ++ (List.replicate (Int.toNat 12) (⟨3, 0, ⟨#[]⟩⟩ : Step)))).2.2) == 0) = true := by first | kernel_rfl | decide
  rw [h2]
  refine owr 4 ⟨(46, .v (.bool (((((Synod.newP T25).1).runP (((([(⟨6, 1, ⟨#[97]⟩⟩ : Step)]) ++ (List.replicate (Int.toNat 12) (⟨3, 0, ⟨#[]⟩⟩ : Step))) ++ ([(⟨6, 5, ⟨#[98]⟩⟩ : Step)])) ++ (List.replicate (Int.toNat 12) (⟨3, 0, ⟨#[]⟩⟩ : Step)))).2.1) == 26))) :: (45, .v (.bool (((((Synod.newP T25).1).runP (((([(⟨6, 1, ⟨#[97]⟩⟩ : Step)]) ++ (List.replicate (Int.toNat 12) (⟨3, 0, ⟨#[]⟩⟩ : Step))) ++ ([(⟨6, 5, ⟨#[98]⟩⟩ : Step)])) ++ (List.replicate (Int.toNat 12) (⟨3, 0, ⟨#[]⟩⟩ : Step)))).2.1) == 26))) :: (44, .v (.bool (((((Synod.newP T25).1).runP (((([(⟨6, 1, ⟨#[97]⟩⟩ : Step)]) ++ (List.replicate (Int.toNat 12) (⟨3, 0, ⟨#[]⟩⟩ : Step))) ++ ([(⟨6, 5, ⟨#[98]⟩⟩ : Step)])) ++ (List.replicate (Int.toNat 12) (⟨3, 0, ⟨#[]⟩⟩ : Step)))).2.1) == 26))) :: T60, T57⟩ ?_
  have h3 : (((((Synod.newP T25).1).runP (((([(⟨6, 1, ⟨#[97]⟩⟩ : Step)]) ++ (List.replicate (Int.toNat 12) (⟨3, 0, ⟨#[]⟩⟩ : Step))) ++ ([(⟨6, 5, ⟨#[98]⟩⟩ : Step)])) ++ (List.replicate (Int.toNat 12) (⟨3, 0, ⟨#[]⟩⟩ : Step)))).2.1) == 26) = true := by first | kernel_rfl | decide
  rw [h3]
  refine owr 2 ⟨T61, T57⟩ ?_
  refine owo (VI (List.length T45.bids : Int)) [] [] ⟨(49, VI (List.length T45.bids : Int)) :: T61, T57⟩ (opE_len Bid.cs T45.bids (.s 48) 8 (by kernel_rfl) (by kernel_rfl) (.inl rfl)) ?_
  refine owr 3 ⟨(52, .v (.bool ((List.length T45.bids : Int) == 2))) :: (51, .v (.bool ((List.length T45.bids : Int) == 2))) :: (50, .v (.bool ((List.length T45.bids : Int) == 2))) :: (49, VI (List.length T45.bids : Int)) :: T61, T57⟩ ?_
  have h4 : ((List.length T45.bids : Int) == 2) = true := by first | kernel_rfl | decide
  rw [h4]
  refine owr 2 ⟨T63, T57⟩ ?_
  have hq6 : T45.bids[(0 : Int).toNat]? = some T62 := by kernel_rfl
  refine owo (.pim [VI T62.time, VI T62.phase, .v (.string T62.own), .v (.string T62.value), VI T62.best.at_.time, VI T62.best.at_.who, .v (.string T62.best.data), .v (.int .u64 (T62.heard.n : Int))] 0) [] [] ⟨T64, T57⟩ (opE_iad Bid.cs T45.bids (.s 54) (.c (VI 0)) 8 .i64 0 T62 (by kernel_rfl) (by kernel_rfl) (.inl rfl) rfl (by first | omega | exact of_decide_eq_true (by kernel_rfl)) hq6) ?_
  refine owr 5 ⟨(60, .v (.bool (T62.phase == 3))) :: (59, .v (.bool (T62.phase == 3))) :: (58, .v (.bool (T62.phase == 3))) :: T65, T57⟩ ?_
  have h7 : (T62.phase == 3) = true := by first | kernel_rfl | decide
  rw [h7]
  refine owr 2 ⟨T67, T57⟩ ?_
  have hq9 : T45.bids[(1 : Int).toNat]? = some T66 := by kernel_rfl
  refine owo (.pim [VI T66.time, VI T66.phase, .v (.string T66.own), .v (.string T66.value), VI T66.best.at_.time, VI T66.best.at_.who, .v (.string T66.best.data), .v (.int .u64 (T66.heard.n : Int))] 0) [] [] ⟨T68, T57⟩ (opE_iad Bid.cs T45.bids (.s 62) (.c (VI 1)) 8 .i64 1 T66 (by kernel_rfl) (by kernel_rfl) (.inl rfl) rfl (by first | omega | exact of_decide_eq_true (by kernel_rfl)) hq9) ?_
  refine owr 5 ⟨(68, .v (.bool (T66.phase == 3))) :: (67, .v (.bool (T66.phase == 3))) :: (66, .v (.bool (T66.phase == 3))) :: T69, T57⟩ ?_
  have h10 : (T66.phase == 3) = true := by first | kernel_rfl | decide
  rw [h10]
  refine owr 2 ⟨T70, T57⟩ ?_
  refine owo (.pim [VI T66.time, VI T66.phase, .v (.string T66.own), .v (.string T66.value), VI T66.best.at_.time, VI T66.best.at_.who, .v (.string T66.best.data), .v (.int .u64 (T66.heard.n : Int))] 0) [] [] ⟨T71, T57⟩ (opE_iad Bid.cs T45.bids (.s 70) (.c (VI 1)) 8 .i64 1 T66 (by kernel_rfl) (by kernel_rfl) (.inl rfl) rfl (by first | omega | exact of_decide_eq_true (by kernel_rfl)) hq9) ?_
  refine owr 5 ⟨(76, .v (.bool (strEq T66.value (⟨#[97]⟩)))) :: (75, .v (.bool (strEq T66.value (⟨#[97]⟩)))) :: (74, .v (.bool (strEq T66.value (⟨#[97]⟩)))) :: T72, T57⟩ ?_
  have h11 : strEq T66.value (⟨#[97]⟩) = true := by first | kernel_rfl | decide
  rw [h11]
  refine owr 2 ⟨T73, T57⟩ ?_
  refine owo (VI (List.length T45.votes : Int)) [] [] ⟨(79, VI (List.length T45.votes : Int)) :: T73, T57⟩ (opE_len Vote.cs T45.votes (.s 78) 6 (by kernel_rfl) (by kernel_rfl) (.inl rfl)) ?_
  refine owr 3 ⟨(82, .v (.bool ((List.length T45.votes : Int) == 0))) :: (81, .v (.bool ((List.length T45.votes : Int) == 0))) :: (80, .v (.bool ((List.length T45.votes : Int) == 0))) :: (79, VI (List.length T45.votes : Int)) :: T73, T57⟩ ?_
  have h12 : ((List.length T45.votes : Int) == 0) = true := by first | kernel_rfl | decide
  rw [h12]
  refine owr 4 ⟨(86, .v (.bool (((((Synod.newP T25).1).doP (⟨1, 0, ⟨#[]⟩⟩ : Step).kind (⟨1, 0, ⟨#[]⟩⟩ : Step).n (⟨1, 0, ⟨#[]⟩⟩ : Step).data).2) == 7))) :: (85, .v (.bool (((((Synod.newP T25).1).doP (⟨1, 0, ⟨#[]⟩⟩ : Step).kind (⟨1, 0, ⟨#[]⟩⟩ : Step).n (⟨1, 0, ⟨#[]⟩⟩ : Step).data).2) == 7))) :: (84, .v (.bool (((((Synod.newP T25).1).doP (⟨1, 0, ⟨#[]⟩⟩ : Step).kind (⟨1, 0, ⟨#[]⟩⟩ : Step).n (⟨1, 0, ⟨#[]⟩⟩ : Step).data).2) == 7))) :: T74, T57⟩ ?_
  have h13 : (((((Synod.newP T25).1).doP (⟨1, 0, ⟨#[]⟩⟩ : Step).kind (⟨1, 0, ⟨#[]⟩⟩ : Step).n (⟨1, 0, ⟨#[]⟩⟩ : Step).data).2) == 7) = true := by first | kernel_rfl | decide
  rw [h13]
  refine owr 1 ⟨T75, T57⟩ ?_
  refine owf [T26] ⟨(88, VI (((Synod.newP T25).1).checkE)) :: T75, T57⟩ F18_call (check_fn ((Synod.newP T25).1) (by first | assumption | exact Synod.new_big (by first | assumption | decide) | exact Synod.run_big _ _ | exact Synod.do_big _ _ _ _ | exact Synod.sat_big (by assumption) | exact Synod.zero_big | exact Synod.Ok.big (by assumption))) ?_
  refine owl 3 [0] ⟨[(0, .v (.bool ((((Synod.newP T25).1).checkE) == 0)))], T57⟩ ?_
  refine EL.ret ?_
  refine ⟨.inr rfl, .v (.bool ((((Synod.newP T25).1).checkE) == 0)), by kernel_rfl, Ale.of_eq ?_⟩
  focus (rfl)
end Go.Proofs.YtligepciannclaaDoor
namespace Go.Proofs.YtligepciannclaaDoor
set_option linter.unusedSimpArgs false
set_option linter.unusedVariables false
instance : GoT Voters := GoT.via (fun x => (x.weights, x.need))
theorem opens_i64 : Opens Tryd.prog 3 Int := GoT_i64 Tryd.underlying3 (by kernel_rfl)
theorem opens_Stamp : Opens Tryd.prog 47 Stamp := Opens.via (opens_struct Tryd.underlying47 rfl (by kernel_rfl) (opens_cons opens_i64 rfl (opens_last opens_i64 rfl))) _ (fun p => ⟨p.1, p.2⟩) (fun _ => rfl)
theorem opens_str : Opens Tryd.prog 9 ByteArray := GoT_str Tryd.underlying9 (by kernel_rfl)
theorem opens_Copy : Opens Tryd.prog 49 Copy := Opens.via (opens_struct Tryd.underlying49 rfl (by kernel_rfl) (opens_cons opens_Stamp rfl (opens_last opens_str rfl))) _ (fun p => ⟨p.1, p.2⟩) (fun _ => rfl)
theorem opens_Vote : Opens Tryd.prog 70 Vote := Opens.via (opens_struct Tryd.underlying70 rfl (by kernel_rfl) (opens_cons opens_i64 rfl (opens_cons opens_i64 rfl (opens_cons opens_i64 rfl (opens_last opens_Copy rfl))))) _ (fun p => ⟨p.1, p.2.1, p.2.2.1, p.2.2.2⟩) (fun _ => rfl)
theorem opens_Seat : Opens Tryd.prog 56 Seat := Opens.via (opens_struct Tryd.underlying56 rfl (by kernel_rfl) (opens_cons opens_Stamp rfl (opens_last opens_Copy rfl))) _ (fun p => ⟨p.1, p.2⟩) (fun _ => rfl)
theorem opens_u64 : Opens Tryd.prog 50 U64 := GoT_u64 Tryd.underlying50 (by kernel_rfl)
theorem opens_Bid : Opens Tryd.prog 52 Bid := Opens.via (opens_struct Tryd.underlying52 rfl (by kernel_rfl) (opens_cons opens_i64 rfl (opens_cons opens_i64 rfl (opens_cons opens_str rfl (opens_cons opens_str rfl (opens_cons opens_Copy rfl (opens_last opens_u64 rfl))))))) _ (fun p => ⟨p.1, p.2.1, p.2.2.1, p.2.2.2.1, p.2.2.2.2.1, p.2.2.2.2.2⟩) (fun _ => rfl)
theorem opens_Step : Opens Tryd.prog 31 Step := Opens.via (opens_struct Tryd.underlying31 rfl (by kernel_rfl) (opens_cons opens_i64 rfl (opens_cons opens_i64 rfl (opens_last opens_str rfl)))) _ (fun p => ⟨p.1, p.2.1, p.2.2⟩) (fun _ => rfl)
theorem opens_Li64 : Opens Tryd.prog 22 (List Int) := opens_slice Tryd.underlying22 (by kernel_rfl) opens_i64 (by decide)
theorem opens_LSeat : Opens Tryd.prog 25 (List Seat) := opens_slice Tryd.underlying25 (by kernel_rfl) opens_Seat (by decide)
theorem opens_LBid : Opens Tryd.prog 26 (List Bid) := opens_slice Tryd.underlying26 (by kernel_rfl) opens_Bid (by decide)
theorem opens_LVote : Opens Tryd.prog 27 (List Vote) := opens_slice Tryd.underlying27 (by kernel_rfl) opens_Vote (by decide)
theorem opens_Voters : Opens Tryd.prog 24 Voters := Opens.via (opens_struct Tryd.underlying24 rfl (by kernel_rfl) (opens_cons opens_Li64 rfl (opens_last opens_i64 rfl))) _ (fun p => ⟨p.1, p.2⟩) (fun _ => rfl)
instance : GoT Synod := GoT.via (fun x => (x.voters, x.seats, x.bids, x.votes))
theorem opens_Synod : Opens Tryd.prog 29 Synod := Opens.via (opens_struct Tryd.underlying29 rfl (by kernel_rfl) (opens_cons opens_Voters rfl (opens_cons opens_LSeat rfl (opens_cons opens_LBid rfl (opens_last opens_LVote rfl))))) _ (fun p => ⟨p.1, p.2.1, p.2.2.1, p.2.2.2⟩) (fun _ => rfl)
theorem rep_ints {w : World} {A : Option Addr} {n c : Nat} {xs : List Int} (h : GoT.rep w w.heap.size [.slice A n c] xs) : Rep (E0 w fun b => b < w.heap.size) (.slice A n c) (.lst 1 (xs.map cI)) :=
  rep_list (fun x : Int => [I x]) (fun x => -9223372036854775808 ≤ x ∧ x ≤ 9223372036854775807) (fun h => h) (fun _ => rfl) (by intro x v hv; simp at hv; subst hv; exact ⟨rfl, rfl⟩) h
theorem rep_seats {w : World} {A : Option Addr} {n c : Nat} {xs : List Seat} (h : GoT.rep w w.heap.size [.slice A n c] xs) : Rep (E0 w fun b => b < w.heap.size) (.slice A n c) (.lst 5 (xs.map Seat.cs)) :=
  rep_list (fun x : Seat => [I x.promised.time, I x.promised.who, I x.kept.at_.time, I x.kept.at_.who, .string x.kept.data]) _ Seat.flat (fun _ => rfl) (by intro x v hv; simp at hv; rcases hv with rfl | rfl | rfl | rfl | rfl <;> exact ⟨rfl, rfl⟩) h
theorem rep_bids {w : World} {A : Option Addr} {n c : Nat} {xs : List Bid} (h : GoT.rep w w.heap.size [.slice A n c] xs) : Rep (E0 w fun b => b < w.heap.size) (.slice A n c) (.lst 8 (xs.map Bid.cs)) :=
  rep_list (fun x : Bid => [I x.time, I x.phase, .string x.own, .string x.value, I x.best.at_.time, I x.best.at_.who, .string x.best.data, .int .u64 (x.heard.n : Int)]) _ Bid.flat (fun _ => rfl) (by intro x v hv; simp at hv; rcases hv with rfl | rfl | rfl | rfl | rfl | rfl | rfl | rfl <;> exact ⟨rfl, rfl⟩) h
theorem rep_votes {w : World} {A : Option Addr} {n c : Nat} {xs : List Vote} (h : GoT.rep w w.heap.size [.slice A n c] xs) : Rep (E0 w fun b => b < w.heap.size) (.slice A n c) (.lst 6 (xs.map Vote.cs)) :=
  rep_list (fun x : Vote => [I x.kind, I x.bid, I x.node, I x.copy.at_.time, I x.copy.at_.who, .string x.copy.data]) _ Vote.flat (fun _ => rfl) (by intro x v hv; simp at hv; rcases hv with rfl | rfl | rfl | rfl | rfl | rfl <;> exact ⟨rfl, rfl⟩) h
theorem Synod.av {w : World} {cs : List Value} {s : Synod} (h : GoT.rep w w.heap.size cs s) :
    Rep (E0 w fun b => b < w.heap.size) (.agg cs.toArray) (.agg [.lst 1 (s.voters.weights.map cI), VI s.voters.need, .lst 5 (s.seats.map Seat.cs), .lst 8 (s.bids.map Bid.cs), .lst 6 (s.votes.map Vote.cs)]) ∧ s.Big := by
  obtain ⟨cv, rv, rfl, hv, c2, r2, rfl, h2, c3, r3, rfl, h3, h4⟩ := h
  obtain ⟨c0, r0, rfl, h0, h1⟩ := hv
  obtain ⟨A0, n0, k0, rfl, g0⟩ := h0
  obtain ⟨rfl, _⟩ := h1
  obtain ⟨A2, n2, k2, rfl, g2⟩ := h2
  obtain ⟨A3, n3, k3, rfl, g3⟩ := h3
  obtain ⟨A4, n4, k4, rfl, g4⟩ := h4
  refine ⟨?_, ?_⟩
  · exact R2.agg (.cons (rep_ints ⟨_, _, _, rfl, g0⟩) (.cons (.v rfl) (.cons (rep_seats ⟨_, _, _, rfl, g2⟩) (.cons (rep_bids ⟨_, _, _, rfl, g3⟩) (.cons (rep_votes ⟨_, _, _, rfl, g4⟩) .nil)))))
  · have := g0.1; have := g0.2.1; have := g0.2.2.1; have := g2.1; have := g2.2.1; have := g2.2.2.1; have := g3.1; have := g3.2.1; have := g3.2.2.1; have := g4.1; have := g4.2.1; have := g4.2.2.1
    unfold Synod.Big
    dsimp only at *
    omega
theorem gl_gN : Tryd.prog.globalNamed "math/bits.deBruijn64tab" = some 0 := by kernel_rfl
theorem gl_cells {W : World} (h : laidMetH Tryd.prog [("math/bits.deBruijn64tab", Rows.laid_math_bits_deBruijn64tab)] W) : ∀ (i : Nat) v, glT[i]? = some v → W.cell? ⟨0, i, none⟩ = some v := by
  rw [MakeChecks.laidMetH_plain _ _ _ (by kernel_rfl)] at h
  have hT := Lib.tabIs_of_head (k := .u8) (zs := glZ) gl_gN (by kernel_rfl) Tryd.underlying118 Tryd.underlying5 (by kernel_rfl) (by kernel_rfl) h
  intro i v hv
  have hi : i < glZ.length := by
    have := (List.getElem?_eq_some_iff.1 hv).1; simpa [glT] using this
  have := hT.cell gl_gN i hi
  rw [this]
  simp only [glT, List.getElem?_map, Option.map_eq_some_iff] at hv
  obtain ⟨z, hz, rfl⟩ := hv
  simp [List.getD, hz]
theorem glE_of {W : World} (h : laidMetH Tryd.prog [("math/bits.deBruijn64tab", Rows.laid_math_bits_deBruijn64tab)] W) : GlE (E0 W fun b => b < W.heap.size) :=
  ⟨cell_lt (gl_cells h 0 _ rfl), gl_cells h⟩
end Go.Proofs.YtligepciannclaaDoor
set_option maxRecDepth 100000
set_option linter.unusedVariables false
set_option linter.unusedSimpArgs false
namespace Go.Proofs.YtligepciannclaaDoor
end Go.Proofs.YtligepciannclaaDoor
set_option maxRecDepth 100000
set_option linter.unusedVariables false
set_option linter.unusedSimpArgs false
namespace Go.Proofs.YtligepciannclaaDoor
/-- What a step does to a seat. -/
theorem Nxt.rises {s t : Synod} (h : Nxt s t) (ok : s.Ok) (ok2 : t.Ok) : t.seats.length = s.seats.length ∧ ∀ (n : Nat) (a b : Seat), s.seats[n]? = some a → t.seats[n]? = some b → ¬ b.promised.lt a.promised ∧ ¬ b.promised.lt b.kept.at_ ∧ ¬ b.kept.at_.lt a.kept.at_ := by
  have hk : ∀ (n : Nat) (b : Seat), t.seats[n]? = some b → ¬ b.promised.lt b.kept.at_ := fun n b hb => (seat_ok.1 (ok2.seats b (List.mem_of_getElem? hb))).2.2.2
  have same : t.seats = s.seats → t.seats.length = s.seats.length ∧ ∀ (n : Nat) (a b : Seat), s.seats[n]? = some a → t.seats[n]? = some b → ¬ b.promised.lt a.promised ∧ ¬ b.promised.lt b.kept.at_ ∧ ¬ b.kept.at_.lt a.kept.at_ := by
    intro e
    refine ⟨by rw [e], fun n a b ha hb => ?_⟩
    have h2 := hk n b hb
    rw [e, ha] at hb; obtain rfl := Option.some.inj hb
    exact ⟨self_lt, h2, self_lt⟩
  cases h with
  | moves hw hs hb2 hv => exact same hs
  | begins h hw hs hb2 hv => exact same hs
  | hears hm h0 hbd he hw hs hb2 hv => exact same hs
  | @serves m st0 hm hk0 hn hs0 he hw hs hb2 hv =>
    refine ⟨by rw [hs, List.length_set], fun n a b ha hb => ?_⟩
    have h2 := hk n b hb
    rw [hs] at hb
    rcases get_set hb with ⟨rfl, rfl⟩ | ⟨_, hb⟩
    · rw [hs0] at ha; obtain rfl := Option.some.inj ha
      obtain ⟨r1, r2, _⟩ := serve_rises he
      exact ⟨r1, h2, r2⟩
    · rw [ha] at hb; obtain rfl := Option.some.inj hb
      exact ⟨self_lt, h2, self_lt⟩
theorem Synod.do_rises {s : Synod} {k n : Int} {d : ByteArray} (h : (s.doP k n d).2 = 0) : (s.doP k n d).1.seats.length = s.seats.length ∧ ∀ (j : Nat) (a b : Seat), s.seats[j]? = some a → (s.doP k n d).1.seats[j]? = some b → ¬ b.promised.lt a.promised ∧ ¬ b.promised.lt b.kept.at_ ∧ ¬ b.kept.at_.lt a.kept.at_ := by
  rcases Synod.do_cases s k n d with ⟨_, ok, e, ok2⟩ | ⟨h2, _⟩
  · rw [e] at h ok2 ⊢
    exact (step_nxt ok h).rises ok ok2
  · exact absurd h h2
theorem Synod.do_zero {s : Synod} {k n : Int} {d : ByteArray} (h : ¬ (s.doP k n d).2 = 0) : (s.doP k n d).1 = Synod.zero := by
  rcases Synod.do_cases s k n d with ⟨h1, _⟩ | ⟨_, h2⟩
  · exact absurd h1 h
  · exact h2
end Go.Proofs.YtligepciannclaaDoor
