/- What the functions of package synod answer: Own, Do, Run. No condition. -/
import Derived.Test.YtligepciannclaaDoorPSynT
import Derived.Test.YtligepciannclaaDoorPAvFix
import Derived.Test.YtligepciannclaaDoorPAvOwn
set_option linter.unusedSimpArgs false
set_option linter.unusedVariables false
set_option maxHeartbeats 4000000
set_option maxRecDepth 100000
namespace Go.Proofs.YtligepciannclaaDoor
def Syn.newP (v : Vtr) : Syn × Int := if qcheckP v.weights v.need = 0 then (Syn.new v, 0) else (Syn.zero, qcheckP v.weights v.need)
abbrev Syn.Big (s : Syn) : Prop := s.voters.weights.length ≤ 9223372036854775807 ∧ s.seats.length ≤ 9223372036854775807 ∧ s.bids.length ≤ 9223372036854775807 ∧ s.votes.length ≤ 9223372036854775807
theorem Syn.check_0 {s : Syn} (h : s.checkE = 0) : s.Ok := Syn.ok_iff.1 h
theorem qc_small {ws : List Int} {need : Int} (h : qcheckP ws need = 0) : ws.length ≤ 1000000 := by have := qc_len h; omega
section
variable (xs : List Int)
abbrev J0 : LS := [(4, .anyb), (3, .lst 1 (xs.map cI)), (0, .lst 1 (xs.map cI))]
abbrev J1 : LS := [(4, .v (.bool false)), (3, .lst 1 (xs.map cI)), (0, .lst 1 (xs.map cI))]
abbrev J2 : LS := [(6, .lst 1 (xs.map cI)), (5, .own 0 1 0 0), (0, .lst 1 (xs.map cI))]
end
theorem cloneI_fo (xs : List Int) (hx : xs.length ≤ 1000000) : Fn Tryd.prog 27 [.lst 1 (xs.map cI)] (.lst 1 (xs.map cI)) := by
 refine fnw F27_ok ?_
 refine srl 1 [0] ⟨[(0, .lst 1 (xs.map cI))], []⟩ ?_
 refine EL.seqG [0] (fun y => (y = ⟨[(0, .lst 1 (xs.map cI))], []⟩ ∧ ((List.isEmpty xs = true) ∨ (List.isEmpty xs = false)))) ?_ ?_
 intro IHJ1 HJ1
 refine srr 1 ⟨[(3, .lst 1 (xs.map cI)), (0, .lst 1 (xs.map cI))], []⟩ ?_
 cases h2 : (List.isEmpty xs)
 refine ow2 ⟨(J1 xs), []⟩ (opE_isn_ne cI xs (.s 3) 1 false (by kernel_rfl) (by kernel_rfl) (.inl rfl) h2) ?_
 refine owl 0 [0, 4] ⟨[(4, .v (.bool false)), (0, .lst 1 (xs.map cI))], []⟩ ?_
 refine cnF ?_
 refine EL.skip ?_
 exact tN (HJ1.get ⟨by kernel_rfl, (Or.inr (by first | exact g2 | exact h2 | simp_all | omega))⟩)
 refine ow2 ⟨(J0 xs), []⟩ (opE_isn_any cI xs (.s 3) 1 false (by kernel_rfl) (by kernel_rfl) (.inl rfl) h2) ?_
 refine owl 0 [0, 4] ⟨[(4, .anyb), (0, .lst 1 (xs.map cI))], []⟩ ?_
 refine EL.condAny (by kernel_rfl) ?_ ?_
 refine srl 1 [2] ⟨[(2, .emp)], []⟩ ?_
 refine rtr ?_
 refine rqa (.emp) (Ale.emp (sz := 1)) ?_
 rotate_left
 refine EL.skip ?_
 exact tN (HJ1.get ⟨by kernel_rfl, (Or.inl (by first | exact g2 | exact h2 | simp_all | omega))⟩)
 rintro _ (⟨rfl, hD3⟩)
 refine srr 2 ⟨(J2 xs), [some ⟨1, []⟩]⟩ ?_
 refine ow2 ⟨(7, .own 1 1 0 (List.length xs)) :: (J2 xs), [none, some ⟨1, (xs.map cI)⟩]⟩ (oap cI ([] : List Int) xs (.s 5) (.s 6) 1 8 0 (.lst 1 (xs.map cI)) .lst (by simp; omega)) ?_
 refine owl 1 [2] ⟨[(2, .own 1 1 0 (List.length xs))], [none, some ⟨1, (xs.map cI)⟩]⟩ ?_
 refine EL.ret ?_
 refine rqs (.lst 1 (xs.map cI)) (.own 1 1 0 (List.length xs)) (snapA_map cI xs (by kernel_rfl) (by intro y; kernel_rfl) (by simp)) ?_
 rotate_left
 all_goals (first | rfl | (have hx0 : xs = [] := List.isEmpty_iff.1 ‹_›; subst hx0; rfl))
section
variable (xs : List Seat)
abbrev J3 : LS := [(4, .anyb), (3, .lst 5 (xs.map Seat.cs)), (0, .lst 5 (xs.map Seat.cs))]
abbrev J4 : LS := [(4, .v (.bool false)), (3, .lst 5 (xs.map Seat.cs)), (0, .lst 5 (xs.map Seat.cs))]
abbrev J5 : LS := [(6, .lst 5 (xs.map Seat.cs)), (5, .own 0 5 0 0), (0, .lst 5 (xs.map Seat.cs))]
abbrev J6 : LB := [none, some ⟨5, (xs.map Seat.cs)⟩]
end
theorem cloneS_fo (xs : List Seat) (hx : xs.length ≤ 1000000) : Fo Tryd.prog 68 [.lst 5 (xs.map Seat.cs)] 5 (xs.map Seat.cs) := by
 refine fo_of ?_
 rw [List.length_map]
 refine fV (m := []) (m' := [some ⟨5, (xs.map Seat.cs)⟩]) F68_ok (of_decide_eq_true (by kernel_rfl)) ?_
 refine srl 1 [0] ⟨[(0, .lst 5 (xs.map Seat.cs))], []⟩ ?_
 refine EL.seqG [0] (fun y => (y = ⟨[(0, .lst 5 (xs.map Seat.cs))], []⟩ ∧ ((List.isEmpty xs = true) ∨ (List.isEmpty xs = false)))) ?_ ?_
 intro IHJ1 HJ1
 refine srr 1 ⟨[(3, .lst 5 (xs.map Seat.cs)), (0, .lst 5 (xs.map Seat.cs))], []⟩ ?_
 cases h2 : (List.isEmpty xs)
 refine ow2 ⟨(J4 xs), []⟩ (opE_isn_ne Seat.cs xs (.s 3) 5 false (by kernel_rfl) (by kernel_rfl) (.inl rfl) h2) ?_
 refine owl 0 [0, 4] ⟨[(4, .v (.bool false)), (0, .lst 5 (xs.map Seat.cs))], []⟩ ?_
 refine cnF ?_
 refine EL.skip ?_
 exact tN (HJ1.get ⟨by kernel_rfl, (Or.inr (by first | exact g2 | exact h2 | simp_all | omega))⟩)
 refine ow2 ⟨(J3 xs), []⟩ (opE_isn_any Seat.cs xs (.s 3) 5 false (by kernel_rfl) (by kernel_rfl) (.inl rfl) h2) ?_
 refine owl 0 [0, 4] ⟨[(4, .anyb), (0, .lst 5 (xs.map Seat.cs))], []⟩ ?_
 refine EL.condAny (by kernel_rfl) ?_ ?_
 refine srl 1 [2] ⟨[(2, .emp)], []⟩ ?_
 refine rtr ?_
 refine ⟨.inr rfl, ⟨[(2, .own 0 5 0 (List.length xs))], [some ⟨5, (xs.map Seat.cs)⟩]⟩, norm_le (live := [2]) (src := [.new 5]) (es := [(2, 0)]) (by rw [List.isEmpty_iff.1 h2]; kernel_rfl) trivial, by kernel_rfl, rfl⟩
 refine EL.skip ?_
 exact tN (HJ1.get ⟨by kernel_rfl, (Or.inl (by first | exact g2 | exact h2 | simp_all | omega))⟩)
 rintro _ (⟨rfl, hD3⟩)
 refine srr 2 ⟨(J5 xs), [some ⟨5, []⟩]⟩ ?_
 refine ow2 ⟨(7, .own 1 5 0 (List.length xs)) :: (J5 xs), (J6 xs)⟩ (oap Seat.cs ([] : List Seat) xs (.s 5) (.s 6) 5 48 0 (.lst 5 (xs.map Seat.cs)) .lst (by simp; omega)) ?_
 refine owl 1 [2] ⟨[(2, .own 1 5 0 (List.length xs))], (J6 xs)⟩ ?_
 refine EL.ret ?_
 exact fne [2] [ut 1] ⟨[(2, .own 0 5 0 (List.length xs))], [some ⟨5, (xs.map Seat.cs)⟩]⟩ ⟨pq 5 Seat.cs xs, trivial⟩
section
variable (xs : List Bid)
abbrev J7 : LS := [(4, .anyb), (3, .lst 8 (xs.map Bid.cs)), (0, .lst 8 (xs.map Bid.cs))]
abbrev J8 : LS := [(4, .v (.bool false)), (3, .lst 8 (xs.map Bid.cs)), (0, .lst 8 (xs.map Bid.cs))]
abbrev J9 : LS := [(6, .lst 8 (xs.map Bid.cs)), (5, .own 0 8 0 0), (0, .lst 8 (xs.map Bid.cs))]
abbrev J10 : LB := [none, some ⟨8, (xs.map Bid.cs)⟩]
end
theorem cloneB_fo (xs : List Bid) (hx : xs.length ≤ 1000000) : Fo Tryd.prog 69 [.lst 8 (xs.map Bid.cs)] 8 (xs.map Bid.cs) := by
 refine fo_of ?_
 rw [List.length_map]
 refine fV (m := []) (m' := [some ⟨8, (xs.map Bid.cs)⟩]) F69_ok (of_decide_eq_true (by kernel_rfl)) ?_
 refine srl 1 [0] ⟨[(0, .lst 8 (xs.map Bid.cs))], []⟩ ?_
 refine EL.seqG [0] (fun y => (y = ⟨[(0, .lst 8 (xs.map Bid.cs))], []⟩ ∧ ((List.isEmpty xs = true) ∨ (List.isEmpty xs = false)))) ?_ ?_
 intro IHJ1 HJ1
 refine srr 1 ⟨[(3, .lst 8 (xs.map Bid.cs)), (0, .lst 8 (xs.map Bid.cs))], []⟩ ?_
 cases h2 : (List.isEmpty xs)
 refine ow2 ⟨(J8 xs), []⟩ (opE_isn_ne Bid.cs xs (.s 3) 8 false (by kernel_rfl) (by kernel_rfl) (.inl rfl) h2) ?_
 refine owl 0 [0, 4] ⟨[(4, .v (.bool false)), (0, .lst 8 (xs.map Bid.cs))], []⟩ ?_
 refine cnF ?_
 refine EL.skip ?_
 exact tN (HJ1.get ⟨by kernel_rfl, (Or.inr (by first | exact g2 | exact h2 | simp_all | omega))⟩)
 refine ow2 ⟨(J7 xs), []⟩ (opE_isn_any Bid.cs xs (.s 3) 8 false (by kernel_rfl) (by kernel_rfl) (.inl rfl) h2) ?_
 refine owl 0 [0, 4] ⟨[(4, .anyb), (0, .lst 8 (xs.map Bid.cs))], []⟩ ?_
 refine EL.condAny (by kernel_rfl) ?_ ?_
 refine srl 1 [2] ⟨[(2, .emp)], []⟩ ?_
 refine rtr ?_
 refine ⟨.inr rfl, ⟨[(2, .own 0 8 0 (List.length xs))], [some ⟨8, (xs.map Bid.cs)⟩]⟩, norm_le (live := [2]) (src := [.new 8]) (es := [(2, 0)]) (by rw [List.isEmpty_iff.1 h2]; kernel_rfl) trivial, by kernel_rfl, rfl⟩
 refine EL.skip ?_
 exact tN (HJ1.get ⟨by kernel_rfl, (Or.inl (by first | exact g2 | exact h2 | simp_all | omega))⟩)
 rintro _ (⟨rfl, hD3⟩)
 refine srr 2 ⟨(J9 xs), [some ⟨8, []⟩]⟩ ?_
 refine ow2 ⟨(7, .own 1 8 0 (List.length xs)) :: (J9 xs), (J10 xs)⟩ (oap Bid.cs ([] : List Bid) xs (.s 5) (.s 6) 8 88 0 (.lst 8 (xs.map Bid.cs)) .lst (by simp; omega)) ?_
 refine owl 1 [2] ⟨[(2, .own 1 8 0 (List.length xs))], (J10 xs)⟩ ?_
 refine EL.ret ?_
 exact fne [2] [ut 1] ⟨[(2, .own 0 8 0 (List.length xs))], [some ⟨8, (xs.map Bid.cs)⟩]⟩ ⟨pq 8 Bid.cs xs, trivial⟩
section
variable (xs : List Vote)
abbrev J11 : LS := [(4, .anyb), (3, .lst 6 (xs.map Vote.cs)), (0, .lst 6 (xs.map Vote.cs))]
abbrev J12 : LS := [(4, .v (.bool false)), (3, .lst 6 (xs.map Vote.cs)), (0, .lst 6 (xs.map Vote.cs))]
abbrev J13 : LS := [(6, .lst 6 (xs.map Vote.cs)), (5, .own 0 6 0 0), (0, .lst 6 (xs.map Vote.cs))]
abbrev J14 : LB := [none, some ⟨6, (xs.map Vote.cs)⟩]
end
theorem cloneV_fo (xs : List Vote) (hx : xs.length ≤ 1000000) : Fo Tryd.prog 70 [.lst 6 (xs.map Vote.cs)] 6 (xs.map Vote.cs) := by
 refine fo_of ?_
 rw [List.length_map]
 refine fV (m := []) (m' := [some ⟨6, (xs.map Vote.cs)⟩]) F70_ok (of_decide_eq_true (by kernel_rfl)) ?_
 refine srl 1 [0] ⟨[(0, .lst 6 (xs.map Vote.cs))], []⟩ ?_
 refine EL.seqG [0] (fun y => (y = ⟨[(0, .lst 6 (xs.map Vote.cs))], []⟩ ∧ ((List.isEmpty xs = true) ∨ (List.isEmpty xs = false)))) ?_ ?_
 intro IHJ1 HJ1
 refine srr 1 ⟨[(3, .lst 6 (xs.map Vote.cs)), (0, .lst 6 (xs.map Vote.cs))], []⟩ ?_
 cases h2 : (List.isEmpty xs)
 refine ow2 ⟨(J12 xs), []⟩ (opE_isn_ne Vote.cs xs (.s 3) 6 false (by kernel_rfl) (by kernel_rfl) (.inl rfl) h2) ?_
 refine owl 0 [0, 4] ⟨[(4, .v (.bool false)), (0, .lst 6 (xs.map Vote.cs))], []⟩ ?_
 refine cnF ?_
 refine EL.skip ?_
 exact tN (HJ1.get ⟨by kernel_rfl, (Or.inr (by first | exact g2 | exact h2 | simp_all | omega))⟩)
 refine ow2 ⟨(J11 xs), []⟩ (opE_isn_any Vote.cs xs (.s 3) 6 false (by kernel_rfl) (by kernel_rfl) (.inl rfl) h2) ?_
 refine owl 0 [0, 4] ⟨[(4, .anyb), (0, .lst 6 (xs.map Vote.cs))], []⟩ ?_
 refine EL.condAny (by kernel_rfl) ?_ ?_
 refine srl 1 [2] ⟨[(2, .emp)], []⟩ ?_
 refine rtr ?_
 refine ⟨.inr rfl, ⟨[(2, .own 0 6 0 (List.length xs))], [some ⟨6, (xs.map Vote.cs)⟩]⟩, norm_le (live := [2]) (src := [.new 6]) (es := [(2, 0)]) (by rw [List.isEmpty_iff.1 h2]; kernel_rfl) trivial, by kernel_rfl, rfl⟩
 refine EL.skip ?_
 exact tN (HJ1.get ⟨by kernel_rfl, (Or.inl (by first | exact g2 | exact h2 | simp_all | omega))⟩)
 rintro _ (⟨rfl, hD3⟩)
 refine srr 2 ⟨(J13 xs), [some ⟨6, []⟩]⟩ ?_
 refine ow2 ⟨(7, .own 1 6 0 (List.length xs)) :: (J13 xs), (J14 xs)⟩ (oap Vote.cs ([] : List Vote) xs (.s 5) (.s 6) 6 56 0 (.lst 6 (xs.map Vote.cs)) .lst (by simp; omega)) ?_
 refine owl 1 [2] ⟨[(2, .own 1 6 0 (List.length xs))], (J14 xs)⟩ ?_
 refine EL.ret ?_
 exact fne [2] [ut 1] ⟨[(2, .own 0 6 0 (List.length xs))], [some ⟨6, (xs.map Vote.cs)⟩]⟩ ⟨pq 6 Vote.cs xs, trivial⟩
section
variable (v : Vtr)
abbrev J30 := (Int.toNat (List.length v.weights : Int))
abbrev J15 : OB := some ⟨2, [[.lst 1 (v.weights.map cI), VI v.need]]⟩
abbrev J16 : OB := some ⟨5, [[.emp, VI 0, .emp, .emp, .emp]]⟩
abbrev J17 : LS := [(8, VI v.need), (7, .ref 0 2 0 1), (6, .lst 1 (v.weights.map cI)), (5, .ref 0 2 0 0), (2, .ref 1 5 0 0), (1, .ref 0 2 0 0)]
abbrev J18 : LS := [(4, VI (qcheckP v.weights v.need)), (2, .ref 1 5 0 0), (1, .ref 0 2 0 0)]
abbrev J20 : AV := .agg [.emp, VI 0, .emp, .emp, .emp]
abbrev J21 : LS := (15, .lst 1 (v.weights.map cI)) :: (14, .ref 0 2 0 0) :: (11, .v (.bool false)) :: (J18 v)
abbrev J22 : AV := .agg [.lst 1 (v.weights.map cI), VI v.need]
abbrev J23 : LS := (21, .lst 1 (v.weights.map cI)) :: (20, .ref 0 2 0 0) :: (19, (J22 v)) :: (18, VI v.need) :: (17, .ref 0 2 0 1) :: (16, .lst 1 (v.weights.map cI)) :: (J21 v)
abbrev J24 : OB := some ⟨5, ((List.replicate (J30 v) ((⟨(⟨0, 0⟩ : Stp), (⟨(⟨0, 0⟩ : Stp), ⟨#[]⟩⟩ : Copy)⟩ : Seat) : Seat)).map Seat.cs)⟩
abbrev J25 : LS := (23, .own 2 5 0 (List.length (List.replicate (J30 v) ((⟨(⟨0, 0⟩ : Stp), (⟨(⟨0, 0⟩ : Stp), ⟨#[]⟩⟩ : Copy)⟩ : Seat) : Seat)))) :: (22, VI (List.length v.weights : Int)) :: (J23 v)
abbrev J26 : OB := some ⟨5, [[.lst 1 (v.weights.map cI), VI v.need, .own 2 5 0 (List.length (List.replicate (J30 v) ((⟨(⟨0, 0⟩ : Stp), (⟨(⟨0, 0⟩ : Stp), ⟨#[]⟩⟩ : Copy)⟩ : Seat) : Seat))), .emp, .emp]]⟩
abbrev J27 : AV := .agg [.lst 1 (v.weights.map cI), VI v.need, .lst 5 ((List.replicate (J30 v) ((⟨(⟨0, 0⟩ : Stp), (⟨(⟨0, 0⟩ : Stp), ⟨#[]⟩⟩ : Copy)⟩ : Seat) : Seat)).map Seat.cs), .lst 8 [], .lst 6 []]
abbrev J28 : AV := .agg [.lst 1 (v.weights.map cI), VI v.need, .own 2 5 0 (List.length (List.replicate (J30 v) ((⟨(⟨0, 0⟩ : Stp), (⟨(⟨0, 0⟩ : Stp), ⟨#[]⟩⟩ : Copy)⟩ : Seat) : Seat))), .emp, .emp]
abbrev J29 : AV := .agg [.lst 1 (v.weights.map cI), VI v.need, .lst 5 ((List.replicate (J30 v) ((⟨(⟨0, 0⟩ : Stp), (⟨(⟨0, 0⟩ : Stp), ⟨#[]⟩⟩ : Copy)⟩ : Seat) : Seat)).map Seat.cs), .emp, .emp]
end
theorem new_fn (v : Vtr) (hx : v.weights.length ≤ 9223372036854775807) : Fn Tryd.prog 12 [.agg [.lst 1 (v.weights.map cI), VI v.need]] (.tup [.agg [.lst 1 (((((Syn.newP v).1).voters).weights).map cI), VI ((((Syn.newP v).1).voters).need), .lst 5 ((((Syn.newP v).1).seats).map Seat.cs), .lst 8 ((((Syn.newP v).1).bids).map Bid.cs), .lst 6 ((((Syn.newP v).1).votes).map Vote.cs)], VI ((Syn.newP v).2)]) := by
 refine fnw F12_ok ?_
 refine srl 3 [1, 2] ⟨[(2, .ref 1 5 0 0), (1, .ref 0 2 0 0)], [(J15 v), J16]⟩ ?_
 refine EL.seq ?_
 refine srr 4 ⟨(J17 v), [(J15 v), J16]⟩ ?_
 refine owg [.lst 1 (v.weights.map cI), VI v.need] ⟨(9, VI (qcheckP v.weights v.need)) :: (J17 v), [(J15 v), J16]⟩ (qcheck_fn v.weights v.need (by first | omega | assumption | exact hx.1)) ?_
 refine owl 1 [1, 2, 4] ⟨(J18 v), [(J15 v), J16]⟩ ?_
 refine srl 2 [1, 2, 4, 11] ⟨(11, .v (.bool ((qcheckP v.weights v.need) != 0))) :: (J18 v), [(J15 v), J16]⟩ ?_
 cases h1 : ((qcheckP v.weights v.need) != 0)
 have g1 := bnF h1
 refine cnF ?_
 refine skn ?_
 refine sdr 2 ⟨(J21 v), [(J15 v), J16]⟩ ?_
 refine dwg [.lst 1 (v.weights.map cI)] ⟨(16, .lst 1 (v.weights.map cI)) :: (J21 v), [(J15 v), J16]⟩ (cloneI_fo v.weights (by first | omega | exact qc_small (by assumption))) ?_
 refine dwr 5 ⟨(J23 v), [(J15 v), J16]⟩ ?_
 refine dw2 ⟨(22, VI (List.length v.weights : Int)) :: (J23 v), [(J15 v), J16]⟩ (oln cI v.weights (.s 21) 1) ?_
 refine dw2 ⟨(J25 v), [(J15 v), J16, (J24 v)]⟩ (opE_msl Seat.cs ((⟨(⟨0, 0⟩ : Stp), (⟨(⟨0, 0⟩ : Stp), ⟨#[]⟩⟩ : Copy)⟩ : Seat) : Seat) 5 48 [VI 0, VI 0, VI 0, VI 0, .v (.string (⟨#[]⟩))] (.s 22) (.s 22) .i64 .i64 (List.length v.weights : Int) (by kernel_rfl) (by kernel_rfl) rfl rfl (by kernel_rfl) ⟨by omega, by have := qc_len (ws := v.weights) (by assumption); omega⟩) ?_
 refine dwl 3 [2, 3] ⟨[(3, VI 0), (2, .ref 1 5 0 0)], [(J15 v), (J26 v), (J24 v)]⟩ ?_
 refine EL.ret ?_
 refine ⟨.inr rfl, .tup [(J29 v), VI 0], run_snap (r0 := .tup [(J28 v), VI 0]) (by kernel_rfl) (snapR_tup (sA (snapA_agg (sC (by kernel_rfl) (sC (by kernel_rfl) (sC (smp Seat.cs (List.replicate (J30 v) ((⟨(⟨0, 0⟩ : Stp), (⟨(⟨0, 0⟩ : Stp), ⟨#[]⟩⟩ : Copy)⟩ : Seat) : Seat))) (sC (by kernel_rfl) (sC (by kernel_rfl) (rfl))))))) (sA (by kernel_rfl) (snapAs_nil)))), Ale.trans (b := .tup [(J27 v), VI 0]) (Ale.tup (aT (aR (aR (aR (aE 8 (aE 6 (.nil)))))) (aR .nil))) (Ale.of_eq ?_)⟩
 rotate_left
 have g1 := bnT h1
 refine cnT ?_
 refine srl 4 [2, 3] ⟨[(3, VI (qcheckP v.weights v.need)), (2, .ref 1 5 0 0)], [(J15 v), J16]⟩ ?_
 refine rtr ?_
 refine rqa (.tup [J20, VI (qcheckP v.weights v.need)]) (Ale.tup (aT (aE 1 (aR (aE 5 (aE 8 (aE 6 (.nil)))))) (aR .nil))) ?_
 rotate_left
 all_goals (first | (simp [Syn.newP, Syn.new, Syn.zero, Seat.zero, *]; done) | (simp_all [Syn.newP, Syn.new, Syn.zero, Seat.zero]; done))
section
variable (a3 : Seat) (k : Nat) (xs : List Seat)
abbrev J31 : LS := [(8, .lst 5 (xs.map Seat.cs)), (0, .lst 5 (xs.map Seat.cs)), (1, .fn 39 [])]
abbrev J32 : LS := [(10, VI 0), (9, VI (List.length xs : Int)), (8, .lst 5 (xs.map Seat.cs)), (1, .fn 39 [])]
abbrev J33 : LS := [(1, .fn 39 []), (8, .lst 5 (xs.map Seat.cs)), (9, VI (List.length xs : Int)), (10, VI (k : Int))]
abbrev J34 : LS := (12, .pim [VI a3.promised.time, VI a3.promised.who, VI a3.kept.at_.time, VI a3.kept.at_.who, .v (.string a3.kept.data)] 0) :: (11, .v (.bool true)) :: (J33 k xs)
abbrev J35 : OB := some ⟨5, [[VI a3.promised.time, VI a3.promised.who, VI a3.kept.at_.time, VI a3.kept.at_.who, .v (.string a3.kept.data)]]⟩
abbrev J36 : AV := .agg [VI a3.promised.time, VI a3.promised.who, VI a3.kept.at_.time, VI a3.kept.at_.who, .v (.string a3.kept.data)]
abbrev J37 : LS := (15, (J36 a3)) :: (14, .fn 39 []) :: (6, .ref 0 5 0 0) :: (J33 k xs)
abbrev J38 : LS := [(18, .v (.bool false)), (7, VI a3.checkE), (1, .fn 39 []), (8, .lst 5 (xs.map Seat.cs)), (9, VI (List.length xs : Int))]
abbrev J39 : LS := (10, VI ((k : Int) + 1)) :: (20, VI ((k : Int) + 1)) :: (J38 a3 xs)
end
theorem firstS_fn (xs : List Seat) (hx : xs.length ≤ 9223372036854775807) : Fn Tryd.prog 38 [.lst 5 (xs.map Seat.cs), .fn 39 []] (VI (firstE (Seat.checkE) xs)) := by
 refine fnw F38_ok ?_
 refine srl 1 [0, 1] ⟨[(0, .lst 5 (xs.map Seat.cs)), (1, .fn 39 [])], []⟩ ?_
 refine EL.seq ?_
 refine srr 1 ⟨(J31 xs), []⟩ ?_
 refine ow2 ⟨(9, VI (List.length xs : Int)) :: (J31 xs), []⟩ (oln Seat.cs xs (.s 8) 5) ?_
 refine owl 1 [1, 8, 9, 10] ⟨(J32 xs), []⟩ ?_
 refine EL.block ?_
 refine EL.loopN (fun mM xX => ∃ (k : Nat), mM = xs.length - k ∧ (k ≤ xs.length ∧ firstE (Seat.checkE) xs = firstE (Seat.checkE) (xs.drop k)) ∧ xX = ⟨(J33 k xs), []⟩) (y := (fun (k : Nat) => (⟨(J33 k xs), []⟩ : L3)) 0) [1, 8, 9, 10] [] [] (by kernel_rfl) trivial ⟨0, rfl, by simp, rfl⟩ ?_
 rintro _ _ ⟨k, rfl, hI1, rfl⟩
 obtain ⟨hk, hs⟩ := hI1
 refine srl 1 [1, 8, 9, 10, 11] ⟨(11, .v (.bool (decide ((k : Int) < (List.length xs : Int))))) :: (J33 k xs), []⟩ ?_
 refine EL.seq ?_
 cases h2 : (decide ((k : Int) < (List.length xs : Int)))
 have g2 := of_decide_eq_false h2
 have n2 : ¬ ((k) < (List.length xs)) := by omega
 refine cnF ?_
 refine EL.exit ?_
 refine tX ?_
 refine tX ?_
 refine iH ?_
 refine tN ?_
 refine srl 1 [4] ⟨[(4, VI 0)], []⟩ ?_
 refine EL.ret ?_
 refine rqe (VI 0) ?_
 rotate_left
 have g2 := of_decide_eq_true h2
 have n2 : ((k) < (List.length xs)) := by omega
 refine cnT ?_
 refine skn ?_
 refine EL.seq ?_
 refine EL.block ?_
 refine EL.sreg ?_
 obtain ⟨a3, ha3⟩ : ∃ y, xs[((k : Int) : Int).toNat]? = some y := idx_ex ⟨by omega, by omega⟩
 have iha3 : xs[k]? = some a3 := by simpa using ha3
 have dha3 := drop_get iha3
 refine ow2 ⟨(J34 a3 k xs), []⟩ (oid Seat.cs xs (.s 8) (.s 10) 5 .i64 (k : Int) a3 (by omega) ha3) ?_
 refine owl 3 [1, 6, 8, 9, 10] ⟨(6, .ref 0 5 0 0) :: (J33 k xs), [(J35 a3)]⟩ ?_
 refine srr 2 ⟨(J37 a3 k xs), [(J35 a3)]⟩ ?_
 refine owg [(J36 a3)] ⟨(16, VI a3.checkE) :: (J37 a3 k xs), [(J35 a3)]⟩ (secheck_fn a3) ?_
 refine owl 1 [1, 7, 8, 9, 10] ⟨(7, VI a3.checkE) :: (J33 k xs), [(J35 a3)]⟩ ?_
 refine srl 2 [1, 7, 8, 9, 10, 18] ⟨(18, .v (.bool (a3.checkE != 0))) :: (7, VI a3.checkE) :: (J33 k xs), [(J35 a3)]⟩ ?_
 cases h4 : (a3.checkE != 0)
 have g4 := bnF h4
 refine cnF ?_
 refine EL.skip ?_
 refine iN ?_
 refine tN ?_
 refine EL.reg0 ?_
 refine owr 2 ⟨(10, VI (IntKind.i64.wrap ((k : Int) + 1))) :: (20, VI (IntKind.i64.wrap ((k : Int) + 1))) :: (J38 a3 xs), [(J35 a3)]⟩ ?_
 have e5 := wr64 (n := (k : Int) + 1) (by omega)
 rw [e5]
 refine owe 0 ⟨(J39 a3 k xs), [(J35 a3)]⟩ ?_
 refine tN ?_
 refine rE (live := [1, 8, 9, 10]) (src := []) (es := []) (y := (fun (k : Nat) => (⟨(J33 k xs), []⟩ : L3)) (k + 1)) ?_ trivial ?_ ⟨(k + 1), rfl, ?_, rfl⟩
 kernel_rfl
 omega
 focus (refine ⟨by omega, ?_⟩; rw [hs]; simp [firstE, *])
 have g4 := bnT h4
 refine cnT ?_
 refine srl 2 [4] ⟨[(4, VI a3.checkE)], [(J35 a3)]⟩ ?_
 refine EL.ret ?_
 refine iR ?_
 refine tR ?_
 refine tR ?_
 refine iR ?_
 refine tR ?_
 refine rqe (VI a3.checkE) ?_
 rotate_left
 all_goals ((refine congrArg (fun n => VI n) ?_; rw [hs]; first | (rw [List.drop_eq_nil_of_le (by omega)]; rfl) | (simp [firstE, *]; done)))
section
variable (b : Bid) (s : Syn)
abbrev J40 : OB := some ⟨8, [[VI b.time, VI b.phase, .v (.string b.own), .v (.string b.value), VI b.best.at_.time, VI b.best.at_.who, .v (.string b.best.data), .v (.int .u64 (b.heard.n : Int))]]⟩
abbrev J41 : AV := .agg [VI b.time, VI b.phase, .v (.string b.own), .v (.string b.value), VI b.best.at_.time, VI b.best.at_.who, .v (.string b.best.data), .v (.int .u64 (b.heard.n : Int))]
abbrev J42 : AV := .agg [.lst 1 (s.voters.weights.map cI), VI s.voters.need]
abbrev J43 : LS := [(6, (J41 b)), (5, (J42 s)), (4, .pim [.lst 1 (s.voters.weights.map cI), VI s.voters.need, .lst 5 (s.seats.map Seat.cs), .lst 8 (s.bids.map Bid.cs), .lst 6 (s.votes.map Vote.cs)] 0), (2, .ref 0 8 0 0), (1, .pim [.lst 1 (s.voters.weights.map cI), VI s.voters.need, .lst 5 (s.seats.map Seat.cs), .lst 8 (s.bids.map Bid.cs), .lst 6 (s.votes.map Vote.cs)] 0)]
abbrev J44 : LS := (7, VI (b.checkE s.voters.weights s.voters.need)) :: (J43 b s)
end
theorem chk1_fn (b : Bid) (s : Syn) (hx : s.Big) : Fn Tryd.prog 41 [.agg [VI b.time, VI b.phase, .v (.string b.own), .v (.string b.value), VI b.best.at_.time, VI b.best.at_.who, .v (.string b.best.data), .v (.int .u64 (b.heard.n : Int))], .pim [.lst 1 (s.voters.weights.map cI), VI s.voters.need, .lst 5 (s.seats.map Seat.cs), .lst 8 (s.bids.map Bid.cs), .lst 6 (s.votes.map Vote.cs)] 0] (VI (b.checkE s.voters.weights s.voters.need)) := by
 refine fnw F41_ok ?_
 refine srl 2 [1, 2] ⟨[(2, .ref 0 8 0 0), (1, .pim [.lst 1 (s.voters.weights.map cI), VI s.voters.need, .lst 5 (s.seats.map Seat.cs), .lst 8 (s.bids.map Bid.cs), .lst 6 (s.votes.map Vote.cs)] 0)], [(J40 b)]⟩ ?_
 refine srr 3 ⟨(J43 b s), [(J40 b)]⟩ ?_
 refine owg [(J42 s), (J41 b)] ⟨(J44 b s), [(J40 b)]⟩ (bcheck_fn s.voters b (by first | exact hx.1 | assumption)) ?_
 refine owl 1 [3] ⟨[(3, VI (b.checkE s.voters.weights s.voters.need))], [(J40 b)]⟩ ?_
 refine EL.ret ?_
 refine rqe (VI (b.checkE s.voters.weights s.voters.need)) ?_
 focus (rfl)
section
variable (s : Syn) (v : Vote)
abbrev J45 : OB := some ⟨6, [[VI v.kind, VI v.bid, VI v.node, VI v.copy.at_.time, VI v.copy.at_.who, .v (.string v.copy.data)]]⟩
abbrev J46 : AV := .agg [VI v.kind, VI v.bid, VI v.node, VI v.copy.at_.time, VI v.copy.at_.who, .v (.string v.copy.data)]
abbrev J47 : LS := [(5, (J46 v)), (2, .ref 0 6 0 0), (1, .pim [.lst 1 (s.voters.weights.map cI), VI s.voters.need, .lst 5 (s.seats.map Seat.cs), .lst 8 (s.bids.map Bid.cs), .lst 6 (s.votes.map Vote.cs)] 0)]
abbrev J48 : LS := [(4, VI v.checkE), (2, .ref 0 6 0 0), (1, .pim [.lst 1 (s.voters.weights.map cI), VI s.voters.need, .lst 5 (s.seats.map Seat.cs), .lst 8 (s.bids.map Bid.cs), .lst 6 (s.votes.map Vote.cs)] 0)]
abbrev J49 : LS := (13, .lst 5 (s.seats.map Seat.cs)) :: (12, .pim [.lst 1 (s.voters.weights.map cI), VI s.voters.need, .lst 5 (s.seats.map Seat.cs), .lst 8 (s.bids.map Bid.cs), .lst 6 (s.votes.map Vote.cs)] 2) :: (11, VI v.node) :: (10, .ref 0 6 0 2) :: (9, .v (.bool true)) :: (8, .v (.bool true)) :: (7, VI v.checkE) :: (J48 s v)
abbrev J50 : LS := (20, .lst 8 (s.bids.map Bid.cs)) :: (19, .pim [.lst 1 (s.voters.weights.map cI), VI s.voters.need, .lst 5 (s.seats.map Seat.cs), .lst 8 (s.bids.map Bid.cs), .lst 6 (s.votes.map Vote.cs)] 3) :: (18, VI v.bid) :: (17, .ref 0 6 0 1) :: (16, .v (.bool false)) :: (15, .v (.bool false)) :: (14, VI (List.length s.seats : Int)) :: (J49 s v)
end
theorem chk2_fn (v : Vote) (s : Syn) (hx : s.Big) : Fn Tryd.prog 44 [.agg [VI v.kind, VI v.bid, VI v.node, VI v.copy.at_.time, VI v.copy.at_.who, .v (.string v.copy.data)], .pim [.lst 1 (s.voters.weights.map cI), VI s.voters.need, .lst 5 (s.seats.map Seat.cs), .lst 8 (s.bids.map Bid.cs), .lst 6 (s.votes.map Vote.cs)] 0] (VI (s.voteE v)) := by
 refine fnw F44_ok ?_
 refine srl 2 [1, 2] ⟨[(2, .ref 0 6 0 0), (1, .pim [.lst 1 (s.voters.weights.map cI), VI s.voters.need, .lst 5 (s.seats.map Seat.cs), .lst 8 (s.bids.map Bid.cs), .lst 6 (s.votes.map Vote.cs)] 0)], [(J45 v)]⟩ ?_
 refine srr 1 ⟨(J47 s v), [(J45 v)]⟩ ?_
 refine owg [(J46 v)] ⟨(6, VI v.checkE) :: (J47 s v), [(J45 v)]⟩ (vcheck_fn v) ?_
 refine owl 1 [1, 2, 4] ⟨(J48 s v), [(J45 v)]⟩ ?_
 refine EL.seq ?_
 refine srr 3 ⟨(9, .v (.bool (v.checkE == 0))) :: (8, .v (.bool (v.checkE == 0))) :: (7, VI v.checkE) :: (J48 s v), [(J45 v)]⟩ ?_
 cases h1 : (v.checkE == 0)
 have g1 := bqF h1
 refine owl 15 [4, 24] ⟨[(24, .v (.bool false)), (4, VI v.checkE)], [(J45 v)]⟩ ?_
 refine cnF ?_
 refine skn ?_
 refine srl 2 [3] ⟨[(3, VI v.checkE)], [(J45 v)]⟩ ?_
 refine EL.ret ?_
 refine rqe (VI v.checkE) ?_
 rotate_left
 have g1 := bqT h1
 refine owr 4 ⟨(J49 s v), [(J45 v)]⟩ ?_
 refine ow2 ⟨(14, VI (List.length s.seats : Int)) :: (J49 s v), [(J45 v)]⟩ (oln Seat.cs s.seats (.s 13) 5) ?_
 refine owr 2 ⟨(16, .v (.bool (decide (v.node ≥ (List.length s.seats : Int))))) :: (15, .v (.bool (decide (v.node ≥ (List.length s.seats : Int))))) :: (14, VI (List.length s.seats : Int)) :: (J49 s v), [(J45 v)]⟩ ?_
 cases h2 : (decide (v.node ≥ (List.length s.seats : Int)))
 have g2 := of_decide_eq_false h2
 refine owr 4 ⟨(J50 s v), [(J45 v)]⟩ ?_
 refine ow2 ⟨(21, VI (List.length s.bids : Int)) :: (J50 s v), [(J45 v)]⟩ (oln Bid.cs s.bids (.s 20) 8) ?_
 refine owl 3 [4, 24] ⟨[(24, .v (.bool (decide (v.bid ≥ (List.length s.bids : Int))))), (4, VI v.checkE)], [(J45 v)]⟩ ?_
 cases h3 : (decide (v.bid ≥ (List.length s.bids : Int)))
 have g3 := of_decide_eq_false h3
 refine cnF ?_
 refine skn ?_
 refine srl 2 [3] ⟨[(3, VI v.checkE)], [(J45 v)]⟩ ?_
 refine EL.ret ?_
 refine rqe (VI v.checkE) ?_
 rotate_left
 have g3 := of_decide_eq_true h3
 refine cnT ?_
 refine roe 1 ⟨[(4, VI 3), (24, .v (.bool true))], [(J45 v)]⟩ ?_
 refine tN ?_
 refine srl 2 [3] ⟨[(3, VI 3)], [(J45 v)]⟩ ?_
 refine EL.ret ?_
 refine rqe (VI 3) ?_
 rotate_left
 have g2 := of_decide_eq_true h2
 refine owl 8 [4, 24] ⟨[(24, .v (.bool true)), (4, VI v.checkE)], [(J45 v)]⟩ ?_
 refine cnT ?_
 refine roe 1 ⟨[(4, VI 3), (24, .v (.bool true))], [(J45 v)]⟩ ?_
 refine tN ?_
 refine srl 2 [3] ⟨[(3, VI 3)], [(J45 v)]⟩ ?_
 refine EL.ret ?_
 refine rqe (VI 3) ?_
 rotate_left
 all_goals ((refine congrArg (fun n => VI n) ?_; simp only [Syn.voteE]; (repeat' split) <;> first | rfl | omega | (simp_all; done) | (simp_all; omega)))
section
variable (a3 : Bid) (k : Nat) (s : Syn) (xs : List Bid)
abbrev J62 := (a3.checkE s.voters.weights s.voters.need)
abbrev J51 : LS := [(8, .lst 8 (xs.map Bid.cs)), (0, .lst 8 (xs.map Bid.cs)), (1, .fn 41 [.pim [.lst 1 (s.voters.weights.map cI), VI s.voters.need, .lst 5 (s.seats.map Seat.cs), .lst 8 (s.bids.map Bid.cs), .lst 6 (s.votes.map Vote.cs)] 0])]
abbrev J52 : LS := [(10, VI 0), (9, VI (List.length xs : Int)), (8, .lst 8 (xs.map Bid.cs)), (1, .fn 41 [.pim [.lst 1 (s.voters.weights.map cI), VI s.voters.need, .lst 5 (s.seats.map Seat.cs), .lst 8 (s.bids.map Bid.cs), .lst 6 (s.votes.map Vote.cs)] 0])]
abbrev J53 : LS := [(1, .fn 41 [.pim [.lst 1 (s.voters.weights.map cI), VI s.voters.need, .lst 5 (s.seats.map Seat.cs), .lst 8 (s.bids.map Bid.cs), .lst 6 (s.votes.map Vote.cs)] 0]), (8, .lst 8 (xs.map Bid.cs)), (9, VI (List.length xs : Int)), (10, VI (k : Int))]
abbrev J54 : LS := (12, .pim [VI a3.time, VI a3.phase, .v (.string a3.own), .v (.string a3.value), VI a3.best.at_.time, VI a3.best.at_.who, .v (.string a3.best.data), .v (.int .u64 (a3.heard.n : Int))] 0) :: (11, .v (.bool true)) :: (J53 k s xs)
abbrev J55 : OB := some ⟨8, [[VI a3.time, VI a3.phase, .v (.string a3.own), .v (.string a3.value), VI a3.best.at_.time, VI a3.best.at_.who, .v (.string a3.best.data), .v (.int .u64 (a3.heard.n : Int))]]⟩
abbrev J56 : AV := .agg [VI a3.time, VI a3.phase, .v (.string a3.own), .v (.string a3.value), VI a3.best.at_.time, VI a3.best.at_.who, .v (.string a3.best.data), .v (.int .u64 (a3.heard.n : Int))]
abbrev J57 : LS := (15, (J56 a3)) :: (14, .fn 41 [.pim [.lst 1 (s.voters.weights.map cI), VI s.voters.need, .lst 5 (s.seats.map Seat.cs), .lst 8 (s.bids.map Bid.cs), .lst 6 (s.votes.map Vote.cs)] 0]) :: (6, .ref 0 8 0 0) :: (J53 k s xs)
abbrev J58 : LS := (16, VI (J62 a3 s)) :: (J57 a3 k s xs)
abbrev J59 : LS := (7, VI (J62 a3 s)) :: (J53 k s xs)
abbrev J60 : LS := [(18, .v (.bool false)), (7, VI (J62 a3 s)), (1, .fn 41 [.pim [.lst 1 (s.voters.weights.map cI), VI s.voters.need, .lst 5 (s.seats.map Seat.cs), .lst 8 (s.bids.map Bid.cs), .lst 6 (s.votes.map Vote.cs)] 0]), (8, .lst 8 (xs.map Bid.cs)), (9, VI (List.length xs : Int))]
abbrev J61 : LS := (10, VI ((k : Int) + 1)) :: (20, VI ((k : Int) + 1)) :: (J60 a3 s xs)
end
theorem firstB_fn (xs : List Bid) (s : Syn) (hx : xs.length ≤ 9223372036854775807) (hbig : s.Big) : Fn Tryd.prog 40 [.lst 8 (xs.map Bid.cs), .fn 41 [.pim [.lst 1 (s.voters.weights.map cI), VI s.voters.need, .lst 5 (s.seats.map Seat.cs), .lst 8 (s.bids.map Bid.cs), .lst 6 (s.votes.map Vote.cs)] 0]] (VI (firstE (fun b => b.checkE s.voters.weights s.voters.need) xs)) := by
 refine fnw F40_ok ?_
 refine srl 1 [0, 1] ⟨[(0, .lst 8 (xs.map Bid.cs)), (1, .fn 41 [.pim [.lst 1 (s.voters.weights.map cI), VI s.voters.need, .lst 5 (s.seats.map Seat.cs), .lst 8 (s.bids.map Bid.cs), .lst 6 (s.votes.map Vote.cs)] 0])], []⟩ ?_
 refine EL.seq ?_
 refine srr 1 ⟨(J51 s xs), []⟩ ?_
 refine ow2 ⟨(9, VI (List.length xs : Int)) :: (J51 s xs), []⟩ (oln Bid.cs xs (.s 8) 8) ?_
 refine owl 1 [1, 8, 9, 10] ⟨(J52 s xs), []⟩ ?_
 refine EL.block ?_
 refine EL.loopN (fun mM xX => ∃ (k : Nat), mM = xs.length - k ∧ (k ≤ xs.length ∧ firstE (fun b => b.checkE s.voters.weights s.voters.need) xs = firstE (fun b => b.checkE s.voters.weights s.voters.need) (xs.drop k)) ∧ xX = ⟨(J53 k s xs), []⟩) (y := (fun (k : Nat) => (⟨(J53 k s xs), []⟩ : L3)) 0) [1, 8, 9, 10] [] [] (by kernel_rfl) trivial ⟨0, rfl, by simp, rfl⟩ ?_
 rintro _ _ ⟨k, rfl, hI1, rfl⟩
 obtain ⟨hk, hs⟩ := hI1
 refine srl 1 [1, 8, 9, 10, 11] ⟨(11, .v (.bool (decide ((k : Int) < (List.length xs : Int))))) :: (J53 k s xs), []⟩ ?_
 refine EL.seq ?_
 cases h2 : (decide ((k : Int) < (List.length xs : Int)))
 have g2 := of_decide_eq_false h2
 have n2 : ¬ ((k) < (List.length xs)) := by omega
 refine cnF ?_
 refine EL.exit ?_
 refine tX ?_
 refine tX ?_
 refine iH ?_
 refine tN ?_
 refine srl 1 [4] ⟨[(4, VI 0)], []⟩ ?_
 refine EL.ret ?_
 refine rqe (VI 0) ?_
 rotate_left
 have g2 := of_decide_eq_true h2
 have n2 : ((k) < (List.length xs)) := by omega
 refine cnT ?_
 refine skn ?_
 refine EL.seq ?_
 refine EL.block ?_
 refine EL.sreg ?_
 obtain ⟨a3, ha3⟩ : ∃ y, xs[((k : Int) : Int).toNat]? = some y := idx_ex ⟨by omega, by omega⟩
 have iha3 : xs[k]? = some a3 := by simpa using ha3
 have dha3 := drop_get iha3
 refine ow2 ⟨(J54 a3 k s xs), []⟩ (oid Bid.cs xs (.s 8) (.s 10) 8 .i64 (k : Int) a3 (by omega) ha3) ?_
 refine owl 3 [1, 6, 8, 9, 10] ⟨(6, .ref 0 8 0 0) :: (J53 k s xs), [(J55 a3)]⟩ ?_
 refine srr 2 ⟨(J57 a3 k s xs), [(J55 a3)]⟩ ?_
 refine owg [(J56 a3), .pim [.lst 1 (s.voters.weights.map cI), VI s.voters.need, .lst 5 (s.seats.map Seat.cs), .lst 8 (s.bids.map Bid.cs), .lst 6 (s.votes.map Vote.cs)] 0] ⟨(J58 a3 k s xs), [(J55 a3)]⟩ (chk1_fn a3 s (by first | assumption | exact hbig)) ?_
 refine owl 1 [1, 7, 8, 9, 10] ⟨(J59 a3 k s xs), [(J55 a3)]⟩ ?_
 refine srl 2 [1, 7, 8, 9, 10, 18] ⟨(18, .v (.bool ((J62 a3 s) != 0))) :: (J59 a3 k s xs), [(J55 a3)]⟩ ?_
 cases h4 : ((a3.checkE s.voters.weights s.voters.need) != 0)
 have g4 := bnF h4
 refine cnF ?_
 refine EL.skip ?_
 refine iN ?_
 refine tN ?_
 refine EL.reg0 ?_
 refine owr 2 ⟨(10, VI (IntKind.i64.wrap ((k : Int) + 1))) :: (20, VI (IntKind.i64.wrap ((k : Int) + 1))) :: (J60 a3 s xs), [(J55 a3)]⟩ ?_
 have e5 := wr64 (n := (k : Int) + 1) (by omega)
 rw [e5]
 refine owe 0 ⟨(J61 a3 k s xs), [(J55 a3)]⟩ ?_
 refine tN ?_
 refine rE (live := [1, 8, 9, 10]) (src := []) (es := []) (y := (fun (k : Nat) => (⟨(J53 k s xs), []⟩ : L3)) (k + 1)) ?_ trivial ?_ ⟨(k + 1), rfl, ?_, rfl⟩
 kernel_rfl
 omega
 focus (refine ⟨by omega, ?_⟩; rw [hs]; simp [firstE, *])
 have g4 := bnT h4
 refine cnT ?_
 refine srl 2 [4] ⟨[(4, VI (J62 a3 s))], [(J55 a3)]⟩ ?_
 refine EL.ret ?_
 refine iR ?_
 refine tR ?_
 refine tR ?_
 refine iR ?_
 refine tR ?_
 refine rqe (VI (a3.checkE s.voters.weights s.voters.need)) ?_
 rotate_left
 all_goals ((refine congrArg (fun n => VI n) ?_; rw [hs]; first | (rw [List.drop_eq_nil_of_le (by omega)]; rfl) | (simp [firstE, *]; done)))
section
variable (a3 : Vote) (k : Nat) (s : Syn) (xs : List Vote)
abbrev J63 : LS := [(8, .lst 6 (xs.map Vote.cs)), (0, .lst 6 (xs.map Vote.cs)), (1, .fn 44 [.pim [.lst 1 (s.voters.weights.map cI), VI s.voters.need, .lst 5 (s.seats.map Seat.cs), .lst 8 (s.bids.map Bid.cs), .lst 6 (s.votes.map Vote.cs)] 0])]
abbrev J64 : LS := [(10, VI 0), (9, VI (List.length xs : Int)), (8, .lst 6 (xs.map Vote.cs)), (1, .fn 44 [.pim [.lst 1 (s.voters.weights.map cI), VI s.voters.need, .lst 5 (s.seats.map Seat.cs), .lst 8 (s.bids.map Bid.cs), .lst 6 (s.votes.map Vote.cs)] 0])]
abbrev J65 : LS := [(1, .fn 44 [.pim [.lst 1 (s.voters.weights.map cI), VI s.voters.need, .lst 5 (s.seats.map Seat.cs), .lst 8 (s.bids.map Bid.cs), .lst 6 (s.votes.map Vote.cs)] 0]), (8, .lst 6 (xs.map Vote.cs)), (9, VI (List.length xs : Int)), (10, VI (k : Int))]
abbrev J66 : LS := (12, .pim [VI a3.kind, VI a3.bid, VI a3.node, VI a3.copy.at_.time, VI a3.copy.at_.who, .v (.string a3.copy.data)] 0) :: (11, .v (.bool true)) :: (J65 k s xs)
abbrev J67 : OB := some ⟨6, [[VI a3.kind, VI a3.bid, VI a3.node, VI a3.copy.at_.time, VI a3.copy.at_.who, .v (.string a3.copy.data)]]⟩
abbrev J68 : AV := .agg [VI a3.kind, VI a3.bid, VI a3.node, VI a3.copy.at_.time, VI a3.copy.at_.who, .v (.string a3.copy.data)]
abbrev J69 : LS := (15, (J68 a3)) :: (14, .fn 44 [.pim [.lst 1 (s.voters.weights.map cI), VI s.voters.need, .lst 5 (s.seats.map Seat.cs), .lst 8 (s.bids.map Bid.cs), .lst 6 (s.votes.map Vote.cs)] 0]) :: (6, .ref 0 6 0 0) :: (J65 k s xs)
abbrev J70 : LS := [(18, .v (.bool false)), (7, VI (s.voteE a3)), (1, .fn 44 [.pim [.lst 1 (s.voters.weights.map cI), VI s.voters.need, .lst 5 (s.seats.map Seat.cs), .lst 8 (s.bids.map Bid.cs), .lst 6 (s.votes.map Vote.cs)] 0]), (8, .lst 6 (xs.map Vote.cs)), (9, VI (List.length xs : Int))]
abbrev J71 : LS := (10, VI ((k : Int) + 1)) :: (20, VI ((k : Int) + 1)) :: (J70 a3 s xs)
end
theorem firstV_fn (xs : List Vote) (s : Syn) (hx : xs.length ≤ 9223372036854775807) (hbig : s.Big) : Fn Tryd.prog 43 [.lst 6 (xs.map Vote.cs), .fn 44 [.pim [.lst 1 (s.voters.weights.map cI), VI s.voters.need, .lst 5 (s.seats.map Seat.cs), .lst 8 (s.bids.map Bid.cs), .lst 6 (s.votes.map Vote.cs)] 0]] (VI (firstE (s.voteE) xs)) := by
 refine fnw F43_ok ?_
 refine srl 1 [0, 1] ⟨[(0, .lst 6 (xs.map Vote.cs)), (1, .fn 44 [.pim [.lst 1 (s.voters.weights.map cI), VI s.voters.need, .lst 5 (s.seats.map Seat.cs), .lst 8 (s.bids.map Bid.cs), .lst 6 (s.votes.map Vote.cs)] 0])], []⟩ ?_
 refine EL.seq ?_
 refine srr 1 ⟨(J63 s xs), []⟩ ?_
 refine ow2 ⟨(9, VI (List.length xs : Int)) :: (J63 s xs), []⟩ (oln Vote.cs xs (.s 8) 6) ?_
 refine owl 1 [1, 8, 9, 10] ⟨(J64 s xs), []⟩ ?_
 refine EL.block ?_
 refine EL.loopN (fun mM xX => ∃ (k : Nat), mM = xs.length - k ∧ (k ≤ xs.length ∧ firstE (s.voteE) xs = firstE (s.voteE) (xs.drop k)) ∧ xX = ⟨(J65 k s xs), []⟩) (y := (fun (k : Nat) => (⟨(J65 k s xs), []⟩ : L3)) 0) [1, 8, 9, 10] [] [] (by kernel_rfl) trivial ⟨0, rfl, by simp, rfl⟩ ?_
 rintro _ _ ⟨k, rfl, hI1, rfl⟩
 obtain ⟨hk, hs⟩ := hI1
 refine srl 1 [1, 8, 9, 10, 11] ⟨(11, .v (.bool (decide ((k : Int) < (List.length xs : Int))))) :: (J65 k s xs), []⟩ ?_
 refine EL.seq ?_
 cases h2 : (decide ((k : Int) < (List.length xs : Int)))
 have g2 := of_decide_eq_false h2
 have n2 : ¬ ((k) < (List.length xs)) := by omega
 refine cnF ?_
 refine EL.exit ?_
 refine tX ?_
 refine tX ?_
 refine iH ?_
 refine tN ?_
 refine srl 1 [4] ⟨[(4, VI 0)], []⟩ ?_
 refine EL.ret ?_
 refine rqe (VI 0) ?_
 rotate_left
 have g2 := of_decide_eq_true h2
 have n2 : ((k) < (List.length xs)) := by omega
 refine cnT ?_
 refine skn ?_
 refine EL.seq ?_
 refine EL.block ?_
 refine EL.sreg ?_
 obtain ⟨a3, ha3⟩ : ∃ y, xs[((k : Int) : Int).toNat]? = some y := idx_ex ⟨by omega, by omega⟩
 have iha3 : xs[k]? = some a3 := by simpa using ha3
 have dha3 := drop_get iha3
 refine ow2 ⟨(J66 a3 k s xs), []⟩ (oid Vote.cs xs (.s 8) (.s 10) 6 .i64 (k : Int) a3 (by omega) ha3) ?_
 refine owl 3 [1, 6, 8, 9, 10] ⟨(6, .ref 0 6 0 0) :: (J65 k s xs), [(J67 a3)]⟩ ?_
 refine srr 2 ⟨(J69 a3 k s xs), [(J67 a3)]⟩ ?_
 refine owg [(J68 a3), .pim [.lst 1 (s.voters.weights.map cI), VI s.voters.need, .lst 5 (s.seats.map Seat.cs), .lst 8 (s.bids.map Bid.cs), .lst 6 (s.votes.map Vote.cs)] 0] ⟨(16, VI (s.voteE a3)) :: (J69 a3 k s xs), [(J67 a3)]⟩ (chk2_fn a3 s (by first | assumption | exact hbig)) ?_
 refine owl 1 [1, 7, 8, 9, 10] ⟨(7, VI (s.voteE a3)) :: (J65 k s xs), [(J67 a3)]⟩ ?_
 refine srl 2 [1, 7, 8, 9, 10, 18] ⟨(18, .v (.bool ((s.voteE a3) != 0))) :: (7, VI (s.voteE a3)) :: (J65 k s xs), [(J67 a3)]⟩ ?_
 cases h4 : ((s.voteE a3) != 0)
 have g4 := bnF h4
 refine cnF ?_
 refine EL.skip ?_
 refine iN ?_
 refine tN ?_
 refine EL.reg0 ?_
 refine owr 2 ⟨(10, VI (IntKind.i64.wrap ((k : Int) + 1))) :: (20, VI (IntKind.i64.wrap ((k : Int) + 1))) :: (J70 a3 s xs), [(J67 a3)]⟩ ?_
 have e5 := wr64 (n := (k : Int) + 1) (by omega)
 rw [e5]
 refine owe 0 ⟨(J71 a3 k s xs), [(J67 a3)]⟩ ?_
 refine tN ?_
 refine rE (live := [1, 8, 9, 10]) (src := []) (es := []) (y := (fun (k : Nat) => (⟨(J65 k s xs), []⟩ : L3)) (k + 1)) ?_ trivial ?_ ⟨(k + 1), rfl, ?_, rfl⟩
 kernel_rfl
 omega
 focus (refine ⟨by omega, ?_⟩; rw [hs]; simp [firstE, *])
 have g4 := bnT h4
 refine cnT ?_
 refine srl 2 [4] ⟨[(4, VI (s.voteE a3))], [(J67 a3)]⟩ ?_
 refine EL.ret ?_
 refine iR ?_
 refine tR ?_
 refine tR ?_
 refine iR ?_
 refine tR ?_
 refine rqe (VI (s.voteE a3)) ?_
 rotate_left
 all_goals ((refine congrArg (fun n => VI n) ?_; rw [hs]; first | (rw [List.drop_eq_nil_of_le (by omega)]; rfl) | (simp [firstE, *]; done)))
section
variable (s : Syn)
abbrev J84 := (qcheckP s.voters.weights s.voters.need)
abbrev J85 := (firstE (Seat.checkE) s.seats)
abbrev J72 : OB := some ⟨5, [[.lst 1 (s.voters.weights.map cI), VI s.voters.need, .lst 5 (s.seats.map Seat.cs), .lst 8 (s.bids.map Bid.cs), .lst 6 (s.votes.map Vote.cs)]]⟩
abbrev J73 : LS := [(11, VI s.voters.need), (10, .ref 0 5 0 1), (9, .ref 0 5 0 0), (8, .lst 1 (s.voters.weights.map cI)), (7, .ref 0 5 0 0), (6, .ref 0 5 0 0), (1, .ref 0 5 0 0)]
abbrev J74 : LS := (12, VI (J84 s)) :: (J73 s)
abbrev J75 : LS := [(17, .lst 5 (s.seats.map Seat.cs)), (16, .ref 0 5 0 2), (14, .v (.bool false)), (3, VI (J84 s)), (1, .ref 0 5 0 0)]
abbrev J76 : LS := (21, .lst 1 (s.voters.weights.map cI)) :: (20, .ref 0 5 0 0) :: (19, .ref 0 5 0 0) :: (18, VI (List.length s.seats : Int)) :: (J75 s)
abbrev J77 : LS := (22, VI (List.length s.voters.weights : Int)) :: (J76 s)
abbrev J78 : LS := [(25, .lst 5 (s.seats.map Seat.cs)), (24, .ref 0 5 0 2), (23, .v (.bool false)), (1, .ref 0 5 0 0)]
abbrev J79 : LS := [(31, .lst 8 (s.bids.map Bid.cs)), (30, .ref 0 5 0 3), (28, .v (.bool false)), (4, VI (J85 s)), (1, .ref 0 5 0 0)]
abbrev J80 : LS := [(36, .fn 41 [.ref 0 5 0 0]), (35, .lst 8 (s.bids.map Bid.cs)), (34, .ref 0 5 0 3), (33, .v (.bool false)), (1, .ref 0 5 0 0)]
abbrev J81 : LS := (37, VI (firstE (fun b => b.checkE s.voters.weights s.voters.need) s.bids)) :: (J80 s)
abbrev J82 : LS := [(42, .lst 6 (s.votes.map Vote.cs)), (41, .ref 0 5 0 4), (39, .v (.bool false)), (5, VI (firstE (fun b => b.checkE s.voters.weights s.voters.need) s.bids)), (1, .ref 0 5 0 0)]
abbrev J83 : LS := [(47, .fn 44 [.ref 0 5 0 0]), (46, .lst 6 (s.votes.map Vote.cs)), (45, .ref 0 5 0 4), (44, .v (.bool false)), (1, .ref 0 5 0 0)]
end
theorem check_fn (s : Syn) (hx : s.Big) : Fn Tryd.prog 18 [.agg [.lst 1 (s.voters.weights.map cI), VI s.voters.need, .lst 5 (s.seats.map Seat.cs), .lst 8 (s.bids.map Bid.cs), .lst 6 (s.votes.map Vote.cs)]] (VI s.checkE) := by
 refine fnw F18_ok ?_
 refine srl 2 [1] ⟨[(1, .ref 0 5 0 0)], [(J72 s)]⟩ ?_
 refine EL.seq ?_
 refine srr 6 ⟨(J73 s), [(J72 s)]⟩ ?_
 refine owg [.lst 1 (s.voters.weights.map cI), VI s.voters.need] ⟨(J74 s), [(J72 s)]⟩ (qcheck_fn s.voters.weights s.voters.need (by first | omega | assumption | exact hx.1)) ?_
 refine owl 1 [1, 3] ⟨[(3, VI (J84 s)), (1, .ref 0 5 0 0)], [(J72 s)]⟩ ?_
 refine srl 2 [1, 3, 14] ⟨[(14, .v (.bool ((J84 s) != 0))), (3, VI (J84 s)), (1, .ref 0 5 0 0)], [(J72 s)]⟩ ?_
 cases h1 : ((qcheckP s.voters.weights s.voters.need) != 0)
 have g1 := bnF h1
 refine cnF ?_
 refine skn ?_
 refine EL.seq ?_
 refine srr 2 ⟨(J75 s), [(J72 s)]⟩ ?_
 refine ow2 ⟨(18, VI (List.length s.seats : Int)) :: (J75 s), [(J72 s)]⟩ (oln Seat.cs s.seats (.s 17) 5) ?_
 refine owr 3 ⟨(J76 s), [(J72 s)]⟩ ?_
 refine ow2 ⟨(J77 s), [(J72 s)]⟩ (oln cI s.voters.weights (.s 21) 1) ?_
 refine owl 1 [1, 23] ⟨[(23, .v (.bool ((List.length s.seats : Int) != (List.length s.voters.weights : Int)))), (1, .ref 0 5 0 0)], [(J72 s)]⟩ ?_
 cases h2 : ((List.length s.seats : Int) != (List.length s.voters.weights : Int))
 have g2 := bnF h2
 have n2 : ((List.length s.seats) = (List.length s.voters.weights)) := by omega
 refine cnF ?_
 refine skn ?_
 refine EL.seq ?_
 refine srr 2 ⟨(J78 s), [(J72 s)]⟩ ?_
 refine owg [.lst 5 (s.seats.map Seat.cs), .fn 39 []] ⟨(26, VI (J85 s)) :: (J78 s), [(J72 s)]⟩ (firstS_fn s.seats (by first | omega | exact hx.2.1 | exact hx.2.2.1 | exact hx.2.2.2)) ?_
 refine owl 1 [1, 4] ⟨[(4, VI (J85 s)), (1, .ref 0 5 0 0)], [(J72 s)]⟩ ?_
 refine srl 2 [1, 4, 28] ⟨[(28, .v (.bool ((J85 s) != 0))), (4, VI (J85 s)), (1, .ref 0 5 0 0)], [(J72 s)]⟩ ?_
 cases h3 : ((firstE (Seat.checkE) s.seats) != 0)
 have g3 := bnF h3
 refine cnF ?_
 refine skn ?_
 refine EL.seq ?_
 refine srr 2 ⟨(J79 s), [(J72 s)]⟩ ?_
 refine ow2 ⟨(32, VI (List.length s.bids : Int)) :: (J79 s), [(J72 s)]⟩ (oln Bid.cs s.bids (.s 31) 8) ?_
 refine owl 1 [1, 33] ⟨[(33, .v (.bool (decide ((List.length s.bids : Int) > 31)))), (1, .ref 0 5 0 0)], [(J72 s)]⟩ ?_
 cases h4 : (decide ((List.length s.bids : Int) > 31))
 have g4 := of_decide_eq_false h4
 have n4 : ¬ ((List.length s.bids) > 31) := by omega
 refine cnF ?_
 refine skn ?_
 refine EL.seq ?_
 refine srr 3 ⟨(J80 s), [(J72 s)]⟩ ?_
 refine owg [.lst 8 (s.bids.map Bid.cs), .fn 41 [.ref 0 5 0 0]] ⟨(J81 s), [(J72 s)]⟩ (firstB_fn s.bids s (by first | omega | exact hx.2.1 | exact hx.2.2.1 | exact hx.2.2.2) (by assumption)) ?_
 refine owl 1 [1, 5] ⟨[(5, VI (firstE (fun b => b.checkE s.voters.weights s.voters.need) s.bids)), (1, .ref 0 5 0 0)], [(J72 s)]⟩ ?_
 refine srl 2 [1, 5, 39] ⟨[(39, .v (.bool ((firstE (fun b => b.checkE s.voters.weights s.voters.need) s.bids) != 0))), (5, VI (firstE (fun b => b.checkE s.voters.weights s.voters.need) s.bids)), (1, .ref 0 5 0 0)], [(J72 s)]⟩ ?_
 cases h5 : ((firstE (fun b => b.checkE s.voters.weights s.voters.need) s.bids) != 0)
 have g5 := bnF h5
 refine cnF ?_
 refine skn ?_
 refine EL.seq ?_
 refine srr 2 ⟨(J82 s), [(J72 s)]⟩ ?_
 refine ow2 ⟨(43, VI (List.length s.votes : Int)) :: (J82 s), [(J72 s)]⟩ (oln Vote.cs s.votes (.s 42) 6) ?_
 refine owl 1 [1, 44] ⟨[(44, .v (.bool (decide ((List.length s.votes : Int) > 200)))), (1, .ref 0 5 0 0)], [(J72 s)]⟩ ?_
 cases h6 : (decide ((List.length s.votes : Int) > 200))
 have g6 := of_decide_eq_false h6
 have n6 : ¬ ((List.length s.votes) > 200) := by omega
 refine cnF ?_
 refine skn ?_
 refine srr 3 ⟨(J83 s), [(J72 s)]⟩ ?_
 refine owg [.lst 6 (s.votes.map Vote.cs), .fn 44 [.ref 0 5 0 0]] ⟨(48, VI (firstE (s.voteE) s.votes)) :: (J83 s), [(J72 s)]⟩ (firstV_fn s.votes s (by first | omega | exact hx.2.1 | exact hx.2.2.1 | exact hx.2.2.2) (by assumption)) ?_
 refine owl 1 [2] ⟨[(2, VI (firstE (s.voteE) s.votes))], [(J72 s)]⟩ ?_
 refine EL.ret ?_
 refine rqe (VI (firstE (s.voteE) s.votes)) ?_
 rotate_left
 have g6 := of_decide_eq_true h6
 have n6 : ((List.length s.votes) > 200) := by omega
 refine cnT ?_
 refine srl 1 [2] ⟨[(2, VI 2)], [(J72 s)]⟩ ?_
 refine rtr ?_
 refine rqe (VI 2) ?_
 rotate_left
 have g5 := bnT h5
 refine cnT ?_
 refine srl 2 [2] ⟨[(2, VI (firstE (fun b => b.checkE s.voters.weights s.voters.need) s.bids))], [(J72 s)]⟩ ?_
 refine rtr ?_
 refine rqe (VI (firstE (fun b => b.checkE s.voters.weights s.voters.need) s.bids)) ?_
 rotate_left
 have g4 := of_decide_eq_true h4
 have n4 : ((List.length s.bids) > 31) := by omega
 refine cnT ?_
 refine srl 1 [2] ⟨[(2, VI 2)], [(J72 s)]⟩ ?_
 refine rtr ?_
 refine rqe (VI 2) ?_
 rotate_left
 have g3 := bnT h3
 refine cnT ?_
 refine srl 2 [2] ⟨[(2, VI (J85 s))], [(J72 s)]⟩ ?_
 refine rtr ?_
 refine rqe (VI (firstE (Seat.checkE) s.seats)) ?_
 rotate_left
 have g2 := bnT h2
 have n2 : ¬ ((List.length s.seats) = (List.length s.voters.weights)) := by omega
 refine cnT ?_
 refine srl 1 [2] ⟨[(2, VI 1)], [(J72 s)]⟩ ?_
 refine rtr ?_
 refine rqe (VI 1) ?_
 rotate_left
 have g1 := bnT h1
 refine cnT ?_
 refine srl 2 [2] ⟨[(2, VI (J84 s))], [(J72 s)]⟩ ?_
 refine rtr ?_
 refine rqe (VI (qcheckP s.voters.weights s.voters.need)) ?_
 rotate_left
 all_goals ((refine congrArg (fun n => VI n) ?_; clear hx; simp only [Syn.checkE]; (repeat' split) <;> first | rfl | omega | contradiction | (simp_all; done) | (simp_all; omega)))
theorem firstE_at {α : Type} {f : α → Int} {l r : List α} {k : Nat} {a : α} (hs : firstE f l = firstE f (l.drop k)) (hd : l.drop k = a :: r) (h : f a ≠ 0) : firstE f l = f a := by rw [hs, hd, firstE, if_pos h]
theorem firstE_go {α : Type} {f : α → Int} {l r : List α} {k : Nat} {a : α} (hs : firstE f l = firstE f (l.drop k)) (hd : l.drop k = a :: r) (h : f a = 0) : firstE f l = firstE f r := by rw [hs, hd, firstE, if_neg (fun hh => hh h)]
theorem firstE_end {α : Type} {f : α → Int} {l : List α} {k : Nat} (hs : firstE f l = firstE f (l.drop k)) (h : ¬ k < l.length) : firstE f l = 0 := by rw [hs, List.drop_eq_nil_of_le (by omega)]; rfl
theorem erase_cut {α : Type} {l : List α} {n : Int} (hn : 0 ≤ n ∧ n < l.length) : l.eraseIdx n.toNat = l.take n.toNat ++ (l.drop (n + 1).toNat).take (l.length - (n + 1).toNat) := by
  rw [List.eraseIdx_eq_take_drop_succ, show (n + 1).toNat = n.toNat + 1 by omega]
  exact congrArg _ (List.take_of_length_le (by simp)).symm
theorem Syn.voteE_c {s : Syn} {v : Vote} (h : v.checkE ≠ 0) : s.voteE v = v.checkE := if_pos h
theorem Syn.voteE_3 {s : Syn} {v : Vote} (h : v.checkE = 0) (h2 : v.node ≥ s.seats.length ∨ v.bid ≥ s.bids.length) : s.voteE v = 3 := by unfold Syn.voteE; rw [if_neg (fun hh => hh h), if_pos h2]
theorem Syn.voteE_0 {s : Syn} {v : Vote} (h : v.checkE = 0) (h1 : ¬ v.node ≥ s.seats.length) (h2 : ¬ v.bid ≥ s.bids.length) : s.voteE v = 0 := by unfold Syn.voteE; rw [if_neg (fun hh => hh h), if_neg (by omega)]
section
variable (k : Nat) (out : List Seat) (v : Vtr)
end
section
variable (a13 : Bid) (a20 : Vote) (a6 : Seat) (i : Nat) (j : Nat) (k : Nat) (s : Syn)
abbrev K67 := (qcheckP s.voters.weights s.voters.need)
abbrev K68 := (a13.checkE s.voters.weights s.voters.need)
abbrev K29 : OB := some ⟨5, [[.lst 1 (s.voters.weights.map cI), VI s.voters.need, .lst 5 (s.seats.map Seat.cs), .lst 8 (s.bids.map Bid.cs), .lst 6 (s.votes.map Vote.cs)]]⟩
abbrev K30 : LS := [(12, VI s.voters.need), (11, .ref 0 5 0 1), (10, .ref 0 5 0 0), (9, .lst 1 (s.voters.weights.map cI)), (8, .ref 0 5 0 0), (7, .ref 0 5 0 0), (1, .ref 0 5 0 0)]
abbrev K31 : LS := (13, VI (K67 s)) :: (K30 s)
abbrev K32 : LS := [(18, .lst 5 (s.seats.map Seat.cs)), (17, .ref 0 5 0 2), (15, .v (.bool false)), (3, VI (K67 s)), (1, .ref 0 5 0 0)]
abbrev K33 : LS := (22, .lst 1 (s.voters.weights.map cI)) :: (21, .ref 0 5 0 0) :: (20, .ref 0 5 0 0) :: (19, VI (List.length s.seats : Int)) :: (K32 s)
abbrev K34 : LS := (23, VI (List.length s.voters.weights : Int)) :: (K33 s)
abbrev K35 : LS := [(27, .lst 5 (s.seats.map Seat.cs)), (26, .ref 0 5 0 2), (25, VI (k : Int)), (1, .ref 0 5 0 0), (4, VI (k : Int))]
abbrev K36 : LS := [(34, VI (k : Int)), (33, .lst 5 (s.seats.map Seat.cs)), (32, .ref 0 5 0 2), (29, .v (.bool true)), (1, .ref 0 5 0 0), (4, VI (k : Int))]
abbrev K37 : LS := (35, .pim [VI a6.promised.time, VI a6.promised.who, VI a6.kept.at_.time, VI a6.kept.at_.who, .v (.string a6.kept.data)] 0) :: (K36 k s)
abbrev K38 : AV := .agg [VI a6.promised.time, VI a6.promised.who, VI a6.kept.at_.time, VI a6.kept.at_.who, .v (.string a6.kept.data)]
abbrev K39 : LS := [(3, VI a6.checkE), (1, .ref 0 5 0 0), (4, VI (k : Int))]
abbrev K40 : LS := [(30, VI (k : Int)), (39, .v (.bool false)), (3, VI a6.checkE), (1, .ref 0 5 0 0)]
abbrev K41 : LS := (4, VI ((k : Int) + 1)) :: (31, VI ((k : Int) + 1)) :: (K40 a6 k)
abbrev K42 : LS := [(42, .lst 8 (s.bids.map Bid.cs)), (41, .ref 0 5 0 3), (29, .v (.bool false)), (1, .ref 0 5 0 0), (4, VI (k : Int))]
abbrev K43 : LS := [(47, .lst 8 (s.bids.map Bid.cs)), (46, .ref 0 5 0 3), (45, VI (i : Int)), (1, .ref 0 5 0 0), (5, VI (i : Int))]
abbrev K44 : AV := .agg [.lst 1 (s.voters.weights.map cI), VI s.voters.need]
abbrev K45 : LS := [(56, VI (i : Int)), (55, .lst 8 (s.bids.map Bid.cs)), (54, .ref 0 5 0 3), (53, (K44 s)), (52, .ref 0 5 0 0), (49, .v (.bool true)), (1, .ref 0 5 0 0), (5, VI (i : Int))]
abbrev K46 : LS := (57, .pim [VI a13.time, VI a13.phase, .v (.string a13.own), .v (.string a13.value), VI a13.best.at_.time, VI a13.best.at_.who, .v (.string a13.best.data), .v (.int .u64 (a13.heard.n : Int))] 0) :: (K45 i s)
abbrev K47 : AV := .agg [VI a13.time, VI a13.phase, .v (.string a13.own), .v (.string a13.value), VI a13.best.at_.time, VI a13.best.at_.who, .v (.string a13.best.data), .v (.int .u64 (a13.heard.n : Int))]
abbrev K48 : LS := (59, VI (K68 a13 s)) :: (58, (K47 a13)) :: (K46 a13 i s)
abbrev K49 : LS := [(3, VI (K68 a13 s)), (1, .ref 0 5 0 0), (5, VI (i : Int))]
abbrev K50 : LS := [(50, VI (i : Int)), (61, .v (.bool false)), (3, VI (K68 a13 s)), (1, .ref 0 5 0 0)]
abbrev K51 : LS := (5, VI ((i : Int) + 1)) :: (51, VI ((i : Int) + 1)) :: (K50 a13 i s)
abbrev K52 : LS := [(64, .lst 6 (s.votes.map Vote.cs)), (63, .ref 0 5 0 4), (49, .v (.bool false)), (1, .ref 0 5 0 0), (5, VI (i : Int))]
abbrev K53 : LS := [(69, .lst 6 (s.votes.map Vote.cs)), (68, .ref 0 5 0 4), (67, VI (j : Int)), (1, .ref 0 5 0 0), (6, VI (j : Int))]
abbrev K54 : LS := [(76, VI (j : Int)), (75, .lst 6 (s.votes.map Vote.cs)), (74, .ref 0 5 0 4), (71, .v (.bool true)), (1, .ref 0 5 0 0), (6, VI (j : Int))]
abbrev K55 : LS := (77, .pim [VI a20.kind, VI a20.bid, VI a20.node, VI a20.copy.at_.time, VI a20.copy.at_.who, .v (.string a20.copy.data)] 0) :: (K54 j s)
abbrev K56 : AV := .agg [VI a20.kind, VI a20.bid, VI a20.node, VI a20.copy.at_.time, VI a20.copy.at_.who, .v (.string a20.copy.data)]
abbrev K57 : LS := [(3, VI a20.checkE), (1, .ref 0 5 0 0), (6, VI (j : Int))]
abbrev K58 : LS := (85, VI (j : Int)) :: (84, .lst 6 (s.votes.map Vote.cs)) :: (83, .ref 0 5 0 4) :: (81, .v (.bool false)) :: (K57 a20 j)
abbrev K59 : LS := (86, .pim [VI a20.kind, VI a20.bid, VI a20.node, VI a20.copy.at_.time, VI a20.copy.at_.who, .v (.string a20.copy.data)] 0) :: (K58 a20 j s)
abbrev K60 : LS := (90, .lst 5 (s.seats.map Seat.cs)) :: (89, .ref 0 5 0 2) :: (88, VI a20.node) :: (87, .pim [VI a20.kind, VI a20.bid, VI a20.node, VI a20.copy.at_.time, VI a20.copy.at_.who, .v (.string a20.copy.data)] 2) :: (K59 a20 j s)
abbrev K61 : LS := [(104, .v (.bool true)), (1, .ref 0 5 0 0), (6, VI (j : Int))]
abbrev K62 : LS := (96, VI (j : Int)) :: (95, .lst 6 (s.votes.map Vote.cs)) :: (94, .ref 0 5 0 4) :: (93, .v (.bool false)) :: (92, .v (.bool false)) :: (91, VI (List.length s.seats : Int)) :: (K60 a20 j s)
abbrev K63 : LS := (97, .pim [VI a20.kind, VI a20.bid, VI a20.node, VI a20.copy.at_.time, VI a20.copy.at_.who, .v (.string a20.copy.data)] 0) :: (K62 a20 j s)
abbrev K64 : LS := (101, .lst 8 (s.bids.map Bid.cs)) :: (100, .ref 0 5 0 3) :: (99, VI a20.bid) :: (98, .pim [VI a20.kind, VI a20.bid, VI a20.node, VI a20.copy.at_.time, VI a20.copy.at_.who, .v (.string a20.copy.data)] 1) :: (K63 a20 j s)
abbrev K65 : LS := [(72, VI (j : Int)), (104, .v (.bool false)), (1, .ref 0 5 0 0)]
abbrev K66 : LS := (6, VI ((j : Int) + 1)) :: (73, VI ((j : Int) + 1)) :: (K65 j)
end
theorem rcheck_fn (s : Syn) (hx : s.Big) : Fn Tryd.prog 19 [.agg [.lst 1 (s.voters.weights.map cI), VI s.voters.need, .lst 5 (s.seats.map Seat.cs), .lst 8 (s.bids.map Bid.cs), .lst 6 (s.votes.map Vote.cs)]] (VI s.checkE) := by
 refine fnw F19_ok ?_
 refine srl 2 [1] ⟨[(1, .ref 0 5 0 0)], [(K29 s)]⟩ ?_
 refine srr 6 ⟨(K30 s), [(K29 s)]⟩ ?_
 refine owg [.lst 1 (s.voters.weights.map cI), VI s.voters.need] ⟨(K31 s), [(K29 s)]⟩ (rqcheck_fn s.voters.weights s.voters.need (by first | assumption | exact hx.1 | exact hbig.1)) ?_
 refine owl 1 [1, 3] ⟨[(3, VI (K67 s)), (1, .ref 0 5 0 0)], [(K29 s)]⟩ ?_
 refine EL.seq ?_
 refine srl 2 [1, 3, 15] ⟨[(15, .v (.bool ((K67 s) != 0))), (3, VI (K67 s)), (1, .ref 0 5 0 0)], [(K29 s)]⟩ ?_
 cases h1 : ((qcheckP s.voters.weights s.voters.need) != 0)
 have g1 := bnF h1
 refine cnF ?_
 refine skn ?_
 refine EL.seq ?_
 refine srr 2 ⟨(K32 s), [(K29 s)]⟩ ?_
 refine ow2 ⟨(19, VI (List.length s.seats : Int)) :: (K32 s), [(K29 s)]⟩ (oln Seat.cs s.seats (.s 18) 5) ?_
 refine owr 3 ⟨(K33 s), [(K29 s)]⟩ ?_
 refine ow2 ⟨(K34 s), [(K29 s)]⟩ (oln cI s.voters.weights (.s 22) 1) ?_
 refine owl 1 [1, 24] ⟨[(24, .v (.bool ((List.length s.seats : Int) != (List.length s.voters.weights : Int)))), (1, .ref 0 5 0 0)], [(K29 s)]⟩ ?_
 cases h2 : ((List.length s.seats : Int) != (List.length s.voters.weights : Int))
 have g2 := bnF h2
 have n2 : ((List.length s.seats) = (List.length s.voters.weights)) := by omega
 refine cnF ?_
 refine skn ?_
 refine EL.seq ?_
 refine srl 1 [1, 4] ⟨[(4, VI 0), (1, .ref 0 5 0 0)], [(K29 s)]⟩ ?_
 refine EL.block ?_
 refine EL.loopN (fun mM xX => ∃ (k : Nat), mM = s.seats.length - k ∧ (k ≤ s.seats.length ∧ firstE (Seat.checkE) s.seats = firstE (Seat.checkE) (s.seats.drop k)) ∧ xX = ⟨[(1, .ref 0 5 0 0), (4, VI (k : Int))], [(K29 s)]⟩) (y := (fun (k : Nat) => (⟨[(1, .ref 0 5 0 0), (4, VI (k : Int))], [(K29 s)]⟩ : L3)) 0) [1, 4] [uf 0] [] (by kernel_rfl) trivial ⟨0, rfl, by simp, rfl⟩ ?_
 rintro _ _ ⟨k, rfl, hI3, rfl⟩
 obtain ⟨hkk, hks⟩ := hI3
 refine EL.seq ?_
 refine srr 3 ⟨(K35 k s), [(K29 s)]⟩ ?_
 refine ow2 ⟨(28, VI (List.length s.seats : Int)) :: (K35 k s), [(K29 s)]⟩ (oln Seat.cs s.seats (.s 27) 5) ?_
 refine owl 1 [1, 4, 29] ⟨[(29, .v (.bool (decide ((k : Int) < (List.length s.seats : Int))))), (1, .ref 0 5 0 0), (4, VI (k : Int))], [(K29 s)]⟩ ?_
 cases h4 : (decide ((k : Int) < (List.length s.seats : Int)))
 have g4 := of_decide_eq_false h4
 have n4 : ¬ ((k) < (List.length s.seats)) := by omega
 refine cnF ?_
 refine EL.exit ?_
 refine tX ?_
 refine tX ?_
 refine iH ?_
 refine tN ?_
 refine EL.seq ?_
 refine srr 2 ⟨(K42 k s), [(K29 s)]⟩ ?_
 refine ow2 ⟨(43, VI (List.length s.bids : Int)) :: (K42 k s), [(K29 s)]⟩ (oln Bid.cs s.bids (.s 42) 8) ?_
 refine owl 1 [1, 44] ⟨[(44, .v (.bool (decide ((List.length s.bids : Int) > 31)))), (1, .ref 0 5 0 0)], [(K29 s)]⟩ ?_
 cases h9 : (decide ((List.length s.bids : Int) > 31))
 have g9 := of_decide_eq_false h9
 have n9 : ¬ ((List.length s.bids) > 31) := by omega
 refine cnF ?_
 refine skn ?_
 refine EL.seq ?_
 refine srl 1 [1, 5] ⟨[(5, VI 0), (1, .ref 0 5 0 0)], [(K29 s)]⟩ ?_
 refine EL.block ?_
 refine EL.loopN (fun mM xX => ∃ (i : Nat), mM = s.bids.length - i ∧ (i ≤ s.bids.length ∧ firstE (fun b => Bid.checkE b s.voters.weights s.voters.need) s.bids = firstE (fun b => Bid.checkE b s.voters.weights s.voters.need) (s.bids.drop i)) ∧ xX = ⟨[(1, .ref 0 5 0 0), (5, VI (i : Int))], [(K29 s)]⟩) (y := (fun (i : Nat) => (⟨[(1, .ref 0 5 0 0), (5, VI (i : Int))], [(K29 s)]⟩ : L3)) 0) [1, 5] [uf 0] [] (by kernel_rfl) trivial ⟨0, rfl, by simp, rfl⟩ ?_
 rintro _ _ ⟨i, rfl, hI10, rfl⟩
 obtain ⟨hik, his⟩ := hI10
 refine EL.seq ?_
 refine srr 3 ⟨(K43 i s), [(K29 s)]⟩ ?_
 refine ow2 ⟨(48, VI (List.length s.bids : Int)) :: (K43 i s), [(K29 s)]⟩ (oln Bid.cs s.bids (.s 47) 8) ?_
 refine owl 1 [1, 5, 49] ⟨[(49, .v (.bool (decide ((i : Int) < (List.length s.bids : Int))))), (1, .ref 0 5 0 0), (5, VI (i : Int))], [(K29 s)]⟩ ?_
 cases h11 : (decide ((i : Int) < (List.length s.bids : Int)))
 have g11 := of_decide_eq_false h11
 have n11 : ¬ ((i) < (List.length s.bids)) := by omega
 refine cnF ?_
 refine EL.exit ?_
 refine tX ?_
 refine tX ?_
 refine iH ?_
 refine tN ?_
 refine EL.seq ?_
 refine srr 2 ⟨(K52 i s), [(K29 s)]⟩ ?_
 refine ow2 ⟨(65, VI (List.length s.votes : Int)) :: (K52 i s), [(K29 s)]⟩ (oln Vote.cs s.votes (.s 64) 6) ?_
 refine owl 1 [1, 66] ⟨[(66, .v (.bool (decide ((List.length s.votes : Int) > 200)))), (1, .ref 0 5 0 0)], [(K29 s)]⟩ ?_
 cases h16 : (decide ((List.length s.votes : Int) > 200))
 have g16 := of_decide_eq_false h16
 have n16 : ¬ ((List.length s.votes) > 200) := by omega
 refine cnF ?_
 refine skn ?_
 refine EL.seq ?_
 refine srl 1 [1, 6] ⟨[(6, VI 0), (1, .ref 0 5 0 0)], [(K29 s)]⟩ ?_
 refine EL.block ?_
 refine EL.loopN (fun mM xX => ∃ (j : Nat), mM = s.votes.length - j ∧ (j ≤ s.votes.length ∧ firstE (s.voteE) s.votes = firstE (s.voteE) (s.votes.drop j)) ∧ xX = ⟨[(1, .ref 0 5 0 0), (6, VI (j : Int))], [(K29 s)]⟩) (y := (fun (j : Nat) => (⟨[(1, .ref 0 5 0 0), (6, VI (j : Int))], [(K29 s)]⟩ : L3)) 0) [1, 6] [uf 0] [] (by kernel_rfl) trivial ⟨0, rfl, by simp, rfl⟩ ?_
 rintro _ _ ⟨j, rfl, hI17, rfl⟩
 obtain ⟨hjk, hjs⟩ := hI17
 refine EL.seq ?_
 refine srr 3 ⟨(K53 j s), [(K29 s)]⟩ ?_
 refine ow2 ⟨(70, VI (List.length s.votes : Int)) :: (K53 j s), [(K29 s)]⟩ (oln Vote.cs s.votes (.s 69) 6) ?_
 refine owl 1 [1, 6, 71] ⟨[(71, .v (.bool (decide ((j : Int) < (List.length s.votes : Int))))), (1, .ref 0 5 0 0), (6, VI (j : Int))], [(K29 s)]⟩ ?_
 cases h18 : (decide ((j : Int) < (List.length s.votes : Int)))
 have g18 := of_decide_eq_false h18
 have n18 : ¬ ((j) < (List.length s.votes)) := by omega
 refine cnF ?_
 refine EL.exit ?_
 refine tX ?_
 refine tX ?_
 refine iH ?_
 refine tN ?_
 refine srl 1 [2] ⟨[(2, VI 0)], [(K29 s)]⟩ ?_
 refine EL.ret ?_
 refine rqe (VI 0) ?_
 rotate_left
 have g18 := of_decide_eq_true h18
 have n18 : ((j) < (List.length s.votes)) := by omega
 refine cnT ?_
 refine skn ?_
 refine EL.seq ?_
 refine EL.block ?_
 refine srr 3 ⟨(K54 j s), [(K29 s)]⟩ ?_
 obtain ⟨a20, ha20⟩ : ∃ y, s.votes[((j : Int) : Int).toNat]? = some y := idx_ex ⟨by omega, by omega⟩
 have iha20 : s.votes[j]? = some a20 := by simpa using ha20
 have dha20 := drop_get iha20
 refine ow2 ⟨(K55 a20 j s), [(K29 s)]⟩ (oid Vote.cs s.votes (.s 75) (.s 76) 6 .i64 (j : Int) a20 (by omega) ha20) ?_
 refine owr 1 ⟨(78, (K56 a20)) :: (K55 a20 j s), [(K29 s)]⟩ ?_
 refine owg [(K56 a20)] ⟨(79, VI a20.checkE) :: (78, (K56 a20)) :: (K55 a20 j s), [(K29 s)]⟩ (rvcheck_fn a20) ?_
 refine owl 1 [1, 3, 6] ⟨(K57 a20 j), [(K29 s)]⟩ ?_
 refine EL.seq ?_
 refine srl 2 [1, 3, 6, 81] ⟨(81, .v (.bool (a20.checkE != 0))) :: (K57 a20 j), [(K29 s)]⟩ ?_
 cases h21 : (a20.checkE != 0)
 have g21 := bnF h21
 refine cnF ?_
 refine skn ?_
 refine sdr 3 ⟨(K58 a20 j s), [(K29 s)]⟩ ?_
 refine dw2 ⟨(K59 a20 j s), [(K29 s)]⟩ (oid Vote.cs s.votes (.s 84) (.s 85) 6 .i64 (j : Int) a20 (by omega) ha20) ?_
 refine dwr 4 ⟨(K60 a20 j s), [(K29 s)]⟩ ?_
 refine dw2 ⟨(91, VI (List.length s.seats : Int)) :: (K60 a20 j s), [(K29 s)]⟩ (oln Seat.cs s.seats (.s 90) 5) ?_
 refine dwr 2 ⟨(93, .v (.bool (decide (a20.node ≥ (List.length s.seats : Int))))) :: (92, .v (.bool (decide (a20.node ≥ (List.length s.seats : Int))))) :: (91, VI (List.length s.seats : Int)) :: (K60 a20 j s), [(K29 s)]⟩ ?_
 cases h22 : (decide (a20.node ≥ (List.length s.seats : Int)))
 have g22 := of_decide_eq_false h22
 refine dwr 3 ⟨(K62 a20 j s), [(K29 s)]⟩ ?_
 refine dw2 ⟨(K63 a20 j s), [(K29 s)]⟩ (oid Vote.cs s.votes (.s 95) (.s 96) 6 .i64 (j : Int) a20 (by omega) ha20) ?_
 refine dwr 4 ⟨(K64 a20 j s), [(K29 s)]⟩ ?_
 refine dw2 ⟨(102, VI (List.length s.bids : Int)) :: (K64 a20 j s), [(K29 s)]⟩ (oln Bid.cs s.bids (.s 101) 8) ?_
 refine dwl 2 [1, 6, 104] ⟨[(104, .v (.bool (decide (a20.bid ≥ (List.length s.bids : Int))))), (1, .ref 0 5 0 0), (6, VI (j : Int))], [(K29 s)]⟩ ?_
 cases h23 : (decide (a20.bid ≥ (List.length s.bids : Int)))
 have g23 := of_decide_eq_false h23
 refine cnF ?_
 refine EL.skip ?_
 refine iN ?_
 refine tN ?_
 refine EL.reg0 ?_
 refine owr 3 ⟨(6, VI (IntKind.i64.wrap ((j : Int) + 1))) :: (73, VI (IntKind.i64.wrap ((j : Int) + 1))) :: (K65 j), [(K29 s)]⟩ ?_
 have e24 := wr64 (n := (j : Int) + 1) (by omega)
 rw [e24]
 refine owe 0 ⟨(K66 j), [(K29 s)]⟩ ?_
 refine tN ?_
 refine rE (live := [1, 6]) (src := [uf 0]) (es := []) (y := (fun (j : Nat) => (⟨[(1, .ref 0 5 0 0), (6, VI (j : Int))], [(K29 s)]⟩ : L3)) (j + 1)) ?_ trivial ?_ ⟨(j + 1), rfl, ?_, rfl⟩
 kernel_rfl
 omega
 focus (refine ⟨by omega, firstE_go hjs (by assumption) (by first | assumption | exact Syn.voteE_0 (by assumption) (by assumption) (by assumption))⟩)
 have g23 := of_decide_eq_true h23
 refine cnT ?_
 refine srl 1 [2] ⟨[(2, VI 3)], [(K29 s)]⟩ ?_
 refine EL.ret ?_
 refine iR ?_
 refine tR ?_
 refine tR ?_
 refine iR ?_
 refine tR ?_
 refine rqe (VI 3) ?_
 rotate_left
 have g22 := of_decide_eq_true h22
 refine dwl 11 [1, 6, 104] ⟨(K61 j), [(K29 s)]⟩ ?_
 refine cnT ?_
 refine srl 1 [2] ⟨[(2, VI 3)], [(K29 s)]⟩ ?_
 refine EL.ret ?_
 refine iR ?_
 refine tR ?_
 refine tR ?_
 refine iR ?_
 refine tR ?_
 refine rqe (VI 3) ?_
 rotate_left
 have g21 := bnT h21
 refine cnT ?_
 refine srl 2 [2] ⟨[(2, VI a20.checkE)], [(K29 s)]⟩ ?_
 refine rtr ?_
 refine iR ?_
 refine tR ?_
 refine tR ?_
 refine iR ?_
 refine tR ?_
 refine rqe (VI a20.checkE) ?_
 rotate_left
 have g16 := of_decide_eq_true h16
 have n16 : ((List.length s.votes) > 200) := by omega
 refine cnT ?_
 refine srl 1 [2] ⟨[(2, VI 2)], [(K29 s)]⟩ ?_
 refine rtr ?_
 refine rqe (VI 2) ?_
 rotate_left
 have g11 := of_decide_eq_true h11
 have n11 : ((i) < (List.length s.bids)) := by omega
 refine cnT ?_
 refine skn ?_
 refine EL.seq ?_
 refine EL.block ?_
 refine sdr 5 ⟨(K45 i s), [(K29 s)]⟩ ?_
 obtain ⟨a13, ha13⟩ : ∃ y, s.bids[((i : Int) : Int).toNat]? = some y := idx_ex ⟨by omega, by omega⟩
 have iha13 : s.bids[i]? = some a13 := by simpa using ha13
 have dha13 := drop_get iha13
 refine dw2 ⟨(K46 a13 i s), [(K29 s)]⟩ (oid Bid.cs s.bids (.s 55) (.s 56) 8 .i64 (i : Int) a13 (by omega) ha13) ?_
 refine dwr 1 ⟨(58, (K47 a13)) :: (K46 a13 i s), [(K29 s)]⟩ ?_
 refine dwg [(K44 s), (K47 a13)] ⟨(K48 a13 i s), [(K29 s)]⟩ (rbcheck_fn s.voters a13 (by first | assumption | exact hx.1 | exact hbig.1)) ?_
 refine dwl 1 [1, 3, 5] ⟨(K49 a13 i s), [(K29 s)]⟩ ?_
 refine srl 2 [1, 3, 5, 61] ⟨(61, .v (.bool ((K68 a13 s) != 0))) :: (K49 a13 i s), [(K29 s)]⟩ ?_
 cases h14 : ((a13.checkE s.voters.weights s.voters.need) != 0)
 have g14 := bnF h14
 refine cnF ?_
 refine EL.skip ?_
 refine iN ?_
 refine tN ?_
 refine EL.reg0 ?_
 refine owr 3 ⟨(5, VI (IntKind.i64.wrap ((i : Int) + 1))) :: (51, VI (IntKind.i64.wrap ((i : Int) + 1))) :: (K50 a13 i s), [(K29 s)]⟩ ?_
 have e15 := wr64 (n := (i : Int) + 1) (by omega)
 rw [e15]
 refine owe 0 ⟨(K51 a13 i s), [(K29 s)]⟩ ?_
 refine tN ?_
 refine rE (live := [1, 5]) (src := [uf 0]) (es := []) (y := (fun (i : Nat) => (⟨[(1, .ref 0 5 0 0), (5, VI (i : Int))], [(K29 s)]⟩ : L3)) (i + 1)) ?_ trivial ?_ ⟨(i + 1), rfl, ?_, rfl⟩
 kernel_rfl
 omega
 focus (refine ⟨by omega, firstE_go his (by assumption) (by first | assumption | exact Syn.voteE_0 (by assumption) (by assumption) (by assumption))⟩)
 have g14 := bnT h14
 refine cnT ?_
 refine srl 2 [2] ⟨[(2, VI (K68 a13 s))], [(K29 s)]⟩ ?_
 refine EL.ret ?_
 refine iR ?_
 refine tR ?_
 refine tR ?_
 refine iR ?_
 refine tR ?_
 refine rqe (VI (a13.checkE s.voters.weights s.voters.need)) ?_
 rotate_left
 have g9 := of_decide_eq_true h9
 have n9 : ((List.length s.bids) > 31) := by omega
 refine cnT ?_
 refine srl 1 [2] ⟨[(2, VI 2)], [(K29 s)]⟩ ?_
 refine rtr ?_
 refine rqe (VI 2) ?_
 rotate_left
 have g4 := of_decide_eq_true h4
 have n4 : ((k) < (List.length s.seats)) := by omega
 refine cnT ?_
 refine skn ?_
 refine EL.seq ?_
 refine EL.block ?_
 refine srr 3 ⟨(K36 k s), [(K29 s)]⟩ ?_
 obtain ⟨a6, ha6⟩ : ∃ y, s.seats[((k : Int) : Int).toNat]? = some y := idx_ex ⟨by omega, by omega⟩
 have iha6 : s.seats[k]? = some a6 := by simpa using ha6
 have dha6 := drop_get iha6
 refine ow2 ⟨(K37 a6 k s), [(K29 s)]⟩ (oid Seat.cs s.seats (.s 33) (.s 34) 5 .i64 (k : Int) a6 (by omega) ha6) ?_
 refine owr 1 ⟨(36, (K38 a6)) :: (K37 a6 k s), [(K29 s)]⟩ ?_
 refine owg [(K38 a6)] ⟨(37, VI a6.checkE) :: (36, (K38 a6)) :: (K37 a6 k s), [(K29 s)]⟩ (rsecheck_fn a6) ?_
 refine owl 1 [1, 3, 4] ⟨(K39 a6 k), [(K29 s)]⟩ ?_
 refine srl 2 [1, 3, 4, 39] ⟨(39, .v (.bool (a6.checkE != 0))) :: (K39 a6 k), [(K29 s)]⟩ ?_
 cases h7 : (a6.checkE != 0)
 have g7 := bnF h7
 refine cnF ?_
 refine EL.skip ?_
 refine iN ?_
 refine tN ?_
 refine EL.reg0 ?_
 refine owr 3 ⟨(4, VI (IntKind.i64.wrap ((k : Int) + 1))) :: (31, VI (IntKind.i64.wrap ((k : Int) + 1))) :: (K40 a6 k), [(K29 s)]⟩ ?_
 have e8 := wr64 (n := (k : Int) + 1) (by omega)
 rw [e8]
 refine owe 0 ⟨(K41 a6 k), [(K29 s)]⟩ ?_
 refine tN ?_
 refine rE (live := [1, 4]) (src := [uf 0]) (es := []) (y := (fun (k : Nat) => (⟨[(1, .ref 0 5 0 0), (4, VI (k : Int))], [(K29 s)]⟩ : L3)) (k + 1)) ?_ trivial ?_ ⟨(k + 1), rfl, ?_, rfl⟩
 kernel_rfl
 omega
 focus (refine ⟨by omega, firstE_go hks (by assumption) (by first | assumption | exact Syn.voteE_0 (by assumption) (by assumption) (by assumption))⟩)
 have g7 := bnT h7
 refine cnT ?_
 refine srl 2 [2] ⟨[(2, VI a6.checkE)], [(K29 s)]⟩ ?_
 refine EL.ret ?_
 refine iR ?_
 refine tR ?_
 refine tR ?_
 refine iR ?_
 refine tR ?_
 refine rqe (VI a6.checkE) ?_
 rotate_left
 have g2 := bnT h2
 have n2 : ¬ ((List.length s.seats) = (List.length s.voters.weights)) := by omega
 refine cnT ?_
 refine srl 1 [2] ⟨[(2, VI 1)], [(K29 s)]⟩ ?_
 refine rtr ?_
 refine rqe (VI 1) ?_
 rotate_left
 have g1 := bnT h1
 refine cnT ?_
 refine srl 2 [2] ⟨[(2, VI (K67 s))], [(K29 s)]⟩ ?_
 refine rtr ?_
 refine rqe (VI (qcheckP s.voters.weights s.voters.need)) ?_
 rotate_left
 all_goals ((refine congrArg (fun n => VI n) ?_; clear hx; (try have qk := firstE_end hks (by assumption)); (try have qk := firstE_at hks (by assumption) (by assumption)); (try have qi := firstE_end his (by assumption)); (try have qi := firstE_at his (by assumption) (by assumption)); (try have qj := firstE_end hjs (by assumption)); (try have qj := (firstE_at hjs (by assumption) (by rw [Syn.voteE_c (by assumption)]; assumption)).trans (Syn.voteE_c (by assumption))); (try have qj := (firstE_at hjs (by assumption) (by rw [Syn.voteE_3 (by assumption) (by first | exact .inl (by assumption) | exact .inr (by assumption))]; decide)).trans (Syn.voteE_3 (by assumption) (by first | exact .inl (by assumption) | exact .inr (by assumption)))); simp only [Syn.checkE]; (repeat' split) <;> first | rfl | omega | contradiction | (simp_all; done) | (simp_all; omega)))
section
variable (l : List Vote) (n : Int)
abbrev K76 := (List.take (n : Int).toNat l)
abbrev K69 : LS := [(7, VI n), (6, .lst 6 (l.map Vote.cs)), (5, .own 0 6 0 0), (0, .lst 6 (l.map Vote.cs)), (1, VI n)]
abbrev K70 : LS := (8, .lst 6 (((K76 l n)).map Vote.cs)) :: (K69 l n)
abbrev K71 : OB := some ⟨6, ((K76 l n).map Vote.cs)⟩
abbrev K72 : LS := (9, .own 1 6 0 (List.length (K76 l n))) :: (K70 l n)
abbrev K73 : LS := (13, .lst 6 (((List.take ((List.length l) - ((n + 1) : Int).toNat) (List.drop ((n + 1) : Int).toNat l))).map Vote.cs)) :: (12, VI (n + 1)) :: (11, VI n) :: (10, .lst 6 (l.map Vote.cs)) :: (K72 l n)
abbrev K74 : OB := some ⟨6, (((K76 l n) ++ (List.take ((List.length l) - ((n + 1) : Int).toNat) (List.drop ((n + 1) : Int).toNat l))).map Vote.cs)⟩
abbrev K75 : LS := (14, .own 2 6 0 (List.length ((K76 l n) ++ (List.take ((List.length l) - ((n + 1) : Int).toNat) (List.drop ((n + 1) : Int).toNat l))))) :: (K73 l n)
end
theorem withoutV_fo (l : List Vote) (n : Int) (hx : l.length ≤ 1000000) (hn : 0 ≤ n ∧ n < l.length) : Fo Tryd.prog 31 [.lst 6 (l.map Vote.cs), VI n] 6 ((l.eraseIdx n.toNat).map Vote.cs) := by
 refine fo_of ?_
 rw [List.length_map]
 refine fV (m := []) (m' := [some ⟨6, ((l.eraseIdx n.toNat).map Vote.cs)⟩]) F31_ok (of_decide_eq_true (by kernel_rfl)) ?_
 refine srl 1 [0, 1] ⟨[(0, .lst 6 (l.map Vote.cs)), (1, VI n)], []⟩ ?_
 refine sdr 3 ⟨(K69 l n), [some ⟨6, []⟩]⟩ ?_
 refine dw2 ⟨(K70 l n), [some ⟨6, []⟩]⟩ (opE_slc Vote.cs l (.s 6) none (some (.s 7)) 6 0 (n : Int).toNat (by kernel_rfl) (by kernel_rfl) (.inl rfl) (by simp [optNat, natOf, argσ, slot] <;> omega) (by simp [optNat, natOf, argσ, slot] <;> omega) (by omega)) ?_
 refine dw2 ⟨(K72 l n), [none, (K71 l n)]⟩ (oap Vote.cs ([] : List Vote) (K76 l n) (.s 5) (.s 8) 6 56 0 (.lst 6 (((K76 l n)).map Vote.cs)) .lst (by simp; omega)) ?_
 refine dwr 3 ⟨(12, VI (IntKind.i64.wrap (n + 1))) :: (11, VI n) :: (10, .lst 6 (l.map Vote.cs)) :: (K72 l n), [none, (K71 l n)]⟩ ?_
 have e1 := wr64 (n := n + 1) (by omega)
 rw [e1]
 refine dw2 ⟨(K73 l n), [none, (K71 l n)]⟩ (opE_slc Vote.cs l (.s 10) (some (.s 12)) none 6 ((n + 1) : Int).toNat (List.length l) (by kernel_rfl) (by kernel_rfl) (.inl rfl) (by simp [optNat, natOf, argσ, slot] <;> omega) (by simp [optNat, natOf, argσ, slot] <;> omega) (by omega)) ?_
 refine dw2 ⟨(K75 l n), [none, none, (K74 l n)]⟩ (oap Vote.cs (K76 l n) (List.take ((List.length l) - ((n + 1) : Int).toNat) (List.drop ((n + 1) : Int).toNat l)) (.s 9) (.s 13) 6 56 1 (.lst 6 (((List.take ((List.length l) - ((n + 1) : Int).toNat) (List.drop ((n + 1) : Int).toNat l))).map Vote.cs)) .lst (by simp; omega)) ?_
 refine dwl 1 [4] ⟨[(4, .own 2 6 0 (List.length ((K76 l n) ++ (List.take ((List.length l) - ((n + 1) : Int).toNat) (List.drop ((n + 1) : Int).toNat l)))))], [none, none, (K74 l n)]⟩ ?_
 refine EL.ret ?_
 rw [erase_cut hn]
 exact fne [4] [ut 2] ⟨[(4, .own 0 6 0 (List.length ((K76 l n) ++ (List.take ((List.length l) - ((n + 1) : Int).toNat) (List.drop ((n + 1) : Int).toNat l)))))], [(K74 l n)]⟩ ⟨pq 6 Vote.cs ((K76 l n) ++ (List.take ((List.length l) - ((n + 1) : Int).toNat) (List.drop ((n + 1) : Int).toNat l))), trivial⟩
section
variable (a2 : Bid) (i : Int) (s : Syn)
end
def Bound (s : Syn) : Prop := ∀ st, st ∈ s.seats → st.promised = zst ∨ ∃ (i : Nat) (b : Bid), s.bids[i]? = some b ∧ st.promised = ⟨b.time, i⟩
theorem hear_time {v : Vtr} {no : Int} {b : Bid} {m : Vote} (h : (hearP v no b m).2.2 = 0) : (hearP v no b m).1.time = b.time := by
  rcases hear_full h with e | ⟨_, _, _, _, _, e | ⟨_, e⟩⟩
  · rw [e]
  · rw [e]; rfl
  · rw [e]; unfold onP; split <;> rfl
theorem Nxt.times {s t : Syn} (h : Nxt s t) {i : Nat} {b : Bid} (hb : s.bids[i]? = some b) : ∃ b' : Bid, t.bids[i]? = some b' ∧ b'.time = b.time := by
  cases h with
  | moves hw hs hb2 hv => rw [hb2]; exact ⟨b, hb, rfl⟩
  | begins h hw hs hb2 hv => rw [hb2, List.getElem?_append_left (List.getElem?_eq_some_iff.1 hb).1]; exact ⟨b, hb, rfl⟩
  | serves hm hk hn hst he hw hs hb2 hv => rw [hb2]; exact ⟨b, hb, rfl⟩
  | @hears m b' hm h0 hbd he hw hs hb2 hv =>
    rw [hb2]
    by_cases hi : i = m.bid.toNat
    · subst hi
      rw [hbd] at hb; obtain rfl := Option.some.inj hb
      exact ⟨_, set_get hbd, hear_time he⟩
    · rw [set_ne hi]; exact ⟨b, hb, rfl⟩
theorem Bound.mono {s t : Syn} (B : Bound s) (h : Nxt s t) {st : Seat} (hs : st ∈ s.seats) : st.promised = zst ∨ ∃ (i : Nat) (b : Bid), t.bids[i]? = some b ∧ st.promised = ⟨b.time, i⟩ := by
  rcases B st hs with e | ⟨i, b, h1, h2⟩
  · exact .inl e
  · obtain ⟨b', k1, k2⟩ := h.times h1
    exact .inr ⟨i, b', k1, by rw [k2, h2]⟩
theorem bid_eq {s : Syn} {T : Int} {own : ByteArray} : s.stepP 6 T own = s.bidP T own := by
  unfold Syn.stepP
  rw [if_neg (by omega), if_neg (by rintro ⟨h, _⟩; exact h rfl), if_pos rfl]
theorem toAll_len (n : Nat) (m : Vote) : (toAllP n m).length = n := by simp [toAllP]
theorem begin_len (v : Vtr) (no time : Int) (own : ByteArray) : (beginP v no time own).2.1.length ≤ 12 := by
  unfold beginP
  by_cases h1 : ¬ (0 ≤ no ∧ no ≤ 30)
  · rw [if_pos h1]; simp
  · rw [if_neg h1]
    by_cases h2 : (Bid.new time own).checkE v.weights v.need ≠ 0
    · rw [if_pos h2]; simp
    · rw [if_neg h2]
      have := bid_len (v := v) (b := Bid.new time own) (by omega)
      simp only [toAll_len]; exact this
theorem hear_len (v : Vtr) (no : Int) (b : Bid) (m : Vote) : (hearP v no b m).2.1.length ≤ 12 := by
  unfold hearP
  by_cases h2 : b.checkE v.weights v.need = 0
  · have := bid_len h2
    (repeat' split) <;> first | (simp; done) | (unfold onP; split <;> simp [toAll_len]; omega)
  · rw [if_pos h2]; split <;> simp
theorem serve_len (s : Seat) (v : Vote) : (s.serveP v).2.1.length ≤ 1 := by
  unfold Seat.serveP
  (repeat' split) <;> simp
theorem app_le {a b k : Nat} (h : a ≤ 200) (hb : b ≤ 12) (hk : k ≤ 100) : (a + b) * k ≤ 140737488355328 :=
  Nat.le_trans (Nat.mul_le_mul (show a + b ≤ 212 by omega) hk) (by decide)
theorem ers_le {l : List Vote} {n : Nat} (h : l.length ≤ 200) : (l.eraseIdx n).length ≤ 200 := Nat.le_trans (List.eraseIdx_sublist l n).length_le h
theorem Syn.many_0 {s : Syn} (h : s.votes.length ≤ 200) : s.manyP = (s, 0) := by unfold Syn.manyP; rw [if_neg (by omega)]
theorem Syn.many_2 {s : Syn} (h : s.votes.length > 200) : s.manyP = (Syn.zero, 2) := by unfold Syn.manyP; rw [if_pos h]
theorem Syn.step_7 {s : Syn} {k n : Int} {d : ByteArray} (h : ¬ (3 ≤ k ∧ k ≤ 6)) : s.stepP k n d = (Syn.zero, 7) := by unfold Syn.stepP; rw [if_pos h]
theorem Syn.step_1 {s : Syn} {k n : Int} {d : ByteArray} (h : 3 ≤ k ∧ k ≤ 6) (h2 : ¬ k = 6) (h3 : ¬ d.size = 0) : s.stepP k n d = (Syn.zero, 1) := by
  unfold Syn.stepP; rw [if_neg (fun hh => hh h), if_pos ⟨h2, h3⟩]
theorem Syn.step_r {s : Syn} {k n : Int} {d : ByteArray} (h : 3 ≤ k ∧ k ≤ 6) (h2 : ¬ k = 6) (h3 : d.size = 0) (h4 : ¬ (0 ≤ n ∧ n < s.votes.length)) : s.stepP k n d = (Syn.zero, 3) := by
  unfold Syn.stepP; rw [if_neg (fun hh => hh h), if_neg (fun hh => hh.2 h3), if_neg h2, if_pos h4]
theorem Syn.step_v {s : Syn} {k n : Int} {d : ByteArray} (h : 3 ≤ k ∧ k ≤ 6) (h2 : ¬ k = 6) (h3 : d.size = 0) {v : Vote} (hv : s.votes[n.toNat]? = some v) (h0 : 0 ≤ n) : s.stepP k n d = if k = 3 then ((s.away n.toNat).passP v).manyP else if k = 4 then (s.away n.toNat).manyP else ({ s with votes := s.votes ++ [v] } : Syn).manyP := by
  have := (List.getElem?_eq_some_iff.1 hv).1
  unfold Syn.stepP; rw [if_neg (fun hh => hh h), if_neg (fun hh => hh.2 h3), if_neg h2, if_neg (fun hh => hh ⟨h0, by omega⟩), hv]
theorem Syn.step_s {s : Syn} {n : Int} {d : ByteArray} (h3 : d.size = 0) {v : Vote} (hv : s.votes[n.toNat]? = some v) (h0 : 0 ≤ n) (hk : v.kind = 1 ∨ v.kind = 3) {st : Seat} (hst : s.seats[v.node.toNat]? = some st) :
    s.stepP 3 n d = Syn.manyP ⟨s.voters, s.seats.set (0 + v.node.toNat) (st.serveP v).1, s.bids, s.votes.eraseIdx n.toNat ++ (st.serveP v).2.1⟩ := by
  rw [Syn.step_v (by omega) (by omega) h3 hv h0, if_pos rfl, Nat.zero_add]
  unfold Syn.passP
  rw [if_pos hk, show (s.away n.toNat).seats = s.seats from rfl, hst]; rfl
theorem Syn.step_b {s : Syn} {n : Int} {d : ByteArray} (h3 : d.size = 0) {v : Vote} (hv : s.votes[n.toNat]? = some v) (h0 : 0 ≤ n) (hk : ¬ (v.kind = 1 ∨ v.kind = 3)) {b : Bid} (hb : s.bids[v.bid.toNat]? = some b) :
    s.stepP 3 n d = Syn.manyP ⟨s.voters, s.seats, s.bids.set (0 + v.bid.toNat) (hearP s.voters v.bid b v).1, s.votes.eraseIdx n.toNat ++ (hearP s.voters v.bid b v).2.1⟩ := by
  rw [Syn.step_v (by omega) (by omega) h3 hv h0, if_pos rfl, Nat.zero_add]
  unfold Syn.passP
  rw [if_neg hk, show (s.away n.toNat).bids = s.bids from rfl, hb]; rfl
theorem Syn.step_4 {s : Syn} {n : Int} {d : ByteArray} (h3 : d.size = 0) {v : Vote} (hv : s.votes[n.toNat]? = some v) (h0 : 0 ≤ n) (hm : s.votes.length ≤ 200) : s.stepP 4 n d = (⟨s.voters, s.seats, s.bids, s.votes.eraseIdx n.toNat⟩, 0) := by
  rw [Syn.step_v (by omega) (by omega) h3 hv h0, if_neg (by omega), if_pos rfl, Syn.many_0]
  · rfl
  · have := (List.eraseIdx_sublist s.votes n.toNat).length_le
    show (s.votes.eraseIdx n.toNat).length ≤ 200; omega
theorem Syn.step_5 {s : Syn} {n : Int} {d : ByteArray} (h3 : d.size = 0) {v : Vote} (hv : s.votes[n.toNat]? = some v) (h0 : 0 ≤ n) : s.stepP 5 n d = Syn.manyP ⟨s.voters, s.seats, s.bids, s.votes ++ [v]⟩ := by
  rw [Syn.step_v (by omega) (by omega) h3 hv h0, if_neg (by omega), if_neg (by omega)]
theorem Syn.step_6m {s : Syn} {n : Int} {d : ByteArray} (h : s.bids.length = 31) : s.stepP 6 n d = (Syn.zero, 2) := by rw [bid_eq]; unfold Syn.bidP; rw [if_pos h]
theorem Syn.step_6e {s : Syn} {n : Int} {d : ByteArray} (h : ¬ s.bids.length = 31) (h2 : ¬ (beginP s.voters s.bids.length n d).2.2 = 0) : s.stepP 6 n d = (Syn.zero, (beginP s.voters s.bids.length n d).2.2) := by rw [bid_eq]; unfold Syn.bidP; rw [if_neg h, if_pos h2]
theorem Syn.step_6 {s : Syn} {n : Int} {d : ByteArray} (h : ¬ s.bids.length = 31) (h2 : (beginP s.voters s.bids.length n d).2.2 = 0) : s.stepP 6 n d = Syn.manyP ⟨s.voters, s.seats, s.bids ++ [(beginP s.voters s.bids.length n d).1], s.votes ++ (beginP s.voters s.bids.length n d).2.1⟩ := by rw [bid_eq]; unfold Syn.bidP; rw [if_neg h, if_neg (fun hh => hh h2)]
theorem Syn.Ok.vv {s : Syn} (ok : s.Ok) : ∀ v, v ∈ s.votes → (0 ≤ v.node ∧ v.node < s.seats.length) ∧ (0 ≤ v.bid ∧ v.bid < s.bids.length) ∧ (1 ≤ v.kind ∧ v.kind ≤ 4) := fun v hv => by
  obtain ⟨a, b, c⟩ := ok.votes v hv
  obtain ⟨r1, r2, r3⟩ := vote_rng a
  exact ⟨⟨r3.1, b⟩, ⟨r2.1, c⟩, r1⟩
section
variable (a22 : Bid) (a4 : Vote) (a8 : Seat) (d : ByteArray) (n : Int) (s : Syn)
abbrev M116 := (List.eraseIdx s.votes (Int.toNat n))
abbrev M117 := ((hearP s.voters a4.bid a22 a4).2.1)
abbrev M118 := (((a8.serveP a4).2.1).map Vote.cs)
abbrev M0 : OB := some ⟨5, [[.lst 1 (s.voters.weights.map cI), VI s.voters.need, .lst 5 (s.seats.map Seat.cs), .lst 8 (s.bids.map Bid.cs), .lst 6 (s.votes.map Vote.cs)]]⟩
abbrev M1 : OB := some ⟨3, [[VI 3, VI n, .v (.string d)]]⟩
abbrev M2 : OB := some ⟨5, [[.emp, VI 0, .emp, .emp, .emp]]⟩
abbrev M3 : LS := [(4, .ref 2 5 0 0), (3, .ref 1 3 0 0), (2, .ref 0 5 0 0)]
abbrev M4 : AV := .agg [.lst 1 (s.voters.weights.map cI), VI s.voters.need, .lst 5 (s.seats.map Seat.cs), .lst 8 (s.bids.map Bid.cs), .lst 6 (s.votes.map Vote.cs)]
abbrev M5 : LB := [(M0 s), (M1 d n), M2, (M0 s), M2]
abbrev M6 : LS := [(5, .lst 1 (s.voters.weights.map cI)), (4, .ref 3 5 0 0), (3, .ref 3 5 0 0), (2, .ref 4 5 0 0), (1, .ref 3 5 0 0)]
abbrev M7 : AV := .agg [.lst 1 (s.voters.weights.map cI), VI s.voters.need]
abbrev M8 : LS := (12, .lst 5 (s.seats.map Seat.cs)) :: (11, .ref 3 5 0 2) :: (10, (M7 s)) :: (9, VI s.voters.need) :: (8, .ref 3 5 0 1) :: (7, .ref 3 5 0 0) :: (6, .lst 1 (s.voters.weights.map cI)) :: (M6 s)
abbrev M9 : OB := some ⟨5, (s.seats.map Seat.cs)⟩
abbrev M10 : LB := [(M0 s), (M1 d n), M2, (M0 s), M2, (M9 s)]
abbrev M11 : LS := (15, .lst 8 (s.bids.map Bid.cs)) :: (14, .ref 3 5 0 3) :: (13, .own 5 5 0 (List.length s.seats)) :: (M8 s)
abbrev M12 : LB := [(M0 s), (M1 d n), M2, (M0 s), M2, (M9 s), some ⟨8, (s.bids.map Bid.cs)⟩]
abbrev M13 : LS := (18, .lst 6 (s.votes.map Vote.cs)) :: (17, .ref 3 5 0 4) :: (16, .own 6 8 0 (List.length s.bids)) :: (M11 s)
abbrev M14 : OB := some ⟨6, (s.votes.map Vote.cs)⟩
abbrev M15 : LB := [(M0 s), (M1 d n), M2, (M0 s), M2, (M9 s), some ⟨8, (s.bids.map Bid.cs)⟩, (M14 s)]
abbrev M16 : OB := some ⟨5, [[.lst 1 (s.voters.weights.map cI), VI s.voters.need, .own 5 5 0 (List.length s.seats), .own 6 8 0 (List.length s.bids), .own 7 6 0 (List.length s.votes)]]⟩
abbrev M17 : LB := [(M0 s), (M1 d n), M2, (M0 s), (M16 s), (M9 s), some ⟨8, (s.bids.map Bid.cs)⟩, (M14 s)]
abbrev M18 : AV := .agg [.lst 1 (s.voters.weights.map cI), VI s.voters.need, .own 4 5 0 (List.length s.seats), .own 5 8 0 (List.length s.bids), .own 6 6 0 (List.length s.votes)]
abbrev M19 : OB := some ⟨5, [[.lst 1 (s.voters.weights.map cI), VI s.voters.need, .own 4 5 0 (List.length s.seats), .own 5 8 0 (List.length s.bids), .own 6 6 0 (List.length s.votes)]]⟩
abbrev M20 : LB := [(M0 s), (M1 d n), M2, (M19 s), (M9 s), some ⟨8, (s.bids.map Bid.cs)⟩, (M14 s)]
abbrev M21 : LB := [(M0 s), (M1 d n), M2, (M19 s), (M9 s), some ⟨8, (s.bids.map Bid.cs)⟩, (M14 s), (M19 s)]
abbrev M22 : LS := [(6, .ref 7 5 0 0), (4, .ref 2 5 0 0), (3, .ref 1 3 0 0)]
abbrev M23 : AV := .agg [VI 3, VI n, .v (.string d)]
abbrev M24 : LB := [(M0 s), (M1 d n), M2, (M19 s), (M9 s), some ⟨8, (s.bids.map Bid.cs)⟩, (M14 s), (M19 s), some ⟨1, [[.ref 7 5 0 0]]⟩, (M1 d n)]
abbrev M25 : OB := some ⟨0, [[VI 6, .fn 74 [.ref 8 1 0 0, .ref 9 3 0 0]], [VI 3, .fn 76 [.ref 8 1 0 0, .ref 9 3 0 0]], [VI 4, .fn 79 [.ref 8 1 0 0, .ref 9 3 0 0]], [VI 5, .fn 80 [.ref 8 1 0 0, .ref 9 3 0 0]]]⟩
abbrev M26 : LB := [(M0 s), (M1 d n), M2, (M19 s), (M9 s), some ⟨8, (s.bids.map Bid.cs)⟩, (M14 s), (M19 s), some ⟨1, [[.ref 7 5 0 0]]⟩, (M1 d n), M25]
abbrev M27 : LS := [(12, VI 3), (11, .ref 9 3 0 0), (10, .mp 10), (9, .fn 80 [.ref 8 1 0 0, .ref 9 3 0 0]), (8, .fn 79 [.ref 8 1 0 0, .ref 9 3 0 0]), (7, .fn 76 [.ref 8 1 0 0, .ref 9 3 0 0]), (6, .fn 74 [.ref 8 1 0 0, .ref 9 3 0 0]), (5, .mp 10), (3, .ref 9 3 0 0), (2, .ref 8 1 0 0)]
abbrev M28 : LS := (13, .fn 76 [.ref 8 1 0 0, .ref 9 3 0 0]) :: M27
abbrev M29 : LS := (15, .fn 76 [.ref 8 1 0 0, .ref 9 3 0 0]) :: (14, (M23 d n)) :: (13, .ref 7 5 0 0) :: M22
abbrev M30 : LS := (7, .fn 76 [.ref 8 1 0 0, .ref 9 3 0 0]) :: M22
abbrev M31 : LS := (23, .v (.string d)) :: (22, .ref 1 3 0 2) :: (18, .v (.bool false)) :: M30
abbrev M34 : LS := (36, VI n) :: (35, .ref 1 3 0 1) :: (34, .v (.bool true)) :: (33, .v (.bool true)) :: (32, VI 3) :: (31, .ref 1 3 0 0) :: (21, .v (.bool false)) :: M30
abbrev M35 : LS := [(30, .v (.bool true)), (7, .fn 76 [.ref 8 1 0 0, .ref 9 3 0 0]), (6, .ref 7 5 0 0), (4, .ref 2 5 0 0)]
abbrev M36 : LS := [(7, .fn 76 [.ref 8 1 0 0, .ref 9 3 0 0]), (6, .ref 7 5 0 0), (4, .ref 2 5 0 0)]
abbrev M37 : LS := (16, .fn 76 [.ref 8 1 0 0, .ref 9 3 0 0]) :: (30, .v (.bool false)) :: M36
abbrev M38 : LS := [(6, VI n), (5, .ref 9 3 0 1), (4, .ref 7 5 0 0), (3, .ref 7 5 0 0), (0, .ref 8 1 0 0), (1, .ref 9 3 0 0)]
abbrev M39 : OB := some ⟨6, [[VI 0, VI 0, VI 0, VI 0, VI 0, .v (.string (⟨#[]⟩))]]⟩
abbrev M40 : LB := [(M0 s), (M1 d n), M2, (M19 s), (M9 s), some ⟨8, (s.bids.map Bid.cs)⟩, (M14 s), (M19 s), some ⟨1, [[.ref 7 5 0 0]]⟩, (M1 d n), M39]
abbrev M41 : LS := [(4, .ref 10 6 0 0), (0, .ref 7 5 0 0), (1, VI n)]
abbrev M42 : LS := (11, VI n) :: (10, .own 6 6 0 (List.length s.votes)) :: (9, .ref 7 5 0 4) :: (8, .ref 7 5 0 0) :: (7, .ref 7 5 0 0) :: (6, .ref 7 5 0 0) :: (M41 n)
abbrev M43 : AV := .agg [VI a4.kind, VI a4.bid, VI a4.node, VI a4.copy.at_.time, VI a4.copy.at_.who, .v (.string a4.copy.data)]
abbrev M44 : LS := (13, (M43 a4)) :: (12, .ref 6 6 (0 + Int.toNat n) 0) :: (M42 n s)
abbrev M45 : OB := some ⟨6, [[VI a4.kind, VI a4.bid, VI a4.node, VI a4.copy.at_.time, VI a4.copy.at_.who, .v (.string a4.copy.data)]]⟩
abbrev M46 : LB := [(M0 s), (M1 d n), M2, (M19 s), (M9 s), some ⟨8, (s.bids.map Bid.cs)⟩, (M14 s), (M19 s), some ⟨1, [[.ref 7 5 0 0]]⟩, (M1 d n), M39, (M45 a4)]
abbrev M47 : LS := (21, VI n) :: (20, VI n) :: (19, .own 6 6 0 (List.length s.votes)) :: (18, .ref 7 5 0 4) :: (17, .ref 7 5 0 0) :: (16, .ref 7 5 0 0) :: (15, .ref 7 5 0 0) :: (14, .ref 7 5 0 0) :: (5, .ref 11 6 0 0) :: (M41 n)
abbrev M48 : OB := some ⟨6, ((M116 n s).map Vote.cs)⟩
abbrev M49 : LB := [(M0 s), (M1 d n), M2, (M19 s), (M9 s), some ⟨8, (s.bids.map Bid.cs)⟩, none, (M19 s), some ⟨1, [[.ref 7 5 0 0]]⟩, (M1 d n), M39, (M45 a4), none, (M48 n s)]
abbrev M50 : LS := (23, .own 13 6 0 (List.length (M116 n s))) :: (22, VI (n + 1)) :: (M47 n s)
abbrev M51 : OB := some ⟨5, [[.lst 1 (s.voters.weights.map cI), VI s.voters.need, .own 4 5 0 (List.length s.seats), .own 5 8 0 (List.length s.bids), .own 13 6 0 (List.length (M116 n s))]]⟩
abbrev M52 : LB := [(M0 s), (M1 d n), M2, (M19 s), (M9 s), some ⟨8, (s.bids.map Bid.cs)⟩, none, (M51 n s), some ⟨1, [[.ref 7 5 0 0]]⟩, (M1 d n), M39, (M45 a4), none, (M48 n s)]
abbrev M53 : LB := [(M0 s), (M1 d n), M2, (M19 s), (M9 s), some ⟨8, (s.bids.map Bid.cs)⟩, none, (M51 n s), some ⟨1, [[.ref 7 5 0 0]]⟩, (M1 d n), (M45 a4), (M45 a4), none, (M48 n s)]
abbrev M54 : OB := some ⟨5, [[.lst 1 (s.voters.weights.map cI), VI s.voters.need, .own 4 5 0 (List.length s.seats), .own 5 8 0 (List.length s.bids), .dead]]⟩
abbrev M55 : OB := some ⟨5, [[.lst 1 (s.voters.weights.map cI), VI s.voters.need, .own 4 5 0 (List.length s.seats), .own 5 8 0 (List.length s.bids), .own 10 6 0 (List.length (M116 n s))]]⟩
abbrev M56 : LB := [(M0 s), (M1 d n), M2, (M54 s), (M9 s), some ⟨8, (s.bids.map Bid.cs)⟩, none, (M55 n s), some ⟨1, [[.ref 7 5 0 0]]⟩, (M1 d n), (M48 n s), (M45 a4)]
abbrev M57 : LB := [(M0 s), (M1 d n), M2, (M54 s), (M9 s), some ⟨8, (s.bids.map Bid.cs)⟩, none, (M55 n s), some ⟨1, [[.ref 7 5 0 0]]⟩, (M1 d n), (M48 n s), (M45 a4), (M45 a4)]
abbrev M58 : LS := [(7, VI a4.kind), (6, .ref 12 6 0 0), (3, .ref 12 6 0 0), (0, .ref 7 5 0 0)]
abbrev M59 : LS := (13, .v (.bool true)) :: (12, .v undef) :: (11, .v undef) :: (10, .v undef) :: (9, .v (.bool true)) :: (8, .v (.bool true)) :: (M58 a4)
abbrev M60 : LS := (11, VI a4.kind) :: (10, .ref 12 6 0 0) :: (9, .v (.bool false)) :: (8, .v (.bool false)) :: (M58 a4)
abbrev M61 : LS := [(0, .ref 7 5 0 0), (3, .ref 12 6 0 0), (13, .v (.bool true))]
abbrev M62 : LS := (28, VI a4.node) :: (27, .ref 12 6 0 2) :: (26, .own 4 5 0 (List.length s.seats)) :: (25, .ref 7 5 0 2) :: (24, .ref 7 5 0 0) :: (23, .ref 7 5 0 0) :: (22, .ref 7 5 0 0) :: (21, VI a4.node) :: (20, .ref 12 6 0 2) :: (19, .own 4 5 0 (List.length s.seats)) :: (18, .ref 7 5 0 2) :: (17, .ref 7 5 0 0) :: (16, .ref 7 5 0 0) :: (15, .ref 7 5 0 0) :: M61
abbrev M63 : LS := (29, .ref 4 5 (0 + Int.toNat a4.node) 0) :: (M62 a4 s)
abbrev M64 : AV := .agg [VI a8.promised.time, VI a8.promised.who, VI a8.kept.at_.time, VI a8.kept.at_.who, .v (.string a8.kept.data)]
abbrev M65 : AV := .agg [VI ((((a8.serveP a4).1).promised).time), VI ((((a8.serveP a4).1).promised).who), VI (((((a8.serveP a4).1).kept).at_).time), VI (((((a8.serveP a4).1).kept).at_).who), .v (.string ((((a8.serveP a4).1).kept).data))]
abbrev M66 : LS := (32, .tup [(M65 a4 a8), .lst 6 (M118 a4 a8), VI ((a8.serveP a4).2.2)]) :: (31, (M43 a4)) :: (30, (M64 a8)) :: (M63 a4 s)
abbrev M67 : LS := (35, VI ((a8.serveP a4).2.2)) :: (34, .lst 6 (M118 a4 a8)) :: (33, (M65 a4 a8)) :: (14, .tup [(M65 a4 a8), .lst 6 (M118 a4 a8), VI ((a8.serveP a4).2.2)]) :: (M66 a4 a8 s)
abbrev M68 : LS := (36, .ref 4 5 (0 + Int.toNat a4.node) 0) :: (M67 a4 a8 s)
abbrev M69 : OB := some ⟨5, ((List.set s.seats (0 + Int.toNat a4.node) ((a8.serveP a4).1)).map Seat.cs)⟩
abbrev M70 : LB := [(M0 s), (M1 d n), M2, (M54 s), (M69 a4 a8 s), some ⟨8, (s.bids.map Bid.cs)⟩, none, (M55 n s), some ⟨1, [[.ref 7 5 0 0]]⟩, (M1 d n), (M48 n s), (M45 a4), (M45 a4)]
abbrev M71 : LS := (5, .lst 6 (M118 a4 a8)) :: (M68 a4 a8 s)
abbrev M72 : LS := (68, .lst 6 (M118 a4 a8)) :: (67, .ref 7 5 0 0) :: (M71 a4 a8 s)
abbrev M73 : LS := [(11, .lst 6 (M118 a4 a8)), (10, .own 10 6 0 (List.length (M116 n s))), (9, .ref 7 5 0 4), (8, .ref 7 5 0 0), (7, .ref 7 5 0 0), (6, .ref 7 5 0 0), (5, .ref 7 5 0 0), (0, .ref 7 5 0 0), (1, .lst 6 (M118 a4 a8))]
abbrev M74 : OB := some ⟨6, (((M116 n s) ++ ((a8.serveP a4).2.1)).map Vote.cs)⟩
abbrev M75 : LB := [(M0 s), (M1 d n), M2, (M54 s), (M69 a4 a8 s), some ⟨8, (s.bids.map Bid.cs)⟩, none, (M55 n s), some ⟨1, [[.ref 7 5 0 0]]⟩, (M1 d n), none, (M45 a4), (M45 a4), (M74 a4 a8 n s)]
abbrev M76 : LS := (12, .own 13 6 0 (List.length ((M116 n s) ++ ((a8.serveP a4).2.1)))) :: (M73 a4 a8 n s)
abbrev M77 : OB := some ⟨5, [[.lst 1 (s.voters.weights.map cI), VI s.voters.need, .own 4 5 0 (List.length s.seats), .own 5 8 0 (List.length s.bids), .own 13 6 0 (List.length ((M116 n s) ++ ((a8.serveP a4).2.1)))]]⟩
abbrev M78 : LB := [(M0 s), (M1 d n), M2, (M54 s), (M69 a4 a8 s), some ⟨8, (s.bids.map Bid.cs)⟩, none, (M77 a4 a8 n s), some ⟨1, [[.ref 7 5 0 0]]⟩, (M1 d n), none, (M45 a4), (M45 a4), (M74 a4 a8 n s)]
abbrev M79 : OB := some ⟨5, [[.lst 1 (s.voters.weights.map cI), VI s.voters.need, .own 4 5 0 (List.length s.seats), .own 5 8 0 (List.length s.bids), .own 12 6 0 (List.length ((M116 n s) ++ ((a8.serveP a4).2.1)))]]⟩
abbrev M80 : LB := [(M0 s), (M1 d n), M2, (M54 s), (M69 a4 a8 s), some ⟨8, (s.bids.map Bid.cs)⟩, none, (M79 a4 a8 n s), some ⟨1, [[.ref 7 5 0 0]]⟩, (M1 d n), none, (M45 a4), (M74 a4 a8 n s)]
abbrev M81 : OB := some ⟨5, [[.lst 1 (s.voters.weights.map cI), VI s.voters.need, .own 4 5 0 (List.length s.seats), .own 5 8 0 (List.length s.bids), .own 10 6 0 (List.length ((M116 n s) ++ ((a8.serveP a4).2.1)))]]⟩
abbrev M82 : LB := [(M0 s), (M1 d n), M2, (M54 s), (M69 a4 a8 s), some ⟨8, (s.bids.map Bid.cs)⟩, none, (M81 a4 a8 n s), some ⟨1, [[.ref 7 5 0 0]]⟩, (M1 d n), (M74 a4 a8 n s)]
abbrev M83 : LS := [(58, VI a4.bid), (57, .ref 12 6 0 1), (56, .own 5 8 0 (List.length s.bids)), (55, .ref 7 5 0 3), (54, .ref 7 5 0 0), (53, .ref 7 5 0 0), (52, .ref 7 5 0 0), (51, VI a4.bid), (50, .ref 12 6 0 1), (49, (M7 s)), (48, .ref 7 5 0 0), (47, .ref 7 5 0 0), (46, .ref 7 5 0 0), (45, .ref 7 5 0 0), (44, VI a4.bid), (43, .ref 12 6 0 1), (42, .own 5 8 0 (List.length s.bids)), (41, .ref 7 5 0 3), (40, .ref 7 5 0 0), (39, .ref 7 5 0 0), (38, .ref 7 5 0 0), (13, .v (.bool false)), (3, .ref 12 6 0 0), (0, .ref 7 5 0 0)]
abbrev M84 : AV := .agg [VI a22.time, VI a22.phase, .v (.string a22.own), .v (.string a22.value), VI a22.best.at_.time, VI a22.best.at_.who, .v (.string a22.best.data), .v (.int .u64 (a22.heard.n : Int))]
abbrev M85 : LS := (60, (M84 a22)) :: (59, .ref 5 8 (0 + Int.toNat a4.bid) 0) :: (M83 a4 s)
abbrev M86 : Bid := (hearP s.voters a4.bid a22 a4).1
abbrev M87 : AV := .agg [VI ((M86 a22 a4 s).time), VI ((M86 a22 a4 s).phase), .v (.string ((M86 a22 a4 s).own)), .v (.string ((M86 a22 a4 s).value)), VI ((((M86 a22 a4 s).best).at_).time), VI ((((M86 a22 a4 s).best).at_).who), .v (.string (((M86 a22 a4 s).best).data)), .v (.int .u64 ((M86 a22 a4 s).heard.n : Int))]
abbrev M88 : LS := (62, .tup [(M87 a22 a4 s), .lst 6 ((M117 a22 a4 s).map Vote.cs), VI ((hearP s.voters a4.bid a22 a4).2.2)]) :: (61, (M43 a4)) :: (M85 a22 a4 s)
abbrev M89 : LS := (65, VI ((hearP s.voters a4.bid a22 a4).2.2)) :: (64, .lst 6 ((M117 a22 a4 s).map Vote.cs)) :: (63, (M87 a22 a4 s)) :: (37, .tup [(M87 a22 a4 s), .lst 6 ((M117 a22 a4 s).map Vote.cs), VI ((hearP s.voters a4.bid a22 a4).2.2)]) :: (M88 a22 a4 s)
abbrev M90 : OB := some ⟨8, ((List.set s.bids (0 + Int.toNat a4.bid) (M86 a22 a4 s)).map Bid.cs)⟩
abbrev M91 : LB := [(M0 s), (M1 d n), M2, (M54 s), (M9 s), (M90 a22 a4 s), none, (M55 n s), some ⟨1, [[.ref 7 5 0 0]]⟩, (M1 d n), (M48 n s), (M45 a4), (M45 a4)]
abbrev M92 : LS := (5, .lst 6 ((M117 a22 a4 s).map Vote.cs)) :: (66, .ref 5 8 (0 + Int.toNat a4.bid) 0) :: (M89 a22 a4 s)
abbrev M93 : LS := (68, .lst 6 ((M117 a22 a4 s).map Vote.cs)) :: (67, .ref 7 5 0 0) :: (M92 a22 a4 s)
abbrev M94 : LS := [(11, .lst 6 ((M117 a22 a4 s).map Vote.cs)), (10, .own 10 6 0 (List.length (M116 n s))), (9, .ref 7 5 0 4), (8, .ref 7 5 0 0), (7, .ref 7 5 0 0), (6, .ref 7 5 0 0), (5, .ref 7 5 0 0), (0, .ref 7 5 0 0), (1, .lst 6 ((M117 a22 a4 s).map Vote.cs))]
abbrev M95 : OB := some ⟨6, (((M116 n s) ++ (M117 a22 a4 s)).map Vote.cs)⟩
abbrev M96 : LB := [(M0 s), (M1 d n), M2, (M54 s), (M9 s), (M90 a22 a4 s), none, (M55 n s), some ⟨1, [[.ref 7 5 0 0]]⟩, (M1 d n), none, (M45 a4), (M45 a4), (M95 a22 a4 n s)]
abbrev M97 : LS := (12, .own 13 6 0 (List.length ((M116 n s) ++ (M117 a22 a4 s)))) :: (M94 a22 a4 n s)
abbrev M98 : OB := some ⟨5, [[.lst 1 (s.voters.weights.map cI), VI s.voters.need, .own 4 5 0 (List.length s.seats), .own 5 8 0 (List.length s.bids), .own 13 6 0 (List.length ((M116 n s) ++ (M117 a22 a4 s)))]]⟩
abbrev M99 : LB := [(M0 s), (M1 d n), M2, (M54 s), (M9 s), (M90 a22 a4 s), none, (M98 a22 a4 n s), some ⟨1, [[.ref 7 5 0 0]]⟩, (M1 d n), none, (M45 a4), (M45 a4), (M95 a22 a4 n s)]
abbrev M100 : OB := some ⟨5, [[.lst 1 (s.voters.weights.map cI), VI s.voters.need, .own 4 5 0 (List.length s.seats), .own 5 8 0 (List.length s.bids), .own 12 6 0 (List.length ((M116 n s) ++ (M117 a22 a4 s)))]]⟩
abbrev M101 : LB := [(M0 s), (M1 d n), M2, (M54 s), (M9 s), (M90 a22 a4 s), none, (M100 a22 a4 n s), some ⟨1, [[.ref 7 5 0 0]]⟩, (M1 d n), none, (M45 a4), (M95 a22 a4 n s)]
abbrev M102 : OB := some ⟨5, [[.lst 1 (s.voters.weights.map cI), VI s.voters.need, .own 4 5 0 (List.length s.seats), .own 5 8 0 (List.length s.bids), .own 10 6 0 (List.length ((M116 n s) ++ (M117 a22 a4 s)))]]⟩
abbrev M103 : LB := [(M0 s), (M1 d n), M2, (M54 s), (M9 s), (M90 a22 a4 s), none, (M102 a22 a4 n s), some ⟨1, [[.ref 7 5 0 0]]⟩, (M1 d n), (M95 a22 a4 n s)]
abbrev M104 : LS := [(51, .v (.bool true)), (8, VI 3), (6, .ref 7 5 0 0), (4, .ref 2 5 0 0)]
abbrev M106 : AV := .agg [.emp, VI 0, .emp, .emp, .emp]
abbrev M107 : LS := [(51, .v (.bool true)), (8, VI 2), (6, .ref 7 5 0 0), (4, .ref 2 5 0 0)]
abbrev M108 : LS := [(51, .v (.bool false)), (8, VI 0), (6, .ref 7 5 0 0), (4, .ref 2 5 0 0)]
abbrev M109 : LB := [(M0 s), (M1 d n), (M81 a4 a8 n s), (M54 s), (M69 a4 a8 s), some ⟨8, (s.bids.map Bid.cs)⟩, none, (M81 a4 a8 n s), some ⟨1, [[.ref 7 5 0 0]]⟩, (M1 d n), (M74 a4 a8 n s)]
abbrev M110 : AV := .agg [.lst 1 (s.voters.weights.map cI), VI s.voters.need, .own 4 5 0 (List.length s.seats), .own 5 8 0 (List.length s.bids), .own 10 6 0 (List.length ((M116 n s) ++ ((a8.serveP a4).2.1)))]
abbrev M111 : AV := .agg [.lst 1 (s.voters.weights.map cI), VI s.voters.need, .lst 5 ((List.set s.seats (0 + Int.toNat a4.node) ((a8.serveP a4).1)).map Seat.cs), .lst 8 (s.bids.map Bid.cs), .lst 6 (((M116 n s) ++ ((a8.serveP a4).2.1)).map Vote.cs)]
abbrev M112 : LB := [(M0 s), (M1 d n), (M102 a22 a4 n s), (M54 s), (M9 s), (M90 a22 a4 s), none, (M102 a22 a4 n s), some ⟨1, [[.ref 7 5 0 0]]⟩, (M1 d n), (M95 a22 a4 n s)]
abbrev M113 : AV := .agg [.lst 1 (s.voters.weights.map cI), VI s.voters.need, .own 4 5 0 (List.length s.seats), .own 5 8 0 (List.length s.bids), .own 10 6 0 (List.length ((M116 n s) ++ (M117 a22 a4 s)))]
abbrev M114 : AV := .agg [.lst 1 (s.voters.weights.map cI), VI s.voters.need, .lst 5 (s.seats.map Seat.cs), .lst 8 ((List.set s.bids (0 + Int.toNat a4.bid) (M86 a22 a4 s)).map Bid.cs), .lst 6 (((M116 n s) ++ (M117 a22 a4 s)).map Vote.cs)]
abbrev M115 : LS := [(51, .v (.bool true)), (8, VI 1), (6, .ref 7 5 0 0), (4, .ref 2 5 0 0)]
end
theorem step3_fn (s : Syn) (n : Int) (d : ByteArray) (ok : s.Ok) : Fn Tryd.prog 28 [.agg [.lst 1 (s.voters.weights.map cI), VI s.voters.need, .lst 5 (s.seats.map Seat.cs), .lst 8 (s.bids.map Bid.cs), .lst 6 (s.votes.map Vote.cs)], .agg [VI 3, VI n, .v (.string d)]] (.tup [.agg [.lst 1 (((((s.stepP 3 n d).1).voters).weights).map cI), VI ((((s.stepP 3 n d).1).voters).need), .lst 5 ((((s.stepP 3 n d).1).seats).map Seat.cs), .lst 8 ((((s.stepP 3 n d).1).bids).map Bid.cs), .lst 6 ((((s.stepP 3 n d).1).votes).map Vote.cs)], VI ((s.stepP 3 n d).2)]) := by
 have q1 := qc_len ok.q
 have q2 := ok.len
 have q3 := ok.few
 have q4 := ok.many
 have vv := ok.vv
 have hx1 : s.voters.weights.length ≤ 9223372036854775807 := by omega
 refine fnw F28_ok ?_
 refine srl 4 [2, 3, 4] ⟨M3, [(M0 s), (M1 d n), M2]⟩ ?_
 refine srr 1 ⟨(9, (M4 s)) :: M3, [(M0 s), (M1 d n), M2]⟩ ?_
 refine owj [(M4 s)] (M18 s) (M20 d n s) ⟨(10, (M18 s)) :: (9, (M4 s)) :: M3, (M20 d n s)⟩ (fiw F49_ok ?_) ?_
 refine srl 2 [1, 2] ⟨[(2, .ref 4 5 0 0), (1, .ref 3 5 0 0)], (M5 d n s)⟩ ?_
 refine sdr 3 ⟨(M6 s), (M5 d n s)⟩ ?_
 refine dwg [.lst 1 (s.voters.weights.map cI)] ⟨(6, .lst 1 (s.voters.weights.map cI)) :: (M6 s), (M5 d n s)⟩ (cloneI_fo s.voters.weights (by first | omega | exact qc_small (by assumption))) ?_
 refine dwr 6 ⟨(M8 s), (M5 d n s)⟩ ?_
 refine DW.fo (ar := [.lst 5 (s.seats.map Seat.cs)]) (fe := Seat.cs) (xs := s.seats) (x' := ⟨(13, .own 5 5 0 (List.length s.seats)) :: (M8 s), (M10 d n s)⟩) (by kernel_rfl) (by kernel_rfl) F68_call (cloneS_fo s.seats (by first | omega | exact qc_small (by assumption))) (by intro y; kernel_rfl) (by kernel_rfl) (by kernel_rfl) ?_
 refine dwr 2 ⟨(M11 s), (M10 d n s)⟩ ?_
 refine DW.fo (ar := [.lst 8 (s.bids.map Bid.cs)]) (fe := Bid.cs) (xs := s.bids) (x' := ⟨(16, .own 6 8 0 (List.length s.bids)) :: (M11 s), (M12 d n s)⟩) (by kernel_rfl) (by kernel_rfl) F69_call (cloneB_fo s.bids (by first | omega | exact qc_small (by assumption))) (by intro y; kernel_rfl) (by kernel_rfl) (by kernel_rfl) ?_
 refine dwr 2 ⟨(M13 s), (M12 d n s)⟩ ?_
 refine DW.fo (ar := [.lst 6 (s.votes.map Vote.cs)]) (fe := Vote.cs) (xs := s.votes) (x' := ⟨(19, .own 7 6 0 (List.length s.votes)) :: (M13 s), (M15 d n s)⟩) (by kernel_rfl) (by kernel_rfl) F70_call (cloneV_fo s.votes (by first | omega | exact qc_small (by assumption))) (by intro y; kernel_rfl) (by kernel_rfl) (by kernel_rfl) ?_
 refine dwl 2 [2] ⟨[(2, .ref 4 5 0 0)], (M17 d n s)⟩ ?_
 refine EL.ret ?_
 exact fne [2] [uf 0, uf 1, uf 2, uf 4, ut 5, ut 6, ut 7] ⟨[(2, .ref 3 5 0 0)], (M20 d n s)⟩ ⟨pq 5 Seat.cs s.seats, pq 8 Bid.cs s.bids, pq 6 Vote.cs s.votes, trivial⟩
 refine owl 3 [3, 4, 6] ⟨M22, (M21 d n s)⟩ ?_
 refine srr 2 ⟨(14, (M23 d n)) :: (13, .ref 7 5 0 0) :: M22, (M21 d n s)⟩ ?_
 refine owj [.ref 7 5 0 0, (M23 d n)] (.fn 76 [.ref 8 1 0 0, .ref 9 3 0 0]) (M24 d n s) ⟨(M29 d n), (M24 d n s)⟩ (fiw F54_ok ?_) ?_
 refine srl 3 [2, 3] ⟨[(3, .ref 9 3 0 0), (2, .ref 8 1 0 0)], (M24 d n s)⟩ ?_
 refine srr 12 ⟨M27, (M26 d n s)⟩ ?_
 refine ow2 ⟨M28, (M26 d n s)⟩ (opE_mlk .int (.v (.nilFunc)) (.s 10) (.s 12) 10 [[VI 6, .fn 74 [.ref 8 1 0 0, .ref 9 3 0 0]], [VI 3, .fn 76 [.ref 8 1 0 0, .ref 9 3 0 0]], [VI 4, .fn 79 [.ref 8 1 0 0, .ref 9 3 0 0]], [VI 5, .fn 80 [.ref 8 1 0 0, .ref 9 3 0 0]]] (.int .i64 3) (some (.fn 76 [.ref 8 1 0 0, .ref 9 3 0 0])) (by kernel_rfl) (by kernel_rfl) (by kernel_rfl) (by kernel_rfl) (by kernel_rfl) (by kernel_rfl)) ?_
 refine owl 1 [4] ⟨[(4, .fn 76 [.ref 8 1 0 0, .ref 9 3 0 0])], (M26 d n s)⟩ ?_
 refine EL.ret ?_
 exact fne [4] [uf 0, uf 1, uf 2, uf 3, ut 4, ut 5, ut 6, uf 7, uf 8, uf 9] ⟨[(4, .fn 76 [.ref 8 1 0 0, .ref 9 3 0 0])], (M24 d n s)⟩ ⟨pq 5 Seat.cs s.seats, pq 8 Bid.cs s.bids, pq 6 Vote.cs s.votes, trivial⟩
 refine owl 1 [3, 4, 6, 7] ⟨M30, (M24 d n s)⟩ ?_
 refine srl 1 [3, 4, 6, 7] ⟨M30, (M24 d n s)⟩ ?_
 refine EL.seq ?_
 refine EL.block ?_
 refine srl 3 [3, 4, 6, 7, 18] ⟨(18, .v (.bool false)) :: M30, (M24 d n s)⟩ ?_
 refine cnF ?_
 refine srr 4 ⟨(25, .v (.bool (!(strEq d (⟨#[]⟩))))) :: (24, .v (.bool (!(strEq d (⟨#[]⟩))))) :: (M31 d), (M24 d n s)⟩ ?_
 cases h1 : (strEq d (⟨#[]⟩))
 have g1 : ¬ (d = (⟨#[]⟩)) := fun hh => Bool.noConfusion ((strEq_iff.2 hh).symm.trans h1)
 refine owl 5 [3, 4, 6, 7, 21] ⟨(21, .v (.bool true)) :: M30, (M24 d n s)⟩ ?_
 refine cnT ?_
 refine roe 1 ⟨(8, VI 1) :: (21, .v (.bool true)) :: M30, (M24 d n s)⟩ ?_
 refine iN ?_
 refine tN ?_
 refine EL.seq ?_
 refine srl 2 [4, 6, 8, 51] ⟨M115, (M24 d n s)⟩ ?_
 refine cnT ?_
 refine srl 4 [4, 5] ⟨[(5, VI 1), (4, .ref 2 5 0 0)], (M24 d n s)⟩ ?_
 refine rtr ?_
 refine rqa (.tup [M106, VI 1]) (Ale.tup (aT (aE 1 (aR (aE 5 (aE 8 (aE 6 (.nil)))))) (aR .nil))) ?_
 rotate_left
 have g1 : (d = (⟨#[]⟩)) := strEq_iff.1 h1
 refine owl 5 [3, 4, 6, 7, 21] ⟨(21, .v (.bool false)) :: M30, (M24 d n s)⟩ ?_
 refine cnF ?_
 refine sdr 8 ⟨(38, .v (.bool (decide (n < 0)))) :: (37, .v (.bool (decide (n < 0)))) :: (M34 n), (M24 d n s)⟩ ?_
 cases h2 : (decide (n < 0))
 have g2 := of_decide_eq_false h2
 refine dwl 12 [4, 6, 7, 30] ⟨(30, .v (.bool (decide (n ≥ (List.length s.votes : Int))))) :: M36, (M24 d n s)⟩ ?_
 cases h3 : (decide (n ≥ (List.length s.votes : Int)))
 have g3 := of_decide_eq_false h3
 refine cnF ?_
 refine EL.reg0 ?_
 refine owr 1 ⟨M37, (M24 d n s)⟩ ?_
 obtain ⟨a4, ha4⟩ : ∃ y, s.votes[(n : Int).toNat]? = some y := idx_ex ⟨by omega, by omega⟩
 have ma4 := vv _ (List.mem_of_getElem? ha4)
 have hO5 : ((a4.kind = 1) ∨ (¬ a4.kind = 1 ∧ a4.kind = 3)) ∨ ((¬ a4.kind = 1 ∧ ¬ a4.kind = 3)) := by omega
 rcases hO5 with hD6 | hD7
 obtain ⟨a8, ha8⟩ : ∃ y, s.seats[(a4.node : Int).toNat]? = some y := idx_ex ⟨by omega, by omega⟩
 cases h9 : (decide ((List.length ((List.eraseIdx s.votes (Int.toNat n)) ++ ((a8.serveP a4).2.1)) : Int) > 200))
 have g9 := of_decide_eq_false h9
 have n9 : ¬ ((List.length ((List.eraseIdx s.votes (Int.toNat n)) ++ ((a8.serveP a4).2.1))) > 200) := by omega
 refine owj [.ref 8 1 0 0, .ref 9 3 0 0] (VI 0) (M82 a4 a8 d n s) ⟨(17, VI 0) :: M37, (M82 a4 a8 d n s)⟩ (fiw F76_ok ?_) ?_
 refine srl 1 [0, 1] ⟨[(0, .ref 8 1 0 0), (1, .ref 9 3 0 0)], (M24 d n s)⟩ ?_
 refine EL.sdrawF ?_
 refine dfr 4 ⟨(M38 n), (M24 d n s)⟩ ?_
 refine DF.fi (u := [(3, (M54 s)), (6, none), (7, (M55 n s)), (10, (M48 n s)), (11, (M45 a4))]) (ar := [.ref 7 5 0 0, VI n]) (r := (M43 a4)) (m' := (M56 a4 d n s)) (x' := ⟨(7, (M43 a4)) :: (M38 n), (M56 a4 d n s)⟩) (by kernel_rfl) (by kernel_rfl) F78_call ?_ (by kernel_rfl) (by kernel_rfl) (by kernel_rfl) ?_
 refine fiw F78_ok ?_
 refine srl 1 [0, 1, 4] ⟨(M41 n), (M40 d n s)⟩ ?_
 refine srr 6 ⟨(M42 n s), (M40 d n s)⟩ ?_
 refine ow2 ⟨(12, .ref 6 6 (0 + Int.toNat n) 0) :: (M42 n s), (M40 d n s)⟩ (opE_iado (.s 10) (.s 11) 6 6 0 (List.length s.votes) .i64 n ⟨6, (s.votes.map Vote.cs)⟩ (by kernel_rfl) (by kernel_rfl) rfl rfl ⟨by omega, by omega⟩ (by kernel_rfl)) ?_
 refine ow2 ⟨(M44 a4 n s), (M40 d n s)⟩ (opE_ldoS Vote.cs s.votes (some 6) (.s 12) 6 6 (0 + Int.toNat n) 0 a4 ((M43 a4)) (by kernel_rfl) (by kernel_rfl) rfl (by kernel_rfl) (by simpa using ha4) (by kernel_rfl)) ?_
 refine owl 2 [0, 1, 4, 5] ⟨(5, .ref 11 6 0 0) :: (M41 n), (M46 a4 d n s)⟩ ?_
 refine srr 9 ⟨(22, VI (IntKind.i64.wrap (n + 1))) :: (M47 n s), (M46 a4 d n s)⟩ ?_
 have e15 := wr64 (n := n + 1) (by omega)
 rw [e15]
 refine owj [.own 6 6 0 (List.length s.votes), VI n, VI (n + 1)] (.own 13 6 0 (List.length (M116 n s))) (M49 a4 d n s) ⟨(M50 n s), (M49 a4 d n s)⟩ (delete_map (fe := Vote.cs) (xs := s.votes) (m := (M46 a4 d n s)) (id := 6) (by_ := 56) (zs := [VI 0, VI 0, VI 0, VI 0, VI 0, .v (.string ⟨#[]⟩)]) (F87_ok.trans (by kernel_rfl)) rfl (by kernel_rfl) (by omega) (by omega) (by omega)) ?_
 refine owl 4 [4, 5] ⟨[(5, .ref 11 6 0 0), (4, .ref 10 6 0 0)], (M52 a4 d n s)⟩ ?_
 refine srl 2 [4] ⟨[(4, .ref 10 6 0 0)], (M53 a4 d n s)⟩ ?_
 refine EL.ret ?_
 exact fne [4] [uf 0, uf 1, uf 2, uf 3, ut 4, ut 5, uf 6, uf 7, uf 8, uf 9, ut 13, uf 10] ⟨[(4, .ref 11 6 0 0)], (M56 a4 d n s)⟩ ⟨pq 5 Seat.cs s.seats, pq 8 Bid.cs s.bids, pq 6 Vote.cs (M116 n s), trivial⟩
 refine DF.fi (u := [(4, (M69 a4 a8 s)), (7, (M79 a4 a8 n s)), (10, none), (12, (M74 a4 a8 n s))]) (ar := [.ref 7 5 0 0, (M43 a4)]) (r := VI 0) (m' := (M80 a4 a8 d n s)) (x' := ⟨(8, VI 0) :: (7, (M43 a4)) :: (M38 n), (M80 a4 a8 d n s)⟩) (by kernel_rfl) (by kernel_rfl) F77_call ?_ (by kernel_rfl) (by kernel_rfl) (by kernel_rfl) ?_
 refine fiw F77_ok ?_
 refine srl 2 [0, 3] ⟨[(3, .ref 12 6 0 0), (0, .ref 7 5 0 0)], (M57 a4 d n s)⟩ ?_
 refine srl 1 [0, 3] ⟨[(3, .ref 12 6 0 0), (0, .ref 7 5 0 0)], (M57 a4 d n s)⟩ ?_
 refine EL.seq ?_
 refine EL.seqG [0, 3, 13] (fun y => (y = ⟨M61, (M57 a4 d n s)⟩ ∧ ((a4.kind = 1) ∨ (¬ a4.kind = 1 ∧ a4.kind = 3)))) ?_ ?_
 intro IHJ16 HJ16
 refine EL.reg0 ?_
 refine owr 4 ⟨(9, .v (.bool (a4.kind == 1))) :: (8, .v (.bool (a4.kind == 1))) :: (M58 a4), (M57 a4 d n s)⟩ ?_
 cases h17 : (a4.kind == 1)
 have g17 := bqF h17
 refine owe 4 ⟨(13, .v (.bool (a4.kind == 3))) :: (12, .v (.bool (a4.kind == 3))) :: (M60 a4), (M57 a4 d n s)⟩ ?_
 have h18 : (a4.kind == 3) = true := eq_true_of_ne_false (fun hh => absurd hh (by simp only [beq_eq_false_iff_ne, ne_eq]; omega))
 rw [h18]
 exact tN (HJ16.get ⟨by kernel_rfl, (Or.inr (by refine ⟨(by first | exact g17 | exact h17 | simp_all | omega), (by first | exact g18 | exact h18 | simp_all | omega)⟩))⟩)
 have g17 := bqT h17
 refine owe 4 ⟨(M59 a4), (M57 a4 d n s)⟩ ?_
 exact tN (HJ16.get ⟨by kernel_rfl, (Or.inl (by first | exact g17 | exact h17 | simp_all | omega))⟩)
 rintro _ (⟨rfl, hD19⟩)
 refine cnT ?_
 refine EL.draw0 ?_
 refine dwr 14 ⟨(M62 a4 s), (M57 a4 d n s)⟩ ?_
 refine dw2 ⟨(M63 a4 s), (M57 a4 d n s)⟩ (opE_iado (.s 26) (.s 28) 5 4 0 (List.length s.seats) .i64 a4.node ⟨5, (s.seats.map Seat.cs)⟩ (by kernel_rfl) (by kernel_rfl) rfl rfl ⟨by omega, by omega⟩ (by kernel_rfl)) ?_
 refine dw2 ⟨(30, (M64 a8)) :: (M63 a4 s), (M57 a4 d n s)⟩ (opE_ldoS Seat.cs s.seats (some 5) (.s 29) 4 5 (0 + Int.toNat a4.node) 0 a8 ((M64 a8)) (by kernel_rfl) (by kernel_rfl) rfl (by kernel_rfl) (by simpa using ha8) (by kernel_rfl)) ?_
 refine dwr 1 ⟨(31, (M43 a4)) :: (30, (M64 a8)) :: (M63 a4 s), (M57 a4 d n s)⟩ ?_
 refine dwg [(M64 a8), (M43 a4)] ⟨(M66 a4 a8 s), (M57 a4 d n s)⟩ (serve_fn a8 a4) ?_
 refine dwr 4 ⟨(M67 a4 a8 s), (M57 a4 d n s)⟩ ?_
 refine dw2 ⟨(M68 a4 a8 s), (M57 a4 d n s)⟩ (opE_iado (.s 19) (.s 21) 5 4 0 (List.length s.seats) .i64 a4.node ⟨5, (s.seats.map Seat.cs)⟩ (by kernel_rfl) (by kernel_rfl) rfl rfl ⟨by omega, by omega⟩ (by kernel_rfl)) ?_
 refine dw2 ⟨(M68 a4 a8 s), (M70 a4 a8 d n s)⟩ (opE_stoS Seat.cs s.seats 5 (.s 36) (.s 33) 4 5 (0 + Int.toNat a4.node) 0 a8 ((a8.serveP a4).1) ((M65 a4 a8)) (by kernel_rfl) (by kernel_rfl) rfl rfl (by kernel_rfl) (by simpa using ha8) (by kernel_rfl) (by kernel_rfl)) ?_
 refine dwe 1 ⟨(M71 a4 a8 s), (M70 a4 a8 d n s)⟩ ?_
 refine tN ?_
 refine srr 2 ⟨(M72 a4 a8 s), (M70 a4 a8 d n s)⟩ ?_
 refine owj [.ref 7 5 0 0, .lst 6 (M118 a4 a8)] (VI 0) (M78 a4 a8 d n s) ⟨(69, VI 0) :: (M72 a4 a8 s), (M78 a4 a8 d n s)⟩ (fiw F81_ok ?_) ?_
 refine srl 1 [0, 1] ⟨[(0, .ref 7 5 0 0), (1, .lst 6 (M118 a4 a8))], (M70 a4 a8 d n s)⟩ ?_
 refine srr 7 ⟨(M73 a4 a8 n s), (M70 a4 a8 d n s)⟩ ?_
 refine ow2 ⟨(M76 a4 a8 n s), (M75 a4 a8 d n s)⟩ (oap Vote.cs (M116 n s) ((a8.serveP a4).2.1) (.s 10) (.s 11) 6 56 10 (.lst 6 (M118 a4 a8)) .lst (by first | (simp; omega) | omega | exact app_le (by first | exact q4 | exact ers_le q4 | omega) (by first | exact begin_len _ _ _ _ | exact Nat.le_trans (serve_len _ _) (by decide) | exact hear_len _ _ _ _ | (simp; done)) (by decide))) ?_
 refine owl 4 [0] ⟨[(0, .ref 7 5 0 0)], (M78 a4 a8 d n s)⟩ ?_
 refine EL.seq ?_
 refine srl 7 [22] ⟨[(22, .v (.bool (decide ((List.length ((M116 n s) ++ ((a8.serveP a4).2.1)) : Int) > 200))))], (M78 a4 a8 d n s)⟩ ?_
 rw [h9]
 refine cnF ?_
 refine skn ?_
 refine srl 1 [4] ⟨[(4, VI 0)], (M78 a4 a8 d n s)⟩ ?_
 refine EL.ret ?_
 exact fne [4] [uf 0, uf 1, uf 2, uf 3, ut 4, ut 5, uf 6, uf 7, uf 8, uf 9, uf 10, uf 11, uf 12, ut 13] ⟨[(4, VI 0)], (M78 a4 a8 d n s)⟩ ⟨pq 5 Seat.cs (List.set s.seats (0 + Int.toNat a4.node) ((a8.serveP a4).1)), pq 8 Bid.cs s.bids, pq 6 Vote.cs ((M116 n s) ++ ((a8.serveP a4).2.1)), trivial⟩
 refine owl 1 [4] ⟨[(4, VI 0)], (M78 a4 a8 d n s)⟩ ?_
 refine EL.ret ?_
 exact fne [4] [uf 0, uf 1, uf 2, uf 3, ut 4, ut 5, uf 6, uf 7, uf 8, uf 9, uf 10, uf 11, ut 13] ⟨[(4, VI 0)], (M80 a4 a8 d n s)⟩ ⟨pq 5 Seat.cs (List.set s.seats (0 + Int.toNat a4.node) ((a8.serveP a4).1)), pq 8 Bid.cs s.bids, pq 6 Vote.cs ((M116 n s) ++ ((a8.serveP a4).2.1)), trivial⟩
 refine dfl 1 [2] ⟨[(2, VI 0)], (M80 a4 a8 d n s)⟩ ?_
 refine EL.ret ?_
 exact fne [2] [uf 0, uf 1, uf 2, uf 3, ut 4, ut 5, uf 6, uf 7, uf 8, uf 9, ut 12] ⟨[(2, VI 0)], (M82 a4 a8 d n s)⟩ ⟨pq 5 Seat.cs (List.set s.seats (0 + Int.toNat a4.node) ((a8.serveP a4).1)), pq 8 Bid.cs s.bids, pq 6 Vote.cs ((M116 n s) ++ ((a8.serveP a4).2.1)), trivial⟩
 refine owe 1 ⟨(8, VI 0) :: (17, VI 0) :: M37, (M82 a4 a8 d n s)⟩ ?_
 refine iN ?_
 refine tN ?_
 refine EL.seq ?_
 refine srl 2 [4, 6, 8, 51] ⟨M108, (M82 a4 a8 d n s)⟩ ?_
 refine cnF ?_
 refine skn ?_
 refine srl 6 [4, 5] ⟨[(5, VI 0), (4, .ref 2 5 0 0)], (M109 a4 a8 d n s)⟩ ?_
 refine EL.ret ?_
 refine rqs (.tup [(M111 a4 a8 n s), VI 0]) (.tup [(M110 a4 a8 n s), VI 0]) (snapR_tup (sA (snapA_agg (sC (by kernel_rfl) (sC (by kernel_rfl) (sC (smp Seat.cs (List.set s.seats (0 + Int.toNat a4.node) ((a8.serveP a4).1))) (sC (smp Bid.cs s.bids) (sC (smp Vote.cs ((List.eraseIdx s.votes (Int.toNat n)) ++ ((a8.serveP a4).2.1))) (rfl))))))) (sA (by kernel_rfl) (snapAs_nil)))) ?_
 rotate_left
 have g9 := of_decide_eq_true h9
 have n9 : ((List.length ((List.eraseIdx s.votes (Int.toNat n)) ++ ((a8.serveP a4).2.1))) > 200) := by omega
 refine owj [.ref 8 1 0 0, .ref 9 3 0 0] (VI 2) (M82 a4 a8 d n s) ⟨(17, VI 2) :: M37, (M82 a4 a8 d n s)⟩ (fiw F76_ok ?_) ?_
 refine srl 1 [0, 1] ⟨[(0, .ref 8 1 0 0), (1, .ref 9 3 0 0)], (M24 d n s)⟩ ?_
 refine EL.sdrawF ?_
 refine dfr 4 ⟨(M38 n), (M24 d n s)⟩ ?_
 refine DF.fi (u := [(3, (M54 s)), (6, none), (7, (M55 n s)), (10, (M48 n s)), (11, (M45 a4))]) (ar := [.ref 7 5 0 0, VI n]) (r := (M43 a4)) (m' := (M56 a4 d n s)) (x' := ⟨(7, (M43 a4)) :: (M38 n), (M56 a4 d n s)⟩) (by kernel_rfl) (by kernel_rfl) F78_call ?_ (by kernel_rfl) (by kernel_rfl) (by kernel_rfl) ?_
 refine fiw F78_ok ?_
 refine srl 1 [0, 1, 4] ⟨(M41 n), (M40 d n s)⟩ ?_
 refine srr 6 ⟨(M42 n s), (M40 d n s)⟩ ?_
 refine ow2 ⟨(12, .ref 6 6 (0 + Int.toNat n) 0) :: (M42 n s), (M40 d n s)⟩ (opE_iado (.s 10) (.s 11) 6 6 0 (List.length s.votes) .i64 n ⟨6, (s.votes.map Vote.cs)⟩ (by kernel_rfl) (by kernel_rfl) rfl rfl ⟨by omega, by omega⟩ (by kernel_rfl)) ?_
 refine ow2 ⟨(M44 a4 n s), (M40 d n s)⟩ (opE_ldoS Vote.cs s.votes (some 6) (.s 12) 6 6 (0 + Int.toNat n) 0 a4 ((M43 a4)) (by kernel_rfl) (by kernel_rfl) rfl (by kernel_rfl) (by simpa using ha4) (by kernel_rfl)) ?_
 refine owl 2 [0, 1, 4, 5] ⟨(5, .ref 11 6 0 0) :: (M41 n), (M46 a4 d n s)⟩ ?_
 refine srr 9 ⟨(22, VI (IntKind.i64.wrap (n + 1))) :: (M47 n s), (M46 a4 d n s)⟩ ?_
 have e10 := wr64 (n := n + 1) (by omega)
 rw [e10]
 refine owj [.own 6 6 0 (List.length s.votes), VI n, VI (n + 1)] (.own 13 6 0 (List.length (M116 n s))) (M49 a4 d n s) ⟨(M50 n s), (M49 a4 d n s)⟩ (delete_map (fe := Vote.cs) (xs := s.votes) (m := (M46 a4 d n s)) (id := 6) (by_ := 56) (zs := [VI 0, VI 0, VI 0, VI 0, VI 0, .v (.string ⟨#[]⟩)]) (F87_ok.trans (by kernel_rfl)) rfl (by kernel_rfl) (by omega) (by omega) (by omega)) ?_
 refine owl 4 [4, 5] ⟨[(5, .ref 11 6 0 0), (4, .ref 10 6 0 0)], (M52 a4 d n s)⟩ ?_
 refine srl 2 [4] ⟨[(4, .ref 10 6 0 0)], (M53 a4 d n s)⟩ ?_
 refine EL.ret ?_
 exact fne [4] [uf 0, uf 1, uf 2, uf 3, ut 4, ut 5, uf 6, uf 7, uf 8, uf 9, ut 13, uf 10] ⟨[(4, .ref 11 6 0 0)], (M56 a4 d n s)⟩ ⟨pq 5 Seat.cs s.seats, pq 8 Bid.cs s.bids, pq 6 Vote.cs (M116 n s), trivial⟩
 refine DF.fi (u := [(4, (M69 a4 a8 s)), (7, (M79 a4 a8 n s)), (10, none), (12, (M74 a4 a8 n s))]) (ar := [.ref 7 5 0 0, (M43 a4)]) (r := VI 2) (m' := (M80 a4 a8 d n s)) (x' := ⟨(8, VI 2) :: (7, (M43 a4)) :: (M38 n), (M80 a4 a8 d n s)⟩) (by kernel_rfl) (by kernel_rfl) F77_call ?_ (by kernel_rfl) (by kernel_rfl) (by kernel_rfl) ?_
 refine fiw F77_ok ?_
 refine srl 2 [0, 3] ⟨[(3, .ref 12 6 0 0), (0, .ref 7 5 0 0)], (M57 a4 d n s)⟩ ?_
 refine srl 1 [0, 3] ⟨[(3, .ref 12 6 0 0), (0, .ref 7 5 0 0)], (M57 a4 d n s)⟩ ?_
 refine EL.seq ?_
 refine EL.seqG [0, 3, 13] (fun y => (y = ⟨M61, (M57 a4 d n s)⟩ ∧ ((a4.kind = 1) ∨ (¬ a4.kind = 1 ∧ a4.kind = 3)))) ?_ ?_
 intro IHJ11 HJ11
 refine EL.reg0 ?_
 refine owr 4 ⟨(9, .v (.bool (a4.kind == 1))) :: (8, .v (.bool (a4.kind == 1))) :: (M58 a4), (M57 a4 d n s)⟩ ?_
 cases h12 : (a4.kind == 1)
 have g12 := bqF h12
 refine owe 4 ⟨(13, .v (.bool (a4.kind == 3))) :: (12, .v (.bool (a4.kind == 3))) :: (M60 a4), (M57 a4 d n s)⟩ ?_
 have h13 : (a4.kind == 3) = true := eq_true_of_ne_false (fun hh => absurd hh (by simp only [beq_eq_false_iff_ne, ne_eq]; omega))
 rw [h13]
 exact tN (HJ11.get ⟨by kernel_rfl, (Or.inr (by refine ⟨(by first | exact g12 | exact h12 | simp_all | omega), (by first | exact g13 | exact h13 | simp_all | omega)⟩))⟩)
 have g12 := bqT h12
 refine owe 4 ⟨(M59 a4), (M57 a4 d n s)⟩ ?_
 exact tN (HJ11.get ⟨by kernel_rfl, (Or.inl (by first | exact g12 | exact h12 | simp_all | omega))⟩)
 rintro _ (⟨rfl, hD14⟩)
 refine cnT ?_
 refine EL.draw0 ?_
 refine dwr 14 ⟨(M62 a4 s), (M57 a4 d n s)⟩ ?_
 refine dw2 ⟨(M63 a4 s), (M57 a4 d n s)⟩ (opE_iado (.s 26) (.s 28) 5 4 0 (List.length s.seats) .i64 a4.node ⟨5, (s.seats.map Seat.cs)⟩ (by kernel_rfl) (by kernel_rfl) rfl rfl ⟨by omega, by omega⟩ (by kernel_rfl)) ?_
 refine dw2 ⟨(30, (M64 a8)) :: (M63 a4 s), (M57 a4 d n s)⟩ (opE_ldoS Seat.cs s.seats (some 5) (.s 29) 4 5 (0 + Int.toNat a4.node) 0 a8 ((M64 a8)) (by kernel_rfl) (by kernel_rfl) rfl (by kernel_rfl) (by simpa using ha8) (by kernel_rfl)) ?_
 refine dwr 1 ⟨(31, (M43 a4)) :: (30, (M64 a8)) :: (M63 a4 s), (M57 a4 d n s)⟩ ?_
 refine dwg [(M64 a8), (M43 a4)] ⟨(M66 a4 a8 s), (M57 a4 d n s)⟩ (serve_fn a8 a4) ?_
 refine dwr 4 ⟨(M67 a4 a8 s), (M57 a4 d n s)⟩ ?_
 refine dw2 ⟨(M68 a4 a8 s), (M57 a4 d n s)⟩ (opE_iado (.s 19) (.s 21) 5 4 0 (List.length s.seats) .i64 a4.node ⟨5, (s.seats.map Seat.cs)⟩ (by kernel_rfl) (by kernel_rfl) rfl rfl ⟨by omega, by omega⟩ (by kernel_rfl)) ?_
 refine dw2 ⟨(M68 a4 a8 s), (M70 a4 a8 d n s)⟩ (opE_stoS Seat.cs s.seats 5 (.s 36) (.s 33) 4 5 (0 + Int.toNat a4.node) 0 a8 ((a8.serveP a4).1) ((M65 a4 a8)) (by kernel_rfl) (by kernel_rfl) rfl rfl (by kernel_rfl) (by simpa using ha8) (by kernel_rfl) (by kernel_rfl)) ?_
 refine dwe 1 ⟨(M71 a4 a8 s), (M70 a4 a8 d n s)⟩ ?_
 refine tN ?_
 refine srr 2 ⟨(M72 a4 a8 s), (M70 a4 a8 d n s)⟩ ?_
 refine owj [.ref 7 5 0 0, .lst 6 (M118 a4 a8)] (VI 2) (M78 a4 a8 d n s) ⟨(69, VI 2) :: (M72 a4 a8 s), (M78 a4 a8 d n s)⟩ (fiw F81_ok ?_) ?_
 refine srl 1 [0, 1] ⟨[(0, .ref 7 5 0 0), (1, .lst 6 (M118 a4 a8))], (M70 a4 a8 d n s)⟩ ?_
 refine srr 7 ⟨(M73 a4 a8 n s), (M70 a4 a8 d n s)⟩ ?_
 refine ow2 ⟨(M76 a4 a8 n s), (M75 a4 a8 d n s)⟩ (oap Vote.cs (M116 n s) ((a8.serveP a4).2.1) (.s 10) (.s 11) 6 56 10 (.lst 6 (M118 a4 a8)) .lst (by first | (simp; omega) | omega | exact app_le (by first | exact q4 | exact ers_le q4 | omega) (by first | exact begin_len _ _ _ _ | exact Nat.le_trans (serve_len _ _) (by decide) | exact hear_len _ _ _ _ | (simp; done)) (by decide))) ?_
 refine owl 4 [0] ⟨[(0, .ref 7 5 0 0)], (M78 a4 a8 d n s)⟩ ?_
 refine EL.seq ?_
 refine srl 7 [22] ⟨[(22, .v (.bool (decide ((List.length ((M116 n s) ++ ((a8.serveP a4).2.1)) : Int) > 200))))], (M78 a4 a8 d n s)⟩ ?_
 rw [h9]
 refine cnT ?_
 refine srl 1 [4] ⟨[(4, VI 2)], (M78 a4 a8 d n s)⟩ ?_
 refine rtr ?_
 exact fne [4] [uf 0, uf 1, uf 2, uf 3, ut 4, ut 5, uf 6, uf 7, uf 8, uf 9, uf 10, uf 11, uf 12, ut 13] ⟨[(4, VI 2)], (M78 a4 a8 d n s)⟩ ⟨pq 5 Seat.cs (List.set s.seats (0 + Int.toNat a4.node) ((a8.serveP a4).1)), pq 8 Bid.cs s.bids, pq 6 Vote.cs ((M116 n s) ++ ((a8.serveP a4).2.1)), trivial⟩
 refine owl 1 [4] ⟨[(4, VI 2)], (M78 a4 a8 d n s)⟩ ?_
 refine EL.ret ?_
 exact fne [4] [uf 0, uf 1, uf 2, uf 3, ut 4, ut 5, uf 6, uf 7, uf 8, uf 9, uf 10, uf 11, ut 13] ⟨[(4, VI 2)], (M80 a4 a8 d n s)⟩ ⟨pq 5 Seat.cs (List.set s.seats (0 + Int.toNat a4.node) ((a8.serveP a4).1)), pq 8 Bid.cs s.bids, pq 6 Vote.cs ((M116 n s) ++ ((a8.serveP a4).2.1)), trivial⟩
 refine dfl 1 [2] ⟨[(2, VI 2)], (M80 a4 a8 d n s)⟩ ?_
 refine EL.ret ?_
 exact fne [2] [uf 0, uf 1, uf 2, uf 3, ut 4, ut 5, uf 6, uf 7, uf 8, uf 9, ut 12] ⟨[(2, VI 2)], (M82 a4 a8 d n s)⟩ ⟨pq 5 Seat.cs (List.set s.seats (0 + Int.toNat a4.node) ((a8.serveP a4).1)), pq 8 Bid.cs s.bids, pq 6 Vote.cs ((M116 n s) ++ ((a8.serveP a4).2.1)), trivial⟩
 refine owe 1 ⟨(8, VI 2) :: (17, VI 2) :: M37, (M82 a4 a8 d n s)⟩ ?_
 refine iN ?_
 refine tN ?_
 refine EL.seq ?_
 refine srl 2 [4, 6, 8, 51] ⟨M107, (M82 a4 a8 d n s)⟩ ?_
 refine cnT ?_
 refine srl 4 [4, 5] ⟨[(5, VI 2), (4, .ref 2 5 0 0)], (M82 a4 a8 d n s)⟩ ?_
 refine rtr ?_
 refine rqa (.tup [M106, VI 2]) (Ale.tup (aT (aE 1 (aR (aE 5 (aE 8 (aE 6 (.nil)))))) (aR .nil))) ?_
 rotate_left
 have h20 : (a4.kind == 1) = false := by simp only [beq_iff_eq, beq_eq_false_iff_ne, ne_eq]; omega
 have g20 := bqF h20
 have h21 : (a4.kind == 3) = false := by simp only [beq_iff_eq, beq_eq_false_iff_ne, ne_eq]; omega
 have g21 := bqF h21
 obtain ⟨a22, ha22⟩ : ∃ y, s.bids[(a4.bid : Int).toNat]? = some y := idx_ex ⟨by omega, by omega⟩
 cases h23 : (decide ((List.length ((List.eraseIdx s.votes (Int.toNat n)) ++ ((hearP s.voters a4.bid a22 a4).2.1)) : Int) > 200))
 have g23 := of_decide_eq_false h23
 have n23 : ¬ ((List.length ((List.eraseIdx s.votes (Int.toNat n)) ++ ((hearP s.voters a4.bid a22 a4).2.1))) > 200) := by omega
 refine owj [.ref 8 1 0 0, .ref 9 3 0 0] (VI 0) (M103 a22 a4 d n s) ⟨(17, VI 0) :: M37, (M103 a22 a4 d n s)⟩ (fiw F76_ok ?_) ?_
 refine srl 1 [0, 1] ⟨[(0, .ref 8 1 0 0), (1, .ref 9 3 0 0)], (M24 d n s)⟩ ?_
 refine EL.sdrawF ?_
 refine dfr 4 ⟨(M38 n), (M24 d n s)⟩ ?_
 refine DF.fi (u := [(3, (M54 s)), (6, none), (7, (M55 n s)), (10, (M48 n s)), (11, (M45 a4))]) (ar := [.ref 7 5 0 0, VI n]) (r := (M43 a4)) (m' := (M56 a4 d n s)) (x' := ⟨(7, (M43 a4)) :: (M38 n), (M56 a4 d n s)⟩) (by kernel_rfl) (by kernel_rfl) F78_call ?_ (by kernel_rfl) (by kernel_rfl) (by kernel_rfl) ?_
 refine fiw F78_ok ?_
 refine srl 1 [0, 1, 4] ⟨(M41 n), (M40 d n s)⟩ ?_
 refine srr 6 ⟨(M42 n s), (M40 d n s)⟩ ?_
 refine ow2 ⟨(12, .ref 6 6 (0 + Int.toNat n) 0) :: (M42 n s), (M40 d n s)⟩ (opE_iado (.s 10) (.s 11) 6 6 0 (List.length s.votes) .i64 n ⟨6, (s.votes.map Vote.cs)⟩ (by kernel_rfl) (by kernel_rfl) rfl rfl ⟨by omega, by omega⟩ (by kernel_rfl)) ?_
 refine ow2 ⟨(M44 a4 n s), (M40 d n s)⟩ (opE_ldoS Vote.cs s.votes (some 6) (.s 12) 6 6 (0 + Int.toNat n) 0 a4 ((M43 a4)) (by kernel_rfl) (by kernel_rfl) rfl (by kernel_rfl) (by simpa using ha4) (by kernel_rfl)) ?_
 refine owl 2 [0, 1, 4, 5] ⟨(5, .ref 11 6 0 0) :: (M41 n), (M46 a4 d n s)⟩ ?_
 refine srr 9 ⟨(22, VI (IntKind.i64.wrap (n + 1))) :: (M47 n s), (M46 a4 d n s)⟩ ?_
 have e25 := wr64 (n := n + 1) (by omega)
 rw [e25]
 refine owj [.own 6 6 0 (List.length s.votes), VI n, VI (n + 1)] (.own 13 6 0 (List.length (M116 n s))) (M49 a4 d n s) ⟨(M50 n s), (M49 a4 d n s)⟩ (delete_map (fe := Vote.cs) (xs := s.votes) (m := (M46 a4 d n s)) (id := 6) (by_ := 56) (zs := [VI 0, VI 0, VI 0, VI 0, VI 0, .v (.string ⟨#[]⟩)]) (F87_ok.trans (by kernel_rfl)) rfl (by kernel_rfl) (by omega) (by omega) (by omega)) ?_
 refine owl 4 [4, 5] ⟨[(5, .ref 11 6 0 0), (4, .ref 10 6 0 0)], (M52 a4 d n s)⟩ ?_
 refine srl 2 [4] ⟨[(4, .ref 10 6 0 0)], (M53 a4 d n s)⟩ ?_
 refine EL.ret ?_
 exact fne [4] [uf 0, uf 1, uf 2, uf 3, ut 4, ut 5, uf 6, uf 7, uf 8, uf 9, ut 13, uf 10] ⟨[(4, .ref 11 6 0 0)], (M56 a4 d n s)⟩ ⟨pq 5 Seat.cs s.seats, pq 8 Bid.cs s.bids, pq 6 Vote.cs (M116 n s), trivial⟩
 refine DF.fi (u := [(5, (M90 a22 a4 s)), (7, (M100 a22 a4 n s)), (10, none), (12, (M95 a22 a4 n s))]) (ar := [.ref 7 5 0 0, (M43 a4)]) (r := VI 0) (m' := (M101 a22 a4 d n s)) (x' := ⟨(8, VI 0) :: (7, (M43 a4)) :: (M38 n), (M101 a22 a4 d n s)⟩) (by kernel_rfl) (by kernel_rfl) F77_call ?_ (by kernel_rfl) (by kernel_rfl) (by kernel_rfl) ?_
 refine fiw F77_ok ?_
 refine srl 2 [0, 3] ⟨[(3, .ref 12 6 0 0), (0, .ref 7 5 0 0)], (M57 a4 d n s)⟩ ?_
 refine srl 1 [0, 3] ⟨[(3, .ref 12 6 0 0), (0, .ref 7 5 0 0)], (M57 a4 d n s)⟩ ?_
 refine EL.seq ?_
 refine srr 4 ⟨(9, .v (.bool (a4.kind == 1))) :: (8, .v (.bool (a4.kind == 1))) :: (M58 a4), (M57 a4 d n s)⟩ ?_
 rw [h20]
 refine owl 4 [0, 3, 13] ⟨[(13, .v (.bool (a4.kind == 3))), (3, .ref 12 6 0 0), (0, .ref 7 5 0 0)], (M57 a4 d n s)⟩ ?_
 rw [h21]
 refine cnF ?_
 refine EL.draw0 ?_
 refine dwr 21 ⟨(M83 a4 s), (M57 a4 d n s)⟩ ?_
 refine dw2 ⟨(59, .ref 5 8 (0 + Int.toNat a4.bid) 0) :: (M83 a4 s), (M57 a4 d n s)⟩ (opE_iado (.s 56) (.s 58) 8 5 0 (List.length s.bids) .i64 a4.bid ⟨8, (s.bids.map Bid.cs)⟩ (by kernel_rfl) (by kernel_rfl) rfl rfl ⟨by omega, by omega⟩ (by kernel_rfl)) ?_
 refine dw2 ⟨(M85 a22 a4 s), (M57 a4 d n s)⟩ (opE_ldoS Bid.cs s.bids (some 8) (.s 59) 5 8 (0 + Int.toNat a4.bid) 0 a22 ((M84 a22)) (by kernel_rfl) (by kernel_rfl) rfl (by kernel_rfl) (by simpa using ha22) (by kernel_rfl)) ?_
 refine dwr 1 ⟨(61, (M43 a4)) :: (M85 a22 a4 s), (M57 a4 d n s)⟩ ?_
 refine dwg [(M7 s), VI a4.bid, (M84 a22), (M43 a4)] ⟨(M88 a22 a4 s), (M57 a4 d n s)⟩ (hear_fn s.voters a4.bid a22 a4 hx1) ?_
 refine dwr 4 ⟨(M89 a22 a4 s), (M57 a4 d n s)⟩ ?_
 refine dw2 ⟨(66, .ref 5 8 (0 + Int.toNat a4.bid) 0) :: (M89 a22 a4 s), (M57 a4 d n s)⟩ (opE_iado (.s 42) (.s 44) 8 5 0 (List.length s.bids) .i64 a4.bid ⟨8, (s.bids.map Bid.cs)⟩ (by kernel_rfl) (by kernel_rfl) rfl rfl ⟨by omega, by omega⟩ (by kernel_rfl)) ?_
 refine dw2 ⟨(66, .ref 5 8 (0 + Int.toNat a4.bid) 0) :: (M89 a22 a4 s), (M91 a22 a4 d n s)⟩ (opE_stoS Bid.cs s.bids 8 (.s 66) (.s 63) 5 8 (0 + Int.toNat a4.bid) 0 a22 (M86 a22 a4 s) ((M87 a22 a4 s)) (by kernel_rfl) (by kernel_rfl) rfl rfl (by kernel_rfl) (by simpa using ha22) (by kernel_rfl) (by kernel_rfl)) ?_
 refine dwe 1 ⟨(M92 a22 a4 s), (M91 a22 a4 d n s)⟩ ?_
 refine tN ?_
 refine srr 2 ⟨(M93 a22 a4 s), (M91 a22 a4 d n s)⟩ ?_
 refine owj [.ref 7 5 0 0, .lst 6 ((M117 a22 a4 s).map Vote.cs)] (VI 0) (M99 a22 a4 d n s) ⟨(69, VI 0) :: (M93 a22 a4 s), (M99 a22 a4 d n s)⟩ (fiw F81_ok ?_) ?_
 refine srl 1 [0, 1] ⟨[(0, .ref 7 5 0 0), (1, .lst 6 ((M117 a22 a4 s).map Vote.cs))], (M91 a22 a4 d n s)⟩ ?_
 refine srr 7 ⟨(M94 a22 a4 n s), (M91 a22 a4 d n s)⟩ ?_
 refine ow2 ⟨(M97 a22 a4 n s), (M96 a22 a4 d n s)⟩ (oap Vote.cs (M116 n s) (M117 a22 a4 s) (.s 10) (.s 11) 6 56 10 (.lst 6 ((M117 a22 a4 s).map Vote.cs)) .lst (by first | (simp; omega) | omega | exact app_le (by first | exact q4 | exact ers_le q4 | omega) (by first | exact begin_len _ _ _ _ | exact Nat.le_trans (serve_len _ _) (by decide) | exact hear_len _ _ _ _ | (simp; done)) (by decide))) ?_
 refine owl 4 [0] ⟨[(0, .ref 7 5 0 0)], (M99 a22 a4 d n s)⟩ ?_
 refine EL.seq ?_
 refine srl 7 [22] ⟨[(22, .v (.bool (decide ((List.length ((M116 n s) ++ (M117 a22 a4 s)) : Int) > 200))))], (M99 a22 a4 d n s)⟩ ?_
 rw [h23]
 refine cnF ?_
 refine skn ?_
 refine srl 1 [4] ⟨[(4, VI 0)], (M99 a22 a4 d n s)⟩ ?_
 refine EL.ret ?_
 exact fne [4] [uf 0, uf 1, uf 2, uf 3, ut 4, ut 5, uf 6, uf 7, uf 8, uf 9, uf 10, uf 11, uf 12, ut 13] ⟨[(4, VI 0)], (M99 a22 a4 d n s)⟩ ⟨pq 5 Seat.cs s.seats, pq 8 Bid.cs (List.set s.bids (0 + Int.toNat a4.bid) (M86 a22 a4 s)), pq 6 Vote.cs ((M116 n s) ++ (M117 a22 a4 s)), trivial⟩
 refine owl 1 [4] ⟨[(4, VI 0)], (M99 a22 a4 d n s)⟩ ?_
 refine EL.ret ?_
 exact fne [4] [uf 0, uf 1, uf 2, uf 3, ut 4, ut 5, uf 6, uf 7, uf 8, uf 9, uf 10, uf 11, ut 13] ⟨[(4, VI 0)], (M101 a22 a4 d n s)⟩ ⟨pq 5 Seat.cs s.seats, pq 8 Bid.cs (List.set s.bids (0 + Int.toNat a4.bid) (M86 a22 a4 s)), pq 6 Vote.cs ((M116 n s) ++ (M117 a22 a4 s)), trivial⟩
 refine dfl 1 [2] ⟨[(2, VI 0)], (M101 a22 a4 d n s)⟩ ?_
 refine EL.ret ?_
 exact fne [2] [uf 0, uf 1, uf 2, uf 3, ut 4, ut 5, uf 6, uf 7, uf 8, uf 9, ut 12] ⟨[(2, VI 0)], (M103 a22 a4 d n s)⟩ ⟨pq 5 Seat.cs s.seats, pq 8 Bid.cs (List.set s.bids (0 + Int.toNat a4.bid) (M86 a22 a4 s)), pq 6 Vote.cs ((M116 n s) ++ (M117 a22 a4 s)), trivial⟩
 refine owe 1 ⟨(8, VI 0) :: (17, VI 0) :: M37, (M103 a22 a4 d n s)⟩ ?_
 refine iN ?_
 refine tN ?_
 refine EL.seq ?_
 refine srl 2 [4, 6, 8, 51] ⟨M108, (M103 a22 a4 d n s)⟩ ?_
 refine cnF ?_
 refine skn ?_
 refine srl 6 [4, 5] ⟨[(5, VI 0), (4, .ref 2 5 0 0)], (M112 a22 a4 d n s)⟩ ?_
 refine EL.ret ?_
 refine rqs (.tup [(M114 a22 a4 n s), VI 0]) (.tup [(M113 a22 a4 n s), VI 0]) (snapR_tup (sA (snapA_agg (sC (by kernel_rfl) (sC (by kernel_rfl) (sC (smp Seat.cs s.seats) (sC (smp Bid.cs (List.set s.bids (0 + Int.toNat a4.bid) (M86 a22 a4 s))) (sC (smp Vote.cs ((List.eraseIdx s.votes (Int.toNat n)) ++ ((hearP s.voters a4.bid a22 a4).2.1))) (rfl))))))) (sA (by kernel_rfl) (snapAs_nil)))) ?_
 rotate_left
 have g23 := of_decide_eq_true h23
 have n23 : ((List.length ((List.eraseIdx s.votes (Int.toNat n)) ++ ((hearP s.voters a4.bid a22 a4).2.1))) > 200) := by omega
 refine owj [.ref 8 1 0 0, .ref 9 3 0 0] (VI 2) (M103 a22 a4 d n s) ⟨(17, VI 2) :: M37, (M103 a22 a4 d n s)⟩ (fiw F76_ok ?_) ?_
 refine srl 1 [0, 1] ⟨[(0, .ref 8 1 0 0), (1, .ref 9 3 0 0)], (M24 d n s)⟩ ?_
 refine EL.sdrawF ?_
 refine dfr 4 ⟨(M38 n), (M24 d n s)⟩ ?_
 refine DF.fi (u := [(3, (M54 s)), (6, none), (7, (M55 n s)), (10, (M48 n s)), (11, (M45 a4))]) (ar := [.ref 7 5 0 0, VI n]) (r := (M43 a4)) (m' := (M56 a4 d n s)) (x' := ⟨(7, (M43 a4)) :: (M38 n), (M56 a4 d n s)⟩) (by kernel_rfl) (by kernel_rfl) F78_call ?_ (by kernel_rfl) (by kernel_rfl) (by kernel_rfl) ?_
 refine fiw F78_ok ?_
 refine srl 1 [0, 1, 4] ⟨(M41 n), (M40 d n s)⟩ ?_
 refine srr 6 ⟨(M42 n s), (M40 d n s)⟩ ?_
 refine ow2 ⟨(12, .ref 6 6 (0 + Int.toNat n) 0) :: (M42 n s), (M40 d n s)⟩ (opE_iado (.s 10) (.s 11) 6 6 0 (List.length s.votes) .i64 n ⟨6, (s.votes.map Vote.cs)⟩ (by kernel_rfl) (by kernel_rfl) rfl rfl ⟨by omega, by omega⟩ (by kernel_rfl)) ?_
 refine ow2 ⟨(M44 a4 n s), (M40 d n s)⟩ (opE_ldoS Vote.cs s.votes (some 6) (.s 12) 6 6 (0 + Int.toNat n) 0 a4 ((M43 a4)) (by kernel_rfl) (by kernel_rfl) rfl (by kernel_rfl) (by simpa using ha4) (by kernel_rfl)) ?_
 refine owl 2 [0, 1, 4, 5] ⟨(5, .ref 11 6 0 0) :: (M41 n), (M46 a4 d n s)⟩ ?_
 refine srr 9 ⟨(22, VI (IntKind.i64.wrap (n + 1))) :: (M47 n s), (M46 a4 d n s)⟩ ?_
 have e24 := wr64 (n := n + 1) (by omega)
 rw [e24]
 refine owj [.own 6 6 0 (List.length s.votes), VI n, VI (n + 1)] (.own 13 6 0 (List.length (M116 n s))) (M49 a4 d n s) ⟨(M50 n s), (M49 a4 d n s)⟩ (delete_map (fe := Vote.cs) (xs := s.votes) (m := (M46 a4 d n s)) (id := 6) (by_ := 56) (zs := [VI 0, VI 0, VI 0, VI 0, VI 0, .v (.string ⟨#[]⟩)]) (F87_ok.trans (by kernel_rfl)) rfl (by kernel_rfl) (by omega) (by omega) (by omega)) ?_
 refine owl 4 [4, 5] ⟨[(5, .ref 11 6 0 0), (4, .ref 10 6 0 0)], (M52 a4 d n s)⟩ ?_
 refine srl 2 [4] ⟨[(4, .ref 10 6 0 0)], (M53 a4 d n s)⟩ ?_
 refine EL.ret ?_
 exact fne [4] [uf 0, uf 1, uf 2, uf 3, ut 4, ut 5, uf 6, uf 7, uf 8, uf 9, ut 13, uf 10] ⟨[(4, .ref 11 6 0 0)], (M56 a4 d n s)⟩ ⟨pq 5 Seat.cs s.seats, pq 8 Bid.cs s.bids, pq 6 Vote.cs (M116 n s), trivial⟩
 refine DF.fi (u := [(5, (M90 a22 a4 s)), (7, (M100 a22 a4 n s)), (10, none), (12, (M95 a22 a4 n s))]) (ar := [.ref 7 5 0 0, (M43 a4)]) (r := VI 2) (m' := (M101 a22 a4 d n s)) (x' := ⟨(8, VI 2) :: (7, (M43 a4)) :: (M38 n), (M101 a22 a4 d n s)⟩) (by kernel_rfl) (by kernel_rfl) F77_call ?_ (by kernel_rfl) (by kernel_rfl) (by kernel_rfl) ?_
 refine fiw F77_ok ?_
 refine srl 2 [0, 3] ⟨[(3, .ref 12 6 0 0), (0, .ref 7 5 0 0)], (M57 a4 d n s)⟩ ?_
 refine srl 1 [0, 3] ⟨[(3, .ref 12 6 0 0), (0, .ref 7 5 0 0)], (M57 a4 d n s)⟩ ?_
 refine EL.seq ?_
 refine srr 4 ⟨(9, .v (.bool (a4.kind == 1))) :: (8, .v (.bool (a4.kind == 1))) :: (M58 a4), (M57 a4 d n s)⟩ ?_
 rw [h20]
 refine owl 4 [0, 3, 13] ⟨[(13, .v (.bool (a4.kind == 3))), (3, .ref 12 6 0 0), (0, .ref 7 5 0 0)], (M57 a4 d n s)⟩ ?_
 rw [h21]
 refine cnF ?_
 refine EL.draw0 ?_
 refine dwr 21 ⟨(M83 a4 s), (M57 a4 d n s)⟩ ?_
 refine dw2 ⟨(59, .ref 5 8 (0 + Int.toNat a4.bid) 0) :: (M83 a4 s), (M57 a4 d n s)⟩ (opE_iado (.s 56) (.s 58) 8 5 0 (List.length s.bids) .i64 a4.bid ⟨8, (s.bids.map Bid.cs)⟩ (by kernel_rfl) (by kernel_rfl) rfl rfl ⟨by omega, by omega⟩ (by kernel_rfl)) ?_
 refine dw2 ⟨(M85 a22 a4 s), (M57 a4 d n s)⟩ (opE_ldoS Bid.cs s.bids (some 8) (.s 59) 5 8 (0 + Int.toNat a4.bid) 0 a22 ((M84 a22)) (by kernel_rfl) (by kernel_rfl) rfl (by kernel_rfl) (by simpa using ha22) (by kernel_rfl)) ?_
 refine dwr 1 ⟨(61, (M43 a4)) :: (M85 a22 a4 s), (M57 a4 d n s)⟩ ?_
 refine dwg [(M7 s), VI a4.bid, (M84 a22), (M43 a4)] ⟨(M88 a22 a4 s), (M57 a4 d n s)⟩ (hear_fn s.voters a4.bid a22 a4 hx1) ?_
 refine dwr 4 ⟨(M89 a22 a4 s), (M57 a4 d n s)⟩ ?_
 refine dw2 ⟨(66, .ref 5 8 (0 + Int.toNat a4.bid) 0) :: (M89 a22 a4 s), (M57 a4 d n s)⟩ (opE_iado (.s 42) (.s 44) 8 5 0 (List.length s.bids) .i64 a4.bid ⟨8, (s.bids.map Bid.cs)⟩ (by kernel_rfl) (by kernel_rfl) rfl rfl ⟨by omega, by omega⟩ (by kernel_rfl)) ?_
 refine dw2 ⟨(66, .ref 5 8 (0 + Int.toNat a4.bid) 0) :: (M89 a22 a4 s), (M91 a22 a4 d n s)⟩ (opE_stoS Bid.cs s.bids 8 (.s 66) (.s 63) 5 8 (0 + Int.toNat a4.bid) 0 a22 (M86 a22 a4 s) ((M87 a22 a4 s)) (by kernel_rfl) (by kernel_rfl) rfl rfl (by kernel_rfl) (by simpa using ha22) (by kernel_rfl) (by kernel_rfl)) ?_
 refine dwe 1 ⟨(M92 a22 a4 s), (M91 a22 a4 d n s)⟩ ?_
 refine tN ?_
 refine srr 2 ⟨(M93 a22 a4 s), (M91 a22 a4 d n s)⟩ ?_
 refine owj [.ref 7 5 0 0, .lst 6 ((M117 a22 a4 s).map Vote.cs)] (VI 2) (M99 a22 a4 d n s) ⟨(69, VI 2) :: (M93 a22 a4 s), (M99 a22 a4 d n s)⟩ (fiw F81_ok ?_) ?_
 refine srl 1 [0, 1] ⟨[(0, .ref 7 5 0 0), (1, .lst 6 ((M117 a22 a4 s).map Vote.cs))], (M91 a22 a4 d n s)⟩ ?_
 refine srr 7 ⟨(M94 a22 a4 n s), (M91 a22 a4 d n s)⟩ ?_
 refine ow2 ⟨(M97 a22 a4 n s), (M96 a22 a4 d n s)⟩ (oap Vote.cs (M116 n s) (M117 a22 a4 s) (.s 10) (.s 11) 6 56 10 (.lst 6 ((M117 a22 a4 s).map Vote.cs)) .lst (by first | (simp; omega) | omega | exact app_le (by first | exact q4 | exact ers_le q4 | omega) (by first | exact begin_len _ _ _ _ | exact Nat.le_trans (serve_len _ _) (by decide) | exact hear_len _ _ _ _ | (simp; done)) (by decide))) ?_
 refine owl 4 [0] ⟨[(0, .ref 7 5 0 0)], (M99 a22 a4 d n s)⟩ ?_
 refine EL.seq ?_
 refine srl 7 [22] ⟨[(22, .v (.bool (decide ((List.length ((M116 n s) ++ (M117 a22 a4 s)) : Int) > 200))))], (M99 a22 a4 d n s)⟩ ?_
 rw [h23]
 refine cnT ?_
 refine srl 1 [4] ⟨[(4, VI 2)], (M99 a22 a4 d n s)⟩ ?_
 refine rtr ?_
 exact fne [4] [uf 0, uf 1, uf 2, uf 3, ut 4, ut 5, uf 6, uf 7, uf 8, uf 9, uf 10, uf 11, uf 12, ut 13] ⟨[(4, VI 2)], (M99 a22 a4 d n s)⟩ ⟨pq 5 Seat.cs s.seats, pq 8 Bid.cs (List.set s.bids (0 + Int.toNat a4.bid) (M86 a22 a4 s)), pq 6 Vote.cs ((M116 n s) ++ (M117 a22 a4 s)), trivial⟩
 refine owl 1 [4] ⟨[(4, VI 2)], (M99 a22 a4 d n s)⟩ ?_
 refine EL.ret ?_
 exact fne [4] [uf 0, uf 1, uf 2, uf 3, ut 4, ut 5, uf 6, uf 7, uf 8, uf 9, uf 10, uf 11, ut 13] ⟨[(4, VI 2)], (M101 a22 a4 d n s)⟩ ⟨pq 5 Seat.cs s.seats, pq 8 Bid.cs (List.set s.bids (0 + Int.toNat a4.bid) (M86 a22 a4 s)), pq 6 Vote.cs ((M116 n s) ++ (M117 a22 a4 s)), trivial⟩
 refine dfl 1 [2] ⟨[(2, VI 2)], (M101 a22 a4 d n s)⟩ ?_
 refine EL.ret ?_
 exact fne [2] [uf 0, uf 1, uf 2, uf 3, ut 4, ut 5, uf 6, uf 7, uf 8, uf 9, ut 12] ⟨[(2, VI 2)], (M103 a22 a4 d n s)⟩ ⟨pq 5 Seat.cs s.seats, pq 8 Bid.cs (List.set s.bids (0 + Int.toNat a4.bid) (M86 a22 a4 s)), pq 6 Vote.cs ((M116 n s) ++ (M117 a22 a4 s)), trivial⟩
 refine owe 1 ⟨(8, VI 2) :: (17, VI 2) :: M37, (M103 a22 a4 d n s)⟩ ?_
 refine iN ?_
 refine tN ?_
 refine EL.seq ?_
 refine srl 2 [4, 6, 8, 51] ⟨M107, (M103 a22 a4 d n s)⟩ ?_
 refine cnT ?_
 refine srl 4 [4, 5] ⟨[(5, VI 2), (4, .ref 2 5 0 0)], (M103 a22 a4 d n s)⟩ ?_
 refine rtr ?_
 refine rqa (.tup [M106, VI 2]) (Ale.tup (aT (aE 1 (aR (aE 5 (aE 8 (aE 6 (.nil)))))) (aR .nil))) ?_
 rotate_left
 have g3 := of_decide_eq_true h3
 refine cnT ?_
 refine roe 1 ⟨(8, VI 3) :: M35, (M24 d n s)⟩ ?_
 refine iN ?_
 refine tN ?_
 refine EL.seq ?_
 refine srl 2 [4, 6, 8, 51] ⟨M104, (M24 d n s)⟩ ?_
 refine cnT ?_
 refine srl 4 [4, 5] ⟨[(5, VI 3), (4, .ref 2 5 0 0)], (M24 d n s)⟩ ?_
 refine rtr ?_
 refine rqa (.tup [M106, VI 3]) (Ale.tup (aT (aE 1 (aR (aE 5 (aE 8 (aE 6 (.nil)))))) (aR .nil))) ?_
 rotate_left
 have g2 := of_decide_eq_true h2
 refine dwl 12 [4, 6, 7, 30] ⟨M35, (M24 d n s)⟩ ?_
 refine cnT ?_
 refine roe 1 ⟨(8, VI 3) :: M35, (M24 d n s)⟩ ?_
 refine iN ?_
 refine tN ?_
 refine EL.seq ?_
 refine srl 2 [4, 6, 8, 51] ⟨M104, (M24 d n s)⟩ ?_
 refine cnT ?_
 refine srl 4 [4, 5] ⟨[(5, VI 3), (4, .ref 2 5 0 0)], (M24 d n s)⟩ ?_
 refine rtr ?_
 refine rqa (.tup [M106, VI 3]) (Ale.tup (aT (aE 1 (aR (aE 5 (aE 8 (aE 6 (.nil)))))) (aR .nil))) ?_
 rotate_left
 all_goals (first | (rw [Syn.step_1 (by omega) (by omega) (fun hh => ‹¬ d = _› (ba_empty.2 hh))]; rfl) | (rw [Syn.step_r (by omega) (by omega) (by rw [‹d = _›]; rfl) (by omega)]; rfl) | (rw [Syn.step_s (by rw [‹d = _›]; rfl) (by assumption) (by omega) (by omega) (by assumption)]; first | (rw [Syn.many_0] <;> first | rfl | (dsimp only; omega)) | (rw [Syn.many_2] <;> first | rfl | (dsimp only; omega))) | (rw [Syn.step_b (by rw [‹d = _›]; rfl) (by assumption) (by omega) (by omega) (by assumption)]; first | (rw [Syn.many_0] <;> first | rfl | (dsimp only; omega)) | (rw [Syn.many_2] <;> first | rfl | (dsimp only; omega))))
section
variable (a4 : Vote) (d : ByteArray) (n : Int) (s : Syn)
abbrev M150 := (List.eraseIdx s.votes (Int.toNat n))
abbrev M119 : OB := some ⟨3, [[VI 4, VI n, .v (.string d)]]⟩
abbrev M120 : LB := [(M0 s), (M119 d n), M2, (M0 s), M2]
abbrev M121 : LB := [(M0 s), (M119 d n), M2, (M0 s), M2, (M9 s)]
abbrev M122 : LB := [(M0 s), (M119 d n), M2, (M0 s), M2, (M9 s), some ⟨8, (s.bids.map Bid.cs)⟩]
abbrev M123 : LB := [(M0 s), (M119 d n), M2, (M0 s), M2, (M9 s), some ⟨8, (s.bids.map Bid.cs)⟩, (M14 s)]
abbrev M124 : LB := [(M0 s), (M119 d n), M2, (M0 s), (M16 s), (M9 s), some ⟨8, (s.bids.map Bid.cs)⟩, (M14 s)]
abbrev M125 : LB := [(M0 s), (M119 d n), M2, (M19 s), (M9 s), some ⟨8, (s.bids.map Bid.cs)⟩, (M14 s)]
abbrev M126 : LB := [(M0 s), (M119 d n), M2, (M19 s), (M9 s), some ⟨8, (s.bids.map Bid.cs)⟩, (M14 s), (M19 s)]
abbrev M127 : AV := .agg [VI 4, VI n, .v (.string d)]
abbrev M128 : LB := [(M0 s), (M119 d n), M2, (M19 s), (M9 s), some ⟨8, (s.bids.map Bid.cs)⟩, (M14 s), (M19 s), some ⟨1, [[.ref 7 5 0 0]]⟩, (M119 d n)]
abbrev M129 : LB := [(M0 s), (M119 d n), M2, (M19 s), (M9 s), some ⟨8, (s.bids.map Bid.cs)⟩, (M14 s), (M19 s), some ⟨1, [[.ref 7 5 0 0]]⟩, (M119 d n), M25]
abbrev M130 : LS := [(12, VI 4), (11, .ref 9 3 0 0), (10, .mp 10), (9, .fn 80 [.ref 8 1 0 0, .ref 9 3 0 0]), (8, .fn 79 [.ref 8 1 0 0, .ref 9 3 0 0]), (7, .fn 76 [.ref 8 1 0 0, .ref 9 3 0 0]), (6, .fn 74 [.ref 8 1 0 0, .ref 9 3 0 0]), (5, .mp 10), (3, .ref 9 3 0 0), (2, .ref 8 1 0 0)]
abbrev M131 : LS := (13, .fn 79 [.ref 8 1 0 0, .ref 9 3 0 0]) :: M130
abbrev M132 : LS := (15, .fn 79 [.ref 8 1 0 0, .ref 9 3 0 0]) :: (14, (M127 d n)) :: (13, .ref 7 5 0 0) :: M22
abbrev M133 : LS := (7, .fn 79 [.ref 8 1 0 0, .ref 9 3 0 0]) :: M22
abbrev M134 : LS := (23, .v (.string d)) :: (22, .ref 1 3 0 2) :: (18, .v (.bool false)) :: M133
abbrev M135 : LS := (36, VI n) :: (35, .ref 1 3 0 1) :: (34, .v (.bool true)) :: (33, .v (.bool true)) :: (32, VI 4) :: (31, .ref 1 3 0 0) :: (21, .v (.bool false)) :: M133
abbrev M136 : LS := [(30, .v (.bool true)), (7, .fn 79 [.ref 8 1 0 0, .ref 9 3 0 0]), (6, .ref 7 5 0 0), (4, .ref 2 5 0 0)]
abbrev M137 : LS := [(7, .fn 79 [.ref 8 1 0 0, .ref 9 3 0 0]), (6, .ref 7 5 0 0), (4, .ref 2 5 0 0)]
abbrev M138 : LS := (16, .fn 79 [.ref 8 1 0 0, .ref 9 3 0 0]) :: (30, .v (.bool false)) :: M137
abbrev M139 : LS := [(5, VI n), (4, .ref 9 3 0 1), (3, .ref 7 5 0 0), (0, .ref 8 1 0 0), (1, .ref 9 3 0 0)]
abbrev M140 : LB := [(M0 s), (M119 d n), M2, (M19 s), (M9 s), some ⟨8, (s.bids.map Bid.cs)⟩, (M14 s), (M19 s), some ⟨1, [[.ref 7 5 0 0]]⟩, (M119 d n), M39]
abbrev M141 : LB := [(M0 s), (M119 d n), M2, (M19 s), (M9 s), some ⟨8, (s.bids.map Bid.cs)⟩, (M14 s), (M19 s), some ⟨1, [[.ref 7 5 0 0]]⟩, (M119 d n), M39, (M45 a4)]
abbrev M142 : LB := [(M0 s), (M119 d n), M2, (M19 s), (M9 s), some ⟨8, (s.bids.map Bid.cs)⟩, none, (M19 s), some ⟨1, [[.ref 7 5 0 0]]⟩, (M119 d n), M39, (M45 a4), none, (M48 n s)]
abbrev M143 : LB := [(M0 s), (M119 d n), M2, (M19 s), (M9 s), some ⟨8, (s.bids.map Bid.cs)⟩, none, (M51 n s), some ⟨1, [[.ref 7 5 0 0]]⟩, (M119 d n), M39, (M45 a4), none, (M48 n s)]
abbrev M144 : LB := [(M0 s), (M119 d n), M2, (M19 s), (M9 s), some ⟨8, (s.bids.map Bid.cs)⟩, none, (M51 n s), some ⟨1, [[.ref 7 5 0 0]]⟩, (M119 d n), (M45 a4), (M45 a4), none, (M48 n s)]
abbrev M145 : LB := [(M0 s), (M119 d n), M2, (M54 s), (M9 s), some ⟨8, (s.bids.map Bid.cs)⟩, none, (M55 n s), some ⟨1, [[.ref 7 5 0 0]]⟩, (M119 d n), (M48 n s), (M45 a4)]
abbrev M146 : LB := [(M0 s), (M119 d n), M2, (M54 s), (M9 s), some ⟨8, (s.bids.map Bid.cs)⟩, none, (M55 n s), some ⟨1, [[.ref 7 5 0 0]]⟩, (M119 d n), (M48 n s)]
abbrev M147 : LB := [(M0 s), (M119 d n), (M55 n s), (M54 s), (M9 s), some ⟨8, (s.bids.map Bid.cs)⟩, none, (M55 n s), some ⟨1, [[.ref 7 5 0 0]]⟩, (M119 d n), (M48 n s)]
abbrev M148 : AV := .agg [.lst 1 (s.voters.weights.map cI), VI s.voters.need, .own 4 5 0 (List.length s.seats), .own 5 8 0 (List.length s.bids), .own 10 6 0 (List.length (M150 n s))]
abbrev M149 : AV := .agg [.lst 1 (s.voters.weights.map cI), VI s.voters.need, .lst 5 (s.seats.map Seat.cs), .lst 8 (s.bids.map Bid.cs), .lst 6 ((M150 n s).map Vote.cs)]
end
theorem step4_fn (s : Syn) (n : Int) (d : ByteArray) (ok : s.Ok) : Fn Tryd.prog 28 [.agg [.lst 1 (s.voters.weights.map cI), VI s.voters.need, .lst 5 (s.seats.map Seat.cs), .lst 8 (s.bids.map Bid.cs), .lst 6 (s.votes.map Vote.cs)], .agg [VI 4, VI n, .v (.string d)]] (.tup [.agg [.lst 1 (((((s.stepP 4 n d).1).voters).weights).map cI), VI ((((s.stepP 4 n d).1).voters).need), .lst 5 ((((s.stepP 4 n d).1).seats).map Seat.cs), .lst 8 ((((s.stepP 4 n d).1).bids).map Bid.cs), .lst 6 ((((s.stepP 4 n d).1).votes).map Vote.cs)], VI ((s.stepP 4 n d).2)]) := by
 have q1 := qc_len ok.q
 have q2 := ok.len
 have q3 := ok.few
 have q4 := ok.many
 have vv := ok.vv
 have hx1 : s.voters.weights.length ≤ 9223372036854775807 := by omega
 refine fnw F28_ok ?_
 refine srl 4 [2, 3, 4] ⟨M3, [(M0 s), (M119 d n), M2]⟩ ?_
 refine srr 1 ⟨(9, (M4 s)) :: M3, [(M0 s), (M119 d n), M2]⟩ ?_
 refine owj [(M4 s)] (M18 s) (M125 d n s) ⟨(10, (M18 s)) :: (9, (M4 s)) :: M3, (M125 d n s)⟩ (fiw F49_ok ?_) ?_
 refine srl 2 [1, 2] ⟨[(2, .ref 4 5 0 0), (1, .ref 3 5 0 0)], (M120 d n s)⟩ ?_
 refine sdr 3 ⟨(M6 s), (M120 d n s)⟩ ?_
 refine dwg [.lst 1 (s.voters.weights.map cI)] ⟨(6, .lst 1 (s.voters.weights.map cI)) :: (M6 s), (M120 d n s)⟩ (cloneI_fo s.voters.weights (by first | omega | exact qc_small (by assumption))) ?_
 refine dwr 6 ⟨(M8 s), (M120 d n s)⟩ ?_
 refine DW.fo (ar := [.lst 5 (s.seats.map Seat.cs)]) (fe := Seat.cs) (xs := s.seats) (x' := ⟨(13, .own 5 5 0 (List.length s.seats)) :: (M8 s), (M121 d n s)⟩) (by kernel_rfl) (by kernel_rfl) F68_call (cloneS_fo s.seats (by first | omega | exact qc_small (by assumption))) (by intro y; kernel_rfl) (by kernel_rfl) (by kernel_rfl) ?_
 refine dwr 2 ⟨(M11 s), (M121 d n s)⟩ ?_
 refine DW.fo (ar := [.lst 8 (s.bids.map Bid.cs)]) (fe := Bid.cs) (xs := s.bids) (x' := ⟨(16, .own 6 8 0 (List.length s.bids)) :: (M11 s), (M122 d n s)⟩) (by kernel_rfl) (by kernel_rfl) F69_call (cloneB_fo s.bids (by first | omega | exact qc_small (by assumption))) (by intro y; kernel_rfl) (by kernel_rfl) (by kernel_rfl) ?_
 refine dwr 2 ⟨(M13 s), (M122 d n s)⟩ ?_
 refine DW.fo (ar := [.lst 6 (s.votes.map Vote.cs)]) (fe := Vote.cs) (xs := s.votes) (x' := ⟨(19, .own 7 6 0 (List.length s.votes)) :: (M13 s), (M123 d n s)⟩) (by kernel_rfl) (by kernel_rfl) F70_call (cloneV_fo s.votes (by first | omega | exact qc_small (by assumption))) (by intro y; kernel_rfl) (by kernel_rfl) (by kernel_rfl) ?_
 refine dwl 2 [2] ⟨[(2, .ref 4 5 0 0)], (M124 d n s)⟩ ?_
 refine EL.ret ?_
 exact fne [2] [uf 0, uf 1, uf 2, uf 4, ut 5, ut 6, ut 7] ⟨[(2, .ref 3 5 0 0)], (M125 d n s)⟩ ⟨pq 5 Seat.cs s.seats, pq 8 Bid.cs s.bids, pq 6 Vote.cs s.votes, trivial⟩
 refine owl 3 [3, 4, 6] ⟨M22, (M126 d n s)⟩ ?_
 refine srr 2 ⟨(14, (M127 d n)) :: (13, .ref 7 5 0 0) :: M22, (M126 d n s)⟩ ?_
 refine owj [.ref 7 5 0 0, (M127 d n)] (.fn 79 [.ref 8 1 0 0, .ref 9 3 0 0]) (M128 d n s) ⟨(M132 d n), (M128 d n s)⟩ (fiw F54_ok ?_) ?_
 refine srl 3 [2, 3] ⟨[(3, .ref 9 3 0 0), (2, .ref 8 1 0 0)], (M128 d n s)⟩ ?_
 refine srr 12 ⟨M130, (M129 d n s)⟩ ?_
 refine ow2 ⟨M131, (M129 d n s)⟩ (opE_mlk .int (.v (.nilFunc)) (.s 10) (.s 12) 10 [[VI 6, .fn 74 [.ref 8 1 0 0, .ref 9 3 0 0]], [VI 3, .fn 76 [.ref 8 1 0 0, .ref 9 3 0 0]], [VI 4, .fn 79 [.ref 8 1 0 0, .ref 9 3 0 0]], [VI 5, .fn 80 [.ref 8 1 0 0, .ref 9 3 0 0]]] (.int .i64 4) (some (.fn 79 [.ref 8 1 0 0, .ref 9 3 0 0])) (by kernel_rfl) (by kernel_rfl) (by kernel_rfl) (by kernel_rfl) (by kernel_rfl) (by kernel_rfl)) ?_
 refine owl 1 [4] ⟨[(4, .fn 79 [.ref 8 1 0 0, .ref 9 3 0 0])], (M129 d n s)⟩ ?_
 refine EL.ret ?_
 exact fne [4] [uf 0, uf 1, uf 2, uf 3, ut 4, ut 5, ut 6, uf 7, uf 8, uf 9] ⟨[(4, .fn 79 [.ref 8 1 0 0, .ref 9 3 0 0])], (M128 d n s)⟩ ⟨pq 5 Seat.cs s.seats, pq 8 Bid.cs s.bids, pq 6 Vote.cs s.votes, trivial⟩
 refine owl 1 [3, 4, 6, 7] ⟨M133, (M128 d n s)⟩ ?_
 refine srl 1 [3, 4, 6, 7] ⟨M133, (M128 d n s)⟩ ?_
 refine EL.seq ?_
 refine EL.block ?_
 refine srl 3 [3, 4, 6, 7, 18] ⟨(18, .v (.bool false)) :: M133, (M128 d n s)⟩ ?_
 refine cnF ?_
 refine srr 4 ⟨(25, .v (.bool (!(strEq d (⟨#[]⟩))))) :: (24, .v (.bool (!(strEq d (⟨#[]⟩))))) :: (M134 d), (M128 d n s)⟩ ?_
 cases h1 : (strEq d (⟨#[]⟩))
 have g1 : ¬ (d = (⟨#[]⟩)) := fun hh => Bool.noConfusion ((strEq_iff.2 hh).symm.trans h1)
 refine owl 5 [3, 4, 6, 7, 21] ⟨(21, .v (.bool true)) :: M133, (M128 d n s)⟩ ?_
 refine cnT ?_
 refine roe 1 ⟨(8, VI 1) :: (21, .v (.bool true)) :: M133, (M128 d n s)⟩ ?_
 refine iN ?_
 refine tN ?_
 refine EL.seq ?_
 refine srl 2 [4, 6, 8, 51] ⟨M115, (M128 d n s)⟩ ?_
 refine cnT ?_
 refine srl 4 [4, 5] ⟨[(5, VI 1), (4, .ref 2 5 0 0)], (M128 d n s)⟩ ?_
 refine rtr ?_
 refine rqa (.tup [M106, VI 1]) (Ale.tup (aT (aE 1 (aR (aE 5 (aE 8 (aE 6 (.nil)))))) (aR .nil))) ?_
 rotate_left
 have g1 : (d = (⟨#[]⟩)) := strEq_iff.1 h1
 refine owl 5 [3, 4, 6, 7, 21] ⟨(21, .v (.bool false)) :: M133, (M128 d n s)⟩ ?_
 refine cnF ?_
 refine sdr 8 ⟨(38, .v (.bool (decide (n < 0)))) :: (37, .v (.bool (decide (n < 0)))) :: (M135 n), (M128 d n s)⟩ ?_
 cases h2 : (decide (n < 0))
 have g2 := of_decide_eq_false h2
 refine dwl 12 [4, 6, 7, 30] ⟨(30, .v (.bool (decide (n ≥ (List.length s.votes : Int))))) :: M137, (M128 d n s)⟩ ?_
 cases h3 : (decide (n ≥ (List.length s.votes : Int)))
 have g3 := of_decide_eq_false h3
 refine cnF ?_
 refine EL.reg0 ?_
 refine owr 1 ⟨M138, (M128 d n s)⟩ ?_
 obtain ⟨a4, ha4⟩ : ∃ y, s.votes[(n : Int).toNat]? = some y := idx_ex ⟨by omega, by omega⟩
 have ma4 := vv _ (List.mem_of_getElem? ha4)
 refine owj [.ref 8 1 0 0, .ref 9 3 0 0] (VI 0) (M146 d n s) ⟨(17, VI 0) :: M138, (M146 d n s)⟩ (fiw F79_ok ?_) ?_
 refine srl 1 [0, 1] ⟨[(0, .ref 8 1 0 0), (1, .ref 9 3 0 0)], (M128 d n s)⟩ ?_
 refine srr 3 ⟨(M139 n), (M128 d n s)⟩ ?_
 refine owj [.ref 7 5 0 0, VI n] (M43 a4) (M145 a4 d n s) ⟨(6, (M43 a4)) :: (M139 n), (M145 a4 d n s)⟩ (fiw F78_ok ?_) ?_
 refine srl 1 [0, 1, 4] ⟨(M41 n), (M140 d n s)⟩ ?_
 refine srr 6 ⟨(M42 n s), (M140 d n s)⟩ ?_
 refine ow2 ⟨(12, .ref 6 6 (0 + Int.toNat n) 0) :: (M42 n s), (M140 d n s)⟩ (opE_iado (.s 10) (.s 11) 6 6 0 (List.length s.votes) .i64 n ⟨6, (s.votes.map Vote.cs)⟩ (by kernel_rfl) (by kernel_rfl) rfl rfl ⟨by omega, by omega⟩ (by kernel_rfl)) ?_
 refine ow2 ⟨(M44 a4 n s), (M140 d n s)⟩ (opE_ldoS Vote.cs s.votes (some 6) (.s 12) 6 6 (0 + Int.toNat n) 0 a4 ((M43 a4)) (by kernel_rfl) (by kernel_rfl) rfl (by kernel_rfl) (by simpa using ha4) (by kernel_rfl)) ?_
 refine owl 2 [0, 1, 4, 5] ⟨(5, .ref 11 6 0 0) :: (M41 n), (M141 a4 d n s)⟩ ?_
 refine srr 9 ⟨(22, VI (IntKind.i64.wrap (n + 1))) :: (M47 n s), (M141 a4 d n s)⟩ ?_
 have e5 := wr64 (n := n + 1) (by omega)
 rw [e5]
 refine owj [.own 6 6 0 (List.length s.votes), VI n, VI (n + 1)] (.own 13 6 0 (List.length (M150 n s))) (M142 a4 d n s) ⟨(M50 n s), (M142 a4 d n s)⟩ (delete_map (fe := Vote.cs) (xs := s.votes) (m := (M141 a4 d n s)) (id := 6) (by_ := 56) (zs := [VI 0, VI 0, VI 0, VI 0, VI 0, .v (.string ⟨#[]⟩)]) (F87_ok.trans (by kernel_rfl)) rfl (by kernel_rfl) (by omega) (by omega) (by omega)) ?_
 refine owl 4 [4, 5] ⟨[(5, .ref 11 6 0 0), (4, .ref 10 6 0 0)], (M143 a4 d n s)⟩ ?_
 refine srl 2 [4] ⟨[(4, .ref 10 6 0 0)], (M144 a4 d n s)⟩ ?_
 refine EL.ret ?_
 exact fne [4] [uf 0, uf 1, uf 2, uf 3, ut 4, ut 5, uf 6, uf 7, uf 8, uf 9, ut 13, uf 10] ⟨[(4, .ref 11 6 0 0)], (M145 a4 d n s)⟩ ⟨pq 5 Seat.cs s.seats, pq 8 Bid.cs s.bids, pq 6 Vote.cs (M150 n s), trivial⟩
 refine owl 0 [] ⟨[], (M145 a4 d n s)⟩ ?_
 refine srl 1 [2] ⟨[(2, VI 0)], (M145 a4 d n s)⟩ ?_
 refine EL.ret ?_
 exact fne [2] [uf 0, uf 1, uf 2, uf 3, ut 4, ut 5, uf 6, uf 7, uf 8, uf 9, ut 10] ⟨[(2, VI 0)], (M146 d n s)⟩ ⟨pq 5 Seat.cs s.seats, pq 8 Bid.cs s.bids, pq 6 Vote.cs (M150 n s), trivial⟩
 refine owe 1 ⟨(8, VI 0) :: (17, VI 0) :: M138, (M146 d n s)⟩ ?_
 refine iN ?_
 refine tN ?_
 refine EL.seq ?_
 refine srl 2 [4, 6, 8, 51] ⟨M108, (M146 d n s)⟩ ?_
 refine cnF ?_
 refine skn ?_
 refine srl 6 [4, 5] ⟨[(5, VI 0), (4, .ref 2 5 0 0)], (M147 d n s)⟩ ?_
 refine EL.ret ?_
 refine rqs (.tup [(M149 n s), VI 0]) (.tup [(M148 n s), VI 0]) (snapR_tup (sA (snapA_agg (sC (by kernel_rfl) (sC (by kernel_rfl) (sC (smp Seat.cs s.seats) (sC (smp Bid.cs s.bids) (sC (smp Vote.cs (List.eraseIdx s.votes (Int.toNat n))) (rfl))))))) (sA (by kernel_rfl) (snapAs_nil)))) ?_
 rotate_left
 have g3 := of_decide_eq_true h3
 refine cnT ?_
 refine roe 1 ⟨(8, VI 3) :: M136, (M128 d n s)⟩ ?_
 refine iN ?_
 refine tN ?_
 refine EL.seq ?_
 refine srl 2 [4, 6, 8, 51] ⟨M104, (M128 d n s)⟩ ?_
 refine cnT ?_
 refine srl 4 [4, 5] ⟨[(5, VI 3), (4, .ref 2 5 0 0)], (M128 d n s)⟩ ?_
 refine rtr ?_
 refine rqa (.tup [M106, VI 3]) (Ale.tup (aT (aE 1 (aR (aE 5 (aE 8 (aE 6 (.nil)))))) (aR .nil))) ?_
 rotate_left
 have g2 := of_decide_eq_true h2
 refine dwl 12 [4, 6, 7, 30] ⟨M136, (M128 d n s)⟩ ?_
 refine cnT ?_
 refine roe 1 ⟨(8, VI 3) :: M136, (M128 d n s)⟩ ?_
 refine iN ?_
 refine tN ?_
 refine EL.seq ?_
 refine srl 2 [4, 6, 8, 51] ⟨M104, (M128 d n s)⟩ ?_
 refine cnT ?_
 refine srl 4 [4, 5] ⟨[(5, VI 3), (4, .ref 2 5 0 0)], (M128 d n s)⟩ ?_
 refine rtr ?_
 refine rqa (.tup [M106, VI 3]) (Ale.tup (aT (aE 1 (aR (aE 5 (aE 8 (aE 6 (.nil)))))) (aR .nil))) ?_
 rotate_left
 all_goals (first | (rw [Syn.step_1 (by omega) (by omega) (fun hh => ‹¬ d = _› (ba_empty.2 hh))]; rfl) | (rw [Syn.step_r (by omega) (by omega) (by rw [‹d = _›]; rfl) (by omega)]; rfl) | (rw [Syn.step_4 (by rw [‹d = _›]; rfl) (by assumption) (by omega) q4] <;> rfl))
section
variable (a4 : Vote) (d : ByteArray) (n : Int) (s : Syn)
abbrev M151 : OB := some ⟨3, [[VI 5, VI n, .v (.string d)]]⟩
abbrev M152 : LB := [(M0 s), (M151 d n), M2, (M0 s), M2]
abbrev M153 : LB := [(M0 s), (M151 d n), M2, (M0 s), M2, (M9 s)]
abbrev M154 : LB := [(M0 s), (M151 d n), M2, (M0 s), M2, (M9 s), some ⟨8, (s.bids.map Bid.cs)⟩]
abbrev M155 : LB := [(M0 s), (M151 d n), M2, (M0 s), M2, (M9 s), some ⟨8, (s.bids.map Bid.cs)⟩, (M14 s)]
abbrev M156 : LB := [(M0 s), (M151 d n), M2, (M0 s), (M16 s), (M9 s), some ⟨8, (s.bids.map Bid.cs)⟩, (M14 s)]
abbrev M157 : LB := [(M0 s), (M151 d n), M2, (M19 s), (M9 s), some ⟨8, (s.bids.map Bid.cs)⟩, (M14 s)]
abbrev M158 : LB := [(M0 s), (M151 d n), M2, (M19 s), (M9 s), some ⟨8, (s.bids.map Bid.cs)⟩, (M14 s), (M19 s)]
abbrev M159 : AV := .agg [VI 5, VI n, .v (.string d)]
abbrev M160 : LB := [(M0 s), (M151 d n), M2, (M19 s), (M9 s), some ⟨8, (s.bids.map Bid.cs)⟩, (M14 s), (M19 s), some ⟨1, [[.ref 7 5 0 0]]⟩, (M151 d n)]
abbrev M161 : LB := [(M0 s), (M151 d n), M2, (M19 s), (M9 s), some ⟨8, (s.bids.map Bid.cs)⟩, (M14 s), (M19 s), some ⟨1, [[.ref 7 5 0 0]]⟩, (M151 d n), M25]
abbrev M162 : LS := [(12, VI 5), (11, .ref 9 3 0 0), (10, .mp 10), (9, .fn 80 [.ref 8 1 0 0, .ref 9 3 0 0]), (8, .fn 79 [.ref 8 1 0 0, .ref 9 3 0 0]), (7, .fn 76 [.ref 8 1 0 0, .ref 9 3 0 0]), (6, .fn 74 [.ref 8 1 0 0, .ref 9 3 0 0]), (5, .mp 10), (3, .ref 9 3 0 0), (2, .ref 8 1 0 0)]
abbrev M163 : LS := (13, .fn 80 [.ref 8 1 0 0, .ref 9 3 0 0]) :: M162
abbrev M164 : LS := (15, .fn 80 [.ref 8 1 0 0, .ref 9 3 0 0]) :: (14, (M159 d n)) :: (13, .ref 7 5 0 0) :: M22
abbrev M165 : LS := (7, .fn 80 [.ref 8 1 0 0, .ref 9 3 0 0]) :: M22
abbrev M166 : LS := (23, .v (.string d)) :: (22, .ref 1 3 0 2) :: (18, .v (.bool false)) :: M165
abbrev M167 : LS := (36, VI n) :: (35, .ref 1 3 0 1) :: (34, .v (.bool true)) :: (33, .v (.bool true)) :: (32, VI 5) :: (31, .ref 1 3 0 0) :: (21, .v (.bool false)) :: M165
abbrev M168 : LS := [(30, .v (.bool true)), (7, .fn 80 [.ref 8 1 0 0, .ref 9 3 0 0]), (6, .ref 7 5 0 0), (4, .ref 2 5 0 0)]
abbrev M169 : LS := [(7, .fn 80 [.ref 8 1 0 0, .ref 9 3 0 0]), (6, .ref 7 5 0 0), (4, .ref 2 5 0 0)]
abbrev M170 : LS := (16, .fn 80 [.ref 8 1 0 0, .ref 9 3 0 0]) :: (30, .v (.bool false)) :: M169
abbrev M171 : LS := [(10, VI n), (9, .ref 9 3 0 1), (8, .own 6 6 0 (List.length s.votes)), (7, .ref 7 5 0 4), (6, .ref 7 5 0 0), (5, .ref 7 5 0 0), (4, .ref 7 5 0 0), (3, .ref 7 5 0 0), (0, .ref 8 1 0 0), (1, .ref 9 3 0 0)]
abbrev M172 : LS := (12, (M43 a4)) :: (11, .ref 6 6 (0 + Int.toNat n) 0) :: (M171 n s)
abbrev M173 : LB := [(M0 s), (M151 d n), M2, (M19 s), (M9 s), some ⟨8, (s.bids.map Bid.cs)⟩, (M14 s), (M19 s), some ⟨1, [[.ref 7 5 0 0]]⟩, (M151 d n), (M45 a4)]
abbrev M174 : LS := [(11, .own 10 6 0 1), (10, .own 6 6 0 (List.length s.votes)), (9, .ref 7 5 0 4), (8, .ref 7 5 0 0), (7, .ref 7 5 0 0), (6, .ref 7 5 0 0), (5, .ref 7 5 0 0), (0, .ref 7 5 0 0), (1, .own 10 6 0 1)]
abbrev M175 : OB := some ⟨6, ((s.votes ++ ([a4])).map Vote.cs)⟩
abbrev M176 : LB := [(M0 s), (M151 d n), M2, (M19 s), (M9 s), some ⟨8, (s.bids.map Bid.cs)⟩, none, (M19 s), some ⟨1, [[.ref 7 5 0 0]]⟩, (M151 d n), (M45 a4), (M175 a4 s)]
abbrev M177 : LS := (12, .own 11 6 0 (List.length (s.votes ++ ([a4])))) :: (M174 s)
abbrev M178 : OB := some ⟨5, [[.lst 1 (s.voters.weights.map cI), VI s.voters.need, .own 4 5 0 (List.length s.seats), .own 5 8 0 (List.length s.bids), .own 11 6 0 (List.length (s.votes ++ ([a4])))]]⟩
abbrev M179 : LB := [(M0 s), (M151 d n), M2, (M19 s), (M9 s), some ⟨8, (s.bids.map Bid.cs)⟩, none, (M178 a4 s), some ⟨1, [[.ref 7 5 0 0]]⟩, (M151 d n), (M45 a4), (M175 a4 s)]
abbrev M180 : LB := [(M0 s), (M151 d n), M2, (M54 s), (M9 s), some ⟨8, (s.bids.map Bid.cs)⟩, none, (M178 a4 s), some ⟨1, [[.ref 7 5 0 0]]⟩, (M151 d n), (M45 a4), (M175 a4 s)]
abbrev M181 : OB := some ⟨5, [[.lst 1 (s.voters.weights.map cI), VI s.voters.need, .own 4 5 0 (List.length s.seats), .own 5 8 0 (List.length s.bids), .own 10 6 0 (List.length (s.votes ++ ([a4])))]]⟩
abbrev M182 : LB := [(M0 s), (M151 d n), M2, (M54 s), (M9 s), some ⟨8, (s.bids.map Bid.cs)⟩, none, (M181 a4 s), some ⟨1, [[.ref 7 5 0 0]]⟩, (M151 d n), (M175 a4 s)]
abbrev M183 : LB := [(M0 s), (M151 d n), (M181 a4 s), (M54 s), (M9 s), some ⟨8, (s.bids.map Bid.cs)⟩, none, (M181 a4 s), some ⟨1, [[.ref 7 5 0 0]]⟩, (M151 d n), (M175 a4 s)]
abbrev M184 : AV := .agg [.lst 1 (s.voters.weights.map cI), VI s.voters.need, .own 4 5 0 (List.length s.seats), .own 5 8 0 (List.length s.bids), .own 10 6 0 (List.length (s.votes ++ ([a4])))]
abbrev M185 : AV := .agg [.lst 1 (s.voters.weights.map cI), VI s.voters.need, .lst 5 (s.seats.map Seat.cs), .lst 8 (s.bids.map Bid.cs), .lst 6 ((s.votes ++ ([a4])).map Vote.cs)]
end
theorem step5_fn (s : Syn) (n : Int) (d : ByteArray) (ok : s.Ok) : Fn Tryd.prog 28 [.agg [.lst 1 (s.voters.weights.map cI), VI s.voters.need, .lst 5 (s.seats.map Seat.cs), .lst 8 (s.bids.map Bid.cs), .lst 6 (s.votes.map Vote.cs)], .agg [VI 5, VI n, .v (.string d)]] (.tup [.agg [.lst 1 (((((s.stepP 5 n d).1).voters).weights).map cI), VI ((((s.stepP 5 n d).1).voters).need), .lst 5 ((((s.stepP 5 n d).1).seats).map Seat.cs), .lst 8 ((((s.stepP 5 n d).1).bids).map Bid.cs), .lst 6 ((((s.stepP 5 n d).1).votes).map Vote.cs)], VI ((s.stepP 5 n d).2)]) := by
 have q1 := qc_len ok.q
 have q2 := ok.len
 have q3 := ok.few
 have q4 := ok.many
 have vv := ok.vv
 have hx1 : s.voters.weights.length ≤ 9223372036854775807 := by omega
 refine fnw F28_ok ?_
 refine srl 4 [2, 3, 4] ⟨M3, [(M0 s), (M151 d n), M2]⟩ ?_
 refine srr 1 ⟨(9, (M4 s)) :: M3, [(M0 s), (M151 d n), M2]⟩ ?_
 refine owj [(M4 s)] (M18 s) (M157 d n s) ⟨(10, (M18 s)) :: (9, (M4 s)) :: M3, (M157 d n s)⟩ (fiw F49_ok ?_) ?_
 refine srl 2 [1, 2] ⟨[(2, .ref 4 5 0 0), (1, .ref 3 5 0 0)], (M152 d n s)⟩ ?_
 refine sdr 3 ⟨(M6 s), (M152 d n s)⟩ ?_
 refine dwg [.lst 1 (s.voters.weights.map cI)] ⟨(6, .lst 1 (s.voters.weights.map cI)) :: (M6 s), (M152 d n s)⟩ (cloneI_fo s.voters.weights (by first | omega | exact qc_small (by assumption))) ?_
 refine dwr 6 ⟨(M8 s), (M152 d n s)⟩ ?_
 refine DW.fo (ar := [.lst 5 (s.seats.map Seat.cs)]) (fe := Seat.cs) (xs := s.seats) (x' := ⟨(13, .own 5 5 0 (List.length s.seats)) :: (M8 s), (M153 d n s)⟩) (by kernel_rfl) (by kernel_rfl) F68_call (cloneS_fo s.seats (by first | omega | exact qc_small (by assumption))) (by intro y; kernel_rfl) (by kernel_rfl) (by kernel_rfl) ?_
 refine dwr 2 ⟨(M11 s), (M153 d n s)⟩ ?_
 refine DW.fo (ar := [.lst 8 (s.bids.map Bid.cs)]) (fe := Bid.cs) (xs := s.bids) (x' := ⟨(16, .own 6 8 0 (List.length s.bids)) :: (M11 s), (M154 d n s)⟩) (by kernel_rfl) (by kernel_rfl) F69_call (cloneB_fo s.bids (by first | omega | exact qc_small (by assumption))) (by intro y; kernel_rfl) (by kernel_rfl) (by kernel_rfl) ?_
 refine dwr 2 ⟨(M13 s), (M154 d n s)⟩ ?_
 refine DW.fo (ar := [.lst 6 (s.votes.map Vote.cs)]) (fe := Vote.cs) (xs := s.votes) (x' := ⟨(19, .own 7 6 0 (List.length s.votes)) :: (M13 s), (M155 d n s)⟩) (by kernel_rfl) (by kernel_rfl) F70_call (cloneV_fo s.votes (by first | omega | exact qc_small (by assumption))) (by intro y; kernel_rfl) (by kernel_rfl) (by kernel_rfl) ?_
 refine dwl 2 [2] ⟨[(2, .ref 4 5 0 0)], (M156 d n s)⟩ ?_
 refine EL.ret ?_
 exact fne [2] [uf 0, uf 1, uf 2, uf 4, ut 5, ut 6, ut 7] ⟨[(2, .ref 3 5 0 0)], (M157 d n s)⟩ ⟨pq 5 Seat.cs s.seats, pq 8 Bid.cs s.bids, pq 6 Vote.cs s.votes, trivial⟩
 refine owl 3 [3, 4, 6] ⟨M22, (M158 d n s)⟩ ?_
 refine srr 2 ⟨(14, (M159 d n)) :: (13, .ref 7 5 0 0) :: M22, (M158 d n s)⟩ ?_
 refine owj [.ref 7 5 0 0, (M159 d n)] (.fn 80 [.ref 8 1 0 0, .ref 9 3 0 0]) (M160 d n s) ⟨(M164 d n), (M160 d n s)⟩ (fiw F54_ok ?_) ?_
 refine srl 3 [2, 3] ⟨[(3, .ref 9 3 0 0), (2, .ref 8 1 0 0)], (M160 d n s)⟩ ?_
 refine srr 12 ⟨M162, (M161 d n s)⟩ ?_
 refine ow2 ⟨M163, (M161 d n s)⟩ (opE_mlk .int (.v (.nilFunc)) (.s 10) (.s 12) 10 [[VI 6, .fn 74 [.ref 8 1 0 0, .ref 9 3 0 0]], [VI 3, .fn 76 [.ref 8 1 0 0, .ref 9 3 0 0]], [VI 4, .fn 79 [.ref 8 1 0 0, .ref 9 3 0 0]], [VI 5, .fn 80 [.ref 8 1 0 0, .ref 9 3 0 0]]] (.int .i64 5) (some (.fn 80 [.ref 8 1 0 0, .ref 9 3 0 0])) (by kernel_rfl) (by kernel_rfl) (by kernel_rfl) (by kernel_rfl) (by kernel_rfl) (by kernel_rfl)) ?_
 refine owl 1 [4] ⟨[(4, .fn 80 [.ref 8 1 0 0, .ref 9 3 0 0])], (M161 d n s)⟩ ?_
 refine EL.ret ?_
 exact fne [4] [uf 0, uf 1, uf 2, uf 3, ut 4, ut 5, ut 6, uf 7, uf 8, uf 9] ⟨[(4, .fn 80 [.ref 8 1 0 0, .ref 9 3 0 0])], (M160 d n s)⟩ ⟨pq 5 Seat.cs s.seats, pq 8 Bid.cs s.bids, pq 6 Vote.cs s.votes, trivial⟩
 refine owl 1 [3, 4, 6, 7] ⟨M165, (M160 d n s)⟩ ?_
 refine srl 1 [3, 4, 6, 7] ⟨M165, (M160 d n s)⟩ ?_
 refine EL.seq ?_
 refine EL.block ?_
 refine srl 3 [3, 4, 6, 7, 18] ⟨(18, .v (.bool false)) :: M165, (M160 d n s)⟩ ?_
 refine cnF ?_
 refine srr 4 ⟨(25, .v (.bool (!(strEq d (⟨#[]⟩))))) :: (24, .v (.bool (!(strEq d (⟨#[]⟩))))) :: (M166 d), (M160 d n s)⟩ ?_
 cases h1 : (strEq d (⟨#[]⟩))
 have g1 : ¬ (d = (⟨#[]⟩)) := fun hh => Bool.noConfusion ((strEq_iff.2 hh).symm.trans h1)
 refine owl 5 [3, 4, 6, 7, 21] ⟨(21, .v (.bool true)) :: M165, (M160 d n s)⟩ ?_
 refine cnT ?_
 refine roe 1 ⟨(8, VI 1) :: (21, .v (.bool true)) :: M165, (M160 d n s)⟩ ?_
 refine iN ?_
 refine tN ?_
 refine EL.seq ?_
 refine srl 2 [4, 6, 8, 51] ⟨M115, (M160 d n s)⟩ ?_
 refine cnT ?_
 refine srl 4 [4, 5] ⟨[(5, VI 1), (4, .ref 2 5 0 0)], (M160 d n s)⟩ ?_
 refine rtr ?_
 refine rqa (.tup [M106, VI 1]) (Ale.tup (aT (aE 1 (aR (aE 5 (aE 8 (aE 6 (.nil)))))) (aR .nil))) ?_
 rotate_left
 have g1 : (d = (⟨#[]⟩)) := strEq_iff.1 h1
 refine owl 5 [3, 4, 6, 7, 21] ⟨(21, .v (.bool false)) :: M165, (M160 d n s)⟩ ?_
 refine cnF ?_
 refine sdr 8 ⟨(38, .v (.bool (decide (n < 0)))) :: (37, .v (.bool (decide (n < 0)))) :: (M167 n), (M160 d n s)⟩ ?_
 cases h2 : (decide (n < 0))
 have g2 := of_decide_eq_false h2
 refine dwl 12 [4, 6, 7, 30] ⟨(30, .v (.bool (decide (n ≥ (List.length s.votes : Int))))) :: M169, (M160 d n s)⟩ ?_
 cases h3 : (decide (n ≥ (List.length s.votes : Int)))
 have g3 := of_decide_eq_false h3
 refine cnF ?_
 refine EL.reg0 ?_
 refine owr 1 ⟨M170, (M160 d n s)⟩ ?_
 obtain ⟨a4, ha4⟩ : ∃ y, s.votes[(n : Int).toNat]? = some y := idx_ex ⟨by omega, by omega⟩
 have ma4 := vv _ (List.mem_of_getElem? ha4)
 cases h5 : (decide ((List.length (s.votes ++ ([a4])) : Int) > 200))
 have g5 := of_decide_eq_false h5
 have n5 : ¬ ((List.length (s.votes ++ ([a4]))) > 200) := by omega
 refine owj [.ref 8 1 0 0, .ref 9 3 0 0] (VI 0) (M182 a4 d n s) ⟨(17, VI 0) :: M170, (M182 a4 d n s)⟩ (fiw F80_ok ?_) ?_
 refine srl 1 [0, 1] ⟨[(0, .ref 8 1 0 0), (1, .ref 9 3 0 0)], (M160 d n s)⟩ ?_
 refine sdr 8 ⟨(M171 n s), (M160 d n s)⟩ ?_
 refine dw2 ⟨(11, .ref 6 6 (0 + Int.toNat n) 0) :: (M171 n s), (M160 d n s)⟩ (opE_iado (.s 8) (.s 10) 6 6 0 (List.length s.votes) .i64 n ⟨6, (s.votes.map Vote.cs)⟩ (by kernel_rfl) (by kernel_rfl) rfl rfl ⟨by omega, by omega⟩ (by kernel_rfl)) ?_
 refine dw2 ⟨(M172 a4 n s), (M160 d n s)⟩ (opE_ldoS Vote.cs s.votes (some 6) (.s 11) 6 6 (0 + Int.toNat n) 0 a4 ((M43 a4)) (by kernel_rfl) (by kernel_rfl) rfl (by kernel_rfl) (by simpa using ha4) (by kernel_rfl)) ?_
 refine dwr 1 ⟨(13, .own 10 6 0 1) :: (M172 a4 n s), (M173 a4 d n s)⟩ ?_
 refine DW.fi (ar := [.ref 7 5 0 0, .own 10 6 0 1]) (r := VI 0) (m' := (M180 a4 d n s)) (x' := ⟨(14, VI 0) :: (13, .own 10 6 0 1) :: (M172 a4 n s), (M180 a4 d n s)⟩) (by kernel_rfl) (by kernel_rfl) F81_call ?_ (by kernel_rfl) (by kernel_rfl) (by kernel_rfl) ?_
 refine fiw F81_ok ?_
 refine srl 1 [0, 1] ⟨[(0, .ref 7 5 0 0), (1, .own 10 6 0 1)], (M173 a4 d n s)⟩ ?_
 refine srr 7 ⟨(M174 s), (M173 a4 d n s)⟩ ?_
 refine ow2 ⟨(M177 a4 s), (M176 a4 d n s)⟩ (oap Vote.cs s.votes ([a4]) (.s 10) (.s 11) 6 56 6 (.own 10 6 0 1) (.own (els := [[VI a4.kind, VI a4.bid, VI a4.node, VI a4.copy.at_.time, VI a4.copy.at_.who, .v (.string a4.copy.data)]]) (by kernel_rfl) (by kernel_rfl) (of_decide_eq_true (by kernel_rfl))) (by first | (simp; omega) | omega | exact app_le (by first | exact q4 | exact ers_le q4 | omega) (by first | exact begin_len _ _ _ _ | exact Nat.le_trans (serve_len _ _) (by decide) | exact hear_len _ _ _ _ | (simp; done)) (by decide))) ?_
 refine owl 4 [0] ⟨[(0, .ref 7 5 0 0)], (M179 a4 d n s)⟩ ?_
 refine EL.seq ?_
 refine srl 7 [22] ⟨[(22, .v (.bool (decide ((List.length (s.votes ++ ([a4])) : Int) > 200))))], (M179 a4 d n s)⟩ ?_
 rw [h5]
 refine cnF ?_
 refine skn ?_
 refine srl 1 [4] ⟨[(4, VI 0)], (M179 a4 d n s)⟩ ?_
 refine EL.ret ?_
 exact fne [4] [uf 0, uf 1, uf 2, uf 3, ut 4, ut 5, uf 6, uf 7, uf 8, uf 9, uf 10, ut 11] ⟨[(4, VI 0)], (M180 a4 d n s)⟩ ⟨pq 5 Seat.cs s.seats, pq 8 Bid.cs s.bids, pq 6 Vote.cs (s.votes ++ ([a4])), trivial⟩
 refine dwl 1 [2] ⟨[(2, VI 0)], (M180 a4 d n s)⟩ ?_
 refine EL.ret ?_
 exact fne [2] [uf 0, uf 1, uf 2, uf 3, ut 4, ut 5, uf 6, uf 7, uf 8, uf 9, ut 11] ⟨[(2, VI 0)], (M182 a4 d n s)⟩ ⟨pq 5 Seat.cs s.seats, pq 8 Bid.cs s.bids, pq 6 Vote.cs (s.votes ++ ([a4])), trivial⟩
 refine owe 1 ⟨(8, VI 0) :: (17, VI 0) :: M170, (M182 a4 d n s)⟩ ?_
 refine iN ?_
 refine tN ?_
 refine EL.seq ?_
 refine srl 2 [4, 6, 8, 51] ⟨M108, (M182 a4 d n s)⟩ ?_
 refine cnF ?_
 refine skn ?_
 refine srl 6 [4, 5] ⟨[(5, VI 0), (4, .ref 2 5 0 0)], (M183 a4 d n s)⟩ ?_
 refine EL.ret ?_
 refine rqs (.tup [(M185 a4 s), VI 0]) (.tup [(M184 a4 s), VI 0]) (snapR_tup (sA (snapA_agg (sC (by kernel_rfl) (sC (by kernel_rfl) (sC (smp Seat.cs s.seats) (sC (smp Bid.cs s.bids) (sC (smp Vote.cs (s.votes ++ ([a4]))) (rfl))))))) (sA (by kernel_rfl) (snapAs_nil)))) ?_
 rotate_left
 have g5 := of_decide_eq_true h5
 have n5 : ((List.length (s.votes ++ ([a4]))) > 200) := by omega
 refine owj [.ref 8 1 0 0, .ref 9 3 0 0] (VI 2) (M182 a4 d n s) ⟨(17, VI 2) :: M170, (M182 a4 d n s)⟩ (fiw F80_ok ?_) ?_
 refine srl 1 [0, 1] ⟨[(0, .ref 8 1 0 0), (1, .ref 9 3 0 0)], (M160 d n s)⟩ ?_
 refine sdr 8 ⟨(M171 n s), (M160 d n s)⟩ ?_
 refine dw2 ⟨(11, .ref 6 6 (0 + Int.toNat n) 0) :: (M171 n s), (M160 d n s)⟩ (opE_iado (.s 8) (.s 10) 6 6 0 (List.length s.votes) .i64 n ⟨6, (s.votes.map Vote.cs)⟩ (by kernel_rfl) (by kernel_rfl) rfl rfl ⟨by omega, by omega⟩ (by kernel_rfl)) ?_
 refine dw2 ⟨(M172 a4 n s), (M160 d n s)⟩ (opE_ldoS Vote.cs s.votes (some 6) (.s 11) 6 6 (0 + Int.toNat n) 0 a4 ((M43 a4)) (by kernel_rfl) (by kernel_rfl) rfl (by kernel_rfl) (by simpa using ha4) (by kernel_rfl)) ?_
 refine dwr 1 ⟨(13, .own 10 6 0 1) :: (M172 a4 n s), (M173 a4 d n s)⟩ ?_
 refine DW.fi (ar := [.ref 7 5 0 0, .own 10 6 0 1]) (r := VI 2) (m' := (M180 a4 d n s)) (x' := ⟨(14, VI 2) :: (13, .own 10 6 0 1) :: (M172 a4 n s), (M180 a4 d n s)⟩) (by kernel_rfl) (by kernel_rfl) F81_call ?_ (by kernel_rfl) (by kernel_rfl) (by kernel_rfl) ?_
 refine fiw F81_ok ?_
 refine srl 1 [0, 1] ⟨[(0, .ref 7 5 0 0), (1, .own 10 6 0 1)], (M173 a4 d n s)⟩ ?_
 refine srr 7 ⟨(M174 s), (M173 a4 d n s)⟩ ?_
 refine ow2 ⟨(M177 a4 s), (M176 a4 d n s)⟩ (oap Vote.cs s.votes ([a4]) (.s 10) (.s 11) 6 56 6 (.own 10 6 0 1) (.own (els := [[VI a4.kind, VI a4.bid, VI a4.node, VI a4.copy.at_.time, VI a4.copy.at_.who, .v (.string a4.copy.data)]]) (by kernel_rfl) (by kernel_rfl) (of_decide_eq_true (by kernel_rfl))) (by first | (simp; omega) | omega | exact app_le (by first | exact q4 | exact ers_le q4 | omega) (by first | exact begin_len _ _ _ _ | exact Nat.le_trans (serve_len _ _) (by decide) | exact hear_len _ _ _ _ | (simp; done)) (by decide))) ?_
 refine owl 4 [0] ⟨[(0, .ref 7 5 0 0)], (M179 a4 d n s)⟩ ?_
 refine EL.seq ?_
 refine srl 7 [22] ⟨[(22, .v (.bool (decide ((List.length (s.votes ++ ([a4])) : Int) > 200))))], (M179 a4 d n s)⟩ ?_
 rw [h5]
 refine cnT ?_
 refine srl 1 [4] ⟨[(4, VI 2)], (M179 a4 d n s)⟩ ?_
 refine rtr ?_
 exact fne [4] [uf 0, uf 1, uf 2, uf 3, ut 4, ut 5, uf 6, uf 7, uf 8, uf 9, uf 10, ut 11] ⟨[(4, VI 2)], (M180 a4 d n s)⟩ ⟨pq 5 Seat.cs s.seats, pq 8 Bid.cs s.bids, pq 6 Vote.cs (s.votes ++ ([a4])), trivial⟩
 refine dwl 1 [2] ⟨[(2, VI 2)], (M180 a4 d n s)⟩ ?_
 refine EL.ret ?_
 exact fne [2] [uf 0, uf 1, uf 2, uf 3, ut 4, ut 5, uf 6, uf 7, uf 8, uf 9, ut 11] ⟨[(2, VI 2)], (M182 a4 d n s)⟩ ⟨pq 5 Seat.cs s.seats, pq 8 Bid.cs s.bids, pq 6 Vote.cs (s.votes ++ ([a4])), trivial⟩
 refine owe 1 ⟨(8, VI 2) :: (17, VI 2) :: M170, (M182 a4 d n s)⟩ ?_
 refine iN ?_
 refine tN ?_
 refine EL.seq ?_
 refine srl 2 [4, 6, 8, 51] ⟨M107, (M182 a4 d n s)⟩ ?_
 refine cnT ?_
 refine srl 4 [4, 5] ⟨[(5, VI 2), (4, .ref 2 5 0 0)], (M182 a4 d n s)⟩ ?_
 refine rtr ?_
 refine rqa (.tup [M106, VI 2]) (Ale.tup (aT (aE 1 (aR (aE 5 (aE 8 (aE 6 (.nil)))))) (aR .nil))) ?_
 rotate_left
 have g3 := of_decide_eq_true h3
 refine cnT ?_
 refine roe 1 ⟨(8, VI 3) :: M168, (M160 d n s)⟩ ?_
 refine iN ?_
 refine tN ?_
 refine EL.seq ?_
 refine srl 2 [4, 6, 8, 51] ⟨M104, (M160 d n s)⟩ ?_
 refine cnT ?_
 refine srl 4 [4, 5] ⟨[(5, VI 3), (4, .ref 2 5 0 0)], (M160 d n s)⟩ ?_
 refine rtr ?_
 refine rqa (.tup [M106, VI 3]) (Ale.tup (aT (aE 1 (aR (aE 5 (aE 8 (aE 6 (.nil)))))) (aR .nil))) ?_
 rotate_left
 have g2 := of_decide_eq_true h2
 refine dwl 12 [4, 6, 7, 30] ⟨M168, (M160 d n s)⟩ ?_
 refine cnT ?_
 refine roe 1 ⟨(8, VI 3) :: M168, (M160 d n s)⟩ ?_
 refine iN ?_
 refine tN ?_
 refine EL.seq ?_
 refine srl 2 [4, 6, 8, 51] ⟨M104, (M160 d n s)⟩ ?_
 refine cnT ?_
 refine srl 4 [4, 5] ⟨[(5, VI 3), (4, .ref 2 5 0 0)], (M160 d n s)⟩ ?_
 refine rtr ?_
 refine rqa (.tup [M106, VI 3]) (Ale.tup (aT (aE 1 (aR (aE 5 (aE 8 (aE 6 (.nil)))))) (aR .nil))) ?_
 rotate_left
 all_goals (first | (rw [Syn.step_1 (by omega) (by omega) (fun hh => ‹¬ d = _› (ba_empty.2 hh))]; rfl) | (rw [Syn.step_r (by omega) (by omega) (by rw [‹d = _›]; rfl) (by omega)]; rfl) | (rw [Syn.step_5 (by rw [‹d = _›]; rfl) (by assumption) (by omega)]; first | (rw [Syn.many_0] <;> first | rfl | (dsimp only; omega)) | (rw [Syn.many_2] <;> first | rfl | (dsimp only; omega))))
section
variable (d : ByteArray) (n : Int) (s : Syn)
abbrev M238 := (beginP s.voters (List.length s.bids : Int) n d)
abbrev M186 : OB := some ⟨3, [[VI 6, VI n, .v (.string d)]]⟩
abbrev M187 : LB := [(M0 s), (M186 d n), M2, (M0 s), M2]
abbrev M188 : LB := [(M0 s), (M186 d n), M2, (M0 s), M2, (M9 s)]
abbrev M189 : LB := [(M0 s), (M186 d n), M2, (M0 s), M2, (M9 s), some ⟨8, (s.bids.map Bid.cs)⟩]
abbrev M190 : LB := [(M0 s), (M186 d n), M2, (M0 s), M2, (M9 s), some ⟨8, (s.bids.map Bid.cs)⟩, (M14 s)]
abbrev M191 : LB := [(M0 s), (M186 d n), M2, (M0 s), (M16 s), (M9 s), some ⟨8, (s.bids.map Bid.cs)⟩, (M14 s)]
abbrev M192 : LB := [(M0 s), (M186 d n), M2, (M19 s), (M9 s), some ⟨8, (s.bids.map Bid.cs)⟩, (M14 s)]
abbrev M193 : LB := [(M0 s), (M186 d n), M2, (M19 s), (M9 s), some ⟨8, (s.bids.map Bid.cs)⟩, (M14 s), (M19 s)]
abbrev M194 : AV := .agg [VI 6, VI n, .v (.string d)]
abbrev M195 : LB := [(M0 s), (M186 d n), M2, (M19 s), (M9 s), some ⟨8, (s.bids.map Bid.cs)⟩, (M14 s), (M19 s), some ⟨1, [[.ref 7 5 0 0]]⟩, (M186 d n)]
abbrev M196 : LB := [(M0 s), (M186 d n), M2, (M19 s), (M9 s), some ⟨8, (s.bids.map Bid.cs)⟩, (M14 s), (M19 s), some ⟨1, [[.ref 7 5 0 0]]⟩, (M186 d n), M25]
abbrev M197 : LS := [(12, VI 6), (11, .ref 9 3 0 0), (10, .mp 10), (9, .fn 80 [.ref 8 1 0 0, .ref 9 3 0 0]), (8, .fn 79 [.ref 8 1 0 0, .ref 9 3 0 0]), (7, .fn 76 [.ref 8 1 0 0, .ref 9 3 0 0]), (6, .fn 74 [.ref 8 1 0 0, .ref 9 3 0 0]), (5, .mp 10), (3, .ref 9 3 0 0), (2, .ref 8 1 0 0)]
abbrev M198 : LS := (13, .fn 74 [.ref 8 1 0 0, .ref 9 3 0 0]) :: M197
abbrev M199 : LS := (15, .fn 74 [.ref 8 1 0 0, .ref 9 3 0 0]) :: (14, (M194 d n)) :: (13, .ref 7 5 0 0) :: M22
abbrev M200 : LS := (7, .fn 74 [.ref 8 1 0 0, .ref 9 3 0 0]) :: M22
abbrev M201 : LS := (23, .v (.string d)) :: (22, .ref 1 3 0 2) :: (18, .v (.bool false)) :: M200
abbrev M202 : LS := [(30, .v (.bool false)), (7, .fn 74 [.ref 8 1 0 0, .ref 9 3 0 0]), (6, .ref 7 5 0 0), (4, .ref 2 5 0 0)]
abbrev M203 : LS := (16, .fn 74 [.ref 8 1 0 0, .ref 9 3 0 0]) :: M202
abbrev M204 : LS := [(4, (M194 d n)), (3, .ref 7 5 0 0), (0, .ref 8 1 0 0), (1, .ref 9 3 0 0)]
abbrev M205 : LB := [(M0 s), (M186 d n), M2, (M19 s), (M9 s), some ⟨8, (s.bids.map Bid.cs)⟩, (M14 s), (M19 s), some ⟨1, [[.ref 7 5 0 0]]⟩, (M186 d n), (M186 d n)]
abbrev M206 : LS := [(30, .v (.string d)), (29, .ref 10 3 0 2), (28, VI n), (27, .ref 10 3 0 1), (26, VI (List.length s.bids : Int)), (25, .own 5 8 0 (List.length s.bids)), (24, .ref 7 5 0 3), (23, .ref 7 5 0 0), (22, .ref 7 5 0 0), (21, .ref 7 5 0 0), (20, (M7 s)), (19, .ref 7 5 0 0), (18, .ref 7 5 0 0), (17, .ref 7 5 0 0), (16, .ref 7 5 0 0), (14, .v (.bool false)), (3, .ref 10 3 0 0), (0, .ref 7 5 0 0)]
abbrev M207 : Bid := (M238 d n s).1
abbrev M208 : AV := .agg [VI ((M207 d n s).time), VI ((M207 d n s).phase), .v (.string ((M207 d n s).own)), .v (.string ((M207 d n s).value)), VI ((((M207 d n s).best).at_).time), VI ((((M207 d n s).best).at_).who), .v (.string (((M207 d n s).best).data)), .v (.int .u64 ((M207 d n s).heard.n : Int))]
abbrev M209 : LS := (31, .tup [(M208 d n s), .lst 6 (((M238 d n s).2.1).map Vote.cs), VI ((M238 d n s).2.2)]) :: (M206 d n s)
abbrev M210 : OB := some ⟨8, [[VI ((M207 d n s).time), VI ((M207 d n s).phase), .v (.string ((M207 d n s).own)), .v (.string ((M207 d n s).value)), VI ((((M207 d n s).best).at_).time), VI ((((M207 d n s).best).at_).who), .v (.string (((M207 d n s).best).data)), .v (.int .u64 ((M207 d n s).heard.n : Int))]]⟩
abbrev M211 : LB := [(M0 s), (M186 d n), M2, (M19 s), (M9 s), some ⟨8, (s.bids.map Bid.cs)⟩, (M14 s), (M19 s), some ⟨1, [[.ref 7 5 0 0]]⟩, (M186 d n), (M186 d n), (M210 d n s)]
abbrev M212 : LS := [(7, VI ((M238 d n s).2.2)), (6, .lst 6 (((M238 d n s).2.1).map Vote.cs)), (5, .ref 11 8 0 0), (0, .ref 7 5 0 0)]
abbrev M213 : LS := (5, VI ((M238 d n s).2.2)) :: (M204 d n)
abbrev M214 : LS := (17, VI ((M238 d n s).2.2)) :: M203
abbrev M215 : LS := (8, VI ((M238 d n s).2.2)) :: (M214 d n s)
abbrev M216 : LS := [(8, VI ((M238 d n s).2.2)), (6, .ref 7 5 0 0), (4, .ref 2 5 0 0)]
abbrev M217 : LB := [(M0 s), (M186 d n), M2, (M19 s), (M9 s), some ⟨8, (s.bids.map Bid.cs)⟩, (M14 s), (M19 s), some ⟨1, [[.ref 7 5 0 0]]⟩, (M186 d n), (M186 d n), (M210 d n s), (M210 d n s)]
abbrev M218 : LS := (45, .own 12 8 0 1) :: (44, (M208 d n s)) :: (43, .own 5 8 0 (List.length s.bids)) :: (42, .ref 7 5 0 3) :: (41, .ref 7 5 0 0) :: (40, .ref 7 5 0 0) :: (39, .ref 7 5 0 0) :: (38, .ref 7 5 0 0) :: (36, .v (.bool false)) :: (M212 d n s)
abbrev M219 : OB := some ⟨8, ((s.bids ++ ([(M207 d n s)])).map Bid.cs)⟩
abbrev M220 : LB := [(M0 s), (M186 d n), M2, (M19 s), (M9 s), none, (M14 s), (M19 s), some ⟨1, [[.ref 7 5 0 0]]⟩, (M186 d n), (M186 d n), (M210 d n s), (M210 d n s), (M219 d n s)]
abbrev M221 : LS := (46, .own 13 8 0 (List.length (s.bids ++ ([(M207 d n s)])))) :: (M218 d n s)
abbrev M222 : OB := some ⟨5, [[.lst 1 (s.voters.weights.map cI), VI s.voters.need, .own 4 5 0 (List.length s.seats), .own 13 8 0 (List.length (s.bids ++ ([(M207 d n s)]))), .own 6 6 0 (List.length s.votes)]]⟩
abbrev M223 : LB := [(M0 s), (M186 d n), M2, (M19 s), (M9 s), none, (M14 s), (M222 d n s), some ⟨1, [[.ref 7 5 0 0]]⟩, (M186 d n), (M186 d n), (M210 d n s), (M210 d n s), (M219 d n s)]
abbrev M224 : LS := [(51, .lst 6 (((M238 d n s).2.1).map Vote.cs)), (50, .ref 7 5 0 0), (6, .lst 6 (((M238 d n s).2.1).map Vote.cs)), (0, .ref 7 5 0 0)]
abbrev M225 : LS := [(11, .lst 6 (((M238 d n s).2.1).map Vote.cs)), (10, .own 6 6 0 (List.length s.votes)), (9, .ref 7 5 0 4), (8, .ref 7 5 0 0), (7, .ref 7 5 0 0), (6, .ref 7 5 0 0), (5, .ref 7 5 0 0), (0, .ref 7 5 0 0), (1, .lst 6 (((M238 d n s).2.1).map Vote.cs))]
abbrev M226 : OB := some ⟨6, ((s.votes ++ ((M238 d n s).2.1)).map Vote.cs)⟩
abbrev M227 : LB := [(M0 s), (M186 d n), M2, (M19 s), (M9 s), none, none, (M222 d n s), some ⟨1, [[.ref 7 5 0 0]]⟩, (M186 d n), (M186 d n), (M210 d n s), (M210 d n s), (M219 d n s), (M226 d n s)]
abbrev M228 : LS := (12, .own 14 6 0 (List.length (s.votes ++ ((M238 d n s).2.1)))) :: (M225 d n s)
abbrev M229 : OB := some ⟨5, [[.lst 1 (s.voters.weights.map cI), VI s.voters.need, .own 4 5 0 (List.length s.seats), .own 13 8 0 (List.length (s.bids ++ ([(M207 d n s)]))), .own 14 6 0 (List.length (s.votes ++ ((M238 d n s).2.1)))]]⟩
abbrev M230 : LB := [(M0 s), (M186 d n), M2, (M19 s), (M9 s), none, none, (M229 d n s), some ⟨1, [[.ref 7 5 0 0]]⟩, (M186 d n), (M186 d n), (M210 d n s), (M210 d n s), (M219 d n s), (M226 d n s)]
abbrev M231 : OB := some ⟨5, [[.lst 1 (s.voters.weights.map cI), VI s.voters.need, .own 4 5 0 (List.length s.seats), .dead, .dead]]⟩
abbrev M232 : LB := [(M0 s), (M186 d n), M2, (M231 s), (M9 s), none, none, (M229 d n s), some ⟨1, [[.ref 7 5 0 0]]⟩, (M186 d n), (M186 d n), (M210 d n s), (M210 d n s), (M219 d n s), (M226 d n s)]
abbrev M233 : OB := some ⟨5, [[.lst 1 (s.voters.weights.map cI), VI s.voters.need, .own 4 5 0 (List.length s.seats), .own 10 8 0 (List.length (s.bids ++ ([(M207 d n s)]))), .own 11 6 0 (List.length (s.votes ++ ((M238 d n s).2.1)))]]⟩
abbrev M234 : LB := [(M0 s), (M186 d n), M2, (M231 s), (M9 s), none, none, (M233 d n s), some ⟨1, [[.ref 7 5 0 0]]⟩, (M186 d n), (M219 d n s), (M226 d n s)]
abbrev M235 : LB := [(M0 s), (M186 d n), (M233 d n s), (M231 s), (M9 s), none, none, (M233 d n s), some ⟨1, [[.ref 7 5 0 0]]⟩, (M186 d n), (M219 d n s), (M226 d n s)]
abbrev M236 : AV := .agg [.lst 1 (s.voters.weights.map cI), VI s.voters.need, .own 4 5 0 (List.length s.seats), .own 10 8 0 (List.length (s.bids ++ ([(M207 d n s)]))), .own 11 6 0 (List.length (s.votes ++ ((M238 d n s).2.1)))]
abbrev M237 : AV := .agg [.lst 1 (s.voters.weights.map cI), VI s.voters.need, .lst 5 (s.seats.map Seat.cs), .lst 8 ((s.bids ++ ([(M207 d n s)])).map Bid.cs), .lst 6 ((s.votes ++ ((M238 d n s).2.1)).map Vote.cs)]
end
theorem step6_fn (s : Syn) (n : Int) (d : ByteArray) (ok : s.Ok) : Fn Tryd.prog 28 [.agg [.lst 1 (s.voters.weights.map cI), VI s.voters.need, .lst 5 (s.seats.map Seat.cs), .lst 8 (s.bids.map Bid.cs), .lst 6 (s.votes.map Vote.cs)], .agg [VI 6, VI n, .v (.string d)]] (.tup [.agg [.lst 1 (((((s.stepP 6 n d).1).voters).weights).map cI), VI ((((s.stepP 6 n d).1).voters).need), .lst 5 ((((s.stepP 6 n d).1).seats).map Seat.cs), .lst 8 ((((s.stepP 6 n d).1).bids).map Bid.cs), .lst 6 ((((s.stepP 6 n d).1).votes).map Vote.cs)], VI ((s.stepP 6 n d).2)]) := by
 have q1 := qc_len ok.q
 have q2 := ok.len
 have q3 := ok.few
 have q4 := ok.many
 have vv := ok.vv
 have hx1 : s.voters.weights.length ≤ 9223372036854775807 := by omega
 refine fnw F28_ok ?_
 refine srl 4 [2, 3, 4] ⟨M3, [(M0 s), (M186 d n), M2]⟩ ?_
 refine srr 1 ⟨(9, (M4 s)) :: M3, [(M0 s), (M186 d n), M2]⟩ ?_
 refine owj [(M4 s)] (M18 s) (M192 d n s) ⟨(10, (M18 s)) :: (9, (M4 s)) :: M3, (M192 d n s)⟩ (fiw F49_ok ?_) ?_
 refine srl 2 [1, 2] ⟨[(2, .ref 4 5 0 0), (1, .ref 3 5 0 0)], (M187 d n s)⟩ ?_
 refine sdr 3 ⟨(M6 s), (M187 d n s)⟩ ?_
 refine dwg [.lst 1 (s.voters.weights.map cI)] ⟨(6, .lst 1 (s.voters.weights.map cI)) :: (M6 s), (M187 d n s)⟩ (cloneI_fo s.voters.weights (by first | omega | exact qc_small (by assumption))) ?_
 refine dwr 6 ⟨(M8 s), (M187 d n s)⟩ ?_
 refine DW.fo (ar := [.lst 5 (s.seats.map Seat.cs)]) (fe := Seat.cs) (xs := s.seats) (x' := ⟨(13, .own 5 5 0 (List.length s.seats)) :: (M8 s), (M188 d n s)⟩) (by kernel_rfl) (by kernel_rfl) F68_call (cloneS_fo s.seats (by first | omega | exact qc_small (by assumption))) (by intro y; kernel_rfl) (by kernel_rfl) (by kernel_rfl) ?_
 refine dwr 2 ⟨(M11 s), (M188 d n s)⟩ ?_
 refine DW.fo (ar := [.lst 8 (s.bids.map Bid.cs)]) (fe := Bid.cs) (xs := s.bids) (x' := ⟨(16, .own 6 8 0 (List.length s.bids)) :: (M11 s), (M189 d n s)⟩) (by kernel_rfl) (by kernel_rfl) F69_call (cloneB_fo s.bids (by first | omega | exact qc_small (by assumption))) (by intro y; kernel_rfl) (by kernel_rfl) (by kernel_rfl) ?_
 refine dwr 2 ⟨(M13 s), (M189 d n s)⟩ ?_
 refine DW.fo (ar := [.lst 6 (s.votes.map Vote.cs)]) (fe := Vote.cs) (xs := s.votes) (x' := ⟨(19, .own 7 6 0 (List.length s.votes)) :: (M13 s), (M190 d n s)⟩) (by kernel_rfl) (by kernel_rfl) F70_call (cloneV_fo s.votes (by first | omega | exact qc_small (by assumption))) (by intro y; kernel_rfl) (by kernel_rfl) (by kernel_rfl) ?_
 refine dwl 2 [2] ⟨[(2, .ref 4 5 0 0)], (M191 d n s)⟩ ?_
 refine EL.ret ?_
 exact fne [2] [uf 0, uf 1, uf 2, uf 4, ut 5, ut 6, ut 7] ⟨[(2, .ref 3 5 0 0)], (M192 d n s)⟩ ⟨pq 5 Seat.cs s.seats, pq 8 Bid.cs s.bids, pq 6 Vote.cs s.votes, trivial⟩
 refine owl 3 [3, 4, 6] ⟨M22, (M193 d n s)⟩ ?_
 refine srr 2 ⟨(14, (M194 d n)) :: (13, .ref 7 5 0 0) :: M22, (M193 d n s)⟩ ?_
 refine owj [.ref 7 5 0 0, (M194 d n)] (.fn 74 [.ref 8 1 0 0, .ref 9 3 0 0]) (M195 d n s) ⟨(M199 d n), (M195 d n s)⟩ (fiw F54_ok ?_) ?_
 refine srl 3 [2, 3] ⟨[(3, .ref 9 3 0 0), (2, .ref 8 1 0 0)], (M195 d n s)⟩ ?_
 refine srr 12 ⟨M197, (M196 d n s)⟩ ?_
 refine ow2 ⟨M198, (M196 d n s)⟩ (opE_mlk .int (.v (.nilFunc)) (.s 10) (.s 12) 10 [[VI 6, .fn 74 [.ref 8 1 0 0, .ref 9 3 0 0]], [VI 3, .fn 76 [.ref 8 1 0 0, .ref 9 3 0 0]], [VI 4, .fn 79 [.ref 8 1 0 0, .ref 9 3 0 0]], [VI 5, .fn 80 [.ref 8 1 0 0, .ref 9 3 0 0]]] (.int .i64 6) (some (.fn 74 [.ref 8 1 0 0, .ref 9 3 0 0])) (by kernel_rfl) (by kernel_rfl) (by kernel_rfl) (by kernel_rfl) (by kernel_rfl) (by kernel_rfl)) ?_
 refine owl 1 [4] ⟨[(4, .fn 74 [.ref 8 1 0 0, .ref 9 3 0 0])], (M196 d n s)⟩ ?_
 refine EL.ret ?_
 exact fne [4] [uf 0, uf 1, uf 2, uf 3, ut 4, ut 5, ut 6, uf 7, uf 8, uf 9] ⟨[(4, .fn 74 [.ref 8 1 0 0, .ref 9 3 0 0])], (M195 d n s)⟩ ⟨pq 5 Seat.cs s.seats, pq 8 Bid.cs s.bids, pq 6 Vote.cs s.votes, trivial⟩
 refine owl 1 [3, 4, 6, 7] ⟨M200, (M195 d n s)⟩ ?_
 refine srl 1 [3, 4, 6, 7] ⟨M200, (M195 d n s)⟩ ?_
 refine EL.seq ?_
 refine EL.block ?_
 refine srl 3 [3, 4, 6, 7, 18] ⟨(18, .v (.bool false)) :: M200, (M195 d n s)⟩ ?_
 refine cnF ?_
 refine srr 4 ⟨(25, .v (.bool (!(strEq d (⟨#[]⟩))))) :: (24, .v (.bool (!(strEq d (⟨#[]⟩))))) :: (M201 d), (M195 d n s)⟩ ?_
 cases h1 : (strEq d (⟨#[]⟩))
 have g1 : ¬ (d = (⟨#[]⟩)) := fun hh => Bool.noConfusion ((strEq_iff.2 hh).symm.trans h1)
 refine owl 5 [3, 4, 6, 7, 21] ⟨(21, .v (.bool false)) :: M200, (M195 d n s)⟩ ?_
 refine cnF ?_
 refine sdl 20 [4, 6, 7, 30] ⟨M202, (M195 d n s)⟩ ?_
 refine cnF ?_
 refine EL.reg0 ?_
 refine owr 1 ⟨M203, (M195 d n s)⟩ ?_
 cases h5 : ((List.length s.bids : Int) == 31)
 have g5 := bqF h5
 have n5 : ¬ ((List.length s.bids) = 31) := by omega
 cases h6 : (((beginP s.voters (List.length s.bids : Int) n d).2.2) != 0)
 have g6 := bnF h6
 cases h7 : (decide ((List.length (s.votes ++ ((beginP s.voters (List.length s.bids : Int) n d).2.1)) : Int) > 200))
 have g7 := of_decide_eq_false h7
 refine owj [.ref 8 1 0 0, .ref 9 3 0 0] (VI 0) (M234 d n s) ⟨(17, VI 0) :: M203, (M234 d n s)⟩ (fiw F74_ok ?_) ?_
 refine srl 1 [0, 1] ⟨[(0, .ref 8 1 0 0), (1, .ref 9 3 0 0)], (M195 d n s)⟩ ?_
 refine srr 2 ⟨(M204 d n), (M195 d n s)⟩ ?_
 refine owj [.ref 7 5 0 0, (M194 d n)] (VI 0) (M234 d n s) ⟨(5, VI 0) :: (M204 d n), (M234 d n s)⟩ (fiw F75_ok ?_) ?_
 refine srl 2 [0, 3] ⟨[(3, .ref 10 3 0 0), (0, .ref 7 5 0 0)], (M205 d n s)⟩ ?_
 refine EL.seq ?_
 refine srl 7 [0, 3, 14] ⟨[(14, .v (.bool ((List.length s.bids : Int) == 31))), (3, .ref 10 3 0 0), (0, .ref 7 5 0 0)], (M205 d n s)⟩ ?_
 rw [h5]
 refine cnF ?_
 refine skn ?_
 refine sdr 15 ⟨(M206 d n s), (M205 d n s)⟩ ?_
 refine dwg [(M7 s), VI (List.length s.bids : Int), VI n, .v (.string d)] ⟨(M209 d n s), (M205 d n s)⟩ (begin_fn s.voters (List.length s.bids : Int) n d hx1) ?_
 refine dwl 8 [0, 5, 6, 7] ⟨(M212 d n s), (M211 d n s)⟩ ?_
 refine EL.seq ?_
 refine srl 2 [0, 5, 6, 7, 36] ⟨(36, .v (.bool (((M238 d n s).2.2) != 0))) :: (M212 d n s), (M211 d n s)⟩ ?_
 rw [h6]
 refine cnF ?_
 refine skn ?_
 refine sdr 8 ⟨(M218 d n s), (M217 d n s)⟩ ?_
 refine dw2 ⟨(M221 d n s), (M220 d n s)⟩ (oap Bid.cs s.bids ([(M207 d n s)]) (.s 43) (.s 45) 8 88 5 (.own 12 8 0 1) (.own (els := [[VI ((M207 d n s).time), VI ((M207 d n s).phase), .v (.string ((M207 d n s).own)), .v (.string ((M207 d n s).value)), VI ((((M207 d n s).best).at_).time), VI ((((M207 d n s).best).at_).who), .v (.string (((M207 d n s).best).data)), .v (.int .u64 ((M207 d n s).heard.n : Int))]]) (by kernel_rfl) (by kernel_rfl) (of_decide_eq_true (by kernel_rfl))) (by first | (simp; omega) | omega | exact app_le (by first | exact q4 | exact ers_le q4 | omega) (by first | exact begin_len _ _ _ _ | exact Nat.le_trans (serve_len _ _) (by decide) | exact hear_len _ _ _ _ | (simp; done)) (by decide))) ?_
 refine dwl 4 [0, 6] ⟨[(6, .lst 6 (((M238 d n s).2.1).map Vote.cs)), (0, .ref 7 5 0 0)], (M223 d n s)⟩ ?_
 refine srr 2 ⟨(M224 d n s), (M223 d n s)⟩ ?_
 refine owj [.ref 7 5 0 0, .lst 6 (((M238 d n s).2.1).map Vote.cs)] (VI 0) (M232 d n s) ⟨(52, VI 0) :: (M224 d n s), (M232 d n s)⟩ (fiw F81_ok ?_) ?_
 refine srl 1 [0, 1] ⟨[(0, .ref 7 5 0 0), (1, .lst 6 (((M238 d n s).2.1).map Vote.cs))], (M223 d n s)⟩ ?_
 refine srr 7 ⟨(M225 d n s), (M223 d n s)⟩ ?_
 refine ow2 ⟨(M228 d n s), (M227 d n s)⟩ (oap Vote.cs s.votes ((M238 d n s).2.1) (.s 10) (.s 11) 6 56 6 (.lst 6 (((M238 d n s).2.1).map Vote.cs)) .lst (by first | (simp; omega) | omega | exact app_le (by first | exact q4 | exact ers_le q4 | omega) (by first | exact begin_len _ _ _ _ | exact Nat.le_trans (serve_len _ _) (by decide) | exact hear_len _ _ _ _ | (simp; done)) (by decide))) ?_
 refine owl 4 [0] ⟨[(0, .ref 7 5 0 0)], (M230 d n s)⟩ ?_
 refine EL.seq ?_
 refine srl 7 [22] ⟨[(22, .v (.bool (decide ((List.length (s.votes ++ ((M238 d n s).2.1)) : Int) > 200))))], (M230 d n s)⟩ ?_
 rw [h7]
 refine cnF ?_
 refine skn ?_
 refine srl 1 [4] ⟨[(4, VI 0)], (M230 d n s)⟩ ?_
 refine EL.ret ?_
 exact fne [4] [uf 0, uf 1, uf 2, uf 3, ut 4, uf 5, uf 6, uf 7, uf 8, uf 9, uf 10, uf 11, uf 12, ut 13, ut 14] ⟨[(4, VI 0)], (M232 d n s)⟩ ⟨pq 5 Seat.cs s.seats, pq 8 Bid.cs (s.bids ++ ([(M207 d n s)])), pq 6 Vote.cs (s.votes ++ ((M238 d n s).2.1)), trivial⟩
 refine owl 1 [4] ⟨[(4, VI 0)], (M232 d n s)⟩ ?_
 refine EL.ret ?_
 exact fne [4] [uf 0, uf 1, uf 2, uf 3, ut 4, uf 5, uf 6, uf 7, uf 8, uf 9, ut 13, ut 14] ⟨[(4, VI 0)], (M234 d n s)⟩ ⟨pq 5 Seat.cs s.seats, pq 8 Bid.cs (s.bids ++ ([(M207 d n s)])), pq 6 Vote.cs (s.votes ++ ((M238 d n s).2.1)), trivial⟩
 refine owl 1 [2] ⟨[(2, VI 0)], (M234 d n s)⟩ ?_
 refine EL.ret ?_
 exact fne [2] [uf 0, uf 1, uf 2, uf 3, ut 4, uf 5, uf 6, uf 7, uf 8, uf 9, ut 10, ut 11] ⟨[(2, VI 0)], (M234 d n s)⟩ ⟨pq 5 Seat.cs s.seats, pq 8 Bid.cs (s.bids ++ ([(M207 d n s)])), pq 6 Vote.cs (s.votes ++ ((M238 d n s).2.1)), trivial⟩
 refine owe 1 ⟨(8, VI 0) :: (17, VI 0) :: M203, (M234 d n s)⟩ ?_
 refine iN ?_
 refine tN ?_
 refine EL.seq ?_
 refine srl 2 [4, 6, 8, 51] ⟨M108, (M234 d n s)⟩ ?_
 refine cnF ?_
 refine skn ?_
 refine srl 6 [4, 5] ⟨[(5, VI 0), (4, .ref 2 5 0 0)], (M235 d n s)⟩ ?_
 refine EL.ret ?_
 refine rqs (.tup [(M237 d n s), VI 0]) (.tup [(M236 d n s), VI 0]) (snapR_tup (sA (snapA_agg (sC (by kernel_rfl) (sC (by kernel_rfl) (sC (smp Seat.cs s.seats) (sC (smp Bid.cs (s.bids ++ ([(M207 d n s)]))) (sC (smp Vote.cs (s.votes ++ ((beginP s.voters (List.length s.bids : Int) n d).2.1))) (rfl))))))) (sA (by kernel_rfl) (snapAs_nil)))) ?_
 rotate_left
 have g7 := of_decide_eq_true h7
 refine owj [.ref 8 1 0 0, .ref 9 3 0 0] (VI 2) (M234 d n s) ⟨(17, VI 2) :: M203, (M234 d n s)⟩ (fiw F74_ok ?_) ?_
 refine srl 1 [0, 1] ⟨[(0, .ref 8 1 0 0), (1, .ref 9 3 0 0)], (M195 d n s)⟩ ?_
 refine srr 2 ⟨(M204 d n), (M195 d n s)⟩ ?_
 refine owj [.ref 7 5 0 0, (M194 d n)] (VI 2) (M234 d n s) ⟨(5, VI 2) :: (M204 d n), (M234 d n s)⟩ (fiw F75_ok ?_) ?_
 refine srl 2 [0, 3] ⟨[(3, .ref 10 3 0 0), (0, .ref 7 5 0 0)], (M205 d n s)⟩ ?_
 refine EL.seq ?_
 refine srl 7 [0, 3, 14] ⟨[(14, .v (.bool ((List.length s.bids : Int) == 31))), (3, .ref 10 3 0 0), (0, .ref 7 5 0 0)], (M205 d n s)⟩ ?_
 rw [h5]
 refine cnF ?_
 refine skn ?_
 refine sdr 15 ⟨(M206 d n s), (M205 d n s)⟩ ?_
 refine dwg [(M7 s), VI (List.length s.bids : Int), VI n, .v (.string d)] ⟨(M209 d n s), (M205 d n s)⟩ (begin_fn s.voters (List.length s.bids : Int) n d hx1) ?_
 refine dwl 8 [0, 5, 6, 7] ⟨(M212 d n s), (M211 d n s)⟩ ?_
 refine EL.seq ?_
 refine srl 2 [0, 5, 6, 7, 36] ⟨(36, .v (.bool (((M238 d n s).2.2) != 0))) :: (M212 d n s), (M211 d n s)⟩ ?_
 rw [h6]
 refine cnF ?_
 refine skn ?_
 refine sdr 8 ⟨(M218 d n s), (M217 d n s)⟩ ?_
 refine dw2 ⟨(M221 d n s), (M220 d n s)⟩ (oap Bid.cs s.bids ([(M207 d n s)]) (.s 43) (.s 45) 8 88 5 (.own 12 8 0 1) (.own (els := [[VI ((M207 d n s).time), VI ((M207 d n s).phase), .v (.string ((M207 d n s).own)), .v (.string ((M207 d n s).value)), VI ((((M207 d n s).best).at_).time), VI ((((M207 d n s).best).at_).who), .v (.string (((M207 d n s).best).data)), .v (.int .u64 ((M207 d n s).heard.n : Int))]]) (by kernel_rfl) (by kernel_rfl) (of_decide_eq_true (by kernel_rfl))) (by first | (simp; omega) | omega | exact app_le (by first | exact q4 | exact ers_le q4 | omega) (by first | exact begin_len _ _ _ _ | exact Nat.le_trans (serve_len _ _) (by decide) | exact hear_len _ _ _ _ | (simp; done)) (by decide))) ?_
 refine dwl 4 [0, 6] ⟨[(6, .lst 6 (((M238 d n s).2.1).map Vote.cs)), (0, .ref 7 5 0 0)], (M223 d n s)⟩ ?_
 refine srr 2 ⟨(M224 d n s), (M223 d n s)⟩ ?_
 refine owj [.ref 7 5 0 0, .lst 6 (((M238 d n s).2.1).map Vote.cs)] (VI 2) (M232 d n s) ⟨(52, VI 2) :: (M224 d n s), (M232 d n s)⟩ (fiw F81_ok ?_) ?_
 refine srl 1 [0, 1] ⟨[(0, .ref 7 5 0 0), (1, .lst 6 (((M238 d n s).2.1).map Vote.cs))], (M223 d n s)⟩ ?_
 refine srr 7 ⟨(M225 d n s), (M223 d n s)⟩ ?_
 refine ow2 ⟨(M228 d n s), (M227 d n s)⟩ (oap Vote.cs s.votes ((M238 d n s).2.1) (.s 10) (.s 11) 6 56 6 (.lst 6 (((M238 d n s).2.1).map Vote.cs)) .lst (by first | (simp; omega) | omega | exact app_le (by first | exact q4 | exact ers_le q4 | omega) (by first | exact begin_len _ _ _ _ | exact Nat.le_trans (serve_len _ _) (by decide) | exact hear_len _ _ _ _ | (simp; done)) (by decide))) ?_
 refine owl 4 [0] ⟨[(0, .ref 7 5 0 0)], (M230 d n s)⟩ ?_
 refine EL.seq ?_
 refine srl 7 [22] ⟨[(22, .v (.bool (decide ((List.length (s.votes ++ ((M238 d n s).2.1)) : Int) > 200))))], (M230 d n s)⟩ ?_
 rw [h7]
 refine cnT ?_
 refine srl 1 [4] ⟨[(4, VI 2)], (M230 d n s)⟩ ?_
 refine rtr ?_
 exact fne [4] [uf 0, uf 1, uf 2, uf 3, ut 4, uf 5, uf 6, uf 7, uf 8, uf 9, uf 10, uf 11, uf 12, ut 13, ut 14] ⟨[(4, VI 2)], (M232 d n s)⟩ ⟨pq 5 Seat.cs s.seats, pq 8 Bid.cs (s.bids ++ ([(M207 d n s)])), pq 6 Vote.cs (s.votes ++ ((M238 d n s).2.1)), trivial⟩
 refine owl 1 [4] ⟨[(4, VI 2)], (M232 d n s)⟩ ?_
 refine EL.ret ?_
 exact fne [4] [uf 0, uf 1, uf 2, uf 3, ut 4, uf 5, uf 6, uf 7, uf 8, uf 9, ut 13, ut 14] ⟨[(4, VI 2)], (M234 d n s)⟩ ⟨pq 5 Seat.cs s.seats, pq 8 Bid.cs (s.bids ++ ([(M207 d n s)])), pq 6 Vote.cs (s.votes ++ ((M238 d n s).2.1)), trivial⟩
 refine owl 1 [2] ⟨[(2, VI 2)], (M234 d n s)⟩ ?_
 refine EL.ret ?_
 exact fne [2] [uf 0, uf 1, uf 2, uf 3, ut 4, uf 5, uf 6, uf 7, uf 8, uf 9, ut 10, ut 11] ⟨[(2, VI 2)], (M234 d n s)⟩ ⟨pq 5 Seat.cs s.seats, pq 8 Bid.cs (s.bids ++ ([(M207 d n s)])), pq 6 Vote.cs (s.votes ++ ((M238 d n s).2.1)), trivial⟩
 refine owe 1 ⟨(8, VI 2) :: (17, VI 2) :: M203, (M234 d n s)⟩ ?_
 refine iN ?_
 refine tN ?_
 refine EL.seq ?_
 refine srl 2 [4, 6, 8, 51] ⟨M107, (M234 d n s)⟩ ?_
 refine cnT ?_
 refine srl 4 [4, 5] ⟨[(5, VI 2), (4, .ref 2 5 0 0)], (M234 d n s)⟩ ?_
 refine rtr ?_
 refine rqa (.tup [M106, VI 2]) (Ale.tup (aT (aE 1 (aR (aE 5 (aE 8 (aE 6 (.nil)))))) (aR .nil))) ?_
 rotate_left
 have g6 := bnT h6
 refine owj [.ref 8 1 0 0, .ref 9 3 0 0] (VI ((M238 d n s).2.2)) (M195 d n s) ⟨(M214 d n s), (M195 d n s)⟩ (fiw F74_ok ?_) ?_
 refine srl 1 [0, 1] ⟨[(0, .ref 8 1 0 0), (1, .ref 9 3 0 0)], (M195 d n s)⟩ ?_
 refine srr 2 ⟨(M204 d n), (M195 d n s)⟩ ?_
 refine owj [.ref 7 5 0 0, (M194 d n)] (VI ((M238 d n s).2.2)) (M195 d n s) ⟨(M213 d n s), (M195 d n s)⟩ (fiw F75_ok ?_) ?_
 refine srl 2 [0, 3] ⟨[(3, .ref 10 3 0 0), (0, .ref 7 5 0 0)], (M205 d n s)⟩ ?_
 refine EL.seq ?_
 refine srl 7 [0, 3, 14] ⟨[(14, .v (.bool ((List.length s.bids : Int) == 31))), (3, .ref 10 3 0 0), (0, .ref 7 5 0 0)], (M205 d n s)⟩ ?_
 rw [h5]
 refine cnF ?_
 refine skn ?_
 refine sdr 15 ⟨(M206 d n s), (M205 d n s)⟩ ?_
 refine dwg [(M7 s), VI (List.length s.bids : Int), VI n, .v (.string d)] ⟨(M209 d n s), (M205 d n s)⟩ (begin_fn s.voters (List.length s.bids : Int) n d hx1) ?_
 refine dwl 8 [0, 5, 6, 7] ⟨(M212 d n s), (M211 d n s)⟩ ?_
 refine EL.seq ?_
 refine srl 2 [0, 5, 6, 7, 36] ⟨(36, .v (.bool (((M238 d n s).2.2) != 0))) :: (M212 d n s), (M211 d n s)⟩ ?_
 rw [h6]
 refine cnT ?_
 refine srl 2 [4] ⟨[(4, VI ((M238 d n s).2.2))], (M211 d n s)⟩ ?_
 refine rtr ?_
 exact fne [4] [uf 0, uf 1, uf 2, uf 3, ut 4, ut 5, ut 6, uf 7, uf 8, uf 9] ⟨[(4, VI ((M238 d n s).2.2))], (M195 d n s)⟩ ⟨pq 5 Seat.cs s.seats, pq 8 Bid.cs s.bids, pq 6 Vote.cs s.votes, trivial⟩
 refine owl 1 [2] ⟨[(2, VI ((M238 d n s).2.2))], (M195 d n s)⟩ ?_
 refine EL.ret ?_
 exact fne [2] [uf 0, uf 1, uf 2, uf 3, ut 4, ut 5, ut 6, uf 7, uf 8, uf 9] ⟨[(2, VI ((M238 d n s).2.2))], (M195 d n s)⟩ ⟨pq 5 Seat.cs s.seats, pq 8 Bid.cs s.bids, pq 6 Vote.cs s.votes, trivial⟩
 refine owe 1 ⟨(M215 d n s), (M195 d n s)⟩ ?_
 refine iN ?_
 refine tN ?_
 refine EL.seq ?_
 refine srl 2 [4, 6, 8, 51] ⟨(51, .v (.bool (((M238 d n s).2.2) != 0))) :: (M216 d n s), (M195 d n s)⟩ ?_
 rw [h6]
 refine cnT ?_
 refine srl 4 [4, 5] ⟨[(5, VI ((M238 d n s).2.2)), (4, .ref 2 5 0 0)], (M195 d n s)⟩ ?_
 refine rtr ?_
 refine rqa (.tup [M106, VI ((beginP s.voters (List.length s.bids : Int) n d).2.2)]) (Ale.tup (aT (aE 1 (aR (aE 5 (aE 8 (aE 6 (.nil)))))) (aR .nil))) ?_
 rotate_left
 have g5 := bqT h5
 have n5 : ((List.length s.bids) = 31) := by omega
 refine owj [.ref 8 1 0 0, .ref 9 3 0 0] (VI 2) (M195 d n s) ⟨(17, VI 2) :: M203, (M195 d n s)⟩ (fiw F74_ok ?_) ?_
 refine srl 1 [0, 1] ⟨[(0, .ref 8 1 0 0), (1, .ref 9 3 0 0)], (M195 d n s)⟩ ?_
 refine srr 2 ⟨(M204 d n), (M195 d n s)⟩ ?_
 refine owj [.ref 7 5 0 0, (M194 d n)] (VI 2) (M195 d n s) ⟨(5, VI 2) :: (M204 d n), (M195 d n s)⟩ (fiw F75_ok ?_) ?_
 refine srl 2 [0, 3] ⟨[(3, .ref 10 3 0 0), (0, .ref 7 5 0 0)], (M205 d n s)⟩ ?_
 refine EL.seq ?_
 refine srl 7 [0, 3, 14] ⟨[(14, .v (.bool ((List.length s.bids : Int) == 31))), (3, .ref 10 3 0 0), (0, .ref 7 5 0 0)], (M205 d n s)⟩ ?_
 rw [h5]
 refine cnT ?_
 refine srl 1 [4] ⟨[(4, VI 2)], (M205 d n s)⟩ ?_
 refine rtr ?_
 exact fne [4] [uf 0, uf 1, uf 2, uf 3, ut 4, ut 5, ut 6, uf 7, uf 8, uf 9] ⟨[(4, VI 2)], (M195 d n s)⟩ ⟨pq 5 Seat.cs s.seats, pq 8 Bid.cs s.bids, pq 6 Vote.cs s.votes, trivial⟩
 refine owl 1 [2] ⟨[(2, VI 2)], (M195 d n s)⟩ ?_
 refine EL.ret ?_
 exact fne [2] [uf 0, uf 1, uf 2, uf 3, ut 4, ut 5, ut 6, uf 7, uf 8, uf 9] ⟨[(2, VI 2)], (M195 d n s)⟩ ⟨pq 5 Seat.cs s.seats, pq 8 Bid.cs s.bids, pq 6 Vote.cs s.votes, trivial⟩
 refine owe 1 ⟨(8, VI 2) :: (17, VI 2) :: M203, (M195 d n s)⟩ ?_
 refine iN ?_
 refine tN ?_
 refine EL.seq ?_
 refine srl 2 [4, 6, 8, 51] ⟨M107, (M195 d n s)⟩ ?_
 refine cnT ?_
 refine srl 4 [4, 5] ⟨[(5, VI 2), (4, .ref 2 5 0 0)], (M195 d n s)⟩ ?_
 refine rtr ?_
 refine rqa (.tup [M106, VI 2]) (Ale.tup (aT (aE 1 (aR (aE 5 (aE 8 (aE 6 (.nil)))))) (aR .nil))) ?_
 rotate_left
 have g1 : (d = (⟨#[]⟩)) := strEq_iff.1 h1
 refine owl 5 [3, 4, 6, 7, 21] ⟨(21, .v (.bool false)) :: M200, (M195 d n s)⟩ ?_
 refine cnF ?_
 refine sdl 20 [4, 6, 7, 30] ⟨M202, (M195 d n s)⟩ ?_
 refine cnF ?_
 refine EL.reg0 ?_
 refine owr 1 ⟨M203, (M195 d n s)⟩ ?_
 cases h2 : ((List.length s.bids : Int) == 31)
 have g2 := bqF h2
 have n2 : ¬ ((List.length s.bids) = 31) := by omega
 cases h3 : (((beginP s.voters (List.length s.bids : Int) n d).2.2) != 0)
 have g3 := bnF h3
 cases h4 : (decide ((List.length (s.votes ++ ((beginP s.voters (List.length s.bids : Int) n d).2.1)) : Int) > 200))
 have g4 := of_decide_eq_false h4
 refine owj [.ref 8 1 0 0, .ref 9 3 0 0] (VI 0) (M234 d n s) ⟨(17, VI 0) :: M203, (M234 d n s)⟩ (fiw F74_ok ?_) ?_
 refine srl 1 [0, 1] ⟨[(0, .ref 8 1 0 0), (1, .ref 9 3 0 0)], (M195 d n s)⟩ ?_
 refine srr 2 ⟨(M204 d n), (M195 d n s)⟩ ?_
 refine owj [.ref 7 5 0 0, (M194 d n)] (VI 0) (M234 d n s) ⟨(5, VI 0) :: (M204 d n), (M234 d n s)⟩ (fiw F75_ok ?_) ?_
 refine srl 2 [0, 3] ⟨[(3, .ref 10 3 0 0), (0, .ref 7 5 0 0)], (M205 d n s)⟩ ?_
 refine EL.seq ?_
 refine srl 7 [0, 3, 14] ⟨[(14, .v (.bool ((List.length s.bids : Int) == 31))), (3, .ref 10 3 0 0), (0, .ref 7 5 0 0)], (M205 d n s)⟩ ?_
 rw [h2]
 refine cnF ?_
 refine skn ?_
 refine sdr 15 ⟨(M206 d n s), (M205 d n s)⟩ ?_
 refine dwg [(M7 s), VI (List.length s.bids : Int), VI n, .v (.string d)] ⟨(M209 d n s), (M205 d n s)⟩ (begin_fn s.voters (List.length s.bids : Int) n d hx1) ?_
 refine dwl 8 [0, 5, 6, 7] ⟨(M212 d n s), (M211 d n s)⟩ ?_
 refine EL.seq ?_
 refine srl 2 [0, 5, 6, 7, 36] ⟨(36, .v (.bool (((M238 d n s).2.2) != 0))) :: (M212 d n s), (M211 d n s)⟩ ?_
 rw [h3]
 refine cnF ?_
 refine skn ?_
 refine sdr 8 ⟨(M218 d n s), (M217 d n s)⟩ ?_
 refine dw2 ⟨(M221 d n s), (M220 d n s)⟩ (oap Bid.cs s.bids ([(M207 d n s)]) (.s 43) (.s 45) 8 88 5 (.own 12 8 0 1) (.own (els := [[VI ((M207 d n s).time), VI ((M207 d n s).phase), .v (.string ((M207 d n s).own)), .v (.string ((M207 d n s).value)), VI ((((M207 d n s).best).at_).time), VI ((((M207 d n s).best).at_).who), .v (.string (((M207 d n s).best).data)), .v (.int .u64 ((M207 d n s).heard.n : Int))]]) (by kernel_rfl) (by kernel_rfl) (of_decide_eq_true (by kernel_rfl))) (by first | (simp; omega) | omega | exact app_le (by first | exact q4 | exact ers_le q4 | omega) (by first | exact begin_len _ _ _ _ | exact Nat.le_trans (serve_len _ _) (by decide) | exact hear_len _ _ _ _ | (simp; done)) (by decide))) ?_
 refine dwl 4 [0, 6] ⟨[(6, .lst 6 (((M238 d n s).2.1).map Vote.cs)), (0, .ref 7 5 0 0)], (M223 d n s)⟩ ?_
 refine srr 2 ⟨(M224 d n s), (M223 d n s)⟩ ?_
 refine owj [.ref 7 5 0 0, .lst 6 (((M238 d n s).2.1).map Vote.cs)] (VI 0) (M232 d n s) ⟨(52, VI 0) :: (M224 d n s), (M232 d n s)⟩ (fiw F81_ok ?_) ?_
 refine srl 1 [0, 1] ⟨[(0, .ref 7 5 0 0), (1, .lst 6 (((M238 d n s).2.1).map Vote.cs))], (M223 d n s)⟩ ?_
 refine srr 7 ⟨(M225 d n s), (M223 d n s)⟩ ?_
 refine ow2 ⟨(M228 d n s), (M227 d n s)⟩ (oap Vote.cs s.votes ((M238 d n s).2.1) (.s 10) (.s 11) 6 56 6 (.lst 6 (((M238 d n s).2.1).map Vote.cs)) .lst (by first | (simp; omega) | omega | exact app_le (by first | exact q4 | exact ers_le q4 | omega) (by first | exact begin_len _ _ _ _ | exact Nat.le_trans (serve_len _ _) (by decide) | exact hear_len _ _ _ _ | (simp; done)) (by decide))) ?_
 refine owl 4 [0] ⟨[(0, .ref 7 5 0 0)], (M230 d n s)⟩ ?_
 refine EL.seq ?_
 refine srl 7 [22] ⟨[(22, .v (.bool (decide ((List.length (s.votes ++ ((M238 d n s).2.1)) : Int) > 200))))], (M230 d n s)⟩ ?_
 rw [h4]
 refine cnF ?_
 refine skn ?_
 refine srl 1 [4] ⟨[(4, VI 0)], (M230 d n s)⟩ ?_
 refine EL.ret ?_
 exact fne [4] [uf 0, uf 1, uf 2, uf 3, ut 4, uf 5, uf 6, uf 7, uf 8, uf 9, uf 10, uf 11, uf 12, ut 13, ut 14] ⟨[(4, VI 0)], (M232 d n s)⟩ ⟨pq 5 Seat.cs s.seats, pq 8 Bid.cs (s.bids ++ ([(M207 d n s)])), pq 6 Vote.cs (s.votes ++ ((M238 d n s).2.1)), trivial⟩
 refine owl 1 [4] ⟨[(4, VI 0)], (M232 d n s)⟩ ?_
 refine EL.ret ?_
 exact fne [4] [uf 0, uf 1, uf 2, uf 3, ut 4, uf 5, uf 6, uf 7, uf 8, uf 9, ut 13, ut 14] ⟨[(4, VI 0)], (M234 d n s)⟩ ⟨pq 5 Seat.cs s.seats, pq 8 Bid.cs (s.bids ++ ([(M207 d n s)])), pq 6 Vote.cs (s.votes ++ ((M238 d n s).2.1)), trivial⟩
 refine owl 1 [2] ⟨[(2, VI 0)], (M234 d n s)⟩ ?_
 refine EL.ret ?_
 exact fne [2] [uf 0, uf 1, uf 2, uf 3, ut 4, uf 5, uf 6, uf 7, uf 8, uf 9, ut 10, ut 11] ⟨[(2, VI 0)], (M234 d n s)⟩ ⟨pq 5 Seat.cs s.seats, pq 8 Bid.cs (s.bids ++ ([(M207 d n s)])), pq 6 Vote.cs (s.votes ++ ((M238 d n s).2.1)), trivial⟩
 refine owe 1 ⟨(8, VI 0) :: (17, VI 0) :: M203, (M234 d n s)⟩ ?_
 refine iN ?_
 refine tN ?_
 refine EL.seq ?_
 refine srl 2 [4, 6, 8, 51] ⟨M108, (M234 d n s)⟩ ?_
 refine cnF ?_
 refine skn ?_
 refine srl 6 [4, 5] ⟨[(5, VI 0), (4, .ref 2 5 0 0)], (M235 d n s)⟩ ?_
 refine EL.ret ?_
 refine rqs (.tup [(M237 d n s), VI 0]) (.tup [(M236 d n s), VI 0]) (snapR_tup (sA (snapA_agg (sC (by kernel_rfl) (sC (by kernel_rfl) (sC (smp Seat.cs s.seats) (sC (smp Bid.cs (s.bids ++ ([(M207 d n s)]))) (sC (smp Vote.cs (s.votes ++ ((beginP s.voters (List.length s.bids : Int) n d).2.1))) (rfl))))))) (sA (by kernel_rfl) (snapAs_nil)))) ?_
 rotate_left
 have g4 := of_decide_eq_true h4
 refine owj [.ref 8 1 0 0, .ref 9 3 0 0] (VI 2) (M234 d n s) ⟨(17, VI 2) :: M203, (M234 d n s)⟩ (fiw F74_ok ?_) ?_
 refine srl 1 [0, 1] ⟨[(0, .ref 8 1 0 0), (1, .ref 9 3 0 0)], (M195 d n s)⟩ ?_
 refine srr 2 ⟨(M204 d n), (M195 d n s)⟩ ?_
 refine owj [.ref 7 5 0 0, (M194 d n)] (VI 2) (M234 d n s) ⟨(5, VI 2) :: (M204 d n), (M234 d n s)⟩ (fiw F75_ok ?_) ?_
 refine srl 2 [0, 3] ⟨[(3, .ref 10 3 0 0), (0, .ref 7 5 0 0)], (M205 d n s)⟩ ?_
 refine EL.seq ?_
 refine srl 7 [0, 3, 14] ⟨[(14, .v (.bool ((List.length s.bids : Int) == 31))), (3, .ref 10 3 0 0), (0, .ref 7 5 0 0)], (M205 d n s)⟩ ?_
 rw [h2]
 refine cnF ?_
 refine skn ?_
 refine sdr 15 ⟨(M206 d n s), (M205 d n s)⟩ ?_
 refine dwg [(M7 s), VI (List.length s.bids : Int), VI n, .v (.string d)] ⟨(M209 d n s), (M205 d n s)⟩ (begin_fn s.voters (List.length s.bids : Int) n d hx1) ?_
 refine dwl 8 [0, 5, 6, 7] ⟨(M212 d n s), (M211 d n s)⟩ ?_
 refine EL.seq ?_
 refine srl 2 [0, 5, 6, 7, 36] ⟨(36, .v (.bool (((M238 d n s).2.2) != 0))) :: (M212 d n s), (M211 d n s)⟩ ?_
 rw [h3]
 refine cnF ?_
 refine skn ?_
 refine sdr 8 ⟨(M218 d n s), (M217 d n s)⟩ ?_
 refine dw2 ⟨(M221 d n s), (M220 d n s)⟩ (oap Bid.cs s.bids ([(M207 d n s)]) (.s 43) (.s 45) 8 88 5 (.own 12 8 0 1) (.own (els := [[VI ((M207 d n s).time), VI ((M207 d n s).phase), .v (.string ((M207 d n s).own)), .v (.string ((M207 d n s).value)), VI ((((M207 d n s).best).at_).time), VI ((((M207 d n s).best).at_).who), .v (.string (((M207 d n s).best).data)), .v (.int .u64 ((M207 d n s).heard.n : Int))]]) (by kernel_rfl) (by kernel_rfl) (of_decide_eq_true (by kernel_rfl))) (by first | (simp; omega) | omega | exact app_le (by first | exact q4 | exact ers_le q4 | omega) (by first | exact begin_len _ _ _ _ | exact Nat.le_trans (serve_len _ _) (by decide) | exact hear_len _ _ _ _ | (simp; done)) (by decide))) ?_
 refine dwl 4 [0, 6] ⟨[(6, .lst 6 (((M238 d n s).2.1).map Vote.cs)), (0, .ref 7 5 0 0)], (M223 d n s)⟩ ?_
 refine srr 2 ⟨(M224 d n s), (M223 d n s)⟩ ?_
 refine owj [.ref 7 5 0 0, .lst 6 (((M238 d n s).2.1).map Vote.cs)] (VI 2) (M232 d n s) ⟨(52, VI 2) :: (M224 d n s), (M232 d n s)⟩ (fiw F81_ok ?_) ?_
 refine srl 1 [0, 1] ⟨[(0, .ref 7 5 0 0), (1, .lst 6 (((M238 d n s).2.1).map Vote.cs))], (M223 d n s)⟩ ?_
 refine srr 7 ⟨(M225 d n s), (M223 d n s)⟩ ?_
 refine ow2 ⟨(M228 d n s), (M227 d n s)⟩ (oap Vote.cs s.votes ((M238 d n s).2.1) (.s 10) (.s 11) 6 56 6 (.lst 6 (((M238 d n s).2.1).map Vote.cs)) .lst (by first | (simp; omega) | omega | exact app_le (by first | exact q4 | exact ers_le q4 | omega) (by first | exact begin_len _ _ _ _ | exact Nat.le_trans (serve_len _ _) (by decide) | exact hear_len _ _ _ _ | (simp; done)) (by decide))) ?_
 refine owl 4 [0] ⟨[(0, .ref 7 5 0 0)], (M230 d n s)⟩ ?_
 refine EL.seq ?_
 refine srl 7 [22] ⟨[(22, .v (.bool (decide ((List.length (s.votes ++ ((M238 d n s).2.1)) : Int) > 200))))], (M230 d n s)⟩ ?_
 rw [h4]
 refine cnT ?_
 refine srl 1 [4] ⟨[(4, VI 2)], (M230 d n s)⟩ ?_
 refine rtr ?_
 exact fne [4] [uf 0, uf 1, uf 2, uf 3, ut 4, uf 5, uf 6, uf 7, uf 8, uf 9, uf 10, uf 11, uf 12, ut 13, ut 14] ⟨[(4, VI 2)], (M232 d n s)⟩ ⟨pq 5 Seat.cs s.seats, pq 8 Bid.cs (s.bids ++ ([(M207 d n s)])), pq 6 Vote.cs (s.votes ++ ((M238 d n s).2.1)), trivial⟩
 refine owl 1 [4] ⟨[(4, VI 2)], (M232 d n s)⟩ ?_
 refine EL.ret ?_
 exact fne [4] [uf 0, uf 1, uf 2, uf 3, ut 4, uf 5, uf 6, uf 7, uf 8, uf 9, ut 13, ut 14] ⟨[(4, VI 2)], (M234 d n s)⟩ ⟨pq 5 Seat.cs s.seats, pq 8 Bid.cs (s.bids ++ ([(M207 d n s)])), pq 6 Vote.cs (s.votes ++ ((M238 d n s).2.1)), trivial⟩
 refine owl 1 [2] ⟨[(2, VI 2)], (M234 d n s)⟩ ?_
 refine EL.ret ?_
 exact fne [2] [uf 0, uf 1, uf 2, uf 3, ut 4, uf 5, uf 6, uf 7, uf 8, uf 9, ut 10, ut 11] ⟨[(2, VI 2)], (M234 d n s)⟩ ⟨pq 5 Seat.cs s.seats, pq 8 Bid.cs (s.bids ++ ([(M207 d n s)])), pq 6 Vote.cs (s.votes ++ ((M238 d n s).2.1)), trivial⟩
 refine owe 1 ⟨(8, VI 2) :: (17, VI 2) :: M203, (M234 d n s)⟩ ?_
 refine iN ?_
 refine tN ?_
 refine EL.seq ?_
 refine srl 2 [4, 6, 8, 51] ⟨M107, (M234 d n s)⟩ ?_
 refine cnT ?_
 refine srl 4 [4, 5] ⟨[(5, VI 2), (4, .ref 2 5 0 0)], (M234 d n s)⟩ ?_
 refine rtr ?_
 refine rqa (.tup [M106, VI 2]) (Ale.tup (aT (aE 1 (aR (aE 5 (aE 8 (aE 6 (.nil)))))) (aR .nil))) ?_
 rotate_left
 have g3 := bnT h3
 refine owj [.ref 8 1 0 0, .ref 9 3 0 0] (VI ((M238 d n s).2.2)) (M195 d n s) ⟨(M214 d n s), (M195 d n s)⟩ (fiw F74_ok ?_) ?_
 refine srl 1 [0, 1] ⟨[(0, .ref 8 1 0 0), (1, .ref 9 3 0 0)], (M195 d n s)⟩ ?_
 refine srr 2 ⟨(M204 d n), (M195 d n s)⟩ ?_
 refine owj [.ref 7 5 0 0, (M194 d n)] (VI ((M238 d n s).2.2)) (M195 d n s) ⟨(M213 d n s), (M195 d n s)⟩ (fiw F75_ok ?_) ?_
 refine srl 2 [0, 3] ⟨[(3, .ref 10 3 0 0), (0, .ref 7 5 0 0)], (M205 d n s)⟩ ?_
 refine EL.seq ?_
 refine srl 7 [0, 3, 14] ⟨[(14, .v (.bool ((List.length s.bids : Int) == 31))), (3, .ref 10 3 0 0), (0, .ref 7 5 0 0)], (M205 d n s)⟩ ?_
 rw [h2]
 refine cnF ?_
 refine skn ?_
 refine sdr 15 ⟨(M206 d n s), (M205 d n s)⟩ ?_
 refine dwg [(M7 s), VI (List.length s.bids : Int), VI n, .v (.string d)] ⟨(M209 d n s), (M205 d n s)⟩ (begin_fn s.voters (List.length s.bids : Int) n d hx1) ?_
 refine dwl 8 [0, 5, 6, 7] ⟨(M212 d n s), (M211 d n s)⟩ ?_
 refine EL.seq ?_
 refine srl 2 [0, 5, 6, 7, 36] ⟨(36, .v (.bool (((M238 d n s).2.2) != 0))) :: (M212 d n s), (M211 d n s)⟩ ?_
 rw [h3]
 refine cnT ?_
 refine srl 2 [4] ⟨[(4, VI ((M238 d n s).2.2))], (M211 d n s)⟩ ?_
 refine rtr ?_
 exact fne [4] [uf 0, uf 1, uf 2, uf 3, ut 4, ut 5, ut 6, uf 7, uf 8, uf 9] ⟨[(4, VI ((M238 d n s).2.2))], (M195 d n s)⟩ ⟨pq 5 Seat.cs s.seats, pq 8 Bid.cs s.bids, pq 6 Vote.cs s.votes, trivial⟩
 refine owl 1 [2] ⟨[(2, VI ((M238 d n s).2.2))], (M195 d n s)⟩ ?_
 refine EL.ret ?_
 exact fne [2] [uf 0, uf 1, uf 2, uf 3, ut 4, ut 5, ut 6, uf 7, uf 8, uf 9] ⟨[(2, VI ((M238 d n s).2.2))], (M195 d n s)⟩ ⟨pq 5 Seat.cs s.seats, pq 8 Bid.cs s.bids, pq 6 Vote.cs s.votes, trivial⟩
 refine owe 1 ⟨(M215 d n s), (M195 d n s)⟩ ?_
 refine iN ?_
 refine tN ?_
 refine EL.seq ?_
 refine srl 2 [4, 6, 8, 51] ⟨(51, .v (.bool (((M238 d n s).2.2) != 0))) :: (M216 d n s), (M195 d n s)⟩ ?_
 rw [h3]
 refine cnT ?_
 refine srl 4 [4, 5] ⟨[(5, VI ((M238 d n s).2.2)), (4, .ref 2 5 0 0)], (M195 d n s)⟩ ?_
 refine rtr ?_
 refine rqa (.tup [M106, VI ((beginP s.voters (List.length s.bids : Int) n d).2.2)]) (Ale.tup (aT (aE 1 (aR (aE 5 (aE 8 (aE 6 (.nil)))))) (aR .nil))) ?_
 rotate_left
 have g2 := bqT h2
 have n2 : ((List.length s.bids) = 31) := by omega
 refine owj [.ref 8 1 0 0, .ref 9 3 0 0] (VI 2) (M195 d n s) ⟨(17, VI 2) :: M203, (M195 d n s)⟩ (fiw F74_ok ?_) ?_
 refine srl 1 [0, 1] ⟨[(0, .ref 8 1 0 0), (1, .ref 9 3 0 0)], (M195 d n s)⟩ ?_
 refine srr 2 ⟨(M204 d n), (M195 d n s)⟩ ?_
 refine owj [.ref 7 5 0 0, (M194 d n)] (VI 2) (M195 d n s) ⟨(5, VI 2) :: (M204 d n), (M195 d n s)⟩ (fiw F75_ok ?_) ?_
 refine srl 2 [0, 3] ⟨[(3, .ref 10 3 0 0), (0, .ref 7 5 0 0)], (M205 d n s)⟩ ?_
 refine EL.seq ?_
 refine srl 7 [0, 3, 14] ⟨[(14, .v (.bool ((List.length s.bids : Int) == 31))), (3, .ref 10 3 0 0), (0, .ref 7 5 0 0)], (M205 d n s)⟩ ?_
 rw [h2]
 refine cnT ?_
 refine srl 1 [4] ⟨[(4, VI 2)], (M205 d n s)⟩ ?_
 refine rtr ?_
 exact fne [4] [uf 0, uf 1, uf 2, uf 3, ut 4, ut 5, ut 6, uf 7, uf 8, uf 9] ⟨[(4, VI 2)], (M195 d n s)⟩ ⟨pq 5 Seat.cs s.seats, pq 8 Bid.cs s.bids, pq 6 Vote.cs s.votes, trivial⟩
 refine owl 1 [2] ⟨[(2, VI 2)], (M195 d n s)⟩ ?_
 refine EL.ret ?_
 exact fne [2] [uf 0, uf 1, uf 2, uf 3, ut 4, ut 5, ut 6, uf 7, uf 8, uf 9] ⟨[(2, VI 2)], (M195 d n s)⟩ ⟨pq 5 Seat.cs s.seats, pq 8 Bid.cs s.bids, pq 6 Vote.cs s.votes, trivial⟩
 refine owe 1 ⟨(8, VI 2) :: (17, VI 2) :: M203, (M195 d n s)⟩ ?_
 refine iN ?_
 refine tN ?_
 refine EL.seq ?_
 refine srl 2 [4, 6, 8, 51] ⟨M107, (M195 d n s)⟩ ?_
 refine cnT ?_
 refine srl 4 [4, 5] ⟨[(5, VI 2), (4, .ref 2 5 0 0)], (M195 d n s)⟩ ?_
 refine rtr ?_
 refine rqa (.tup [M106, VI 2]) (Ale.tup (aT (aE 1 (aR (aE 5 (aE 8 (aE 6 (.nil)))))) (aR .nil))) ?_
 rotate_left
 all_goals (first | (rw [Syn.step_6m (by omega)]; rfl) | (rw [Syn.step_6e (by omega) (by assumption)]; rfl) | (rw [Syn.step_6 (by omega) (by assumption)]; first | (rw [Syn.many_0] <;> first | rfl | (dsimp only; omega)) | (rw [Syn.many_2] <;> first | rfl | (dsimp only; omega))))
section
variable (s : Syn) (x : Step)
abbrev M239 : OB := some ⟨3, [[VI x.kind, VI x.n, .v (.string x.data)]]⟩
abbrev M240 : LB := [(M0 s), (M239 x), M2, (M0 s), M2]
abbrev M241 : LB := [(M0 s), (M239 x), M2, (M0 s), M2, (M9 s)]
abbrev M242 : LB := [(M0 s), (M239 x), M2, (M0 s), M2, (M9 s), some ⟨8, (s.bids.map Bid.cs)⟩]
abbrev M243 : LB := [(M0 s), (M239 x), M2, (M0 s), M2, (M9 s), some ⟨8, (s.bids.map Bid.cs)⟩, (M14 s)]
abbrev M244 : LB := [(M0 s), (M239 x), M2, (M0 s), (M16 s), (M9 s), some ⟨8, (s.bids.map Bid.cs)⟩, (M14 s)]
abbrev M245 : LB := [(M0 s), (M239 x), M2, (M19 s), (M9 s), some ⟨8, (s.bids.map Bid.cs)⟩, (M14 s)]
abbrev M246 : LB := [(M0 s), (M239 x), M2, (M19 s), (M9 s), some ⟨8, (s.bids.map Bid.cs)⟩, (M14 s), (M19 s)]
abbrev M247 : AV := .agg [VI x.kind, VI x.n, .v (.string x.data)]
abbrev M248 : LB := [(M0 s), (M239 x), M2, (M19 s), (M9 s), some ⟨8, (s.bids.map Bid.cs)⟩, (M14 s), (M19 s), some ⟨1, [[.ref 7 5 0 0]]⟩, (M239 x)]
abbrev M249 : LB := [(M0 s), (M239 x), M2, (M19 s), (M9 s), some ⟨8, (s.bids.map Bid.cs)⟩, (M14 s), (M19 s), some ⟨1, [[.ref 7 5 0 0]]⟩, (M239 x), M25]
abbrev M250 : LS := [(12, VI x.kind), (11, .ref 9 3 0 0), (10, .mp 10), (9, .fn 80 [.ref 8 1 0 0, .ref 9 3 0 0]), (8, .fn 79 [.ref 8 1 0 0, .ref 9 3 0 0]), (7, .fn 76 [.ref 8 1 0 0, .ref 9 3 0 0]), (6, .fn 74 [.ref 8 1 0 0, .ref 9 3 0 0]), (5, .mp 10), (3, .ref 9 3 0 0), (2, .ref 8 1 0 0)]
abbrev M251 : LS := (15, .v (.nilFunc)) :: (14, (M247 x)) :: (13, .ref 7 5 0 0) :: M22
abbrev M252 : LS := (8, VI 7) :: (18, .v (.bool true)) :: (7, .v (.nilFunc)) :: M22
abbrev M253 : LS := [(51, .v (.bool true)), (8, VI 7), (6, .ref 7 5 0 0), (4, .ref 2 5 0 0)]
end
theorem step0_fn (s : Syn) (x : Step) (ok : s.Ok) (hk : ¬ (3 ≤ x.kind ∧ x.kind ≤ 6)) : Fn Tryd.prog 28 [.agg [.lst 1 (s.voters.weights.map cI), VI s.voters.need, .lst 5 (s.seats.map Seat.cs), .lst 8 (s.bids.map Bid.cs), .lst 6 (s.votes.map Vote.cs)], .agg [VI x.kind, VI x.n, .v (.string x.data)]] (.tup [.agg [.lst 1 (((((s.stepP x.kind x.n x.data).1).voters).weights).map cI), VI ((((s.stepP x.kind x.n x.data).1).voters).need), .lst 5 ((((s.stepP x.kind x.n x.data).1).seats).map Seat.cs), .lst 8 ((((s.stepP x.kind x.n x.data).1).bids).map Bid.cs), .lst 6 ((((s.stepP x.kind x.n x.data).1).votes).map Vote.cs)], VI ((s.stepP x.kind x.n x.data).2)]) := by
 have q1 := qc_len ok.q
 have q2 := ok.len
 have q3 := ok.few
 have q4 := ok.many
 have vv := ok.vv
 have hx1 : s.voters.weights.length ≤ 9223372036854775807 := by omega
 have hk3 : (x.kind == 3) = false := by cases h : (x.kind == 3) with | false => rfl | true => exact absurd (eq_of_beq h) (by omega)
 have hk4 : (x.kind == 4) = false := by cases h : (x.kind == 4) with | false => rfl | true => exact absurd (eq_of_beq h) (by omega)
 have hk5 : (x.kind == 5) = false := by cases h : (x.kind == 5) with | false => rfl | true => exact absurd (eq_of_beq h) (by omega)
 have hk6 : (x.kind == 6) = false := by cases h : (x.kind == 6) with | false => rfl | true => exact absurd (eq_of_beq h) (by omega)
 refine fnw F28_ok ?_
 refine srl 4 [2, 3, 4] ⟨M3, [(M0 s), (M239 x), M2]⟩ ?_
 refine srr 1 ⟨(9, (M4 s)) :: M3, [(M0 s), (M239 x), M2]⟩ ?_
 refine owj [(M4 s)] (M18 s) (M245 s x) ⟨(10, (M18 s)) :: (9, (M4 s)) :: M3, (M245 s x)⟩ (fiw F49_ok ?_) ?_
 refine srl 2 [1, 2] ⟨[(2, .ref 4 5 0 0), (1, .ref 3 5 0 0)], (M240 s x)⟩ ?_
 refine sdr 3 ⟨(M6 s), (M240 s x)⟩ ?_
 refine dwg [.lst 1 (s.voters.weights.map cI)] ⟨(6, .lst 1 (s.voters.weights.map cI)) :: (M6 s), (M240 s x)⟩ (cloneI_fo s.voters.weights (by first | omega | exact qc_small (by assumption))) ?_
 refine dwr 6 ⟨(M8 s), (M240 s x)⟩ ?_
 refine DW.fo (ar := [.lst 5 (s.seats.map Seat.cs)]) (fe := Seat.cs) (xs := s.seats) (x' := ⟨(13, .own 5 5 0 (List.length s.seats)) :: (M8 s), (M241 s x)⟩) (by kernel_rfl) (by kernel_rfl) F68_call (cloneS_fo s.seats (by first | omega | exact qc_small (by assumption))) (by intro y; kernel_rfl) (by kernel_rfl) (by kernel_rfl) ?_
 refine dwr 2 ⟨(M11 s), (M241 s x)⟩ ?_
 refine DW.fo (ar := [.lst 8 (s.bids.map Bid.cs)]) (fe := Bid.cs) (xs := s.bids) (x' := ⟨(16, .own 6 8 0 (List.length s.bids)) :: (M11 s), (M242 s x)⟩) (by kernel_rfl) (by kernel_rfl) F69_call (cloneB_fo s.bids (by first | omega | exact qc_small (by assumption))) (by intro y; kernel_rfl) (by kernel_rfl) (by kernel_rfl) ?_
 refine dwr 2 ⟨(M13 s), (M242 s x)⟩ ?_
 refine DW.fo (ar := [.lst 6 (s.votes.map Vote.cs)]) (fe := Vote.cs) (xs := s.votes) (x' := ⟨(19, .own 7 6 0 (List.length s.votes)) :: (M13 s), (M243 s x)⟩) (by kernel_rfl) (by kernel_rfl) F70_call (cloneV_fo s.votes (by first | omega | exact qc_small (by assumption))) (by intro y; kernel_rfl) (by kernel_rfl) (by kernel_rfl) ?_
 refine dwl 2 [2] ⟨[(2, .ref 4 5 0 0)], (M244 s x)⟩ ?_
 refine EL.ret ?_
 exact fne [2] [uf 0, uf 1, uf 2, uf 4, ut 5, ut 6, ut 7] ⟨[(2, .ref 3 5 0 0)], (M245 s x)⟩ ⟨pq 5 Seat.cs s.seats, pq 8 Bid.cs s.bids, pq 6 Vote.cs s.votes, trivial⟩
 refine owl 3 [3, 4, 6] ⟨M22, (M246 s x)⟩ ?_
 refine srr 2 ⟨(14, (M247 x)) :: (13, .ref 7 5 0 0) :: M22, (M246 s x)⟩ ?_
 refine owj [.ref 7 5 0 0, (M247 x)] (.v (.nilFunc)) (M246 s x) ⟨(M251 x), (M246 s x)⟩ (fiw F54_ok ?_) ?_
 refine srl 3 [2, 3] ⟨[(3, .ref 9 3 0 0), (2, .ref 8 1 0 0)], (M248 s x)⟩ ?_
 refine srr 12 ⟨(M250 x), (M249 s x)⟩ ?_
 refine ow2 ⟨(13, .v (.nilFunc)) :: (M250 x), (M249 s x)⟩ (opE_mlk .int (.v (.nilFunc)) (.s 10) (.s 12) 10 [[VI 6, .fn 74 [.ref 8 1 0 0, .ref 9 3 0 0]], [VI 3, .fn 76 [.ref 8 1 0 0, .ref 9 3 0 0]], [VI 4, .fn 79 [.ref 8 1 0 0, .ref 9 3 0 0]], [VI 5, .fn 80 [.ref 8 1 0 0, .ref 9 3 0 0]]] (.int .i64 x.kind) none (by kernel_rfl) (by kernel_rfl) (by kernel_rfl) (by kernel_rfl) (by kernel_rfl) (by simp [mfind, keyEq, hk6, hk3, hk4, hk5])) ?_
 refine owl 1 [4] ⟨[(4, .v (.nilFunc))], (M249 s x)⟩ ?_
 refine EL.ret ?_
 exact fne [4] [uf 0, uf 1, uf 2, uf 3, ut 4, ut 5, ut 6, uf 7] ⟨[(4, .v (.nilFunc))], (M246 s x)⟩ ⟨pq 5 Seat.cs s.seats, pq 8 Bid.cs s.bids, pq 6 Vote.cs s.votes, trivial⟩
 refine owl 1 [3, 4, 6, 7] ⟨(7, .v (.nilFunc)) :: M22, (M246 s x)⟩ ?_
 refine srl 1 [3, 4, 6, 7] ⟨(7, .v (.nilFunc)) :: M22, (M246 s x)⟩ ?_
 refine EL.seq ?_
 refine EL.block ?_
 refine srl 3 [3, 4, 6, 7, 18] ⟨(18, .v (.bool true)) :: (7, .v (.nilFunc)) :: M22, (M246 s x)⟩ ?_
 refine cnT ?_
 refine roe 1 ⟨M252, (M246 s x)⟩ ?_
 refine iN ?_
 refine tN ?_
 refine EL.seq ?_
 refine srl 2 [4, 6, 8, 51] ⟨M253, (M246 s x)⟩ ?_
 refine cnT ?_
 refine srl 4 [4, 5] ⟨[(5, VI 7), (4, .ref 2 5 0 0)], (M246 s x)⟩ ?_
 refine rtr ?_
 refine rqa (.tup [M106, VI 7]) (Ale.tup (aT (aE 1 (aR (aE 5 (aE 8 (aE 6 (.nil)))))) (aR .nil))) ?_
 focus ((rw [Syn.step_7 hk] <;> rfl))
theorem step_fn (s : Syn) (x : Step) (ok : s.Ok) : Fn Tryd.prog 28 [.agg [.lst 1 (s.voters.weights.map cI), VI s.voters.need, .lst 5 (s.seats.map Seat.cs), .lst 8 (s.bids.map Bid.cs), .lst 6 (s.votes.map Vote.cs)], .agg [VI x.kind, VI x.n, .v (.string x.data)]] (.tup [.agg [.lst 1 ((s.stepP x.kind x.n x.data).1.voters.weights.map cI), VI (s.stepP x.kind x.n x.data).1.voters.need, .lst 5 ((s.stepP x.kind x.n x.data).1.seats.map Seat.cs), .lst 8 ((s.stepP x.kind x.n x.data).1.bids.map Bid.cs), .lst 6 ((s.stepP x.kind x.n x.data).1.votes.map Vote.cs)], VI (s.stepP x.kind x.n x.data).2]) := by
  by_cases hk : 3 ≤ x.kind ∧ x.kind ≤ 6
  · obtain ⟨k, n, d⟩ := x
    simp only at hk
    have : k = 3 ∨ k = 4 ∨ k = 5 ∨ k = 6 := by omega
    rcases this with rfl | rfl | rfl | rfl
    · exact step3_fn s n d ok
    · exact step4_fn s n d ok
    · exact step5_fn s n d ok
    · exact step6_fn s n d ok
  · exact step0_fn s x ok hk
theorem Syn.Ok.big {s : Syn} (ok : s.Ok) : s.Big := by
  have := qc_len ok.q; have := ok.len; have := ok.few; have := ok.many
  refine ⟨?_, ?_, ?_, ?_⟩ <;> omega
theorem Syn.zero_big : Syn.zero.Big := by unfold Syn.Big Syn.zero; dsimp only; simp
theorem Syn.Ok.small {s : Syn} (ok : s.Ok) : s.voters.weights.length ≤ 1000000 ∧ s.seats.length ≤ 1000000 ∧ s.bids.length ≤ 1000000 ∧ s.votes.length ≤ 1000000 := by
  have := qc_len ok.q; have := ok.len; have := ok.few; have := ok.many
  omega
abbrev Step.cs (x : Step) : List AV := [VI x.kind, VI x.n, .v (.string x.data)]
section
variable (s : Syn)
abbrev N0 : OB := some ⟨5, [[.lst 1 (s.voters.weights.map cI), VI s.voters.need, .lst 5 (s.seats.map Seat.cs), .lst 8 (s.bids.map Bid.cs), .lst 6 (s.votes.map Vote.cs)]]⟩
abbrev N1 : OB := some ⟨5, [[.emp, VI 0, .emp, .emp, .emp]]⟩
abbrev N2 : LS := [(5, .lst 1 (s.voters.weights.map cI)), (4, .ref 0 5 0 0), (3, .ref 0 5 0 0), (2, .ref 1 5 0 0), (1, .ref 0 5 0 0)]
abbrev N3 : AV := .agg [.lst 1 (s.voters.weights.map cI), VI s.voters.need]
abbrev N4 : LS := (12, .lst 5 (s.seats.map Seat.cs)) :: (11, .ref 0 5 0 2) :: (10, (N3 s)) :: (9, VI s.voters.need) :: (8, .ref 0 5 0 1) :: (7, .ref 0 5 0 0) :: (6, .lst 1 (s.voters.weights.map cI)) :: (N2 s)
abbrev N5 : OB := some ⟨5, (s.seats.map Seat.cs)⟩
abbrev N6 : LS := (15, .lst 8 (s.bids.map Bid.cs)) :: (14, .ref 0 5 0 3) :: (13, .own 2 5 0 (List.length s.seats)) :: (N4 s)
abbrev N7 : LB := [(N0 s), N1, (N5 s), some ⟨8, (s.bids.map Bid.cs)⟩]
abbrev N8 : LS := (18, .lst 6 (s.votes.map Vote.cs)) :: (17, .ref 0 5 0 4) :: (16, .own 3 8 0 (List.length s.bids)) :: (N6 s)
abbrev N9 : OB := some ⟨6, (s.votes.map Vote.cs)⟩
abbrev N10 : LB := [(N0 s), N1, (N5 s), some ⟨8, (s.bids.map Bid.cs)⟩, (N9 s)]
abbrev N11 : OB := some ⟨5, [[.lst 1 (s.voters.weights.map cI), VI s.voters.need, .own 2 5 0 (List.length s.seats), .own 3 8 0 (List.length s.bids), .own 4 6 0 (List.length s.votes)]]⟩
abbrev N12 : LB := [(N0 s), (N11 s), (N5 s), some ⟨8, (s.bids.map Bid.cs)⟩, (N9 s)]
abbrev N13 : AV := .agg [.lst 1 (s.voters.weights.map cI), VI s.voters.need, .own 2 5 0 (List.length s.seats), .own 3 8 0 (List.length s.bids), .own 4 6 0 (List.length s.votes)]
abbrev N14 : AV := .agg [.lst 1 (s.voters.weights.map cI), VI s.voters.need, .lst 5 (s.seats.map Seat.cs), .lst 8 (s.bids.map Bid.cs), .lst 6 (s.votes.map Vote.cs)]
end
theorem own_fn (s : Syn) (hs : s.voters.weights.length ≤ 1000000 ∧ s.seats.length ≤ 1000000 ∧ s.bids.length ≤ 1000000 ∧ s.votes.length ≤ 1000000) : Fn Tryd.prog 49 [.agg [.lst 1 (s.voters.weights.map cI), VI s.voters.need, .lst 5 (s.seats.map Seat.cs), .lst 8 (s.bids.map Bid.cs), .lst 6 (s.votes.map Vote.cs)]] (.agg [.lst 1 (s.voters.weights.map cI), VI s.voters.need, .lst 5 (s.seats.map Seat.cs), .lst 8 (s.bids.map Bid.cs), .lst 6 (s.votes.map Vote.cs)]) := by
 refine fnw F49_ok ?_
 refine srl 2 [1, 2] ⟨[(2, .ref 1 5 0 0), (1, .ref 0 5 0 0)], [(N0 s), N1]⟩ ?_
 refine sdr 3 ⟨(N2 s), [(N0 s), N1]⟩ ?_
 refine dwg [.lst 1 (s.voters.weights.map cI)] ⟨(6, .lst 1 (s.voters.weights.map cI)) :: (N2 s), [(N0 s), N1]⟩ (cloneI_fo s.voters.weights (by first | omega | exact qc_small (by assumption))) ?_
 refine dwr 6 ⟨(N4 s), [(N0 s), N1]⟩ ?_
 refine DW.fo (ar := [.lst 5 (s.seats.map Seat.cs)]) (fe := Seat.cs) (xs := s.seats) (x' := ⟨(13, .own 2 5 0 (List.length s.seats)) :: (N4 s), [(N0 s), N1, (N5 s)]⟩) (by kernel_rfl) (by kernel_rfl) F68_call (cloneS_fo s.seats (by first | omega | exact qc_small (by assumption))) (by intro y; kernel_rfl) (by kernel_rfl) (by kernel_rfl) ?_
 refine dwr 2 ⟨(N6 s), [(N0 s), N1, (N5 s)]⟩ ?_
 refine DW.fo (ar := [.lst 8 (s.bids.map Bid.cs)]) (fe := Bid.cs) (xs := s.bids) (x' := ⟨(16, .own 3 8 0 (List.length s.bids)) :: (N6 s), (N7 s)⟩) (by kernel_rfl) (by kernel_rfl) F69_call (cloneB_fo s.bids (by first | omega | exact qc_small (by assumption))) (by intro y; kernel_rfl) (by kernel_rfl) (by kernel_rfl) ?_
 refine dwr 2 ⟨(N8 s), (N7 s)⟩ ?_
 refine DW.fo (ar := [.lst 6 (s.votes.map Vote.cs)]) (fe := Vote.cs) (xs := s.votes) (x' := ⟨(19, .own 4 6 0 (List.length s.votes)) :: (N8 s), (N10 s)⟩) (by kernel_rfl) (by kernel_rfl) F70_call (cloneV_fo s.votes (by first | omega | exact qc_small (by assumption))) (by intro y; kernel_rfl) (by kernel_rfl) (by kernel_rfl) ?_
 refine dwl 2 [2] ⟨[(2, .ref 1 5 0 0)], (N12 s)⟩ ?_
 refine EL.ret ?_
 refine rqs (N14 s) (N13 s) (snapA_agg (sC (by kernel_rfl) (sC (by kernel_rfl) (sC (smp Seat.cs s.seats) (sC (smp Bid.cs s.bids) (sC (smp Vote.cs s.votes) (rfl))))))) ?_
 focus (rfl)
section
variable (s : Syn) (x : Step)
abbrev N24 := ((s.stepP x.kind x.n x.data).1)
abbrev N15 : OB := some ⟨3, [[VI x.kind, VI x.n, .v (.string x.data)]]⟩
abbrev N16 : LS := [(4, .ref 2 5 0 0), (3, .ref 1 3 0 0), (2, .ref 0 5 0 0)]
abbrev N18 : AV := .agg [.emp, VI 0, .emp, .emp, .emp]
abbrev N19 : AV := .agg [VI x.kind, VI x.n, .v (.string x.data)]
abbrev N20 : LS := (14, (N19 x)) :: (13, (N14 s)) :: (10, .v (.bool false)) :: (6, VI s.checkE) :: N16
abbrev N21 : AV := .agg [.lst 1 ((((N24 s x).voters).weights).map cI), VI (((N24 s x).voters).need), .lst 5 (((N24 s x).seats).map Seat.cs), .lst 8 (((N24 s x).bids).map Bid.cs), .lst 6 (((N24 s x).votes).map Vote.cs)]
abbrev N22 : LS := (15, .tup [(N21 s x), VI ((s.stepP x.kind x.n x.data).2)]) :: (N20 s x)
abbrev N23 : OB := some ⟨5, [[.lst 1 ((((N24 s x).voters).weights).map cI), VI (((N24 s x).voters).need), .lst 5 (((N24 s x).seats).map Seat.cs), .lst 8 (((N24 s x).bids).map Bid.cs), .lst 6 (((N24 s x).votes).map Vote.cs)]]⟩
end
theorem do_fn (s : Syn) (x : Step) (hx : s.Big) : Fn Tryd.prog 13 [.agg [.lst 1 (s.voters.weights.map cI), VI s.voters.need, .lst 5 (s.seats.map Seat.cs), .lst 8 (s.bids.map Bid.cs), .lst 6 (s.votes.map Vote.cs)], .agg [VI x.kind, VI x.n, .v (.string x.data)]] (.tup [.agg [.lst 1 (((((s.doP x.kind x.n x.data).1).voters).weights).map cI), VI ((((s.doP x.kind x.n x.data).1).voters).need), .lst 5 ((((s.doP x.kind x.n x.data).1).seats).map Seat.cs), .lst 8 ((((s.doP x.kind x.n x.data).1).bids).map Bid.cs), .lst 6 ((((s.doP x.kind x.n x.data).1).votes).map Vote.cs)], VI ((s.doP x.kind x.n x.data).2)]) := by
 refine fnw F13_ok ?_
 refine srl 4 [2, 3, 4] ⟨N16, [(N0 s), (N15 x), N1]⟩ ?_
 refine EL.seq ?_
 refine srr 1 ⟨(7, (N14 s)) :: N16, [(N0 s), (N15 x), N1]⟩ ?_
 refine owg [(N14 s)] ⟨(8, VI s.checkE) :: (7, (N14 s)) :: N16, [(N0 s), (N15 x), N1]⟩ (check_fn s (by first | assumption | exact Syn.Ok.big (by assumption))) ?_
 refine owl 1 [2, 3, 4, 6] ⟨(6, VI s.checkE) :: N16, [(N0 s), (N15 x), N1]⟩ ?_
 refine srl 2 [2, 3, 4, 6, 10] ⟨(10, .v (.bool (s.checkE != 0))) :: (6, VI s.checkE) :: N16, [(N0 s), (N15 x), N1]⟩ ?_
 cases h1 : (s.checkE != 0)
 have g1 := bnF h1
 refine cnF ?_
 refine skn ?_
 refine srr 2 ⟨(N20 s x), [(N0 s), (N15 x), N1]⟩ ?_
 refine owg [(N14 s), (N19 x)] ⟨(N22 s x), [(N0 s), (N15 x), N1]⟩ (step_fn s x (by first | assumption | exact Syn.check_0 ‹_›)) ?_
 refine owl 4 [4, 5] ⟨[(5, VI ((s.stepP x.kind x.n x.data).2)), (4, .ref 2 5 0 0)], [(N0 s), (N15 x), (N23 s x)]⟩ ?_
 refine EL.ret ?_
 refine rqe (.tup [(N21 s x), VI ((s.stepP x.kind x.n x.data).2)]) ?_
 rotate_left
 have g1 := bnT h1
 refine cnT ?_
 refine srl 4 [4, 5] ⟨[(5, VI s.checkE), (4, .ref 2 5 0 0)], [(N0 s), (N15 x), N1]⟩ ?_
 refine rtr ?_
 refine rqa (.tup [N18, VI s.checkE]) (Ale.tup (aT (aE 1 (aR (aE 5 (aE 8 (aE 6 (.nil)))))) (aR .nil))) ?_
 rotate_left
 all_goals (first | (rw [Syn.doP_0 ‹_›] <;> rfl) | (rw [Syn.doP_n ‹_›] <;> rfl))
section
variable (a10 : Step) (c : Syn) (k : Nat) (l : List Step) (n : Int) (s : Syn)
abbrev N52 := (c.stepP a10.kind a10.n a10.data)
abbrev N25 : LS := [(4, .ref 1 5 0 0), (2, .ref 0 5 0 0), (1, .lst 3 (l.map Step.cs))]
abbrev N26 : LS := (18, .lst 3 (l.map Step.cs)) :: (17, .v (.bool true)) :: (16, .v (.bool true)) :: (15, VI s.checkE) :: (7, VI s.checkE) :: (N25 l)
abbrev N27 : LS := [(1, .lst 3 (l.map Step.cs)), (2, .ref 0 5 0 0), (4, .ref 1 5 0 0), (7, VI 2)]
abbrev N28 : LS := [(1, .lst 3 (l.map Step.cs)), (2, .ref 0 5 0 0), (4, .ref 1 5 0 0), (7, VI s.checkE)]
abbrev N29 : LS := [(6, VI s.checkE), (5, VI 0), (4, .ref 1 5 0 0)]
abbrev N30 : LS := (27, (N14 s)) :: (26, (N14 s)) :: (23, .v (.bool false)) :: (N28 l s)
abbrev N31 : LS := [(1, .lst 3 (l.map Step.cs)), (2, .ref 0 5 0 0), (4, .ref 1 5 0 0)]
abbrev N32 : LS := (29, VI (List.length l : Int)) :: (28, .lst 3 (l.map Step.cs)) :: (8, VI 0) :: (N31 l)
abbrev N33 : LS := [(30, VI 0), (29, VI (List.length l : Int)), (28, .lst 3 (l.map Step.cs)), (8, VI 0), (2, .ref 0 5 0 0), (4, .ref 1 5 0 0)]
abbrev N34 : OB := some ⟨5, [[.lst 1 (c.voters.weights.map cI), VI c.voters.need, .lst 5 (c.seats.map Seat.cs), .lst 8 (c.bids.map Bid.cs), .lst 6 (c.votes.map Vote.cs)]]⟩
abbrev N35 : LS := [(2, .ref 0 5 0 0), (4, .ref 1 5 0 0), (8, VI n), (28, .lst 3 (l.map Step.cs)), (29, VI (List.length l : Int)), (30, VI (k : Int))]
abbrev N36 : LS := (32, .pim [VI a10.kind, VI a10.n, .v (.string a10.data)] 0) :: (31, .v (.bool true)) :: (N35 k l n)
abbrev N37 : OB := some ⟨3, [[VI a10.kind, VI a10.n, .v (.string a10.data)]]⟩
abbrev N38 : AV := .agg [VI a10.kind, VI a10.n, .v (.string a10.data)]
abbrev N39 : AV := .agg [.lst 1 (c.voters.weights.map cI), VI c.voters.need, .lst 5 (c.seats.map Seat.cs), .lst 8 (c.bids.map Bid.cs), .lst 6 (c.votes.map Vote.cs)]
abbrev N40 : LS := (36, (N38 a10)) :: (35, (N39 c)) :: (10, .ref 2 3 0 0) :: (N35 k l n)
abbrev N41 : AV := .agg [.lst 1 (((((N52 a10 c).1).voters).weights).map cI), VI ((((N52 a10 c).1).voters).need), .lst 5 ((((N52 a10 c).1).seats).map Seat.cs), .lst 8 ((((N52 a10 c).1).bids).map Bid.cs), .lst 6 ((((N52 a10 c).1).votes).map Vote.cs)]
abbrev N42 : LS := (37, .tup [(N41 a10 c), VI ((N52 a10 c).2)]) :: (N40 a10 c k l n)
abbrev N43 : OB := some ⟨5, [[.lst 1 (((((N52 a10 c).1).voters).weights).map cI), VI ((((N52 a10 c).1).voters).need), .lst 5 ((((N52 a10 c).1).seats).map Seat.cs), .lst 8 ((((N52 a10 c).1).bids).map Bid.cs), .lst 6 ((((N52 a10 c).1).votes).map Vote.cs)]]⟩
abbrev N44 : LB := [(N34 c), N1, (N37 a10), (N43 a10 c)]
abbrev N45 : LS := (12, VI ((N52 a10 c).2)) :: (11, .ref 3 5 0 0) :: (N35 k l n)
abbrev N46 : LB := [(N43 a10 c), N1, (N37 a10), (N43 a10 c)]
abbrev N47 : LS := [(43, VI n), (2, .ref 0 5 0 0), (4, .ref 1 5 0 0), (28, .lst 3 (l.map Step.cs)), (29, VI (List.length l : Int)), (30, VI (k : Int))]
abbrev N48 : LS := [(8, VI (n + 1)), (44, VI (n + 1)), (43, VI n), (2, .ref 0 5 0 0), (4, .ref 1 5 0 0), (28, .lst 3 (l.map Step.cs)), (29, VI (List.length l : Int))]
abbrev N49 : LS := (30, VI ((k : Int) + 1)) :: (45, VI ((k : Int) + 1)) :: (N48 l n)
abbrev N50 : LS := [(41, .v (.bool false)), (11, .ref 3 5 0 0), (2, .ref 0 5 0 0), (4, .ref 1 5 0 0), (8, VI n), (28, .lst 3 (l.map Step.cs)), (29, VI (List.length l : Int))]
abbrev N51 : LS := (30, VI ((k : Int) + 1)) :: (45, VI ((k : Int) + 1)) :: (N50 l n)
end
theorem run_fn (s : Syn) (l : List Step) (hx : s.Big) (hl : l.length ≤ 9223372036854775807) : Fn Tryd.prog 20 [.agg [.lst 1 (s.voters.weights.map cI), VI s.voters.need, .lst 5 (s.seats.map Seat.cs), .lst 8 (s.bids.map Bid.cs), .lst 6 (s.votes.map Vote.cs)], .lst 3 (l.map Step.cs)] (.tup [.agg [.lst 1 (((((s.runP l).1).voters).weights).map cI), VI ((((s.runP l).1).voters).need), .lst 5 ((((s.runP l).1).seats).map Seat.cs), .lst 8 ((((s.runP l).1).bids).map Bid.cs), .lst 6 ((((s.runP l).1).votes).map Vote.cs)], VI ((s.runP l).2.1), VI ((s.runP l).2.2)]) := by
 refine fnw F20_ok ?_
 refine srl 4 [1, 2, 4] ⟨(N25 l), [(N0 s), N1]⟩ ?_
 refine srr 1 ⟨(13, (N14 s)) :: (N25 l), [(N0 s), N1]⟩ ?_
 refine owg [(N14 s)] ⟨(14, VI s.checkE) :: (13, (N14 s)) :: (N25 l), [(N0 s), N1]⟩ (check_fn s (by first | assumption | exact Syn.Ok.big (by assumption))) ?_
 refine owl 1 [1, 2, 4, 7] ⟨(7, VI s.checkE) :: (N25 l), [(N0 s), N1]⟩ ?_
 refine EL.seqG [1, 2, 4, 7] (fun y => (y = ⟨(N27 l), [(N0 s), N1]⟩ ∧ (s.checkE == 0) = true ∧ decide ((List.length l : Int) > 200) = true) ∨ (y = ⟨(N28 l s), [(N0 s), N1]⟩ ∧ ((s.checkE = 0 ∧ ¬ ((List.length l : Int) > 200)) ∨ (¬ s.checkE = 0)))) ?_ ?_
 intro IHJ1 HJ1
 refine srr 3 ⟨(17, .v (.bool (s.checkE == 0))) :: (16, .v (.bool (s.checkE == 0))) :: (15, VI s.checkE) :: (7, VI s.checkE) :: (N25 l), [(N0 s), N1]⟩ ?_
 cases h2 : (s.checkE == 0)
 have g2 := bqF h2
 refine owl 4 [1, 2, 4, 7, 21] ⟨(21, .v (.bool false)) :: (7, VI s.checkE) :: (N25 l), [(N0 s), N1]⟩ ?_
 refine cnF ?_
 refine EL.skip ?_
 exact tN (HJ1.get (Or.inr ⟨by kernel_rfl, (Or.inr (by first | exact g2 | exact h2 | simp_all | omega))⟩))
 have g2 := bqT h2
 refine owr 1 ⟨(N26 l s), [(N0 s), N1]⟩ ?_
 refine ow2 ⟨(19, VI (List.length l : Int)) :: (N26 l s), [(N0 s), N1]⟩ (oln Step.cs l (.s 18) 3) ?_
 refine owl 2 [1, 2, 4, 7, 21] ⟨(21, .v (.bool (decide ((List.length l : Int) > 200)))) :: (7, VI s.checkE) :: (N25 l), [(N0 s), N1]⟩ ?_
 cases h3 : (decide ((List.length l : Int) > 200))
 have g3 := of_decide_eq_false h3
 have n3 : ¬ ((List.length l) > 200) := by omega
 refine cnF ?_
 refine EL.skip ?_
 exact tN (HJ1.get (Or.inr ⟨by kernel_rfl, (Or.inl (by refine ⟨(by first | exact g2 | exact h2 | simp_all | omega), (by first | exact g3 | exact h3 | simp_all | omega)⟩))⟩))
 have g3 := of_decide_eq_true h3
 have n3 : ((List.length l) > 200) := by omega
 refine cnT ?_
 refine roe 1 ⟨(7, VI 2) :: (21, .v (.bool true)) :: (N25 l), [(N0 s), N1]⟩ ?_
 exact tN (HJ1.get (Or.inl ⟨by kernel_rfl, h2, h3⟩))
 rintro _ (⟨rfl, h4, h5⟩ | ⟨rfl, hD6⟩)
 have g4 := bqT h4
 have g5 := of_decide_eq_true h5
 have n5 : ((List.length l) > 200) := by omega
 refine EL.seq ?_
 refine srl 2 [1, 2, 4, 7, 23] ⟨(23, .v (.bool true)) :: (N27 l), [(N0 s), N1]⟩ ?_
 refine cnT ?_
 refine srl 5 [4, 5, 6] ⟨[(6, VI 2), (5, VI 0), (4, .ref 1 5 0 0)], [(N0 s), N1]⟩ ?_
 refine rtr ?_
 refine rqa (.tup [N18, VI 0, VI 2]) (Ale.tup (aT (aE 1 (aR (aE 5 (aE 8 (aE 6 (.nil)))))) (aR (aR .nil)))) ?_
 rotate_left
 refine EL.seq ?_
 refine srl 2 [1, 2, 4, 7, 23] ⟨(23, .v (.bool (s.checkE != 0))) :: (N28 l s), [(N0 s), N1]⟩ ?_
 cases h7 : (s.checkE != 0)
 have g7 := bnF h7
 refine cnF ?_
 refine skn ?_
 refine srr 1 ⟨(26, (N14 s)) :: (23, .v (.bool false)) :: (N28 l s), [(N0 s), N1]⟩ ?_
 refine owg [(N14 s)] ⟨(N30 l s), [(N0 s), N1]⟩ (own_fn s (Syn.check_0 ‹_›).small) ?_
 refine owl 1 [1, 2, 4] ⟨(N31 l), [(N0 s), N1]⟩ ?_
 refine srl 1 [1, 2, 4, 8] ⟨(8, VI 0) :: (N31 l), [(N0 s), N1]⟩ ?_
 refine EL.seq ?_
 refine srr 1 ⟨(28, .lst 3 (l.map Step.cs)) :: (8, VI 0) :: (N31 l), [(N0 s), N1]⟩ ?_
 refine ow2 ⟨(N32 l), [(N0 s), N1]⟩ (oln Step.cs l (.s 28) 3) ?_
 refine owl 1 [2, 4, 8, 28, 29, 30] ⟨(N33 l), [(N0 s), N1]⟩ ?_
 refine EL.block ?_
 refine EL.loopN (fun mM xX => ∃ (k : Nat) (c : Syn) (n : Int), mM = l.length - k ∧ (k ≤ l.length ∧ l.length ≤ 200 ∧ s.checkE = 0 ∧ c.Ok ∧ 0 ≤ n ∧ n ≤ k ∧ s.runGo l 0 = c.runGo (l.drop k) n) ∧ xX = ⟨(N35 k l n), [(N34 c), N1]⟩) (y := (fun (k : Nat) (c : Syn) (n : Int) => (⟨(N35 k l n), [(N34 c), N1]⟩ : L3)) 0 s 0) [2, 4, 8, 28, 29, 30] [uf 0, uf 1] [] (by kernel_rfl) trivial ⟨0, s, 0, rfl, by have hc0 : s.checkE = 0 := ‹_›; refine ⟨by omega, by omega, hc0, Syn.check_0 hc0, by omega, by omega, by simp⟩, rfl⟩ ?_
 rintro _ _ ⟨k, c, n, rfl, hI8, rfl⟩
 obtain ⟨hk, hl2, hc0, hok, hn0, hn1, hs⟩ := hI8
 refine srl 1 [2, 4, 8, 28, 29, 30, 31] ⟨(31, .v (.bool (decide ((k : Int) < (List.length l : Int))))) :: (N35 k l n), [(N34 c), N1]⟩ ?_
 refine EL.seq ?_
 cases h9 : (decide ((k : Int) < (List.length l : Int)))
 have g9 := of_decide_eq_false h9
 have n9 : ¬ ((k) < (List.length l)) := by omega
 refine cnF ?_
 refine EL.exit ?_
 refine tX ?_
 refine tX ?_
 refine iH ?_
 refine tN ?_
 refine srl 5 [4, 5, 6] ⟨[(6, VI 0), (5, VI n), (4, .ref 1 5 0 0)], [(N34 c), (N34 c)]⟩ ?_
 refine EL.ret ?_
 refine rqe (.tup [(N39 c), VI n, VI 0]) ?_
 rotate_left
 have g9 := of_decide_eq_true h9
 have n9 : ((k) < (List.length l)) := by omega
 refine cnT ?_
 refine skn ?_
 refine EL.seq ?_
 refine EL.block ?_
 refine EL.sreg ?_
 obtain ⟨a10, ha10⟩ : ∃ y, l[((k : Int) : Int).toNat]? = some y := idx_ex ⟨by omega, by omega⟩
 have iha10 : l[k]? = some a10 := by simpa using ha10
 have dha10 := drop_get iha10
 refine ow2 ⟨(N36 a10 k l n), [(N34 c), N1]⟩ (oid Step.cs l (.s 28) (.s 30) 3 .i64 (k : Int) a10 (by omega) ha10) ?_
 refine owl 3 [2, 4, 8, 10, 28, 29, 30] ⟨(10, .ref 2 3 0 0) :: (N35 k l n), [(N34 c), N1, (N37 a10)]⟩ ?_
 refine srr 2 ⟨(N40 a10 c k l n), [(N34 c), N1, (N37 a10)]⟩ ?_
 refine owg [(N39 c), (N38 a10)] ⟨(N42 a10 c k l n), [(N34 c), N1, (N37 a10)]⟩ (step_fn c a10 (by first | assumption | exact Syn.check_0 ‹_›)) ?_
 refine owl 6 [2, 4, 8, 11, 12, 28, 29, 30] ⟨(N45 a10 c k l n), (N44 a10 c)⟩ ?_
 refine srl 2 [2, 4, 8, 11, 28, 29, 30, 41] ⟨(41, .v (.bool (((N52 a10 c).2) == 0))) :: (11, .ref 3 5 0 0) :: (N35 k l n), (N44 a10 c)⟩ ?_
 cases h11 : (((c.stepP a10.kind a10.n a10.data).2) == 0)
 have g11 := bqF h11
 refine cnF ?_
 refine EL.skip ?_
 refine iN ?_
 refine tN ?_
 refine EL.reg0 ?_
 refine owr 2 ⟨(30, VI (IntKind.i64.wrap ((k : Int) + 1))) :: (45, VI (IntKind.i64.wrap ((k : Int) + 1))) :: (N50 l n), (N44 a10 c)⟩ ?_
 have e14 := wr64 (n := (k : Int) + 1) (by omega)
 rw [e14]
 refine owe 0 ⟨(N51 k l n), (N44 a10 c)⟩ ?_
 refine tN ?_
 refine rE (live := [2, 4, 8, 28, 29, 30]) (src := [uf 0, uf 1]) (es := []) (y := (fun (k : Nat) (c : Syn) (n : Int) => (⟨(N35 k l n), [(N34 c), N1]⟩ : L3)) (k + 1) c n) ?_ trivial ?_ ⟨(k + 1), c, n, rfl, ?_, rfl⟩
 kernel_rfl
 omega
 focus (first | (refine ⟨by omega, by omega, hc0, Syn.step_ok hok ‹_›, by omega, by omega, ?_⟩; rw [hs]; simp [Syn.runGo, *]; done) | (refine ⟨by omega, by omega, hc0, hok, by omega, by omega, ?_⟩; rw [hs]; simp [Syn.runGo, *]; done))
 have g11 := bqT h11
 refine cnT ?_
 refine srl 2 [2, 4, 8, 28, 29, 30] ⟨(N35 k l n), (N46 a10 c)⟩ ?_
 refine EL.reg0 ?_
 refine owr 3 ⟨(8, VI (IntKind.i64.wrap (n + 1))) :: (44, VI (IntKind.i64.wrap (n + 1))) :: (N47 k l n), (N46 a10 c)⟩ ?_
 have e12 := wr64 (n := n + 1) (by omega)
 rw [e12]
 refine owe 0 ⟨(8, VI (n + 1)) :: (44, VI (n + 1)) :: (N47 k l n), (N46 a10 c)⟩ ?_
 refine iN ?_
 refine tN ?_
 refine EL.reg0 ?_
 refine owr 2 ⟨(30, VI (IntKind.i64.wrap ((k : Int) + 1))) :: (45, VI (IntKind.i64.wrap ((k : Int) + 1))) :: (N48 l n), (N46 a10 c)⟩ ?_
 have e13 := wr64 (n := (k : Int) + 1) (by omega)
 rw [e13]
 refine owe 0 ⟨(N49 k l n), (N46 a10 c)⟩ ?_
 refine tN ?_
 refine rE (live := [2, 4, 8, 28, 29, 30]) (src := [uf 0, uf 1]) (es := []) (y := (fun (k : Nat) (c : Syn) (n : Int) => (⟨(N35 k l n), [(N34 c), N1]⟩ : L3)) (k + 1) ((c.stepP a10.kind a10.n a10.data).1) (n + 1)) ?_ trivial ?_ ⟨(k + 1), ((c.stepP a10.kind a10.n a10.data).1), (n + 1), rfl, ?_, rfl⟩
 kernel_rfl
 omega
 focus (first | (refine ⟨by omega, by omega, hc0, Syn.step_ok hok ‹_›, by omega, by omega, ?_⟩; rw [hs]; simp [Syn.runGo, *]; done) | (refine ⟨by omega, by omega, hc0, hok, by omega, by omega, ?_⟩; rw [hs]; simp [Syn.runGo, *]; done))
 have g7 := bnT h7
 refine cnT ?_
 refine srl 5 [4, 5, 6] ⟨(N29 s), [(N0 s), N1]⟩ ?_
 refine rtr ?_
 refine rqa (.tup [N18, VI 0, VI s.checkE]) (Ale.tup (aT (aE 1 (aR (aE 5 (aE 8 (aE 6 (.nil)))))) (aR (aR .nil)))) ?_
 rotate_left
 all_goals (first | (rw [Syn.runP_n ‹_›]; rfl) | (rw [Syn.runP_2 ‹_› (by omega)]; rfl) | (rw [Syn.runP_0 hc0 (by omega), hs, List.drop_eq_nil_of_le (by omega)]; rfl))
end Go.Proofs.YtligepciannclaaDoor
