/- What the functions of package ship answer. No condition. -/
import Derived.Test.YthdcanpbgaaneaaPAc
import Derived.Test.YthdcanpbgaaneaaPAvDel
import Derived.Test.YthdcanpbgaaneaaPApi
set_option maxRecDepth 100000
set_option linter.unusedVariables false
set_option linter.unusedSimpArgs false
namespace Go.Proofs.Ythdcanpbgaaneaa
@[ext] structure Ship where
  first : List ByteArray
  second : List ByteArray
  log : List Record
  sent : Int
  applied : Int
  known : Int
  there : List Int
  back : List Int
abbrev Record.cs (x : Record) : List AV := [VI x.block, .v (.string x.data)]
abbrev Act.cs (x : Act) : List AV := [VI x.kind, VI x.n, .v (.string x.data)]
abbrev saq0 (lo : Int) (n : Int) (hi : Int) : LS := [(8, VI lo), (7, VI n), (0, VI n), (1, VI lo), (2, VI hi)]
theorem within_fn (n : Int) (lo : Int) (hi : Int) : Fn Try.prog 31 [VI n, VI lo, VI hi] (.v (.bool (wi n lo hi))) := by
  refine fn_walkW F31_ok (of_decide_eq_true (by kernel_rfl)) ?_
  refine EL.sreg ?_
  refine OW.last 1 [0, 1, 2] (x' := ⟨[(0, VI n), (1, VI lo), (2, VI hi)], []⟩) (by kernel_rfl) (by kernel_rfl) ?_
  refine EL.sreg ?_
  refine OW.run 4 (x' := ⟨(10, .v (.bool (decide (n ≥ lo)))) :: (9, .v (.bool (decide (n ≥ lo)))) :: (saq0 lo n hi), []⟩) (by kernel_rfl) ?_
  rcases Bool.eq_false_or_eq_true (decide (n ≥ lo)) with h1 | h1
  rw [h1]
  have g1 : (n ≥ lo) := of_decide_eq_true h1
  refine OW.last 5 [6] (x' := ⟨[(6, .v (.bool (decide (n ≤ hi))))], []⟩) (by kernel_rfl) (by kernel_rfl) ?_
  refine EL.ret ?_
  refine ⟨.inr rfl, .v (.bool (decide (n ≤ hi))), by kernel_rfl, Ale.of_eq ?_⟩
  focus ((refine congrArg (fun b => AV.v (Value.bool b)) ?_; rw [Bool.eq_iff_iff]; simp [wi]; try omega))
  rw [h1]
  have g1 : ¬ (n ≥ lo) := of_decide_eq_false h1
  refine OW.last 5 [6] (x' := ⟨[(6, .v (.bool false))], []⟩) (by kernel_rfl) (by kernel_rfl) ?_
  refine EL.ret ?_
  refine ⟨.inr rfl, .v (.bool false), by kernel_rfl, Ale.of_eq ?_⟩
  focus ((refine congrArg (fun b => AV.v (Value.bool b)) ?_; rw [Bool.eq_iff_iff]; simp [wi]; try omega))
theorem long_fn (s : ByteArray) : Fn Try.prog 37 [.v (.string s)] (.v (.bool (decide (s.size > 64)))) := by
  refine fn_walkW F37_ok (of_decide_eq_true (by kernel_rfl)) ?_
  refine EL.sreg ?_
  refine OW.last 1 [0] (x' := ⟨[(0, .v (.string s))], []⟩) (by kernel_rfl) (by kernel_rfl) ?_
  refine EL.sreg ?_
  refine OW.last 4 [2] (x' := ⟨[(2, .v (.bool (decide ((ByteArray.size s : Int) > 64))))], []⟩) (by kernel_rfl) (by kernel_rfl) ?_
  refine EL.ret ?_
  refine ⟨.inr rfl, .v (.bool (decide ((ByteArray.size s : Int) > 64))), by kernel_rfl, Ale.of_eq ?_⟩
  focus ((refine congrArg (fun b => AV.v (Value.bool b)) ?_; rw [decide_eq_decide]; omega))
abbrev saq1 (xs : List Int) : LS := [(4, .anyb), (3, .lst 1 (xs.map cI)), (0, .lst 1 (xs.map cI))]
abbrev saq2 (xs : List Int) : LS := [(4, .v (.bool false)), (3, .lst 1 (xs.map cI)), (0, .lst 1 (xs.map cI))]
abbrev saq3 (xs : List Int) : LS := [(6, .lst 1 (xs.map cI)), (5, .own 0 1 0 0), (0, .lst 1 (xs.map cI))]
theorem cloneI_fo (xs : List Int) (hx : xs.length ≤ 1000000) : Fo Try.prog 50 [.lst 1 (xs.map cI)] 1 (xs.map cI) := by
  refine fo_of ?_
  rw [List.length_map]
  refine fi_walkW (m := []) (m' := [some ⟨1, (xs.map cI)⟩]) F50_ok (of_decide_eq_true (by kernel_rfl)) ?_
  refine EL.sreg ?_
  refine OW.last 1 [0] (x' := ⟨[(0, .lst 1 (xs.map cI))], []⟩) (by kernel_rfl) (by kernel_rfl) ?_
  refine EL.seqG [0] (fun y => (y = ⟨[(0, .lst 1 (xs.map cI))], []⟩ ∧ ((List.isEmpty xs = true) ∨ (List.isEmpty xs = false)))) ?_ ?_
  intro IHJ1 HJ1
  refine EL.sreg ?_
  refine OW.run 1 (x' := ⟨[(3, .lst 1 (xs.map cI)), (0, .lst 1 (xs.map cI))], []⟩) (by kernel_rfl) ?_
  rcases Bool.eq_false_or_eq_true (List.isEmpty xs) with h2 | h2
  try rw [h2]
  refine OW.ope (v := .anyb) (u := []) (acc := []) (x' := ⟨(saq1 xs), []⟩) (by kernel_rfl) (opE_isn_any cI xs (.s 3) 1 false (by kernel_rfl) (by kernel_rfl) (.inl rfl) h2) (by kernel_rfl) ?_
  refine OW.last 0 [0, 4] (x' := ⟨[(4, .anyb), (0, .lst 1 (xs.map cI))], []⟩) (by kernel_rfl) (by kernel_rfl) ?_
  refine EL.condAny (by kernel_rfl) ?_ ?_
  refine EL.sreg ?_
  refine OW.last 1 [2] (x' := ⟨[(2, .emp)], []⟩) (by kernel_rfl) (by kernel_rfl) ?_
  refine EL.ret ?_
  refine thenL_ret ?_
  refine ⟨.inr rfl, ⟨[(2, .own 0 1 0 (List.length xs))], [some ⟨1, (xs.map cI)⟩]⟩, norm_le (live := [2]) (src := [.new 1]) (es := [(2, 0)]) (by rw [List.isEmpty_iff.1 h2]; kernel_rfl) trivial, by kernel_rfl, rfl⟩
  refine EL.skip ?_
  exact thenL_norm (HJ1.get ⟨by kernel_rfl, (Or.inl (by first | exact g2 | exact h2 | simp_all | omega))⟩)
  try rw [h2]
  refine OW.ope (v := .v (.bool false)) (u := []) (acc := []) (x' := ⟨(saq2 xs), []⟩) (by kernel_rfl) (opE_isn_ne cI xs (.s 3) 1 false (by kernel_rfl) (by kernel_rfl) (.inl rfl) h2) (by kernel_rfl) ?_
  refine OW.last 0 [0, 4] (x' := ⟨[(4, .v (.bool false)), (0, .lst 1 (xs.map cI))], []⟩) (by kernel_rfl) (by kernel_rfl) ?_
  refine EL.condF (by kernel_rfl) ?_
  refine EL.skip ?_
  exact thenL_norm (HJ1.get ⟨by kernel_rfl, (Or.inr (by first | exact g2 | exact h2 | simp_all | omega))⟩)
  rintro _ (⟨rfl, hD3⟩)
  refine EL.sreg ?_
  refine OW.run 2 (x' := ⟨(saq3 xs), [some ⟨1, []⟩]⟩) (by kernel_rfl) ?_
  refine OW.ope (v := .own 1 1 0 (List.length xs)) (u := [(0, none), (1, some ⟨1, (xs.map cI)⟩)]) (acc := [0]) (x' := ⟨(7, .own 1 1 0 (List.length xs)) :: (saq3 xs), [none, some ⟨1, (xs.map cI)⟩]⟩) (by kernel_rfl) (opE_appO cI ([] : List Int) xs (.s 5) (.s 6) 1 8 0 (.lst 1 (xs.map cI)) _ (by kernel_rfl) (by kernel_rfl) rfl (by kernel_rfl) rfl .lst (by simp; omega)) (by kernel_rfl) ?_
  refine OW.last 1 [2] (x' := ⟨[(2, .own 1 1 0 (List.length xs))], [none, some ⟨1, (xs.map cI)⟩]⟩) (by kernel_rfl) (by kernel_rfl) ?_
  refine EL.ret ?_
  refine ⟨.inr rfl, ⟨[(2, .own 0 1 0 (List.length xs))], [some ⟨1, (xs.map cI)⟩]⟩, norm_le (live := [2]) (src := [.old 1 true]) (es := []) (by kernel_rfl) ⟨pucI xs (by kernel_rfl), trivial⟩, by kernel_rfl, rfl⟩
abbrev saq4 (xs : List ByteArray) : LS := [(4, .anyb), (3, .lst 1 (xs.map cZ)), (0, .lst 1 (xs.map cZ))]
abbrev saq5 (xs : List ByteArray) : LS := [(4, .v (.bool false)), (3, .lst 1 (xs.map cZ)), (0, .lst 1 (xs.map cZ))]
abbrev saq6 (xs : List ByteArray) : LS := [(6, .lst 1 (xs.map cZ)), (5, .own 0 1 0 0), (0, .lst 1 (xs.map cZ))]
theorem cloneZ_fo (xs : List ByteArray) (hx : xs.length ≤ 1000000) : Fo Try.prog 61 [.lst 1 (xs.map cZ)] 1 (xs.map cZ) := by
  refine fo_of ?_
  rw [List.length_map]
  refine fi_walkW (m := []) (m' := [some ⟨1, (xs.map cZ)⟩]) F61_ok (of_decide_eq_true (by kernel_rfl)) ?_
  refine EL.sreg ?_
  refine OW.last 1 [0] (x' := ⟨[(0, .lst 1 (xs.map cZ))], []⟩) (by kernel_rfl) (by kernel_rfl) ?_
  refine EL.seqG [0] (fun y => (y = ⟨[(0, .lst 1 (xs.map cZ))], []⟩ ∧ ((List.isEmpty xs = true) ∨ (List.isEmpty xs = false)))) ?_ ?_
  intro IHJ1 HJ1
  refine EL.sreg ?_
  refine OW.run 1 (x' := ⟨[(3, .lst 1 (xs.map cZ)), (0, .lst 1 (xs.map cZ))], []⟩) (by kernel_rfl) ?_
  rcases Bool.eq_false_or_eq_true (List.isEmpty xs) with h2 | h2
  try rw [h2]
  refine OW.ope (v := .anyb) (u := []) (acc := []) (x' := ⟨(saq4 xs), []⟩) (by kernel_rfl) (opE_isn_any cZ xs (.s 3) 1 false (by kernel_rfl) (by kernel_rfl) (.inl rfl) h2) (by kernel_rfl) ?_
  refine OW.last 0 [0, 4] (x' := ⟨[(4, .anyb), (0, .lst 1 (xs.map cZ))], []⟩) (by kernel_rfl) (by kernel_rfl) ?_
  refine EL.condAny (by kernel_rfl) ?_ ?_
  refine EL.sreg ?_
  refine OW.last 1 [2] (x' := ⟨[(2, .emp)], []⟩) (by kernel_rfl) (by kernel_rfl) ?_
  refine EL.ret ?_
  refine thenL_ret ?_
  refine ⟨.inr rfl, ⟨[(2, .own 0 1 0 (List.length xs))], [some ⟨1, (xs.map cZ)⟩]⟩, norm_le (live := [2]) (src := [.new 1]) (es := [(2, 0)]) (by rw [List.isEmpty_iff.1 h2]; kernel_rfl) trivial, by kernel_rfl, rfl⟩
  refine EL.skip ?_
  exact thenL_norm (HJ1.get ⟨by kernel_rfl, (Or.inl (by first | exact g2 | exact h2 | simp_all | omega))⟩)
  try rw [h2]
  refine OW.ope (v := .v (.bool false)) (u := []) (acc := []) (x' := ⟨(saq5 xs), []⟩) (by kernel_rfl) (opE_isn_ne cZ xs (.s 3) 1 false (by kernel_rfl) (by kernel_rfl) (.inl rfl) h2) (by kernel_rfl) ?_
  refine OW.last 0 [0, 4] (x' := ⟨[(4, .v (.bool false)), (0, .lst 1 (xs.map cZ))], []⟩) (by kernel_rfl) (by kernel_rfl) ?_
  refine EL.condF (by kernel_rfl) ?_
  refine EL.skip ?_
  exact thenL_norm (HJ1.get ⟨by kernel_rfl, (Or.inr (by first | exact g2 | exact h2 | simp_all | omega))⟩)
  rintro _ (⟨rfl, hD3⟩)
  refine EL.sreg ?_
  refine OW.run 2 (x' := ⟨(saq6 xs), [some ⟨1, []⟩]⟩) (by kernel_rfl) ?_
  refine OW.ope (v := .own 1 1 0 (List.length xs)) (u := [(0, none), (1, some ⟨1, (xs.map cZ)⟩)]) (acc := [0]) (x' := ⟨(7, .own 1 1 0 (List.length xs)) :: (saq6 xs), [none, some ⟨1, (xs.map cZ)⟩]⟩) (by kernel_rfl) (opE_appO cZ ([] : List ByteArray) xs (.s 5) (.s 6) 1 16 0 (.lst 1 (xs.map cZ)) _ (by kernel_rfl) (by kernel_rfl) rfl (by kernel_rfl) rfl .lst (by simp; omega)) (by kernel_rfl) ?_
  refine OW.last 1 [2] (x' := ⟨[(2, .own 1 1 0 (List.length xs))], [none, some ⟨1, (xs.map cZ)⟩]⟩) (by kernel_rfl) (by kernel_rfl) ?_
  refine EL.ret ?_
  refine ⟨.inr rfl, ⟨[(2, .own 0 1 0 (List.length xs))], [some ⟨1, (xs.map cZ)⟩]⟩, norm_le (live := [2]) (src := [.old 1 true]) (es := []) (by kernel_rfl) ⟨pucZ xs (by kernel_rfl), trivial⟩, by kernel_rfl, rfl⟩
abbrev saq7 (xs : List Record) : LS := [(4, .anyb), (3, .lst 2 (xs.map Record.cs)), (0, .lst 2 (xs.map Record.cs))]
abbrev saq8 (xs : List Record) : LS := [(4, .v (.bool false)), (3, .lst 2 (xs.map Record.cs)), (0, .lst 2 (xs.map Record.cs))]
abbrev saq9 (xs : List Record) : LS := [(6, .lst 2 (xs.map Record.cs)), (5, .own 0 2 0 0), (0, .lst 2 (xs.map Record.cs))]
theorem cloneR_fo (xs : List Record) (hx : xs.length ≤ 1000000) : Fo Try.prog 62 [.lst 2 (xs.map Record.cs)] 2 (xs.map Record.cs) := by
  refine fo_of ?_
  rw [List.length_map]
  refine fi_walkW (m := []) (m' := [some ⟨2, (xs.map Record.cs)⟩]) F62_ok (of_decide_eq_true (by kernel_rfl)) ?_
  refine EL.sreg ?_
  refine OW.last 1 [0] (x' := ⟨[(0, .lst 2 (xs.map Record.cs))], []⟩) (by kernel_rfl) (by kernel_rfl) ?_
  refine EL.seqG [0] (fun y => (y = ⟨[(0, .lst 2 (xs.map Record.cs))], []⟩ ∧ ((List.isEmpty xs = true) ∨ (List.isEmpty xs = false)))) ?_ ?_
  intro IHJ1 HJ1
  refine EL.sreg ?_
  refine OW.run 1 (x' := ⟨[(3, .lst 2 (xs.map Record.cs)), (0, .lst 2 (xs.map Record.cs))], []⟩) (by kernel_rfl) ?_
  rcases Bool.eq_false_or_eq_true (List.isEmpty xs) with h2 | h2
  try rw [h2]
  refine OW.ope (v := .anyb) (u := []) (acc := []) (x' := ⟨(saq7 xs), []⟩) (by kernel_rfl) (opE_isn_any Record.cs xs (.s 3) 2 false (by kernel_rfl) (by kernel_rfl) (.inl rfl) h2) (by kernel_rfl) ?_
  refine OW.last 0 [0, 4] (x' := ⟨[(4, .anyb), (0, .lst 2 (xs.map Record.cs))], []⟩) (by kernel_rfl) (by kernel_rfl) ?_
  refine EL.condAny (by kernel_rfl) ?_ ?_
  refine EL.sreg ?_
  refine OW.last 1 [2] (x' := ⟨[(2, .emp)], []⟩) (by kernel_rfl) (by kernel_rfl) ?_
  refine EL.ret ?_
  refine thenL_ret ?_
  refine ⟨.inr rfl, ⟨[(2, .own 0 2 0 (List.length xs))], [some ⟨2, (xs.map Record.cs)⟩]⟩, norm_le (live := [2]) (src := [.new 2]) (es := [(2, 0)]) (by rw [List.isEmpty_iff.1 h2]; kernel_rfl) trivial, by kernel_rfl, rfl⟩
  refine EL.skip ?_
  exact thenL_norm (HJ1.get ⟨by kernel_rfl, (Or.inl (by first | exact g2 | exact h2 | simp_all | omega))⟩)
  try rw [h2]
  refine OW.ope (v := .v (.bool false)) (u := []) (acc := []) (x' := ⟨(saq8 xs), []⟩) (by kernel_rfl) (opE_isn_ne Record.cs xs (.s 3) 2 false (by kernel_rfl) (by kernel_rfl) (.inl rfl) h2) (by kernel_rfl) ?_
  refine OW.last 0 [0, 4] (x' := ⟨[(4, .v (.bool false)), (0, .lst 2 (xs.map Record.cs))], []⟩) (by kernel_rfl) (by kernel_rfl) ?_
  refine EL.condF (by kernel_rfl) ?_
  refine EL.skip ?_
  exact thenL_norm (HJ1.get ⟨by kernel_rfl, (Or.inr (by first | exact g2 | exact h2 | simp_all | omega))⟩)
  rintro _ (⟨rfl, hD3⟩)
  refine EL.sreg ?_
  refine OW.run 2 (x' := ⟨(saq9 xs), [some ⟨2, []⟩]⟩) (by kernel_rfl) ?_
  refine OW.ope (v := .own 1 2 0 (List.length xs)) (u := [(0, none), (1, some ⟨2, (xs.map Record.cs)⟩)]) (acc := [0]) (x' := ⟨(7, .own 1 2 0 (List.length xs)) :: (saq9 xs), [none, some ⟨2, (xs.map Record.cs)⟩]⟩) (by kernel_rfl) (opE_appO Record.cs ([] : List Record) xs (.s 5) (.s 6) 2 24 0 (.lst 2 (xs.map Record.cs)) _ (by kernel_rfl) (by kernel_rfl) rfl (by kernel_rfl) rfl .lst (by simp; omega)) (by kernel_rfl) ?_
  refine OW.last 1 [2] (x' := ⟨[(2, .own 1 2 0 (List.length xs))], [none, some ⟨2, (xs.map Record.cs)⟩]⟩) (by kernel_rfl) (by kernel_rfl) ?_
  refine EL.ret ?_
  refine ⟨.inr rfl, ⟨[(2, .own 0 2 0 (List.length xs))], [some ⟨2, (xs.map Record.cs)⟩]⟩, norm_le (live := [2]) (src := [.old 1 true]) (es := []) (by kernel_rfl) ⟨pu 2 Record.cs xs (by kernel_rfl) (by intro y; kernel_rfl), trivial⟩, by kernel_rfl, rfl⟩
abbrev saq10 (s : Ship) : OB := some ⟨8, [[.lst 1 (s.first.map cZ), .lst 1 (s.second.map cZ), .lst 2 (s.log.map Record.cs), VI s.sent, VI s.applied, VI s.known, .lst 1 (s.there.map cI), .lst 1 (s.back.map cI)]]⟩
abbrev saq11 : OB := some ⟨8, [[.emp, .emp, .emp, VI 0, VI 0, VI 0, .emp, .emp]]⟩
abbrev saq12 (s : Ship) : LS := [(4, .lst 1 (s.first.map cZ)), (3, .ref 0 8 0 0), (2, .ref 1 8 0 0), (1, .ref 0 8 0 0)]
abbrev saq13 (s : Ship) : LS := (7, .lst 1 (s.second.map cZ)) :: (6, .ref 0 8 0 1) :: (5, .own 2 1 0 (List.length s.first)) :: (saq12 s)
abbrev saq14 (s : Ship) : LB := [(saq10 s), saq11, some ⟨1, (s.first.map cZ)⟩, some ⟨1, (s.second.map cZ)⟩]
abbrev saq15 (s : Ship) : LS := (10, .lst 2 (s.log.map Record.cs)) :: (9, .ref 0 8 0 2) :: (8, .own 3 1 0 (List.length s.second)) :: (saq13 s)
abbrev saq16 (s : Ship) : LB := [(saq10 s), saq11, some ⟨1, (s.first.map cZ)⟩, some ⟨1, (s.second.map cZ)⟩, some ⟨2, (s.log.map Record.cs)⟩]
abbrev saq17 (s : Ship) : OB := some ⟨8, [[.own 2 1 0 (List.length s.first), .own 3 1 0 (List.length s.second), .own 4 2 0 (List.length s.log), VI s.sent, VI s.applied, VI s.known, .lst 1 (s.there.map cI), .lst 1 (s.back.map cI)]]⟩
abbrev saq18 (s : Ship) : LB := [(saq17 s), saq11, some ⟨1, (s.first.map cZ)⟩, some ⟨1, (s.second.map cZ)⟩, some ⟨2, (s.log.map Record.cs)⟩]
abbrev saq19 (s : Ship) : LS := [(16, .lst 1 (s.there.map cI)), (15, .ref 0 8 0 6), (2, .ref 1 8 0 0), (1, .ref 0 8 0 0)]
abbrev saq20 (s : Ship) : LB := [(saq17 s), saq11, some ⟨1, (s.first.map cZ)⟩, some ⟨1, (s.second.map cZ)⟩, some ⟨2, (s.log.map Record.cs)⟩, some ⟨1, (s.there.map cI)⟩]
abbrev saq21 (s : Ship) : LS := (19, .lst 1 (s.back.map cI)) :: (18, .ref 0 8 0 7) :: (17, .own 5 1 0 (List.length s.there)) :: (saq19 s)
abbrev saq22 (s : Ship) : LB := [(saq17 s), saq11, some ⟨1, (s.first.map cZ)⟩, some ⟨1, (s.second.map cZ)⟩, some ⟨2, (s.log.map Record.cs)⟩, some ⟨1, (s.there.map cI)⟩, some ⟨1, (s.back.map cI)⟩]
abbrev saq23 (s : Ship) : OB := some ⟨8, [[.own 2 1 0 (List.length s.first), .own 3 1 0 (List.length s.second), .own 4 2 0 (List.length s.log), VI s.sent, VI s.applied, VI s.known, .own 5 1 0 (List.length s.there), .own 6 1 0 (List.length s.back)]]⟩
abbrev saq24 (s : Ship) : LB := [(saq23 s), saq11, some ⟨1, (s.first.map cZ)⟩, some ⟨1, (s.second.map cZ)⟩, some ⟨2, (s.log.map Record.cs)⟩, some ⟨1, (s.there.map cI)⟩, some ⟨1, (s.back.map cI)⟩]
abbrev saq25 (s : Ship) : LB := [(saq23 s), (saq23 s), some ⟨1, (s.first.map cZ)⟩, some ⟨1, (s.second.map cZ)⟩, some ⟨2, (s.log.map Record.cs)⟩, some ⟨1, (s.there.map cI)⟩, some ⟨1, (s.back.map cI)⟩]
abbrev saq26 (s : Ship) : AV := .agg [.own 2 1 0 (List.length s.first), .own 3 1 0 (List.length s.second), .own 4 2 0 (List.length s.log), VI s.sent, VI s.applied, VI s.known, .own 5 1 0 (List.length s.there), .own 6 1 0 (List.length s.back)]
abbrev saq27 (s : Ship) : AV := .agg [.lst 1 (s.first.map cZ), .lst 1 (s.second.map cZ), .lst 2 (s.log.map Record.cs), VI s.sent, VI s.applied, VI s.known, .lst 1 (s.there.map cI), .lst 1 (s.back.map cI)]
theorem own_fn (s : Ship) (h1 : s.first.length ≤ 1000 ∧ s.second.length ≤ 1000 ∧ s.log.length ≤ 1000 ∧ s.there.length ≤ 1000 ∧ s.back.length ≤ 1000) : Fn Try.prog 42 [.agg [.lst 1 (s.first.map cZ), .lst 1 (s.second.map cZ), .lst 2 (s.log.map Record.cs), VI s.sent, VI s.applied, VI s.known, .lst 1 (s.there.map cI), .lst 1 (s.back.map cI)]] (.agg [.lst 1 (s.first.map cZ), .lst 1 (s.second.map cZ), .lst 2 (s.log.map Record.cs), VI s.sent, VI s.applied, VI s.known, .lst 1 (s.there.map cI), .lst 1 (s.back.map cI)]) := by
  refine fn_walkW F42_ok (of_decide_eq_true (by kernel_rfl)) ?_
  refine EL.sreg ?_
  refine OW.last 2 [1, 2] (x' := ⟨[(2, .ref 1 8 0 0), (1, .ref 0 8 0 0)], [(saq10 s), saq11]⟩) (by kernel_rfl) (by kernel_rfl) ?_
  refine EL.sdraw ?_
  refine DW.run 2 (x' := ⟨(saq12 s), [(saq10 s), saq11]⟩) (by kernel_rfl) ?_
  refine DW.fo (ar := [.lst 1 (s.first.map cZ)]) (fe := cZ) (xs := s.first) (x' := ⟨(5, .own 2 1 0 (List.length s.first)) :: (saq12 s), [(saq10 s), saq11, some ⟨1, (s.first.map cZ)⟩]⟩) (by kernel_rfl) (by kernel_rfl) F61_call (cloneZ_fo s.first (by omega)) (by intro y; kernel_rfl) (by kernel_rfl) (by kernel_rfl) ?_
  refine DW.run 2 (x' := ⟨(saq13 s), [(saq10 s), saq11, some ⟨1, (s.first.map cZ)⟩]⟩) (by kernel_rfl) ?_
  refine DW.fo (ar := [.lst 1 (s.second.map cZ)]) (fe := cZ) (xs := s.second) (x' := ⟨(8, .own 3 1 0 (List.length s.second)) :: (saq13 s), (saq14 s)⟩) (by kernel_rfl) (by kernel_rfl) F61_call (cloneZ_fo s.second (by omega)) (by intro y; kernel_rfl) (by kernel_rfl) (by kernel_rfl) ?_
  refine DW.run 2 (x' := ⟨(saq15 s), (saq14 s)⟩) (by kernel_rfl) ?_
  refine DW.fo (ar := [.lst 2 (s.log.map Record.cs)]) (fe := Record.cs) (xs := s.log) (x' := ⟨(11, .own 4 2 0 (List.length s.log)) :: (saq15 s), (saq16 s)⟩) (by kernel_rfl) (by kernel_rfl) F62_call (cloneR_fo s.log (by omega)) (by intro y; kernel_rfl) (by kernel_rfl) (by kernel_rfl) ?_
  refine DW.last 6 [1, 2] (x' := ⟨[(2, .ref 1 8 0 0), (1, .ref 0 8 0 0)], (saq18 s)⟩) (by kernel_rfl) (by kernel_rfl) ?_
  refine EL.sdraw ?_
  refine DW.run 2 (x' := ⟨(saq19 s), (saq18 s)⟩) (by kernel_rfl) ?_
  refine DW.fo (ar := [.lst 1 (s.there.map cI)]) (fe := cI) (xs := s.there) (x' := ⟨(17, .own 5 1 0 (List.length s.there)) :: (saq19 s), (saq20 s)⟩) (by kernel_rfl) (by kernel_rfl) F50_call (cloneI_fo s.there (by omega)) (by intro y; kernel_rfl) (by kernel_rfl) (by kernel_rfl) ?_
  refine DW.run 2 (x' := ⟨(saq21 s), (saq20 s)⟩) (by kernel_rfl) ?_
  refine DW.fo (ar := [.lst 1 (s.back.map cI)]) (fe := cI) (xs := s.back) (x' := ⟨(20, .own 6 1 0 (List.length s.back)) :: (saq21 s), (saq22 s)⟩) (by kernel_rfl) (by kernel_rfl) F50_call (cloneI_fo s.back (by omega)) (by intro y; kernel_rfl) (by kernel_rfl) (by kernel_rfl) ?_
  refine DW.last 4 [1, 2] (x' := ⟨[(2, .ref 1 8 0 0), (1, .ref 0 8 0 0)], (saq24 s)⟩) (by kernel_rfl) (by kernel_rfl) ?_
  refine EL.sreg ?_
  refine OW.last 2 [2] (x' := ⟨[(2, .ref 1 8 0 0)], (saq25 s)⟩) (by kernel_rfl) (by kernel_rfl) ?_
  refine EL.ret ?_
  refine ⟨.inr rfl, (saq27 s), run_snap (r0 := (saq26 s)) (by kernel_rfl) (snapA_agg (snapL_cons (snap1_map cZ s.first (by kernel_rfl) (by intro y; kernel_rfl) (by simp)) (snapL_cons (snap1_map cZ s.second (by kernel_rfl) (by intro y; kernel_rfl) (by simp)) (snapL_cons (snap1_map Record.cs s.log (by kernel_rfl) (by intro y; kernel_rfl) (by simp)) (snapL_cons (by kernel_rfl) (snapL_cons (by kernel_rfl) (snapL_cons (by kernel_rfl) (snapL_cons (snap1_map cI s.there (by kernel_rfl) (by intro y; kernel_rfl) (by simp)) (snapL_cons (snap1_map cI s.back (by kernel_rfl) (by intro y; kernel_rfl) (by simp)) (rfl)))))))))), Ale.of_eq ?_⟩
  focus (rfl)
abbrev saq28 (n : Int) (i : Int) : LS := [(5, VI n), (4, VI i), (0, VI i), (1, .pim [VI n] 0)]
theorem chk1_fn (i : Int) (n : Int) : Fn Try.prog 40 [VI i, .pim [VI n] 0] (.v (.bool (!(wi i 1 n)))) := by
  refine fn_walkW F40_ok (of_decide_eq_true (by kernel_rfl)) ?_
  refine EL.sreg ?_
  refine OW.last 1 [0, 1] (x' := ⟨[(0, VI i), (1, .pim [VI n] 0)], []⟩) (by kernel_rfl) (by kernel_rfl) ?_
  refine EL.sreg ?_
  refine OW.run 2 (x' := ⟨(saq28 n i), []⟩) (by kernel_rfl) ?_
  refine OW.fn (ar := [VI i, VI 1, VI n]) (x' := ⟨(6, .v (.bool (wi i 1 n))) :: (saq28 n i), []⟩) (by kernel_rfl) (by kernel_rfl) F31_call (within_fn i 1 n) (by kernel_rfl) (by kernel_rfl) ?_
  refine OW.last 2 [3] (x' := ⟨[(3, .v (.bool (!(wi i 1 n))))], []⟩) (by kernel_rfl) (by kernel_rfl) ?_
  refine EL.ret ?_
  refine ⟨.inr rfl, .v (.bool (!(wi i 1 n))), by kernel_rfl, Ale.of_eq ?_⟩
  focus (rfl)
abbrev saq29 (s : Ship) (i : Int) : LS := [(6, VI s.applied), (5, .pim [.lst 1 (s.first.map cZ), .lst 1 (s.second.map cZ), .lst 2 (s.log.map Record.cs), VI s.sent, VI s.applied, VI s.known, .lst 1 (s.there.map cI), .lst 1 (s.back.map cI)] 4), (4, VI i), (0, VI i), (1, .pim [.lst 1 (s.first.map cZ), .lst 1 (s.second.map cZ), .lst 2 (s.log.map Record.cs), VI s.sent, VI s.applied, VI s.known, .lst 1 (s.there.map cI), .lst 1 (s.back.map cI)] 0)]
theorem chk2_fn (i : Int) (s : Ship) : Fn Try.prog 41 [VI i, .pim [.lst 1 (s.first.map cZ), .lst 1 (s.second.map cZ), .lst 2 (s.log.map Record.cs), VI s.sent, VI s.applied, VI s.known, .lst 1 (s.there.map cI), .lst 1 (s.back.map cI)] 0] (.v (.bool (!(wi i 0 s.applied)))) := by
  refine fn_walkW F41_ok (of_decide_eq_true (by kernel_rfl)) ?_
  refine EL.sreg ?_
  refine OW.last 1 [0, 1] (x' := ⟨[(0, VI i), (1, .pim [.lst 1 (s.first.map cZ), .lst 1 (s.second.map cZ), .lst 2 (s.log.map Record.cs), VI s.sent, VI s.applied, VI s.known, .lst 1 (s.there.map cI), .lst 1 (s.back.map cI)] 0)], []⟩) (by kernel_rfl) (by kernel_rfl) ?_
  refine EL.sreg ?_
  refine OW.run 3 (x' := ⟨(saq29 s i), []⟩) (by kernel_rfl) ?_
  refine OW.fn (ar := [VI i, VI 0, VI s.applied]) (x' := ⟨(7, .v (.bool (wi i 0 s.applied))) :: (saq29 s i), []⟩) (by kernel_rfl) (by kernel_rfl) F31_call (within_fn i 0 s.applied) (by kernel_rfl) (by kernel_rfl) ?_
  refine OW.last 2 [3] (x' := ⟨[(3, .v (.bool (!(wi i 0 s.applied))))], []⟩) (by kernel_rfl) (by kernel_rfl) ?_
  refine EL.ret ?_
  refine ⟨.inr rfl, .v (.bool (!(wi i 0 s.applied))), by kernel_rfl, Ale.of_eq ?_⟩
  focus (rfl)
abbrev saq30 (xs : List Int) (n : Int) : LS := [(6, .lst 1 (xs.map cI)), (0, .lst 1 (xs.map cI)), (1, .fn 40 [.pim [VI n] 0])]
abbrev saq31 (xs : List Int) (n : Int) : LS := [(8, VI 0), (7, VI (List.length xs : Int)), (0, .lst 1 (xs.map cI)), (1, .fn 40 [.pim [VI n] 0])]
abbrev saq32 (xs : List Int) (n : Int) (k : Nat) : LS := [(0, .lst 1 (xs.map cI)), (1, .fn 40 [.pim [VI n] 0]), (7, VI (List.length xs : Int)), (8, VI (k : Int))]
abbrev saq33 (k : Nat) (xs : List Int) (n : Int) : LS := (13, VI (k : Int)) :: (12, .lst 1 (xs.map cI)) :: (11, .fn 40 [.pim [VI n] 0]) :: (5, VI (k : Int)) :: (saq32 xs n k)
abbrev saq34 (k : Nat) (xs : List Int) (n : Int) : LS := [(16, .v (.bool false)), (5, VI (k : Int)), (0, .lst 1 (xs.map cI)), (1, .fn 40 [.pim [VI n] 0]), (7, VI (List.length xs : Int))]
abbrev saq35 (k : Nat) (xs : List Int) (n : Int) : LS := (8, VI ((k : Int) + 1)) :: (18, VI ((k : Int) + 1)) :: (saq34 k xs n)
theorem idx_there (xs : List Int) (n : Int) (hx : xs.length ≤ 9223372036854775807) : Fn Try.prog 60 [.lst 1 (xs.map cI), .fn 40 [.pim [VI n] 0]] (VI (idxGo (fun i => !wi i 1 n) xs 0)) := by
  refine fn_walkW F60_ok (of_decide_eq_true (by kernel_rfl)) ?_
  refine EL.sreg ?_
  refine OW.last 1 [0, 1] (x' := ⟨[(0, .lst 1 (xs.map cI)), (1, .fn 40 [.pim [VI n] 0])], []⟩) (by kernel_rfl) (by kernel_rfl) ?_
  refine EL.seq ?_
  refine EL.sreg ?_
  refine OW.run 1 (x' := ⟨(saq30 xs n), []⟩) (by kernel_rfl) ?_
  refine OW.ope (v := VI (List.length xs : Int)) (u := []) (acc := []) (x' := ⟨(7, VI (List.length xs : Int)) :: (saq30 xs n), []⟩) (by kernel_rfl) (opE_len cI xs (.s 6) 1 (by kernel_rfl) (by kernel_rfl) (.inl rfl)) (by kernel_rfl) ?_
  refine OW.last 1 [0, 1, 7, 8] (x' := ⟨(saq31 xs n), []⟩) (by kernel_rfl) (by kernel_rfl) ?_
  refine EL.block ?_
  refine EL.loopN (fun m x => ∃ (k : Nat), m = xs.length - k ∧ (k ≤ xs.length ∧ idxGo (fun i => !wi i 1 n) xs 0 = idxGo (fun i => !wi i 1 n) (xs.drop k) k) ∧ x = ⟨(saq32 xs n k), []⟩) (y := (fun (k : Nat) => (⟨(saq32 xs n k), []⟩ : L3)) 0) [0, 1, 7, 8] [] [] (by kernel_rfl) trivial ⟨0, rfl, by simp, rfl⟩ ?_
  rintro _ _ ⟨k, rfl, hI1, rfl⟩
  obtain ⟨hk, hs⟩ := hI1
  refine EL.sreg ?_
  refine OW.last 1 [0, 1, 7, 8, 9] (x' := ⟨(9, .v (.bool (decide ((k : Int) < (List.length xs : Int))))) :: (saq32 xs n k), []⟩) (by kernel_rfl) (by kernel_rfl) ?_
  refine EL.seq ?_
  rcases Bool.eq_false_or_eq_true (decide ((k : Int) < (List.length xs : Int))) with h2 | h2
  rw [h2]
  have g2 : ((k : Int) < (List.length xs : Int)) := of_decide_eq_true h2
  have n2 : ((k) < (List.length xs)) := by omega
  refine EL.condT (by kernel_rfl) ?_
  refine EL.skip ?_
  refine thenL_norm ?_
  refine EL.seq ?_
  refine EL.block ?_
  refine EL.sreg ?_
  refine OW.last 2 [0, 1, 5, 7, 8] (x' := ⟨(5, VI (k : Int)) :: (saq32 xs n k), []⟩) (by kernel_rfl) (by kernel_rfl) ?_
  refine EL.sreg ?_
  refine OW.run 3 (x' := ⟨(saq33 k xs n), []⟩) (by kernel_rfl) ?_
  obtain ⟨a4, ha4⟩ : ∃ y, xs[((k : Int) : Int).toNat]? = some y := idx_ex ⟨by omega, by omega⟩
  have iha4 : xs[k]? = some a4 := by simpa using ha4
  have dha4 := drop_get iha4
  refine OW.ope (v := .pim [VI a4] 0) (u := []) (acc := []) (x' := ⟨(14, .pim [VI a4] 0) :: (saq33 k xs n), []⟩) (by kernel_rfl) (opE_iad cI xs (.s 12) (.s 13) 1 .i64 (k : Int) a4 (by kernel_rfl) (by kernel_rfl) (.inl rfl) rfl (by omega) ha4) (by kernel_rfl) ?_
  refine OW.run 1 (x' := ⟨(15, VI a4) :: (14, .pim [VI a4] 0) :: (saq33 k xs n), []⟩) (by kernel_rfl) ?_
  refine OW.fn (ar := [VI a4, .pim [VI n] 0]) (x' := ⟨(16, .v (.bool (!(wi a4 1 n)))) :: (15, VI a4) :: (14, .pim [VI a4] 0) :: (saq33 k xs n), []⟩) (by kernel_rfl) (by kernel_rfl) F40_call (chk1_fn a4 n) (by kernel_rfl) (by kernel_rfl) ?_
  refine OW.last 0 [0, 1, 5, 7, 8, 16] (x' := ⟨(16, .v (.bool (!(wi a4 1 n)))) :: (5, VI (k : Int)) :: (saq32 xs n k), []⟩) (by kernel_rfl) (by kernel_rfl) ?_
  rcases Bool.eq_false_or_eq_true (wi a4 1 n) with h5 | h5
  rw [h5]
  have g5 : ((1 : Int) ≤ a4 ∧ (a4 : Int) ≤ n) := wi_iff.1 h5
  refine EL.condF (by kernel_rfl) ?_
  refine EL.skip ?_
  refine inBlk_norm ?_
  refine thenL_norm ?_
  refine EL.reg0 ?_
  refine OW.run 2 (x' := ⟨(8, VI (IntKind.i64.wrap ((k : Int) + 1))) :: (18, VI (IntKind.i64.wrap ((k : Int) + 1))) :: (saq34 k xs n), []⟩) (by kernel_rfl) ?_
  have e6 : IntKind.i64.wrap ((k : Int) + 1) = (k : Int) + 1 := wr64 (by omega)
  rw [e6]
  refine OW.end 0 (x' := ⟨(saq35 k xs n), []⟩) (by kernel_rfl) (by kernel_rfl) ?_
  refine thenL_norm ?_
  refine round_end (live := [0, 1, 7, 8]) (src := []) (es := []) (y := (fun (k : Nat) => (⟨(saq32 xs n k), []⟩ : L3)) (k + 1)) ?_ trivial ?_ ⟨(k + 1), rfl, ?_, rfl⟩
  kernel_rfl
  omega
  focus (refine ⟨by omega, ?_⟩; rw [hs]; simp [idxGo, *])
  rw [h5]
  have g5 : ¬ ((1 : Int) ≤ a4 ∧ (a4 : Int) ≤ n) := fun hh => Bool.noConfusion ((wi_iff.2 hh).symm.trans h5)
  refine EL.condT (by kernel_rfl) ?_
  refine EL.sreg ?_
  refine OW.last 2 [4] (x' := ⟨[(4, VI (k : Int))], []⟩) (by kernel_rfl) (by kernel_rfl) ?_
  refine EL.ret ?_
  refine inBlk_ret ?_
  refine thenL_ret ?_
  refine thenL_ret ?_
  refine inBlk_ret ?_
  refine thenL_ret ?_
  refine ⟨.inr rfl, VI (k : Int), by kernel_rfl, Ale.of_eq ?_⟩
  focus ((refine congrArg (fun n => VI n) ?_; rw [hs]; first | (rw [List.drop_eq_nil_of_le (by omega)]; rfl) | (simp [idxGo, *]; done)))
  rw [h2]
  have g2 : ¬ ((k : Int) < (List.length xs : Int)) := of_decide_eq_false h2
  have n2 : ¬ ((k) < (List.length xs)) := by omega
  refine EL.condF (by kernel_rfl) ?_
  refine EL.exit ?_
  refine thenL_exit ?_
  refine thenL_exit ?_
  refine inBlk_hit ?_
  refine thenL_norm ?_
  refine EL.sreg ?_
  refine OW.last 1 [4] (x' := ⟨[(4, VI (-1))], []⟩) (by kernel_rfl) (by kernel_rfl) ?_
  refine EL.ret ?_
  refine ⟨.inr rfl, VI (-1), by kernel_rfl, Ale.of_eq ?_⟩
  focus ((refine congrArg (fun n => VI n) ?_; rw [hs]; first | (rw [List.drop_eq_nil_of_le (by omega)]; rfl) | (simp [idxGo, *]; done)))
abbrev saq36 (n : Int) (xs : List Int) : LS := [(6, .fn 40 [.pim [VI n] 0]), (5, .lst 1 (xs.map cI)), (0, .lst 1 (xs.map cI)), (1, .fn 40 [.pim [VI n] 0])]
theorem any_there (xs : List Int) (n : Int) (hx : xs.length ≤ 9223372036854775807) : Fn Try.prog 39 [.lst 1 (xs.map cI), .fn 40 [.pim [VI n] 0]] (.v (.bool (xs.any (fun i => !wi i 1 n)))) := by
  refine fn_walkW F39_ok (of_decide_eq_true (by kernel_rfl)) ?_
  refine EL.sreg ?_
  refine OW.last 1 [0, 1] (x' := ⟨[(0, .lst 1 (xs.map cI)), (1, .fn 40 [.pim [VI n] 0])], []⟩) (by kernel_rfl) (by kernel_rfl) ?_
  refine EL.sreg ?_
  refine OW.run 2 (x' := ⟨(saq36 n xs), []⟩) (by kernel_rfl) ?_
  refine OW.fn (ar := [.lst 1 (xs.map cI), .fn 40 [.pim [VI n] 0]]) (x' := ⟨(7, VI (idxGo (fun i => !wi i 1 n) xs 0)) :: (saq36 n xs), []⟩) (by kernel_rfl) (by kernel_rfl) F60_call (idx_there xs n (by omega)) (by kernel_rfl) (by kernel_rfl) ?_
  refine OW.last 2 [4] (x' := ⟨[(4, .v (.bool (decide ((idxGo (fun i => !wi i 1 n) xs 0) ≥ 0))))], []⟩) (by kernel_rfl) (by kernel_rfl) ?_
  refine EL.ret ?_
  refine ⟨.inr rfl, .v (.bool (decide ((idxGo (fun i => !wi i 1 n) xs 0) ≥ 0))), by kernel_rfl, Ale.of_eq ?_⟩
  focus (exact congrArg (fun b => AV.v (Value.bool b)) (idx_any _ xs 0 (by omega)))
abbrev saq37 (xs : List Int) (s : Ship) : LS := [(6, .lst 1 (xs.map cI)), (0, .lst 1 (xs.map cI)), (1, .fn 41 [.pim [.lst 1 (s.first.map cZ), .lst 1 (s.second.map cZ), .lst 2 (s.log.map Record.cs), VI s.sent, VI s.applied, VI s.known, .lst 1 (s.there.map cI), .lst 1 (s.back.map cI)] 0])]
abbrev saq38 (xs : List Int) (s : Ship) : LS := [(8, VI 0), (7, VI (List.length xs : Int)), (0, .lst 1 (xs.map cI)), (1, .fn 41 [.pim [.lst 1 (s.first.map cZ), .lst 1 (s.second.map cZ), .lst 2 (s.log.map Record.cs), VI s.sent, VI s.applied, VI s.known, .lst 1 (s.there.map cI), .lst 1 (s.back.map cI)] 0])]
abbrev saq39 (xs : List Int) (s : Ship) (k : Nat) : LS := [(0, .lst 1 (xs.map cI)), (1, .fn 41 [.pim [.lst 1 (s.first.map cZ), .lst 1 (s.second.map cZ), .lst 2 (s.log.map Record.cs), VI s.sent, VI s.applied, VI s.known, .lst 1 (s.there.map cI), .lst 1 (s.back.map cI)] 0]), (7, VI (List.length xs : Int)), (8, VI (k : Int))]
abbrev saq40 (k : Nat) (xs : List Int) (s : Ship) : LS := (13, VI (k : Int)) :: (12, .lst 1 (xs.map cI)) :: (11, .fn 41 [.pim [.lst 1 (s.first.map cZ), .lst 1 (s.second.map cZ), .lst 2 (s.log.map Record.cs), VI s.sent, VI s.applied, VI s.known, .lst 1 (s.there.map cI), .lst 1 (s.back.map cI)] 0]) :: (5, VI (k : Int)) :: (saq39 xs s k)
abbrev saq41 (k : Nat) (xs : List Int) (s : Ship) : LS := [(16, .v (.bool false)), (5, VI (k : Int)), (0, .lst 1 (xs.map cI)), (1, .fn 41 [.pim [.lst 1 (s.first.map cZ), .lst 1 (s.second.map cZ), .lst 2 (s.log.map Record.cs), VI s.sent, VI s.applied, VI s.known, .lst 1 (s.there.map cI), .lst 1 (s.back.map cI)] 0]), (7, VI (List.length xs : Int))]
abbrev saq42 (k : Nat) (xs : List Int) (s : Ship) : LS := (8, VI ((k : Int) + 1)) :: (18, VI ((k : Int) + 1)) :: (saq41 k xs s)
theorem idx_back (xs : List Int) (s : Ship) (hx : xs.length ≤ 9223372036854775807) : Fn Try.prog 60 [.lst 1 (xs.map cI), .fn 41 [.pim [.lst 1 (s.first.map cZ), .lst 1 (s.second.map cZ), .lst 2 (s.log.map Record.cs), VI s.sent, VI s.applied, VI s.known, .lst 1 (s.there.map cI), .lst 1 (s.back.map cI)] 0]] (VI (idxGo (fun i => !wi i 0 s.applied) xs 0)) := by
  refine fn_walkW F60_ok (of_decide_eq_true (by kernel_rfl)) ?_
  refine EL.sreg ?_
  refine OW.last 1 [0, 1] (x' := ⟨[(0, .lst 1 (xs.map cI)), (1, .fn 41 [.pim [.lst 1 (s.first.map cZ), .lst 1 (s.second.map cZ), .lst 2 (s.log.map Record.cs), VI s.sent, VI s.applied, VI s.known, .lst 1 (s.there.map cI), .lst 1 (s.back.map cI)] 0])], []⟩) (by kernel_rfl) (by kernel_rfl) ?_
  refine EL.seq ?_
  refine EL.sreg ?_
  refine OW.run 1 (x' := ⟨(saq37 xs s), []⟩) (by kernel_rfl) ?_
  refine OW.ope (v := VI (List.length xs : Int)) (u := []) (acc := []) (x' := ⟨(7, VI (List.length xs : Int)) :: (saq37 xs s), []⟩) (by kernel_rfl) (opE_len cI xs (.s 6) 1 (by kernel_rfl) (by kernel_rfl) (.inl rfl)) (by kernel_rfl) ?_
  refine OW.last 1 [0, 1, 7, 8] (x' := ⟨(saq38 xs s), []⟩) (by kernel_rfl) (by kernel_rfl) ?_
  refine EL.block ?_
  refine EL.loopN (fun m x => ∃ (k : Nat), m = xs.length - k ∧ (k ≤ xs.length ∧ idxGo (fun i => !wi i 0 s.applied) xs 0 = idxGo (fun i => !wi i 0 s.applied) (xs.drop k) k) ∧ x = ⟨(saq39 xs s k), []⟩) (y := (fun (k : Nat) => (⟨(saq39 xs s k), []⟩ : L3)) 0) [0, 1, 7, 8] [] [] (by kernel_rfl) trivial ⟨0, rfl, by simp, rfl⟩ ?_
  rintro _ _ ⟨k, rfl, hI1, rfl⟩
  obtain ⟨hk, hs⟩ := hI1
  refine EL.sreg ?_
  refine OW.last 1 [0, 1, 7, 8, 9] (x' := ⟨(9, .v (.bool (decide ((k : Int) < (List.length xs : Int))))) :: (saq39 xs s k), []⟩) (by kernel_rfl) (by kernel_rfl) ?_
  refine EL.seq ?_
  rcases Bool.eq_false_or_eq_true (decide ((k : Int) < (List.length xs : Int))) with h2 | h2
  rw [h2]
  have g2 : ((k : Int) < (List.length xs : Int)) := of_decide_eq_true h2
  have n2 : ((k) < (List.length xs)) := by omega
  refine EL.condT (by kernel_rfl) ?_
  refine EL.skip ?_
  refine thenL_norm ?_
  refine EL.seq ?_
  refine EL.block ?_
  refine EL.sreg ?_
  refine OW.last 2 [0, 1, 5, 7, 8] (x' := ⟨(5, VI (k : Int)) :: (saq39 xs s k), []⟩) (by kernel_rfl) (by kernel_rfl) ?_
  refine EL.sreg ?_
  refine OW.run 3 (x' := ⟨(saq40 k xs s), []⟩) (by kernel_rfl) ?_
  obtain ⟨a4, ha4⟩ : ∃ y, xs[((k : Int) : Int).toNat]? = some y := idx_ex ⟨by omega, by omega⟩
  have iha4 : xs[k]? = some a4 := by simpa using ha4
  have dha4 := drop_get iha4
  refine OW.ope (v := .pim [VI a4] 0) (u := []) (acc := []) (x' := ⟨(14, .pim [VI a4] 0) :: (saq40 k xs s), []⟩) (by kernel_rfl) (opE_iad cI xs (.s 12) (.s 13) 1 .i64 (k : Int) a4 (by kernel_rfl) (by kernel_rfl) (.inl rfl) rfl (by omega) ha4) (by kernel_rfl) ?_
  refine OW.run 1 (x' := ⟨(15, VI a4) :: (14, .pim [VI a4] 0) :: (saq40 k xs s), []⟩) (by kernel_rfl) ?_
  refine OW.fn (ar := [VI a4, .pim [.lst 1 (s.first.map cZ), .lst 1 (s.second.map cZ), .lst 2 (s.log.map Record.cs), VI s.sent, VI s.applied, VI s.known, .lst 1 (s.there.map cI), .lst 1 (s.back.map cI)] 0]) (x' := ⟨(16, .v (.bool (!(wi a4 0 s.applied)))) :: (15, VI a4) :: (14, .pim [VI a4] 0) :: (saq40 k xs s), []⟩) (by kernel_rfl) (by kernel_rfl) F41_call (chk2_fn a4 s) (by kernel_rfl) (by kernel_rfl) ?_
  refine OW.last 0 [0, 1, 5, 7, 8, 16] (x' := ⟨(16, .v (.bool (!(wi a4 0 s.applied)))) :: (5, VI (k : Int)) :: (saq39 xs s k), []⟩) (by kernel_rfl) (by kernel_rfl) ?_
  rcases Bool.eq_false_or_eq_true (wi a4 0 s.applied) with h5 | h5
  rw [h5]
  have g5 : ((0 : Int) ≤ a4 ∧ (a4 : Int) ≤ s.applied) := wi_iff.1 h5
  refine EL.condF (by kernel_rfl) ?_
  refine EL.skip ?_
  refine inBlk_norm ?_
  refine thenL_norm ?_
  refine EL.reg0 ?_
  refine OW.run 2 (x' := ⟨(8, VI (IntKind.i64.wrap ((k : Int) + 1))) :: (18, VI (IntKind.i64.wrap ((k : Int) + 1))) :: (saq41 k xs s), []⟩) (by kernel_rfl) ?_
  have e6 : IntKind.i64.wrap ((k : Int) + 1) = (k : Int) + 1 := wr64 (by omega)
  rw [e6]
  refine OW.end 0 (x' := ⟨(saq42 k xs s), []⟩) (by kernel_rfl) (by kernel_rfl) ?_
  refine thenL_norm ?_
  refine round_end (live := [0, 1, 7, 8]) (src := []) (es := []) (y := (fun (k : Nat) => (⟨(saq39 xs s k), []⟩ : L3)) (k + 1)) ?_ trivial ?_ ⟨(k + 1), rfl, ?_, rfl⟩
  kernel_rfl
  omega
  focus (refine ⟨by omega, ?_⟩; rw [hs]; simp [idxGo, *])
  rw [h5]
  have g5 : ¬ ((0 : Int) ≤ a4 ∧ (a4 : Int) ≤ s.applied) := fun hh => Bool.noConfusion ((wi_iff.2 hh).symm.trans h5)
  refine EL.condT (by kernel_rfl) ?_
  refine EL.sreg ?_
  refine OW.last 2 [4] (x' := ⟨[(4, VI (k : Int))], []⟩) (by kernel_rfl) (by kernel_rfl) ?_
  refine EL.ret ?_
  refine inBlk_ret ?_
  refine thenL_ret ?_
  refine thenL_ret ?_
  refine inBlk_ret ?_
  refine thenL_ret ?_
  refine ⟨.inr rfl, VI (k : Int), by kernel_rfl, Ale.of_eq ?_⟩
  focus ((refine congrArg (fun n => VI n) ?_; rw [hs]; first | (rw [List.drop_eq_nil_of_le (by omega)]; rfl) | (simp [idxGo, *]; done)))
  rw [h2]
  have g2 : ¬ ((k : Int) < (List.length xs : Int)) := of_decide_eq_false h2
  have n2 : ¬ ((k) < (List.length xs)) := by omega
  refine EL.condF (by kernel_rfl) ?_
  refine EL.exit ?_
  refine thenL_exit ?_
  refine thenL_exit ?_
  refine inBlk_hit ?_
  refine thenL_norm ?_
  refine EL.sreg ?_
  refine OW.last 1 [4] (x' := ⟨[(4, VI (-1))], []⟩) (by kernel_rfl) (by kernel_rfl) ?_
  refine EL.ret ?_
  refine ⟨.inr rfl, VI (-1), by kernel_rfl, Ale.of_eq ?_⟩
  focus ((refine congrArg (fun n => VI n) ?_; rw [hs]; first | (rw [List.drop_eq_nil_of_le (by omega)]; rfl) | (simp [idxGo, *]; done)))
abbrev saq43 (s : Ship) (xs : List Int) : LS := [(6, .fn 41 [.pim [.lst 1 (s.first.map cZ), .lst 1 (s.second.map cZ), .lst 2 (s.log.map Record.cs), VI s.sent, VI s.applied, VI s.known, .lst 1 (s.there.map cI), .lst 1 (s.back.map cI)] 0]), (5, .lst 1 (xs.map cI)), (0, .lst 1 (xs.map cI)), (1, .fn 41 [.pim [.lst 1 (s.first.map cZ), .lst 1 (s.second.map cZ), .lst 2 (s.log.map Record.cs), VI s.sent, VI s.applied, VI s.known, .lst 1 (s.there.map cI), .lst 1 (s.back.map cI)] 0])]
theorem any_back (xs : List Int) (s : Ship) (hx : xs.length ≤ 9223372036854775807) : Fn Try.prog 39 [.lst 1 (xs.map cI), .fn 41 [.pim [.lst 1 (s.first.map cZ), .lst 1 (s.second.map cZ), .lst 2 (s.log.map Record.cs), VI s.sent, VI s.applied, VI s.known, .lst 1 (s.there.map cI), .lst 1 (s.back.map cI)] 0]] (.v (.bool (xs.any (fun i => !wi i 0 s.applied)))) := by
  refine fn_walkW F39_ok (of_decide_eq_true (by kernel_rfl)) ?_
  refine EL.sreg ?_
  refine OW.last 1 [0, 1] (x' := ⟨[(0, .lst 1 (xs.map cI)), (1, .fn 41 [.pim [.lst 1 (s.first.map cZ), .lst 1 (s.second.map cZ), .lst 2 (s.log.map Record.cs), VI s.sent, VI s.applied, VI s.known, .lst 1 (s.there.map cI), .lst 1 (s.back.map cI)] 0])], []⟩) (by kernel_rfl) (by kernel_rfl) ?_
  refine EL.sreg ?_
  refine OW.run 2 (x' := ⟨(saq43 s xs), []⟩) (by kernel_rfl) ?_
  refine OW.fn (ar := [.lst 1 (xs.map cI), .fn 41 [.pim [.lst 1 (s.first.map cZ), .lst 1 (s.second.map cZ), .lst 2 (s.log.map Record.cs), VI s.sent, VI s.applied, VI s.known, .lst 1 (s.there.map cI), .lst 1 (s.back.map cI)] 0]]) (x' := ⟨(7, VI (idxGo (fun i => !wi i 0 s.applied) xs 0)) :: (saq43 s xs), []⟩) (by kernel_rfl) (by kernel_rfl) F60_call (idx_back xs s (by omega)) (by kernel_rfl) (by kernel_rfl) ?_
  refine OW.last 2 [4] (x' := ⟨[(4, .v (.bool (decide ((idxGo (fun i => !wi i 0 s.applied) xs 0) ≥ 0))))], []⟩) (by kernel_rfl) (by kernel_rfl) ?_
  refine EL.ret ?_
  refine ⟨.inr rfl, .v (.bool (decide ((idxGo (fun i => !wi i 0 s.applied) xs 0) ≥ 0))), by kernel_rfl, Ale.of_eq ?_⟩
  focus (exact congrArg (fun b => AV.v (Value.bool b)) (idx_any _ xs 0 (by omega)))
abbrev saq44 (xs : List ByteArray) : LS := [(6, .lst 1 (xs.map cZ)), (0, .lst 1 (xs.map cZ)), (1, .fn 37 [])]
abbrev saq45 (xs : List ByteArray) : LS := [(8, VI 0), (7, VI (List.length xs : Int)), (0, .lst 1 (xs.map cZ)), (1, .fn 37 [])]
abbrev saq46 (xs : List ByteArray) (k : Nat) : LS := [(0, .lst 1 (xs.map cZ)), (1, .fn 37 []), (7, VI (List.length xs : Int)), (8, VI (k : Int))]
abbrev saq47 (k : Nat) (xs : List ByteArray) : LS := (13, VI (k : Int)) :: (12, .lst 1 (xs.map cZ)) :: (11, .fn 37 []) :: (5, VI (k : Int)) :: (saq46 xs k)
abbrev saq48 (a4 : ByteArray) (k : Nat) (xs : List ByteArray) : LS := (15, .v (.string a4)) :: (14, .pim [.v (.string a4)] 0) :: (saq47 k xs)
abbrev saq49 (k : Nat) (xs : List ByteArray) : LS := [(16, .v (.bool false)), (5, VI (k : Int)), (0, .lst 1 (xs.map cZ)), (1, .fn 37 []), (7, VI (List.length xs : Int))]
abbrev saq50 (k : Nat) (xs : List ByteArray) : LS := (8, VI ((k : Int) + 1)) :: (18, VI ((k : Int) + 1)) :: (saq49 k xs)
theorem idx_long (xs : List ByteArray) (hx : xs.length ≤ 9223372036854775807) : Fn Try.prog 59 [.lst 1 (xs.map cZ), .fn 37 []] (VI (idxGo (fun z => decide (z.size > 64)) xs 0)) := by
  refine fn_walkW F59_ok (of_decide_eq_true (by kernel_rfl)) ?_
  refine EL.sreg ?_
  refine OW.last 1 [0, 1] (x' := ⟨[(0, .lst 1 (xs.map cZ)), (1, .fn 37 [])], []⟩) (by kernel_rfl) (by kernel_rfl) ?_
  refine EL.seq ?_
  refine EL.sreg ?_
  refine OW.run 1 (x' := ⟨(saq44 xs), []⟩) (by kernel_rfl) ?_
  refine OW.ope (v := VI (List.length xs : Int)) (u := []) (acc := []) (x' := ⟨(7, VI (List.length xs : Int)) :: (saq44 xs), []⟩) (by kernel_rfl) (opE_len cZ xs (.s 6) 1 (by kernel_rfl) (by kernel_rfl) (.inl rfl)) (by kernel_rfl) ?_
  refine OW.last 1 [0, 1, 7, 8] (x' := ⟨(saq45 xs), []⟩) (by kernel_rfl) (by kernel_rfl) ?_
  refine EL.block ?_
  refine EL.loopN (fun m x => ∃ (k : Nat), m = xs.length - k ∧ (k ≤ xs.length ∧ idxGo (fun z => decide (z.size > 64)) xs 0 = idxGo (fun z => decide (z.size > 64)) (xs.drop k) k) ∧ x = ⟨(saq46 xs k), []⟩) (y := (fun (k : Nat) => (⟨(saq46 xs k), []⟩ : L3)) 0) [0, 1, 7, 8] [] [] (by kernel_rfl) trivial ⟨0, rfl, by simp, rfl⟩ ?_
  rintro _ _ ⟨k, rfl, hI1, rfl⟩
  obtain ⟨hk, hs⟩ := hI1
  refine EL.sreg ?_
  refine OW.last 1 [0, 1, 7, 8, 9] (x' := ⟨(9, .v (.bool (decide ((k : Int) < (List.length xs : Int))))) :: (saq46 xs k), []⟩) (by kernel_rfl) (by kernel_rfl) ?_
  refine EL.seq ?_
  rcases Bool.eq_false_or_eq_true (decide ((k : Int) < (List.length xs : Int))) with h2 | h2
  rw [h2]
  have g2 : ((k : Int) < (List.length xs : Int)) := of_decide_eq_true h2
  have n2 : ((k) < (List.length xs)) := by omega
  refine EL.condT (by kernel_rfl) ?_
  refine EL.skip ?_
  refine thenL_norm ?_
  refine EL.seq ?_
  refine EL.block ?_
  refine EL.sreg ?_
  refine OW.last 2 [0, 1, 5, 7, 8] (x' := ⟨(5, VI (k : Int)) :: (saq46 xs k), []⟩) (by kernel_rfl) (by kernel_rfl) ?_
  refine EL.sreg ?_
  refine OW.run 3 (x' := ⟨(saq47 k xs), []⟩) (by kernel_rfl) ?_
  obtain ⟨a4, ha4⟩ : ∃ y, xs[((k : Int) : Int).toNat]? = some y := idx_ex ⟨by omega, by omega⟩
  have iha4 : xs[k]? = some a4 := by simpa using ha4
  have dha4 := drop_get iha4
  refine OW.ope (v := .pim [.v (.string a4)] 0) (u := []) (acc := []) (x' := ⟨(14, .pim [.v (.string a4)] 0) :: (saq47 k xs), []⟩) (by kernel_rfl) (opE_iad cZ xs (.s 12) (.s 13) 1 .i64 (k : Int) a4 (by kernel_rfl) (by kernel_rfl) (.inl rfl) rfl (by omega) ha4) (by kernel_rfl) ?_
  refine OW.run 1 (x' := ⟨(saq48 a4 k xs), []⟩) (by kernel_rfl) ?_
  refine OW.fn (ar := [.v (.string a4)]) (x' := ⟨(16, .v (.bool (decide (a4.size > 64)))) :: (saq48 a4 k xs), []⟩) (by kernel_rfl) (by kernel_rfl) F37_call (long_fn a4) (by kernel_rfl) (by kernel_rfl) ?_
  refine OW.last 0 [0, 1, 5, 7, 8, 16] (x' := ⟨(16, .v (.bool (decide (a4.size > 64)))) :: (5, VI (k : Int)) :: (saq46 xs k), []⟩) (by kernel_rfl) (by kernel_rfl) ?_
  rcases Bool.eq_false_or_eq_true (decide (a4.size > 64)) with h5 | h5
  rw [h5]
  have g5 : (a4.size > 64) := of_decide_eq_true h5
  refine EL.condT (by kernel_rfl) ?_
  refine EL.sreg ?_
  refine OW.last 2 [4] (x' := ⟨[(4, VI (k : Int))], []⟩) (by kernel_rfl) (by kernel_rfl) ?_
  refine EL.ret ?_
  refine inBlk_ret ?_
  refine thenL_ret ?_
  refine thenL_ret ?_
  refine inBlk_ret ?_
  refine thenL_ret ?_
  refine ⟨.inr rfl, VI (k : Int), by kernel_rfl, Ale.of_eq ?_⟩
  focus ((refine congrArg (fun n => VI n) ?_; rw [hs]; first | (rw [List.drop_eq_nil_of_le (by omega)]; rfl) | (simp [idxGo, *]; done)))
  rw [h5]
  have g5 : ¬ (a4.size > 64) := of_decide_eq_false h5
  refine EL.condF (by kernel_rfl) ?_
  refine EL.skip ?_
  refine inBlk_norm ?_
  refine thenL_norm ?_
  refine EL.reg0 ?_
  refine OW.run 2 (x' := ⟨(8, VI (IntKind.i64.wrap ((k : Int) + 1))) :: (18, VI (IntKind.i64.wrap ((k : Int) + 1))) :: (saq49 k xs), []⟩) (by kernel_rfl) ?_
  have e6 : IntKind.i64.wrap ((k : Int) + 1) = (k : Int) + 1 := wr64 (by omega)
  rw [e6]
  refine OW.end 0 (x' := ⟨(saq50 k xs), []⟩) (by kernel_rfl) (by kernel_rfl) ?_
  refine thenL_norm ?_
  refine round_end (live := [0, 1, 7, 8]) (src := []) (es := []) (y := (fun (k : Nat) => (⟨(saq46 xs k), []⟩ : L3)) (k + 1)) ?_ trivial ?_ ⟨(k + 1), rfl, ?_, rfl⟩
  kernel_rfl
  omega
  focus (refine ⟨by omega, ?_⟩; rw [hs]; simp [idxGo, *])
  rw [h2]
  have g2 : ¬ ((k : Int) < (List.length xs : Int)) := of_decide_eq_false h2
  have n2 : ¬ ((k) < (List.length xs)) := by omega
  refine EL.condF (by kernel_rfl) ?_
  refine EL.exit ?_
  refine thenL_exit ?_
  refine thenL_exit ?_
  refine inBlk_hit ?_
  refine thenL_norm ?_
  refine EL.sreg ?_
  refine OW.last 1 [4] (x' := ⟨[(4, VI (-1))], []⟩) (by kernel_rfl) (by kernel_rfl) ?_
  refine EL.ret ?_
  refine ⟨.inr rfl, VI (-1), by kernel_rfl, Ale.of_eq ?_⟩
  focus ((refine congrArg (fun n => VI n) ?_; rw [hs]; first | (rw [List.drop_eq_nil_of_le (by omega)]; rfl) | (simp [idxGo, *]; done)))
abbrev saq51 (xs : List ByteArray) : LS := [(6, .fn 37 []), (5, .lst 1 (xs.map cZ)), (0, .lst 1 (xs.map cZ)), (1, .fn 37 [])]
theorem any_long (xs : List ByteArray) (hx : xs.length ≤ 9223372036854775807) : Fn Try.prog 36 [.lst 1 (xs.map cZ), .fn 37 []] (.v (.bool (xs.any (fun z => decide (z.size > 64))))) := by
  refine fn_walkW F36_ok (of_decide_eq_true (by kernel_rfl)) ?_
  refine EL.sreg ?_
  refine OW.last 1 [0, 1] (x' := ⟨[(0, .lst 1 (xs.map cZ)), (1, .fn 37 [])], []⟩) (by kernel_rfl) (by kernel_rfl) ?_
  refine EL.sreg ?_
  refine OW.run 2 (x' := ⟨(saq51 xs), []⟩) (by kernel_rfl) ?_
  refine OW.fn (ar := [.lst 1 (xs.map cZ), .fn 37 []]) (x' := ⟨(7, VI (idxGo (fun z => decide (z.size > 64)) xs 0)) :: (saq51 xs), []⟩) (by kernel_rfl) (by kernel_rfl) F59_call (idx_long xs (by omega)) (by kernel_rfl) (by kernel_rfl) ?_
  refine OW.last 2 [4] (x' := ⟨[(4, .v (.bool (decide ((idxGo (fun z => decide (z.size > 64)) xs 0) ≥ 0))))], []⟩) (by kernel_rfl) (by kernel_rfl) ?_
  refine EL.ret ?_
  refine ⟨.inr rfl, .v (.bool (decide ((idxGo (fun z => decide (z.size > 64)) xs 0) ≥ 0))), by kernel_rfl, Ale.of_eq ?_⟩
  focus (exact congrArg (fun b => AV.v (Value.bool b)) (idx_any _ xs 0 (by omega)))
def Ship.recE (n : Nat) : List Record → Int
  | [] => 0
  | r :: l => if wi r.block 0 ((n : Int) - 1) = true then (if r.data.size > 64 then 2 else recE n l) else 3
def Ship.checkE (s : Ship) : Int :=
  if wi s.first.length 1 32 = true then (if s.second.length = s.first.length then (
    if s.first.any (fun z => decide (z.size > 64)) = true ∨ s.second.any (fun z => decide (z.size > 64)) = true ∨ s.log.length > 60 ∨ s.there.length > 60 ∨ s.back.length > 60 then 2
    else if Ship.recE s.first.length s.log = 0 then (
      if ¬ wi s.known 0 (if s.sent < s.applied then s.sent else s.applied) = true ∨ (if s.sent > s.applied then s.sent else s.applied) > s.log.length then 4
      else if s.there.any (fun i => !wi i 1 s.log.length) = true ∨ s.back.any (fun i => !wi i 0 s.applied) = true then 3 else 0)
    else Ship.recE s.first.length s.log) else 1) else 3
abbrev saq52 (s : Ship) : LS := [(6, .lst 2 (s.log.map Record.cs)), (5, .ref 0 8 0 2), (1, .ref 0 8 0 0)]
abbrev saq53 (s : Ship) : LS := [(8, VI 0), (7, VI (List.length s.log : Int)), (6, .lst 2 (s.log.map Record.cs)), (1, .ref 0 8 0 0)]
abbrev saq54 (s : Ship) (k : Nat) : LS := [(1, .ref 0 8 0 0), (6, .lst 2 (s.log.map Record.cs)), (7, VI (List.length s.log : Int)), (8, VI (k : Int))]
abbrev saq55 (a3 : Record) (s : Ship) (k : Nat) : LS := (10, .pim [VI a3.block, .v (.string a3.data)] 0) :: (9, .v (.bool true)) :: (saq54 s k)
abbrev saq56 (s : Ship) (a3 : Record) : LB := [(saq10 s), some ⟨2, [[VI a3.block, .v (.string a3.data)]]⟩]
abbrev saq57 (s : Ship) (a3 : Record) (k : Nat) : LS := (16, .lst 1 (s.first.map cZ)) :: (15, .ref 0 8 0 0) :: (14, VI a3.block) :: (13, .ref 1 2 0 0) :: (4, .ref 1 2 0 0) :: (saq54 s k)
abbrev saq58 (s : Ship) (a3 : Record) (k : Nat) : LS := (18, VI ((List.length s.first : Int) - 1)) :: (17, VI (List.length s.first : Int)) :: (saq57 s a3 k)
abbrev saq59 (a3 : Record) (s : Ship) (k : Nat) : LS := (23, .v (.string a3.data)) :: (22, .ref 1 2 0 1) :: (12, .v (.bool false)) :: (4, .ref 1 2 0 0) :: (saq54 s k)
abbrev saq60 (s : Ship) : LS := [(21, .v (.bool false)), (1, .ref 0 8 0 0), (6, .lst 2 (s.log.map Record.cs)), (7, VI (List.length s.log : Int))]
abbrev saq61 (k : Nat) (s : Ship) : LS := (8, VI ((k : Int) + 1)) :: (25, VI ((k : Int) + 1)) :: (saq60 s)
theorem records_fn (s : Ship) (hx : s.first.length ≤ 9223372036854775807 ∧ s.second.length ≤ 9223372036854775807 ∧ s.log.length ≤ 9223372036854775807 ∧ s.there.length ≤ 9223372036854775807 ∧ s.back.length ≤ 9223372036854775807) : Fn Try.prog 38 [.agg [.lst 1 (s.first.map cZ), .lst 1 (s.second.map cZ), .lst 2 (s.log.map Record.cs), VI s.sent, VI s.applied, VI s.known, .lst 1 (s.there.map cI), .lst 1 (s.back.map cI)]] (VI (Ship.recE s.first.length s.log)) := by
  refine fn_walkW F38_ok (of_decide_eq_true (by kernel_rfl)) ?_
  refine EL.sreg ?_
  refine OW.last 2 [1] (x' := ⟨[(1, .ref 0 8 0 0)], [(saq10 s)]⟩) (by kernel_rfl) (by kernel_rfl) ?_
  refine EL.seq ?_
  refine EL.sreg ?_
  refine OW.run 2 (x' := ⟨(saq52 s), [(saq10 s)]⟩) (by kernel_rfl) ?_
  refine OW.ope (v := VI (List.length s.log : Int)) (u := []) (acc := []) (x' := ⟨(7, VI (List.length s.log : Int)) :: (saq52 s), [(saq10 s)]⟩) (by kernel_rfl) (opE_len Record.cs s.log (.s 6) 2 (by kernel_rfl) (by kernel_rfl) (.inl rfl)) (by kernel_rfl) ?_
  refine OW.last 1 [1, 6, 7, 8] (x' := ⟨(saq53 s), [(saq10 s)]⟩) (by kernel_rfl) (by kernel_rfl) ?_
  refine EL.block ?_
  refine EL.loopN (fun m x => ∃ (k : Nat), m = s.log.length - k ∧ (k ≤ s.log.length ∧ Ship.recE s.first.length s.log = Ship.recE s.first.length (s.log.drop k)) ∧ x = ⟨(saq54 s k), [(saq10 s)]⟩) (y := (fun (k : Nat) => (⟨(saq54 s k), [(saq10 s)]⟩ : L3)) 0) [1, 6, 7, 8] [.old 0 false] [] (by kernel_rfl) trivial ⟨0, rfl, by simp, rfl⟩ ?_
  rintro _ _ ⟨k, rfl, hI1, rfl⟩
  obtain ⟨hk, hs⟩ := hI1
  refine EL.sreg ?_
  refine OW.last 1 [1, 6, 7, 8, 9] (x' := ⟨(9, .v (.bool (decide ((k : Int) < (List.length s.log : Int))))) :: (saq54 s k), [(saq10 s)]⟩) (by kernel_rfl) (by kernel_rfl) ?_
  refine EL.seq ?_
  rcases Bool.eq_false_or_eq_true (decide ((k : Int) < (List.length s.log : Int))) with h2 | h2
  rw [h2]
  have g2 : ((k : Int) < (List.length s.log : Int)) := of_decide_eq_true h2
  have n2 : ((k) < (List.length s.log)) := by omega
  refine EL.condT (by kernel_rfl) ?_
  refine EL.skip ?_
  refine thenL_norm ?_
  refine EL.seq ?_
  refine EL.block ?_
  refine EL.sreg ?_
  obtain ⟨a3, ha3⟩ : ∃ y, s.log[((k : Int) : Int).toNat]? = some y := idx_ex ⟨by omega, by omega⟩
  have iha3 : s.log[k]? = some a3 := by simpa using ha3
  have dha3 := drop_get iha3
  refine OW.ope (v := .pim [VI a3.block, .v (.string a3.data)] 0) (u := []) (acc := []) (x' := ⟨(saq55 a3 s k), [(saq10 s)]⟩) (by kernel_rfl) (opE_iad Record.cs s.log (.s 6) (.s 8) 2 .i64 (k : Int) a3 (by kernel_rfl) (by kernel_rfl) (.inl rfl) rfl (by omega) ha3) (by kernel_rfl) ?_
  refine OW.last 3 [1, 4, 6, 7, 8] (x' := ⟨(4, .ref 1 2 0 0) :: (saq54 s k), (saq56 s a3)⟩) (by kernel_rfl) (by kernel_rfl) ?_
  refine EL.block ?_
  refine EL.sreg ?_
  refine OW.run 4 (x' := ⟨(saq57 s a3 k), (saq56 s a3)⟩) (by kernel_rfl) ?_
  refine OW.ope (v := VI (List.length s.first : Int)) (u := []) (acc := []) (x' := ⟨(17, VI (List.length s.first : Int)) :: (saq57 s a3 k), (saq56 s a3)⟩) (by kernel_rfl) (opE_len cZ s.first (.s 16) 1 (by kernel_rfl) (by kernel_rfl) (.inl rfl)) (by kernel_rfl) ?_
  refine OW.run 1 (x' := ⟨(18, VI (IntKind.i64.wrap ((List.length s.first : Int) - 1))) :: (17, VI (List.length s.first : Int)) :: (saq57 s a3 k), (saq56 s a3)⟩) (by kernel_rfl) ?_
  have e4 : IntKind.i64.wrap ((List.length s.first : Int) - 1) = (List.length s.first : Int) - 1 := wr64 (by omega)
  rw [e4]
  refine OW.fn (ar := [VI a3.block, VI 0, VI ((List.length s.first : Int) - 1)]) (x' := ⟨(19, .v (.bool (wi a3.block 0 ((List.length s.first : Int) - 1)))) :: (saq58 s a3 k), (saq56 s a3)⟩) (by kernel_rfl) (by kernel_rfl) F31_call (within_fn a3.block 0 ((List.length s.first : Int) - 1)) (by kernel_rfl) (by kernel_rfl) ?_
  refine OW.last 2 [1, 4, 6, 7, 8, 12] (x' := ⟨(12, .v (.bool (!(wi a3.block 0 ((List.length s.first : Int) - 1))))) :: (4, .ref 1 2 0 0) :: (saq54 s k), (saq56 s a3)⟩) (by kernel_rfl) (by kernel_rfl) ?_
  rcases Bool.eq_false_or_eq_true (wi a3.block 0 ((List.length s.first : Int) - 1)) with h5 | h5
  rw [h5]
  have g5 : ((0 : Int) ≤ a3.block ∧ (a3.block : Int) ≤ ((List.length s.first : Int) - 1)) := wi_iff.1 h5
  refine EL.condF (by kernel_rfl) ?_
  refine EL.sreg ?_
  refine OW.run 2 (x' := ⟨(saq59 a3 s k), (saq56 s a3)⟩) (by kernel_rfl) ?_
  refine OW.fn (ar := [.v (.string a3.data)]) (x' := ⟨(24, .v (.bool (decide (a3.data.size > 64)))) :: (saq59 a3 s k), (saq56 s a3)⟩) (by kernel_rfl) (by kernel_rfl) F37_call (long_fn a3.data) (by kernel_rfl) (by kernel_rfl) ?_
  refine OW.last 1 [1, 6, 7, 8, 21] (x' := ⟨(21, .v (.bool (decide (a3.data.size > 64)))) :: (saq54 s k), (saq56 s a3)⟩) (by kernel_rfl) (by kernel_rfl) ?_
  rcases Bool.eq_false_or_eq_true (decide (a3.data.size > 64)) with h6 | h6
  rw [h6]
  have g6 : (a3.data.size > 64) := of_decide_eq_true h6
  refine EL.condT (by kernel_rfl) ?_
  refine EL.sreg ?_
  refine OW.last 1 [2] (x' := ⟨[(2, VI 2)], (saq56 s a3)⟩) (by kernel_rfl) (by kernel_rfl) ?_
  refine EL.ret ?_
  refine inBlk_ret ?_
  refine inBlk_ret ?_
  refine thenL_ret ?_
  refine thenL_ret ?_
  refine inBlk_ret ?_
  refine thenL_ret ?_
  refine ⟨.inr rfl, VI 2, by kernel_rfl, Ale.of_eq ?_⟩
  focus ((refine congrArg (fun n => VI n) ?_; rw [hs]; first | (rw [List.drop_eq_nil_of_le (by omega)]; rfl) | (simp [Ship.recE, *]; done)))
  rw [h6]
  have g6 : ¬ (a3.data.size > 64) := of_decide_eq_false h6
  refine EL.condF (by kernel_rfl) ?_
  refine EL.skip ?_
  refine inBlk_norm ?_
  refine inBlk_norm ?_
  refine thenL_norm ?_
  refine EL.reg0 ?_
  refine OW.run 2 (x' := ⟨(8, VI (IntKind.i64.wrap ((k : Int) + 1))) :: (25, VI (IntKind.i64.wrap ((k : Int) + 1))) :: (saq60 s), (saq56 s a3)⟩) (by kernel_rfl) ?_
  have e7 : IntKind.i64.wrap ((k : Int) + 1) = (k : Int) + 1 := wr64 (by omega)
  rw [e7]
  refine OW.end 0 (x' := ⟨(saq61 k s), (saq56 s a3)⟩) (by kernel_rfl) (by kernel_rfl) ?_
  refine thenL_norm ?_
  refine round_end (live := [1, 6, 7, 8]) (src := [.old 0 false]) (es := []) (y := (fun (k : Nat) => (⟨(saq54 s k), [(saq10 s)]⟩ : L3)) (k + 1)) ?_ trivial ?_ ⟨(k + 1), rfl, ?_, rfl⟩
  kernel_rfl
  omega
  focus (refine ⟨by omega, ?_⟩; rw [hs]; simp [Ship.recE, *])
  rw [h5]
  have g5 : ¬ ((0 : Int) ≤ a3.block ∧ (a3.block : Int) ≤ ((List.length s.first : Int) - 1)) := fun hh => Bool.noConfusion ((wi_iff.2 hh).symm.trans h5)
  refine EL.condT (by kernel_rfl) ?_
  refine EL.sreg ?_
  refine OW.last 1 [2] (x' := ⟨[(2, VI 3)], (saq56 s a3)⟩) (by kernel_rfl) (by kernel_rfl) ?_
  refine EL.ret ?_
  refine inBlk_ret ?_
  refine inBlk_ret ?_
  refine thenL_ret ?_
  refine thenL_ret ?_
  refine inBlk_ret ?_
  refine thenL_ret ?_
  refine ⟨.inr rfl, VI 3, by kernel_rfl, Ale.of_eq ?_⟩
  focus ((refine congrArg (fun n => VI n) ?_; rw [hs]; first | (rw [List.drop_eq_nil_of_le (by omega)]; rfl) | (simp [Ship.recE, *]; done)))
  rw [h2]
  have g2 : ¬ ((k : Int) < (List.length s.log : Int)) := of_decide_eq_false h2
  have n2 : ¬ ((k) < (List.length s.log)) := by omega
  refine EL.condF (by kernel_rfl) ?_
  refine EL.exit ?_
  refine thenL_exit ?_
  refine thenL_exit ?_
  refine inBlk_hit ?_
  refine thenL_norm ?_
  refine EL.sreg ?_
  refine OW.last 1 [2] (x' := ⟨[(2, VI 0)], [(saq10 s)]⟩) (by kernel_rfl) (by kernel_rfl) ?_
  refine EL.ret ?_
  refine ⟨.inr rfl, VI 0, by kernel_rfl, Ale.of_eq ?_⟩
  focus ((refine congrArg (fun n => VI n) ?_; rw [hs]; first | (rw [List.drop_eq_nil_of_le (by omega)]; rfl) | (simp [Ship.recE, *]; done)))
abbrev saq62 (s : Ship) : LS := [(7, .lst 1 (s.first.map cZ)), (6, .ref 0 8 0 0), (1, .ref 0 8 0 0)]
abbrev saq63 (s : Ship) : LS := [(13, .lst 1 (s.second.map cZ)), (12, .ref 0 8 0 1), (5, .v (.bool false)), (1, .ref 0 8 0 0)]
abbrev saq64 (s : Ship) : LS := (16, .lst 1 (s.first.map cZ)) :: (15, .ref 0 8 0 0) :: (14, VI (List.length s.second : Int)) :: (saq63 s)
abbrev saq65 (s : Ship) : LS := [(21, .lst 1 (s.first.map cZ)), (20, .ref 0 8 0 0), (11, .v (.bool false)), (1, .ref 0 8 0 0)]
abbrev saq66 (s : Ship) : LS := [(24, .lst 1 (s.second.map cZ)), (23, .ref 0 8 0 1), (19, .v (.bool false)), (1, .ref 0 8 0 0)]
abbrev saq67 (s : Ship) : LS := [(27, .lst 2 (s.log.map Record.cs)), (26, .ref 0 8 0 2), (19, .v (.bool false)), (1, .ref 0 8 0 0)]
abbrev saq68 (s : Ship) : LS := [(31, .lst 1 (s.there.map cI)), (30, .ref 0 8 0 6), (19, .v (.bool false)), (1, .ref 0 8 0 0)]
abbrev saq69 (s : Ship) : LS := [(35, .lst 1 (s.back.map cI)), (34, .ref 0 8 0 7), (19, .v (.bool false)), (1, .ref 0 8 0 0)]
abbrev saq70 (s : Ship) : LS := [(36, VI (List.length s.back : Int)), (35, .lst 1 (s.back.map cI)), (34, .ref 0 8 0 7), (1, .ref 0 8 0 0)]
abbrev saq71 (s : Ship) : LS := (38, (saq27 s)) :: (19, .v (.bool false)) :: (37, .v (.bool false)) :: (saq70 s)
abbrev saq72 (s : Ship) : LS := (39, VI (Ship.recE s.first.length s.log)) :: (saq71 s)
abbrev saq73 (s : Ship) : LS := [(44, .lst 2 (s.log.map Record.cs)), (43, .ref 0 8 0 2), (41, .v (.bool false)), (3, VI (Ship.recE s.first.length s.log)), (1, .ref 0 8 0 0)]
abbrev saq74 (s : Ship) : LS := [(52, VI s.sent), (51, .ref 0 8 0 3), (50, VI s.applied), (49, .ref 0 8 0 4), (48, VI s.known), (47, .ref 0 8 0 5), (4, .ref 1 1 0 0), (1, .ref 0 8 0 0)]
abbrev saq75 (s : Ship) : LS := [(59, VI s.sent), (58, .ref 0 8 0 3), (57, VI s.applied), (56, .ref 0 8 0 4), (4, .ref 1 1 0 0), (1, .ref 0 8 0 0)]
abbrev saq76 (s : Ship) : LS := [(70, .fn 41 [.ref 0 8 0 0]), (69, .lst 1 (s.back.map cI)), (68, .ref 0 8 0 7), (63, .v (.bool false)), (1, .ref 0 8 0 0)]
abbrev saq77 (s : Ship) : LS := [(70, .fn 41 [.ref 0 8 0 0]), (69, .lst 1 (s.back.map cI)), (68, .ref 0 8 0 7), (1, .ref 0 8 0 0)]
theorem check_fn (s : Ship) (hx : s.first.length ≤ 9223372036854775807 ∧ s.second.length ≤ 9223372036854775807 ∧ s.log.length ≤ 9223372036854775807 ∧ s.there.length ≤ 9223372036854775807 ∧ s.back.length ≤ 9223372036854775807) : Fn Try.prog 17 [.agg [.lst 1 (s.first.map cZ), .lst 1 (s.second.map cZ), .lst 2 (s.log.map Record.cs), VI s.sent, VI s.applied, VI s.known, .lst 1 (s.there.map cI), .lst 1 (s.back.map cI)]] (VI s.checkE) := by
  refine fn_walkW F17_ok (of_decide_eq_true (by kernel_rfl)) ?_
  refine EL.sreg ?_
  refine OW.last 2 [1] (x' := ⟨[(1, .ref 0 8 0 0)], [(saq10 s)]⟩) (by kernel_rfl) (by kernel_rfl) ?_
  refine EL.seq ?_
  refine EL.block ?_
  refine EL.sreg ?_
  refine OW.run 2 (x' := ⟨(saq62 s), [(saq10 s)]⟩) (by kernel_rfl) ?_
  refine OW.ope (v := VI (List.length s.first : Int)) (u := []) (acc := []) (x' := ⟨(8, VI (List.length s.first : Int)) :: (saq62 s), [(saq10 s)]⟩) (by kernel_rfl) (opE_len cZ s.first (.s 7) 1 (by kernel_rfl) (by kernel_rfl) (.inl rfl)) (by kernel_rfl) ?_
  refine OW.fn (ar := [VI (List.length s.first : Int), VI 1, VI 32]) (x' := ⟨(9, .v (.bool (wi (List.length s.first : Int) 1 32))) :: (8, VI (List.length s.first : Int)) :: (saq62 s), [(saq10 s)]⟩) (by kernel_rfl) (by kernel_rfl) F31_call (within_fn (List.length s.first : Int) 1 32) (by kernel_rfl) (by kernel_rfl) ?_
  refine OW.last 2 [1, 5] (x' := ⟨[(5, .v (.bool (!(wi (List.length s.first : Int) 1 32)))), (1, .ref 0 8 0 0)], [(saq10 s)]⟩) (by kernel_rfl) (by kernel_rfl) ?_
  rcases Bool.eq_false_or_eq_true (wi (List.length s.first : Int) 1 32) with h1 | h1
  rw [h1]
  have g1 : ((1 : Int) ≤ (List.length s.first : Int) ∧ ((List.length s.first : Int) : Int) ≤ 32) := wi_iff.1 h1
  refine EL.condF (by kernel_rfl) ?_
  refine EL.sreg ?_
  refine OW.run 2 (x' := ⟨(saq63 s), [(saq10 s)]⟩) (by kernel_rfl) ?_
  refine OW.ope (v := VI (List.length s.second : Int)) (u := []) (acc := []) (x' := ⟨(14, VI (List.length s.second : Int)) :: (saq63 s), [(saq10 s)]⟩) (by kernel_rfl) (opE_len cZ s.second (.s 13) 1 (by kernel_rfl) (by kernel_rfl) (.inl rfl)) (by kernel_rfl) ?_
  refine OW.run 2 (x' := ⟨(saq64 s), [(saq10 s)]⟩) (by kernel_rfl) ?_
  refine OW.ope (v := VI (List.length s.first : Int)) (u := []) (acc := []) (x' := ⟨(17, VI (List.length s.first : Int)) :: (saq64 s), [(saq10 s)]⟩) (by kernel_rfl) (opE_len cZ s.first (.s 16) 1 (by kernel_rfl) (by kernel_rfl) (.inl rfl)) (by kernel_rfl) ?_
  refine OW.last 2 [1, 11] (x' := ⟨[(11, .v (.bool ((List.length s.second : Int) != (List.length s.first : Int)))), (1, .ref 0 8 0 0)], [(saq10 s)]⟩) (by kernel_rfl) (by kernel_rfl) ?_
  rcases Bool.eq_false_or_eq_true (((List.length s.second : Int) != (List.length s.first : Int))) with h2 | h2
  rw [h2]
  have g2 : ¬ ((List.length s.second : Int) = (List.length s.first : Int)) := by simpa using h2
  have n2 : ¬ ((List.length s.second) = (List.length s.first)) := by omega
  refine EL.condT (by kernel_rfl) ?_
  refine EL.sreg ?_
  refine OW.last 1 [2] (x' := ⟨[(2, VI 1)], [(saq10 s)]⟩) (by kernel_rfl) (by kernel_rfl) ?_
  refine EL.ret ?_
  refine inBlk_ret ?_
  refine thenL_ret ?_
  refine ⟨.inr rfl, VI 1, by kernel_rfl, Ale.of_eq ?_⟩
  focus ((refine congrArg (fun n => VI n) ?_; clear hx; first | (simp [Ship.checkE, *]; done) | (simp [Ship.checkE, *]; omega) | (simp_all [Ship.checkE]; done) | (simp_all [Ship.checkE]; omega)))
  rw [h2]
  have g2 : ((List.length s.second : Int) = (List.length s.first : Int)) := by simpa using h2
  have n2 : ((List.length s.second) = (List.length s.first)) := by omega
  refine EL.condF (by kernel_rfl) ?_
  refine EL.seq ?_
  refine EL.sreg ?_
  refine OW.run 2 (x' := ⟨(saq65 s), [(saq10 s)]⟩) (by kernel_rfl) ?_
  refine OW.fn (ar := [.lst 1 (s.first.map cZ), .fn 37 []]) (x' := ⟨(22, .v (.bool (s.first.any (fun z => decide (z.size > 64))))) :: (saq65 s), [(saq10 s)]⟩) (by kernel_rfl) (by kernel_rfl) F36_call (any_long s.first (by omega)) (by kernel_rfl) (by kernel_rfl) ?_
  refine OW.last 1 [1, 19] (x' := ⟨[(19, .v (.bool (s.first.any (fun z => decide (z.size > 64))))), (1, .ref 0 8 0 0)], [(saq10 s)]⟩) (by kernel_rfl) (by kernel_rfl) ?_
  rcases Bool.eq_false_or_eq_true (s.first.any (fun z => decide (z.size > 64))) with h3 | h3
  rw [h3]
  refine EL.condT (by kernel_rfl) ?_
  refine EL.skip ?_
  refine thenL_norm ?_
  refine EL.condT (by kernel_rfl) ?_
  refine EL.sreg ?_
  refine OW.last 1 [2] (x' := ⟨[(2, VI 2)], [(saq10 s)]⟩) (by kernel_rfl) (by kernel_rfl) ?_
  refine EL.ret ?_
  refine inBlk_ret ?_
  refine thenL_ret ?_
  refine ⟨.inr rfl, VI 2, by kernel_rfl, Ale.of_eq ?_⟩
  focus ((refine congrArg (fun n => VI n) ?_; clear hx; first | (simp [Ship.checkE, *]; done) | (simp [Ship.checkE, *]; omega) | (simp_all [Ship.checkE]; done) | (simp_all [Ship.checkE]; omega)))
  rw [h3]
  refine EL.condF (by kernel_rfl) ?_
  refine EL.sreg ?_
  refine OW.run 2 (x' := ⟨(saq66 s), [(saq10 s)]⟩) (by kernel_rfl) ?_
  refine OW.fn (ar := [.lst 1 (s.second.map cZ), .fn 37 []]) (x' := ⟨(25, .v (.bool (s.second.any (fun z => decide (z.size > 64))))) :: (saq66 s), [(saq10 s)]⟩) (by kernel_rfl) (by kernel_rfl) F36_call (any_long s.second (by omega)) (by kernel_rfl) (by kernel_rfl) ?_
  refine OW.last 1 [1, 19] (x' := ⟨[(19, .v (.bool (s.second.any (fun z => decide (z.size > 64))))), (1, .ref 0 8 0 0)], [(saq10 s)]⟩) (by kernel_rfl) (by kernel_rfl) ?_
  rcases Bool.eq_false_or_eq_true (s.second.any (fun z => decide (z.size > 64))) with h4 | h4
  rw [h4]
  refine EL.condT (by kernel_rfl) ?_
  refine EL.skip ?_
  refine thenL_norm ?_
  refine EL.condT (by kernel_rfl) ?_
  refine EL.sreg ?_
  refine OW.last 1 [2] (x' := ⟨[(2, VI 2)], [(saq10 s)]⟩) (by kernel_rfl) (by kernel_rfl) ?_
  refine EL.ret ?_
  refine inBlk_ret ?_
  refine thenL_ret ?_
  refine ⟨.inr rfl, VI 2, by kernel_rfl, Ale.of_eq ?_⟩
  focus ((refine congrArg (fun n => VI n) ?_; clear hx; first | (simp [Ship.checkE, *]; done) | (simp [Ship.checkE, *]; omega) | (simp_all [Ship.checkE]; done) | (simp_all [Ship.checkE]; omega)))
  rw [h4]
  refine EL.condF (by kernel_rfl) ?_
  refine EL.sreg ?_
  refine OW.run 2 (x' := ⟨(saq67 s), [(saq10 s)]⟩) (by kernel_rfl) ?_
  refine OW.ope (v := VI (List.length s.log : Int)) (u := []) (acc := []) (x' := ⟨(28, VI (List.length s.log : Int)) :: (saq67 s), [(saq10 s)]⟩) (by kernel_rfl) (opE_len Record.cs s.log (.s 27) 2 (by kernel_rfl) (by kernel_rfl) (.inl rfl)) (by kernel_rfl) ?_
  refine OW.last 2 [1, 19] (x' := ⟨[(19, .v (.bool (decide ((List.length s.log : Int) > 60)))), (1, .ref 0 8 0 0)], [(saq10 s)]⟩) (by kernel_rfl) (by kernel_rfl) ?_
  rcases Bool.eq_false_or_eq_true (decide ((List.length s.log : Int) > 60)) with h5 | h5
  rw [h5]
  have g5 : ((List.length s.log : Int) > 60) := of_decide_eq_true h5
  have n5 : ((List.length s.log) > 60) := by omega
  refine EL.condT (by kernel_rfl) ?_
  refine EL.skip ?_
  refine thenL_norm ?_
  refine EL.condT (by kernel_rfl) ?_
  refine EL.sreg ?_
  refine OW.last 1 [2] (x' := ⟨[(2, VI 2)], [(saq10 s)]⟩) (by kernel_rfl) (by kernel_rfl) ?_
  refine EL.ret ?_
  refine inBlk_ret ?_
  refine thenL_ret ?_
  refine ⟨.inr rfl, VI 2, by kernel_rfl, Ale.of_eq ?_⟩
  focus ((refine congrArg (fun n => VI n) ?_; clear hx; first | (simp [Ship.checkE, *]; done) | (simp [Ship.checkE, *]; omega) | (simp_all [Ship.checkE]; done) | (simp_all [Ship.checkE]; omega)))
  rw [h5]
  have g5 : ¬ ((List.length s.log : Int) > 60) := of_decide_eq_false h5
  have n5 : ¬ ((List.length s.log) > 60) := by omega
  refine EL.condF (by kernel_rfl) ?_
  refine EL.sreg ?_
  refine OW.run 2 (x' := ⟨(saq68 s), [(saq10 s)]⟩) (by kernel_rfl) ?_
  refine OW.ope (v := VI (List.length s.there : Int)) (u := []) (acc := []) (x' := ⟨(32, VI (List.length s.there : Int)) :: (saq68 s), [(saq10 s)]⟩) (by kernel_rfl) (opE_len cI s.there (.s 31) 1 (by kernel_rfl) (by kernel_rfl) (.inl rfl)) (by kernel_rfl) ?_
  refine OW.last 2 [1, 19] (x' := ⟨[(19, .v (.bool (decide ((List.length s.there : Int) > 60)))), (1, .ref 0 8 0 0)], [(saq10 s)]⟩) (by kernel_rfl) (by kernel_rfl) ?_
  rcases Bool.eq_false_or_eq_true (decide ((List.length s.there : Int) > 60)) with h6 | h6
  rw [h6]
  have g6 : ((List.length s.there : Int) > 60) := of_decide_eq_true h6
  have n6 : ((List.length s.there) > 60) := by omega
  refine EL.condT (by kernel_rfl) ?_
  refine EL.skip ?_
  refine thenL_norm ?_
  refine EL.condT (by kernel_rfl) ?_
  refine EL.sreg ?_
  refine OW.last 1 [2] (x' := ⟨[(2, VI 2)], [(saq10 s)]⟩) (by kernel_rfl) (by kernel_rfl) ?_
  refine EL.ret ?_
  refine inBlk_ret ?_
  refine thenL_ret ?_
  refine ⟨.inr rfl, VI 2, by kernel_rfl, Ale.of_eq ?_⟩
  focus ((refine congrArg (fun n => VI n) ?_; clear hx; first | (simp [Ship.checkE, *]; done) | (simp [Ship.checkE, *]; omega) | (simp_all [Ship.checkE]; done) | (simp_all [Ship.checkE]; omega)))
  rw [h6]
  have g6 : ¬ ((List.length s.there : Int) > 60) := of_decide_eq_false h6
  have n6 : ¬ ((List.length s.there) > 60) := by omega
  refine EL.condF (by kernel_rfl) ?_
  refine EL.reg0 ?_
  refine OW.run 2 (x' := ⟨(saq69 s), [(saq10 s)]⟩) (by kernel_rfl) ?_
  refine OW.ope (v := VI (List.length s.back : Int)) (u := []) (acc := []) (x' := ⟨(36, VI (List.length s.back : Int)) :: (saq69 s), [(saq10 s)]⟩) (by kernel_rfl) (opE_len cI s.back (.s 35) 1 (by kernel_rfl) (by kernel_rfl) (.inl rfl)) (by kernel_rfl) ?_
  refine OW.end 2 (x' := ⟨(19, .v (.bool (decide ((List.length s.back : Int) > 60)))) :: (37, .v (.bool (decide ((List.length s.back : Int) > 60)))) :: (saq70 s), [(saq10 s)]⟩) (by kernel_rfl) (by kernel_rfl) ?_
  refine thenL_norm ?_
  rcases Bool.eq_false_or_eq_true (decide ((List.length s.back : Int) > 60)) with h7 | h7
  rw [h7]
  have g7 : ((List.length s.back : Int) > 60) := of_decide_eq_true h7
  have n7 : ((List.length s.back) > 60) := by omega
  refine EL.condT (by kernel_rfl) ?_
  refine EL.sreg ?_
  refine OW.last 1 [2] (x' := ⟨[(2, VI 2)], [(saq10 s)]⟩) (by kernel_rfl) (by kernel_rfl) ?_
  refine EL.ret ?_
  refine inBlk_ret ?_
  refine thenL_ret ?_
  refine ⟨.inr rfl, VI 2, by kernel_rfl, Ale.of_eq ?_⟩
  focus ((refine congrArg (fun n => VI n) ?_; clear hx; first | (simp [Ship.checkE, *]; done) | (simp [Ship.checkE, *]; omega) | (simp_all [Ship.checkE]; done) | (simp_all [Ship.checkE]; omega)))
  rw [h7]
  have g7 : ¬ ((List.length s.back : Int) > 60) := of_decide_eq_false h7
  have n7 : ¬ ((List.length s.back) > 60) := by omega
  refine EL.condF (by kernel_rfl) ?_
  refine EL.skip ?_
  refine inBlk_norm ?_
  refine thenL_norm ?_
  refine EL.seq ?_
  refine EL.sreg ?_
  refine OW.run 1 (x' := ⟨(saq71 s), [(saq10 s)]⟩) (by kernel_rfl) ?_
  refine OW.fn (ar := [(saq27 s)]) (x' := ⟨(saq72 s), [(saq10 s)]⟩) (by kernel_rfl) (by kernel_rfl) F38_call (records_fn s hx) (by kernel_rfl) (by kernel_rfl) ?_
  refine OW.last 1 [1, 3] (x' := ⟨[(3, VI (Ship.recE s.first.length s.log)), (1, .ref 0 8 0 0)], [(saq10 s)]⟩) (by kernel_rfl) (by kernel_rfl) ?_
  refine EL.sreg ?_
  refine OW.last 2 [1, 3, 41] (x' := ⟨[(41, .v (.bool ((Ship.recE s.first.length s.log) != 0))), (3, VI (Ship.recE s.first.length s.log)), (1, .ref 0 8 0 0)], [(saq10 s)]⟩) (by kernel_rfl) (by kernel_rfl) ?_
  rcases Bool.eq_false_or_eq_true (((Ship.recE s.first.length s.log) != 0)) with h8 | h8
  rw [h8]
  have g8 : ¬ ((Ship.recE s.first.length s.log) = 0) := by simpa using h8
  refine EL.condT (by kernel_rfl) ?_
  refine EL.sreg ?_
  refine OW.last 2 [2] (x' := ⟨[(2, VI (Ship.recE s.first.length s.log))], [(saq10 s)]⟩) (by kernel_rfl) (by kernel_rfl) ?_
  refine EL.ret ?_
  refine thenL_ret ?_
  refine ⟨.inr rfl, VI (Ship.recE s.first.length s.log), by kernel_rfl, Ale.of_eq ?_⟩
  focus ((refine congrArg (fun n => VI n) ?_; clear hx; first | (simp [Ship.checkE, *]; done) | (simp [Ship.checkE, *]; omega) | (simp_all [Ship.checkE]; done) | (simp_all [Ship.checkE]; omega)))
  rw [h8]
  have g8 : ((Ship.recE s.first.length s.log) = 0) := by simpa using h8
  refine EL.condF (by kernel_rfl) ?_
  refine EL.skip ?_
  refine thenL_norm ?_
  refine EL.sreg ?_
  refine OW.run 2 (x' := ⟨(saq73 s), [(saq10 s)]⟩) (by kernel_rfl) ?_
  refine OW.ope (v := VI (List.length s.log : Int)) (u := []) (acc := []) (x' := ⟨(45, VI (List.length s.log : Int)) :: (saq73 s), [(saq10 s)]⟩) (by kernel_rfl) (opE_len Record.cs s.log (.s 44) 2 (by kernel_rfl) (by kernel_rfl) (.inl rfl)) (by kernel_rfl) ?_
  refine OW.last 2 [1, 4] (x' := ⟨[(4, .ref 1 1 0 0), (1, .ref 0 8 0 0)], [(saq10 s), some ⟨1, [[VI (List.length s.log : Int)]]⟩]⟩) (by kernel_rfl) (by kernel_rfl) ?_
  refine EL.seq ?_
  refine EL.block ?_
  refine EL.seq ?_
  refine EL.sreg ?_
  refine OW.run 7 (x' := ⟨(53, VI (if s.sent < s.applied then s.sent else s.applied)) :: (saq74 s), [(saq10 s), some ⟨1, [[VI (List.length s.log : Int)]]⟩]⟩) (by kernel_rfl) ?_
  refine OW.fn (ar := [VI s.known, VI 0, VI (if s.sent < s.applied then s.sent else s.applied)]) (x' := ⟨(54, .v (.bool (wi s.known 0 (if s.sent < s.applied then s.sent else s.applied)))) :: (53, VI (if s.sent < s.applied then s.sent else s.applied)) :: (saq74 s), [(saq10 s), some ⟨1, [[VI (List.length s.log : Int)]]⟩]⟩) (by kernel_rfl) (by kernel_rfl) F31_call (within_fn s.known 0 (if s.sent < s.applied then s.sent else s.applied)) (by kernel_rfl) (by kernel_rfl) ?_
  refine OW.last 2 [1, 4, 46] (x' := ⟨[(46, .v (.bool (!(wi s.known 0 (if s.sent < s.applied then s.sent else s.applied))))), (4, .ref 1 1 0 0), (1, .ref 0 8 0 0)], [(saq10 s), some ⟨1, [[VI (List.length s.log : Int)]]⟩]⟩) (by kernel_rfl) (by kernel_rfl) ?_
  rcases Bool.eq_false_or_eq_true (wi s.known 0 (if s.sent < s.applied then s.sent else s.applied)) with h9 | h9
  rw [h9]
  have g9 : ((0 : Int) ≤ s.known ∧ (s.known : Int) ≤ (if s.sent < s.applied then s.sent else s.applied)) := wi_iff.1 h9
  refine EL.condF (by kernel_rfl) ?_
  refine EL.reg0 ?_
  refine OW.end 8 (x' := ⟨(46, .v (.bool (decide ((if s.sent > s.applied then s.sent else s.applied) > (List.length s.log : Int))))) :: (62, .v (.bool (decide ((if s.sent > s.applied then s.sent else s.applied) > (List.length s.log : Int))))) :: (61, VI (List.length s.log : Int)) :: (60, VI (if s.sent > s.applied then s.sent else s.applied)) :: (saq75 s), [(saq10 s), some ⟨1, [[VI (List.length s.log : Int)]]⟩]⟩) (by kernel_rfl) (by kernel_rfl) ?_
  refine thenL_norm ?_
  rcases Bool.eq_false_or_eq_true (decide ((if s.sent > s.applied then s.sent else s.applied) > (List.length s.log : Int))) with h10 | h10
  rw [h10]
  have g10 : ((if s.sent > s.applied then s.sent else s.applied) > (List.length s.log : Int)) := of_decide_eq_true h10
  refine EL.condT (by kernel_rfl) ?_
  refine EL.sreg ?_
  refine OW.last 1 [2] (x' := ⟨[(2, VI 4)], [(saq10 s), some ⟨1, [[VI (List.length s.log : Int)]]⟩]⟩) (by kernel_rfl) (by kernel_rfl) ?_
  refine EL.ret ?_
  refine inBlk_ret ?_
  refine thenL_ret ?_
  refine ⟨.inr rfl, VI 4, by kernel_rfl, Ale.of_eq ?_⟩
  focus ((refine congrArg (fun n => VI n) ?_; clear hx; first | (simp [Ship.checkE, *]; done) | (simp [Ship.checkE, *]; omega) | (simp_all [Ship.checkE]; done) | (simp_all [Ship.checkE]; omega)))
  rw [h10]
  have g10 : ¬ ((if s.sent > s.applied then s.sent else s.applied) > (List.length s.log : Int)) := of_decide_eq_false h10
  refine EL.condF (by kernel_rfl) ?_
  refine EL.seq ?_
  refine EL.sreg ?_
  refine OW.run 3 (x' := ⟨(66, .fn 40 [.ref 1 1 0 0]) :: (65, .lst 1 (s.there.map cI)) :: (64, .ref 0 8 0 6) :: (46, .v (.bool false)) :: (62, .v (.bool false)) :: (61, VI (List.length s.log : Int)) :: (60, VI (if s.sent > s.applied then s.sent else s.applied)) :: (saq75 s), [(saq10 s), some ⟨1, [[VI (List.length s.log : Int)]]⟩]⟩) (by kernel_rfl) ?_
  refine OW.fn (ar := [.lst 1 (s.there.map cI), .fn 40 [.ref 1 1 0 0]]) (x' := ⟨(67, .v (.bool (s.there.any (fun i => !wi i 1 (List.length s.log : Int))))) :: (66, .fn 40 [.ref 1 1 0 0]) :: (65, .lst 1 (s.there.map cI)) :: (64, .ref 0 8 0 6) :: (46, .v (.bool false)) :: (62, .v (.bool false)) :: (61, VI (List.length s.log : Int)) :: (60, VI (if s.sent > s.applied then s.sent else s.applied)) :: (saq75 s), [(saq10 s), some ⟨1, [[VI (List.length s.log : Int)]]⟩]⟩) (by kernel_rfl) (by kernel_rfl) F39_call (any_there s.there (List.length s.log : Int) (by omega)) (by kernel_rfl) (by kernel_rfl) ?_
  refine OW.last 1 [1, 63] (x' := ⟨[(63, .v (.bool (s.there.any (fun i => !wi i 1 (List.length s.log : Int))))), (1, .ref 0 8 0 0)], [(saq10 s), some ⟨1, [[VI (List.length s.log : Int)]]⟩]⟩) (by kernel_rfl) (by kernel_rfl) ?_
  rcases Bool.eq_false_or_eq_true (s.there.any (fun i => !wi i 1 (List.length s.log : Int))) with h11 | h11
  rw [h11]
  refine EL.condT (by kernel_rfl) ?_
  refine EL.skip ?_
  refine thenL_norm ?_
  refine EL.condT (by kernel_rfl) ?_
  refine EL.sreg ?_
  refine OW.last 1 [2] (x' := ⟨[(2, VI 3)], [(saq10 s), some ⟨1, [[VI (List.length s.log : Int)]]⟩]⟩) (by kernel_rfl) (by kernel_rfl) ?_
  refine EL.ret ?_
  refine inBlk_ret ?_
  refine thenL_ret ?_
  refine ⟨.inr rfl, VI 3, by kernel_rfl, Ale.of_eq ?_⟩
  focus ((refine congrArg (fun n => VI n) ?_; clear hx; first | (simp [Ship.checkE, *]; done) | (simp [Ship.checkE, *]; omega) | (simp_all [Ship.checkE]; done) | (simp_all [Ship.checkE]; omega)))
  rw [h11]
  refine EL.condF (by kernel_rfl) ?_
  refine EL.reg0 ?_
  refine OW.run 3 (x' := ⟨(saq76 s), [(saq10 s), some ⟨1, [[VI (List.length s.log : Int)]]⟩]⟩) (by kernel_rfl) ?_
  refine OW.fn (ar := [.lst 1 (s.back.map cI), .fn 41 [.ref 0 8 0 0]]) (x' := ⟨(71, .v (.bool (s.back.any (fun i => !wi i 0 s.applied)))) :: (saq76 s), [(saq10 s), some ⟨1, [[VI (List.length s.log : Int)]]⟩]⟩) (by kernel_rfl) (by kernel_rfl) F39_call (any_back s.back s (by omega)) (by kernel_rfl) (by kernel_rfl) ?_
  refine OW.end 1 (x' := ⟨(63, .v (.bool (s.back.any (fun i => !wi i 0 s.applied)))) :: (71, .v (.bool (s.back.any (fun i => !wi i 0 s.applied)))) :: (saq77 s), [(saq10 s), some ⟨1, [[VI (List.length s.log : Int)]]⟩]⟩) (by kernel_rfl) (by kernel_rfl) ?_
  refine thenL_norm ?_
  rcases Bool.eq_false_or_eq_true (s.back.any (fun i => !wi i 0 s.applied)) with h12 | h12
  rw [h12]
  refine EL.condT (by kernel_rfl) ?_
  refine EL.sreg ?_
  refine OW.last 1 [2] (x' := ⟨[(2, VI 3)], [(saq10 s), some ⟨1, [[VI (List.length s.log : Int)]]⟩]⟩) (by kernel_rfl) (by kernel_rfl) ?_
  refine EL.ret ?_
  refine inBlk_ret ?_
  refine thenL_ret ?_
  refine ⟨.inr rfl, VI 3, by kernel_rfl, Ale.of_eq ?_⟩
  focus ((refine congrArg (fun n => VI n) ?_; clear hx; first | (simp [Ship.checkE, *]; done) | (simp [Ship.checkE, *]; omega) | (simp_all [Ship.checkE]; done) | (simp_all [Ship.checkE]; omega)))
  rw [h12]
  refine EL.condF (by kernel_rfl) ?_
  refine EL.skip ?_
  refine inBlk_norm ?_
  refine thenL_norm ?_
  refine EL.sreg ?_
  refine OW.last 1 [2] (x' := ⟨[(2, VI 0)], [(saq10 s), some ⟨1, [[VI (List.length s.log : Int)]]⟩]⟩) (by kernel_rfl) (by kernel_rfl) ?_
  refine EL.ret ?_
  refine ⟨.inr rfl, VI 0, by kernel_rfl, Ale.of_eq ?_⟩
  focus ((refine congrArg (fun n => VI n) ?_; clear hx; first | (simp [Ship.checkE, *]; done) | (simp [Ship.checkE, *]; omega) | (simp_all [Ship.checkE]; done) | (simp_all [Ship.checkE]; omega)))
  rw [h9]
  have g9 : ¬ ((0 : Int) ≤ s.known ∧ (s.known : Int) ≤ (if s.sent < s.applied then s.sent else s.applied)) := fun hh => Bool.noConfusion ((wi_iff.2 hh).symm.trans h9)
  refine EL.condT (by kernel_rfl) ?_
  refine EL.skip ?_
  refine thenL_norm ?_
  refine EL.condT (by kernel_rfl) ?_
  refine EL.sreg ?_
  refine OW.last 1 [2] (x' := ⟨[(2, VI 4)], [(saq10 s), some ⟨1, [[VI (List.length s.log : Int)]]⟩]⟩) (by kernel_rfl) (by kernel_rfl) ?_
  refine EL.ret ?_
  refine inBlk_ret ?_
  refine thenL_ret ?_
  refine ⟨.inr rfl, VI 4, by kernel_rfl, Ale.of_eq ?_⟩
  focus ((refine congrArg (fun n => VI n) ?_; clear hx; first | (simp [Ship.checkE, *]; done) | (simp [Ship.checkE, *]; omega) | (simp_all [Ship.checkE]; done) | (simp_all [Ship.checkE]; omega)))
  rw [h1]
  have g1 : ¬ ((1 : Int) ≤ (List.length s.first : Int) ∧ ((List.length s.first : Int) : Int) ≤ 32) := fun hh => Bool.noConfusion ((wi_iff.2 hh).symm.trans h1)
  refine EL.condT (by kernel_rfl) ?_
  refine EL.sreg ?_
  refine OW.last 1 [2] (x' := ⟨[(2, VI 3)], [(saq10 s)]⟩) (by kernel_rfl) (by kernel_rfl) ?_
  refine EL.ret ?_
  refine inBlk_ret ?_
  refine thenL_ret ?_
  refine ⟨.inr rfl, VI 3, by kernel_rfl, Ale.of_eq ?_⟩
  focus ((refine congrArg (fun n => VI n) ?_; clear hx; first | (simp [Ship.checkE, *]; done) | (simp [Ship.checkE, *]; omega) | (simp_all [Ship.checkE]; done) | (simp_all [Ship.checkE]; omega)))
def Ship.zero : Ship := ⟨[], [], [], 0, 0, 0, [], []⟩
def Ship.newP (n : Int) : Ship × Int := if wi n 1 32 = true then (⟨List.replicate n.toNat ⟨#[]⟩, List.replicate n.toNat ⟨#[]⟩, [], 0, 0, 0, [], []⟩, 0) else (Ship.zero, 3)
abbrev saq78 (n : Int) : LS := [(8, VI n), (6, .v (.bool false)), (2, .ref 0 8 0 0), (0, VI n)]
abbrev saq79 (n : Int) : OB := some ⟨1, ((List.replicate (Int.toNat n) (⟨#[]⟩ : ByteArray)).map cZ)⟩
abbrev saq80 (n : Int) : LS := (9, .own 1 1 0 (List.length (List.replicate (Int.toNat n) (⟨#[]⟩ : ByteArray)))) :: (saq78 n)
abbrev saq81 (n : Int) : LS := (11, .own 2 1 0 (List.length (List.replicate (Int.toNat n) (⟨#[]⟩ : ByteArray)))) :: (10, VI n) :: (saq80 n)
abbrev saq82 (n : Int) : OB := some ⟨8, [[.own 1 1 0 (List.length (List.replicate (Int.toNat n) (⟨#[]⟩ : ByteArray))), .own 2 1 0 (List.length (List.replicate (Int.toNat n) (⟨#[]⟩ : ByteArray))), .emp, VI 0, VI 0, VI 0, .emp, .emp]]⟩
abbrev saq83 (n : Int) : AV := .agg [.lst 1 ((List.replicate (Int.toNat n) (⟨#[]⟩ : ByteArray)).map cZ), .lst 1 ((List.replicate (Int.toNat n) (⟨#[]⟩ : ByteArray)).map cZ), .lst 2 [], VI 0, VI 0, VI 0, .lst 1 [], .lst 1 []]
abbrev saq84 (n : Int) : AV := .agg [.own 1 1 0 (List.length (List.replicate (Int.toNat n) (⟨#[]⟩ : ByteArray))), .own 2 1 0 (List.length (List.replicate (Int.toNat n) (⟨#[]⟩ : ByteArray))), .emp, VI 0, VI 0, VI 0, .emp, .emp]
abbrev saq85 (n : Int) : AV := .agg [.lst 1 ((List.replicate (Int.toNat n) (⟨#[]⟩ : ByteArray)).map cZ), .lst 1 ((List.replicate (Int.toNat n) (⟨#[]⟩ : ByteArray)).map cZ), .emp, VI 0, VI 0, VI 0, .emp, .emp]
abbrev saq86 : AV := .agg [.lst 1 [], .lst 1 [], .lst 2 [], VI 0, VI 0, VI 0, .lst 1 [], .lst 1 []]
theorem new_fn (n : Int) : Fn Try.prog 11 [VI n] (.tup [.agg [.lst 1 ((((Ship.newP n).1).first).map cZ), .lst 1 ((((Ship.newP n).1).second).map cZ), .lst 2 ((((Ship.newP n).1).log).map Record.cs), VI (((Ship.newP n).1).sent), VI (((Ship.newP n).1).applied), VI (((Ship.newP n).1).known), .lst 1 ((((Ship.newP n).1).there).map cI), .lst 1 ((((Ship.newP n).1).back).map cI)], VI ((Ship.newP n).2)]) := by
  refine fn_walkW F11_ok (of_decide_eq_true (by kernel_rfl)) ?_
  refine EL.sreg ?_
  refine OW.last 2 [0, 2] (x' := ⟨[(2, .ref 0 8 0 0), (0, VI n)], [saq11]⟩) (by kernel_rfl) (by kernel_rfl) ?_
  refine EL.seq ?_
  refine EL.sreg ?_
  refine OW.run 1 (x' := ⟨[(4, VI n), (2, .ref 0 8 0 0), (0, VI n)], [saq11]⟩) (by kernel_rfl) ?_
  refine OW.fn (ar := [VI n, VI 1, VI 32]) (x' := ⟨[(5, .v (.bool (wi n 1 32))), (4, VI n), (2, .ref 0 8 0 0), (0, VI n)], [saq11]⟩) (by kernel_rfl) (by kernel_rfl) F31_call (within_fn n 1 32) (by kernel_rfl) (by kernel_rfl) ?_
  refine OW.last 1 [0, 2, 6] (x' := ⟨[(6, .v (.bool (!(wi n 1 32)))), (2, .ref 0 8 0 0), (0, VI n)], [saq11]⟩) (by kernel_rfl) (by kernel_rfl) ?_
  rcases Bool.eq_false_or_eq_true (wi n 1 32) with h1 | h1
  rw [h1]
  have g1 : ((1 : Int) ≤ n ∧ (n : Int) ≤ 32) := wi_iff.1 h1
  refine EL.condF (by kernel_rfl) ?_
  refine EL.skip ?_
  refine thenL_norm ?_
  refine EL.sdraw ?_
  refine DW.run 1 (x' := ⟨(saq78 n), [saq11]⟩) (by kernel_rfl) ?_
  refine DW.ope (v := .own 1 1 0 (List.length (List.replicate (Int.toNat n) (⟨#[]⟩ : ByteArray)))) (u := [(1, some ⟨1, ((List.replicate (Int.toNat n) (⟨#[]⟩ : ByteArray)).map cZ)⟩)]) (acc := []) (x' := ⟨(saq80 n), [saq11, (saq79 n)]⟩) (by kernel_rfl) (opE_msl cZ (⟨#[]⟩ : ByteArray) 1 16 [.v (.string (⟨#[]⟩))] (.s 8) (.s 8) .i64 .i64 n (by kernel_rfl) (by kernel_rfl) rfl rfl (by kernel_rfl) ⟨by omega, by omega⟩) (by kernel_rfl) ?_
  refine DW.run 1 (x' := ⟨(10, VI n) :: (saq80 n), [saq11, (saq79 n)]⟩) (by kernel_rfl) ?_
  refine DW.ope (v := .own 2 1 0 (List.length (List.replicate (Int.toNat n) (⟨#[]⟩ : ByteArray)))) (u := [(2, some ⟨1, ((List.replicate (Int.toNat n) (⟨#[]⟩ : ByteArray)).map cZ)⟩)]) (acc := []) (x' := ⟨(saq81 n), [saq11, (saq79 n), (saq79 n)]⟩) (by kernel_rfl) (opE_msl cZ (⟨#[]⟩ : ByteArray) 1 16 [.v (.string (⟨#[]⟩))] (.s 10) (.s 10) .i64 .i64 n (by kernel_rfl) (by kernel_rfl) rfl rfl (by kernel_rfl) ⟨by omega, by omega⟩) (by kernel_rfl) ?_
  refine DW.last 3 [2, 3] (x' := ⟨[(3, VI 0), (2, .ref 0 8 0 0)], [(saq82 n), (saq79 n), (saq79 n)]⟩) (by kernel_rfl) (by kernel_rfl) ?_
  refine EL.ret ?_
  refine ⟨.inr rfl, .tup [(saq85 n), VI 0], run_snap (r0 := .tup [(saq84 n), VI 0]) (by kernel_rfl) (snapR_tup (snapAs_cons (snapA_agg (snapL_cons (snap1_map cZ (List.replicate (Int.toNat n) (⟨#[]⟩ : ByteArray)) (by kernel_rfl) (by intro y; kernel_rfl) (by simp)) (snapL_cons (snap1_map cZ (List.replicate (Int.toNat n) (⟨#[]⟩ : ByteArray)) (by kernel_rfl) (by intro y; kernel_rfl) (by simp)) (snapL_cons (by kernel_rfl) (snapL_cons (by kernel_rfl) (snapL_cons (by kernel_rfl) (snapL_cons (by kernel_rfl) (snapL_cons (by kernel_rfl) (snapL_cons (by kernel_rfl) (rfl)))))))))) (snapAs_cons (by kernel_rfl) (snapAs_nil)))), Ale.trans (b := .tup [(saq83 n), VI 0]) (Ale.tup (.cons (Ale.agg (.cons (Ale.refl) (.cons (Ale.refl) (.cons (Ale.emp) (.cons (Ale.refl) (.cons (Ale.refl) (.cons (Ale.refl) (.cons (Ale.emp) (.cons (Ale.emp) (.nil)))))))))) (.cons (Ale.refl) (.nil)))) (Ale.of_eq ?_)⟩
  focus (simp [Ship.newP, Ship.zero, *])
  rw [h1]
  have g1 : ¬ ((1 : Int) ≤ n ∧ (n : Int) ≤ 32) := fun hh => Bool.noConfusion ((wi_iff.2 hh).symm.trans h1)
  refine EL.condT (by kernel_rfl) ?_
  refine EL.sreg ?_
  refine OW.last 3 [2, 3] (x' := ⟨[(3, VI 3), (2, .ref 0 8 0 0)], [saq11]⟩) (by kernel_rfl) (by kernel_rfl) ?_
  refine EL.ret ?_
  refine thenL_ret ?_
  refine ⟨.inr rfl, .tup [.agg [.emp, .emp, .emp, VI 0, VI 0, VI 0, .emp, .emp], VI 3], by kernel_rfl, Ale.trans (b := .tup [saq86, VI 3]) (Ale.tup (.cons (Ale.agg (.cons (Ale.emp) (.cons (Ale.emp) (.cons (Ale.emp) (.cons (Ale.refl) (.cons (Ale.refl) (.cons (Ale.refl) (.cons (Ale.emp) (.cons (Ale.emp) (.nil)))))))))) (.cons (Ale.refl) (.nil)))) (Ale.of_eq ?_)⟩
  focus (simp [Ship.newP, Ship.zero, *])
abbrev saq87 (l : List ByteArray) (n : Int) (s : ByteArray) : LS := [(0, .lst 1 (l.map cZ)), (1, VI n), (2, .v (.string s))]
abbrev saq88 (l : List ByteArray) (n : Int) (s : ByteArray) : LS := (10, .own 1 1 0 (List.length l)) :: (9, .lst 1 (l.map cZ)) :: (8, .own 0 1 0 0) :: (saq87 l n s)
abbrev saq89 (l : List ByteArray) (n : Int) (s : ByteArray) : LS := [(7, .own 1 1 0 (List.length l)), (1, VI n), (2, .v (.string s))]
abbrev saq90 (s : ByteArray) (n : Int) (l : List ByteArray) : LS := (13, .v (.string s)) :: (12, VI n) :: (11, .own 1 1 0 (List.length l)) :: (saq89 l n s)
theorem setText_fn (l : List ByteArray) (n : Int) (s : ByteArray) (hx : l.length ≤ 1000000) (hn : 0 ≤ n ∧ n < l.length) : Fn Try.prog 33 [.lst 1 (l.map cZ), VI n, .v (.string s)] (.lst 1 ((l.set n.toNat s).map cZ)) := by
  refine fn_walkW F33_ok (of_decide_eq_true (by kernel_rfl)) ?_
  refine EL.sreg ?_
  refine OW.last 1 [0, 1, 2] (x' := ⟨(saq87 l n s), []⟩) (by kernel_rfl) (by kernel_rfl) ?_
  refine EL.sreg ?_
  refine OW.run 2 (x' := ⟨(9, .lst 1 (l.map cZ)) :: (8, .own 0 1 0 0) :: (saq87 l n s), [some ⟨1, []⟩]⟩) (by kernel_rfl) ?_
  refine OW.ope (v := .own 1 1 0 (List.length l)) (u := [(0, none), (1, some ⟨1, (l.map cZ)⟩)]) (acc := [0]) (x' := ⟨(saq88 l n s), [none, some ⟨1, (l.map cZ)⟩]⟩) (by kernel_rfl) (opE_appO cZ ([] : List ByteArray) l (.s 8) (.s 9) 1 16 0 (.lst 1 (l.map cZ)) _ (by kernel_rfl) (by kernel_rfl) rfl (by kernel_rfl) rfl .lst (by simp; omega)) (by kernel_rfl) ?_
  refine OW.last 1 [1, 2, 7] (x' := ⟨(saq89 l n s), [none, some ⟨1, (l.map cZ)⟩]⟩) (by kernel_rfl) (by kernel_rfl) ?_
  refine EL.sreg ?_
  refine OW.run 3 (x' := ⟨(saq90 s n l), [none, some ⟨1, (l.map cZ)⟩]⟩) (by kernel_rfl) ?_
  obtain ⟨a2, ha2⟩ : ∃ y, l[(n : Int).toNat]? = some y := idx_ex ⟨by omega, by omega⟩
  refine OW.ope (v := .ref 1 1 (0 + Int.toNat n) 0) (u := []) (acc := [1]) (x' := ⟨(14, .ref 1 1 (0 + Int.toNat n) 0) :: (saq90 s n l), [none, some ⟨1, (l.map cZ)⟩]⟩) (by kernel_rfl) (opE_iado (.s 11) (.s 12) 1 1 0 (List.length l) .i64 n ⟨1, (l.map cZ)⟩ (by kernel_rfl) (by kernel_rfl) rfl rfl ⟨by omega, by omega⟩ (by kernel_rfl)) (by kernel_rfl) ?_
  refine OW.ope (v := .v undef) (u := [(1, some ⟨1, ((List.set l (0 + Int.toNat n) s).map cZ)⟩)]) (acc := [1]) (x' := ⟨(14, .ref 1 1 (0 + Int.toNat n) 0) :: (saq90 s n l), [none, some ⟨1, ((List.set l (0 + Int.toNat n) s).map cZ)⟩]⟩) (by kernel_rfl) (opE_stoS cZ l 1 (.s 14) (.s 13) 1 1 (0 + Int.toNat n) 0 a2 s (.v (.string s)) (by kernel_rfl) (by kernel_rfl) rfl rfl (by kernel_rfl) (by simpa using ha2) (by kernel_rfl) (by kernel_rfl)) (by kernel_rfl) ?_
  refine OW.last 0 [7] (x' := ⟨[(7, .own 1 1 0 (List.length l))], [none, some ⟨1, ((List.set l (0 + Int.toNat n) s).map cZ)⟩]⟩) (by kernel_rfl) (by kernel_rfl) ?_
  refine EL.sreg ?_
  refine OW.last 2 [6] (x' := ⟨[(6, .own 1 1 0 (List.length l))], [none, some ⟨1, ((List.set l (0 + Int.toNat n) s).map cZ)⟩]⟩) (by kernel_rfl) (by kernel_rfl) ?_
  refine EL.ret ?_
  refine ⟨.inr rfl, .lst 1 ((List.set l (0 + Int.toNat n) s).map cZ), run_snap (r0 := .own 1 1 0 (List.length l)) (by kernel_rfl) (snapA_map cZ (List.set l (0 + Int.toNat n) s) (by kernel_rfl) (by intro y; kernel_rfl) (by simp)), Ale.of_eq ?_⟩
  focus (simp)
abbrev saq91 (n : Int) (l : List Int) : LS := [(7, VI n), (6, .lst 1 (l.map cI)), (5, .own 0 1 0 0), (0, .lst 1 (l.map cI)), (1, VI n)]
abbrev saq92 (n : Int) (l : List Int) : LS := (8, .lst 1 (((List.take (n : Int).toNat l)).map cI)) :: (saq91 n l)
abbrev saq93 (n : Int) (l : List Int) : LS := (9, .own 1 1 0 (List.length (List.take (n : Int).toNat l))) :: (saq92 n l)
abbrev saq94 (l : List Int) (n : Int) : LS := (13, .lst 1 (((List.take ((List.length l) - ((n + 1) : Int).toNat) (List.drop ((n + 1) : Int).toNat l))).map cI)) :: (12, VI (n + 1)) :: (11, VI n) :: (10, .lst 1 (l.map cI)) :: (saq93 n l)
abbrev saq95 (n : Int) (l : List Int) : OB := some ⟨1, (((List.take (n : Int).toNat l) ++ (List.take ((List.length l) - ((n + 1) : Int).toNat) (List.drop ((n + 1) : Int).toNat l))).map cI)⟩
abbrev saq96 (n : Int) (l : List Int) : LS := (14, .own 2 1 0 (List.length ((List.take (n : Int).toNat l) ++ (List.take ((List.length l) - ((n + 1) : Int).toNat) (List.drop ((n + 1) : Int).toNat l))))) :: (saq94 l n)
theorem without_fn (l : List Int) (n : Int) (hx : l.length ≤ 1000000) (hn : 0 ≤ n ∧ n < l.length) : Fn Try.prog 34 [.lst 1 (l.map cI), VI n] (.lst 1 ((l.take n.toNat ++ l.drop (n.toNat + 1)).map cI)) := by
  refine fn_walkW F34_ok (of_decide_eq_true (by kernel_rfl)) ?_
  refine EL.sreg ?_
  refine OW.last 1 [0, 1] (x' := ⟨[(0, .lst 1 (l.map cI)), (1, VI n)], []⟩) (by kernel_rfl) (by kernel_rfl) ?_
  refine EL.sdraw ?_
  refine DW.run 3 (x' := ⟨(saq91 n l), [some ⟨1, []⟩]⟩) (by kernel_rfl) ?_
  refine DW.ope (v := .lst 1 (((List.take (n : Int).toNat l)).map cI)) (u := []) (acc := []) (x' := ⟨(saq92 n l), [some ⟨1, []⟩]⟩) (by kernel_rfl) (opE_slc cI l (.s 6) none (some (.s 7)) 1 0 (n : Int).toNat (by kernel_rfl) (by kernel_rfl) (.inl rfl) (by simp [optNat, natOf, argσ, slot] <;> omega) (by simp [optNat, natOf, argσ, slot] <;> omega) (by omega)) (by kernel_rfl) ?_
  refine DW.ope (v := .own 1 1 0 (List.length (List.take (n : Int).toNat l))) (u := [(0, none), (1, some ⟨1, ((List.take (n : Int).toNat l).map cI)⟩)]) (acc := [0]) (x' := ⟨(saq93 n l), [none, some ⟨1, ((List.take (n : Int).toNat l).map cI)⟩]⟩) (by kernel_rfl) (opE_appO cI ([] : List Int) (List.take (n : Int).toNat l) (.s 5) (.s 8) 1 8 0 (.lst 1 (((List.take (n : Int).toNat l)).map cI)) _ (by kernel_rfl) (by kernel_rfl) rfl (by kernel_rfl) rfl .lst (by simp; omega)) (by kernel_rfl) ?_
  refine DW.run 3 (x' := ⟨(12, VI (IntKind.i64.wrap (n + 1))) :: (11, VI n) :: (10, .lst 1 (l.map cI)) :: (saq93 n l), [none, some ⟨1, ((List.take (n : Int).toNat l).map cI)⟩]⟩) (by kernel_rfl) ?_
  have e1 : IntKind.i64.wrap (n + 1) = n + 1 := wr64 (by omega)
  rw [e1]
  refine DW.ope (v := .lst 1 (((List.take ((List.length l) - ((n + 1) : Int).toNat) (List.drop ((n + 1) : Int).toNat l))).map cI)) (u := []) (acc := []) (x' := ⟨(saq94 l n), [none, some ⟨1, ((List.take (n : Int).toNat l).map cI)⟩]⟩) (by kernel_rfl) (opE_slc cI l (.s 10) (some (.s 12)) none 1 ((n + 1) : Int).toNat (List.length l) (by kernel_rfl) (by kernel_rfl) (.inl rfl) (by simp [optNat, natOf, argσ, slot] <;> omega) (by simp [optNat, natOf, argσ, slot] <;> omega) (by omega)) (by kernel_rfl) ?_
  refine DW.ope (v := .own 2 1 0 (List.length ((List.take (n : Int).toNat l) ++ (List.take ((List.length l) - ((n + 1) : Int).toNat) (List.drop ((n + 1) : Int).toNat l))))) (u := [(1, none), (2, some ⟨1, (((List.take (n : Int).toNat l) ++ (List.take ((List.length l) - ((n + 1) : Int).toNat) (List.drop ((n + 1) : Int).toNat l))).map cI)⟩)]) (acc := [1]) (x' := ⟨(saq96 n l), [none, none, (saq95 n l)]⟩) (by kernel_rfl) (opE_appO cI (List.take (n : Int).toNat l) (List.take ((List.length l) - ((n + 1) : Int).toNat) (List.drop ((n + 1) : Int).toNat l)) (.s 9) (.s 13) 1 8 1 (.lst 1 (((List.take ((List.length l) - ((n + 1) : Int).toNat) (List.drop ((n + 1) : Int).toNat l))).map cI)) _ (by kernel_rfl) (by kernel_rfl) rfl (by kernel_rfl) rfl .lst (by simp; omega)) (by kernel_rfl) ?_
  refine DW.last 1 [4] (x' := ⟨[(4, .own 2 1 0 (List.length ((List.take (n : Int).toNat l) ++ (List.take ((List.length l) - ((n + 1) : Int).toNat) (List.drop ((n + 1) : Int).toNat l)))))], [none, none, (saq95 n l)]⟩) (by kernel_rfl) (by kernel_rfl) ?_
  refine EL.ret ?_
  refine ⟨.inr rfl, .lst 1 (((List.take (n : Int).toNat l) ++ (List.take ((List.length l) - ((n + 1) : Int).toNat) (List.drop ((n + 1) : Int).toNat l))).map cI), run_snap (r0 := .own 2 1 0 (List.length ((List.take (n : Int).toNat l) ++ (List.take ((List.length l) - ((n + 1) : Int).toNat) (List.drop ((n + 1) : Int).toNat l))))) (by kernel_rfl) (snapA_map cI ((List.take (n : Int).toNat l) ++ (List.take ((List.length l) - ((n + 1) : Int).toNat) (List.drop ((n + 1) : Int).toNat l))) (by kernel_rfl) (by intro y; kernel_rfl) (by simp)), Ale.of_eq ?_⟩
  focus ((have h1 : (n + 1).toNat = n.toNat + 1 := (by omega); simp [h1]; exact List.take_of_length_le (by simp)))
abbrev saq97 (xs : List Int) (ys : List Int) : LS := [(6, .lst 1 (xs.map cI)), (0, .lst 1 (xs.map cI)), (1, .lst 1 (ys.map cI))]
abbrev saq98 (ys : List Int) (xs : List Int) : LS := (8, .lst 1 (ys.map cI)) :: (7, VI (List.length xs : Int)) :: (saq97 xs ys)
abbrev saq99 (xs : List Int) (ys : List Int) : LS := [(5, VI 0), (0, .lst 1 (xs.map cI)), (1, .lst 1 (ys.map cI))]
abbrev saq100 (xs : List Int) (ys : List Int) (k : Nat) : LS := [(0, .lst 1 (xs.map cI)), (1, .lst 1 (ys.map cI)), (5, VI (k : Int))]
abbrev saq101 (xs : List Int) (k : Nat) (ys : List Int) : LS := (12, .lst 1 (xs.map cI)) :: (11, VI (k : Int)) :: (saq100 xs ys k)
abbrev saq102 (k : Nat) (xs : List Int) (ys : List Int) : LS := (18, VI (k : Int)) :: (17, .lst 1 (xs.map cI)) :: (14, .v (.bool true)) :: (saq100 xs ys k)
abbrev saq103 (k : Nat) (ys : List Int) (a5 : Int) (xs : List Int) : LS := (22, VI (k : Int)) :: (21, .lst 1 (ys.map cI)) :: (20, VI a5) :: (19, .pim [VI a5] 0) :: (saq102 k xs ys)
abbrev saq104 (k : Nat) (xs : List Int) (ys : List Int) : LS := [(15, VI (k : Int)), (25, .v (.bool false)), (0, .lst 1 (xs.map cI)), (1, .lst 1 (ys.map cI))]
abbrev saq105 (k : Nat) (xs : List Int) (ys : List Int) : LS := (5, VI ((k : Int) + 1)) :: (16, VI ((k : Int) + 1)) :: (saq104 k xs ys)
theorem sameInts_fn (xs : List Int) (ys : List Int) (hx : xs.length ≤ 9223372036854775807) : Fn Try.prog 35 [.lst 1 (xs.map cI), .lst 1 (ys.map cI)] (.v (.bool (decide (xs = ys)))) := by
  refine fn_walkW F35_ok (of_decide_eq_true (by kernel_rfl)) ?_
  refine EL.sreg ?_
  refine OW.last 1 [0, 1] (x' := ⟨[(0, .lst 1 (xs.map cI)), (1, .lst 1 (ys.map cI))], []⟩) (by kernel_rfl) (by kernel_rfl) ?_
  refine EL.seq ?_
  refine EL.sreg ?_
  refine OW.run 1 (x' := ⟨(saq97 xs ys), []⟩) (by kernel_rfl) ?_
  refine OW.ope (v := VI (List.length xs : Int)) (u := []) (acc := []) (x' := ⟨(7, VI (List.length xs : Int)) :: (saq97 xs ys), []⟩) (by kernel_rfl) (opE_len cI xs (.s 6) 1 (by kernel_rfl) (by kernel_rfl) (.inl rfl)) (by kernel_rfl) ?_
  refine OW.run 1 (x' := ⟨(saq98 ys xs), []⟩) (by kernel_rfl) ?_
  refine OW.ope (v := VI (List.length ys : Int)) (u := []) (acc := []) (x' := ⟨(9, VI (List.length ys : Int)) :: (saq98 ys xs), []⟩) (by kernel_rfl) (opE_len cI ys (.s 8) 1 (by kernel_rfl) (by kernel_rfl) (.inl rfl)) (by kernel_rfl) ?_
  refine OW.last 1 [0, 1, 10] (x' := ⟨[(10, .v (.bool ((List.length xs : Int) != (List.length ys : Int)))), (0, .lst 1 (xs.map cI)), (1, .lst 1 (ys.map cI))], []⟩) (by kernel_rfl) (by kernel_rfl) ?_
  rcases Bool.eq_false_or_eq_true (((List.length xs : Int) != (List.length ys : Int))) with h1 | h1
  rw [h1]
  have g1 : ¬ ((List.length xs : Int) = (List.length ys : Int)) := by simpa using h1
  have n1 : ¬ ((List.length xs) = (List.length ys)) := by omega
  refine EL.condT (by kernel_rfl) ?_
  refine EL.sreg ?_
  refine OW.last 1 [4] (x' := ⟨[(4, .v (.bool false))], []⟩) (by kernel_rfl) (by kernel_rfl) ?_
  refine EL.ret ?_
  refine thenL_ret ?_
  refine ⟨.inr rfl, .v (.bool false), by kernel_rfl, Ale.of_eq ?_⟩
  focus ((refine congrArg (fun b => AV.v (Value.bool b)) ?_; first | (have hne : xs ≠ ys := (fun h => by subst h; omega); simp [hne]; done) | (rw [hs, List.drop_eq_nil_of_le (by omega), List.drop_eq_nil_of_le (by omega)]; simp; done) | (rw [hs]; simp [*]; done)))
  rw [h1]
  have g1 : ((List.length xs : Int) = (List.length ys : Int)) := by simpa using h1
  have n1 : ((List.length xs) = (List.length ys)) := by omega
  refine EL.condF (by kernel_rfl) ?_
  refine EL.skip ?_
  refine thenL_norm ?_
  refine EL.seq ?_
  refine EL.sreg ?_
  refine OW.last 1 [0, 1, 5] (x' := ⟨(saq99 xs ys), []⟩) (by kernel_rfl) (by kernel_rfl) ?_
  refine EL.block ?_
  refine EL.loopN (fun m x => ∃ (k : Nat), m = xs.length - k ∧ (k ≤ xs.length ∧ xs.length = ys.length ∧ decide (xs = ys) = decide (xs.drop k = ys.drop k)) ∧ x = ⟨(saq100 xs ys k), []⟩) (y := (fun (k : Nat) => (⟨(saq100 xs ys k), []⟩ : L3)) 0) [0, 1, 5] [] [] (by kernel_rfl) trivial ⟨0, rfl, by simp; omega, rfl⟩ ?_
  rintro _ _ ⟨k, rfl, hI2, rfl⟩
  obtain ⟨hk, hl, hs⟩ := hI2
  refine EL.seq ?_
  refine EL.sreg ?_
  refine OW.run 2 (x' := ⟨(saq101 xs k ys), []⟩) (by kernel_rfl) ?_
  refine OW.ope (v := VI (List.length xs : Int)) (u := []) (acc := []) (x' := ⟨(13, VI (List.length xs : Int)) :: (saq101 xs k ys), []⟩) (by kernel_rfl) (opE_len cI xs (.s 12) 1 (by kernel_rfl) (by kernel_rfl) (.inl rfl)) (by kernel_rfl) ?_
  refine OW.last 1 [0, 1, 5, 14] (x' := ⟨(14, .v (.bool (decide ((k : Int) < (List.length xs : Int))))) :: (saq100 xs ys k), []⟩) (by kernel_rfl) (by kernel_rfl) ?_
  rcases Bool.eq_false_or_eq_true (decide ((k : Int) < (List.length xs : Int))) with h3 | h3
  rw [h3]
  have g3 : ((k : Int) < (List.length xs : Int)) := of_decide_eq_true h3
  have n3 : ((k) < (List.length xs)) := by omega
  refine EL.condT (by kernel_rfl) ?_
  refine EL.skip ?_
  refine thenL_norm ?_
  refine EL.seq ?_
  refine EL.block ?_
  refine EL.sdraw ?_
  refine DW.run 2 (x' := ⟨(saq102 k xs ys), []⟩) (by kernel_rfl) ?_
  obtain ⟨a5, ha5⟩ : ∃ y, xs[((k : Int) : Int).toNat]? = some y := idx_ex ⟨by omega, by omega⟩
  have iha5 : xs[k]? = some a5 := by simpa using ha5
  have dha5 := drop_get iha5
  refine DW.ope (v := .pim [VI a5] 0) (u := []) (acc := []) (x' := ⟨(19, .pim [VI a5] 0) :: (saq102 k xs ys), []⟩) (by kernel_rfl) (opE_iad cI xs (.s 17) (.s 18) 1 .i64 (k : Int) a5 (by kernel_rfl) (by kernel_rfl) (.inl rfl) rfl (by omega) ha5) (by kernel_rfl) ?_
  refine DW.run 3 (x' := ⟨(saq103 k ys a5 xs), []⟩) (by kernel_rfl) ?_
  obtain ⟨a7, ha7⟩ : ∃ y, ys[((k : Int) : Int).toNat]? = some y := idx_ex ⟨by omega, by omega⟩
  have iha7 : ys[k]? = some a7 := by simpa using ha7
  have dha7 := drop_get iha7
  refine DW.ope (v := .pim [VI a7] 0) (u := []) (acc := []) (x' := ⟨(23, .pim [VI a7] 0) :: (saq103 k ys a5 xs), []⟩) (by kernel_rfl) (opE_iad cI ys (.s 21) (.s 22) 1 .i64 (k : Int) a7 (by kernel_rfl) (by kernel_rfl) (.inl rfl) rfl (by omega) ha7) (by kernel_rfl) ?_
  refine DW.last 2 [0, 1, 5, 25] (x' := ⟨(25, .v (.bool (a5 != a7))) :: (saq100 xs ys k), []⟩) (by kernel_rfl) (by kernel_rfl) ?_
  rcases Bool.eq_false_or_eq_true ((a5 != a7)) with h8 | h8
  rw [h8]
  have g8 : ¬ (a5 = a7) := by simpa using h8
  refine EL.condT (by kernel_rfl) ?_
  refine EL.sreg ?_
  refine OW.last 1 [4] (x' := ⟨[(4, .v (.bool false))], []⟩) (by kernel_rfl) (by kernel_rfl) ?_
  refine EL.ret ?_
  refine inBlk_ret ?_
  refine thenL_ret ?_
  refine thenL_ret ?_
  refine inBlk_ret ?_
  refine thenL_ret ?_
  refine ⟨.inr rfl, .v (.bool false), by kernel_rfl, Ale.of_eq ?_⟩
  focus ((refine congrArg (fun b => AV.v (Value.bool b)) ?_; first | (have hne : xs ≠ ys := (fun h => by subst h; omega); simp [hne]; done) | (rw [hs, List.drop_eq_nil_of_le (by omega), List.drop_eq_nil_of_le (by omega)]; simp; done) | (rw [hs]; simp [*]; done)))
  rw [h8]
  have g8 : (a5 = a7) := by simpa using h8
  refine EL.condF (by kernel_rfl) ?_
  refine EL.skip ?_
  refine inBlk_norm ?_
  refine thenL_norm ?_
  refine EL.reg0 ?_
  refine OW.run 3 (x' := ⟨(5, VI (IntKind.i64.wrap ((k : Int) + 1))) :: (16, VI (IntKind.i64.wrap ((k : Int) + 1))) :: (saq104 k xs ys), []⟩) (by kernel_rfl) ?_
  have e9 : IntKind.i64.wrap ((k : Int) + 1) = (k : Int) + 1 := wr64 (by omega)
  rw [e9]
  refine OW.end 0 (x' := ⟨(saq105 k xs ys), []⟩) (by kernel_rfl) (by kernel_rfl) ?_
  refine thenL_norm ?_
  refine round_end (live := [0, 1, 5]) (src := []) (es := []) (y := (fun (k : Nat) => (⟨(saq100 xs ys k), []⟩ : L3)) (k + 1)) ?_ trivial ?_ ⟨(k + 1), rfl, ?_, rfl⟩
  kernel_rfl
  omega
  focus (refine ⟨by omega, by omega, ?_⟩; rw [hs]; simp [*])
  rw [h3]
  have g3 : ¬ ((k : Int) < (List.length xs : Int)) := of_decide_eq_false h3
  have n3 : ¬ ((k) < (List.length xs)) := by omega
  refine EL.condF (by kernel_rfl) ?_
  refine EL.exit ?_
  refine thenL_exit ?_
  refine thenL_exit ?_
  refine inBlk_hit ?_
  refine thenL_norm ?_
  refine EL.sreg ?_
  refine OW.last 1 [4] (x' := ⟨[(4, .v (.bool true))], []⟩) (by kernel_rfl) (by kernel_rfl) ?_
  refine EL.ret ?_
  refine ⟨.inr rfl, .v (.bool true), by kernel_rfl, Ale.of_eq ?_⟩
  focus ((refine congrArg (fun b => AV.v (Value.bool b)) ?_; first | (have hne : xs ≠ ys := (fun h => by subst h; omega); simp [hne]; done) | (rw [hs, List.drop_eq_nil_of_le (by omega), List.drop_eq_nil_of_le (by omega)]; simp; done) | (rw [hs]; simp [*]; done)))
abbrev lng : ByteArray → Bool := fun z => decide (z.size > 64)
theorem Ship.checkE_3a {s : Ship} (h : ¬ (1 ≤ (s.first.length : Int) ∧ (s.first.length : Int) ≤ 32)) : s.checkE = 3 := by
  unfold Ship.checkE; rw [if_neg fun hh => h (wi_iff.1 hh)]
theorem Ship.checkE_1 {s : Ship} (h : 1 ≤ (s.first.length : Int) ∧ (s.first.length : Int) ≤ 32) (h1 : ¬ s.second.length = s.first.length) : s.checkE = 1 := by
  unfold Ship.checkE; rw [if_pos (wi_iff.2 h), if_neg h1]
theorem Ship.checkE_2 {s : Ship} (h : 1 ≤ (s.first.length : Int) ∧ (s.first.length : Int) ≤ 32) (h1 : s.second.length = s.first.length) (h2 : (s.first.any lng || s.second.any lng) = true ∨ s.log.length > 60 ∨ s.there.length > 60 ∨ s.back.length > 60) : s.checkE = 2 := by
  unfold Ship.checkE
  rw [if_pos (wi_iff.2 h), if_pos h1, if_pos]
  rcases h2 with h2 | h2
  · rw [Bool.or_eq_true] at h2
    rcases h2 with h2 | h2
    · exact .inl h2
    · exact .inr (.inl h2)
  · exact .inr (.inr h2)
/-- What holds when nothing is too long. -/
structure Ship.Fits (s : Ship) : Prop where
  h : 1 ≤ (s.first.length : Int) ∧ (s.first.length : Int) ≤ 32
  h1 : s.second.length = s.first.length
  h2 : (s.first.any lng || s.second.any lng) = false
  h3 : ¬ s.log.length > 60 ∧ ¬ s.there.length > 60 ∧ ¬ s.back.length > 60
theorem Ship.Fits.step {s : Ship} (f : s.Fits) : s.checkE = (if Ship.recE s.first.length s.log = 0 then (
      if ¬ wi s.known 0 (if s.sent < s.applied then s.sent else s.applied) = true ∨ (if s.sent > s.applied then s.sent else s.applied) > s.log.length then 4
      else if s.there.any (fun i => !wi i 1 s.log.length) = true ∨ s.back.any (fun i => !wi i 0 s.applied) = true then 3 else 0)
    else Ship.recE s.first.length s.log) := by
  have h2 := f.h2
  rw [Bool.or_eq_false_iff] at h2
  unfold Ship.checkE
  rw [if_pos (wi_iff.2 f.h), if_pos f.h1, if_neg]
  rintro (h | h | h | h | h)
  · rw [h2.1] at h; simp at h
  · rw [h2.2] at h; simp at h
  · exact f.h3.1 h
  · exact f.h3.2.1 h
  · exact f.h3.2.2 h
theorem Ship.Fits.recs {s : Ship} (f : s.Fits) {e : Int} (h : Ship.recE s.first.length s.log = e) (he : e ≠ 0) : s.checkE = e := by
  rw [f.step, if_neg (by rw [h]; exact he), h]
theorem Ship.Fits.four {s : Ship} (f : s.Fits) (h : Ship.recE s.first.length s.log = 0) (h4 : ¬ (0 ≤ s.known ∧ s.known ≤ s.applied ∧ s.known ≤ s.sent) ∨ s.applied > s.log.length ∨ s.sent > s.log.length) : s.checkE = 4 := by
  rw [f.step, if_pos h, if_pos]
  rw [wi_iff]
  (repeat' split) <;> omega
theorem Ship.Fits.last {s : Ship} (f : s.Fits) (h : Ship.recE s.first.length s.log = 0) (h4 : (0 ≤ s.known ∧ s.known ≤ s.applied ∧ s.known ≤ s.sent) ∧ ¬ s.applied > s.log.length ∧ ¬ s.sent > s.log.length) : s.checkE = if s.there.any (fun i => !wi i 1 s.log.length) = true ∨ s.back.any (fun i => !wi i 0 s.applied) = true then 3 else 0 := by
  rw [f.step, if_pos h, if_neg]
  rw [wi_iff]
  (repeat' split) <;> omega
abbrev saq106 (s : Ship) : LS := [(8, .lst 1 (s.first.map cZ)), (7, .ref 0 8 0 0), (1, .ref 0 8 0 0)]
abbrev saq107 (s : Ship) : LS := (13, .lst 1 (s.first.map cZ)) :: (12, .ref 0 8 0 0) :: (11, .v (.bool false)) :: (10, .v (.bool false)) :: (9, VI (List.length s.first : Int)) :: (saq106 s)
abbrev saq108 (s : Ship) : LS := [(18, .lst 1 (s.second.map cZ)), (17, .ref 0 8 0 1), (16, .v (.bool false)), (1, .ref 0 8 0 0)]
abbrev saq109 (s : Ship) : LS := (21, .lst 1 (s.first.map cZ)) :: (20, .ref 0 8 0 0) :: (19, VI (List.length s.second : Int)) :: (saq108 s)
abbrev saq110 (s : Ship) : LS := [(25, .lst 2 (s.log.map Record.cs)), (24, .ref 0 8 0 2), (23, .v (.bool false)), (1, .ref 0 8 0 0)]
abbrev saq111 (s : Ship) : LS := (30, .lst 1 (s.there.map cI)) :: (29, .ref 0 8 0 6) :: (28, .v (.bool false)) :: (27, .v (.bool false)) :: (26, VI (List.length s.log : Int)) :: (saq110 s)
abbrev saq112 (s : Ship) : LS := (36, .lst 1 (s.back.map cI)) :: (35, .ref 0 8 0 7) :: (34, .v (.bool false)) :: (33, .v (.bool false)) :: (32, .v (.bool false)) :: (31, VI (List.length s.there : Int)) :: (saq111 s)
abbrev saq113 (s : Ship) (k : Nat) : LS := [(42, .lst 1 (s.first.map cZ)), (41, .ref 0 8 0 0), (40, VI (k : Int)), (1, .ref 0 8 0 0), (3, VI (k : Int))]
abbrev saq114 (k : Nat) (s : Ship) : LS := [(49, VI (k : Int)), (48, .lst 1 (s.first.map cZ)), (47, .ref 0 8 0 0), (44, .v (.bool true)), (1, .ref 0 8 0 0), (3, VI (k : Int))]
abbrev saq115 (a10 : ByteArray) (k : Nat) (s : Ship) : LS := (52, VI (ByteArray.size a10 : Int)) :: (51, .v (.string a10)) :: (50, .pim [.v (.string a10)] 0) :: (saq114 k s)
abbrev saq116 (k : Nat) : LS := [(62, .v (.bool true)), (1, .ref 0 8 0 0), (3, VI (k : Int))]
abbrev saq117 (k : Nat) (s : Ship) (a10 : ByteArray) : LS := (57, VI (k : Int)) :: (56, .lst 1 (s.second.map cZ)) :: (55, .ref 0 8 0 1) :: (54, .v (.bool false)) :: (53, .v (.bool false)) :: (saq115 a10 k s)
abbrev saq118 (k : Nat) : LS := [(45, VI (k : Int)), (62, .v (.bool false)), (1, .ref 0 8 0 0)]
abbrev saq119 (k : Nat) : LS := (3, VI ((k : Int) + 1)) :: (46, VI ((k : Int) + 1)) :: (saq118 k)
abbrev saq120 (s : Ship) (i : Nat) : LS := [(65, .lst 2 (s.log.map Record.cs)), (64, .ref 0 8 0 2), (63, VI (i : Int)), (1, .ref 0 8 0 0), (4, VI (i : Int))]
abbrev saq121 (i : Nat) (s : Ship) : LS := [(72, VI (i : Int)), (71, .lst 2 (s.log.map Record.cs)), (70, .ref 0 8 0 2), (67, .v (.bool true)), (1, .ref 0 8 0 0), (4, VI (i : Int))]
abbrev saq122 (a19 : Record) (i : Nat) (s : Ship) : LS := (73, .pim [VI a19.block, .v (.string a19.data)] 0) :: (saq121 i s)
abbrev saq123 (a19 : Record) (i : Nat) (s : Ship) : LS := (75, VI a19.block) :: (74, .pim [VI a19.block, .v (.string a19.data)] 0) :: (saq122 a19 i s)
abbrev saq124 (i : Nat) : LS := [(88, .v (.bool true)), (1, .ref 0 8 0 0), (4, VI (i : Int))]
abbrev saq125 (i : Nat) (s : Ship) (a19 : Record) : LS := (80, VI (i : Int)) :: (79, .lst 2 (s.log.map Record.cs)) :: (78, .ref 0 8 0 2) :: (77, .v (.bool false)) :: (76, .v (.bool false)) :: (saq123 a19 i s)
abbrev saq126 (a19 : Record) (i : Nat) (s : Ship) : LS := (81, .pim [VI a19.block, .v (.string a19.data)] 0) :: (saq125 i s a19)
abbrev saq127 (s : Ship) (a19 : Record) (i : Nat) : LS := (85, .lst 1 (s.first.map cZ)) :: (84, .ref 0 8 0 0) :: (83, VI a19.block) :: (82, .pim [VI a19.block, .v (.string a19.data)] 0) :: (saq126 a19 i s)
abbrev saq128 (i : Nat) (s : Ship) : LS := [(91, VI (i : Int)), (90, .lst 2 (s.log.map Record.cs)), (89, .ref 0 8 0 2), (88, .v (.bool false)), (1, .ref 0 8 0 0), (4, VI (i : Int))]
abbrev saq129 (a19 : Record) (i : Nat) (s : Ship) : LS := (92, .pim [VI a19.block, .v (.string a19.data)] 0) :: (saq128 i s)
abbrev saq130 (i : Nat) : LS := [(68, VI (i : Int)), (96, .v (.bool false)), (1, .ref 0 8 0 0)]
abbrev saq131 (i : Nat) : LS := (4, VI ((i : Int) + 1)) :: (69, VI ((i : Int) + 1)) :: (saq130 i)
abbrev saq132 (s : Ship) (i : Nat) : LS := [(98, VI s.known), (97, .ref 0 8 0 5), (67, .v (.bool false)), (1, .ref 0 8 0 0), (4, VI (i : Int))]
abbrev saq133 (s : Ship) (i : Nat) : LS := (104, VI s.applied) :: (103, .ref 0 8 0 4) :: (102, VI s.known) :: (101, .ref 0 8 0 5) :: (100, .v (.bool false)) :: (99, .v (.bool false)) :: (saq132 s i)
abbrev saq134 (s : Ship) (i : Nat) : LS := (111, VI s.sent) :: (110, .ref 0 8 0 3) :: (109, VI s.known) :: (108, .ref 0 8 0 5) :: (107, .v (.bool false)) :: (106, .v (.bool false)) :: (105, .v (.bool false)) :: (saq133 s i)
abbrev saq135 (s : Ship) (i : Nat) : LS := (118, .lst 2 (s.log.map Record.cs)) :: (117, .ref 0 8 0 2) :: (116, VI s.applied) :: (115, .ref 0 8 0 4) :: (114, .v (.bool false)) :: (113, .v (.bool false)) :: (112, .v (.bool false)) :: (saq134 s i)
abbrev saq136 (s : Ship) (i : Nat) : LS := (126, .lst 2 (s.log.map Record.cs)) :: (125, .ref 0 8 0 2) :: (124, VI s.sent) :: (123, .ref 0 8 0 3) :: (122, .v (.bool false)) :: (121, .v (.bool false)) :: (120, .v (.bool false)) :: (119, VI (List.length s.log : Int)) :: (saq135 s i)
abbrev saq137 (s : Ship) (t : Nat) : LS := [(132, .lst 1 (s.there.map cI)), (131, .ref 0 8 0 6), (130, VI (t : Int)), (1, .ref 0 8 0 0), (5, VI (t : Int))]
abbrev saq138 (t : Nat) (s : Ship) : LS := [(139, VI (t : Int)), (138, .lst 1 (s.there.map cI)), (137, .ref 0 8 0 6), (134, .v (.bool true)), (1, .ref 0 8 0 0), (5, VI (t : Int))]
abbrev saq139 (t : Nat) : LS := [(153, .v (.bool true)), (1, .ref 0 8 0 0), (5, VI (t : Int))]
abbrev saq140 (t : Nat) (s : Ship) (a32 : Int) : LS := (146, VI (t : Int)) :: (145, .lst 1 (s.there.map cI)) :: (144, .ref 0 8 0 6) :: (143, .v (.bool false)) :: (142, .v (.bool false)) :: (141, VI a32) :: (140, .pim [VI a32] 0) :: (saq138 t s)
abbrev saq141 (s : Ship) (a32 : Int) (t : Nat) : LS := (150, .lst 2 (s.log.map Record.cs)) :: (149, .ref 0 8 0 2) :: (148, VI a32) :: (147, .pim [VI a32] 0) :: (saq140 t s a32)
abbrev saq142 (t : Nat) : LS := [(135, VI (t : Int)), (153, .v (.bool false)), (1, .ref 0 8 0 0)]
abbrev saq143 (t : Nat) : LS := (5, VI ((t : Int) + 1)) :: (136, VI ((t : Int) + 1)) :: (saq142 t)
theorem rcheck_fn (s : Ship) (hx : s.first.length ≤ 9223372036854775807 ∧ s.second.length ≤ 9223372036854775807 ∧ s.log.length ≤ 9223372036854775807 ∧ s.there.length ≤ 9223372036854775807 ∧ s.back.length ≤ 9223372036854775807) : Fn Try.prog 18 [.agg [.lst 1 (s.first.map cZ), .lst 1 (s.second.map cZ), .lst 2 (s.log.map Record.cs), VI s.sent, VI s.applied, VI s.known, .lst 1 (s.there.map cI), .lst 1 (s.back.map cI)]] (VI s.checkE) := by
  refine fn_walkW F18_ok (of_decide_eq_true (by kernel_rfl)) ?_
  refine EL.sreg ?_
  refine OW.last 2 [1] (x' := ⟨[(1, .ref 0 8 0 0)], [(saq10 s)]⟩) (by kernel_rfl) (by kernel_rfl) ?_
  refine EL.seq ?_
  refine EL.sreg ?_
  refine OW.run 2 (x' := ⟨(saq106 s), [(saq10 s)]⟩) (by kernel_rfl) ?_
  refine OW.ope (v := VI (List.length s.first : Int)) (u := []) (acc := []) (x' := ⟨(9, VI (List.length s.first : Int)) :: (saq106 s), [(saq10 s)]⟩) (by kernel_rfl) (opE_len cZ s.first (.s 8) 1 (by kernel_rfl) (by kernel_rfl) (.inl rfl)) (by kernel_rfl) ?_
  refine OW.run 2 (x' := ⟨(11, .v (.bool (decide ((List.length s.first : Int) < 1)))) :: (10, .v (.bool (decide ((List.length s.first : Int) < 1)))) :: (9, VI (List.length s.first : Int)) :: (saq106 s), [(saq10 s)]⟩) (by kernel_rfl) ?_
  rcases Bool.eq_false_or_eq_true (decide ((List.length s.first : Int) < 1)) with h1 | h1
  rw [h1]
  have g1 : ((List.length s.first : Int) < 1) := of_decide_eq_true h1
  have n1 : ((List.length s.first) < 1) := by omega
  refine OW.last 5 [1, 16] (x' := ⟨[(16, .v (.bool true)), (1, .ref 0 8 0 0)], [(saq10 s)]⟩) (by kernel_rfl) (by kernel_rfl) ?_
  refine EL.condT (by kernel_rfl) ?_
  refine EL.sreg ?_
  refine OW.last 1 [2] (x' := ⟨[(2, VI 3)], [(saq10 s)]⟩) (by kernel_rfl) (by kernel_rfl) ?_
  refine EL.ret ?_
  refine thenL_ret ?_
  refine ⟨.inr rfl, VI 3, by kernel_rfl, Ale.of_eq ?_⟩
  focus (refine congrArg (fun n => VI n) ?_; (refine (Ship.checkE_3a ?_).symm <;> first | omega | fail))
  rw [h1]
  have g1 : ¬ ((List.length s.first : Int) < 1) := of_decide_eq_false h1
  have n1 : ¬ ((List.length s.first) < 1) := by omega
  refine OW.run 2 (x' := ⟨(saq107 s), [(saq10 s)]⟩) (by kernel_rfl) ?_
  refine OW.ope (v := VI (List.length s.first : Int)) (u := []) (acc := []) (x' := ⟨(14, VI (List.length s.first : Int)) :: (saq107 s), [(saq10 s)]⟩) (by kernel_rfl) (opE_len cZ s.first (.s 13) 1 (by kernel_rfl) (by kernel_rfl) (.inl rfl)) (by kernel_rfl) ?_
  refine OW.last 2 [1, 16] (x' := ⟨[(16, .v (.bool (decide ((List.length s.first : Int) > 32)))), (1, .ref 0 8 0 0)], [(saq10 s)]⟩) (by kernel_rfl) (by kernel_rfl) ?_
  rcases Bool.eq_false_or_eq_true (decide ((List.length s.first : Int) > 32)) with h2 | h2
  rw [h2]
  have g2 : ((List.length s.first : Int) > 32) := of_decide_eq_true h2
  have n2 : ((List.length s.first) > 32) := by omega
  refine EL.condT (by kernel_rfl) ?_
  refine EL.sreg ?_
  refine OW.last 1 [2] (x' := ⟨[(2, VI 3)], [(saq10 s)]⟩) (by kernel_rfl) (by kernel_rfl) ?_
  refine EL.ret ?_
  refine thenL_ret ?_
  refine ⟨.inr rfl, VI 3, by kernel_rfl, Ale.of_eq ?_⟩
  focus (refine congrArg (fun n => VI n) ?_; (refine (Ship.checkE_3a ?_).symm <;> first | omega | fail))
  rw [h2]
  have g2 : ¬ ((List.length s.first : Int) > 32) := of_decide_eq_false h2
  have n2 : ¬ ((List.length s.first) > 32) := by omega
  refine EL.condF (by kernel_rfl) ?_
  refine EL.skip ?_
  refine thenL_norm ?_
  refine EL.seq ?_
  refine EL.sreg ?_
  refine OW.run 2 (x' := ⟨(saq108 s), [(saq10 s)]⟩) (by kernel_rfl) ?_
  refine OW.ope (v := VI (List.length s.second : Int)) (u := []) (acc := []) (x' := ⟨(19, VI (List.length s.second : Int)) :: (saq108 s), [(saq10 s)]⟩) (by kernel_rfl) (opE_len cZ s.second (.s 18) 1 (by kernel_rfl) (by kernel_rfl) (.inl rfl)) (by kernel_rfl) ?_
  refine OW.run 2 (x' := ⟨(saq109 s), [(saq10 s)]⟩) (by kernel_rfl) ?_
  refine OW.ope (v := VI (List.length s.first : Int)) (u := []) (acc := []) (x' := ⟨(22, VI (List.length s.first : Int)) :: (saq109 s), [(saq10 s)]⟩) (by kernel_rfl) (opE_len cZ s.first (.s 21) 1 (by kernel_rfl) (by kernel_rfl) (.inl rfl)) (by kernel_rfl) ?_
  refine OW.last 1 [1, 23] (x' := ⟨[(23, .v (.bool ((List.length s.second : Int) != (List.length s.first : Int)))), (1, .ref 0 8 0 0)], [(saq10 s)]⟩) (by kernel_rfl) (by kernel_rfl) ?_
  rcases Bool.eq_false_or_eq_true (((List.length s.second : Int) != (List.length s.first : Int))) with h3 | h3
  rw [h3]
  have g3 : ¬ ((List.length s.second : Int) = (List.length s.first : Int)) := by simpa using h3
  have n3 : ¬ ((List.length s.second) = (List.length s.first)) := by omega
  refine EL.condT (by kernel_rfl) ?_
  refine EL.sreg ?_
  refine OW.last 1 [2] (x' := ⟨[(2, VI 1)], [(saq10 s)]⟩) (by kernel_rfl) (by kernel_rfl) ?_
  refine EL.ret ?_
  refine thenL_ret ?_
  refine ⟨.inr rfl, VI 1, by kernel_rfl, Ale.of_eq ?_⟩
  focus (refine congrArg (fun n => VI n) ?_; (refine (Ship.checkE_1 ⟨?_, ?_⟩ ?_).symm <;> first | omega | fail))
  rw [h3]
  have g3 : ((List.length s.second : Int) = (List.length s.first : Int)) := by simpa using h3
  have n3 : ((List.length s.second) = (List.length s.first)) := by omega
  refine EL.condF (by kernel_rfl) ?_
  refine EL.skip ?_
  refine thenL_norm ?_
  refine EL.seq ?_
  refine EL.sreg ?_
  refine OW.run 2 (x' := ⟨(saq110 s), [(saq10 s)]⟩) (by kernel_rfl) ?_
  refine OW.ope (v := VI (List.length s.log : Int)) (u := []) (acc := []) (x' := ⟨(26, VI (List.length s.log : Int)) :: (saq110 s), [(saq10 s)]⟩) (by kernel_rfl) (opE_len Record.cs s.log (.s 25) 2 (by kernel_rfl) (by kernel_rfl) (.inl rfl)) (by kernel_rfl) ?_
  refine OW.run 2 (x' := ⟨(28, .v (.bool (decide ((List.length s.log : Int) > 60)))) :: (27, .v (.bool (decide ((List.length s.log : Int) > 60)))) :: (26, VI (List.length s.log : Int)) :: (saq110 s), [(saq10 s)]⟩) (by kernel_rfl) ?_
  rcases Bool.eq_false_or_eq_true (decide ((List.length s.log : Int) > 60)) with h4 | h4
  rw [h4]
  have g4 : ((List.length s.log : Int) > 60) := of_decide_eq_true h4
  have n4 : ((List.length s.log) > 60) := by omega
  refine OW.last 11 [1, 39] (x' := ⟨[(39, .v (.bool true)), (1, .ref 0 8 0 0)], [(saq10 s)]⟩) (by kernel_rfl) (by kernel_rfl) ?_
  refine EL.condT (by kernel_rfl) ?_
  refine EL.sreg ?_
  refine OW.last 1 [2] (x' := ⟨[(2, VI 2)], [(saq10 s)]⟩) (by kernel_rfl) (by kernel_rfl) ?_
  refine EL.ret ?_
  refine thenL_ret ?_
  refine ⟨.inr rfl, VI 2, by kernel_rfl, Ale.of_eq ?_⟩
  focus (refine congrArg (fun n => VI n) ?_; (refine (Ship.checkE_2 ⟨?_, ?_⟩ ?_ (.inr ?_)).symm <;> first | omega | fail))
  rw [h4]
  have g4 : ¬ ((List.length s.log : Int) > 60) := of_decide_eq_false h4
  have n4 : ¬ ((List.length s.log) > 60) := by omega
  refine OW.run 2 (x' := ⟨(saq111 s), [(saq10 s)]⟩) (by kernel_rfl) ?_
  refine OW.ope (v := VI (List.length s.there : Int)) (u := []) (acc := []) (x' := ⟨(31, VI (List.length s.there : Int)) :: (saq111 s), [(saq10 s)]⟩) (by kernel_rfl) (opE_len cI s.there (.s 30) 1 (by kernel_rfl) (by kernel_rfl) (.inl rfl)) (by kernel_rfl) ?_
  refine OW.run 3 (x' := ⟨(34, .v (.bool (decide ((List.length s.there : Int) > 60)))) :: (33, .v (.bool (decide ((List.length s.there : Int) > 60)))) :: (32, .v (.bool (decide ((List.length s.there : Int) > 60)))) :: (31, VI (List.length s.there : Int)) :: (saq111 s), [(saq10 s)]⟩) (by kernel_rfl) ?_
  rcases Bool.eq_false_or_eq_true (decide ((List.length s.there : Int) > 60)) with h5 | h5
  rw [h5]
  have g5 : ((List.length s.there : Int) > 60) := of_decide_eq_true h5
  have n5 : ((List.length s.there) > 60) := by omega
  refine OW.last 5 [1, 39] (x' := ⟨[(39, .v (.bool true)), (1, .ref 0 8 0 0)], [(saq10 s)]⟩) (by kernel_rfl) (by kernel_rfl) ?_
  refine EL.condT (by kernel_rfl) ?_
  refine EL.sreg ?_
  refine OW.last 1 [2] (x' := ⟨[(2, VI 2)], [(saq10 s)]⟩) (by kernel_rfl) (by kernel_rfl) ?_
  refine EL.ret ?_
  refine thenL_ret ?_
  refine ⟨.inr rfl, VI 2, by kernel_rfl, Ale.of_eq ?_⟩
  focus (refine congrArg (fun n => VI n) ?_; (refine (Ship.checkE_2 ⟨?_, ?_⟩ ?_ (.inr ?_)).symm <;> first | omega | fail))
  rw [h5]
  have g5 : ¬ ((List.length s.there : Int) > 60) := of_decide_eq_false h5
  have n5 : ¬ ((List.length s.there) > 60) := by omega
  refine OW.run 2 (x' := ⟨(saq112 s), [(saq10 s)]⟩) (by kernel_rfl) ?_
  refine OW.ope (v := VI (List.length s.back : Int)) (u := []) (acc := []) (x' := ⟨(37, VI (List.length s.back : Int)) :: (saq112 s), [(saq10 s)]⟩) (by kernel_rfl) (opE_len cI s.back (.s 36) 1 (by kernel_rfl) (by kernel_rfl) (.inl rfl)) (by kernel_rfl) ?_
  refine OW.last 2 [1, 39] (x' := ⟨[(39, .v (.bool (decide ((List.length s.back : Int) > 60)))), (1, .ref 0 8 0 0)], [(saq10 s)]⟩) (by kernel_rfl) (by kernel_rfl) ?_
  rcases Bool.eq_false_or_eq_true (decide ((List.length s.back : Int) > 60)) with h6 | h6
  rw [h6]
  have g6 : ((List.length s.back : Int) > 60) := of_decide_eq_true h6
  have n6 : ((List.length s.back) > 60) := by omega
  refine EL.condT (by kernel_rfl) ?_
  refine EL.sreg ?_
  refine OW.last 1 [2] (x' := ⟨[(2, VI 2)], [(saq10 s)]⟩) (by kernel_rfl) (by kernel_rfl) ?_
  refine EL.ret ?_
  refine thenL_ret ?_
  refine ⟨.inr rfl, VI 2, by kernel_rfl, Ale.of_eq ?_⟩
  focus (refine congrArg (fun n => VI n) ?_; (refine (Ship.checkE_2 ⟨?_, ?_⟩ ?_ (.inr ?_)).symm <;> first | omega | fail))
  rw [h6]
  have g6 : ¬ ((List.length s.back : Int) > 60) := of_decide_eq_false h6
  have n6 : ¬ ((List.length s.back) > 60) := by omega
  refine EL.condF (by kernel_rfl) ?_
  refine EL.skip ?_
  refine thenL_norm ?_
  refine EL.seq ?_
  refine EL.sreg ?_
  refine OW.last 1 [1, 3] (x' := ⟨[(3, VI 0), (1, .ref 0 8 0 0)], [(saq10 s)]⟩) (by kernel_rfl) (by kernel_rfl) ?_
  refine EL.block ?_
  refine EL.loopN (fun m x => ∃ (k : Nat), m = s.first.length - k ∧ (k ≤ s.first.length ∧ s.second.length = s.first.length ∧ (s.first.any (fun z => decide (z.size > 64)) || s.second.any (fun z => decide (z.size > 64))) = ((s.first.drop k).any (fun z => decide (z.size > 64)) || (s.second.drop k).any (fun z => decide (z.size > 64)))) ∧ x = ⟨[(1, .ref 0 8 0 0), (3, VI (k : Int))], [(saq10 s)]⟩) (y := (fun (k : Nat) => (⟨[(1, .ref 0 8 0 0), (3, VI (k : Int))], [(saq10 s)]⟩ : L3)) 0) [1, 3] [.old 0 false] [] (by kernel_rfl) trivial ⟨0, rfl, by simp; omega, rfl⟩ ?_
  rintro _ _ ⟨k, rfl, hI7, rfl⟩
  obtain ⟨hk, hl, hs⟩ := hI7
  refine EL.seq ?_
  refine EL.sreg ?_
  refine OW.run 3 (x' := ⟨(saq113 s k), [(saq10 s)]⟩) (by kernel_rfl) ?_
  refine OW.ope (v := VI (List.length s.first : Int)) (u := []) (acc := []) (x' := ⟨(43, VI (List.length s.first : Int)) :: (saq113 s k), [(saq10 s)]⟩) (by kernel_rfl) (opE_len cZ s.first (.s 42) 1 (by kernel_rfl) (by kernel_rfl) (.inl rfl)) (by kernel_rfl) ?_
  refine OW.last 1 [1, 3, 44] (x' := ⟨[(44, .v (.bool (decide ((k : Int) < (List.length s.first : Int))))), (1, .ref 0 8 0 0), (3, VI (k : Int))], [(saq10 s)]⟩) (by kernel_rfl) (by kernel_rfl) ?_
  rcases Bool.eq_false_or_eq_true (decide ((k : Int) < (List.length s.first : Int))) with h8 | h8
  rw [h8]
  have g8 : ((k : Int) < (List.length s.first : Int)) := of_decide_eq_true h8
  have n8 : ((k) < (List.length s.first)) := by omega
  refine EL.condT (by kernel_rfl) ?_
  refine EL.skip ?_
  refine thenL_norm ?_
  refine EL.seq ?_
  refine EL.block ?_
  refine EL.sreg ?_
  refine OW.run 3 (x' := ⟨(saq114 k s), [(saq10 s)]⟩) (by kernel_rfl) ?_
  obtain ⟨a10, ha10⟩ : ∃ y, s.first[((k : Int) : Int).toNat]? = some y := idx_ex ⟨by omega, by omega⟩
  have iha10 : s.first[k]? = some a10 := by simpa using ha10
  have dha10 := drop_get iha10
  refine OW.ope (v := .pim [.v (.string a10)] 0) (u := []) (acc := []) (x' := ⟨(50, .pim [.v (.string a10)] 0) :: (saq114 k s), [(saq10 s)]⟩) (by kernel_rfl) (opE_iad cZ s.first (.s 48) (.s 49) 1 .i64 (k : Int) a10 (by kernel_rfl) (by kernel_rfl) (.inl rfl) rfl (by omega) ha10) (by kernel_rfl) ?_
  refine OW.run 4 (x' := ⟨(54, .v (.bool (decide ((ByteArray.size a10 : Int) > 64)))) :: (53, .v (.bool (decide ((ByteArray.size a10 : Int) > 64)))) :: (saq115 a10 k s), [(saq10 s)]⟩) (by kernel_rfl) ?_
  rcases Bool.eq_false_or_eq_true (decide ((ByteArray.size a10 : Int) > 64)) with h11 | h11
  rw [h11]
  have g11 : ((ByteArray.size a10 : Int) > 64) := of_decide_eq_true h11
  have n11 : ((ByteArray.size a10) > 64) := by omega
  refine OW.last 8 [1, 3, 62] (x' := ⟨(saq116 k), [(saq10 s)]⟩) (by kernel_rfl) (by kernel_rfl) ?_
  refine EL.condT (by kernel_rfl) ?_
  refine EL.sreg ?_
  refine OW.last 1 [2] (x' := ⟨[(2, VI 2)], [(saq10 s)]⟩) (by kernel_rfl) (by kernel_rfl) ?_
  refine EL.ret ?_
  refine inBlk_ret ?_
  refine thenL_ret ?_
  refine thenL_ret ?_
  refine inBlk_ret ?_
  refine thenL_ret ?_
  refine ⟨.inr rfl, VI 2, by kernel_rfl, Ale.of_eq ?_⟩
  focus (refine congrArg (fun n => VI n) ?_; (refine (Ship.checkE_2 ⟨?_, ?_⟩ ?_ (.inl ?_)).symm <;> first | omega | (rw [hs]; simp [*]; done)))
  rw [h11]
  have g11 : ¬ ((ByteArray.size a10 : Int) > 64) := of_decide_eq_false h11
  have n11 : ¬ ((ByteArray.size a10) > 64) := by omega
  refine OW.run 3 (x' := ⟨(saq117 k s a10), [(saq10 s)]⟩) (by kernel_rfl) ?_
  obtain ⟨a13, ha13⟩ : ∃ y, s.second[((k : Int) : Int).toNat]? = some y := idx_ex ⟨by omega, by omega⟩
  have iha13 : s.second[k]? = some a13 := by simpa using ha13
  have dha13 := drop_get iha13
  refine OW.ope (v := .pim [.v (.string a13)] 0) (u := []) (acc := []) (x' := ⟨(58, .pim [.v (.string a13)] 0) :: (saq117 k s a10), [(saq10 s)]⟩) (by kernel_rfl) (opE_iad cZ s.second (.s 56) (.s 57) 1 .i64 (k : Int) a13 (by kernel_rfl) (by kernel_rfl) (.inl rfl) rfl (by omega) ha13) (by kernel_rfl) ?_
  refine OW.last 4 [1, 3, 62] (x' := ⟨[(62, .v (.bool (decide ((ByteArray.size a13 : Int) > 64)))), (1, .ref 0 8 0 0), (3, VI (k : Int))], [(saq10 s)]⟩) (by kernel_rfl) (by kernel_rfl) ?_
  rcases Bool.eq_false_or_eq_true (decide ((ByteArray.size a13 : Int) > 64)) with h14 | h14
  rw [h14]
  have g14 : ((ByteArray.size a13 : Int) > 64) := of_decide_eq_true h14
  have n14 : ((ByteArray.size a13) > 64) := by omega
  refine EL.condT (by kernel_rfl) ?_
  refine EL.sreg ?_
  refine OW.last 1 [2] (x' := ⟨[(2, VI 2)], [(saq10 s)]⟩) (by kernel_rfl) (by kernel_rfl) ?_
  refine EL.ret ?_
  refine inBlk_ret ?_
  refine thenL_ret ?_
  refine thenL_ret ?_
  refine inBlk_ret ?_
  refine thenL_ret ?_
  refine ⟨.inr rfl, VI 2, by kernel_rfl, Ale.of_eq ?_⟩
  focus (refine congrArg (fun n => VI n) ?_; (refine (Ship.checkE_2 ⟨?_, ?_⟩ ?_ (.inl ?_)).symm <;> first | omega | (rw [hs]; simp [*]; done)))
  rw [h14]
  have g14 : ¬ ((ByteArray.size a13 : Int) > 64) := of_decide_eq_false h14
  have n14 : ¬ ((ByteArray.size a13) > 64) := by omega
  refine EL.condF (by kernel_rfl) ?_
  refine EL.skip ?_
  refine inBlk_norm ?_
  refine thenL_norm ?_
  refine EL.reg0 ?_
  refine OW.run 3 (x' := ⟨(3, VI (IntKind.i64.wrap ((k : Int) + 1))) :: (46, VI (IntKind.i64.wrap ((k : Int) + 1))) :: (saq118 k), [(saq10 s)]⟩) (by kernel_rfl) ?_
  have e15 : IntKind.i64.wrap ((k : Int) + 1) = (k : Int) + 1 := wr64 (by omega)
  rw [e15]
  refine OW.end 0 (x' := ⟨(saq119 k), [(saq10 s)]⟩) (by kernel_rfl) (by kernel_rfl) ?_
  refine thenL_norm ?_
  refine round_end (live := [1, 3]) (src := [.old 0 false]) (es := []) (y := (fun (k : Nat) => (⟨[(1, .ref 0 8 0 0), (3, VI (k : Int))], [(saq10 s)]⟩ : L3)) (k + 1)) ?_ trivial ?_ ⟨(k + 1), rfl, ?_, rfl⟩
  kernel_rfl
  omega
  focus (refine ⟨by omega, by omega, ?_⟩; rw [hs]; simp [*])
  rw [h8]
  have g8 : ¬ ((k : Int) < (List.length s.first : Int)) := of_decide_eq_false h8
  have n8 : ¬ ((k) < (List.length s.first)) := by omega
  refine EL.condF (by kernel_rfl) ?_
  refine EL.exit ?_
  refine thenL_exit ?_
  refine thenL_exit ?_
  refine inBlk_hit ?_
  refine thenL_norm ?_
  refine EL.seq ?_
  refine EL.sreg ?_
  refine OW.last 1 [1, 4] (x' := ⟨[(4, VI 0), (1, .ref 0 8 0 0)], [(saq10 s)]⟩) (by kernel_rfl) (by kernel_rfl) ?_
  refine EL.block ?_
  refine EL.loopN (fun m x => ∃ (i : Nat), m = s.log.length - i ∧ (i ≤ s.log.length ∧ Ship.recE s.first.length s.log = Ship.recE s.first.length (s.log.drop i)) ∧ x = ⟨[(1, .ref 0 8 0 0), (4, VI (i : Int))], [(saq10 s)]⟩) (y := (fun (i : Nat) => (⟨[(1, .ref 0 8 0 0), (4, VI (i : Int))], [(saq10 s)]⟩ : L3)) 0) [1, 4] [.old 0 false] [] (by kernel_rfl) trivial ⟨0, rfl, by simp, rfl⟩ ?_
  rintro _ _ ⟨i, rfl, hI16, rfl⟩
  obtain ⟨hik, his⟩ := hI16
  refine EL.seq ?_
  refine EL.sreg ?_
  refine OW.run 3 (x' := ⟨(saq120 s i), [(saq10 s)]⟩) (by kernel_rfl) ?_
  refine OW.ope (v := VI (List.length s.log : Int)) (u := []) (acc := []) (x' := ⟨(66, VI (List.length s.log : Int)) :: (saq120 s i), [(saq10 s)]⟩) (by kernel_rfl) (opE_len Record.cs s.log (.s 65) 2 (by kernel_rfl) (by kernel_rfl) (.inl rfl)) (by kernel_rfl) ?_
  refine OW.last 1 [1, 4, 67] (x' := ⟨[(67, .v (.bool (decide ((i : Int) < (List.length s.log : Int))))), (1, .ref 0 8 0 0), (4, VI (i : Int))], [(saq10 s)]⟩) (by kernel_rfl) (by kernel_rfl) ?_
  rcases Bool.eq_false_or_eq_true (decide ((i : Int) < (List.length s.log : Int))) with h17 | h17
  rw [h17]
  have g17 : ((i : Int) < (List.length s.log : Int)) := of_decide_eq_true h17
  have n17 : ((i) < (List.length s.log)) := by omega
  refine EL.condT (by kernel_rfl) ?_
  refine EL.skip ?_
  refine thenL_norm ?_
  refine EL.seq ?_
  refine EL.block ?_
  refine EL.seq ?_
  refine EL.sdraw ?_
  refine DW.run 3 (x' := ⟨(saq121 i s), [(saq10 s)]⟩) (by kernel_rfl) ?_
  obtain ⟨a19, ha19⟩ : ∃ y, s.log[((i : Int) : Int).toNat]? = some y := idx_ex ⟨by omega, by omega⟩
  have iha19 : s.log[i]? = some a19 := by simpa using ha19
  have dha19 := drop_get iha19
  refine DW.ope (v := .pim [VI a19.block, .v (.string a19.data)] 0) (u := []) (acc := []) (x' := ⟨(saq122 a19 i s), [(saq10 s)]⟩) (by kernel_rfl) (opE_iad Record.cs s.log (.s 71) (.s 72) 2 .i64 (i : Int) a19 (by kernel_rfl) (by kernel_rfl) (.inl rfl) rfl (by omega) ha19) (by kernel_rfl) ?_
  refine DW.run 4 (x' := ⟨(77, .v (.bool (decide (a19.block < 0)))) :: (76, .v (.bool (decide (a19.block < 0)))) :: (saq123 a19 i s), [(saq10 s)]⟩) (by kernel_rfl) ?_
  rcases Bool.eq_false_or_eq_true (decide (a19.block < 0)) with h20 | h20
  rw [h20]
  have g20 : (a19.block < 0) := of_decide_eq_true h20
  refine DW.last 11 [1, 4, 88] (x' := ⟨(saq124 i), [(saq10 s)]⟩) (by kernel_rfl) (by kernel_rfl) ?_
  refine EL.condT (by kernel_rfl) ?_
  refine EL.sreg ?_
  refine OW.last 1 [2] (x' := ⟨[(2, VI 3)], [(saq10 s)]⟩) (by kernel_rfl) (by kernel_rfl) ?_
  refine EL.ret ?_
  refine thenL_ret ?_
  refine inBlk_ret ?_
  refine thenL_ret ?_
  refine thenL_ret ?_
  refine inBlk_ret ?_
  refine thenL_ret ?_
  refine ⟨.inr rfl, VI 3, by kernel_rfl, Ale.of_eq ?_⟩
  focus (refine congrArg (fun n => VI n) ?_; (refine (Ship.Fits.recs ⟨⟨?_, ?_⟩, ?_, ?_, ⟨?_, ?_, ?_⟩⟩ ?_ (by decide)).symm <;> first | omega | (rw [hs, List.drop_eq_nil_of_le (by omega), List.drop_eq_nil_of_le (by omega)]; rfl) | (rw [his]; simp only [*, Ship.recE]; rw [if_neg fun hh => absurd (wi_iff.1 hh) (by omega)]; done) | (rw [his]; simp only [*, Ship.recE]; rw [if_pos (wi_iff.2 ⟨by omega, by omega⟩)]; simp; done)))
  rw [h20]
  have g20 : ¬ (a19.block < 0) := of_decide_eq_false h20
  refine DW.run 3 (x' := ⟨(saq125 i s a19), [(saq10 s)]⟩) (by kernel_rfl) ?_
  refine DW.ope (v := .pim [VI a19.block, .v (.string a19.data)] 0) (u := []) (acc := []) (x' := ⟨(saq126 a19 i s), [(saq10 s)]⟩) (by kernel_rfl) (opE_iad Record.cs s.log (.s 79) (.s 80) 2 .i64 (i : Int) a19 (by kernel_rfl) (by kernel_rfl) (.inl rfl) rfl (by omega) ha19) (by kernel_rfl) ?_
  refine DW.run 4 (x' := ⟨(saq127 s a19 i), [(saq10 s)]⟩) (by kernel_rfl) ?_
  refine DW.ope (v := VI (List.length s.first : Int)) (u := []) (acc := []) (x' := ⟨(86, VI (List.length s.first : Int)) :: (saq127 s a19 i), [(saq10 s)]⟩) (by kernel_rfl) (opE_len cZ s.first (.s 85) 1 (by kernel_rfl) (by kernel_rfl) (.inl rfl)) (by kernel_rfl) ?_
  refine DW.last 2 [1, 4, 88] (x' := ⟨[(88, .v (.bool (decide (a19.block ≥ (List.length s.first : Int))))), (1, .ref 0 8 0 0), (4, VI (i : Int))], [(saq10 s)]⟩) (by kernel_rfl) (by kernel_rfl) ?_
  rcases Bool.eq_false_or_eq_true (decide (a19.block ≥ (List.length s.first : Int))) with h21 | h21
  rw [h21]
  have g21 : (a19.block ≥ (List.length s.first : Int)) := of_decide_eq_true h21
  refine EL.condT (by kernel_rfl) ?_
  refine EL.sreg ?_
  refine OW.last 1 [2] (x' := ⟨[(2, VI 3)], [(saq10 s)]⟩) (by kernel_rfl) (by kernel_rfl) ?_
  refine EL.ret ?_
  refine thenL_ret ?_
  refine inBlk_ret ?_
  refine thenL_ret ?_
  refine thenL_ret ?_
  refine inBlk_ret ?_
  refine thenL_ret ?_
  refine ⟨.inr rfl, VI 3, by kernel_rfl, Ale.of_eq ?_⟩
  focus (refine congrArg (fun n => VI n) ?_; (refine (Ship.Fits.recs ⟨⟨?_, ?_⟩, ?_, ?_, ⟨?_, ?_, ?_⟩⟩ ?_ (by decide)).symm <;> first | omega | (rw [hs, List.drop_eq_nil_of_le (by omega), List.drop_eq_nil_of_le (by omega)]; rfl) | (rw [his]; simp only [*, Ship.recE]; rw [if_neg fun hh => absurd (wi_iff.1 hh) (by omega)]; done) | (rw [his]; simp only [*, Ship.recE]; rw [if_pos (wi_iff.2 ⟨by omega, by omega⟩)]; simp; done)))
  rw [h21]
  have g21 : ¬ (a19.block ≥ (List.length s.first : Int)) := of_decide_eq_false h21
  refine EL.condF (by kernel_rfl) ?_
  refine EL.skip ?_
  refine thenL_norm ?_
  refine EL.sreg ?_
  refine OW.run 3 (x' := ⟨(saq128 i s), [(saq10 s)]⟩) (by kernel_rfl) ?_
  refine OW.ope (v := .pim [VI a19.block, .v (.string a19.data)] 0) (u := []) (acc := []) (x' := ⟨(saq129 a19 i s), [(saq10 s)]⟩) (by kernel_rfl) (opE_iad Record.cs s.log (.s 90) (.s 91) 2 .i64 (i : Int) a19 (by kernel_rfl) (by kernel_rfl) (.inl rfl) rfl (by omega) ha19) (by kernel_rfl) ?_
  refine OW.last 4 [1, 4, 96] (x' := ⟨[(96, .v (.bool (decide ((ByteArray.size a19.data : Int) > 64)))), (1, .ref 0 8 0 0), (4, VI (i : Int))], [(saq10 s)]⟩) (by kernel_rfl) (by kernel_rfl) ?_
  rcases Bool.eq_false_or_eq_true (decide ((ByteArray.size a19.data : Int) > 64)) with h22 | h22
  rw [h22]
  have g22 : ((ByteArray.size a19.data : Int) > 64) := of_decide_eq_true h22
  have n22 : ((ByteArray.size a19.data) > 64) := by omega
  refine EL.condT (by kernel_rfl) ?_
  refine EL.sreg ?_
  refine OW.last 1 [2] (x' := ⟨[(2, VI 2)], [(saq10 s)]⟩) (by kernel_rfl) (by kernel_rfl) ?_
  refine EL.ret ?_
  refine inBlk_ret ?_
  refine thenL_ret ?_
  refine thenL_ret ?_
  refine inBlk_ret ?_
  refine thenL_ret ?_
  refine ⟨.inr rfl, VI 2, by kernel_rfl, Ale.of_eq ?_⟩
  focus (refine congrArg (fun n => VI n) ?_; (refine (Ship.Fits.recs ⟨⟨?_, ?_⟩, ?_, ?_, ⟨?_, ?_, ?_⟩⟩ ?_ (by decide)).symm <;> first | omega | (rw [hs, List.drop_eq_nil_of_le (by omega), List.drop_eq_nil_of_le (by omega)]; rfl) | (rw [his]; simp only [*, Ship.recE]; rw [if_neg fun hh => absurd (wi_iff.1 hh) (by omega)]; done) | (rw [his]; simp only [*, Ship.recE]; rw [if_pos (wi_iff.2 ⟨by omega, by omega⟩)]; simp; done)))
  rw [h22]
  have g22 : ¬ ((ByteArray.size a19.data : Int) > 64) := of_decide_eq_false h22
  have n22 : ¬ ((ByteArray.size a19.data) > 64) := by omega
  refine EL.condF (by kernel_rfl) ?_
  refine EL.skip ?_
  refine inBlk_norm ?_
  refine thenL_norm ?_
  refine EL.reg0 ?_
  refine OW.run 3 (x' := ⟨(4, VI (IntKind.i64.wrap ((i : Int) + 1))) :: (69, VI (IntKind.i64.wrap ((i : Int) + 1))) :: (saq130 i), [(saq10 s)]⟩) (by kernel_rfl) ?_
  have e23 : IntKind.i64.wrap ((i : Int) + 1) = (i : Int) + 1 := wr64 (by omega)
  rw [e23]
  refine OW.end 0 (x' := ⟨(saq131 i), [(saq10 s)]⟩) (by kernel_rfl) (by kernel_rfl) ?_
  refine thenL_norm ?_
  refine round_end (live := [1, 4]) (src := [.old 0 false]) (es := []) (y := (fun (i : Nat) => (⟨[(1, .ref 0 8 0 0), (4, VI (i : Int))], [(saq10 s)]⟩ : L3)) (i + 1)) ?_ trivial ?_ ⟨(i + 1), rfl, ?_, rfl⟩
  kernel_rfl
  omega
  focus (refine ⟨by omega, ?_⟩; rw [his]; simp only [*, Ship.recE]; rw [if_pos (wi_iff.2 ⟨by omega, by omega⟩)]; simp)
  rw [h17]
  have g17 : ¬ ((i : Int) < (List.length s.log : Int)) := of_decide_eq_false h17
  have n17 : ¬ ((i) < (List.length s.log)) := by omega
  refine EL.condF (by kernel_rfl) ?_
  refine EL.exit ?_
  refine thenL_exit ?_
  refine thenL_exit ?_
  refine inBlk_hit ?_
  refine thenL_norm ?_
  refine EL.seq ?_
  refine EL.sreg ?_
  refine OW.run 4 (x' := ⟨(100, .v (.bool (decide (s.known < 0)))) :: (99, .v (.bool (decide (s.known < 0)))) :: (saq132 s i), [(saq10 s)]⟩) (by kernel_rfl) ?_
  rcases Bool.eq_false_or_eq_true (decide (s.known < 0)) with h24 | h24
  rw [h24]
  have g24 : (s.known < 0) := of_decide_eq_true h24
  refine OW.last 29 [1, 129] (x' := ⟨[(129, .v (.bool true)), (1, .ref 0 8 0 0)], [(saq10 s)]⟩) (by kernel_rfl) (by kernel_rfl) ?_
  refine EL.condT (by kernel_rfl) ?_
  refine EL.sreg ?_
  refine OW.last 1 [2] (x' := ⟨[(2, VI 4)], [(saq10 s)]⟩) (by kernel_rfl) (by kernel_rfl) ?_
  refine EL.ret ?_
  refine thenL_ret ?_
  refine ⟨.inr rfl, VI 4, by kernel_rfl, Ale.of_eq ?_⟩
  focus (refine congrArg (fun n => VI n) ?_; (refine (Ship.Fits.four ⟨⟨?_, ?_⟩, ?_, ?_, ⟨?_, ?_, ?_⟩⟩ ?_ ?_).symm <;> first | omega | (rw [hs, List.drop_eq_nil_of_le (by omega), List.drop_eq_nil_of_le (by omega)]; rfl) | (rw [his, List.drop_eq_nil_of_le (by omega)]; rfl)))
  rw [h24]
  have g24 : ¬ (s.known < 0) := of_decide_eq_false h24
  refine OW.run 7 (x' := ⟨(107, .v (.bool (decide (s.known > s.applied)))) :: (106, .v (.bool (decide (s.known > s.applied)))) :: (105, .v (.bool (decide (s.known > s.applied)))) :: (saq133 s i), [(saq10 s)]⟩) (by kernel_rfl) ?_
  rcases Bool.eq_false_or_eq_true (decide (s.known > s.applied)) with h25 | h25
  rw [h25]
  have g25 : (s.known > s.applied) := of_decide_eq_true h25
  refine OW.last 22 [1, 129] (x' := ⟨[(129, .v (.bool true)), (1, .ref 0 8 0 0)], [(saq10 s)]⟩) (by kernel_rfl) (by kernel_rfl) ?_
  refine EL.condT (by kernel_rfl) ?_
  refine EL.sreg ?_
  refine OW.last 1 [2] (x' := ⟨[(2, VI 4)], [(saq10 s)]⟩) (by kernel_rfl) (by kernel_rfl) ?_
  refine EL.ret ?_
  refine thenL_ret ?_
  refine ⟨.inr rfl, VI 4, by kernel_rfl, Ale.of_eq ?_⟩
  focus (refine congrArg (fun n => VI n) ?_; (refine (Ship.Fits.four ⟨⟨?_, ?_⟩, ?_, ?_, ⟨?_, ?_, ?_⟩⟩ ?_ ?_).symm <;> first | omega | (rw [hs, List.drop_eq_nil_of_le (by omega), List.drop_eq_nil_of_le (by omega)]; rfl) | (rw [his, List.drop_eq_nil_of_le (by omega)]; rfl)))
  rw [h25]
  have g25 : ¬ (s.known > s.applied) := of_decide_eq_false h25
  refine OW.run 7 (x' := ⟨(114, .v (.bool (decide (s.known > s.sent)))) :: (113, .v (.bool (decide (s.known > s.sent)))) :: (112, .v (.bool (decide (s.known > s.sent)))) :: (saq134 s i), [(saq10 s)]⟩) (by kernel_rfl) ?_
  rcases Bool.eq_false_or_eq_true (decide (s.known > s.sent)) with h26 | h26
  rw [h26]
  have g26 : (s.known > s.sent) := of_decide_eq_true h26
  refine OW.last 15 [1, 129] (x' := ⟨[(129, .v (.bool true)), (1, .ref 0 8 0 0)], [(saq10 s)]⟩) (by kernel_rfl) (by kernel_rfl) ?_
  refine EL.condT (by kernel_rfl) ?_
  refine EL.sreg ?_
  refine OW.last 1 [2] (x' := ⟨[(2, VI 4)], [(saq10 s)]⟩) (by kernel_rfl) (by kernel_rfl) ?_
  refine EL.ret ?_
  refine thenL_ret ?_
  refine ⟨.inr rfl, VI 4, by kernel_rfl, Ale.of_eq ?_⟩
  focus (refine congrArg (fun n => VI n) ?_; (refine (Ship.Fits.four ⟨⟨?_, ?_⟩, ?_, ?_, ⟨?_, ?_, ?_⟩⟩ ?_ ?_).symm <;> first | omega | (rw [hs, List.drop_eq_nil_of_le (by omega), List.drop_eq_nil_of_le (by omega)]; rfl) | (rw [his, List.drop_eq_nil_of_le (by omega)]; rfl)))
  rw [h26]
  have g26 : ¬ (s.known > s.sent) := of_decide_eq_false h26
  refine OW.run 4 (x' := ⟨(saq135 s i), [(saq10 s)]⟩) (by kernel_rfl) ?_
  refine OW.ope (v := VI (List.length s.log : Int)) (u := []) (acc := []) (x' := ⟨(119, VI (List.length s.log : Int)) :: (saq135 s i), [(saq10 s)]⟩) (by kernel_rfl) (opE_len Record.cs s.log (.s 118) 2 (by kernel_rfl) (by kernel_rfl) (.inl rfl)) (by kernel_rfl) ?_
  refine OW.run 3 (x' := ⟨(122, .v (.bool (decide (s.applied > (List.length s.log : Int))))) :: (121, .v (.bool (decide (s.applied > (List.length s.log : Int))))) :: (120, .v (.bool (decide (s.applied > (List.length s.log : Int))))) :: (119, VI (List.length s.log : Int)) :: (saq135 s i), [(saq10 s)]⟩) (by kernel_rfl) ?_
  rcases Bool.eq_false_or_eq_true (decide (s.applied > (List.length s.log : Int))) with h27 | h27
  rw [h27]
  have g27 : (s.applied > (List.length s.log : Int)) := of_decide_eq_true h27
  refine OW.last 7 [1, 129] (x' := ⟨[(129, .v (.bool true)), (1, .ref 0 8 0 0)], [(saq10 s)]⟩) (by kernel_rfl) (by kernel_rfl) ?_
  refine EL.condT (by kernel_rfl) ?_
  refine EL.sreg ?_
  refine OW.last 1 [2] (x' := ⟨[(2, VI 4)], [(saq10 s)]⟩) (by kernel_rfl) (by kernel_rfl) ?_
  refine EL.ret ?_
  refine thenL_ret ?_
  refine ⟨.inr rfl, VI 4, by kernel_rfl, Ale.of_eq ?_⟩
  focus (refine congrArg (fun n => VI n) ?_; (refine (Ship.Fits.four ⟨⟨?_, ?_⟩, ?_, ?_, ⟨?_, ?_, ?_⟩⟩ ?_ ?_).symm <;> first | omega | (rw [hs, List.drop_eq_nil_of_le (by omega), List.drop_eq_nil_of_le (by omega)]; rfl) | (rw [his, List.drop_eq_nil_of_le (by omega)]; rfl)))
  rw [h27]
  have g27 : ¬ (s.applied > (List.length s.log : Int)) := of_decide_eq_false h27
  refine OW.run 4 (x' := ⟨(saq136 s i), [(saq10 s)]⟩) (by kernel_rfl) ?_
  refine OW.ope (v := VI (List.length s.log : Int)) (u := []) (acc := []) (x' := ⟨(127, VI (List.length s.log : Int)) :: (saq136 s i), [(saq10 s)]⟩) (by kernel_rfl) (opE_len Record.cs s.log (.s 126) 2 (by kernel_rfl) (by kernel_rfl) (.inl rfl)) (by kernel_rfl) ?_
  refine OW.last 2 [1, 129] (x' := ⟨[(129, .v (.bool (decide (s.sent > (List.length s.log : Int))))), (1, .ref 0 8 0 0)], [(saq10 s)]⟩) (by kernel_rfl) (by kernel_rfl) ?_
  rcases Bool.eq_false_or_eq_true (decide (s.sent > (List.length s.log : Int))) with h28 | h28
  rw [h28]
  have g28 : (s.sent > (List.length s.log : Int)) := of_decide_eq_true h28
  refine EL.condT (by kernel_rfl) ?_
  refine EL.sreg ?_
  refine OW.last 1 [2] (x' := ⟨[(2, VI 4)], [(saq10 s)]⟩) (by kernel_rfl) (by kernel_rfl) ?_
  refine EL.ret ?_
  refine thenL_ret ?_
  refine ⟨.inr rfl, VI 4, by kernel_rfl, Ale.of_eq ?_⟩
  focus (refine congrArg (fun n => VI n) ?_; (refine (Ship.Fits.four ⟨⟨?_, ?_⟩, ?_, ?_, ⟨?_, ?_, ?_⟩⟩ ?_ ?_).symm <;> first | omega | (rw [hs, List.drop_eq_nil_of_le (by omega), List.drop_eq_nil_of_le (by omega)]; rfl) | (rw [his, List.drop_eq_nil_of_le (by omega)]; rfl)))
  rw [h28]
  have g28 : ¬ (s.sent > (List.length s.log : Int)) := of_decide_eq_false h28
  refine EL.condF (by kernel_rfl) ?_
  refine EL.skip ?_
  refine thenL_norm ?_
  refine EL.seq ?_
  refine EL.sreg ?_
  refine OW.last 1 [1, 5] (x' := ⟨[(5, VI 0), (1, .ref 0 8 0 0)], [(saq10 s)]⟩) (by kernel_rfl) (by kernel_rfl) ?_
  refine EL.block ?_
  refine EL.loopN (fun m x => ∃ (t : Nat), m = s.there.length - t ∧ (t ≤ s.there.length ∧ s.there.any (fun i => !wi i 1 s.log.length) = (s.there.drop t).any (fun i => !wi i 1 s.log.length)) ∧ x = ⟨[(1, .ref 0 8 0 0), (5, VI (t : Int))], [(saq10 s)]⟩) (y := (fun (t : Nat) => (⟨[(1, .ref 0 8 0 0), (5, VI (t : Int))], [(saq10 s)]⟩ : L3)) 0) [1, 5] [.old 0 false] [] (by kernel_rfl) trivial ⟨0, rfl, by simp, rfl⟩ ?_
  rintro _ _ ⟨t, rfl, hI29, rfl⟩
  obtain ⟨htk, hts⟩ := hI29
  refine EL.seq ?_
  refine EL.sreg ?_
  refine OW.run 3 (x' := ⟨(saq137 s t), [(saq10 s)]⟩) (by kernel_rfl) ?_
  refine OW.ope (v := VI (List.length s.there : Int)) (u := []) (acc := []) (x' := ⟨(133, VI (List.length s.there : Int)) :: (saq137 s t), [(saq10 s)]⟩) (by kernel_rfl) (opE_len cI s.there (.s 132) 1 (by kernel_rfl) (by kernel_rfl) (.inl rfl)) (by kernel_rfl) ?_
  refine OW.last 1 [1, 5, 134] (x' := ⟨[(134, .v (.bool (decide ((t : Int) < (List.length s.there : Int))))), (1, .ref 0 8 0 0), (5, VI (t : Int))], [(saq10 s)]⟩) (by kernel_rfl) (by kernel_rfl) ?_
  rcases Bool.eq_false_or_eq_true (decide ((t : Int) < (List.length s.there : Int))) with h30 | h30
  rw [h30]
  have g30 : ((t : Int) < (List.length s.there : Int)) := of_decide_eq_true h30
  have n30 : ((t) < (List.length s.there)) := by omega
  refine EL.condT (by kernel_rfl) ?_
  refine EL.skip ?_
  refine thenL_norm ?_
  refine EL.seq ?_
  refine EL.block ?_
  refine EL.sdraw ?_
  refine DW.run 3 (x' := ⟨(saq138 t s), [(saq10 s)]⟩) (by kernel_rfl) ?_
  obtain ⟨a32, ha32⟩ : ∃ y, s.there[((t : Int) : Int).toNat]? = some y := idx_ex ⟨by omega, by omega⟩
  have iha32 : s.there[t]? = some a32 := by simpa using ha32
  have dha32 := drop_get iha32
  refine DW.ope (v := .pim [VI a32] 0) (u := []) (acc := []) (x' := ⟨(140, .pim [VI a32] 0) :: (saq138 t s), [(saq10 s)]⟩) (by kernel_rfl) (opE_iad cI s.there (.s 138) (.s 139) 1 .i64 (t : Int) a32 (by kernel_rfl) (by kernel_rfl) (.inl rfl) rfl (by omega) ha32) (by kernel_rfl) ?_
  refine DW.run 3 (x' := ⟨(143, .v (.bool (decide (a32 < 1)))) :: (142, .v (.bool (decide (a32 < 1)))) :: (141, VI a32) :: (140, .pim [VI a32] 0) :: (saq138 t s), [(saq10 s)]⟩) (by kernel_rfl) ?_
  rcases Bool.eq_false_or_eq_true (decide (a32 < 1)) with h33 | h33
  rw [h33]
  have g33 : (a32 < 1) := of_decide_eq_true h33
  refine DW.last 10 [1, 5, 153] (x' := ⟨(saq139 t), [(saq10 s)]⟩) (by kernel_rfl) (by kernel_rfl) ?_
  refine EL.condT (by kernel_rfl) ?_
  refine EL.sreg ?_
  refine OW.last 1 [2] (x' := ⟨[(2, VI 3)], [(saq10 s)]⟩) (by kernel_rfl) (by kernel_rfl) ?_
  refine EL.ret ?_
  refine inBlk_ret ?_
  refine thenL_ret ?_
  refine thenL_ret ?_
  refine inBlk_ret ?_
  refine thenL_ret ?_
  refine ⟨.inr rfl, VI 3, by kernel_rfl, Ale.of_eq ?_⟩
  focus (refine congrArg (fun n => VI n) ?_; (refine ((Ship.Fits.last ⟨⟨?_, ?_⟩, ?_, ?_, ⟨?_, ?_, ?_⟩⟩ ?_ ⟨⟨?_, ?_, ?_⟩, ?_, ?_⟩).trans ?_).symm <;> first | omega | (rw [hs, List.drop_eq_nil_of_le (by omega), List.drop_eq_nil_of_le (by omega)]; rfl) | (rw [his, List.drop_eq_nil_of_le (by omega)]; rfl) | (rw [if_pos]; left; rw [hts]; simp only [*, List.any_cons]; rw [Bool.or_eq_true]; left; simp [wi]; omega) | (rw [if_pos]; right; rw [hrs]; simp only [*, List.any_cons]; rw [Bool.or_eq_true]; left; simp [wi]; omega) | (rw [if_neg]; rw [hts, hrs, List.drop_eq_nil_of_le (by omega), List.drop_eq_nil_of_le (by omega)]; simp)))
  rw [h33]
  have g33 : ¬ (a32 < 1) := of_decide_eq_false h33
  refine DW.run 3 (x' := ⟨(saq140 t s a32), [(saq10 s)]⟩) (by kernel_rfl) ?_
  refine DW.ope (v := .pim [VI a32] 0) (u := []) (acc := []) (x' := ⟨(147, .pim [VI a32] 0) :: (saq140 t s a32), [(saq10 s)]⟩) (by kernel_rfl) (opE_iad cI s.there (.s 145) (.s 146) 1 .i64 (t : Int) a32 (by kernel_rfl) (by kernel_rfl) (.inl rfl) rfl (by omega) ha32) (by kernel_rfl) ?_
  refine DW.run 3 (x' := ⟨(saq141 s a32 t), [(saq10 s)]⟩) (by kernel_rfl) ?_
  refine DW.ope (v := VI (List.length s.log : Int)) (u := []) (acc := []) (x' := ⟨(151, VI (List.length s.log : Int)) :: (saq141 s a32 t), [(saq10 s)]⟩) (by kernel_rfl) (opE_len Record.cs s.log (.s 150) 2 (by kernel_rfl) (by kernel_rfl) (.inl rfl)) (by kernel_rfl) ?_
  refine DW.last 2 [1, 5, 153] (x' := ⟨[(153, .v (.bool (decide (a32 > (List.length s.log : Int))))), (1, .ref 0 8 0 0), (5, VI (t : Int))], [(saq10 s)]⟩) (by kernel_rfl) (by kernel_rfl) ?_
  rcases Bool.eq_false_or_eq_true (decide (a32 > (List.length s.log : Int))) with h34 | h34
  rw [h34]
  have g34 : (a32 > (List.length s.log : Int)) := of_decide_eq_true h34
  refine EL.condT (by kernel_rfl) ?_
  refine EL.sreg ?_
  refine OW.last 1 [2] (x' := ⟨[(2, VI 3)], [(saq10 s)]⟩) (by kernel_rfl) (by kernel_rfl) ?_
  refine EL.ret ?_
  refine inBlk_ret ?_
  refine thenL_ret ?_
  refine thenL_ret ?_
  refine inBlk_ret ?_
  refine thenL_ret ?_
  refine ⟨.inr rfl, VI 3, by kernel_rfl, Ale.of_eq ?_⟩
  focus (refine congrArg (fun n => VI n) ?_; (refine ((Ship.Fits.last ⟨⟨?_, ?_⟩, ?_, ?_, ⟨?_, ?_, ?_⟩⟩ ?_ ⟨⟨?_, ?_, ?_⟩, ?_, ?_⟩).trans ?_).symm <;> first | omega | (rw [hs, List.drop_eq_nil_of_le (by omega), List.drop_eq_nil_of_le (by omega)]; rfl) | (rw [his, List.drop_eq_nil_of_le (by omega)]; rfl) | (rw [if_pos]; left; rw [hts]; simp only [*, List.any_cons]; rw [Bool.or_eq_true]; left; simp [wi]; omega) | (rw [if_pos]; right; rw [hrs]; simp only [*, List.any_cons]; rw [Bool.or_eq_true]; left; simp [wi]; omega) | (rw [if_neg]; rw [hts, hrs, List.drop_eq_nil_of_le (by omega), List.drop_eq_nil_of_le (by omega)]; simp)))
  rw [h34]
  have g34 : ¬ (a32 > (List.length s.log : Int)) := of_decide_eq_false h34
  refine EL.condF (by kernel_rfl) ?_
  refine EL.skip ?_
  refine inBlk_norm ?_
  refine thenL_norm ?_
  refine EL.reg0 ?_
  refine OW.run 3 (x' := ⟨(5, VI (IntKind.i64.wrap ((t : Int) + 1))) :: (136, VI (IntKind.i64.wrap ((t : Int) + 1))) :: (saq142 t), [(saq10 s)]⟩) (by kernel_rfl) ?_
  have e35 : IntKind.i64.wrap ((t : Int) + 1) = (t : Int) + 1 := wr64 (by omega)
  rw [e35]
  refine OW.end 0 (x' := ⟨(saq143 t), [(saq10 s)]⟩) (by kernel_rfl) (by kernel_rfl) ?_
  refine thenL_norm ?_
  refine round_end (live := [1, 5]) (src := [.old 0 false]) (es := []) (y := (fun (t : Nat) => (⟨[(1, .ref 0 8 0 0), (5, VI (t : Int))], [(saq10 s)]⟩ : L3)) (t + 1)) ?_ trivial ?_ ⟨(t + 1), rfl, ?_, rfl⟩
  kernel_rfl
  omega
  focus (refine ⟨by omega, ?_⟩; rw [hts]; simp only [*, List.any_cons]; rw [wi_iff.2 ⟨by omega, by omega⟩]; rfl)
  rw [h30]
  have g30 : ¬ ((t : Int) < (List.length s.there : Int)) := of_decide_eq_false h30
  have n30 : ¬ ((t) < (List.length s.there)) := by omega
  refine EL.condF (by kernel_rfl) ?_
  refine EL.exit ?_
  refine thenL_exit ?_
  refine thenL_exit ?_
  refine inBlk_hit ?_
  refine thenL_norm ?_
  refine EL.seq ?_
  refine EL.sreg ?_
  refine OW.last 1 [1, 6] (x' := ⟨[(6, VI 0), (1, .ref 0 8 0 0)], [(saq10 s)]⟩) (by kernel_rfl) (by kernel_rfl) ?_
  refine EL.block ?_
  refine EL.loopN (fun m x => ∃ (r : Nat), m = s.back.length - r ∧ (r ≤ s.back.length ∧ s.back.any (fun i => !wi i 0 s.applied) = (s.back.drop r).any (fun i => !wi i 0 s.applied)) ∧ x = ⟨[(1, .ref 0 8 0 0), (6, VI (r : Int))], [(saq10 s)]⟩) (y := (fun (r : Nat) => (⟨[(1, .ref 0 8 0 0), (6, VI (r : Int))], [(saq10 s)]⟩ : L3)) 0) [1, 6] [.old 0 false] [] (by kernel_rfl) trivial ⟨0, rfl, by simp, rfl⟩ ?_
  rintro _ _ ⟨r, rfl, hI36, rfl⟩
  obtain ⟨hrk, hrs⟩ := hI36
  refine EL.seq ?_
  refine EL.sreg ?_
  refine OW.run 3 (x' := ⟨[(156, .lst 1 (s.back.map cI)), (155, .ref 0 8 0 7), (154, VI (r : Int)), (1, .ref 0 8 0 0), (6, VI (r : Int))], [(saq10 s)]⟩) (by kernel_rfl) ?_
  refine OW.ope (v := VI (List.length s.back : Int)) (u := []) (acc := []) (x' := ⟨[(157, VI (List.length s.back : Int)), (156, .lst 1 (s.back.map cI)), (155, .ref 0 8 0 7), (154, VI (r : Int)), (1, .ref 0 8 0 0), (6, VI (r : Int))], [(saq10 s)]⟩) (by kernel_rfl) (opE_len cI s.back (.s 156) 1 (by kernel_rfl) (by kernel_rfl) (.inl rfl)) (by kernel_rfl) ?_
  refine OW.last 1 [1, 6, 158] (x' := ⟨[(158, .v (.bool (decide ((r : Int) < (List.length s.back : Int))))), (1, .ref 0 8 0 0), (6, VI (r : Int))], [(saq10 s)]⟩) (by kernel_rfl) (by kernel_rfl) ?_
  rcases Bool.eq_false_or_eq_true (decide ((r : Int) < (List.length s.back : Int))) with h37 | h37
  rw [h37]
  have g37 : ((r : Int) < (List.length s.back : Int)) := of_decide_eq_true h37
  have n37 : ((r) < (List.length s.back)) := by omega
  refine EL.condT (by kernel_rfl) ?_
  refine EL.skip ?_
  refine thenL_norm ?_
  refine EL.seq ?_
  refine EL.block ?_
  refine EL.sdraw ?_
  refine DW.run 3 (x' := ⟨[(163, VI (r : Int)), (162, .lst 1 (s.back.map cI)), (161, .ref 0 8 0 7), (158, .v (.bool true)), (1, .ref 0 8 0 0), (6, VI (r : Int))], [(saq10 s)]⟩) (by kernel_rfl) ?_
  obtain ⟨a39, ha39⟩ : ∃ y, s.back[((r : Int) : Int).toNat]? = some y := idx_ex ⟨by omega, by omega⟩
  have iha39 : s.back[r]? = some a39 := by simpa using ha39
  have dha39 := drop_get iha39
  refine DW.ope (v := .pim [VI a39] 0) (u := []) (acc := []) (x' := ⟨[(164, .pim [VI a39] 0), (163, VI (r : Int)), (162, .lst 1 (s.back.map cI)), (161, .ref 0 8 0 7), (158, .v (.bool true)), (1, .ref 0 8 0 0), (6, VI (r : Int))], [(saq10 s)]⟩) (by kernel_rfl) (opE_iad cI s.back (.s 162) (.s 163) 1 .i64 (r : Int) a39 (by kernel_rfl) (by kernel_rfl) (.inl rfl) rfl (by omega) ha39) (by kernel_rfl) ?_
  refine DW.run 3 (x' := ⟨[(167, .v (.bool (decide (a39 < 0)))), (166, .v (.bool (decide (a39 < 0)))), (165, VI a39), (164, .pim [VI a39] 0), (163, VI (r : Int)), (162, .lst 1 (s.back.map cI)), (161, .ref 0 8 0 7), (158, .v (.bool true)), (1, .ref 0 8 0 0), (6, VI (r : Int))], [(saq10 s)]⟩) (by kernel_rfl) ?_
  rcases Bool.eq_false_or_eq_true (decide (a39 < 0)) with h40 | h40
  rw [h40]
  have g40 : (a39 < 0) := of_decide_eq_true h40
  refine DW.last 9 [1, 6, 176] (x' := ⟨[(176, .v (.bool true)), (1, .ref 0 8 0 0), (6, VI (r : Int))], [(saq10 s)]⟩) (by kernel_rfl) (by kernel_rfl) ?_
  refine EL.condT (by kernel_rfl) ?_
  refine EL.sreg ?_
  refine OW.last 1 [2] (x' := ⟨[(2, VI 3)], [(saq10 s)]⟩) (by kernel_rfl) (by kernel_rfl) ?_
  refine EL.ret ?_
  refine inBlk_ret ?_
  refine thenL_ret ?_
  refine thenL_ret ?_
  refine inBlk_ret ?_
  refine thenL_ret ?_
  refine ⟨.inr rfl, VI 3, by kernel_rfl, Ale.of_eq ?_⟩
  focus (refine congrArg (fun n => VI n) ?_; (refine ((Ship.Fits.last ⟨⟨?_, ?_⟩, ?_, ?_, ⟨?_, ?_, ?_⟩⟩ ?_ ⟨⟨?_, ?_, ?_⟩, ?_, ?_⟩).trans ?_).symm <;> first | omega | (rw [hs, List.drop_eq_nil_of_le (by omega), List.drop_eq_nil_of_le (by omega)]; rfl) | (rw [his, List.drop_eq_nil_of_le (by omega)]; rfl) | (rw [if_pos]; left; rw [hts]; simp only [*, List.any_cons]; rw [Bool.or_eq_true]; left; simp [wi]; omega) | (rw [if_pos]; right; rw [hrs]; simp only [*, List.any_cons]; rw [Bool.or_eq_true]; left; simp [wi]; omega) | (rw [if_neg]; rw [hts, hrs, List.drop_eq_nil_of_le (by omega), List.drop_eq_nil_of_le (by omega)]; simp)))
  rw [h40]
  have g40 : ¬ (a39 < 0) := of_decide_eq_false h40
  refine DW.run 3 (x' := ⟨[(170, VI (r : Int)), (169, .lst 1 (s.back.map cI)), (168, .ref 0 8 0 7), (167, .v (.bool false)), (166, .v (.bool false)), (165, VI a39), (164, .pim [VI a39] 0), (163, VI (r : Int)), (162, .lst 1 (s.back.map cI)), (161, .ref 0 8 0 7), (158, .v (.bool true)), (1, .ref 0 8 0 0), (6, VI (r : Int))], [(saq10 s)]⟩) (by kernel_rfl) ?_
  refine DW.ope (v := .pim [VI a39] 0) (u := []) (acc := []) (x' := ⟨[(171, .pim [VI a39] 0), (170, VI (r : Int)), (169, .lst 1 (s.back.map cI)), (168, .ref 0 8 0 7), (167, .v (.bool false)), (166, .v (.bool false)), (165, VI a39), (164, .pim [VI a39] 0), (163, VI (r : Int)), (162, .lst 1 (s.back.map cI)), (161, .ref 0 8 0 7), (158, .v (.bool true)), (1, .ref 0 8 0 0), (6, VI (r : Int))], [(saq10 s)]⟩) (by kernel_rfl) (opE_iad cI s.back (.s 169) (.s 170) 1 .i64 (r : Int) a39 (by kernel_rfl) (by kernel_rfl) (.inl rfl) rfl (by omega) ha39) (by kernel_rfl) ?_
  refine DW.last 5 [1, 6, 176] (x' := ⟨[(176, .v (.bool (decide (a39 > s.applied)))), (1, .ref 0 8 0 0), (6, VI (r : Int))], [(saq10 s)]⟩) (by kernel_rfl) (by kernel_rfl) ?_
  rcases Bool.eq_false_or_eq_true (decide (a39 > s.applied)) with h41 | h41
  rw [h41]
  have g41 : (a39 > s.applied) := of_decide_eq_true h41
  refine EL.condT (by kernel_rfl) ?_
  refine EL.sreg ?_
  refine OW.last 1 [2] (x' := ⟨[(2, VI 3)], [(saq10 s)]⟩) (by kernel_rfl) (by kernel_rfl) ?_
  refine EL.ret ?_
  refine inBlk_ret ?_
  refine thenL_ret ?_
  refine thenL_ret ?_
  refine inBlk_ret ?_
  refine thenL_ret ?_
  refine ⟨.inr rfl, VI 3, by kernel_rfl, Ale.of_eq ?_⟩
  focus (refine congrArg (fun n => VI n) ?_; (refine ((Ship.Fits.last ⟨⟨?_, ?_⟩, ?_, ?_, ⟨?_, ?_, ?_⟩⟩ ?_ ⟨⟨?_, ?_, ?_⟩, ?_, ?_⟩).trans ?_).symm <;> first | omega | (rw [hs, List.drop_eq_nil_of_le (by omega), List.drop_eq_nil_of_le (by omega)]; rfl) | (rw [his, List.drop_eq_nil_of_le (by omega)]; rfl) | (rw [if_pos]; left; rw [hts]; simp only [*, List.any_cons]; rw [Bool.or_eq_true]; left; simp [wi]; omega) | (rw [if_pos]; right; rw [hrs]; simp only [*, List.any_cons]; rw [Bool.or_eq_true]; left; simp [wi]; omega) | (rw [if_neg]; rw [hts, hrs, List.drop_eq_nil_of_le (by omega), List.drop_eq_nil_of_le (by omega)]; simp)))
  rw [h41]
  have g41 : ¬ (a39 > s.applied) := of_decide_eq_false h41
  refine EL.condF (by kernel_rfl) ?_
  refine EL.skip ?_
  refine inBlk_norm ?_
  refine thenL_norm ?_
  refine EL.reg0 ?_
  refine OW.run 3 (x' := ⟨[(6, VI (IntKind.i64.wrap ((r : Int) + 1))), (160, VI (IntKind.i64.wrap ((r : Int) + 1))), (159, VI (r : Int)), (176, .v (.bool false)), (1, .ref 0 8 0 0)], [(saq10 s)]⟩) (by kernel_rfl) ?_
  have e42 : IntKind.i64.wrap ((r : Int) + 1) = (r : Int) + 1 := wr64 (by omega)
  rw [e42]
  refine OW.end 0 (x' := ⟨[(6, VI ((r : Int) + 1)), (160, VI ((r : Int) + 1)), (159, VI (r : Int)), (176, .v (.bool false)), (1, .ref 0 8 0 0)], [(saq10 s)]⟩) (by kernel_rfl) (by kernel_rfl) ?_
  refine thenL_norm ?_
  refine round_end (live := [1, 6]) (src := [.old 0 false]) (es := []) (y := (fun (r : Nat) => (⟨[(1, .ref 0 8 0 0), (6, VI (r : Int))], [(saq10 s)]⟩ : L3)) (r + 1)) ?_ trivial ?_ ⟨(r + 1), rfl, ?_, rfl⟩
  kernel_rfl
  omega
  focus (refine ⟨by omega, ?_⟩; rw [hrs]; simp only [*, List.any_cons]; rw [wi_iff.2 ⟨by omega, by omega⟩]; rfl)
  rw [h37]
  have g37 : ¬ ((r : Int) < (List.length s.back : Int)) := of_decide_eq_false h37
  have n37 : ¬ ((r) < (List.length s.back)) := by omega
  refine EL.condF (by kernel_rfl) ?_
  refine EL.exit ?_
  refine thenL_exit ?_
  refine thenL_exit ?_
  refine inBlk_hit ?_
  refine thenL_norm ?_
  refine EL.sreg ?_
  refine OW.last 1 [2] (x' := ⟨[(2, VI 0)], [(saq10 s)]⟩) (by kernel_rfl) (by kernel_rfl) ?_
  refine EL.ret ?_
  refine ⟨.inr rfl, VI 0, by kernel_rfl, Ale.of_eq ?_⟩
  focus (refine congrArg (fun n => VI n) ?_; (refine ((Ship.Fits.last ⟨⟨?_, ?_⟩, ?_, ?_, ⟨?_, ?_, ?_⟩⟩ ?_ ⟨⟨?_, ?_, ?_⟩, ?_, ?_⟩).trans ?_).symm <;> first | omega | (rw [hs, List.drop_eq_nil_of_le (by omega), List.drop_eq_nil_of_le (by omega)]; rfl) | (rw [his, List.drop_eq_nil_of_le (by omega)]; rfl) | (rw [if_pos]; left; rw [hts]; simp only [*, List.any_cons]; rw [Bool.or_eq_true]; left; simp [wi]; omega) | (rw [if_pos]; right; rw [hrs]; simp only [*, List.any_cons]; rw [Bool.or_eq_true]; left; simp [wi]; omega) | (rw [if_neg]; rw [hts, hrs, List.drop_eq_nil_of_le (by omega), List.drop_eq_nil_of_le (by omega)]; simp)))
abbrev saq144 (n : Int) : LS := [(9, .v (.bool true)), (2, .ref 0 8 0 0), (0, VI n)]
abbrev saq145 (n : Int) : LS := [(11, VI n), (9, .v (.bool false)), (2, .ref 0 8 0 0), (0, VI n)]
abbrev saq146 (n : Int) : LS := (12, .own 1 1 0 (List.length (List.replicate (Int.toNat n) (⟨#[]⟩ : ByteArray)))) :: (saq145 n)
abbrev saq147 (n : Int) : LS := (14, .own 2 1 0 (List.length (List.replicate (Int.toNat n) (⟨#[]⟩ : ByteArray)))) :: (13, VI n) :: (saq146 n)
theorem rnew_fn (n : Int) : Fn Try.prog 13 [VI n] (.tup [.agg [.lst 1 ((((Ship.newP n).1).first).map cZ), .lst 1 ((((Ship.newP n).1).second).map cZ), .lst 2 ((((Ship.newP n).1).log).map Record.cs), VI (((Ship.newP n).1).sent), VI (((Ship.newP n).1).applied), VI (((Ship.newP n).1).known), .lst 1 ((((Ship.newP n).1).there).map cI), .lst 1 ((((Ship.newP n).1).back).map cI)], VI ((Ship.newP n).2)]) := by
  refine fn_walkW F13_ok (of_decide_eq_true (by kernel_rfl)) ?_
  refine EL.sreg ?_
  refine OW.last 2 [0, 2] (x' := ⟨[(2, .ref 0 8 0 0), (0, VI n)], [saq11]⟩) (by kernel_rfl) (by kernel_rfl) ?_
  refine EL.seq ?_
  refine EL.sreg ?_
  refine OW.run 3 (x' := ⟨[(6, .v (.bool (decide (n < 1)))), (5, .v (.bool (decide (n < 1)))), (4, VI n), (2, .ref 0 8 0 0), (0, VI n)], [saq11]⟩) (by kernel_rfl) ?_
  rcases Bool.eq_false_or_eq_true (decide (n < 1)) with h1 | h1
  rw [h1]
  have g1 : (n < 1) := of_decide_eq_true h1
  refine OW.last 3 [0, 2, 9] (x' := ⟨(saq144 n), [saq11]⟩) (by kernel_rfl) (by kernel_rfl) ?_
  refine EL.condT (by kernel_rfl) ?_
  refine EL.sreg ?_
  refine OW.last 3 [2, 3] (x' := ⟨[(3, VI 3), (2, .ref 0 8 0 0)], [saq11]⟩) (by kernel_rfl) (by kernel_rfl) ?_
  refine EL.ret ?_
  refine thenL_ret ?_
  refine ⟨.inr rfl, .tup [.agg [.emp, .emp, .emp, VI 0, VI 0, VI 0, .emp, .emp], VI 3], by kernel_rfl, Ale.trans (b := .tup [saq86, VI 3]) (Ale.tup (.cons (Ale.agg (.cons (Ale.emp) (.cons (Ale.emp) (.cons (Ale.emp) (.cons (Ale.refl) (.cons (Ale.refl) (.cons (Ale.refl) (.cons (Ale.emp) (.cons (Ale.emp) (.nil)))))))))) (.cons (Ale.refl) (.nil)))) (Ale.of_eq ?_)⟩
  focus ((first | (have hw : wi n 1 32 = true := wi_iff.2 ⟨by omega, by omega⟩; simp [Ship.newP, hw]; done) | (have hw : wi n 1 32 = false := (by simp [wi]; omega); simp [Ship.newP, Ship.zero, hw]; done)))
  rw [h1]
  have g1 : ¬ (n < 1) := of_decide_eq_false h1
  refine OW.last 3 [0, 2, 9] (x' := ⟨[(9, .v (.bool (decide (n > 32)))), (2, .ref 0 8 0 0), (0, VI n)], [saq11]⟩) (by kernel_rfl) (by kernel_rfl) ?_
  rcases Bool.eq_false_or_eq_true (decide (n > 32)) with h2 | h2
  rw [h2]
  have g2 : (n > 32) := of_decide_eq_true h2
  refine EL.condT (by kernel_rfl) ?_
  refine EL.sreg ?_
  refine OW.last 3 [2, 3] (x' := ⟨[(3, VI 3), (2, .ref 0 8 0 0)], [saq11]⟩) (by kernel_rfl) (by kernel_rfl) ?_
  refine EL.ret ?_
  refine thenL_ret ?_
  refine ⟨.inr rfl, .tup [.agg [.emp, .emp, .emp, VI 0, VI 0, VI 0, .emp, .emp], VI 3], by kernel_rfl, Ale.trans (b := .tup [saq86, VI 3]) (Ale.tup (.cons (Ale.agg (.cons (Ale.emp) (.cons (Ale.emp) (.cons (Ale.emp) (.cons (Ale.refl) (.cons (Ale.refl) (.cons (Ale.refl) (.cons (Ale.emp) (.cons (Ale.emp) (.nil)))))))))) (.cons (Ale.refl) (.nil)))) (Ale.of_eq ?_)⟩
  focus ((first | (have hw : wi n 1 32 = true := wi_iff.2 ⟨by omega, by omega⟩; simp [Ship.newP, hw]; done) | (have hw : wi n 1 32 = false := (by simp [wi]; omega); simp [Ship.newP, Ship.zero, hw]; done)))
  rw [h2]
  have g2 : ¬ (n > 32) := of_decide_eq_false h2
  refine EL.condF (by kernel_rfl) ?_
  refine EL.skip ?_
  refine thenL_norm ?_
  refine EL.sdraw ?_
  refine DW.run 1 (x' := ⟨(saq145 n), [saq11]⟩) (by kernel_rfl) ?_
  refine DW.ope (v := .own 1 1 0 (List.length (List.replicate (Int.toNat n) (⟨#[]⟩ : ByteArray)))) (u := [(1, some ⟨1, ((List.replicate (Int.toNat n) (⟨#[]⟩ : ByteArray)).map cZ)⟩)]) (acc := []) (x' := ⟨(saq146 n), [saq11, (saq79 n)]⟩) (by kernel_rfl) (opE_msl cZ (⟨#[]⟩ : ByteArray) 1 16 [.v (.string (⟨#[]⟩))] (.s 11) (.s 11) .i64 .i64 n (by kernel_rfl) (by kernel_rfl) rfl rfl (by kernel_rfl) ⟨by omega, by omega⟩) (by kernel_rfl) ?_
  refine DW.run 1 (x' := ⟨(13, VI n) :: (saq146 n), [saq11, (saq79 n)]⟩) (by kernel_rfl) ?_
  refine DW.ope (v := .own 2 1 0 (List.length (List.replicate (Int.toNat n) (⟨#[]⟩ : ByteArray)))) (u := [(2, some ⟨1, ((List.replicate (Int.toNat n) (⟨#[]⟩ : ByteArray)).map cZ)⟩)]) (acc := []) (x' := ⟨(saq147 n), [saq11, (saq79 n), (saq79 n)]⟩) (by kernel_rfl) (opE_msl cZ (⟨#[]⟩ : ByteArray) 1 16 [.v (.string (⟨#[]⟩))] (.s 13) (.s 13) .i64 .i64 n (by kernel_rfl) (by kernel_rfl) rfl rfl (by kernel_rfl) ⟨by omega, by omega⟩) (by kernel_rfl) ?_
  refine DW.last 3 [2, 3] (x' := ⟨[(3, VI 0), (2, .ref 0 8 0 0)], [(saq82 n), (saq79 n), (saq79 n)]⟩) (by kernel_rfl) (by kernel_rfl) ?_
  refine EL.ret ?_
  refine ⟨.inr rfl, .tup [(saq85 n), VI 0], run_snap (r0 := .tup [(saq84 n), VI 0]) (by kernel_rfl) (snapR_tup (snapAs_cons (snapA_agg (snapL_cons (snap1_map cZ (List.replicate (Int.toNat n) (⟨#[]⟩ : ByteArray)) (by kernel_rfl) (by intro y; kernel_rfl) (by simp)) (snapL_cons (snap1_map cZ (List.replicate (Int.toNat n) (⟨#[]⟩ : ByteArray)) (by kernel_rfl) (by intro y; kernel_rfl) (by simp)) (snapL_cons (by kernel_rfl) (snapL_cons (by kernel_rfl) (snapL_cons (by kernel_rfl) (snapL_cons (by kernel_rfl) (snapL_cons (by kernel_rfl) (snapL_cons (by kernel_rfl) (rfl)))))))))) (snapAs_cons (by kernel_rfl) (snapAs_nil)))), Ale.trans (b := .tup [(saq83 n), VI 0]) (Ale.tup (.cons (Ale.agg (.cons (Ale.refl) (.cons (Ale.refl) (.cons (Ale.emp) (.cons (Ale.refl) (.cons (Ale.refl) (.cons (Ale.refl) (.cons (Ale.emp) (.cons (Ale.emp) (.nil)))))))))) (.cons (Ale.refl) (.nil)))) (Ale.of_eq ?_)⟩
  focus ((first | (have hw : wi n 1 32 = true := wi_iff.2 ⟨by omega, by omega⟩; simp [Ship.newP, hw]; done) | (have hw : wi n 1 32 = false := (by simp [wi]; omega); simp [Ship.newP, Ship.zero, hw]; done)))
abbrev saq148 (xs : List ByteArray) (ys : List ByteArray) : LS := [(6, .lst 1 (xs.map cZ)), (0, .lst 1 (xs.map cZ)), (1, .lst 1 (ys.map cZ))]
abbrev saq149 (ys : List ByteArray) (xs : List ByteArray) : LS := (8, .lst 1 (ys.map cZ)) :: (7, VI (List.length xs : Int)) :: (saq148 xs ys)
abbrev saq150 (xs : List ByteArray) (ys : List ByteArray) : LS := [(5, VI 0), (0, .lst 1 (xs.map cZ)), (1, .lst 1 (ys.map cZ))]
abbrev saq151 (xs : List ByteArray) (ys : List ByteArray) (k : Nat) : LS := [(0, .lst 1 (xs.map cZ)), (1, .lst 1 (ys.map cZ)), (5, VI (k : Int))]
abbrev saq152 (xs : List ByteArray) (k : Nat) (ys : List ByteArray) : LS := (12, .lst 1 (xs.map cZ)) :: (11, VI (k : Int)) :: (saq151 xs ys k)
abbrev saq153 (k : Nat) (xs : List ByteArray) (ys : List ByteArray) : LS := (18, VI (k : Int)) :: (17, .lst 1 (xs.map cZ)) :: (14, .v (.bool true)) :: (saq151 xs ys k)
abbrev saq154 (k : Nat) (ys : List ByteArray) (a5 : ByteArray) (xs : List ByteArray) : LS := (22, VI (k : Int)) :: (21, .lst 1 (ys.map cZ)) :: (20, .v (.string a5)) :: (19, .pim [.v (.string a5)] 0) :: (saq153 k xs ys)
abbrev saq155 (k : Nat) (xs : List ByteArray) (ys : List ByteArray) : LS := [(15, VI (k : Int)), (25, .v (.bool false)), (0, .lst 1 (xs.map cZ)), (1, .lst 1 (ys.map cZ))]
abbrev saq156 (k : Nat) (xs : List ByteArray) (ys : List ByteArray) : LS := (5, VI ((k : Int) + 1)) :: (16, VI ((k : Int) + 1)) :: (saq155 k xs ys)
theorem sameTexts_fn (xs : List ByteArray) (ys : List ByteArray) (hx : xs.length ≤ 9223372036854775807) : Fn Try.prog 22 [.lst 1 (xs.map cZ), .lst 1 (ys.map cZ)] (.v (.bool (decide (xs = ys)))) := by
  refine fn_walkW F22_ok (of_decide_eq_true (by kernel_rfl)) ?_
  refine EL.sreg ?_
  refine OW.last 1 [0, 1] (x' := ⟨[(0, .lst 1 (xs.map cZ)), (1, .lst 1 (ys.map cZ))], []⟩) (by kernel_rfl) (by kernel_rfl) ?_
  refine EL.seq ?_
  refine EL.sreg ?_
  refine OW.run 1 (x' := ⟨(saq148 xs ys), []⟩) (by kernel_rfl) ?_
  refine OW.ope (v := VI (List.length xs : Int)) (u := []) (acc := []) (x' := ⟨(7, VI (List.length xs : Int)) :: (saq148 xs ys), []⟩) (by kernel_rfl) (opE_len cZ xs (.s 6) 1 (by kernel_rfl) (by kernel_rfl) (.inl rfl)) (by kernel_rfl) ?_
  refine OW.run 1 (x' := ⟨(saq149 ys xs), []⟩) (by kernel_rfl) ?_
  refine OW.ope (v := VI (List.length ys : Int)) (u := []) (acc := []) (x' := ⟨(9, VI (List.length ys : Int)) :: (saq149 ys xs), []⟩) (by kernel_rfl) (opE_len cZ ys (.s 8) 1 (by kernel_rfl) (by kernel_rfl) (.inl rfl)) (by kernel_rfl) ?_
  refine OW.last 1 [0, 1, 10] (x' := ⟨[(10, .v (.bool ((List.length xs : Int) != (List.length ys : Int)))), (0, .lst 1 (xs.map cZ)), (1, .lst 1 (ys.map cZ))], []⟩) (by kernel_rfl) (by kernel_rfl) ?_
  rcases Bool.eq_false_or_eq_true (((List.length xs : Int) != (List.length ys : Int))) with h1 | h1
  rw [h1]
  have g1 : ¬ ((List.length xs : Int) = (List.length ys : Int)) := by simpa using h1
  have n1 : ¬ ((List.length xs) = (List.length ys)) := by omega
  refine EL.condT (by kernel_rfl) ?_
  refine EL.sreg ?_
  refine OW.last 1 [4] (x' := ⟨[(4, .v (.bool false))], []⟩) (by kernel_rfl) (by kernel_rfl) ?_
  refine EL.ret ?_
  refine thenL_ret ?_
  refine ⟨.inr rfl, .v (.bool false), by kernel_rfl, Ale.of_eq ?_⟩
  focus ((refine congrArg (fun b => AV.v (Value.bool b)) ?_; first | (have hne : xs ≠ ys := (fun h => by subst h; omega); simp [hne]; done) | (rw [hs, List.drop_eq_nil_of_le (by omega), List.drop_eq_nil_of_le (by omega)]; simp; done) | (rw [hs]; simp [*]; done)))
  rw [h1]
  have g1 : ((List.length xs : Int) = (List.length ys : Int)) := by simpa using h1
  have n1 : ((List.length xs) = (List.length ys)) := by omega
  refine EL.condF (by kernel_rfl) ?_
  refine EL.skip ?_
  refine thenL_norm ?_
  refine EL.seq ?_
  refine EL.sreg ?_
  refine OW.last 1 [0, 1, 5] (x' := ⟨(saq150 xs ys), []⟩) (by kernel_rfl) (by kernel_rfl) ?_
  refine EL.block ?_
  refine EL.loopN (fun m x => ∃ (k : Nat), m = xs.length - k ∧ (k ≤ xs.length ∧ xs.length = ys.length ∧ decide (xs = ys) = decide (xs.drop k = ys.drop k)) ∧ x = ⟨(saq151 xs ys k), []⟩) (y := (fun (k : Nat) => (⟨(saq151 xs ys k), []⟩ : L3)) 0) [0, 1, 5] [] [] (by kernel_rfl) trivial ⟨0, rfl, by simp; omega, rfl⟩ ?_
  rintro _ _ ⟨k, rfl, hI2, rfl⟩
  obtain ⟨hk, hl, hs⟩ := hI2
  refine EL.seq ?_
  refine EL.sreg ?_
  refine OW.run 2 (x' := ⟨(saq152 xs k ys), []⟩) (by kernel_rfl) ?_
  refine OW.ope (v := VI (List.length xs : Int)) (u := []) (acc := []) (x' := ⟨(13, VI (List.length xs : Int)) :: (saq152 xs k ys), []⟩) (by kernel_rfl) (opE_len cZ xs (.s 12) 1 (by kernel_rfl) (by kernel_rfl) (.inl rfl)) (by kernel_rfl) ?_
  refine OW.last 1 [0, 1, 5, 14] (x' := ⟨(14, .v (.bool (decide ((k : Int) < (List.length xs : Int))))) :: (saq151 xs ys k), []⟩) (by kernel_rfl) (by kernel_rfl) ?_
  rcases Bool.eq_false_or_eq_true (decide ((k : Int) < (List.length xs : Int))) with h3 | h3
  rw [h3]
  have g3 : ((k : Int) < (List.length xs : Int)) := of_decide_eq_true h3
  have n3 : ((k) < (List.length xs)) := by omega
  refine EL.condT (by kernel_rfl) ?_
  refine EL.skip ?_
  refine thenL_norm ?_
  refine EL.seq ?_
  refine EL.block ?_
  refine EL.sdraw ?_
  refine DW.run 2 (x' := ⟨(saq153 k xs ys), []⟩) (by kernel_rfl) ?_
  obtain ⟨a5, ha5⟩ : ∃ y, xs[((k : Int) : Int).toNat]? = some y := idx_ex ⟨by omega, by omega⟩
  have iha5 : xs[k]? = some a5 := by simpa using ha5
  have dha5 := drop_get iha5
  refine DW.ope (v := .pim [.v (.string a5)] 0) (u := []) (acc := []) (x' := ⟨(19, .pim [.v (.string a5)] 0) :: (saq153 k xs ys), []⟩) (by kernel_rfl) (opE_iad cZ xs (.s 17) (.s 18) 1 .i64 (k : Int) a5 (by kernel_rfl) (by kernel_rfl) (.inl rfl) rfl (by omega) ha5) (by kernel_rfl) ?_
  refine DW.run 3 (x' := ⟨(saq154 k ys a5 xs), []⟩) (by kernel_rfl) ?_
  obtain ⟨a7, ha7⟩ : ∃ y, ys[((k : Int) : Int).toNat]? = some y := idx_ex ⟨by omega, by omega⟩
  have iha7 : ys[k]? = some a7 := by simpa using ha7
  have dha7 := drop_get iha7
  refine DW.ope (v := .pim [.v (.string a7)] 0) (u := []) (acc := []) (x' := ⟨(23, .pim [.v (.string a7)] 0) :: (saq154 k ys a5 xs), []⟩) (by kernel_rfl) (opE_iad cZ ys (.s 21) (.s 22) 1 .i64 (k : Int) a7 (by kernel_rfl) (by kernel_rfl) (.inl rfl) rfl (by omega) ha7) (by kernel_rfl) ?_
  refine DW.last 2 [0, 1, 5, 25] (x' := ⟨(25, .v (.bool (!(strEq a5 a7)))) :: (saq151 xs ys k), []⟩) (by kernel_rfl) (by kernel_rfl) ?_
  rcases Bool.eq_false_or_eq_true (strEq a5 a7) with h8 | h8
  rw [h8]
  have g8 : (a5 = a7) := strEq_iff.1 h8
  refine EL.condF (by kernel_rfl) ?_
  refine EL.skip ?_
  refine inBlk_norm ?_
  refine thenL_norm ?_
  refine EL.reg0 ?_
  refine OW.run 3 (x' := ⟨(5, VI (IntKind.i64.wrap ((k : Int) + 1))) :: (16, VI (IntKind.i64.wrap ((k : Int) + 1))) :: (saq155 k xs ys), []⟩) (by kernel_rfl) ?_
  have e9 : IntKind.i64.wrap ((k : Int) + 1) = (k : Int) + 1 := wr64 (by omega)
  rw [e9]
  refine OW.end 0 (x' := ⟨(saq156 k xs ys), []⟩) (by kernel_rfl) (by kernel_rfl) ?_
  refine thenL_norm ?_
  refine round_end (live := [0, 1, 5]) (src := []) (es := []) (y := (fun (k : Nat) => (⟨(saq151 xs ys k), []⟩ : L3)) (k + 1)) ?_ trivial ?_ ⟨(k + 1), rfl, ?_, rfl⟩
  kernel_rfl
  omega
  focus (refine ⟨by omega, by omega, ?_⟩; rw [hs]; simp [*])
  rw [h8]
  have g8 : ¬ (a5 = a7) := fun hh => Bool.noConfusion ((strEq_iff.2 hh).symm.trans h8)
  refine EL.condT (by kernel_rfl) ?_
  refine EL.sreg ?_
  refine OW.last 1 [4] (x' := ⟨[(4, .v (.bool false))], []⟩) (by kernel_rfl) (by kernel_rfl) ?_
  refine EL.ret ?_
  refine inBlk_ret ?_
  refine thenL_ret ?_
  refine thenL_ret ?_
  refine inBlk_ret ?_
  refine thenL_ret ?_
  refine ⟨.inr rfl, .v (.bool false), by kernel_rfl, Ale.of_eq ?_⟩
  focus ((refine congrArg (fun b => AV.v (Value.bool b)) ?_; first | (have hne : xs ≠ ys := (fun h => by subst h; omega); simp [hne]; done) | (rw [hs, List.drop_eq_nil_of_le (by omega), List.drop_eq_nil_of_le (by omega)]; simp; done) | (rw [hs]; simp [*]; done)))
  rw [h3]
  have g3 : ¬ ((k : Int) < (List.length xs : Int)) := of_decide_eq_false h3
  have n3 : ¬ ((k) < (List.length xs)) := by omega
  refine EL.condF (by kernel_rfl) ?_
  refine EL.exit ?_
  refine thenL_exit ?_
  refine thenL_exit ?_
  refine inBlk_hit ?_
  refine thenL_norm ?_
  refine EL.sreg ?_
  refine OW.last 1 [4] (x' := ⟨[(4, .v (.bool true))], []⟩) (by kernel_rfl) (by kernel_rfl) ?_
  refine EL.ret ?_
  refine ⟨.inr rfl, .v (.bool true), by kernel_rfl, Ale.of_eq ?_⟩
  focus ((refine congrArg (fun b => AV.v (Value.bool b)) ?_; first | (have hne : xs ≠ ys := (fun h => by subst h; omega); simp [hne]; done) | (rw [hs, List.drop_eq_nil_of_le (by omega), List.drop_eq_nil_of_le (by omega)]; simp; done) | (rw [hs]; simp [*]; done)))
instance : DecidableEq Record := fun a b => decidable_of_iff (a.block = b.block ∧ a.data = b.data) (by cases a; cases b; simp)
def Ship.same (a b : Ship) : Bool := decide (a.log = b.log) && (decide (a.first = b.first) && (decide (a.second = b.second) && ((a.sent == b.sent) && ((a.applied == b.applied) && ((a.known == b.known) && (decide (a.there = b.there) && decide (a.back = b.back)))))))
abbrev saq157 (a : Ship) : OB := some ⟨8, [[.lst 1 (a.first.map cZ), .lst 1 (a.second.map cZ), .lst 2 (a.log.map Record.cs), VI a.sent, VI a.applied, VI a.known, .lst 1 (a.there.map cI), .lst 1 (a.back.map cI)]]⟩
abbrev saq158 (b : Ship) : OB := some ⟨8, [[.lst 1 (b.first.map cZ), .lst 1 (b.second.map cZ), .lst 2 (b.log.map Record.cs), VI b.sent, VI b.applied, VI b.known, .lst 1 (b.there.map cI), .lst 1 (b.back.map cI)]]⟩
abbrev saq159 (a : Ship) : LS := [(7, .lst 2 (a.log.map Record.cs)), (6, .ref 0 8 0 2), (3, .ref 1 8 0 0), (2, .ref 0 8 0 0)]
abbrev saq160 (b : Ship) (a : Ship) : LS := (10, .lst 2 (b.log.map Record.cs)) :: (9, .ref 1 8 0 2) :: (8, VI (List.length a.log : Int)) :: (saq159 a)
abbrev saq161 : LS := [(5, VI 0), (3, .ref 1 8 0 0), (2, .ref 0 8 0 0)]
abbrev saq162 (k : Nat) : LS := [(2, .ref 0 8 0 0), (3, .ref 1 8 0 0), (5, VI (k : Int))]
abbrev saq163 (a : Ship) (k : Nat) : LS := (15, .lst 2 (a.log.map Record.cs)) :: (14, .ref 0 8 0 2) :: (13, VI (k : Int)) :: (saq162 k)
abbrev saq164 (k : Nat) (a : Ship) : LS := (22, VI (k : Int)) :: (21, .lst 2 (a.log.map Record.cs)) :: (20, .ref 0 8 0 2) :: (17, .v (.bool true)) :: (saq162 k)
abbrev saq165 (a5 : Record) (k : Nat) (a : Ship) : LS := (23, .pim [VI a5.block, .v (.string a5.data)] 0) :: (saq164 k a)
abbrev saq166 (k : Nat) (b : Ship) (a5 : Record) (a : Ship) : LS := (27, VI (k : Int)) :: (26, .lst 2 (b.log.map Record.cs)) :: (25, .ref 1 8 0 2) :: (24, .agg [VI a5.block, .v (.string a5.data)]) :: (saq165 a5 k a)
abbrev saq167 (a7 : Record) (k : Nat) (b : Ship) (a5 : Record) (a : Ship) : LS := (28, .pim [VI a7.block, .v (.string a7.data)] 0) :: (saq166 k b a5 a)
abbrev saq168 (k : Nat) : LS := [(18, VI (k : Int)), (30, .v (.bool false)), (2, .ref 0 8 0 0), (3, .ref 1 8 0 0)]
abbrev saq169 (k : Nat) : LS := (5, VI ((k : Int) + 1)) :: (19, VI ((k : Int) + 1)) :: (saq168 k)
abbrev saq170 (b : Ship) (a : Ship) (k : Nat) : LS := (34, .lst 1 (b.first.map cZ)) :: (33, .ref 1 8 0 0) :: (32, .lst 1 (a.first.map cZ)) :: (31, .ref 0 8 0 0) :: (17, .v (.bool false)) :: (saq162 k)
abbrev saq171 (b : Ship) (a : Ship) (k : Nat) : LS := (40, .lst 1 (b.second.map cZ)) :: (39, .ref 1 8 0 1) :: (38, .lst 1 (a.second.map cZ)) :: (37, .ref 0 8 0 1) :: (36, .v (.bool true)) :: (35, .v (.bool true)) :: (saq170 b a k)
abbrev saq172 (b : Ship) (a : Ship) (k : Nat) : LS := (47, VI b.sent) :: (46, .ref 1 8 0 3) :: (45, VI a.sent) :: (44, .ref 0 8 0 3) :: (43, .v (.bool true)) :: (42, .v (.bool true)) :: (41, .v (.bool true)) :: (saq171 b a k)
abbrev saq173 (b : Ship) (a : Ship) (k : Nat) : LS := (54, VI b.applied) :: (53, .ref 1 8 0 4) :: (52, VI a.applied) :: (51, .ref 0 8 0 4) :: (50, .v (.bool true)) :: (49, .v (.bool true)) :: (48, .v (.bool true)) :: (saq172 b a k)
abbrev saq174 (b : Ship) (a : Ship) (k : Nat) : LS := (61, VI b.known) :: (60, .ref 1 8 0 5) :: (59, VI a.known) :: (58, .ref 0 8 0 5) :: (57, .v (.bool true)) :: (56, .v (.bool true)) :: (55, .v (.bool true)) :: (saq173 b a k)
abbrev saq175 (b : Ship) (a : Ship) (k : Nat) : LS := (68, .lst 1 (b.there.map cI)) :: (67, .ref 1 8 0 6) :: (66, .lst 1 (a.there.map cI)) :: (65, .ref 0 8 0 6) :: (64, .v (.bool true)) :: (63, .v (.bool true)) :: (62, .v (.bool true)) :: (saq174 b a k)
abbrev saq176 (b : Ship) (a : Ship) (k : Nat) : LS := (75, .lst 1 (b.back.map cI)) :: (74, .ref 1 8 0 7) :: (73, .lst 1 (a.back.map cI)) :: (72, .ref 0 8 0 7) :: (71, .v (.bool true)) :: (70, .v (.bool true)) :: (69, .v (.bool true)) :: (saq175 b a k)
theorem sameShip_fn (a : Ship) (b : Ship) (ha : a.first.length ≤ 9223372036854775807 ∧ a.second.length ≤ 9223372036854775807 ∧ a.log.length ≤ 9223372036854775807 ∧ a.there.length ≤ 9223372036854775807 ∧ a.back.length ≤ 9223372036854775807) : Fn Try.prog 16 [.agg [.lst 1 (a.first.map cZ), .lst 1 (a.second.map cZ), .lst 2 (a.log.map Record.cs), VI a.sent, VI a.applied, VI a.known, .lst 1 (a.there.map cI), .lst 1 (a.back.map cI)], .agg [.lst 1 (b.first.map cZ), .lst 1 (b.second.map cZ), .lst 2 (b.log.map Record.cs), VI b.sent, VI b.applied, VI b.known, .lst 1 (b.there.map cI), .lst 1 (b.back.map cI)]] (.v (.bool (Ship.same a b))) := by
  refine fn_walkW F16_ok (of_decide_eq_true (by kernel_rfl)) ?_
  refine EL.sreg ?_
  refine OW.last 3 [2, 3] (x' := ⟨[(3, .ref 1 8 0 0), (2, .ref 0 8 0 0)], [(saq157 a), (saq158 b)]⟩) (by kernel_rfl) (by kernel_rfl) ?_
  refine EL.seq ?_
  refine EL.sreg ?_
  refine OW.run 2 (x' := ⟨(saq159 a), [(saq157 a), (saq158 b)]⟩) (by kernel_rfl) ?_
  refine OW.ope (v := VI (List.length a.log : Int)) (u := []) (acc := []) (x' := ⟨(8, VI (List.length a.log : Int)) :: (saq159 a), [(saq157 a), (saq158 b)]⟩) (by kernel_rfl) (opE_len Record.cs a.log (.s 7) 2 (by kernel_rfl) (by kernel_rfl) (.inl rfl)) (by kernel_rfl) ?_
  refine OW.run 2 (x' := ⟨(saq160 b a), [(saq157 a), (saq158 b)]⟩) (by kernel_rfl) ?_
  refine OW.ope (v := VI (List.length b.log : Int)) (u := []) (acc := []) (x' := ⟨(11, VI (List.length b.log : Int)) :: (saq160 b a), [(saq157 a), (saq158 b)]⟩) (by kernel_rfl) (opE_len Record.cs b.log (.s 10) 2 (by kernel_rfl) (by kernel_rfl) (.inl rfl)) (by kernel_rfl) ?_
  refine OW.last 1 [2, 3, 12] (x' := ⟨[(12, .v (.bool ((List.length a.log : Int) != (List.length b.log : Int)))), (3, .ref 1 8 0 0), (2, .ref 0 8 0 0)], [(saq157 a), (saq158 b)]⟩) (by kernel_rfl) (by kernel_rfl) ?_
  rcases Bool.eq_false_or_eq_true (((List.length a.log : Int) != (List.length b.log : Int))) with h1 | h1
  rw [h1]
  have g1 : ¬ ((List.length a.log : Int) = (List.length b.log : Int)) := by simpa using h1
  have n1 : ¬ ((List.length a.log) = (List.length b.log)) := by omega
  refine EL.condT (by kernel_rfl) ?_
  refine EL.sreg ?_
  refine OW.last 1 [4] (x' := ⟨[(4, .v (.bool false))], [(saq157 a), (saq158 b)]⟩) (by kernel_rfl) (by kernel_rfl) ?_
  refine EL.ret ?_
  refine thenL_ret ?_
  refine ⟨.inr rfl, .v (.bool false), by kernel_rfl, Ale.of_eq ?_⟩
  focus ((refine congrArg (fun b => AV.v (Value.bool b)) ?_; first | (have hne : a.log ≠ b.log := (fun h => by have := congrArg List.length h; omega); simp [Ship.same, hne]; done) | (rw [List.drop_eq_nil_of_le (by omega), List.drop_eq_nil_of_le (by omega)] at hs; simp [Ship.same, hs, *]; done) | (unfold Ship.same; rw [hs]; simp [Record.ext_iff, *]; done)))
  rw [h1]
  have g1 : ((List.length a.log : Int) = (List.length b.log : Int)) := by simpa using h1
  have n1 : ((List.length a.log) = (List.length b.log)) := by omega
  refine EL.condF (by kernel_rfl) ?_
  refine EL.skip ?_
  refine thenL_norm ?_
  refine EL.seq ?_
  refine EL.sreg ?_
  refine OW.last 1 [2, 3, 5] (x' := ⟨saq161, [(saq157 a), (saq158 b)]⟩) (by kernel_rfl) (by kernel_rfl) ?_
  refine EL.block ?_
  refine EL.loopN (fun m x => ∃ (k : Nat), m = a.log.length - k ∧ (k ≤ a.log.length ∧ a.log.length = b.log.length ∧ decide (a.log = b.log) = decide (a.log.drop k = b.log.drop k)) ∧ x = ⟨(saq162 k), [(saq157 a), (saq158 b)]⟩) (y := (fun (k : Nat) => (⟨(saq162 k), [(saq157 a), (saq158 b)]⟩ : L3)) 0) [2, 3, 5] [.old 0 false, .old 1 false] [] (by kernel_rfl) trivial ⟨0, rfl, by simp; omega, rfl⟩ ?_
  rintro _ _ ⟨k, rfl, hI2, rfl⟩
  obtain ⟨hk, hl, hs⟩ := hI2
  refine EL.seq ?_
  refine EL.sreg ?_
  refine OW.run 3 (x' := ⟨(saq163 a k), [(saq157 a), (saq158 b)]⟩) (by kernel_rfl) ?_
  refine OW.ope (v := VI (List.length a.log : Int)) (u := []) (acc := []) (x' := ⟨(16, VI (List.length a.log : Int)) :: (saq163 a k), [(saq157 a), (saq158 b)]⟩) (by kernel_rfl) (opE_len Record.cs a.log (.s 15) 2 (by kernel_rfl) (by kernel_rfl) (.inl rfl)) (by kernel_rfl) ?_
  refine OW.last 1 [2, 3, 5, 17] (x' := ⟨(17, .v (.bool (decide ((k : Int) < (List.length a.log : Int))))) :: (saq162 k), [(saq157 a), (saq158 b)]⟩) (by kernel_rfl) (by kernel_rfl) ?_
  rcases Bool.eq_false_or_eq_true (decide ((k : Int) < (List.length a.log : Int))) with h3 | h3
  rw [h3]
  have g3 : ((k : Int) < (List.length a.log : Int)) := of_decide_eq_true h3
  have n3 : ((k) < (List.length a.log)) := by omega
  refine EL.condT (by kernel_rfl) ?_
  refine EL.skip ?_
  refine thenL_norm ?_
  refine EL.seq ?_
  refine EL.block ?_
  refine EL.sdraw ?_
  refine DW.run 3 (x' := ⟨(saq164 k a), [(saq157 a), (saq158 b)]⟩) (by kernel_rfl) ?_
  obtain ⟨a5, ha5⟩ : ∃ y, a.log[((k : Int) : Int).toNat]? = some y := idx_ex ⟨by omega, by omega⟩
  have iha5 : a.log[k]? = some a5 := by simpa using ha5
  have dha5 := drop_get iha5
  refine DW.ope (v := .pim [VI a5.block, .v (.string a5.data)] 0) (u := []) (acc := []) (x' := ⟨(saq165 a5 k a), [(saq157 a), (saq158 b)]⟩) (by kernel_rfl) (opE_iad Record.cs a.log (.s 21) (.s 22) 2 .i64 (k : Int) a5 (by kernel_rfl) (by kernel_rfl) (.inl rfl) rfl (by omega) ha5) (by kernel_rfl) ?_
  refine DW.run 4 (x' := ⟨(saq166 k b a5 a), [(saq157 a), (saq158 b)]⟩) (by kernel_rfl) ?_
  obtain ⟨a7, ha7⟩ : ∃ y, b.log[((k : Int) : Int).toNat]? = some y := idx_ex ⟨by omega, by omega⟩
  have iha7 : b.log[k]? = some a7 := by simpa using ha7
  have dha7 := drop_get iha7
  refine DW.ope (v := .pim [VI a7.block, .v (.string a7.data)] 0) (u := []) (acc := []) (x' := ⟨(saq167 a7 k b a5 a), [(saq157 a), (saq158 b)]⟩) (by kernel_rfl) (opE_iad Record.cs b.log (.s 26) (.s 27) 2 .i64 (k : Int) a7 (by kernel_rfl) (by kernel_rfl) (.inl rfl) rfl (by omega) ha7) (by kernel_rfl) ?_
  refine DW.last 2 [2, 3, 5, 30] (x' := ⟨(30, .v (.bool (!((a5.block == a7.block) && (strEq a5.data a7.data && true))))) :: (saq162 k), [(saq157 a), (saq158 b)]⟩) (by kernel_rfl) (by kernel_rfl) ?_
  rcases Bool.eq_false_or_eq_true (((a5.block == a7.block) && (strEq a5.data a7.data && true))) with h8 | h8
  rw [h8]
  have g8 : a5.block = a7.block ∧ a5.data = a7.data := by simpa [strEq_iff] using h8
  refine EL.condF (by kernel_rfl) ?_
  refine EL.skip ?_
  refine inBlk_norm ?_
  refine thenL_norm ?_
  refine EL.reg0 ?_
  refine OW.run 3 (x' := ⟨(5, VI (IntKind.i64.wrap ((k : Int) + 1))) :: (19, VI (IntKind.i64.wrap ((k : Int) + 1))) :: (saq168 k), [(saq157 a), (saq158 b)]⟩) (by kernel_rfl) ?_
  have e9 : IntKind.i64.wrap ((k : Int) + 1) = (k : Int) + 1 := wr64 (by omega)
  rw [e9]
  refine OW.end 0 (x' := ⟨(saq169 k), [(saq157 a), (saq158 b)]⟩) (by kernel_rfl) (by kernel_rfl) ?_
  refine thenL_norm ?_
  refine round_end (live := [2, 3, 5]) (src := [.old 0 false, .old 1 false]) (es := []) (y := (fun (k : Nat) => (⟨(saq162 k), [(saq157 a), (saq158 b)]⟩ : L3)) (k + 1)) ?_ trivial ?_ ⟨(k + 1), rfl, ?_, rfl⟩
  kernel_rfl
  omega
  focus (refine ⟨by omega, by omega, ?_⟩; rw [hs]; simp only [*, List.cons.injEq, Record.ext_iff, and_self, true_and])
  rw [h8]
  have g8 : ¬ (a5.block = a7.block ∧ a5.data = a7.data) := fun ⟨q0, q1⟩ => Bool.noConfusion ((show (((a5.block == a7.block) && (strEq a5.data a7.data && true))) = true by first | (simp [q0, q1, strEq_iff]; done) | (simp only [q0, q1, beq_self_eq_true, Bool.and_self, Bool.and_true, Bool.true_and]; done)).symm.trans h8)
  refine EL.condT (by kernel_rfl) ?_
  refine EL.sreg ?_
  refine OW.last 1 [4] (x' := ⟨[(4, .v (.bool false))], [(saq157 a), (saq158 b)]⟩) (by kernel_rfl) (by kernel_rfl) ?_
  refine EL.ret ?_
  refine inBlk_ret ?_
  refine thenL_ret ?_
  refine thenL_ret ?_
  refine inBlk_ret ?_
  refine thenL_ret ?_
  refine ⟨.inr rfl, .v (.bool false), by kernel_rfl, Ale.of_eq ?_⟩
  focus ((refine congrArg (fun b => AV.v (Value.bool b)) ?_; first | (have hne : a.log ≠ b.log := (fun h => by have := congrArg List.length h; omega); simp [Ship.same, hne]; done) | (rw [List.drop_eq_nil_of_le (by omega), List.drop_eq_nil_of_le (by omega)] at hs; simp [Ship.same, hs, *]; done) | (unfold Ship.same; rw [hs]; simp [Record.ext_iff, *]; done)))
  rw [h3]
  have g3 : ¬ ((k : Int) < (List.length a.log : Int)) := of_decide_eq_false h3
  have n3 : ¬ ((k) < (List.length a.log)) := by omega
  refine EL.condF (by kernel_rfl) ?_
  refine EL.exit ?_
  refine thenL_exit ?_
  refine thenL_exit ?_
  refine inBlk_hit ?_
  refine thenL_norm ?_
  refine EL.sreg ?_
  refine OW.run 4 (x' := ⟨(saq170 b a k), [(saq157 a), (saq158 b)]⟩) (by kernel_rfl) ?_
  refine OW.fn (ar := [.lst 1 (a.first.map cZ), .lst 1 (b.first.map cZ)]) (x' := ⟨(35, .v (.bool (decide (a.first = b.first)))) :: (saq170 b a k), [(saq157 a), (saq158 b)]⟩) (by kernel_rfl) (by kernel_rfl) F22_call (sameTexts_fn a.first b.first (by omega)) (by kernel_rfl) (by kernel_rfl) ?_
  refine OW.run 1 (x' := ⟨(36, .v (.bool (decide (a.first = b.first)))) :: (35, .v (.bool (decide (a.first = b.first)))) :: (saq170 b a k), [(saq157 a), (saq158 b)]⟩) (by kernel_rfl) ?_
  rcases Bool.eq_false_or_eq_true (decide (a.first = b.first)) with h10 | h10
  rw [h10]
  have g10 : (a.first = b.first) := of_decide_eq_true h10
  refine OW.run 4 (x' := ⟨(saq171 b a k), [(saq157 a), (saq158 b)]⟩) (by kernel_rfl) ?_
  refine OW.fn (ar := [.lst 1 (a.second.map cZ), .lst 1 (b.second.map cZ)]) (x' := ⟨(41, .v (.bool (decide (a.second = b.second)))) :: (saq171 b a k), [(saq157 a), (saq158 b)]⟩) (by kernel_rfl) (by kernel_rfl) F22_call (sameTexts_fn a.second b.second (by omega)) (by kernel_rfl) (by kernel_rfl) ?_
  refine OW.run 2 (x' := ⟨(43, .v (.bool (decide (a.second = b.second)))) :: (42, .v (.bool (decide (a.second = b.second)))) :: (41, .v (.bool (decide (a.second = b.second)))) :: (saq171 b a k), [(saq157 a), (saq158 b)]⟩) (by kernel_rfl) ?_
  rcases Bool.eq_false_or_eq_true (decide (a.second = b.second)) with h11 | h11
  rw [h11]
  have g11 : (a.second = b.second) := of_decide_eq_true h11
  refine OW.run 7 (x' := ⟨(50, .v (.bool (a.sent == b.sent))) :: (49, .v (.bool (a.sent == b.sent))) :: (48, .v (.bool (a.sent == b.sent))) :: (saq172 b a k), [(saq157 a), (saq158 b)]⟩) (by kernel_rfl) ?_
  rcases Bool.eq_false_or_eq_true ((a.sent == b.sent)) with h12 | h12
  rw [h12]
  have g12 : (a.sent = b.sent) := by simpa using h12
  refine OW.run 7 (x' := ⟨(57, .v (.bool (a.applied == b.applied))) :: (56, .v (.bool (a.applied == b.applied))) :: (55, .v (.bool (a.applied == b.applied))) :: (saq173 b a k), [(saq157 a), (saq158 b)]⟩) (by kernel_rfl) ?_
  rcases Bool.eq_false_or_eq_true ((a.applied == b.applied)) with h13 | h13
  rw [h13]
  have g13 : (a.applied = b.applied) := by simpa using h13
  refine OW.run 7 (x' := ⟨(64, .v (.bool (a.known == b.known))) :: (63, .v (.bool (a.known == b.known))) :: (62, .v (.bool (a.known == b.known))) :: (saq174 b a k), [(saq157 a), (saq158 b)]⟩) (by kernel_rfl) ?_
  rcases Bool.eq_false_or_eq_true ((a.known == b.known)) with h14 | h14
  rw [h14]
  have g14 : (a.known = b.known) := by simpa using h14
  refine OW.run 4 (x' := ⟨(saq175 b a k), [(saq157 a), (saq158 b)]⟩) (by kernel_rfl) ?_
  refine OW.fn (ar := [.lst 1 (a.there.map cI), .lst 1 (b.there.map cI)]) (x' := ⟨(69, .v (.bool (decide (a.there = b.there)))) :: (saq175 b a k), [(saq157 a), (saq158 b)]⟩) (by kernel_rfl) (by kernel_rfl) F35_call (sameInts_fn a.there b.there (by omega)) (by kernel_rfl) (by kernel_rfl) ?_
  refine OW.run 2 (x' := ⟨(71, .v (.bool (decide (a.there = b.there)))) :: (70, .v (.bool (decide (a.there = b.there)))) :: (69, .v (.bool (decide (a.there = b.there)))) :: (saq175 b a k), [(saq157 a), (saq158 b)]⟩) (by kernel_rfl) ?_
  rcases Bool.eq_false_or_eq_true (decide (a.there = b.there)) with h15 | h15
  rw [h15]
  have g15 : (a.there = b.there) := of_decide_eq_true h15
  refine OW.run 4 (x' := ⟨(saq176 b a k), [(saq157 a), (saq158 b)]⟩) (by kernel_rfl) ?_
  refine OW.fn (ar := [.lst 1 (a.back.map cI), .lst 1 (b.back.map cI)]) (x' := ⟨(76, .v (.bool (decide (a.back = b.back)))) :: (saq176 b a k), [(saq157 a), (saq158 b)]⟩) (by kernel_rfl) (by kernel_rfl) F35_call (sameInts_fn a.back b.back (by omega)) (by kernel_rfl) (by kernel_rfl) ?_
  refine OW.last 2 [4] (x' := ⟨[(4, .v (.bool (decide (a.back = b.back))))], [(saq157 a), (saq158 b)]⟩) (by kernel_rfl) (by kernel_rfl) ?_
  refine EL.ret ?_
  refine ⟨.inr rfl, .v (.bool (decide (a.back = b.back))), by kernel_rfl, Ale.of_eq ?_⟩
  focus ((refine congrArg (fun b => AV.v (Value.bool b)) ?_; first | (have hne : a.log ≠ b.log := (fun h => by have := congrArg List.length h; omega); simp [Ship.same, hne]; done) | (rw [List.drop_eq_nil_of_le (by omega), List.drop_eq_nil_of_le (by omega)] at hs; simp [Ship.same, hs, *]; done) | (unfold Ship.same; rw [hs]; simp [Record.ext_iff, *]; done)))
  rw [h15]
  have g15 : ¬ (a.there = b.there) := of_decide_eq_false h15
  refine OW.last 7 [4] (x' := ⟨[(4, .v (.bool false))], [(saq157 a), (saq158 b)]⟩) (by kernel_rfl) (by kernel_rfl) ?_
  refine EL.ret ?_
  refine ⟨.inr rfl, .v (.bool false), by kernel_rfl, Ale.of_eq ?_⟩
  focus ((refine congrArg (fun b => AV.v (Value.bool b)) ?_; first | (have hne : a.log ≠ b.log := (fun h => by have := congrArg List.length h; omega); simp [Ship.same, hne]; done) | (rw [List.drop_eq_nil_of_le (by omega), List.drop_eq_nil_of_le (by omega)] at hs; simp [Ship.same, hs, *]; done) | (unfold Ship.same; rw [hs]; simp [Record.ext_iff, *]; done)))
  rw [h14]
  have g14 : ¬ (a.known = b.known) := by simpa using h14
  refine OW.last 14 [4] (x' := ⟨[(4, .v (.bool false))], [(saq157 a), (saq158 b)]⟩) (by kernel_rfl) (by kernel_rfl) ?_
  refine EL.ret ?_
  refine ⟨.inr rfl, .v (.bool false), by kernel_rfl, Ale.of_eq ?_⟩
  focus ((refine congrArg (fun b => AV.v (Value.bool b)) ?_; first | (have hne : a.log ≠ b.log := (fun h => by have := congrArg List.length h; omega); simp [Ship.same, hne]; done) | (rw [List.drop_eq_nil_of_le (by omega), List.drop_eq_nil_of_le (by omega)] at hs; simp [Ship.same, hs, *]; done) | (unfold Ship.same; rw [hs]; simp [Record.ext_iff, *]; done)))
  rw [h13]
  have g13 : ¬ (a.applied = b.applied) := by simpa using h13
  refine OW.last 21 [4] (x' := ⟨[(4, .v (.bool false))], [(saq157 a), (saq158 b)]⟩) (by kernel_rfl) (by kernel_rfl) ?_
  refine EL.ret ?_
  refine ⟨.inr rfl, .v (.bool false), by kernel_rfl, Ale.of_eq ?_⟩
  focus ((refine congrArg (fun b => AV.v (Value.bool b)) ?_; first | (have hne : a.log ≠ b.log := (fun h => by have := congrArg List.length h; omega); simp [Ship.same, hne]; done) | (rw [List.drop_eq_nil_of_le (by omega), List.drop_eq_nil_of_le (by omega)] at hs; simp [Ship.same, hs, *]; done) | (unfold Ship.same; rw [hs]; simp [Record.ext_iff, *]; done)))
  rw [h12]
  have g12 : ¬ (a.sent = b.sent) := by simpa using h12
  refine OW.last 28 [4] (x' := ⟨[(4, .v (.bool false))], [(saq157 a), (saq158 b)]⟩) (by kernel_rfl) (by kernel_rfl) ?_
  refine EL.ret ?_
  refine ⟨.inr rfl, .v (.bool false), by kernel_rfl, Ale.of_eq ?_⟩
  focus ((refine congrArg (fun b => AV.v (Value.bool b)) ?_; first | (have hne : a.log ≠ b.log := (fun h => by have := congrArg List.length h; omega); simp [Ship.same, hne]; done) | (rw [List.drop_eq_nil_of_le (by omega), List.drop_eq_nil_of_le (by omega)] at hs; simp [Ship.same, hs, *]; done) | (unfold Ship.same; rw [hs]; simp [Record.ext_iff, *]; done)))
  rw [h11]
  have g11 : ¬ (a.second = b.second) := of_decide_eq_false h11
  refine OW.last 35 [4] (x' := ⟨[(4, .v (.bool false))], [(saq157 a), (saq158 b)]⟩) (by kernel_rfl) (by kernel_rfl) ?_
  refine EL.ret ?_
  refine ⟨.inr rfl, .v (.bool false), by kernel_rfl, Ale.of_eq ?_⟩
  focus ((refine congrArg (fun b => AV.v (Value.bool b)) ?_; first | (have hne : a.log ≠ b.log := (fun h => by have := congrArg List.length h; omega); simp [Ship.same, hne]; done) | (rw [List.drop_eq_nil_of_le (by omega), List.drop_eq_nil_of_le (by omega)] at hs; simp [Ship.same, hs, *]; done) | (unfold Ship.same; rw [hs]; simp [Record.ext_iff, *]; done)))
  rw [h10]
  have g10 : ¬ (a.first = b.first) := of_decide_eq_false h10
  refine OW.last 42 [4] (x' := ⟨[(4, .v (.bool false))], [(saq157 a), (saq158 b)]⟩) (by kernel_rfl) (by kernel_rfl) ?_
  refine EL.ret ?_
  refine ⟨.inr rfl, .v (.bool false), by kernel_rfl, Ale.of_eq ?_⟩
  focus ((refine congrArg (fun b => AV.v (Value.bool b)) ?_; first | (have hne : a.log ≠ b.log := (fun h => by have := congrArg List.length h; omega); simp [Ship.same, hne]; done) | (rw [List.drop_eq_nil_of_le (by omega), List.drop_eq_nil_of_le (by omega)] at hs; simp [Ship.same, hs, *]; done) | (unfold Ship.same; rw [hs]; simp [Record.ext_iff, *]; done)))
end Go.Proofs.Ythdcanpbgaaneaa
