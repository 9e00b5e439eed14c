/- What the functions of package ship answer: what the document says of a step, of a run, of a log. No condition. -/
import Derived.Test.YthdcanpbgaaneaaPShipD
set_option maxRecDepth 100000
set_option maxHeartbeats 4000000
set_option linter.unusedVariables false
set_option linter.unusedSimpArgs false
namespace Go.Proofs.Ythdcanpbgaaneaa
abbrev seq1 : OB := some ⟨8, [[.emp, .emp, .emp, VI 0, VI 0, VI 0, .emp, .emp]]⟩
def replay (b : List ByteArray) : List Record → List ByteArray
  | [] => b
  | r :: l => replay (if 0 ≤ r.block ∧ r.block < b.length then b.set r.block.toNat r.data else b) l
theorem replay_app : ∀ (l m : List Record) (b : List ByteArray), replay b (l ++ m) = replay (replay b l) m
  | [], m, b => rfl
  | r :: l, m, b => by simp only [List.cons_append, replay]; exact replay_app l m _
abbrev seq29 (b : List ByteArray) (log : List Record) (n : Int) : LS := [(0, .lst 1 (b.map cZ)), (1, .lst 2 (log.map Record.cs)), (2, VI n)]
abbrev seq30 (b : List ByteArray) (log : List Record) (n : Int) : LS := (10, .lst 1 (b.map cZ)) :: (9, .own 0 1 0 0) :: (seq29 b log n)
abbrev seq31 (b : List ByteArray) (log : List Record) (n : Int) : LS := [(7, .own 1 1 0 (List.length b)), (1, .lst 2 (log.map Record.cs)), (2, VI n)]
abbrev seq32 (log : List Record) (n : Int) (out : List ByteArray) (k : Nat) : LS := [(1, .lst 2 (log.map Record.cs)), (2, VI n), (7, .own 0 1 0 (List.length out)), (8, VI (k : Int))]
abbrev seq33 (log : List Record) (k : Nat) (n : Int) (out : List ByteArray) : LS := (17, .lst 2 (log.map Record.cs)) :: (16, VI (k : Int)) :: (15, .v (.bool true)) :: (14, .v (.bool true)) :: (13, VI n) :: (12, VI (k : Int)) :: (seq32 log n out k)
abbrev seq34 (k : Nat) (log : List Record) (n : Int) (out : List ByteArray) : LS := (24, VI (k : Int)) :: (23, .lst 2 (log.map Record.cs)) :: (20, .v (.bool true)) :: (seq32 log n out k)
abbrev seq35 (a5 : Record) (k : Nat) (log : List Record) (n : Int) (out : List ByteArray) : LS := (25, .pim [VI a5.block, .v (.string a5.data)] 0) :: (seq34 k log n out)
abbrev seq36 (a5 : Record) (k : Nat) (log : List Record) (n : Int) (out : List ByteArray) : LS := (27, VI a5.block) :: (26, .pim [VI a5.block, .v (.string a5.data)] 0) :: (seq35 a5 k log n out)
abbrev seq37 (k : Nat) (log : List Record) (a5 : Record) (n : Int) (out : List ByteArray) : LS := (31, VI (k : Int)) :: (30, .lst 2 (log.map Record.cs)) :: (29, .v (.bool true)) :: (28, .v (.bool true)) :: (seq36 a5 k log n out)
abbrev seq38 (a5 : Record) (k : Nat) (log : List Record) (n : Int) (out : List ByteArray) : LS := (32, .pim [VI a5.block, .v (.string a5.data)] 0) :: (seq37 k log a5 n out)
abbrev seq39 (k : Nat) (log : List Record) (out : List ByteArray) (n : Int) : LS := (41, VI (k : Int)) :: (40, .lst 2 (log.map Record.cs)) :: (39, .own 0 1 0 (List.length out)) :: (38, .v (.bool true)) :: (seq32 log n out k)
abbrev seq40 (a5 : Record) (k : Nat) (log : List Record) (out : List ByteArray) (n : Int) : LS := (42, .pim [VI a5.block, .v (.string a5.data)] 0) :: (seq39 k log out n)
abbrev seq41 (k : Nat) (log : List Record) (a5 : Record) (out : List ByteArray) (n : Int) : LS := (46, VI (k : Int)) :: (45, .lst 2 (log.map Record.cs)) :: (44, VI a5.block) :: (43, .pim [VI a5.block, .v (.string a5.data)] 0) :: (seq40 a5 k log out n)
abbrev seq42 (a5 : Record) (k : Nat) (log : List Record) (out : List ByteArray) (n : Int) : LS := (47, .pim [VI a5.block, .v (.string a5.data)] 0) :: (seq41 k log a5 out n)
abbrev seq43 (a5 : Record) (k : Nat) (log : List Record) (out : List ByteArray) (n : Int) : LS := (49, .v (.string a5.data)) :: (48, .pim [VI a5.block, .v (.string a5.data)] 1) :: (seq42 a5 k log out n)
abbrev seq44 (a5 : Record) (k : Nat) (log : List Record) (out : List ByteArray) (n : Int) : LS := (50, .ref 0 1 (0 + Int.toNat a5.block) 0) :: (seq43 a5 k log out n)
abbrev seq45 (out : List ByteArray) (a5 : Record) : OB := some ⟨1, ((List.set out (0 + Int.toNat a5.block) a5.data).map cZ)⟩
abbrev seq46 (a5 : Record) (k : Nat) (log : List Record) (out : List ByteArray) (n : Int) : LS := [(50, .ref 0 1 (0 + Int.toNat a5.block) 0), (49, .v (.string a5.data)), (48, .pim [VI a5.block, .v (.string a5.data)] 1), (47, .pim [VI a5.block, .v (.string a5.data)] 0), (46, VI (k : Int)), (45, .lst 2 (log.map Record.cs)), (44, VI a5.block), (43, .pim [VI a5.block, .v (.string a5.data)] 0), (42, .pim [VI a5.block, .v (.string a5.data)] 0), (41, VI (k : Int)), (40, .lst 2 (log.map Record.cs)), (39, .own 0 1 0 (List.length (List.set out (0 + Int.toNat a5.block) a5.data))), (38, .v (.bool true)), (1, .lst 2 (log.map Record.cs)), (2, VI n), (7, .own 0 1 0 (List.length (List.set out (0 + Int.toNat a5.block) a5.data))), (8, VI (k : Int))]
abbrev seq47 (k : Nat) (a5 : Record) (log : List Record) (out : List ByteArray) (n : Int) : LS := [(21, VI (k : Int)), (50, .ref 0 1 (0 + Int.toNat a5.block) 0), (49, .v (.string a5.data)), (48, .pim [VI a5.block, .v (.string a5.data)] 1), (47, .pim [VI a5.block, .v (.string a5.data)] 0), (46, VI (k : Int)), (45, .lst 2 (log.map Record.cs)), (44, VI a5.block), (43, .pim [VI a5.block, .v (.string a5.data)] 0), (42, .pim [VI a5.block, .v (.string a5.data)] 0), (41, VI (k : Int)), (40, .lst 2 (log.map Record.cs)), (39, .own 0 1 0 (List.length (List.set out (0 + Int.toNat a5.block) a5.data))), (38, .v (.bool true)), (1, .lst 2 (log.map Record.cs)), (2, VI n), (7, .own 0 1 0 (List.length (List.set out (0 + Int.toNat a5.block) a5.data)))]
abbrev seq48 (k : Nat) (a5 : Record) (log : List Record) (out : List ByteArray) (n : Int) : LS := (8, VI ((k : Int) + 1)) :: (22, VI ((k : Int) + 1)) :: (seq47 k a5 log out n)
abbrev seq49 (k : Nat) (log : List Record) (n : Int) (out : List ByteArray) : LS := [(21, VI (k : Int)), (38, .v (.bool false)), (1, .lst 2 (log.map Record.cs)), (2, VI n), (7, .own 0 1 0 (List.length out))]
abbrev seq50 (k : Nat) (log : List Record) (n : Int) (out : List ByteArray) : LS := (8, VI ((k : Int) + 1)) :: (22, VI ((k : Int) + 1)) :: (seq49 k log n out)
theorem replayed_fo (b : List ByteArray) (log : List Record) (n : Int) (hb : b.length ≤ 1000 ∧ log.length ≤ 9223372036854775807) : Fo Try.prog 23 [.lst 1 (b.map cZ), .lst 2 (log.map Record.cs), VI n] 1 ((replay b (log.take (Int.toNat n))).map cZ) := by
  refine fo_of ?_
  rw [List.length_map]
  refine fi_walkW (m := []) (m' := [some ⟨1, ((replay b (log.take (Int.toNat n))).map cZ)⟩]) F23_ok (of_decide_eq_true (by kernel_rfl)) ?_
  refine EL.sreg ?_
  refine OW.last 1 [0, 1, 2] (x' := ⟨(seq29 b log n), []⟩) (by kernel_rfl) (by kernel_rfl) ?_
  refine EL.sreg ?_
  refine OW.run 2 (x' := ⟨(seq30 b log n), [some ⟨1, []⟩]⟩) (by kernel_rfl) ?_
  refine OW.ope (v := .own 1 1 0 (List.length b)) (u := [(0, none), (1, some ⟨1, (b.map cZ)⟩)]) (acc := [0]) (x' := ⟨(11, .own 1 1 0 (List.length b)) :: (seq30 b log n), [none, some ⟨1, (b.map cZ)⟩]⟩) (by kernel_rfl) (opE_appO cZ ([] : List ByteArray) b (.s 9) (.s 10) 1 16 0 (.lst 1 (b.map cZ)) _ (by kernel_rfl) (by kernel_rfl) rfl (by kernel_rfl) rfl .lst (by simp; omega)) (by kernel_rfl) ?_
  refine OW.last 1 [1, 2, 7] (x' := ⟨(seq31 b log n), [none, some ⟨1, (b.map cZ)⟩]⟩) (by kernel_rfl) (by kernel_rfl) ?_
  refine EL.seq ?_
  refine EL.sreg ?_
  refine OW.last 1 [1, 2, 7, 8] (x' := ⟨(8, VI 0) :: (seq31 b log n), [none, some ⟨1, (b.map cZ)⟩]⟩) (by kernel_rfl) (by kernel_rfl) ?_
  refine EL.block ?_
  refine EL.loopN (fun m x => ∃ (k : Nat) (out : List ByteArray), m = log.length - k ∧ (k ≤ log.length ∧ out.length = b.length ∧ replay b (log.take n.toNat) = replay out ((log.take n.toNat).drop k)) ∧ x = ⟨(seq32 log n out k), [some ⟨1, (out.map cZ)⟩]⟩) (y := (fun (k : Nat) (out : List ByteArray) => (⟨(seq32 log n out k), [some ⟨1, (out.map cZ)⟩]⟩ : L3)) 0 b) [1, 2, 7, 8] [.old 1 true] [] (by kernel_rfl) ⟨pucZ b (by kernel_rfl), trivial⟩ ⟨0, b, rfl, by simp, rfl⟩ ?_
  rintro _ _ ⟨k, out, rfl, hI1, rfl⟩
  obtain ⟨hk, ho, hs⟩ := hI1
  refine EL.seq ?_
  refine EL.sreg ?_
  refine OW.run 4 (x' := ⟨(15, .v (.bool (decide ((k : Int) < n)))) :: (14, .v (.bool (decide ((k : Int) < n)))) :: (13, VI n) :: (12, VI (k : Int)) :: (seq32 log n out k), [some ⟨1, (out.map cZ)⟩]⟩) (by kernel_rfl) ?_
  rcases Bool.eq_false_or_eq_true (decide ((k : Int) < n)) with h2 | h2
  rw [h2]
  have g2 : ((k : Int) < n) := of_decide_eq_true h2
  refine OW.run 2 (x' := ⟨(seq33 log k n out), [some ⟨1, (out.map cZ)⟩]⟩) (by kernel_rfl) ?_
  refine OW.ope (v := VI (List.length log : Int)) (u := []) (acc := []) (x' := ⟨(18, VI (List.length log : Int)) :: (seq33 log k n out), [some ⟨1, (out.map cZ)⟩]⟩) (by kernel_rfl) (opE_len Record.cs log (.s 17) 2 (by kernel_rfl) (by kernel_rfl) (.inl rfl)) (by kernel_rfl) ?_
  refine OW.last 2 [1, 2, 7, 8, 20] (x' := ⟨(20, .v (.bool (decide ((k : Int) < (List.length log : Int))))) :: (seq32 log n out k), [some ⟨1, (out.map cZ)⟩]⟩) (by kernel_rfl) (by kernel_rfl) ?_
  rcases Bool.eq_false_or_eq_true (decide ((k : Int) < (List.length log : Int))) with h3 | h3
  rw [h3]
  have g3 : ((k : Int) < (List.length log : Int)) := of_decide_eq_true h3
  have n3 : ((k) < (List.length log)) := by omega
  refine EL.condT (by kernel_rfl) ?_
  refine EL.skip ?_
  refine thenL_norm ?_
  refine EL.seq ?_
  refine EL.block ?_
  refine EL.sreg ?_
  refine OW.run 2 (x' := ⟨(seq34 k log n out), [some ⟨1, (out.map cZ)⟩]⟩) (by kernel_rfl) ?_
  obtain ⟨a5, ha5⟩ : ∃ y, log[((k : Int) : Int).toNat]? = some y := idx_ex ⟨by omega, by omega⟩
  have iha5 : log[k]? = some a5 := by simpa using ha5
  have dha5 := drop_get iha5
  refine OW.ope (v := .pim [VI a5.block, .v (.string a5.data)] 0) (u := []) (acc := []) (x' := ⟨(seq35 a5 k log n out), [some ⟨1, (out.map cZ)⟩]⟩) (by kernel_rfl) (opE_iad Record.cs log (.s 23) (.s 24) 2 .i64 (k : Int) a5 (by kernel_rfl) (by kernel_rfl) (.inl rfl) rfl (by omega) ha5) (by kernel_rfl) ?_
  refine OW.run 4 (x' := ⟨(29, .v (.bool (decide (a5.block ≥ 0)))) :: (28, .v (.bool (decide (a5.block ≥ 0)))) :: (seq36 a5 k log n out), [some ⟨1, (out.map cZ)⟩]⟩) (by kernel_rfl) ?_
  rcases Bool.eq_false_or_eq_true (decide (a5.block ≥ 0)) with h6 | h6
  rw [h6]
  have g6 : (a5.block ≥ 0) := of_decide_eq_true h6
  refine OW.run 2 (x' := ⟨(seq37 k log a5 n out), [some ⟨1, (out.map cZ)⟩]⟩) (by kernel_rfl) ?_
  refine OW.ope (v := .pim [VI a5.block, .v (.string a5.data)] 0) (u := []) (acc := []) (x' := ⟨(seq38 a5 k log n out), [some ⟨1, (out.map cZ)⟩]⟩) (by kernel_rfl) (opE_iad Record.cs log (.s 30) (.s 31) 2 .i64 (k : Int) a5 (by kernel_rfl) (by kernel_rfl) (.inl rfl) rfl (by omega) ha5) (by kernel_rfl) ?_
  refine OW.last 6 [1, 2, 7, 8, 38] (x' := ⟨(38, .v (.bool (decide (a5.block < (List.length out : Int))))) :: (seq32 log n out k), [some ⟨1, (out.map cZ)⟩]⟩) (by kernel_rfl) (by kernel_rfl) ?_
  rcases Bool.eq_false_or_eq_true (decide (a5.block < (List.length out : Int))) with h7 | h7
  rw [h7]
  have g7 : (a5.block < (List.length out : Int)) := of_decide_eq_true h7
  refine EL.condT (by kernel_rfl) ?_
  refine EL.draw0 ?_
  refine DW.run 3 (x' := ⟨(seq39 k log out n), [some ⟨1, (out.map cZ)⟩]⟩) (by kernel_rfl) ?_
  refine DW.ope (v := .pim [VI a5.block, .v (.string a5.data)] 0) (u := []) (acc := []) (x' := ⟨(seq40 a5 k log out n), [some ⟨1, (out.map cZ)⟩]⟩) (by kernel_rfl) (opE_iad Record.cs log (.s 40) (.s 41) 2 .i64 (k : Int) a5 (by kernel_rfl) (by kernel_rfl) (.inl rfl) rfl (by omega) ha5) (by kernel_rfl) ?_
  refine DW.run 4 (x' := ⟨(seq41 k log a5 out n), [some ⟨1, (out.map cZ)⟩]⟩) (by kernel_rfl) ?_
  refine DW.ope (v := .pim [VI a5.block, .v (.string a5.data)] 0) (u := []) (acc := []) (x' := ⟨(seq42 a5 k log out n), [some ⟨1, (out.map cZ)⟩]⟩) (by kernel_rfl) (opE_iad Record.cs log (.s 45) (.s 46) 2 .i64 (k : Int) a5 (by kernel_rfl) (by kernel_rfl) (.inl rfl) rfl (by omega) ha5) (by kernel_rfl) ?_
  refine DW.run 2 (x' := ⟨(seq43 a5 k log out n), [some ⟨1, (out.map cZ)⟩]⟩) (by kernel_rfl) ?_
  obtain ⟨a9, ha9⟩ : ∃ y, out[(a5.block : Int).toNat]? = some y := idx_ex ⟨by omega, by omega⟩
  refine DW.ope (v := .ref 0 1 (0 + Int.toNat a5.block) 0) (u := []) (acc := [0]) (x' := ⟨(seq44 a5 k log out n), [some ⟨1, (out.map cZ)⟩]⟩) (by kernel_rfl) (opE_iado (.s 39) (.s 44) 1 0 0 (List.length out) .i64 a5.block ⟨1, (out.map cZ)⟩ (by kernel_rfl) (by kernel_rfl) rfl rfl ⟨by omega, by omega⟩ (by kernel_rfl)) (by kernel_rfl) ?_
  refine DW.ope (v := .v undef) (u := [(0, some ⟨1, ((List.set out (0 + Int.toNat a5.block) a5.data).map cZ)⟩)]) (acc := [0]) (x' := ⟨(seq44 a5 k log out n), [(seq45 out a5)]⟩) (by kernel_rfl) (opE_stoS cZ out 1 (.s 50) (.s 49) 0 1 (0 + Int.toNat a5.block) 0 a9 a5.data (.v (.string a5.data)) (by kernel_rfl) (by kernel_rfl) rfl rfl (by kernel_rfl) (by simpa using ha9) (by kernel_rfl) (by kernel_rfl)) (by kernel_rfl) ?_
  refine DW.eqv (x' := ⟨(seq46 a5 k log out n), [(seq45 out a5)]⟩) (congrArg (fun q => (⟨[(50, .ref 0 1 (0 + Int.toNat a5.block) 0), (49, .v (.string a5.data)), (48, .pim [VI a5.block, .v (.string a5.data)] 1), (47, .pim [VI a5.block, .v (.string a5.data)] 0), (46, VI (k : Int)), (45, .lst 2 (log.map Record.cs)), (44, VI a5.block), (43, .pim [VI a5.block, .v (.string a5.data)] 0), (42, .pim [VI a5.block, .v (.string a5.data)] 0), (41, VI (k : Int)), (40, .lst 2 (log.map Record.cs)), (39, .own 0 1 0 q), (38, .v (.bool true)), (1, .lst 2 (log.map Record.cs)), (2, VI n), (7, .own 0 1 0 q), (8, VI (k : Int))], [some ⟨1, ((List.set out (0 + Int.toNat a5.block) a5.data).map cZ)⟩]⟩ : L3)) (show (List.length out) = (List.length (List.set out (0 + Int.toNat a5.block) a5.data)) by simp)) ?_
  refine DW.end 0 (x' := ⟨(seq46 a5 k log out n), [(seq45 out a5)]⟩) (by kernel_rfl) (by kernel_rfl) ?_
  refine inBlk_norm ?_
  refine thenL_norm ?_
  refine EL.reg0 ?_
  refine OW.run 3 (x' := ⟨(8, VI (IntKind.i64.wrap ((k : Int) + 1))) :: (22, VI (IntKind.i64.wrap ((k : Int) + 1))) :: (seq47 k a5 log out n), [(seq45 out a5)]⟩) (by kernel_rfl) ?_
  have e10 : IntKind.i64.wrap ((k : Int) + 1) = (k : Int) + 1 := wr64 (by omega)
  rw [e10]
  refine OW.end 0 (x' := ⟨(seq48 k a5 log out n), [(seq45 out a5)]⟩) (by kernel_rfl) (by kernel_rfl) ?_
  refine thenL_norm ?_
  refine round_end (live := [1, 2, 7, 8]) (src := [.old 0 true]) (es := []) (y := (fun (k : Nat) (out : List ByteArray) => (⟨(seq32 log n out k), [some ⟨1, (out.map cZ)⟩]⟩ : L3)) (k + 1) (List.set out (0 + Int.toNat a5.block) a5.data)) ?_ ⟨pucZ (List.set out (0 + Int.toNat a5.block) a5.data) (by kernel_rfl), trivial⟩ ?_ ⟨(k + 1), (List.set out (0 + Int.toNat a5.block) a5.data), rfl, ?_, rfl⟩
  kernel_rfl
  omega
  focus ((have hd := drop_get ((List.getElem?_take_of_lt (by omega : k < n.toNat)).trans ‹log[k]? = some _›)); refine ⟨by omega, by simp [ho], ?_⟩; rw [hs, hd, replay]; first | (rw [if_pos ⟨by omega, by omega⟩]; simp; done) | (rw [if_neg (by omega)]; done))
  rw [h7]
  have g7 : ¬ (a5.block < (List.length out : Int)) := of_decide_eq_false h7
  refine EL.condF (by kernel_rfl) ?_
  refine EL.skip ?_
  refine inBlk_norm ?_
  refine thenL_norm ?_
  refine EL.reg0 ?_
  refine OW.run 3 (x' := ⟨(8, VI (IntKind.i64.wrap ((k : Int) + 1))) :: (22, VI (IntKind.i64.wrap ((k : Int) + 1))) :: (seq49 k log n out), [some ⟨1, (out.map cZ)⟩]⟩) (by kernel_rfl) ?_
  have e11 : IntKind.i64.wrap ((k : Int) + 1) = (k : Int) + 1 := wr64 (by omega)
  rw [e11]
  refine OW.end 0 (x' := ⟨(seq50 k log n out), [some ⟨1, (out.map cZ)⟩]⟩) (by kernel_rfl) (by kernel_rfl) ?_
  refine thenL_norm ?_
  refine round_end (live := [1, 2, 7, 8]) (src := [.old 0 true]) (es := []) (y := (fun (k : Nat) (out : List ByteArray) => (⟨(seq32 log n out k), [some ⟨1, (out.map cZ)⟩]⟩ : L3)) (k + 1) out) ?_ ⟨pucZ out (by kernel_rfl), trivial⟩ ?_ ⟨(k + 1), out, rfl, ?_, rfl⟩
  kernel_rfl
  omega
  focus ((have hd := drop_get ((List.getElem?_take_of_lt (by omega : k < n.toNat)).trans ‹log[k]? = some _›)); refine ⟨by omega, by simp [ho], ?_⟩; rw [hs, hd, replay]; first | (rw [if_pos ⟨by omega, by omega⟩]; simp; done) | (rw [if_neg (by omega)]; done))
  rw [h6]
  have g6 : ¬ (a5.block ≥ 0) := of_decide_eq_false h6
  refine OW.last 9 [1, 2, 7, 8, 38] (x' := ⟨(38, .v (.bool false)) :: (seq32 log n out k), [some ⟨1, (out.map cZ)⟩]⟩) (by kernel_rfl) (by kernel_rfl) ?_
  refine EL.condF (by kernel_rfl) ?_
  refine EL.skip ?_
  refine inBlk_norm ?_
  refine thenL_norm ?_
  refine EL.reg0 ?_
  refine OW.run 3 (x' := ⟨(8, VI (IntKind.i64.wrap ((k : Int) + 1))) :: (22, VI (IntKind.i64.wrap ((k : Int) + 1))) :: (seq49 k log n out), [some ⟨1, (out.map cZ)⟩]⟩) (by kernel_rfl) ?_
  have e12 : IntKind.i64.wrap ((k : Int) + 1) = (k : Int) + 1 := wr64 (by omega)
  rw [e12]
  refine OW.end 0 (x' := ⟨(seq50 k log n out), [some ⟨1, (out.map cZ)⟩]⟩) (by kernel_rfl) (by kernel_rfl) ?_
  refine thenL_norm ?_
  refine round_end (live := [1, 2, 7, 8]) (src := [.old 0 true]) (es := []) (y := (fun (k : Nat) (out : List ByteArray) => (⟨(seq32 log n out k), [some ⟨1, (out.map cZ)⟩]⟩ : L3)) (k + 1) out) ?_ ⟨pucZ out (by kernel_rfl), trivial⟩ ?_ ⟨(k + 1), out, rfl, ?_, rfl⟩
  kernel_rfl
  omega
  focus ((have hd := drop_get ((List.getElem?_take_of_lt (by omega : k < n.toNat)).trans ‹log[k]? = some _›)); refine ⟨by omega, by simp [ho], ?_⟩; rw [hs, hd, replay]; first | (rw [if_pos ⟨by omega, by omega⟩]; simp; done) | (rw [if_neg (by omega)]; done))
  rw [h3]
  have g3 : ¬ ((k : Int) < (List.length log : Int)) := of_decide_eq_false h3
  have n3 : ¬ ((k) < (List.length log)) := by omega
  refine EL.condF (by kernel_rfl) ?_
  refine EL.exit ?_
  refine thenL_exit ?_
  refine thenL_exit ?_
  refine inBlk_hit ?_
  refine thenL_norm ?_
  refine EL.sreg ?_
  refine OW.last 2 [6] (x' := ⟨[(6, .own 0 1 0 (List.length out))], [some ⟨1, (out.map cZ)⟩]⟩) (by kernel_rfl) (by kernel_rfl) ?_
  refine EL.ret ?_
  rw [show replay b (List.take (Int.toNat n) log) = out from (by rw [hs, List.drop_eq_nil_of_le (by simp; omega)]; rfl)]
  refine ⟨.inr rfl, ⟨[(6, .own 0 1 0 (List.length out))], [some ⟨1, (out.map cZ)⟩]⟩, norm_le (live := [6]) (src := [.old 0 true]) (es := []) (by kernel_rfl) ⟨pucZ out (by kernel_rfl), trivial⟩, by kernel_rfl, rfl⟩
  rw [h2]
  have g2 : ¬ ((k : Int) < n) := of_decide_eq_false h2
  refine OW.last 5 [1, 2, 7, 8, 20] (x' := ⟨(20, .v (.bool false)) :: (seq32 log n out k), [some ⟨1, (out.map cZ)⟩]⟩) (by kernel_rfl) (by kernel_rfl) ?_
  refine EL.condF (by kernel_rfl) ?_
  refine EL.exit ?_
  refine thenL_exit ?_
  refine thenL_exit ?_
  refine inBlk_hit ?_
  refine thenL_norm ?_
  refine EL.sreg ?_
  refine OW.last 2 [6] (x' := ⟨[(6, .own 0 1 0 (List.length out))], [some ⟨1, (out.map cZ)⟩]⟩) (by kernel_rfl) (by kernel_rfl) ?_
  refine EL.ret ?_
  rw [show replay b (List.take (Int.toNat n) log) = out from (by rw [hs, List.drop_eq_nil_of_le (by simp; omega)]; rfl)]
  refine ⟨.inr rfl, ⟨[(6, .own 0 1 0 (List.length out))], [some ⟨1, (out.map cZ)⟩]⟩, norm_le (live := [6]) (src := [.old 0 true]) (es := []) (by kernel_rfl) ⟨pucZ out (by kernel_rfl), trivial⟩, by kernel_rfl, rfl⟩
abbrev seq51 (k : Int) (n : Int) (d : ByteArray) : LS := [(6, .ref 0 3 0 0), (0, VI k), (1, VI n), (2, .v (.string d))]
theorem act_fn (k : Int) (n : Int) (d : ByteArray) : Fn Try.prog 24 [VI k, VI n, .v (.string d)] (.agg [VI ((⟨k, n, d⟩ : Act).kind), VI ((⟨k, n, d⟩ : Act).n), .v (.string ((⟨k, n, d⟩ : Act).data))]) := by
  refine fn_walkW F24_ok (of_decide_eq_true (by kernel_rfl)) ?_
  refine EL.sreg ?_
  refine OW.last 1 [0, 1, 2, 6] (x' := ⟨(seq51 k n d), [some ⟨3, [[VI 0, VI 0, .v (.string (⟨#[]⟩))]]⟩]⟩) (by kernel_rfl) (by kernel_rfl) ?_
  refine EL.sreg ?_
  refine OW.last 5 [6] (x' := ⟨[(6, .ref 0 3 0 0)], [some ⟨3, [[VI k, VI n, .v (.string d)]]⟩]⟩) (by kernel_rfl) (by kernel_rfl) ?_
  refine EL.ret ?_
  refine ⟨.inr rfl, .agg [VI k, VI n, .v (.string d)], by kernel_rfl, Ale.of_eq ?_⟩
  focus (rfl)
/-- Acts without a turn. -/
def noTurn (l : List Act) : List Act := l.filter (fun a => !(a.kind == 8))
def Ship.sailP (n : Int) (l : List Act) : Ship × Bool :=
  if (Ship.newP n).2 = 0 then (((Ship.newP n).1.runP (noTurn l)).1, ((Ship.newP n).1.runP (noTurn l)).2.2 == 0) else ((Ship.newP n).1, false)
theorem Ship.sail_n {n : Int} {l : List Act} (h : ¬ (Ship.newP n).2 = 0) : Ship.sailP n l = ((Ship.newP n).1, false) := if_neg h
theorem Ship.sail_0 {n : Int} {l : List Act} (h : (Ship.newP n).2 = 0) : Ship.sailP n l = (((Ship.newP n).1.runP (noTurn l)).1, ((Ship.newP n).1.runP (noTurn l)).2.2 == 0) := if_pos h
abbrev seq52 (n : Int) (l : List Act) : LS := [(4, .ref 0 8 0 0), (0, VI n), (1, .lst 3 (l.map Act.cs))]
abbrev seq53 (n : Int) : AV := .agg [.lst 1 ((((Ship.newP n).1).first).map cZ), .lst 1 ((((Ship.newP n).1).second).map cZ), .lst 2 ((((Ship.newP n).1).log).map Record.cs), VI (((Ship.newP n).1).sent), VI (((Ship.newP n).1).applied), VI (((Ship.newP n).1).known), .lst 1 ((((Ship.newP n).1).there).map cI), .lst 1 ((((Ship.newP n).1).back).map cI)]
abbrev seq54 (n : Int) (l : List Act) : LS := (15, .tup [(seq53 n), VI ((Ship.newP n).2)]) :: (14, VI n) :: (seq52 n l)
abbrev seq55 (n : Int) : OB := some ⟨8, [[.lst 1 ((((Ship.newP n).1).first).map cZ), .lst 1 ((((Ship.newP n).1).second).map cZ), .lst 2 ((((Ship.newP n).1).log).map Record.cs), VI (((Ship.newP n).1).sent), VI (((Ship.newP n).1).applied), VI (((Ship.newP n).1).known), .lst 1 ((((Ship.newP n).1).there).map cI), .lst 1 ((((Ship.newP n).1).back).map cI)]]⟩
abbrev seq56 (n : Int) (l : List Act) : LS := [(7, VI ((Ship.newP n).2)), (6, .ref 1 8 0 0), (4, .ref 0 8 0 0), (1, .lst 3 (l.map Act.cs))]
abbrev seq57 (l : List Act) : LS := [(6, .ref 1 8 0 0), (4, .ref 0 8 0 0), (1, .lst 3 (l.map Act.cs))]
abbrev seq58 (l : List Act) (out : List Act) (k : Nat) : LS := [(1, .lst 3 (l.map Act.cs)), (4, .ref 1 8 0 0), (6, .ref 2 8 0 0), (8, .own 0 3 0 (List.length out)), (9, VI (k : Int))]
abbrev seq59 (l : List Act) (k : Nat) (out : List Act) : LS := (22, .lst 3 (l.map Act.cs)) :: (21, VI (k : Int)) :: (seq58 l out k)
abbrev seq60 (k : Nat) (l : List Act) (out : List Act) : LS := (28, VI (k : Int)) :: (27, .lst 3 (l.map Act.cs)) :: (24, .v (.bool true)) :: (seq58 l out k)
abbrev seq61 (a5 : Act) (k : Nat) (l : List Act) (out : List Act) : LS := (29, .pim [VI a5.kind, VI a5.n, .v (.string a5.data)] 0) :: (seq60 k l out)
abbrev seq62 (k : Nat) (l : List Act) (out : List Act) : LS := (35, VI (k : Int)) :: (34, .lst 3 (l.map Act.cs)) :: (33, .own 0 3 0 (List.length out)) :: (32, .v (.bool true)) :: (seq58 l out k)
abbrev seq63 (a5 : Act) (k : Nat) (l : List Act) (out : List Act) : LS := (36, .pim [VI a5.kind, VI a5.n, .v (.string a5.data)] 0) :: (seq62 k l out)
abbrev seq64 (out : List Act) (n : Int) (a5 : Act) : LB := [some ⟨3, (out.map Act.cs)⟩, seq1, (seq55 n), some ⟨3, [[VI a5.kind, VI a5.n, .v (.string a5.data)]]⟩]
abbrev seq65 (a5 : Act) (k : Nat) (l : List Act) (out : List Act) : LS := (38, .own 3 3 0 1) :: (37, .agg [VI a5.kind, VI a5.n, .v (.string a5.data)]) :: (seq63 a5 k l out)
abbrev seq66 (n : Int) (a5 : Act) (out : List Act) : LB := [none, seq1, (seq55 n), some ⟨3, [[VI a5.kind, VI a5.n, .v (.string a5.data)]]⟩, some ⟨3, ((out ++ ([a5])).map Act.cs)⟩]
abbrev seq67 (out : List Act) (a5 : Act) (k : Nat) (l : List Act) : LS := (39, .own 4 3 0 (List.length (out ++ ([a5])))) :: (seq65 a5 k l out)
abbrev seq68 (out : List Act) (a5 : Act) (k : Nat) (l : List Act) : LS := [(8, .own 4 3 0 (List.length (out ++ ([a5])))), (39, .own 4 3 0 (List.length (out ++ ([a5])))), (38, .own 3 3 0 1), (37, .agg [VI a5.kind, VI a5.n, .v (.string a5.data)]), (36, .pim [VI a5.kind, VI a5.n, .v (.string a5.data)] 0), (35, VI (k : Int)), (34, .lst 3 (l.map Act.cs)), (33, .own 0 3 0 (List.length out)), (32, .v (.bool true)), (1, .lst 3 (l.map Act.cs)), (4, .ref 1 8 0 0), (6, .ref 2 8 0 0), (9, VI (k : Int))]
abbrev seq69 (k : Nat) (out : List Act) (a5 : Act) (l : List Act) : LS := [(25, VI (k : Int)), (8, .own 4 3 0 (List.length (out ++ ([a5])))), (39, .own 4 3 0 (List.length (out ++ ([a5])))), (38, .own 3 3 0 1), (37, .agg [VI a5.kind, VI a5.n, .v (.string a5.data)]), (36, .pim [VI a5.kind, VI a5.n, .v (.string a5.data)] 0), (35, VI (k : Int)), (34, .lst 3 (l.map Act.cs)), (33, .own 0 3 0 (List.length out)), (32, .v (.bool true)), (1, .lst 3 (l.map Act.cs)), (4, .ref 1 8 0 0), (6, .ref 2 8 0 0)]
abbrev seq70 (k : Nat) (out : List Act) (a5 : Act) (l : List Act) : LS := (9, VI ((k : Int) + 1)) :: (26, VI ((k : Int) + 1)) :: (seq69 k out a5 l)
abbrev seq71 (k : Nat) (l : List Act) (out : List Act) : LS := [(25, VI (k : Int)), (32, .v (.bool false)), (1, .lst 3 (l.map Act.cs)), (4, .ref 1 8 0 0), (6, .ref 2 8 0 0), (8, .own 0 3 0 (List.length out))]
abbrev seq72 (k : Nat) (l : List Act) (out : List Act) : LS := (9, VI ((k : Int) + 1)) :: (26, VI ((k : Int) + 1)) :: (seq71 k l out)
abbrev seq73 (out : List Act) (n : Int) (l : List Act) (k : Nat) : LS := (42, .own 0 3 0 (List.length out)) :: (41, (seq53 n)) :: (24, .v (.bool false)) :: (seq58 l out k)
abbrev seq74 (n : Int) (out : List Act) : AV := .agg [.lst 1 ((((((Ship.newP n).1).runP out).1).first).map cZ), .lst 1 ((((((Ship.newP n).1).runP out).1).second).map cZ), .lst 2 ((((((Ship.newP n).1).runP out).1).log).map Record.cs), VI (((((Ship.newP n).1).runP out).1).sent), VI (((((Ship.newP n).1).runP out).1).applied), VI (((((Ship.newP n).1).runP out).1).known), .lst 1 ((((((Ship.newP n).1).runP out).1).there).map cI), .lst 1 ((((((Ship.newP n).1).runP out).1).back).map cI)]
abbrev seq75 (n : Int) (out : List Act) (l : List Act) (k : Nat) : LS := (43, .tup [(seq74 n out), VI ((((Ship.newP n).1).runP out).2.1), VI ((((Ship.newP n).1).runP out).2.2)]) :: (seq73 out n l k)
abbrev seq76 (n : Int) (out : List Act) : OB := some ⟨8, [[.lst 1 ((((((Ship.newP n).1).runP out).1).first).map cZ), .lst 1 ((((((Ship.newP n).1).runP out).1).second).map cZ), .lst 2 ((((((Ship.newP n).1).runP out).1).log).map Record.cs), VI (((((Ship.newP n).1).runP out).1).sent), VI (((((Ship.newP n).1).runP out).1).applied), VI (((((Ship.newP n).1).runP out).1).known), .lst 1 ((((((Ship.newP n).1).runP out).1).there).map cI), .lst 1 ((((((Ship.newP n).1).runP out).1).back).map cI)]]⟩
abbrev seq77 (n : Int) (out : List Act) : LS := [(12, VI ((((Ship.newP n).1).runP out).2.2)), (10, .ref 3 8 0 0), (4, .ref 1 8 0 0)]
theorem sailed_fn (n : Int) (l : List Act) (hl : l.length * 32 ≤ 140737488351232) : Fn Try.prog 21 [VI n, .lst 3 (l.map Act.cs)] (.tup [.agg [.lst 1 ((((Ship.sailP n l).1).first).map cZ), .lst 1 ((((Ship.sailP n l).1).second).map cZ), .lst 2 ((((Ship.sailP n l).1).log).map Record.cs), VI (((Ship.sailP n l).1).sent), VI (((Ship.sailP n l).1).applied), VI (((Ship.sailP n l).1).known), .lst 1 ((((Ship.sailP n l).1).there).map cI), .lst 1 ((((Ship.sailP n l).1).back).map cI)], .v (.bool ((Ship.sailP n l).2))]) := by
  refine fn_walkW F21_ok (of_decide_eq_true (by kernel_rfl)) ?_
  refine EL.sreg ?_
  refine OW.last 2 [0, 1, 4] (x' := ⟨(seq52 n l), [seq1]⟩) (by kernel_rfl) (by kernel_rfl) ?_
  refine EL.sreg ?_
  refine OW.run 1 (x' := ⟨(14, VI n) :: (seq52 n l), [seq1]⟩) (by kernel_rfl) ?_
  refine OW.fn (ar := [VI n]) (x' := ⟨(seq54 n l), [seq1]⟩) (by kernel_rfl) (by kernel_rfl) F11_call (new_fn n) (by kernel_rfl) (by kernel_rfl) ?_
  refine OW.last 6 [1, 4, 6, 7] (x' := ⟨(seq56 n l), [seq1, (seq55 n)]⟩) (by kernel_rfl) (by kernel_rfl) ?_
  refine EL.seq ?_
  refine EL.sreg ?_
  refine OW.last 2 [1, 4, 6, 19] (x' := ⟨(19, .v (.bool (((Ship.newP n).2) != 0))) :: (seq57 l), [seq1, (seq55 n)]⟩) (by kernel_rfl) (by kernel_rfl) ?_
  rcases Bool.eq_false_or_eq_true ((((Ship.newP n).2) != 0)) with h1 | h1
  rw [h1]
  have g1 : ¬ (((Ship.newP n).2) = 0) := by simpa using h1
  refine EL.condT (by kernel_rfl) ?_
  refine EL.sreg ?_
  refine OW.last 3 [4, 5] (x' := ⟨[(5, .v (.bool false)), (4, .ref 0 8 0 0)], [(seq55 n), (seq55 n)]⟩) (by kernel_rfl) (by kernel_rfl) ?_
  refine EL.ret ?_
  refine thenL_ret ?_
  refine ⟨.inr rfl, .tup [.agg [.lst 1 ((((Ship.newP n).1).first).map cZ), .lst 1 ((((Ship.newP n).1).second).map cZ), .lst 2 ((((Ship.newP n).1).log).map Record.cs), VI (((Ship.newP n).1).sent), VI (((Ship.newP n).1).applied), VI (((Ship.newP n).1).known), .lst 1 ((((Ship.newP n).1).there).map cI), .lst 1 ((((Ship.newP n).1).back).map cI)], .v (.bool false)], by kernel_rfl, Ale.of_eq ?_⟩
  focus (first | (rw [Ship.sail_n ‹_›]; done) | (rw [Ship.sail_0 ‹_›, show noTurn l = out by rw [hs, List.drop_eq_nil_of_le (by omega)]; simp [noTurn]]; done))
  rw [h1]
  have g1 : (((Ship.newP n).2) = 0) := by simpa using h1
  refine EL.condF (by kernel_rfl) ?_
  refine EL.skip ?_
  refine thenL_norm ?_
  refine EL.sreg ?_
  refine OW.last 1 [1, 4, 6, 8] (x' := ⟨(8, .emp) :: (seq57 l), [seq1, (seq55 n)]⟩) (by kernel_rfl) (by kernel_rfl) ?_
  refine EL.seq ?_
  refine EL.sreg ?_
  refine OW.last 1 [1, 4, 6, 8, 9] (x' := ⟨(9, VI 0) :: (8, .emp) :: (seq57 l), [seq1, (seq55 n)]⟩) (by kernel_rfl) (by kernel_rfl) ?_
  refine EL.block ?_
  refine EL.loopN (fun m x => ∃ (k : Nat) (out : List Act), m = l.length - k ∧ (k ≤ l.length ∧ out.length ≤ k ∧ noTurn l = out ++ noTurn (l.drop k)) ∧ x = ⟨(seq58 l out k), [some ⟨3, (out.map Act.cs)⟩, seq1, (seq55 n)]⟩) (y := (fun (k : Nat) (out : List Act) => (⟨(seq58 l out k), [some ⟨3, (out.map Act.cs)⟩, seq1, (seq55 n)]⟩ : L3)) 0 []) [1, 4, 6, 8, 9] [.new 3, .old 0 false, .old 1 false] [(8, 0)] (by kernel_rfl) trivial ⟨0, [], rfl, by simp, rfl⟩ ?_
  rintro _ _ ⟨k, out, rfl, hI2, rfl⟩
  obtain ⟨hk, ho, hs⟩ := hI2
  refine EL.seq ?_
  refine EL.sreg ?_
  refine OW.run 2 (x' := ⟨(seq59 l k out), [some ⟨3, (out.map Act.cs)⟩, seq1, (seq55 n)]⟩) (by kernel_rfl) ?_
  refine OW.ope (v := VI (List.length l : Int)) (u := []) (acc := []) (x' := ⟨(23, VI (List.length l : Int)) :: (seq59 l k out), [some ⟨3, (out.map Act.cs)⟩, seq1, (seq55 n)]⟩) (by kernel_rfl) (opE_len Act.cs l (.s 22) 3 (by kernel_rfl) (by kernel_rfl) (.inl rfl)) (by kernel_rfl) ?_
  refine OW.last 1 [1, 4, 6, 8, 9, 24] (x' := ⟨(24, .v (.bool (decide ((k : Int) < (List.length l : Int))))) :: (seq58 l out k), [some ⟨3, (out.map Act.cs)⟩, seq1, (seq55 n)]⟩) (by kernel_rfl) (by kernel_rfl) ?_
  rcases Bool.eq_false_or_eq_true (decide ((k : Int) < (List.length l : Int))) with h3 | h3
  rw [h3]
  have g3 : ((k : Int) < (List.length l : Int)) := of_decide_eq_true h3
  have n3 : ((k) < (List.length l)) := by omega
  refine EL.condT (by kernel_rfl) ?_
  refine EL.skip ?_
  refine thenL_norm ?_
  refine EL.seq ?_
  refine EL.block ?_
  refine EL.sreg ?_
  refine OW.run 2 (x' := ⟨(seq60 k l out), [some ⟨3, (out.map Act.cs)⟩, seq1, (seq55 n)]⟩) (by kernel_rfl) ?_
  obtain ⟨a5, ha5⟩ : ∃ y, l[((k : Int) : Int).toNat]? = some y := idx_ex ⟨by omega, by omega⟩
  have iha5 : l[k]? = some a5 := by simpa using ha5
  have dha5 := drop_get iha5
  refine OW.ope (v := .pim [VI a5.kind, VI a5.n, .v (.string a5.data)] 0) (u := []) (acc := []) (x' := ⟨(seq61 a5 k l out), [some ⟨3, (out.map Act.cs)⟩, seq1, (seq55 n)]⟩) (by kernel_rfl) (opE_iad Act.cs l (.s 27) (.s 28) 3 .i64 (k : Int) a5 (by kernel_rfl) (by kernel_rfl) (.inl rfl) rfl (by omega) ha5) (by kernel_rfl) ?_
  refine OW.last 3 [1, 4, 6, 8, 9, 32] (x' := ⟨(32, .v (.bool (a5.kind != 8))) :: (seq58 l out k), [some ⟨3, (out.map Act.cs)⟩, seq1, (seq55 n)]⟩) (by kernel_rfl) (by kernel_rfl) ?_
  rcases Bool.eq_false_or_eq_true ((a5.kind != 8)) with h6 | h6
  rw [h6]
  have g6 : ¬ (a5.kind = 8) := by simpa using h6
  refine EL.condT (by kernel_rfl) ?_
  refine EL.reg0 ?_
  refine OW.run 3 (x' := ⟨(seq62 k l out), [some ⟨3, (out.map Act.cs)⟩, seq1, (seq55 n)]⟩) (by kernel_rfl) ?_
  refine OW.ope (v := .pim [VI a5.kind, VI a5.n, .v (.string a5.data)] 0) (u := []) (acc := []) (x' := ⟨(seq63 a5 k l out), [some ⟨3, (out.map Act.cs)⟩, seq1, (seq55 n)]⟩) (by kernel_rfl) (opE_iad Act.cs l (.s 34) (.s 35) 3 .i64 (k : Int) a5 (by kernel_rfl) (by kernel_rfl) (.inl rfl) rfl (by omega) ha5) (by kernel_rfl) ?_
  refine OW.run 2 (x' := ⟨(seq65 a5 k l out), (seq64 out n a5)⟩) (by kernel_rfl) ?_
  refine OW.ope (v := .own 4 3 0 (List.length (out ++ ([a5])))) (u := [(0, none), (4, some ⟨3, ((out ++ ([a5])).map Act.cs)⟩)]) (acc := [3, 0]) (x' := ⟨(seq67 out a5 k l), (seq66 n a5 out)⟩) (by kernel_rfl) (opE_appO Act.cs out ([a5]) (.s 33) (.s 38) 3 32 0 (.own 3 3 0 1) _ (by kernel_rfl) (by kernel_rfl) rfl (by kernel_rfl) rfl (.own (els := [[VI a5.kind, VI a5.n, .v (.string a5.data)]]) (by kernel_rfl) (by kernel_rfl) (of_decide_eq_true (by kernel_rfl))) (by simp; omega)) (by kernel_rfl) ?_
  refine OW.end 1 (x' := ⟨(seq68 out a5 k l), (seq66 n a5 out)⟩) (by kernel_rfl) (by kernel_rfl) ?_
  refine inBlk_norm ?_
  refine thenL_norm ?_
  refine EL.reg0 ?_
  refine OW.run 3 (x' := ⟨(9, VI (IntKind.i64.wrap ((k : Int) + 1))) :: (26, VI (IntKind.i64.wrap ((k : Int) + 1))) :: (seq69 k out a5 l), (seq66 n a5 out)⟩) (by kernel_rfl) ?_
  have e7 : IntKind.i64.wrap ((k : Int) + 1) = (k : Int) + 1 := wr64 (by omega)
  rw [e7]
  refine OW.end 0 (x' := ⟨(seq70 k out a5 l), (seq66 n a5 out)⟩) (by kernel_rfl) (by kernel_rfl) ?_
  refine thenL_norm ?_
  refine round_end (live := [1, 4, 6, 8, 9]) (src := [.old 4 true, .old 1 false, .old 2 false]) (es := []) (y := (fun (k : Nat) (out : List Act) => (⟨(seq58 l out k), [some ⟨3, (out.map Act.cs)⟩, seq1, (seq55 n)]⟩ : L3)) (k + 1) (out ++ ([a5]))) ?_ ⟨pu 3 Act.cs (out ++ ([a5])) (by kernel_rfl) (by intro y; kernel_rfl), trivial⟩ ?_ ⟨(k + 1), (out ++ ([a5])), rfl, ?_, rfl⟩
  kernel_rfl
  omega
  focus (first | (refine ⟨by omega, by simp; omega, ?_⟩; rw [hs]; simp [noTurn, *]; done) | (refine ⟨by omega, by omega, ?_⟩; rw [hs]; simp [noTurn, *]; done))
  rw [h6]
  have g6 : (a5.kind = 8) := by simpa using h6
  refine EL.condF (by kernel_rfl) ?_
  refine EL.skip ?_
  refine inBlk_norm ?_
  refine thenL_norm ?_
  refine EL.reg0 ?_
  refine OW.run 3 (x' := ⟨(9, VI (IntKind.i64.wrap ((k : Int) + 1))) :: (26, VI (IntKind.i64.wrap ((k : Int) + 1))) :: (seq71 k l out), [some ⟨3, (out.map Act.cs)⟩, seq1, (seq55 n)]⟩) (by kernel_rfl) ?_
  have e8 : IntKind.i64.wrap ((k : Int) + 1) = (k : Int) + 1 := wr64 (by omega)
  rw [e8]
  refine OW.end 0 (x' := ⟨(seq72 k l out), [some ⟨3, (out.map Act.cs)⟩, seq1, (seq55 n)]⟩) (by kernel_rfl) (by kernel_rfl) ?_
  refine thenL_norm ?_
  refine round_end (live := [1, 4, 6, 8, 9]) (src := [.old 0 true, .old 1 false, .old 2 false]) (es := []) (y := (fun (k : Nat) (out : List Act) => (⟨(seq58 l out k), [some ⟨3, (out.map Act.cs)⟩, seq1, (seq55 n)]⟩ : L3)) (k + 1) out) ?_ ⟨pu 3 Act.cs out (by kernel_rfl) (by intro y; kernel_rfl), trivial⟩ ?_ ⟨(k + 1), out, rfl, ?_, rfl⟩
  kernel_rfl
  omega
  focus (first | (refine ⟨by omega, by simp; omega, ?_⟩; rw [hs]; simp [noTurn, *]; done) | (refine ⟨by omega, by omega, ?_⟩; rw [hs]; simp [noTurn, *]; done))
  rw [h3]
  have g3 : ¬ ((k : Int) < (List.length l : Int)) := of_decide_eq_false h3
  have n3 : ¬ ((k) < (List.length l)) := by omega
  refine EL.condF (by kernel_rfl) ?_
  refine EL.exit ?_
  refine thenL_exit ?_
  refine thenL_exit ?_
  refine inBlk_hit ?_
  refine thenL_norm ?_
  refine EL.sreg ?_
  refine OW.run 2 (x' := ⟨(seq73 out n l k), [some ⟨3, (out.map Act.cs)⟩, seq1, (seq55 n)]⟩) (by kernel_rfl) ?_
  refine OW.fn (ar := [(seq53 n), .own 0 3 0 (List.length out)]) (x' := ⟨(seq75 n out l k), [none, seq1, (seq55 n)]⟩) (by kernel_rfl) (by kernel_rfl) F19_call (run_fn ((Ship.newP n).1) out (by have hh := Ship.new_len n; omega) (by omega)) (snapAs_cons (by kernel_rfl) (snapAs_cons (snapA_map Act.cs out (by kernel_rfl) (by intro y; kernel_rfl) (by simp)) (snapAs_nil))) (by kernel_rfl) ?_
  refine OW.last 8 [4, 10, 12] (x' := ⟨(seq77 n out), [none, seq1, (seq55 n), (seq76 n out)]⟩) (by kernel_rfl) (by kernel_rfl) ?_
  refine EL.sreg ?_
  refine OW.last 5 [4, 5] (x' := ⟨[(5, .v (.bool (((((Ship.newP n).1).runP out).2.2) == 0))), (4, .ref 1 8 0 0)], [none, (seq76 n out), (seq55 n), (seq76 n out)]⟩) (by kernel_rfl) (by kernel_rfl) ?_
  refine EL.ret ?_
  refine ⟨.inr rfl, .tup [.agg [.lst 1 ((((((Ship.newP n).1).runP out).1).first).map cZ), .lst 1 ((((((Ship.newP n).1).runP out).1).second).map cZ), .lst 2 ((((((Ship.newP n).1).runP out).1).log).map Record.cs), VI (((((Ship.newP n).1).runP out).1).sent), VI (((((Ship.newP n).1).runP out).1).applied), VI (((((Ship.newP n).1).runP out).1).known), .lst 1 ((((((Ship.newP n).1).runP out).1).there).map cI), .lst 1 ((((((Ship.newP n).1).runP out).1).back).map cI)], .v (.bool (((((Ship.newP n).1).runP out).2.2) == 0))], by kernel_rfl, Ale.of_eq ?_⟩
  focus (first | (rw [Ship.sail_n ‹_›]; done) | (rw [Ship.sail_0 ‹_›, show noTurn l = out by rw [hs, List.drop_eq_nil_of_le (by omega)]; simp [noTurn]]; done))
end Go.Proofs.Ythdcanpbgaaneaa
