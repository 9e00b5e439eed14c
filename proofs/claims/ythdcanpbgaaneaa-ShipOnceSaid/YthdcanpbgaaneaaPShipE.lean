/- What the functions of package ship answer: what the document says of a step, of a run, of a log. No condition. -/
import Derived.Test.YthdcanpbgaaneaaPShipD
set_option maxRecDepth 100000
set_option maxHeartbeats 4000000
set_option linter.unusedVariables false
set_option linter.unusedSimpArgs false
namespace Go.Proofs.Ythdcanpbgaaneaa
def replay (b : List ByteArray) : List Record → List ByteArray
  | [] => b
  | r :: l => replay (if 0 ≤ r.block ∧ r.block < b.length then b.set r.block.toNat r.data else b) l
abbrev seq29 (b : List ByteArray) (log : List Record) (n : Int) : LS := [(0, .lst 1 (b.map cZ)), (1, .lst 2 (log.map Record.cs)), (2, VI n)]
abbrev seq30 (b : List ByteArray) (log : List Record) (n : Int) : LS := (10, .lst 1 (b.map cZ)) :: (9, .own 0 1 0 0) :: (seq29 b log n)
abbrev seq31 (b : List ByteArray) (log : List Record) (n : Int) : LS := [(7, .own 1 1 0 (List.length b)), (1, .lst 2 (log.map Record.cs)), (2, VI n)]
abbrev seq32 (log : List Record) (n : Int) (out : List ByteArray) (k : Nat) : LS := [(1, .lst 2 (log.map Record.cs)), (2, VI n), (7, .own 0 1 0 (List.length out)), (8, VI (k : Int))]
abbrev seq33 (log : List Record) (k : Nat) (n : Int) (out : List ByteArray) : LS := (17, .lst 2 (log.map Record.cs)) :: (16, VI (k : Int)) :: (15, .v (.bool true)) :: (14, .v (.bool true)) :: (13, VI n) :: (12, VI (k : Int)) :: (seq32 log n out k)
abbrev seq34 (k : Nat) (log : List Record) (n : Int) (out : List ByteArray) : LS := (24, VI (k : Int)) :: (23, .lst 2 (log.map Record.cs)) :: (20, .v (.bool true)) :: (seq32 log n out k)
abbrev seq35 (a5 : Record) (k : Nat) (log : List Record) (n : Int) (out : List ByteArray) : LS := (25, .pim [VI a5.block, .v (.string a5.data)] 0) :: (seq34 k log n out)
abbrev seq36 (a5 : Record) (k : Nat) (log : List Record) (n : Int) (out : List ByteArray) : LS := (27, VI a5.block) :: (26, .pim [VI a5.block, .v (.string a5.data)] 0) :: (seq35 a5 k log n out)
abbrev seq37 (k : Nat) (log : List Record) (a5 : Record) (n : Int) (out : List ByteArray) : LS := (31, VI (k : Int)) :: (30, .lst 2 (log.map Record.cs)) :: (29, .v (.bool true)) :: (28, .v (.bool true)) :: (seq36 a5 k log n out)
abbrev seq38 (a5 : Record) (k : Nat) (log : List Record) (n : Int) (out : List ByteArray) : LS := (32, .pim [VI a5.block, .v (.string a5.data)] 0) :: (seq37 k log a5 n out)
abbrev seq39 (k : Nat) (log : List Record) (out : List ByteArray) (n : Int) : LS := (41, VI (k : Int)) :: (40, .lst 2 (log.map Record.cs)) :: (39, .own 0 1 0 (List.length out)) :: (38, .v (.bool true)) :: (seq32 log n out k)
abbrev seq40 (a5 : Record) (k : Nat) (log : List Record) (out : List ByteArray) (n : Int) : LS := (42, .pim [VI a5.block, .v (.string a5.data)] 0) :: (seq39 k log out n)
abbrev seq41 (k : Nat) (log : List Record) (a5 : Record) (out : List ByteArray) (n : Int) : LS := (46, VI (k : Int)) :: (45, .lst 2 (log.map Record.cs)) :: (44, VI a5.block) :: (43, .pim [VI a5.block, .v (.string a5.data)] 0) :: (seq40 a5 k log out n)
abbrev seq42 (a5 : Record) (k : Nat) (log : List Record) (out : List ByteArray) (n : Int) : LS := (47, .pim [VI a5.block, .v (.string a5.data)] 0) :: (seq41 k log a5 out n)
abbrev seq43 (a5 : Record) (k : Nat) (log : List Record) (out : List ByteArray) (n : Int) : LS := (49, .v (.string a5.data)) :: (48, .pim [VI a5.block, .v (.string a5.data)] 1) :: (seq42 a5 k log out n)
abbrev seq44 (a5 : Record) (k : Nat) (log : List Record) (out : List ByteArray) (n : Int) : LS := (50, .ref 0 1 (0 + Int.toNat a5.block) 0) :: (seq43 a5 k log out n)
abbrev seq45 (out : List ByteArray) (a5 : Record) : OB := some ⟨1, ((List.set out (0 + Int.toNat a5.block) a5.data).map cZ)⟩
abbrev seq46 (a5 : Record) (k : Nat) (log : List Record) (out : List ByteArray) (n : Int) : LS := [(50, .ref 0 1 (0 + Int.toNat a5.block) 0), (49, .v (.string a5.data)), (48, .pim [VI a5.block, .v (.string a5.data)] 1), (47, .pim [VI a5.block, .v (.string a5.data)] 0), (46, VI (k : Int)), (45, .lst 2 (log.map Record.cs)), (44, VI a5.block), (43, .pim [VI a5.block, .v (.string a5.data)] 0), (42, .pim [VI a5.block, .v (.string a5.data)] 0), (41, VI (k : Int)), (40, .lst 2 (log.map Record.cs)), (39, .own 0 1 0 (List.length (List.set out (0 + Int.toNat a5.block) a5.data))), (38, .v (.bool true)), (1, .lst 2 (log.map Record.cs)), (2, VI n), (7, .own 0 1 0 (List.length (List.set out (0 + Int.toNat a5.block) a5.data))), (8, VI (k : Int))]
abbrev seq47 (k : Nat) (a5 : Record) (log : List Record) (out : List ByteArray) (n : Int) : LS := [(21, VI (k : Int)), (50, .ref 0 1 (0 + Int.toNat a5.block) 0), (49, .v (.string a5.data)), (48, .pim [VI a5.block, .v (.string a5.data)] 1), (47, .pim [VI a5.block, .v (.string a5.data)] 0), (46, VI (k : Int)), (45, .lst 2 (log.map Record.cs)), (44, VI a5.block), (43, .pim [VI a5.block, .v (.string a5.data)] 0), (42, .pim [VI a5.block, .v (.string a5.data)] 0), (41, VI (k : Int)), (40, .lst 2 (log.map Record.cs)), (39, .own 0 1 0 (List.length (List.set out (0 + Int.toNat a5.block) a5.data))), (38, .v (.bool true)), (1, .lst 2 (log.map Record.cs)), (2, VI n), (7, .own 0 1 0 (List.length (List.set out (0 + Int.toNat a5.block) a5.data)))]
abbrev seq48 (k : Nat) (a5 : Record) (log : List Record) (out : List ByteArray) (n : Int) : LS := (8, VI ((k : Int) + 1)) :: (22, VI ((k : Int) + 1)) :: (seq47 k a5 log out n)
abbrev seq49 (k : Nat) (log : List Record) (n : Int) (out : List ByteArray) : LS := [(21, VI (k : Int)), (38, .v (.bool false)), (1, .lst 2 (log.map Record.cs)), (2, VI n), (7, .own 0 1 0 (List.length out))]
abbrev seq50 (k : Nat) (log : List Record) (n : Int) (out : List ByteArray) : LS := (8, VI ((k : Int) + 1)) :: (22, VI ((k : Int) + 1)) :: (seq49 k log n out)
theorem replayed_fo (b : List ByteArray) (log : List Record) (n : Int) (hb : b.length ≤ 1000 ∧ log.length ≤ 9223372036854775807) : Fo Try.prog 23 [.lst 1 (b.map cZ), .lst 2 (log.map Record.cs), VI n] 1 ((replay b (log.take (Int.toNat n))).map cZ) := by
  refine fo_of ?_
  rw [List.length_map]
  refine fi_walkW (m := []) (m' := [some ⟨1, ((replay b (log.take (Int.toNat n))).map cZ)⟩]) F23_ok (of_decide_eq_true (by kernel_rfl)) ?_
  refine EL.sreg ?_
  refine OW.last 1 [0, 1, 2] (x' := ⟨(seq29 b log n), []⟩) (by kernel_rfl) (by kernel_rfl) ?_
  refine EL.sreg ?_
  refine OW.run 2 (x' := ⟨(seq30 b log n), [some ⟨1, []⟩]⟩) (by kernel_rfl) ?_
  refine OW.ope (v := .own 1 1 0 (List.length b)) (u := [(0, none), (1, some ⟨1, (b.map cZ)⟩)]) (acc := [0]) (x' := ⟨(11, .own 1 1 0 (List.length b)) :: (seq30 b log n), [none, some ⟨1, (b.map cZ)⟩]⟩) (by kernel_rfl) (opE_appO cZ ([] : List ByteArray) b (.s 9) (.s 10) 1 16 0 (.lst 1 (b.map cZ)) _ (by kernel_rfl) (by kernel_rfl) rfl (by kernel_rfl) rfl .lst (by simp; omega)) (by kernel_rfl) ?_
  refine OW.last 1 [1, 2, 7] (x' := ⟨(seq31 b log n), [none, some ⟨1, (b.map cZ)⟩]⟩) (by kernel_rfl) (by kernel_rfl) ?_
  refine EL.seq ?_
  refine EL.sreg ?_
  refine OW.last 1 [1, 2, 7, 8] (x' := ⟨(8, VI 0) :: (seq31 b log n), [none, some ⟨1, (b.map cZ)⟩]⟩) (by kernel_rfl) (by kernel_rfl) ?_
  refine EL.block ?_
  refine EL.loopN (fun m x => ∃ (k : Nat) (out : List ByteArray), m = log.length - k ∧ (k ≤ log.length ∧ out.length = b.length ∧ replay b (log.take n.toNat) = replay out ((log.take n.toNat).drop k)) ∧ x = ⟨(seq32 log n out k), [some ⟨1, (out.map cZ)⟩]⟩) (y := (fun (k : Nat) (out : List ByteArray) => (⟨(seq32 log n out k), [some ⟨1, (out.map cZ)⟩]⟩ : L3)) 0 b) [1, 2, 7, 8] [.old 1 true] [] (by kernel_rfl) ⟨pucZ b (by kernel_rfl), trivial⟩ ⟨0, b, rfl, by simp, rfl⟩ ?_
  rintro _ _ ⟨k, out, rfl, hI1, rfl⟩
  obtain ⟨hk, ho, hs⟩ := hI1
  refine EL.seq ?_
  refine EL.sreg ?_
  refine OW.run 4 (x' := ⟨(15, .v (.bool (decide ((k : Int) < n)))) :: (14, .v (.bool (decide ((k : Int) < n)))) :: (13, VI n) :: (12, VI (k : Int)) :: (seq32 log n out k), [some ⟨1, (out.map cZ)⟩]⟩) (by kernel_rfl) ?_
  rcases Bool.eq_false_or_eq_true (decide ((k : Int) < n)) with h2 | h2
  rw [h2]
  have g2 : ((k : Int) < n) := of_decide_eq_true h2
  refine OW.run 2 (x' := ⟨(seq33 log k n out), [some ⟨1, (out.map cZ)⟩]⟩) (by kernel_rfl) ?_
  refine OW.ope (v := VI (List.length log : Int)) (u := []) (acc := []) (x' := ⟨(18, VI (List.length log : Int)) :: (seq33 log k n out), [some ⟨1, (out.map cZ)⟩]⟩) (by kernel_rfl) (opE_len Record.cs log (.s 17) 2 (by kernel_rfl) (by kernel_rfl) (.inl rfl)) (by kernel_rfl) ?_
  refine OW.last 2 [1, 2, 7, 8, 20] (x' := ⟨(20, .v (.bool (decide ((k : Int) < (List.length log : Int))))) :: (seq32 log n out k), [some ⟨1, (out.map cZ)⟩]⟩) (by kernel_rfl) (by kernel_rfl) ?_
  rcases Bool.eq_false_or_eq_true (decide ((k : Int) < (List.length log : Int))) with h3 | h3
  rw [h3]
  have g3 : ((k : Int) < (List.length log : Int)) := of_decide_eq_true h3
  have n3 : ((k) < (List.length log)) := by omega
  refine EL.condT (by kernel_rfl) ?_
  refine EL.skip ?_
  refine thenL_norm ?_
  refine EL.seq ?_
  refine EL.block ?_
  refine EL.sreg ?_
  refine OW.run 2 (x' := ⟨(seq34 k log n out), [some ⟨1, (out.map cZ)⟩]⟩) (by kernel_rfl) ?_
  obtain ⟨a5, ha5⟩ : ∃ y, log[((k : Int) : Int).toNat]? = some y := idx_ex ⟨by omega, by omega⟩
  have iha5 : log[k]? = some a5 := by simpa using ha5
  have dha5 := drop_get iha5
  refine OW.ope (v := .pim [VI a5.block, .v (.string a5.data)] 0) (u := []) (acc := []) (x' := ⟨(seq35 a5 k log n out), [some ⟨1, (out.map cZ)⟩]⟩) (by kernel_rfl) (opE_iad Record.cs log (.s 23) (.s 24) 2 .i64 (k : Int) a5 (by kernel_rfl) (by kernel_rfl) (.inl rfl) rfl (by omega) ha5) (by kernel_rfl) ?_
  refine OW.run 4 (x' := ⟨(29, .v (.bool (decide (a5.block ≥ 0)))) :: (28, .v (.bool (decide (a5.block ≥ 0)))) :: (seq36 a5 k log n out), [some ⟨1, (out.map cZ)⟩]⟩) (by kernel_rfl) ?_
  rcases Bool.eq_false_or_eq_true (decide (a5.block ≥ 0)) with h6 | h6
  rw [h6]
  have g6 : (a5.block ≥ 0) := of_decide_eq_true h6
  refine OW.run 2 (x' := ⟨(seq37 k log a5 n out), [some ⟨1, (out.map cZ)⟩]⟩) (by kernel_rfl) ?_
  refine OW.ope (v := .pim [VI a5.block, .v (.string a5.data)] 0) (u := []) (acc := []) (x' := ⟨(seq38 a5 k log n out), [some ⟨1, (out.map cZ)⟩]⟩) (by kernel_rfl) (opE_iad Record.cs log (.s 30) (.s 31) 2 .i64 (k : Int) a5 (by kernel_rfl) (by kernel_rfl) (.inl rfl) rfl (by omega) ha5) (by kernel_rfl) ?_
  refine OW.last 6 [1, 2, 7, 8, 38] (x' := ⟨(38, .v (.bool (decide (a5.block < (List.length out : Int))))) :: (seq32 log n out k), [some ⟨1, (out.map cZ)⟩]⟩) (by kernel_rfl) (by kernel_rfl) ?_
  rcases Bool.eq_false_or_eq_true (decide (a5.block < (List.length out : Int))) with h7 | h7
  rw [h7]
  have g7 : (a5.block < (List.length out : Int)) := of_decide_eq_true h7
  refine EL.condT (by kernel_rfl) ?_
  refine EL.draw0 ?_
  refine DW.run 3 (x' := ⟨(seq39 k log out n), [some ⟨1, (out.map cZ)⟩]⟩) (by kernel_rfl) ?_
  refine DW.ope (v := .pim [VI a5.block, .v (.string a5.data)] 0) (u := []) (acc := []) (x' := ⟨(seq40 a5 k log out n), [some ⟨1, (out.map cZ)⟩]⟩) (by kernel_rfl) (opE_iad Record.cs log (.s 40) (.s 41) 2 .i64 (k : Int) a5 (by kernel_rfl) (by kernel_rfl) (.inl rfl) rfl (by omega) ha5) (by kernel_rfl) ?_
  refine DW.run 4 (x' := ⟨(seq41 k log a5 out n), [some ⟨1, (out.map cZ)⟩]⟩) (by kernel_rfl) ?_
  refine DW.ope (v := .pim [VI a5.block, .v (.string a5.data)] 0) (u := []) (acc := []) (x' := ⟨(seq42 a5 k log out n), [some ⟨1, (out.map cZ)⟩]⟩) (by kernel_rfl) (opE_iad Record.cs log (.s 45) (.s 46) 2 .i64 (k : Int) a5 (by kernel_rfl) (by kernel_rfl) (.inl rfl) rfl (by omega) ha5) (by kernel_rfl) ?_
  refine DW.run 2 (x' := ⟨(seq43 a5 k log out n), [some ⟨1, (out.map cZ)⟩]⟩) (by kernel_rfl) ?_
  obtain ⟨a9, ha9⟩ : ∃ y, out[(a5.block : Int).toNat]? = some y := idx_ex ⟨by omega, by omega⟩
  refine DW.ope (v := .ref 0 1 (0 + Int.toNat a5.block) 0) (u := []) (acc := [0]) (x' := ⟨(seq44 a5 k log out n), [some ⟨1, (out.map cZ)⟩]⟩) (by kernel_rfl) (opE_iado (.s 39) (.s 44) 1 0 0 (List.length out) .i64 a5.block ⟨1, (out.map cZ)⟩ (by kernel_rfl) (by kernel_rfl) rfl rfl ⟨by omega, by omega⟩ (by kernel_rfl)) (by kernel_rfl) ?_
  refine DW.ope (v := .v undef) (u := [(0, some ⟨1, ((List.set out (0 + Int.toNat a5.block) a5.data).map cZ)⟩)]) (acc := [0]) (x' := ⟨(seq44 a5 k log out n), [(seq45 out a5)]⟩) (by kernel_rfl) (opE_stoS cZ out 1 (.s 50) (.s 49) 0 1 (0 + Int.toNat a5.block) 0 a9 a5.data (.v (.string a5.data)) (by kernel_rfl) (by kernel_rfl) rfl rfl (by kernel_rfl) (by simpa using ha9) (by kernel_rfl) (by kernel_rfl)) (by kernel_rfl) ?_
  refine DW.eqv (x' := ⟨(seq46 a5 k log out n), [(seq45 out a5)]⟩) (congrArg (fun q => (⟨[(50, .ref 0 1 (0 + Int.toNat a5.block) 0), (49, .v (.string a5.data)), (48, .pim [VI a5.block, .v (.string a5.data)] 1), (47, .pim [VI a5.block, .v (.string a5.data)] 0), (46, VI (k : Int)), (45, .lst 2 (log.map Record.cs)), (44, VI a5.block), (43, .pim [VI a5.block, .v (.string a5.data)] 0), (42, .pim [VI a5.block, .v (.string a5.data)] 0), (41, VI (k : Int)), (40, .lst 2 (log.map Record.cs)), (39, .own 0 1 0 q), (38, .v (.bool true)), (1, .lst 2 (log.map Record.cs)), (2, VI n), (7, .own 0 1 0 q), (8, VI (k : Int))], [some ⟨1, ((List.set out (0 + Int.toNat a5.block) a5.data).map cZ)⟩]⟩ : L3)) (show (List.length out) = (List.length (List.set out (0 + Int.toNat a5.block) a5.data)) by simp)) ?_
  refine DW.end 0 (x' := ⟨(seq46 a5 k log out n), [(seq45 out a5)]⟩) (by kernel_rfl) (by kernel_rfl) ?_
  refine inBlk_norm ?_
  refine thenL_norm ?_
  refine EL.reg0 ?_
  refine OW.run 3 (x' := ⟨(8, VI (IntKind.i64.wrap ((k : Int) + 1))) :: (22, VI (IntKind.i64.wrap ((k : Int) + 1))) :: (seq47 k a5 log out n), [(seq45 out a5)]⟩) (by kernel_rfl) ?_
  have e10 : IntKind.i64.wrap ((k : Int) + 1) = (k : Int) + 1 := wr64 (by omega)
  rw [e10]
  refine OW.end 0 (x' := ⟨(seq48 k a5 log out n), [(seq45 out a5)]⟩) (by kernel_rfl) (by kernel_rfl) ?_
  refine thenL_norm ?_
  refine round_end (live := [1, 2, 7, 8]) (src := [.old 0 true]) (es := []) (y := (fun (k : Nat) (out : List ByteArray) => (⟨(seq32 log n out k), [some ⟨1, (out.map cZ)⟩]⟩ : L3)) (k + 1) (List.set out (0 + Int.toNat a5.block) a5.data)) ?_ ⟨pucZ (List.set out (0 + Int.toNat a5.block) a5.data) (by kernel_rfl), trivial⟩ ?_ ⟨(k + 1), (List.set out (0 + Int.toNat a5.block) a5.data), rfl, ?_, rfl⟩
  kernel_rfl
  omega
  focus ((have hd := drop_get ((List.getElem?_take_of_lt (by omega : k < n.toNat)).trans ‹log[k]? = some _›)); refine ⟨by omega, by simp [ho], ?_⟩; rw [hs, hd, replay]; first | (rw [if_pos ⟨by omega, by omega⟩]; simp; done) | (rw [if_neg (by omega)]; done))
  rw [h7]
  have g7 : ¬ (a5.block < (List.length out : Int)) := of_decide_eq_false h7
  refine EL.condF (by kernel_rfl) ?_
  refine EL.skip ?_
  refine inBlk_norm ?_
  refine thenL_norm ?_
  refine EL.reg0 ?_
  refine OW.run 3 (x' := ⟨(8, VI (IntKind.i64.wrap ((k : Int) + 1))) :: (22, VI (IntKind.i64.wrap ((k : Int) + 1))) :: (seq49 k log n out), [some ⟨1, (out.map cZ)⟩]⟩) (by kernel_rfl) ?_
  have e11 : IntKind.i64.wrap ((k : Int) + 1) = (k : Int) + 1 := wr64 (by omega)
  rw [e11]
  refine OW.end 0 (x' := ⟨(seq50 k log n out), [some ⟨1, (out.map cZ)⟩]⟩) (by kernel_rfl) (by kernel_rfl) ?_
  refine thenL_norm ?_
  refine round_end (live := [1, 2, 7, 8]) (src := [.old 0 true]) (es := []) (y := (fun (k : Nat) (out : List ByteArray) => (⟨(seq32 log n out k), [some ⟨1, (out.map cZ)⟩]⟩ : L3)) (k + 1) out) ?_ ⟨pucZ out (by kernel_rfl), trivial⟩ ?_ ⟨(k + 1), out, rfl, ?_, rfl⟩
  kernel_rfl
  omega
  focus ((have hd := drop_get ((List.getElem?_take_of_lt (by omega : k < n.toNat)).trans ‹log[k]? = some _›)); refine ⟨by omega, by simp [ho], ?_⟩; rw [hs, hd, replay]; first | (rw [if_pos ⟨by omega, by omega⟩]; simp; done) | (rw [if_neg (by omega)]; done))
  rw [h6]
  have g6 : ¬ (a5.block ≥ 0) := of_decide_eq_false h6
  refine OW.last 9 [1, 2, 7, 8, 38] (x' := ⟨(38, .v (.bool false)) :: (seq32 log n out k), [some ⟨1, (out.map cZ)⟩]⟩) (by kernel_rfl) (by kernel_rfl) ?_
  refine EL.condF (by kernel_rfl) ?_
  refine EL.skip ?_
  refine inBlk_norm ?_
  refine thenL_norm ?_
  refine EL.reg0 ?_
  refine OW.run 3 (x' := ⟨(8, VI (IntKind.i64.wrap ((k : Int) + 1))) :: (22, VI (IntKind.i64.wrap ((k : Int) + 1))) :: (seq49 k log n out), [some ⟨1, (out.map cZ)⟩]⟩) (by kernel_rfl) ?_
  have e12 : IntKind.i64.wrap ((k : Int) + 1) = (k : Int) + 1 := wr64 (by omega)
  rw [e12]
  refine OW.end 0 (x' := ⟨(seq50 k log n out), [some ⟨1, (out.map cZ)⟩]⟩) (by kernel_rfl) (by kernel_rfl) ?_
  refine thenL_norm ?_
  refine round_end (live := [1, 2, 7, 8]) (src := [.old 0 true]) (es := []) (y := (fun (k : Nat) (out : List ByteArray) => (⟨(seq32 log n out k), [some ⟨1, (out.map cZ)⟩]⟩ : L3)) (k + 1) out) ?_ ⟨pucZ out (by kernel_rfl), trivial⟩ ?_ ⟨(k + 1), out, rfl, ?_, rfl⟩
  kernel_rfl
  omega
  focus ((have hd := drop_get ((List.getElem?_take_of_lt (by omega : k < n.toNat)).trans ‹log[k]? = some _›)); refine ⟨by omega, by simp [ho], ?_⟩; rw [hs, hd, replay]; first | (rw [if_pos ⟨by omega, by omega⟩]; simp; done) | (rw [if_neg (by omega)]; done))
  rw [h3]
  have g3 : ¬ ((k : Int) < (List.length log : Int)) := of_decide_eq_false h3
  have n3 : ¬ ((k) < (List.length log)) := by omega
  refine EL.condF (by kernel_rfl) ?_
  refine EL.exit ?_
  refine thenL_exit ?_
  refine thenL_exit ?_
  refine inBlk_hit ?_
  refine thenL_norm ?_
  refine EL.sreg ?_
  refine OW.last 2 [6] (x' := ⟨[(6, .own 0 1 0 (List.length out))], [some ⟨1, (out.map cZ)⟩]⟩) (by kernel_rfl) (by kernel_rfl) ?_
  refine EL.ret ?_
  rw [show replay b (List.take (Int.toNat n) log) = out from (by rw [hs, List.drop_eq_nil_of_le (by simp; omega)]; rfl)]
  refine ⟨.inr rfl, ⟨[(6, .own 0 1 0 (List.length out))], [some ⟨1, (out.map cZ)⟩]⟩, norm_le (live := [6]) (src := [.old 0 true]) (es := []) (by kernel_rfl) ⟨pucZ out (by kernel_rfl), trivial⟩, by kernel_rfl, rfl⟩
  rw [h2]
  have g2 : ¬ ((k : Int) < n) := of_decide_eq_false h2
  refine OW.last 5 [1, 2, 7, 8, 20] (x' := ⟨(20, .v (.bool false)) :: (seq32 log n out k), [some ⟨1, (out.map cZ)⟩]⟩) (by kernel_rfl) (by kernel_rfl) ?_
  refine EL.condF (by kernel_rfl) ?_
  refine EL.exit ?_
  refine thenL_exit ?_
  refine thenL_exit ?_
  refine inBlk_hit ?_
  refine thenL_norm ?_
  refine EL.sreg ?_
  refine OW.last 2 [6] (x' := ⟨[(6, .own 0 1 0 (List.length out))], [some ⟨1, (out.map cZ)⟩]⟩) (by kernel_rfl) (by kernel_rfl) ?_
  refine EL.ret ?_
  rw [show replay b (List.take (Int.toNat n) log) = out from (by rw [hs, List.drop_eq_nil_of_le (by simp; omega)]; rfl)]
  refine ⟨.inr rfl, ⟨[(6, .own 0 1 0 (List.length out))], [some ⟨1, (out.map cZ)⟩]⟩, norm_le (live := [6]) (src := [.old 0 true]) (es := []) (by kernel_rfl) ⟨pucZ out (by kernel_rfl), trivial⟩, by kernel_rfl, rfl⟩
abbrev seq51 (k : Int) (n : Int) (d : ByteArray) : LS := [(6, .ref 0 3 0 0), (0, VI k), (1, VI n), (2, .v (.string d))]
theorem act_fn (k : Int) (n : Int) (d : ByteArray) : Fn Try.prog 24 [VI k, VI n, .v (.string d)] (.agg [VI ((⟨k, n, d⟩ : Act).kind), VI ((⟨k, n, d⟩ : Act).n), .v (.string ((⟨k, n, d⟩ : Act).data))]) := by
  refine fn_walkW F24_ok (of_decide_eq_true (by kernel_rfl)) ?_
  refine EL.sreg ?_
  refine OW.last 1 [0, 1, 2, 6] (x' := ⟨(seq51 k n d), [some ⟨3, [[VI 0, VI 0, .v (.string (⟨#[]⟩))]]⟩]⟩) (by kernel_rfl) (by kernel_rfl) ?_
  refine EL.sreg ?_
  refine OW.last 5 [6] (x' := ⟨[(6, .ref 0 3 0 0)], [some ⟨3, [[VI k, VI n, .v (.string d)]]⟩]⟩) (by kernel_rfl) (by kernel_rfl) ?_
  refine EL.ret ?_
  refine ⟨.inr rfl, .agg [VI k, VI n, .v (.string d)], by kernel_rfl, Ale.of_eq ?_⟩
  focus (rfl)
/-- Acts without a turn. -/
def noTurn (l : List Act) : List Act := l.filter (fun a => !(a.kind == 8))
def Ship.sailP (n : Int) (l : List Act) : Ship × Bool :=
  if (Ship.newP n).2 = 0 then (((Ship.newP n).1.runP (noTurn l)).1, ((Ship.newP n).1.runP (noTurn l)).2.2 == 0) else ((Ship.newP n).1, false)
end Go.Proofs.Ythdcanpbgaaneaa
