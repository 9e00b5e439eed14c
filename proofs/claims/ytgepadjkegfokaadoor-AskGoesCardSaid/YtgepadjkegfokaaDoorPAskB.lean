/- What the functions of package quorum answer; operations that begin. No condition. -/
import Derived.Test.YtgepadjkegfokaaDoorPAskA
set_option maxRecDepth 100000
set_option maxHeartbeats 4000000
set_option linter.unusedVariables false
set_option linter.unusedSimpArgs false
namespace Go.Proofs.YtgepadjkegfokaaDoor
theorem tz_res {x : Nat} (h0 : x ≠ 0) (h : x < 18446744073709551616) : (0 ≤ (IntKind.u64.wrap ((bits .and .u64 (x : Int) (IntKind.u64.wrap (0 - (x : Int)))) * 285870213051353865)).fdiv (2 ^ (min 58 IntKind.u64.bits)) ∧ (IntKind.u64.wrap ((bits .and .u64 (x : Int) (IntKind.u64.wrap (0 - (x : Int)))) * 285870213051353865)).fdiv (2 ^ (min 58 IntKind.u64.bits)) < 64) ∧ glZ.getD (Int.toNat ((IntKind.u64.wrap ((bits .and .u64 (x : Int) (IntKind.u64.wrap (0 - (x : Int)))) * 285870213051353865)).fdiv (2 ^ (min 58 IntKind.u64.bits)))) 0 = (tz x : Int) := by
  rw [neg_bits h0 h]
  exact gl_at (tz_lt 64 x h0 (by simpa using h))
theorem fdn32 {n : Nat} (_ : (0 : Int) ≤ 0) : ((n : Int)).fdiv (2 ^ (min 32 IntKind.u64.bits)) = ((n / 4294967296 : Nat) : Int) := by
  show ((n : Int)).fdiv 4294967296 = _
  rw [Int.fdiv_eq_ediv_of_nonneg _ (by decide)]; omega
theorem fdn16 {n : Nat} (_ : (0 : Int) ≤ 0) : ((n : Int)).fdiv (2 ^ (min 16 IntKind.u64.bits)) = ((n / 65536 : Nat) : Int) := by
  show ((n : Int)).fdiv 65536 = _
  rw [Int.fdiv_eq_ediv_of_nonneg _ (by decide)]; omega
theorem fdn8 {n : Nat} (_ : (0 : Int) ≤ 0) : ((n : Int)).fdiv (2 ^ (min 8 IntKind.u64.bits)) = ((n / 256 : Nat) : Int) := by
  show ((n : Int)).fdiv 256 = _
  rw [Int.fdiv_eq_ediv_of_nonneg _ (by decide)]; omega
theorem wr8 {a : Int} (h : 0 ≤ a ∧ a ≤ 255) : IntKind.u8.wrap a = a := by
  have : IntKind.u8.wrap a = a % 256 := by simp [IntKind.wrap, IntKind.bits, IntKind.signed]
  omega
theorem len64_b {n : Nat} (h : n < 256) {m : Int} (hm : m = n) {b : UInt8} (hb : l8s[Int.toNat m]? = some b) : b.toNat = len64 n := by
  subst hm; exact l8_get h hb
theorem len64_32 {n : Nat} (h : 4294967296 ≤ n) : len64 n = len64 (n / 4294967296) + 32 := len64_shift (k := 32) h
theorem len64_16 {n : Nat} (h : 65536 ≤ n) : len64 n = len64 (n / 65536) + 16 := len64_shift (k := 16) h
theorem len64_s8 {n : Nat} (h : 256 ≤ n) : len64 n = len64 (n / 256) + 8 := len64_shift (k := 8) h
def nodesGo : List Int → Int → Int × Int
  | [], a => (a, 0)
  | w :: r, a => if 0 ≤ w ∧ w ≤ 100 then nodesGo r (a + w) else (0, 3)
def nodesP (ws : List Int) : Int × Int := if ws.length = 0 then (0, 8) else if ws.length > 12 then (0, 2) else nodesGo ws 0
theorem nodesGo_bd : ∀ (ws : List Int) (a : Int), 0 ≤ a → (nodesGo ws a).2 = 0 → a ≤ (nodesGo ws a).1 ∧ (nodesGo ws a).1 ≤ a + 100 * ws.length
  | [], a, h, _ => by simp [nodesGo]
  | w :: r, a, h, h2 => by
    unfold nodesGo at h2 ⊢
    split
    · rename_i hw
      rw [if_pos hw] at h2
      have := nodesGo_bd r (a + w) (by omega) h2
      simp only [List.length_cons]; omega
    · rename_i hw; rw [if_neg hw] at h2; simp at h2
theorem nodes_bd {ws : List Int} (h : (nodesP ws).2 = 0) : 0 ≤ (nodesP ws).1 ∧ (nodesP ws).1 ≤ 1200 ∧ 1 ≤ ws.length ∧ ws.length ≤ 12 ∧ ∀ w, w ∈ ws → 0 ≤ w ∧ w ≤ 100 := by
  unfold nodesP at h ⊢
  by_cases h1 : ws.length = 0
  · rw [if_pos h1] at h; simp at h
  · by_cases h2 : ws.length > 12
    · rw [if_neg h1, if_pos h2] at h; simp at h
    · rw [if_neg h1, if_neg h2] at h ⊢
      have := nodesGo_bd ws 0 (by omega) h
      refine ⟨this.1, by omega, by omega, by omega, ?_⟩
      have key : ∀ (l : List Int) (a : Int), (nodesGo l a).2 = 0 → ∀ w, w ∈ l → 0 ≤ w ∧ w ≤ 100 := by
        intro l
        induction l with
        | nil => intro a _ w hw; simp at hw
        | cons v r ih =>
          intro a h w hw
          unfold nodesGo at h
          split at h
          · rename_i hv
            rcases List.mem_cons.1 hw with rfl | hw
            · exact hv
            · exact ih _ h w hw
          · simp at h
      exact key ws 0 h
def qcheckP (ws : List Int) (need : Int) : Int := if (nodesP ws).2 ≠ 0 then (nodesP ws).2 else if need < 1 ∨ need > (nodesP ws).1 then 3 else if 2 * need ≤ (nodesP ws).1 then 4 else 0
def sumP (ws : List Int) (x : Nat) : Int × Int := if (nodesP ws).2 ≠ 0 then (0, (nodesP ws).2) else if 2 ^ ws.length ≤ x then (0, 3) else (bsum ws x, 0)
def enoughP (ws : List Int) (need : Int) (x : Nat) : Bool × Int := if qcheckP ws need ≠ 0 then (false, qcheckP ws need) else ((sumP ws x).2 == 0 && decide ((sumP ws x).1 ≥ need), (sumP ws x).2)
abbrev abq0 (ws : List Int) : LS := [(7, .lst 1 (ws.map cI)), (2, VI 0), (0, .lst 1 (ws.map cI))]
abbrev abq1 (ws : List Int) : LS := [(11, .lst 1 (ws.map cI)), (6, .v (.bool false)), (2, VI 0), (0, .lst 1 (ws.map cI))]
abbrev abq2 (ws : List Int) : LS := [(14, .lst 1 (ws.map cI)), (10, .v (.bool false)), (2, VI 0), (0, .lst 1 (ws.map cI))]
abbrev abq3 (ws : List Int) : LS := [(16, VI 0), (15, VI (List.length ws : Int)), (14, .lst 1 (ws.map cI)), (2, VI 0)]
abbrev abq4 (a : Int) (ws : List Int) (k : Nat) : LS := [(2, VI a), (14, .lst 1 (ws.map cI)), (15, VI (List.length ws : Int)), (16, VI (k : Int))]
abbrev abq5 (a5 : Int) (a : Int) (ws : List Int) (k : Nat) : LS := (18, .pim [VI a5] 0) :: (17, .v (.bool true)) :: (abq4 a ws k)
abbrev abq6 (a5 : Int) (a : Int) (ws : List Int) (k : Nat) : LS := [(27, VI a5), (26, VI a), (25, .v (.bool false)), (5, VI a5), (14, .lst 1 (ws.map cI)), (15, VI (List.length ws : Int)), (16, VI (k : Int))]
abbrev abq7 (a : Int) (a5 : Int) (ws : List Int) : LS := [(2, VI (a + a5)), (28, VI (a + a5)), (27, VI a5), (26, VI a), (25, .v (.bool false)), (5, VI a5), (14, .lst 1 (ws.map cI)), (15, VI (List.length ws : Int))]
abbrev abq8 (k : Nat) (a : Int) (a5 : Int) (ws : List Int) : LS := (16, VI ((k : Int) + 1)) :: (29, VI ((k : Int) + 1)) :: (abq7 a a5 ws)
theorem nodes_fn (ws : List Int) (hx : ws.length ≤ 9223372036854775807) : Fn Tryd.prog 49 [.lst 1 (ws.map cI)] (.tup [VI ((nodesP ws).1), VI ((nodesP ws).2)]) := by
  refine fn_walkW F49_ok (of_decide_eq_true (by kernel_rfl)) ?_
  refine EL.sreg ?_
  refine OW.last 2 [0, 2] (x' := ⟨[(2, VI 0), (0, .lst 1 (ws.map cI))], []⟩) (by kernel_rfl) (by kernel_rfl) ?_
  refine EL.seq ?_
  refine EL.block ?_
  refine EL.sreg ?_
  refine OW.run 1 (x' := ⟨(abq0 ws), []⟩) (by kernel_rfl) ?_
  refine OW.ope (v := VI (List.length ws : Int)) (u := []) (acc := []) (x' := ⟨(8, VI (List.length ws : Int)) :: (abq0 ws), []⟩) (by kernel_rfl) (opE_len cI ws (.s 7) 1 (by kernel_rfl) (by kernel_rfl) (.inl rfl)) (by kernel_rfl) ?_
  refine OW.last 2 [0, 2, 6] (x' := ⟨[(6, .v (.bool ((List.length ws : Int) == 0))), (2, VI 0), (0, .lst 1 (ws.map cI))], []⟩) (by kernel_rfl) (by kernel_rfl) ?_
  rcases Bool.eq_false_or_eq_true (((List.length ws : Int) == 0)) with h1 | h1
  rw [h1]
  have g1 : ((List.length ws : Int) = 0) := by simpa using h1
  have n1 : ((List.length ws) = 0) := by omega
  refine EL.condT (by kernel_rfl) ?_
  refine EL.sreg ?_
  refine OW.last 2 [2, 3] (x' := ⟨[(3, VI 8), (2, VI 0)], []⟩) (by kernel_rfl) (by kernel_rfl) ?_
  refine EL.ret ?_
  refine inBlk_ret ?_
  refine thenL_ret ?_
  refine ⟨.inr rfl, .tup [VI 0, VI 8], by kernel_rfl, Ale.of_eq ?_⟩
  focus (first | (rw [nodesP, if_pos (by omega)]; done) | (rw [nodesP, if_neg (by omega), if_pos (by omega)]; done) | (rw [nodesP, if_neg (by omega), if_neg (by omega), hs]; first | (rw [List.drop_eq_nil_of_le (by omega)]; rfl) | (rw [‹ws.drop k = _›, nodesGo, if_neg (by omega)]; done)) | trace_state)
  rw [h1]
  have g1 : ¬ ((List.length ws : Int) = 0) := by simpa using h1
  have n1 : ¬ ((List.length ws) = 0) := by omega
  refine EL.condF (by kernel_rfl) ?_
  refine EL.sreg ?_
  refine OW.run 1 (x' := ⟨(abq1 ws), []⟩) (by kernel_rfl) ?_
  refine OW.ope (v := VI (List.length ws : Int)) (u := []) (acc := []) (x' := ⟨(12, VI (List.length ws : Int)) :: (abq1 ws), []⟩) (by kernel_rfl) (opE_len cI ws (.s 11) 1 (by kernel_rfl) (by kernel_rfl) (.inl rfl)) (by kernel_rfl) ?_
  refine OW.last 2 [0, 2, 10] (x' := ⟨[(10, .v (.bool (decide ((List.length ws : Int) > 12)))), (2, VI 0), (0, .lst 1 (ws.map cI))], []⟩) (by kernel_rfl) (by kernel_rfl) ?_
  rcases Bool.eq_false_or_eq_true (decide ((List.length ws : Int) > 12)) with h2 | h2
  rw [h2]
  have g2 : ((List.length ws : Int) > 12) := of_decide_eq_true h2
  have n2 : ((List.length ws) > 12) := by omega
  refine EL.condT (by kernel_rfl) ?_
  refine EL.sreg ?_
  refine OW.last 2 [2, 3] (x' := ⟨[(3, VI 2), (2, VI 0)], []⟩) (by kernel_rfl) (by kernel_rfl) ?_
  refine EL.ret ?_
  refine inBlk_ret ?_
  refine thenL_ret ?_
  refine ⟨.inr rfl, .tup [VI 0, VI 2], by kernel_rfl, Ale.of_eq ?_⟩
  focus (first | (rw [nodesP, if_pos (by omega)]; done) | (rw [nodesP, if_neg (by omega), if_pos (by omega)]; done) | (rw [nodesP, if_neg (by omega), if_neg (by omega), hs]; first | (rw [List.drop_eq_nil_of_le (by omega)]; rfl) | (rw [‹ws.drop k = _›, nodesGo, if_neg (by omega)]; done)) | trace_state)
  rw [h2]
  have g2 : ¬ ((List.length ws : Int) > 12) := of_decide_eq_false h2
  have n2 : ¬ ((List.length ws) > 12) := by omega
  refine EL.condF (by kernel_rfl) ?_
  refine EL.skip ?_
  refine inBlk_norm ?_
  refine thenL_norm ?_
  refine EL.seq ?_
  refine EL.sreg ?_
  refine OW.run 1 (x' := ⟨(abq2 ws), []⟩) (by kernel_rfl) ?_
  refine OW.ope (v := VI (List.length ws : Int)) (u := []) (acc := []) (x' := ⟨(15, VI (List.length ws : Int)) :: (abq2 ws), []⟩) (by kernel_rfl) (opE_len cI ws (.s 14) 1 (by kernel_rfl) (by kernel_rfl) (.inl rfl)) (by kernel_rfl) ?_
  refine OW.last 1 [2, 14, 15, 16] (x' := ⟨(abq3 ws), []⟩) (by kernel_rfl) (by kernel_rfl) ?_
  refine EL.block ?_
  refine EL.loopN (fun mM xX => ∃ (k : Nat) (a : Int), mM = ws.length - k ∧ (k ≤ ws.length ∧ 1 ≤ ws.length ∧ ws.length ≤ 12 ∧ 0 ≤ a ∧ a ≤ 100 * k ∧ nodesGo ws 0 = nodesGo (ws.drop k) a) ∧ xX = ⟨(abq4 a ws k), []⟩) (y := (fun (k : Nat) (a : Int) => (⟨(abq4 a ws k), []⟩ : L3)) 0 0) [2, 14, 15, 16] [] [] (by kernel_rfl) trivial ⟨0, 0, rfl, by simp; omega, rfl⟩ ?_
  rintro _ _ ⟨k, a, rfl, hI3, rfl⟩
  obtain ⟨hk, hl1, hl2, ha0, ha1, hs⟩ := hI3
  refine EL.sreg ?_
  refine OW.last 1 [2, 14, 15, 16, 17] (x' := ⟨(17, .v (.bool (decide ((k : Int) < (List.length ws : Int))))) :: (abq4 a ws k), []⟩) (by kernel_rfl) (by kernel_rfl) ?_
  refine EL.seq ?_
  rcases Bool.eq_false_or_eq_true (decide ((k : Int) < (List.length ws : Int))) with h4 | h4
  rw [h4]
  have g4 : ((k : Int) < (List.length ws : Int)) := of_decide_eq_true h4
  have n4 : ((k) < (List.length ws)) := by omega
  refine EL.condT (by kernel_rfl) ?_
  refine EL.skip ?_
  refine thenL_norm ?_
  refine EL.seq ?_
  refine EL.block ?_
  refine EL.sreg ?_
  obtain ⟨a5, ha5⟩ : ∃ y, ws[((k : Int) : Int).toNat]? = some y := idx_ex ⟨by omega, by omega⟩
  have iha5 : ws[k]? = some a5 := by simpa using ha5
  have dha5 := drop_get iha5
  refine OW.ope (v := .pim [VI a5] 0) (u := []) (acc := []) (x' := ⟨(abq5 a5 a ws k), []⟩) (by kernel_rfl) (opE_iad cI ws (.s 14) (.s 16) 1 .i64 (k : Int) a5 (by kernel_rfl) (by kernel_rfl) (.inl rfl) rfl (by omega) ha5) (by kernel_rfl) ?_
  refine OW.last 2 [2, 5, 14, 15, 16] (x' := ⟨(5, VI a5) :: (abq4 a ws k), []⟩) (by kernel_rfl) (by kernel_rfl) ?_
  refine EL.seq ?_
  refine EL.sreg ?_
  refine OW.run 3 (x' := ⟨(22, .v (.bool (decide (a5 < 0)))) :: (21, .v (.bool (decide (a5 < 0)))) :: (20, VI a5) :: (5, VI a5) :: (abq4 a ws k), []⟩) (by kernel_rfl) ?_
  rcases Bool.eq_false_or_eq_true (decide (a5 < 0)) with h6 | h6
  rw [h6]
  have g6 : (a5 < 0) := of_decide_eq_true h6
  refine OW.last 3 [2, 5, 14, 15, 16, 25] (x' := ⟨(25, .v (.bool true)) :: (5, VI a5) :: (abq4 a ws k), []⟩) (by kernel_rfl) (by kernel_rfl) ?_
  refine EL.condT (by kernel_rfl) ?_
  refine EL.sreg ?_
  refine OW.last 2 [2, 3] (x' := ⟨[(3, VI 3), (2, VI 0)], []⟩) (by kernel_rfl) (by kernel_rfl) ?_
  refine EL.ret ?_
  refine thenL_ret ?_
  refine inBlk_ret ?_
  refine thenL_ret ?_
  refine thenL_ret ?_
  refine inBlk_ret ?_
  refine thenL_ret ?_
  refine ⟨.inr rfl, .tup [VI 0, VI 3], by kernel_rfl, Ale.of_eq ?_⟩
  focus (first | (rw [nodesP, if_pos (by omega)]; done) | (rw [nodesP, if_neg (by omega), if_pos (by omega)]; done) | (rw [nodesP, if_neg (by omega), if_neg (by omega), hs]; first | (rw [List.drop_eq_nil_of_le (by omega)]; rfl) | (rw [‹ws.drop k = _›, nodesGo, if_neg (by omega)]; done)) | trace_state)
  rw [h6]
  have g6 : ¬ (a5 < 0) := of_decide_eq_false h6
  refine OW.last 3 [2, 5, 14, 15, 16, 25] (x' := ⟨(25, .v (.bool (decide (a5 > 100)))) :: (5, VI a5) :: (abq4 a ws k), []⟩) (by kernel_rfl) (by kernel_rfl) ?_
  rcases Bool.eq_false_or_eq_true (decide (a5 > 100)) with h7 | h7
  rw [h7]
  have g7 : (a5 > 100) := of_decide_eq_true h7
  refine EL.condT (by kernel_rfl) ?_
  refine EL.sreg ?_
  refine OW.last 2 [2, 3] (x' := ⟨[(3, VI 3), (2, VI 0)], []⟩) (by kernel_rfl) (by kernel_rfl) ?_
  refine EL.ret ?_
  refine thenL_ret ?_
  refine inBlk_ret ?_
  refine thenL_ret ?_
  refine thenL_ret ?_
  refine inBlk_ret ?_
  refine thenL_ret ?_
  refine ⟨.inr rfl, .tup [VI 0, VI 3], by kernel_rfl, Ale.of_eq ?_⟩
  focus (first | (rw [nodesP, if_pos (by omega)]; done) | (rw [nodesP, if_neg (by omega), if_pos (by omega)]; done) | (rw [nodesP, if_neg (by omega), if_neg (by omega), hs]; first | (rw [List.drop_eq_nil_of_le (by omega)]; rfl) | (rw [‹ws.drop k = _›, nodesGo, if_neg (by omega)]; done)) | trace_state)
  rw [h7]
  have g7 : ¬ (a5 > 100) := of_decide_eq_false h7
  refine EL.condF (by kernel_rfl) ?_
  refine EL.skip ?_
  refine thenL_norm ?_
  refine EL.reg0 ?_
  refine OW.run 4 (x' := ⟨(2, VI (IntKind.i64.wrap (a + a5))) :: (28, VI (IntKind.i64.wrap (a + a5))) :: (abq6 a5 a ws k), []⟩) (by kernel_rfl) ?_
  have e8 : IntKind.i64.wrap (a + a5) = a + a5 := wr64 (by omega)
  rw [e8]
  refine OW.end 0 (x' := ⟨(2, VI (a + a5)) :: (28, VI (a + a5)) :: (abq6 a5 a ws k), []⟩) (by kernel_rfl) (by kernel_rfl) ?_
  refine inBlk_norm ?_
  refine thenL_norm ?_
  refine EL.reg0 ?_
  refine OW.run 2 (x' := ⟨(16, VI (IntKind.i64.wrap ((k : Int) + 1))) :: (29, VI (IntKind.i64.wrap ((k : Int) + 1))) :: (abq7 a a5 ws), []⟩) (by kernel_rfl) ?_
  have e9 : IntKind.i64.wrap ((k : Int) + 1) = (k : Int) + 1 := wr64 (by omega)
  rw [e9]
  refine OW.end 0 (x' := ⟨(abq8 k a a5 ws), []⟩) (by kernel_rfl) (by kernel_rfl) ?_
  refine thenL_norm ?_
  refine round_end (live := [2, 14, 15, 16]) (src := []) (es := []) (y := (fun (k : Nat) (a : Int) => (⟨(abq4 a ws k), []⟩ : L3)) (k + 1) (a + a5)) ?_ trivial ?_ ⟨(k + 1), (a + a5), rfl, ?_, rfl⟩
  kernel_rfl
  omega
  focus (refine ⟨by omega, hl1, hl2, by omega, by omega, ?_⟩; rw [hs, ‹ws.drop k = _›, nodesGo, if_pos (by omega)])
  rw [h4]
  have g4 : ¬ ((k : Int) < (List.length ws : Int)) := of_decide_eq_false h4
  have n4 : ¬ ((k) < (List.length ws)) := by omega
  refine EL.condF (by kernel_rfl) ?_
  refine EL.exit ?_
  refine thenL_exit ?_
  refine thenL_exit ?_
  refine inBlk_hit ?_
  refine thenL_norm ?_
  refine EL.sreg ?_
  refine OW.last 3 [2, 3] (x' := ⟨[(3, VI 0), (2, VI a)], []⟩) (by kernel_rfl) (by kernel_rfl) ?_
  refine EL.ret ?_
  refine ⟨.inr rfl, .tup [VI a, VI 0], by kernel_rfl, Ale.of_eq ?_⟩
  focus (first | (rw [nodesP, if_pos (by omega)]; done) | (rw [nodesP, if_neg (by omega), if_pos (by omega)]; done) | (rw [nodesP, if_neg (by omega), if_neg (by omega), hs]; first | (rw [List.drop_eq_nil_of_le (by omega)]; rfl) | (rw [‹ws.drop k = _›, nodesGo, if_neg (by omega)]; done)) | trace_state)
abbrev abq9 (ws : List Int) (need : Int) : LS := [(8, .lst 1 (ws.map cI)), (0, .lst 1 (ws.map cI)), (1, VI need)]
abbrev abq10 (ws : List Int) (need : Int) : LS := (9, .tup [VI ((nodesP ws).1), VI ((nodesP ws).2)]) :: (abq9 ws need)
abbrev abq11 (ws : List Int) (need : Int) : LS := [(6, VI ((nodesP ws).2)), (5, VI ((nodesP ws).1)), (1, VI need)]
abbrev abq12 (ws : List Int) (need : Int) : LS := [(16, .v (.bool true)), (5, VI ((nodesP ws).1)), (1, VI need)]
abbrev abq13 (need : Int) (ws : List Int) : LS := [(25, VI need), (16, .v (.bool false)), (5, VI ((nodesP ws).1)), (1, VI need)]
theorem qcheck_fn (ws : List Int) (need : Int) (hx : ws.length ≤ 9223372036854775807) : Fn Tryd.prog 32 [.lst 1 (ws.map cI), VI need] (VI (qcheckP ws need)) := by
  refine fn_walkW F32_ok (of_decide_eq_true (by kernel_rfl)) ?_
  refine EL.sreg ?_
  refine OW.last 1 [0, 1] (x' := ⟨[(0, .lst 1 (ws.map cI)), (1, VI need)], []⟩) (by kernel_rfl) (by kernel_rfl) ?_
  refine EL.sreg ?_
  refine OW.run 1 (x' := ⟨(abq9 ws need), []⟩) (by kernel_rfl) ?_
  refine OW.fn (ar := [.lst 1 (ws.map cI)]) (x' := ⟨(abq10 ws need), []⟩) (by kernel_rfl) (by kernel_rfl) F49_call (nodes_fn ws (by first | omega | (simp; omega))) (by kernel_rfl) (by kernel_rfl) ?_
  refine OW.last 5 [1, 5, 6] (x' := ⟨(abq11 ws need), []⟩) (by kernel_rfl) (by kernel_rfl) ?_
  refine EL.seq ?_
  refine EL.block ?_
  refine EL.sreg ?_
  refine OW.last 3 [1, 5, 6, 12] (x' := ⟨(12, .v (.bool (((nodesP ws).2) != 0))) :: (abq11 ws need), []⟩) (by kernel_rfl) (by kernel_rfl) ?_
  rcases Bool.eq_false_or_eq_true ((((nodesP ws).2) != 0)) with h1 | h1
  rw [h1]
  have g1 : ¬ (((nodesP ws).2) = 0) := by simpa using h1
  refine EL.condT (by kernel_rfl) ?_
  refine EL.sreg ?_
  refine OW.last 2 [4] (x' := ⟨[(4, VI ((nodesP ws).2))], []⟩) (by kernel_rfl) (by kernel_rfl) ?_
  refine EL.ret ?_
  refine inBlk_ret ?_
  refine thenL_ret ?_
  refine ⟨.inr rfl, VI ((nodesP ws).2), by kernel_rfl, Ale.of_eq ?_⟩
  focus ((refine congrArg (fun n => VI n) ?_; simp only [qcheckP]; (repeat' split) <;> first | rfl | omega | (exfalso; omega) | contradiction | trace_state))
  rw [h1]
  have g1 : (((nodesP ws).2) = 0) := by simpa using h1
  refine EL.condF (by kernel_rfl) ?_
  refine EL.sreg ?_
  refine OW.run 3 (x' := ⟨(19, .v (.bool (decide (need < 1)))) :: (18, .v (.bool (decide (need < 1)))) :: (17, VI need) :: (12, .v (.bool false)) :: (abq11 ws need), []⟩) (by kernel_rfl) ?_
  rcases Bool.eq_false_or_eq_true (decide (need < 1)) with h2 | h2
  rw [h2]
  have g2 : (need < 1) := of_decide_eq_true h2
  refine OW.last 5 [1, 5, 16] (x' := ⟨(abq12 ws need), []⟩) (by kernel_rfl) (by kernel_rfl) ?_
  refine EL.condT (by kernel_rfl) ?_
  refine EL.sreg ?_
  refine OW.last 1 [4] (x' := ⟨[(4, VI 3)], []⟩) (by kernel_rfl) (by kernel_rfl) ?_
  refine EL.ret ?_
  refine inBlk_ret ?_
  refine thenL_ret ?_
  refine ⟨.inr rfl, VI 3, by kernel_rfl, Ale.of_eq ?_⟩
  focus ((refine congrArg (fun n => VI n) ?_; simp only [qcheckP]; (repeat' split) <;> first | rfl | omega | (exfalso; omega) | contradiction | trace_state))
  rw [h2]
  have g2 : ¬ (need < 1) := of_decide_eq_false h2
  refine OW.last 5 [1, 5, 16] (x' := ⟨[(16, .v (.bool (decide (need > (nodesP ws).1)))), (5, VI ((nodesP ws).1)), (1, VI need)], []⟩) (by kernel_rfl) (by kernel_rfl) ?_
  rcases Bool.eq_false_or_eq_true (decide (need > (nodesP ws).1)) with h3 | h3
  rw [h3]
  have g3 : (need > (nodesP ws).1) := of_decide_eq_true h3
  refine EL.condT (by kernel_rfl) ?_
  refine EL.sreg ?_
  refine OW.last 1 [4] (x' := ⟨[(4, VI 3)], []⟩) (by kernel_rfl) (by kernel_rfl) ?_
  refine EL.ret ?_
  refine inBlk_ret ?_
  refine thenL_ret ?_
  refine ⟨.inr rfl, VI 3, by kernel_rfl, Ale.of_eq ?_⟩
  focus ((refine congrArg (fun n => VI n) ?_; simp only [qcheckP]; (repeat' split) <;> first | rfl | omega | (exfalso; omega) | contradiction | trace_state))
  rw [h3]
  have g3 : ¬ (need > (nodesP ws).1) := of_decide_eq_false h3
  refine EL.condF (by kernel_rfl) ?_
  refine EL.sreg ?_
  refine OW.run 5 (x' := ⟨(24, .v (.bool (decide ((IntKind.i64.wrap (2 * need)) ≤ (nodesP ws).1)))) :: (28, .v (.bool (decide ((IntKind.i64.wrap (2 * need)) ≤ (nodesP ws).1)))) :: (27, VI ((nodesP ws).1)) :: (26, VI (IntKind.i64.wrap (2 * need))) :: (abq13 need ws), []⟩) (by kernel_rfl) ?_
  have e4 : IntKind.i64.wrap (2 * need) = 2 * need := wr64 (by have hb := nodes_bd (ws := ws) (by assumption); omega)
  rw [e4]
  refine OW.last 0 [24] (x' := ⟨[(24, .v (.bool (decide ((2 * need) ≤ (nodesP ws).1))))], []⟩) (by kernel_rfl) (by kernel_rfl) ?_
  rcases Bool.eq_false_or_eq_true (decide ((2 * need) ≤ (nodesP ws).1)) with h5 | h5
  rw [h5]
  have g5 : ((2 * need) ≤ (nodesP ws).1) := of_decide_eq_true h5
  refine EL.condT (by kernel_rfl) ?_
  refine EL.sreg ?_
  refine OW.last 1 [4] (x' := ⟨[(4, VI 4)], []⟩) (by kernel_rfl) (by kernel_rfl) ?_
  refine EL.ret ?_
  refine inBlk_ret ?_
  refine thenL_ret ?_
  refine ⟨.inr rfl, VI 4, by kernel_rfl, Ale.of_eq ?_⟩
  focus ((refine congrArg (fun n => VI n) ?_; simp only [qcheckP]; (repeat' split) <;> first | rfl | omega | (exfalso; omega) | contradiction | trace_state))
  rw [h5]
  have g5 : ¬ ((2 * need) ≤ (nodesP ws).1) := of_decide_eq_false h5
  refine EL.condF (by kernel_rfl) ?_
  refine EL.skip ?_
  refine inBlk_norm ?_
  refine thenL_norm ?_
  refine EL.sreg ?_
  refine OW.last 1 [4] (x' := ⟨[(4, VI 0)], []⟩) (by kernel_rfl) (by kernel_rfl) ?_
  refine EL.ret ?_
  refine ⟨.inr rfl, VI 0, by kernel_rfl, Ale.of_eq ?_⟩
  focus ((refine congrArg (fun n => VI n) ?_; simp only [qcheckP]; (repeat' split) <;> first | rfl | omega | (exfalso; omega) | contradiction | trace_state))
abbrev abq14 (x : U64) : LS := [(6, .v (.int .u64 (x.n : Int))), (5, .v (.int .u64 (x.n : Int))), (4, .v (.bool false)), (0, .v (.int .u64 (x.n : Int)))]
theorem tz_fn (x : U64) : Fn Tryd.prog 55 [.v (.int .u64 (x.n : Int))] (VI (tz x.n : Int)) := by
  refine fn_walkW F55_ok (of_decide_eq_true (by kernel_rfl)) ?_
  refine EL.sreg ?_
  refine OW.last 1 [0] (x' := ⟨[(0, .v (.int .u64 (x.n : Int)))], []⟩) (by kernel_rfl) (by kernel_rfl) ?_
  refine EL.seq ?_
  refine EL.sreg ?_
  refine OW.last 2 [0, 4] (x' := ⟨[(4, .v (.bool ((x.n : Int) == 0))), (0, .v (.int .u64 (x.n : Int)))], []⟩) (by kernel_rfl) (by kernel_rfl) ?_
  rcases Bool.eq_false_or_eq_true (((x.n : Int) == 0)) with h1 | h1
  rw [h1]
  have g1 : ((x.n : Int) = 0) := by simpa using h1
  refine EL.condT (by kernel_rfl) ?_
  refine EL.sreg ?_
  refine OW.last 1 [2] (x' := ⟨[(2, VI 64)], []⟩) (by kernel_rfl) (by kernel_rfl) ?_
  refine EL.ret ?_
  refine thenL_ret ?_
  refine ⟨.inr rfl, VI 64, by kernel_rfl, Ale.of_eq ?_⟩
  focus ((refine congrArg (fun n => VI n) ?_; first | (have h0 : x.n = 0 := (by omega); rw [h0, tz, if_pos rfl]; rfl) | (have ht := tz_res (x := x.n) (by omega) x.lt; rw [ht.2]; have := tz_lt 64 x.n (by omega) (by simpa using x.lt); exact wr64 (by omega)) | trace_state))
  rw [h1]
  have g1 : ¬ ((x.n : Int) = 0) := by simpa using h1
  refine EL.condF (by kernel_rfl) ?_
  refine EL.skip ?_
  refine thenL_norm ?_
  refine EL.sreg ?_
  refine OW.run 6 (x' := ⟨(10, .v (.int .u64 ((IntKind.u64.wrap ((bits .and .u64 (x.n : Int) (IntKind.u64.wrap (0 - (x.n : Int)))) * 285870213051353865)).fdiv (2 ^ (min 58 IntKind.u64.bits))))) :: (9, .v (.int .u64 (IntKind.u64.wrap ((bits .and .u64 (x.n : Int) (IntKind.u64.wrap (0 - (x.n : Int)))) * 285870213051353865)))) :: (8, .v (.int .u64 (bits .and .u64 (x.n : Int) (IntKind.u64.wrap (0 - (x.n : Int)))))) :: (7, .v (.int .u64 (IntKind.u64.wrap (0 - (x.n : Int))))) :: (abq14 x), []⟩) (by kernel_rfl) ?_
  refine OW.ope (v := .pim glC (0 + Int.toNat ((IntKind.u64.wrap ((bits .and .u64 (x.n : Int) (IntKind.u64.wrap (0 - (x.n : Int)))) * 285870213051353865)).fdiv (2 ^ (min 58 IntKind.u64.bits))) * 1)) (u := []) (acc := []) (x' := ⟨(11, .pim glC (0 + Int.toNat ((IntKind.u64.wrap ((bits .and .u64 (x.n : Int) (IntKind.u64.wrap (0 - (x.n : Int)))) * 285870213051353865)).fdiv (2 ^ (min 58 IntKind.u64.bits))) * 1)) :: (10, .v (.int .u64 ((IntKind.u64.wrap ((bits .and .u64 (x.n : Int) (IntKind.u64.wrap (0 - (x.n : Int)))) * 285870213051353865)).fdiv (2 ^ (min 58 IntKind.u64.bits))))) :: (9, .v (.int .u64 (IntKind.u64.wrap ((bits .and .u64 (x.n : Int) (IntKind.u64.wrap (0 - (x.n : Int)))) * 285870213051353865)))) :: (8, .v (.int .u64 (bits .and .u64 (x.n : Int) (IntKind.u64.wrap (0 - (x.n : Int)))))) :: (7, .v (.int .u64 (IntKind.u64.wrap (0 - (x.n : Int))))) :: (abq14 x), []⟩) (by kernel_rfl) (opE_iapP 1 64 (.c (.pim glC 0)) (.s 10) glC 0 .u64 ((IntKind.u64.wrap ((bits .and .u64 (x.n : Int) (IntKind.u64.wrap (0 - (x.n : Int)))) * 285870213051353865)).fdiv (2 ^ (min 58 IntKind.u64.bits))) (by kernel_rfl) (by kernel_rfl) (by kernel_rfl) (by kernel_rfl) ⟨(tz_res (x := x.n) (by omega) x.lt).1.1, (tz_res (x := x.n) (by omega) x.lt).1.2⟩) (by kernel_rfl) ?_
  refine OW.ope (v := .v (.int .u8 (glZ.getD (Int.toNat ((IntKind.u64.wrap ((bits .and .u64 (x.n : Int) (IntKind.u64.wrap (0 - (x.n : Int)))) * 285870213051353865)).fdiv (2 ^ (min 58 IntKind.u64.bits)))) 0))) (u := []) (acc := []) (x' := ⟨(12, .v (.int .u8 (glZ.getD (Int.toNat ((IntKind.u64.wrap ((bits .and .u64 (x.n : Int) (IntKind.u64.wrap (0 - (x.n : Int)))) * 285870213051353865)).fdiv (2 ^ (min 58 IntKind.u64.bits)))) 0))) :: (11, .pim glC (0 + Int.toNat ((IntKind.u64.wrap ((bits .and .u64 (x.n : Int) (IntKind.u64.wrap (0 - (x.n : Int)))) * 285870213051353865)).fdiv (2 ^ (min 58 IntKind.u64.bits))) * 1)) :: (10, .v (.int .u64 ((IntKind.u64.wrap ((bits .and .u64 (x.n : Int) (IntKind.u64.wrap (0 - (x.n : Int)))) * 285870213051353865)).fdiv (2 ^ (min 58 IntKind.u64.bits))))) :: (9, .v (.int .u64 (IntKind.u64.wrap ((bits .and .u64 (x.n : Int) (IntKind.u64.wrap (0 - (x.n : Int)))) * 285870213051353865)))) :: (8, .v (.int .u64 (bits .and .u64 (x.n : Int) (IntKind.u64.wrap (0 - (x.n : Int)))))) :: (7, .v (.int .u64 (IntKind.u64.wrap (0 - (x.n : Int))))) :: (abq14 x), []⟩) (by kernel_rfl) (opE_ldP none (.s 11) glC (0 + Int.toNat ((IntKind.u64.wrap ((bits .and .u64 (x.n : Int) (IntKind.u64.wrap (0 - (x.n : Int)))) * 285870213051353865)).fdiv (2 ^ (min 58 IntKind.u64.bits))) * 1) (.v (.int .u8 (glZ.getD (Int.toNat ((IntKind.u64.wrap ((bits .and .u64 (x.n : Int) (IntKind.u64.wrap (0 - (x.n : Int)))) * 285870213051353865)).fdiv (2 ^ (min 58 IntKind.u64.bits)))) 0))) (by kernel_rfl) (by kernel_rfl) (by kernel_rfl) (gl_ld (by have ht := tz_res (x := x.n) (by omega) x.lt; rw [show glZ.length = 64 from rfl]; omega))) (by kernel_rfl) ?_
  refine OW.last 2 [2] (x' := ⟨[(2, VI (IntKind.i64.wrap ((glZ.getD (Int.toNat ((IntKind.u64.wrap ((bits .and .u64 (x.n : Int) (IntKind.u64.wrap (0 - (x.n : Int)))) * 285870213051353865)).fdiv (2 ^ (min 58 IntKind.u64.bits)))) 0))))], []⟩) (by kernel_rfl) (by kernel_rfl) ?_
  refine EL.ret ?_
  refine ⟨.inr rfl, VI (IntKind.i64.wrap ((glZ.getD (Int.toNat ((IntKind.u64.wrap ((bits .and .u64 (x.n : Int) (IntKind.u64.wrap (0 - (x.n : Int)))) * 285870213051353865)).fdiv (2 ^ (min 58 IntKind.u64.bits)))) 0))), by kernel_rfl, Ale.of_eq ?_⟩
  focus ((refine congrArg (fun n => VI n) ?_; first | (have h0 : x.n = 0 := (by omega); rw [h0, tz, if_pos rfl]; rfl) | (have ht := tz_res (x := x.n) (by omega) x.lt; rw [ht.2]; have := tz_lt 64 x.n (by omega) (by simpa using x.lt); exact wr64 (by omega)) | trace_state))
abbrev abq15 (x : U64) : LS := [(5, .v (.int .u64 (x.n : Int))), (4, .v (.bool true)), (2, VI 0)]
abbrev abq16 (x : U64) : LS := [(9, .v (.int .u64 ((x.n / 4294967296 : Nat) : Int))), (8, .v (.bool true)), (2, VI 32)]
abbrev abq17 (x : U64) : LS := [(2, VI 48), (12, VI 48), (11, VI 32), (0, .v (.int .u64 (((x.n / 4294967296 : Nat) / 65536 : Nat) : Int)))]
abbrev abq18 (x : U64) : LS := [(15, .v (.int .u64 (((x.n / 4294967296 : Nat) / 65536 : Nat) : Int))), (14, .v (.bool true)), (2, VI 48)]
abbrev abq19 (x : U64) : LS := [(2, VI 56), (18, VI 56), (17, VI 48), (0, .v (.int .u64 ((((x.n / 4294967296 : Nat) / 65536 : Nat) / 256 : Nat) : Int)))]
abbrev abq20 (x : U64) : LS := (20, .v (.int .u64 ((((x.n / 4294967296 : Nat) / 65536 : Nat) / 256 : Nat) : Int))) :: (19, VI 56) :: (abq19 x)
abbrev abq21 (b9 : UInt8) (x : U64) : LS := (22, .v (.int .u8 (UInt8.toNat b9 : Int))) :: (21, .v (.int .u8 (((((x.n / 4294967296 : Nat) / 65536 : Nat) / 256 : Nat) : Int)))) :: (abq20 x)
abbrev abq22 (b9 : UInt8) (x : U64) : LS := [(22, .v (.int .u8 (UInt8.toNat b9 : Int))), (21, .v (.int .u8 (((((x.n / 4294967296 : Nat) / 65536 : Nat) / 256 : Nat) : Int)))), (20, .v (.int .u64 ((((x.n / 4294967296 : Nat) / 65536 : Nat) / 256 : Nat) : Int))), (19, VI 56), (18, VI 56), (17, VI 48), (0, .v (.int .u64 ((((x.n / 4294967296 : Nat) / 65536 : Nat) / 256 : Nat) : Int)))]
abbrev abq23 (x : U64) : LS := [(20, .v (.int .u64 (((x.n / 4294967296 : Nat) / 65536 : Nat) : Int))), (19, VI 48), (14, .v (.bool false)), (2, VI 48), (0, .v (.int .u64 (((x.n / 4294967296 : Nat) / 65536 : Nat) : Int)))]
abbrev abq24 (b14 : UInt8) (x : U64) : LS := (22, .v (.int .u8 (UInt8.toNat b14 : Int))) :: (21, .v (.int .u8 ((((x.n / 4294967296 : Nat) / 65536 : Nat) : Int)))) :: (abq23 x)
abbrev abq25 (b14 : UInt8) (x : U64) : LS := [(22, .v (.int .u8 (UInt8.toNat b14 : Int))), (21, .v (.int .u8 ((((x.n / 4294967296 : Nat) / 65536 : Nat) : Int)))), (20, .v (.int .u64 (((x.n / 4294967296 : Nat) / 65536 : Nat) : Int))), (19, VI 48), (14, .v (.bool false)), (0, .v (.int .u64 (((x.n / 4294967296 : Nat) / 65536 : Nat) : Int)))]
abbrev abq26 (x : U64) : LS := [(15, .v (.int .u64 ((x.n / 4294967296 : Nat) : Int))), (14, .v (.bool true)), (2, VI 32)]
abbrev abq27 (x : U64) : LS := [(2, VI 40), (18, VI 40), (17, VI 32), (0, .v (.int .u64 (((x.n / 4294967296 : Nat) / 256 : Nat) : Int)))]
abbrev abq28 (x : U64) : LS := (20, .v (.int .u64 (((x.n / 4294967296 : Nat) / 256 : Nat) : Int))) :: (19, VI 40) :: (abq27 x)
abbrev abq29 (b21 : UInt8) (x : U64) : LS := (22, .v (.int .u8 (UInt8.toNat b21 : Int))) :: (21, .v (.int .u8 ((((x.n / 4294967296 : Nat) / 256 : Nat) : Int)))) :: (abq28 x)
abbrev abq30 (b21 : UInt8) (x : U64) : LS := [(22, .v (.int .u8 (UInt8.toNat b21 : Int))), (21, .v (.int .u8 ((((x.n / 4294967296 : Nat) / 256 : Nat) : Int)))), (20, .v (.int .u64 (((x.n / 4294967296 : Nat) / 256 : Nat) : Int))), (19, VI 40), (18, VI 40), (17, VI 32), (0, .v (.int .u64 (((x.n / 4294967296 : Nat) / 256 : Nat) : Int)))]
abbrev abq31 (x : U64) : LS := [(20, .v (.int .u64 ((x.n / 4294967296 : Nat) : Int))), (19, VI 32), (14, .v (.bool false)), (2, VI 32), (0, .v (.int .u64 ((x.n / 4294967296 : Nat) : Int)))]
abbrev abq32 (b26 : UInt8) (x : U64) : LS := (22, .v (.int .u8 (UInt8.toNat b26 : Int))) :: (21, .v (.int .u8 (((x.n / 4294967296 : Nat) : Int)))) :: (abq31 x)
abbrev abq33 (b26 : UInt8) (x : U64) : LS := [(22, .v (.int .u8 (UInt8.toNat b26 : Int))), (21, .v (.int .u8 (((x.n / 4294967296 : Nat) : Int)))), (20, .v (.int .u64 ((x.n / 4294967296 : Nat) : Int))), (19, VI 32), (14, .v (.bool false)), (0, .v (.int .u64 ((x.n / 4294967296 : Nat) : Int)))]
abbrev abq34 (x : U64) : LS := [(9, .v (.int .u64 (x.n : Int))), (8, .v (.bool true)), (2, VI 0)]
abbrev abq35 (x : U64) : LS := [(2, VI 16), (12, VI 16), (11, VI 0), (0, .v (.int .u64 ((x.n / 65536 : Nat) : Int)))]
abbrev abq36 (x : U64) : LS := [(15, .v (.int .u64 ((x.n / 65536 : Nat) : Int))), (14, .v (.bool true)), (2, VI 16)]
abbrev abq37 (x : U64) : LS := [(2, VI 24), (18, VI 24), (17, VI 16), (0, .v (.int .u64 (((x.n / 65536 : Nat) / 256 : Nat) : Int)))]
abbrev abq38 (x : U64) : LS := (20, .v (.int .u64 (((x.n / 65536 : Nat) / 256 : Nat) : Int))) :: (19, VI 24) :: (abq37 x)
abbrev abq39 (b35 : UInt8) (x : U64) : LS := (22, .v (.int .u8 (UInt8.toNat b35 : Int))) :: (21, .v (.int .u8 ((((x.n / 65536 : Nat) / 256 : Nat) : Int)))) :: (abq38 x)
abbrev abq40 (b35 : UInt8) (x : U64) : LS := [(22, .v (.int .u8 (UInt8.toNat b35 : Int))), (21, .v (.int .u8 ((((x.n / 65536 : Nat) / 256 : Nat) : Int)))), (20, .v (.int .u64 (((x.n / 65536 : Nat) / 256 : Nat) : Int))), (19, VI 24), (18, VI 24), (17, VI 16), (0, .v (.int .u64 (((x.n / 65536 : Nat) / 256 : Nat) : Int)))]
abbrev abq41 (x : U64) : LS := [(20, .v (.int .u64 ((x.n / 65536 : Nat) : Int))), (19, VI 16), (14, .v (.bool false)), (2, VI 16), (0, .v (.int .u64 ((x.n / 65536 : Nat) : Int)))]
abbrev abq42 (b40 : UInt8) (x : U64) : LS := (22, .v (.int .u8 (UInt8.toNat b40 : Int))) :: (21, .v (.int .u8 (((x.n / 65536 : Nat) : Int)))) :: (abq41 x)
abbrev abq43 (b40 : UInt8) (x : U64) : LS := [(22, .v (.int .u8 (UInt8.toNat b40 : Int))), (21, .v (.int .u8 (((x.n / 65536 : Nat) : Int)))), (20, .v (.int .u64 ((x.n / 65536 : Nat) : Int))), (19, VI 16), (14, .v (.bool false)), (0, .v (.int .u64 ((x.n / 65536 : Nat) : Int)))]
abbrev abq44 (x : U64) : LS := [(15, .v (.int .u64 (x.n : Int))), (14, .v (.bool true)), (2, VI 0)]
abbrev abq45 (x : U64) : LS := [(2, VI 8), (18, VI 8), (17, VI 0), (0, .v (.int .u64 ((x.n / 256 : Nat) : Int)))]
abbrev abq46 (x : U64) : LS := (20, .v (.int .u64 ((x.n / 256 : Nat) : Int))) :: (19, VI 8) :: (abq45 x)
abbrev abq47 (b47 : UInt8) (x : U64) : LS := (22, .v (.int .u8 (UInt8.toNat b47 : Int))) :: (21, .v (.int .u8 (((x.n / 256 : Nat) : Int)))) :: (abq46 x)
abbrev abq48 (b47 : UInt8) (x : U64) : LS := [(22, .v (.int .u8 (UInt8.toNat b47 : Int))), (21, .v (.int .u8 (((x.n / 256 : Nat) : Int)))), (20, .v (.int .u64 ((x.n / 256 : Nat) : Int))), (19, VI 8), (18, VI 8), (17, VI 0), (0, .v (.int .u64 ((x.n / 256 : Nat) : Int)))]
abbrev abq49 (x : U64) : LS := [(20, .v (.int .u64 (x.n : Int))), (19, VI 0), (14, .v (.bool false)), (2, VI 0), (0, .v (.int .u64 (x.n : Int)))]
abbrev abq50 (b52 : UInt8) (x : U64) : LS := (22, .v (.int .u8 (UInt8.toNat b52 : Int))) :: (21, .v (.int .u8 ((x.n : Int)))) :: (abq49 x)
abbrev abq51 (b52 : UInt8) (x : U64) : LS := [(22, .v (.int .u8 (UInt8.toNat b52 : Int))), (21, .v (.int .u8 ((x.n : Int)))), (20, .v (.int .u64 (x.n : Int))), (19, VI 0), (14, .v (.bool false)), (0, .v (.int .u64 (x.n : Int)))]
theorem len64_fn (x : U64) : Fn Tryd.prog 35 [.v (.int .u64 (x.n : Int))] (VI (len64 x.n : Int)) := by
  have hlt := x.lt
  have hz : l8s.size = 256 := rfl
  refine fn_walkW F35_ok (of_decide_eq_true (by kernel_rfl)) ?_
  refine EL.sreg ?_
  refine OW.last 1 [0, 2] (x' := ⟨[(2, VI 0), (0, .v (.int .u64 (x.n : Int)))], []⟩) (by kernel_rfl) (by kernel_rfl) ?_
  refine EL.seq ?_
  refine EL.sreg ?_
  refine OW.last 2 [0, 2, 4] (x' := ⟨[(4, .v (.bool (decide ((x.n : Int) ≥ 4294967296)))), (2, VI 0), (0, .v (.int .u64 (x.n : Int)))], []⟩) (by kernel_rfl) (by kernel_rfl) ?_
  rcases Bool.eq_false_or_eq_true (decide ((x.n : Int) ≥ 4294967296)) with h1 | h1
  rw [h1]
  have g1 : ((x.n : Int) ≥ 4294967296) := of_decide_eq_true h1
  refine EL.condT (by kernel_rfl) ?_
  refine EL.sreg ?_
  refine OW.run 3 (x' := ⟨(0, .v (.int .u64 (((x.n : Int)).fdiv (2 ^ (min 32 IntKind.u64.bits))))) :: (6, .v (.int .u64 (((x.n : Int)).fdiv (2 ^ (min 32 IntKind.u64.bits))))) :: (abq15 x), []⟩) (by kernel_rfl) ?_
  have e2 : ((x.n : Int)).fdiv (2 ^ (min 32 IntKind.u64.bits)) = ((x.n / 4294967296 : Nat) : Int) := fdn32 (by omega)
  rw [e2]
  refine OW.last 0 [0] (x' := ⟨[(0, .v (.int .u64 ((x.n / 4294967296 : Nat) : Int)))], []⟩) (by kernel_rfl) (by kernel_rfl) ?_
  refine EL.reg0 ?_
  refine OW.end 1 (x' := ⟨[(2, VI 32), (0, .v (.int .u64 ((x.n / 4294967296 : Nat) : Int)))], []⟩) (by kernel_rfl) (by kernel_rfl) ?_
  refine thenL_norm ?_
  refine EL.seq ?_
  refine EL.sreg ?_
  refine OW.last 2 [0, 2, 8] (x' := ⟨[(8, .v (.bool (decide (((x.n / 4294967296 : Nat) : Int) ≥ 65536)))), (2, VI 32), (0, .v (.int .u64 ((x.n / 4294967296 : Nat) : Int)))], []⟩) (by kernel_rfl) (by kernel_rfl) ?_
  rcases Bool.eq_false_or_eq_true (decide (((x.n / 4294967296 : Nat) : Int) ≥ 65536)) with h3 | h3
  rw [h3]
  have g3 : (((x.n / 4294967296 : Nat) : Int) ≥ 65536) := of_decide_eq_true h3
  refine EL.condT (by kernel_rfl) ?_
  refine EL.sreg ?_
  refine OW.run 3 (x' := ⟨(0, .v (.int .u64 ((((x.n / 4294967296 : Nat) : Int)).fdiv (2 ^ (min 16 IntKind.u64.bits))))) :: (10, .v (.int .u64 ((((x.n / 4294967296 : Nat) : Int)).fdiv (2 ^ (min 16 IntKind.u64.bits))))) :: (abq16 x), []⟩) (by kernel_rfl) ?_
  have e4 : (((x.n / 4294967296 : Nat) : Int)).fdiv (2 ^ (min 16 IntKind.u64.bits)) = (((x.n / 4294967296 : Nat) / 65536 : Nat) : Int) := fdn16 (by omega)
  rw [e4]
  refine OW.last 0 [0, 2] (x' := ⟨[(0, .v (.int .u64 (((x.n / 4294967296 : Nat) / 65536 : Nat) : Int))), (2, VI 32)], []⟩) (by kernel_rfl) (by kernel_rfl) ?_
  refine EL.reg0 ?_
  refine OW.end 3 (x' := ⟨(abq17 x), []⟩) (by kernel_rfl) (by kernel_rfl) ?_
  refine thenL_norm ?_
  refine EL.seq ?_
  refine EL.sreg ?_
  refine OW.last 2 [0, 2, 14] (x' := ⟨[(14, .v (.bool (decide ((((x.n / 4294967296 : Nat) / 65536 : Nat) : Int) ≥ 256)))), (2, VI 48), (0, .v (.int .u64 (((x.n / 4294967296 : Nat) / 65536 : Nat) : Int)))], []⟩) (by kernel_rfl) (by kernel_rfl) ?_
  rcases Bool.eq_false_or_eq_true (decide ((((x.n / 4294967296 : Nat) / 65536 : Nat) : Int) ≥ 256)) with h5 | h5
  rw [h5]
  have g5 : ((((x.n / 4294967296 : Nat) / 65536 : Nat) : Int) ≥ 256) := of_decide_eq_true h5
  refine EL.condT (by kernel_rfl) ?_
  refine EL.sreg ?_
  refine OW.run 3 (x' := ⟨(0, .v (.int .u64 (((((x.n / 4294967296 : Nat) / 65536 : Nat) : Int)).fdiv (2 ^ (min 8 IntKind.u64.bits))))) :: (16, .v (.int .u64 (((((x.n / 4294967296 : Nat) / 65536 : Nat) : Int)).fdiv (2 ^ (min 8 IntKind.u64.bits))))) :: (abq18 x), []⟩) (by kernel_rfl) ?_
  have e6 : ((((x.n / 4294967296 : Nat) / 65536 : Nat) : Int)).fdiv (2 ^ (min 8 IntKind.u64.bits)) = ((((x.n / 4294967296 : Nat) / 65536 : Nat) / 256 : Nat) : Int) := fdn8 (by omega)
  rw [e6]
  refine OW.last 0 [0, 2] (x' := ⟨[(0, .v (.int .u64 ((((x.n / 4294967296 : Nat) / 65536 : Nat) / 256 : Nat) : Int))), (2, VI 48)], []⟩) (by kernel_rfl) (by kernel_rfl) ?_
  refine EL.reg0 ?_
  refine OW.end 3 (x' := ⟨(abq19 x), []⟩) (by kernel_rfl) (by kernel_rfl) ?_
  refine thenL_norm ?_
  refine EL.sreg ?_
  refine OW.run 3 (x' := ⟨(21, .v (.int .u8 (IntKind.u8.wrap (((((x.n / 4294967296 : Nat) / 65536 : Nat) / 256 : Nat) : Int))))) :: (abq20 x), []⟩) (by kernel_rfl) ?_
  have e8 : IntKind.u8.wrap (((((x.n / 4294967296 : Nat) / 65536 : Nat) / 256 : Nat) : Int)) = ((((x.n / 4294967296 : Nat) / 65536 : Nat) / 256 : Nat) : Int) := wr8 (by omega)
  rw [e8]
  obtain ⟨b9, hb9⟩ : ∃ b, l8s[Int.toNat (((((x.n / 4294967296 : Nat) / 65536 : Nat) / 256 : Nat) : Int))]? = some b := six_ex ⟨by omega, by omega⟩
  have qb9 := UInt8.toNat_lt b9
  refine OW.ope (v := .v (.int .u8 (UInt8.toNat b9 : Int))) (u := []) (acc := []) (x' := ⟨(abq21 b9 x), []⟩) (by kernel_rfl) (opE_six l8s (.c (.v (.string l8s))) (.s 21) .u8 (((((x.n / 4294967296 : Nat) / 65536 : Nat) / 256 : Nat) : Int)) b9 (by kernel_rfl) (by kernel_rfl) (by kernel_rfl) (by kernel_rfl) (by omega) hb9) (by kernel_rfl) ?_
  refine OW.run 3 (x' := ⟨(2, VI (IntKind.i64.wrap (56 + (IntKind.i64.wrap ((UInt8.toNat b9 : Int)))))) :: (24, VI (IntKind.i64.wrap (56 + (IntKind.i64.wrap ((UInt8.toNat b9 : Int)))))) :: (23, VI (IntKind.i64.wrap ((UInt8.toNat b9 : Int)))) :: (abq22 b9 x), []⟩) (by kernel_rfl) ?_
  have e10 : IntKind.i64.wrap ((UInt8.toNat b9 : Int)) = (UInt8.toNat b9 : Int) := wr64 (by omega)
  rw [e10]
  have e11 : IntKind.i64.wrap (56 + ((UInt8.toNat b9 : Int))) = 56 + ((UInt8.toNat b9 : Int)) := wr64 (by omega)
  rw [e11]
  refine OW.last 0 [2] (x' := ⟨[(2, VI (56 + ((UInt8.toNat b9 : Int))))], []⟩) (by kernel_rfl) (by kernel_rfl) ?_
  refine EL.ret ?_
  refine ⟨.inr rfl, VI (56 + ((UInt8.toNat b9 : Int))), by kernel_rfl, Ale.of_eq ?_⟩
  focus ((refine congrArg (fun n => VI n) ?_; have hlt := x.lt; first | (have h0 := len64_32 (n := x.n) (by omega); have h1 := len64_16 (n := x.n / 4294967296) (by omega); have h2 := len64_s8 (n := x.n / 4294967296 / 65536) (by omega);  have hl := len64_b (n := x.n / 4294967296 / 65536 / 256) (by omega) rfl (by assumption); omega) | (have h0 := len64_32 (n := x.n) (by omega); have h1 := len64_16 (n := x.n / 4294967296) (by omega);  have hl := len64_b (n := x.n / 4294967296 / 65536) (by omega) rfl (by assumption); omega) | (have h0 := len64_32 (n := x.n) (by omega); have h1 := len64_s8 (n := x.n / 4294967296) (by omega);  have hl := len64_b (n := x.n / 4294967296 / 256) (by omega) rfl (by assumption); omega) | (have h0 := len64_32 (n := x.n) (by omega);  have hl := len64_b (n := x.n / 4294967296) (by omega) rfl (by assumption); omega) | (have h0 := len64_16 (n := x.n) (by omega); have h1 := len64_s8 (n := x.n / 65536) (by omega);  have hl := len64_b (n := x.n / 65536 / 256) (by omega) rfl (by assumption); omega) | (have h0 := len64_16 (n := x.n) (by omega);  have hl := len64_b (n := x.n / 65536) (by omega) rfl (by assumption); omega) | (have h0 := len64_s8 (n := x.n) (by omega);  have hl := len64_b (n := x.n / 256) (by omega) rfl (by assumption); omega) | ( have hl := len64_b (n := x.n) (by omega) rfl (by assumption); omega) | trace_state))
  rw [h5]
  have g5 : ¬ ((((x.n / 4294967296 : Nat) / 65536 : Nat) : Int) ≥ 256) := of_decide_eq_false h5
  refine EL.condF (by kernel_rfl) ?_
  refine EL.skip ?_
  refine thenL_norm ?_
  refine EL.sreg ?_
  refine OW.run 3 (x' := ⟨(21, .v (.int .u8 (IntKind.u8.wrap ((((x.n / 4294967296 : Nat) / 65536 : Nat) : Int))))) :: (abq23 x), []⟩) (by kernel_rfl) ?_
  have e13 : IntKind.u8.wrap ((((x.n / 4294967296 : Nat) / 65536 : Nat) : Int)) = (((x.n / 4294967296 : Nat) / 65536 : Nat) : Int) := wr8 (by omega)
  rw [e13]
  obtain ⟨b14, hb14⟩ : ∃ b, l8s[Int.toNat ((((x.n / 4294967296 : Nat) / 65536 : Nat) : Int))]? = some b := six_ex ⟨by omega, by omega⟩
  have qb14 := UInt8.toNat_lt b14
  refine OW.ope (v := .v (.int .u8 (UInt8.toNat b14 : Int))) (u := []) (acc := []) (x' := ⟨(abq24 b14 x), []⟩) (by kernel_rfl) (opE_six l8s (.c (.v (.string l8s))) (.s 21) .u8 ((((x.n / 4294967296 : Nat) / 65536 : Nat) : Int)) b14 (by kernel_rfl) (by kernel_rfl) (by kernel_rfl) (by kernel_rfl) (by omega) hb14) (by kernel_rfl) ?_
  refine OW.run 3 (x' := ⟨(2, VI (IntKind.i64.wrap (48 + (IntKind.i64.wrap ((UInt8.toNat b14 : Int)))))) :: (24, VI (IntKind.i64.wrap (48 + (IntKind.i64.wrap ((UInt8.toNat b14 : Int)))))) :: (23, VI (IntKind.i64.wrap ((UInt8.toNat b14 : Int)))) :: (abq25 b14 x), []⟩) (by kernel_rfl) ?_
  have e15 : IntKind.i64.wrap ((UInt8.toNat b14 : Int)) = (UInt8.toNat b14 : Int) := wr64 (by omega)
  rw [e15]
  have e16 : IntKind.i64.wrap (48 + ((UInt8.toNat b14 : Int))) = 48 + ((UInt8.toNat b14 : Int)) := wr64 (by omega)
  rw [e16]
  refine OW.last 0 [2] (x' := ⟨[(2, VI (48 + ((UInt8.toNat b14 : Int))))], []⟩) (by kernel_rfl) (by kernel_rfl) ?_
  refine EL.ret ?_
  refine ⟨.inr rfl, VI (48 + ((UInt8.toNat b14 : Int))), by kernel_rfl, Ale.of_eq ?_⟩
  focus ((refine congrArg (fun n => VI n) ?_; have hlt := x.lt; first | (have h0 := len64_32 (n := x.n) (by omega); have h1 := len64_16 (n := x.n / 4294967296) (by omega); have h2 := len64_s8 (n := x.n / 4294967296 / 65536) (by omega);  have hl := len64_b (n := x.n / 4294967296 / 65536 / 256) (by omega) rfl (by assumption); omega) | (have h0 := len64_32 (n := x.n) (by omega); have h1 := len64_16 (n := x.n / 4294967296) (by omega);  have hl := len64_b (n := x.n / 4294967296 / 65536) (by omega) rfl (by assumption); omega) | (have h0 := len64_32 (n := x.n) (by omega); have h1 := len64_s8 (n := x.n / 4294967296) (by omega);  have hl := len64_b (n := x.n / 4294967296 / 256) (by omega) rfl (by assumption); omega) | (have h0 := len64_32 (n := x.n) (by omega);  have hl := len64_b (n := x.n / 4294967296) (by omega) rfl (by assumption); omega) | (have h0 := len64_16 (n := x.n) (by omega); have h1 := len64_s8 (n := x.n / 65536) (by omega);  have hl := len64_b (n := x.n / 65536 / 256) (by omega) rfl (by assumption); omega) | (have h0 := len64_16 (n := x.n) (by omega);  have hl := len64_b (n := x.n / 65536) (by omega) rfl (by assumption); omega) | (have h0 := len64_s8 (n := x.n) (by omega);  have hl := len64_b (n := x.n / 256) (by omega) rfl (by assumption); omega) | ( have hl := len64_b (n := x.n) (by omega) rfl (by assumption); omega) | trace_state))
  rw [h3]
  have g3 : ¬ (((x.n / 4294967296 : Nat) : Int) ≥ 65536) := of_decide_eq_false h3
  refine EL.condF (by kernel_rfl) ?_
  refine EL.skip ?_
  refine thenL_norm ?_
  refine EL.seq ?_
  refine EL.sreg ?_
  refine OW.last 2 [0, 2, 14] (x' := ⟨[(14, .v (.bool (decide (((x.n / 4294967296 : Nat) : Int) ≥ 256)))), (2, VI 32), (0, .v (.int .u64 ((x.n / 4294967296 : Nat) : Int)))], []⟩) (by kernel_rfl) (by kernel_rfl) ?_
  rcases Bool.eq_false_or_eq_true (decide (((x.n / 4294967296 : Nat) : Int) ≥ 256)) with h17 | h17
  rw [h17]
  have g17 : (((x.n / 4294967296 : Nat) : Int) ≥ 256) := of_decide_eq_true h17
  refine EL.condT (by kernel_rfl) ?_
  refine EL.sreg ?_
  refine OW.run 3 (x' := ⟨(0, .v (.int .u64 ((((x.n / 4294967296 : Nat) : Int)).fdiv (2 ^ (min 8 IntKind.u64.bits))))) :: (16, .v (.int .u64 ((((x.n / 4294967296 : Nat) : Int)).fdiv (2 ^ (min 8 IntKind.u64.bits))))) :: (abq26 x), []⟩) (by kernel_rfl) ?_
  have e18 : (((x.n / 4294967296 : Nat) : Int)).fdiv (2 ^ (min 8 IntKind.u64.bits)) = (((x.n / 4294967296 : Nat) / 256 : Nat) : Int) := fdn8 (by omega)
  rw [e18]
  refine OW.last 0 [0, 2] (x' := ⟨[(0, .v (.int .u64 (((x.n / 4294967296 : Nat) / 256 : Nat) : Int))), (2, VI 32)], []⟩) (by kernel_rfl) (by kernel_rfl) ?_
  refine EL.reg0 ?_
  refine OW.end 3 (x' := ⟨(abq27 x), []⟩) (by kernel_rfl) (by kernel_rfl) ?_
  refine thenL_norm ?_
  refine EL.sreg ?_
  refine OW.run 3 (x' := ⟨(21, .v (.int .u8 (IntKind.u8.wrap ((((x.n / 4294967296 : Nat) / 256 : Nat) : Int))))) :: (abq28 x), []⟩) (by kernel_rfl) ?_
  have e20 : IntKind.u8.wrap ((((x.n / 4294967296 : Nat) / 256 : Nat) : Int)) = (((x.n / 4294967296 : Nat) / 256 : Nat) : Int) := wr8 (by omega)
  rw [e20]
  obtain ⟨b21, hb21⟩ : ∃ b, l8s[Int.toNat ((((x.n / 4294967296 : Nat) / 256 : Nat) : Int))]? = some b := six_ex ⟨by omega, by omega⟩
  have qb21 := UInt8.toNat_lt b21
  refine OW.ope (v := .v (.int .u8 (UInt8.toNat b21 : Int))) (u := []) (acc := []) (x' := ⟨(abq29 b21 x), []⟩) (by kernel_rfl) (opE_six l8s (.c (.v (.string l8s))) (.s 21) .u8 ((((x.n / 4294967296 : Nat) / 256 : Nat) : Int)) b21 (by kernel_rfl) (by kernel_rfl) (by kernel_rfl) (by kernel_rfl) (by omega) hb21) (by kernel_rfl) ?_
  refine OW.run 3 (x' := ⟨(2, VI (IntKind.i64.wrap (40 + (IntKind.i64.wrap ((UInt8.toNat b21 : Int)))))) :: (24, VI (IntKind.i64.wrap (40 + (IntKind.i64.wrap ((UInt8.toNat b21 : Int)))))) :: (23, VI (IntKind.i64.wrap ((UInt8.toNat b21 : Int)))) :: (abq30 b21 x), []⟩) (by kernel_rfl) ?_
  have e22 : IntKind.i64.wrap ((UInt8.toNat b21 : Int)) = (UInt8.toNat b21 : Int) := wr64 (by omega)
  rw [e22]
  have e23 : IntKind.i64.wrap (40 + ((UInt8.toNat b21 : Int))) = 40 + ((UInt8.toNat b21 : Int)) := wr64 (by omega)
  rw [e23]
  refine OW.last 0 [2] (x' := ⟨[(2, VI (40 + ((UInt8.toNat b21 : Int))))], []⟩) (by kernel_rfl) (by kernel_rfl) ?_
  refine EL.ret ?_
  refine ⟨.inr rfl, VI (40 + ((UInt8.toNat b21 : Int))), by kernel_rfl, Ale.of_eq ?_⟩
  focus ((refine congrArg (fun n => VI n) ?_; have hlt := x.lt; first | (have h0 := len64_32 (n := x.n) (by omega); have h1 := len64_16 (n := x.n / 4294967296) (by omega); have h2 := len64_s8 (n := x.n / 4294967296 / 65536) (by omega);  have hl := len64_b (n := x.n / 4294967296 / 65536 / 256) (by omega) rfl (by assumption); omega) | (have h0 := len64_32 (n := x.n) (by omega); have h1 := len64_16 (n := x.n / 4294967296) (by omega);  have hl := len64_b (n := x.n / 4294967296 / 65536) (by omega) rfl (by assumption); omega) | (have h0 := len64_32 (n := x.n) (by omega); have h1 := len64_s8 (n := x.n / 4294967296) (by omega);  have hl := len64_b (n := x.n / 4294967296 / 256) (by omega) rfl (by assumption); omega) | (have h0 := len64_32 (n := x.n) (by omega);  have hl := len64_b (n := x.n / 4294967296) (by omega) rfl (by assumption); omega) | (have h0 := len64_16 (n := x.n) (by omega); have h1 := len64_s8 (n := x.n / 65536) (by omega);  have hl := len64_b (n := x.n / 65536 / 256) (by omega) rfl (by assumption); omega) | (have h0 := len64_16 (n := x.n) (by omega);  have hl := len64_b (n := x.n / 65536) (by omega) rfl (by assumption); omega) | (have h0 := len64_s8 (n := x.n) (by omega);  have hl := len64_b (n := x.n / 256) (by omega) rfl (by assumption); omega) | ( have hl := len64_b (n := x.n) (by omega) rfl (by assumption); omega) | trace_state))
  rw [h17]
  have g17 : ¬ (((x.n / 4294967296 : Nat) : Int) ≥ 256) := of_decide_eq_false h17
  refine EL.condF (by kernel_rfl) ?_
  refine EL.skip ?_
  refine thenL_norm ?_
  refine EL.sreg ?_
  refine OW.run 3 (x' := ⟨(21, .v (.int .u8 (IntKind.u8.wrap (((x.n / 4294967296 : Nat) : Int))))) :: (abq31 x), []⟩) (by kernel_rfl) ?_
  have e25 : IntKind.u8.wrap (((x.n / 4294967296 : Nat) : Int)) = ((x.n / 4294967296 : Nat) : Int) := wr8 (by omega)
  rw [e25]
  obtain ⟨b26, hb26⟩ : ∃ b, l8s[Int.toNat (((x.n / 4294967296 : Nat) : Int))]? = some b := six_ex ⟨by omega, by omega⟩
  have qb26 := UInt8.toNat_lt b26
  refine OW.ope (v := .v (.int .u8 (UInt8.toNat b26 : Int))) (u := []) (acc := []) (x' := ⟨(abq32 b26 x), []⟩) (by kernel_rfl) (opE_six l8s (.c (.v (.string l8s))) (.s 21) .u8 (((x.n / 4294967296 : Nat) : Int)) b26 (by kernel_rfl) (by kernel_rfl) (by kernel_rfl) (by kernel_rfl) (by omega) hb26) (by kernel_rfl) ?_
  refine OW.run 3 (x' := ⟨(2, VI (IntKind.i64.wrap (32 + (IntKind.i64.wrap ((UInt8.toNat b26 : Int)))))) :: (24, VI (IntKind.i64.wrap (32 + (IntKind.i64.wrap ((UInt8.toNat b26 : Int)))))) :: (23, VI (IntKind.i64.wrap ((UInt8.toNat b26 : Int)))) :: (abq33 b26 x), []⟩) (by kernel_rfl) ?_
  have e27 : IntKind.i64.wrap ((UInt8.toNat b26 : Int)) = (UInt8.toNat b26 : Int) := wr64 (by omega)
  rw [e27]
  have e28 : IntKind.i64.wrap (32 + ((UInt8.toNat b26 : Int))) = 32 + ((UInt8.toNat b26 : Int)) := wr64 (by omega)
  rw [e28]
  refine OW.last 0 [2] (x' := ⟨[(2, VI (32 + ((UInt8.toNat b26 : Int))))], []⟩) (by kernel_rfl) (by kernel_rfl) ?_
  refine EL.ret ?_
  refine ⟨.inr rfl, VI (32 + ((UInt8.toNat b26 : Int))), by kernel_rfl, Ale.of_eq ?_⟩
  focus ((refine congrArg (fun n => VI n) ?_; have hlt := x.lt; first | (have h0 := len64_32 (n := x.n) (by omega); have h1 := len64_16 (n := x.n / 4294967296) (by omega); have h2 := len64_s8 (n := x.n / 4294967296 / 65536) (by omega);  have hl := len64_b (n := x.n / 4294967296 / 65536 / 256) (by omega) rfl (by assumption); omega) | (have h0 := len64_32 (n := x.n) (by omega); have h1 := len64_16 (n := x.n / 4294967296) (by omega);  have hl := len64_b (n := x.n / 4294967296 / 65536) (by omega) rfl (by assumption); omega) | (have h0 := len64_32 (n := x.n) (by omega); have h1 := len64_s8 (n := x.n / 4294967296) (by omega);  have hl := len64_b (n := x.n / 4294967296 / 256) (by omega) rfl (by assumption); omega) | (have h0 := len64_32 (n := x.n) (by omega);  have hl := len64_b (n := x.n / 4294967296) (by omega) rfl (by assumption); omega) | (have h0 := len64_16 (n := x.n) (by omega); have h1 := len64_s8 (n := x.n / 65536) (by omega);  have hl := len64_b (n := x.n / 65536 / 256) (by omega) rfl (by assumption); omega) | (have h0 := len64_16 (n := x.n) (by omega);  have hl := len64_b (n := x.n / 65536) (by omega) rfl (by assumption); omega) | (have h0 := len64_s8 (n := x.n) (by omega);  have hl := len64_b (n := x.n / 256) (by omega) rfl (by assumption); omega) | ( have hl := len64_b (n := x.n) (by omega) rfl (by assumption); omega) | trace_state))
  rw [h1]
  have g1 : ¬ ((x.n : Int) ≥ 4294967296) := of_decide_eq_false h1
  refine EL.condF (by kernel_rfl) ?_
  refine EL.skip ?_
  refine thenL_norm ?_
  refine EL.seq ?_
  refine EL.sreg ?_
  refine OW.last 2 [0, 2, 8] (x' := ⟨[(8, .v (.bool (decide ((x.n : Int) ≥ 65536)))), (2, VI 0), (0, .v (.int .u64 (x.n : Int)))], []⟩) (by kernel_rfl) (by kernel_rfl) ?_
  rcases Bool.eq_false_or_eq_true (decide ((x.n : Int) ≥ 65536)) with h29 | h29
  rw [h29]
  have g29 : ((x.n : Int) ≥ 65536) := of_decide_eq_true h29
  refine EL.condT (by kernel_rfl) ?_
  refine EL.sreg ?_
  refine OW.run 3 (x' := ⟨(0, .v (.int .u64 (((x.n : Int)).fdiv (2 ^ (min 16 IntKind.u64.bits))))) :: (10, .v (.int .u64 (((x.n : Int)).fdiv (2 ^ (min 16 IntKind.u64.bits))))) :: (abq34 x), []⟩) (by kernel_rfl) ?_
  have e30 : ((x.n : Int)).fdiv (2 ^ (min 16 IntKind.u64.bits)) = ((x.n / 65536 : Nat) : Int) := fdn16 (by omega)
  rw [e30]
  refine OW.last 0 [0, 2] (x' := ⟨[(0, .v (.int .u64 ((x.n / 65536 : Nat) : Int))), (2, VI 0)], []⟩) (by kernel_rfl) (by kernel_rfl) ?_
  refine EL.reg0 ?_
  refine OW.end 3 (x' := ⟨(abq35 x), []⟩) (by kernel_rfl) (by kernel_rfl) ?_
  refine thenL_norm ?_
  refine EL.seq ?_
  refine EL.sreg ?_
  refine OW.last 2 [0, 2, 14] (x' := ⟨[(14, .v (.bool (decide (((x.n / 65536 : Nat) : Int) ≥ 256)))), (2, VI 16), (0, .v (.int .u64 ((x.n / 65536 : Nat) : Int)))], []⟩) (by kernel_rfl) (by kernel_rfl) ?_
  rcases Bool.eq_false_or_eq_true (decide (((x.n / 65536 : Nat) : Int) ≥ 256)) with h31 | h31
  rw [h31]
  have g31 : (((x.n / 65536 : Nat) : Int) ≥ 256) := of_decide_eq_true h31
  refine EL.condT (by kernel_rfl) ?_
  refine EL.sreg ?_
  refine OW.run 3 (x' := ⟨(0, .v (.int .u64 ((((x.n / 65536 : Nat) : Int)).fdiv (2 ^ (min 8 IntKind.u64.bits))))) :: (16, .v (.int .u64 ((((x.n / 65536 : Nat) : Int)).fdiv (2 ^ (min 8 IntKind.u64.bits))))) :: (abq36 x), []⟩) (by kernel_rfl) ?_
  have e32 : (((x.n / 65536 : Nat) : Int)).fdiv (2 ^ (min 8 IntKind.u64.bits)) = (((x.n / 65536 : Nat) / 256 : Nat) : Int) := fdn8 (by omega)
  rw [e32]
  refine OW.last 0 [0, 2] (x' := ⟨[(0, .v (.int .u64 (((x.n / 65536 : Nat) / 256 : Nat) : Int))), (2, VI 16)], []⟩) (by kernel_rfl) (by kernel_rfl) ?_
  refine EL.reg0 ?_
  refine OW.end 3 (x' := ⟨(abq37 x), []⟩) (by kernel_rfl) (by kernel_rfl) ?_
  refine thenL_norm ?_
  refine EL.sreg ?_
  refine OW.run 3 (x' := ⟨(21, .v (.int .u8 (IntKind.u8.wrap ((((x.n / 65536 : Nat) / 256 : Nat) : Int))))) :: (abq38 x), []⟩) (by kernel_rfl) ?_
  have e34 : IntKind.u8.wrap ((((x.n / 65536 : Nat) / 256 : Nat) : Int)) = (((x.n / 65536 : Nat) / 256 : Nat) : Int) := wr8 (by omega)
  rw [e34]
  obtain ⟨b35, hb35⟩ : ∃ b, l8s[Int.toNat ((((x.n / 65536 : Nat) / 256 : Nat) : Int))]? = some b := six_ex ⟨by omega, by omega⟩
  have qb35 := UInt8.toNat_lt b35
  refine OW.ope (v := .v (.int .u8 (UInt8.toNat b35 : Int))) (u := []) (acc := []) (x' := ⟨(abq39 b35 x), []⟩) (by kernel_rfl) (opE_six l8s (.c (.v (.string l8s))) (.s 21) .u8 ((((x.n / 65536 : Nat) / 256 : Nat) : Int)) b35 (by kernel_rfl) (by kernel_rfl) (by kernel_rfl) (by kernel_rfl) (by omega) hb35) (by kernel_rfl) ?_
  refine OW.run 3 (x' := ⟨(2, VI (IntKind.i64.wrap (24 + (IntKind.i64.wrap ((UInt8.toNat b35 : Int)))))) :: (24, VI (IntKind.i64.wrap (24 + (IntKind.i64.wrap ((UInt8.toNat b35 : Int)))))) :: (23, VI (IntKind.i64.wrap ((UInt8.toNat b35 : Int)))) :: (abq40 b35 x), []⟩) (by kernel_rfl) ?_
  have e36 : IntKind.i64.wrap ((UInt8.toNat b35 : Int)) = (UInt8.toNat b35 : Int) := wr64 (by omega)
  rw [e36]
  have e37 : IntKind.i64.wrap (24 + ((UInt8.toNat b35 : Int))) = 24 + ((UInt8.toNat b35 : Int)) := wr64 (by omega)
  rw [e37]
  refine OW.last 0 [2] (x' := ⟨[(2, VI (24 + ((UInt8.toNat b35 : Int))))], []⟩) (by kernel_rfl) (by kernel_rfl) ?_
  refine EL.ret ?_
  refine ⟨.inr rfl, VI (24 + ((UInt8.toNat b35 : Int))), by kernel_rfl, Ale.of_eq ?_⟩
  focus ((refine congrArg (fun n => VI n) ?_; have hlt := x.lt; first | (have h0 := len64_32 (n := x.n) (by omega); have h1 := len64_16 (n := x.n / 4294967296) (by omega); have h2 := len64_s8 (n := x.n / 4294967296 / 65536) (by omega);  have hl := len64_b (n := x.n / 4294967296 / 65536 / 256) (by omega) rfl (by assumption); omega) | (have h0 := len64_32 (n := x.n) (by omega); have h1 := len64_16 (n := x.n / 4294967296) (by omega);  have hl := len64_b (n := x.n / 4294967296 / 65536) (by omega) rfl (by assumption); omega) | (have h0 := len64_32 (n := x.n) (by omega); have h1 := len64_s8 (n := x.n / 4294967296) (by omega);  have hl := len64_b (n := x.n / 4294967296 / 256) (by omega) rfl (by assumption); omega) | (have h0 := len64_32 (n := x.n) (by omega);  have hl := len64_b (n := x.n / 4294967296) (by omega) rfl (by assumption); omega) | (have h0 := len64_16 (n := x.n) (by omega); have h1 := len64_s8 (n := x.n / 65536) (by omega);  have hl := len64_b (n := x.n / 65536 / 256) (by omega) rfl (by assumption); omega) | (have h0 := len64_16 (n := x.n) (by omega);  have hl := len64_b (n := x.n / 65536) (by omega) rfl (by assumption); omega) | (have h0 := len64_s8 (n := x.n) (by omega);  have hl := len64_b (n := x.n / 256) (by omega) rfl (by assumption); omega) | ( have hl := len64_b (n := x.n) (by omega) rfl (by assumption); omega) | trace_state))
  rw [h31]
  have g31 : ¬ (((x.n / 65536 : Nat) : Int) ≥ 256) := of_decide_eq_false h31
  refine EL.condF (by kernel_rfl) ?_
  refine EL.skip ?_
  refine thenL_norm ?_
  refine EL.sreg ?_
  refine OW.run 3 (x' := ⟨(21, .v (.int .u8 (IntKind.u8.wrap (((x.n / 65536 : Nat) : Int))))) :: (abq41 x), []⟩) (by kernel_rfl) ?_
  have e39 : IntKind.u8.wrap (((x.n / 65536 : Nat) : Int)) = ((x.n / 65536 : Nat) : Int) := wr8 (by omega)
  rw [e39]
  obtain ⟨b40, hb40⟩ : ∃ b, l8s[Int.toNat (((x.n / 65536 : Nat) : Int))]? = some b := six_ex ⟨by omega, by omega⟩
  have qb40 := UInt8.toNat_lt b40
  refine OW.ope (v := .v (.int .u8 (UInt8.toNat b40 : Int))) (u := []) (acc := []) (x' := ⟨(abq42 b40 x), []⟩) (by kernel_rfl) (opE_six l8s (.c (.v (.string l8s))) (.s 21) .u8 (((x.n / 65536 : Nat) : Int)) b40 (by kernel_rfl) (by kernel_rfl) (by kernel_rfl) (by kernel_rfl) (by omega) hb40) (by kernel_rfl) ?_
  refine OW.run 3 (x' := ⟨(2, VI (IntKind.i64.wrap (16 + (IntKind.i64.wrap ((UInt8.toNat b40 : Int)))))) :: (24, VI (IntKind.i64.wrap (16 + (IntKind.i64.wrap ((UInt8.toNat b40 : Int)))))) :: (23, VI (IntKind.i64.wrap ((UInt8.toNat b40 : Int)))) :: (abq43 b40 x), []⟩) (by kernel_rfl) ?_
  have e41 : IntKind.i64.wrap ((UInt8.toNat b40 : Int)) = (UInt8.toNat b40 : Int) := wr64 (by omega)
  rw [e41]
  have e42 : IntKind.i64.wrap (16 + ((UInt8.toNat b40 : Int))) = 16 + ((UInt8.toNat b40 : Int)) := wr64 (by omega)
  rw [e42]
  refine OW.last 0 [2] (x' := ⟨[(2, VI (16 + ((UInt8.toNat b40 : Int))))], []⟩) (by kernel_rfl) (by kernel_rfl) ?_
  refine EL.ret ?_
  refine ⟨.inr rfl, VI (16 + ((UInt8.toNat b40 : Int))), by kernel_rfl, Ale.of_eq ?_⟩
  focus ((refine congrArg (fun n => VI n) ?_; have hlt := x.lt; first | (have h0 := len64_32 (n := x.n) (by omega); have h1 := len64_16 (n := x.n / 4294967296) (by omega); have h2 := len64_s8 (n := x.n / 4294967296 / 65536) (by omega);  have hl := len64_b (n := x.n / 4294967296 / 65536 / 256) (by omega) rfl (by assumption); omega) | (have h0 := len64_32 (n := x.n) (by omega); have h1 := len64_16 (n := x.n / 4294967296) (by omega);  have hl := len64_b (n := x.n / 4294967296 / 65536) (by omega) rfl (by assumption); omega) | (have h0 := len64_32 (n := x.n) (by omega); have h1 := len64_s8 (n := x.n / 4294967296) (by omega);  have hl := len64_b (n := x.n / 4294967296 / 256) (by omega) rfl (by assumption); omega) | (have h0 := len64_32 (n := x.n) (by omega);  have hl := len64_b (n := x.n / 4294967296) (by omega) rfl (by assumption); omega) | (have h0 := len64_16 (n := x.n) (by omega); have h1 := len64_s8 (n := x.n / 65536) (by omega);  have hl := len64_b (n := x.n / 65536 / 256) (by omega) rfl (by assumption); omega) | (have h0 := len64_16 (n := x.n) (by omega);  have hl := len64_b (n := x.n / 65536) (by omega) rfl (by assumption); omega) | (have h0 := len64_s8 (n := x.n) (by omega);  have hl := len64_b (n := x.n / 256) (by omega) rfl (by assumption); omega) | ( have hl := len64_b (n := x.n) (by omega) rfl (by assumption); omega) | trace_state))
  rw [h29]
  have g29 : ¬ ((x.n : Int) ≥ 65536) := of_decide_eq_false h29
  refine EL.condF (by kernel_rfl) ?_
  refine EL.skip ?_
  refine thenL_norm ?_
  refine EL.seq ?_
  refine EL.sreg ?_
  refine OW.last 2 [0, 2, 14] (x' := ⟨[(14, .v (.bool (decide ((x.n : Int) ≥ 256)))), (2, VI 0), (0, .v (.int .u64 (x.n : Int)))], []⟩) (by kernel_rfl) (by kernel_rfl) ?_
  rcases Bool.eq_false_or_eq_true (decide ((x.n : Int) ≥ 256)) with h43 | h43
  rw [h43]
  have g43 : ((x.n : Int) ≥ 256) := of_decide_eq_true h43
  refine EL.condT (by kernel_rfl) ?_
  refine EL.sreg ?_
  refine OW.run 3 (x' := ⟨(0, .v (.int .u64 (((x.n : Int)).fdiv (2 ^ (min 8 IntKind.u64.bits))))) :: (16, .v (.int .u64 (((x.n : Int)).fdiv (2 ^ (min 8 IntKind.u64.bits))))) :: (abq44 x), []⟩) (by kernel_rfl) ?_
  have e44 : ((x.n : Int)).fdiv (2 ^ (min 8 IntKind.u64.bits)) = ((x.n / 256 : Nat) : Int) := fdn8 (by omega)
  rw [e44]
  refine OW.last 0 [0, 2] (x' := ⟨[(0, .v (.int .u64 ((x.n / 256 : Nat) : Int))), (2, VI 0)], []⟩) (by kernel_rfl) (by kernel_rfl) ?_
  refine EL.reg0 ?_
  refine OW.end 3 (x' := ⟨(abq45 x), []⟩) (by kernel_rfl) (by kernel_rfl) ?_
  refine thenL_norm ?_
  refine EL.sreg ?_
  refine OW.run 3 (x' := ⟨(21, .v (.int .u8 (IntKind.u8.wrap (((x.n / 256 : Nat) : Int))))) :: (abq46 x), []⟩) (by kernel_rfl) ?_
  have e46 : IntKind.u8.wrap (((x.n / 256 : Nat) : Int)) = ((x.n / 256 : Nat) : Int) := wr8 (by omega)
  rw [e46]
  obtain ⟨b47, hb47⟩ : ∃ b, l8s[Int.toNat (((x.n / 256 : Nat) : Int))]? = some b := six_ex ⟨by omega, by omega⟩
  have qb47 := UInt8.toNat_lt b47
  refine OW.ope (v := .v (.int .u8 (UInt8.toNat b47 : Int))) (u := []) (acc := []) (x' := ⟨(abq47 b47 x), []⟩) (by kernel_rfl) (opE_six l8s (.c (.v (.string l8s))) (.s 21) .u8 (((x.n / 256 : Nat) : Int)) b47 (by kernel_rfl) (by kernel_rfl) (by kernel_rfl) (by kernel_rfl) (by omega) hb47) (by kernel_rfl) ?_
  refine OW.run 3 (x' := ⟨(2, VI (IntKind.i64.wrap (8 + (IntKind.i64.wrap ((UInt8.toNat b47 : Int)))))) :: (24, VI (IntKind.i64.wrap (8 + (IntKind.i64.wrap ((UInt8.toNat b47 : Int)))))) :: (23, VI (IntKind.i64.wrap ((UInt8.toNat b47 : Int)))) :: (abq48 b47 x), []⟩) (by kernel_rfl) ?_
  have e48 : IntKind.i64.wrap ((UInt8.toNat b47 : Int)) = (UInt8.toNat b47 : Int) := wr64 (by omega)
  rw [e48]
  have e49 : IntKind.i64.wrap (8 + ((UInt8.toNat b47 : Int))) = 8 + ((UInt8.toNat b47 : Int)) := wr64 (by omega)
  rw [e49]
  refine OW.last 0 [2] (x' := ⟨[(2, VI (8 + ((UInt8.toNat b47 : Int))))], []⟩) (by kernel_rfl) (by kernel_rfl) ?_
  refine EL.ret ?_
  refine ⟨.inr rfl, VI (8 + ((UInt8.toNat b47 : Int))), by kernel_rfl, Ale.of_eq ?_⟩
  focus ((refine congrArg (fun n => VI n) ?_; have hlt := x.lt; first | (have h0 := len64_32 (n := x.n) (by omega); have h1 := len64_16 (n := x.n / 4294967296) (by omega); have h2 := len64_s8 (n := x.n / 4294967296 / 65536) (by omega);  have hl := len64_b (n := x.n / 4294967296 / 65536 / 256) (by omega) rfl (by assumption); omega) | (have h0 := len64_32 (n := x.n) (by omega); have h1 := len64_16 (n := x.n / 4294967296) (by omega);  have hl := len64_b (n := x.n / 4294967296 / 65536) (by omega) rfl (by assumption); omega) | (have h0 := len64_32 (n := x.n) (by omega); have h1 := len64_s8 (n := x.n / 4294967296) (by omega);  have hl := len64_b (n := x.n / 4294967296 / 256) (by omega) rfl (by assumption); omega) | (have h0 := len64_32 (n := x.n) (by omega);  have hl := len64_b (n := x.n / 4294967296) (by omega) rfl (by assumption); omega) | (have h0 := len64_16 (n := x.n) (by omega); have h1 := len64_s8 (n := x.n / 65536) (by omega);  have hl := len64_b (n := x.n / 65536 / 256) (by omega) rfl (by assumption); omega) | (have h0 := len64_16 (n := x.n) (by omega);  have hl := len64_b (n := x.n / 65536) (by omega) rfl (by assumption); omega) | (have h0 := len64_s8 (n := x.n) (by omega);  have hl := len64_b (n := x.n / 256) (by omega) rfl (by assumption); omega) | ( have hl := len64_b (n := x.n) (by omega) rfl (by assumption); omega) | trace_state))
  rw [h43]
  have g43 : ¬ ((x.n : Int) ≥ 256) := of_decide_eq_false h43
  refine EL.condF (by kernel_rfl) ?_
  refine EL.skip ?_
  refine thenL_norm ?_
  refine EL.sreg ?_
  refine OW.run 3 (x' := ⟨(21, .v (.int .u8 (IntKind.u8.wrap ((x.n : Int))))) :: (abq49 x), []⟩) (by kernel_rfl) ?_
  have e51 : IntKind.u8.wrap ((x.n : Int)) = (x.n : Int) := wr8 (by omega)
  rw [e51]
  obtain ⟨b52, hb52⟩ : ∃ b, l8s[Int.toNat ((x.n : Int))]? = some b := six_ex ⟨by omega, by omega⟩
  have qb52 := UInt8.toNat_lt b52
  refine OW.ope (v := .v (.int .u8 (UInt8.toNat b52 : Int))) (u := []) (acc := []) (x' := ⟨(abq50 b52 x), []⟩) (by kernel_rfl) (opE_six l8s (.c (.v (.string l8s))) (.s 21) .u8 ((x.n : Int)) b52 (by kernel_rfl) (by kernel_rfl) (by kernel_rfl) (by kernel_rfl) (by omega) hb52) (by kernel_rfl) ?_
  refine OW.run 3 (x' := ⟨(2, VI (IntKind.i64.wrap (0 + (IntKind.i64.wrap ((UInt8.toNat b52 : Int)))))) :: (24, VI (IntKind.i64.wrap (0 + (IntKind.i64.wrap ((UInt8.toNat b52 : Int)))))) :: (23, VI (IntKind.i64.wrap ((UInt8.toNat b52 : Int)))) :: (abq51 b52 x), []⟩) (by kernel_rfl) ?_
  have e53 : IntKind.i64.wrap ((UInt8.toNat b52 : Int)) = (UInt8.toNat b52 : Int) := wr64 (by omega)
  rw [e53]
  have e54 : IntKind.i64.wrap (0 + ((UInt8.toNat b52 : Int))) = 0 + ((UInt8.toNat b52 : Int)) := wr64 (by omega)
  rw [e54]
  refine OW.last 0 [2] (x' := ⟨[(2, VI (0 + ((UInt8.toNat b52 : Int))))], []⟩) (by kernel_rfl) (by kernel_rfl) ?_
  refine EL.ret ?_
  refine ⟨.inr rfl, VI (0 + ((UInt8.toNat b52 : Int))), by kernel_rfl, Ale.of_eq ?_⟩
  focus ((refine congrArg (fun n => VI n) ?_; have hlt := x.lt; first | (have h0 := len64_32 (n := x.n) (by omega); have h1 := len64_16 (n := x.n / 4294967296) (by omega); have h2 := len64_s8 (n := x.n / 4294967296 / 65536) (by omega);  have hl := len64_b (n := x.n / 4294967296 / 65536 / 256) (by omega) rfl (by assumption); omega) | (have h0 := len64_32 (n := x.n) (by omega); have h1 := len64_16 (n := x.n / 4294967296) (by omega);  have hl := len64_b (n := x.n / 4294967296 / 65536) (by omega) rfl (by assumption); omega) | (have h0 := len64_32 (n := x.n) (by omega); have h1 := len64_s8 (n := x.n / 4294967296) (by omega);  have hl := len64_b (n := x.n / 4294967296 / 256) (by omega) rfl (by assumption); omega) | (have h0 := len64_32 (n := x.n) (by omega);  have hl := len64_b (n := x.n / 4294967296) (by omega) rfl (by assumption); omega) | (have h0 := len64_16 (n := x.n) (by omega); have h1 := len64_s8 (n := x.n / 65536) (by omega);  have hl := len64_b (n := x.n / 65536 / 256) (by omega) rfl (by assumption); omega) | (have h0 := len64_16 (n := x.n) (by omega);  have hl := len64_b (n := x.n / 65536) (by omega) rfl (by assumption); omega) | (have h0 := len64_s8 (n := x.n) (by omega);  have hl := len64_b (n := x.n / 256) (by omega) rfl (by assumption); omega) | ( have hl := len64_b (n := x.n) (by omega) rfl (by assumption); omega) | trace_state))
theorem pred_w {x : Nat} (h : x ≠ 0 ∧ x < 18446744073709551616) : bits .and .u64 (x : Int) (IntKind.u64.wrap ((x : Int) - 1)) = ((x &&& (x - 1) : Nat) : Int) := pred_bits h.1 h.2
theorem tzN_fn (z : Nat) (h : z < 18446744073709551616) : Fn Tryd.prog 55 [.v (.int .u64 (z : Int))] (VI (tz z : Int)) := tz_fn ⟨z, h⟩
theorem lenN_fn (z : Nat) (h : z < 18446744073709551616) : Fn Tryd.prog 35 [.v (.int .u64 (z : Int))] (VI (len64 z : Int)) := len64_fn ⟨z, h⟩
theorem bsum_bd : ∀ (ws : List Int) (z : Nat), (∀ w, w ∈ ws → 0 ≤ w ∧ w ≤ 100) → 0 ≤ bsum ws z ∧ bsum ws z ≤ 100 * ws.length
  | [], z, _ => by simp [bsum]
  | w :: ws, z, h => by
    have h1 := h w (by simp)
    have h2 := bsum_bd ws (z / 2) fun v hv => h v (by simp [hv])
    simp only [bsum, List.length_cons]
    split <;> omega
/-- A set of such nodes as there are. -/
def SubS (ws : List Int) (z : Nat) : Prop := z < 2 ^ ws.length
theorem SubS.tz {ws : List Int} {z : Nat} (h : SubS ws z) (h0 : z ≠ 0) : tz z < ws.length := tz_lt ws.length z h0 h
theorem SubS.next {ws : List Int} {z : Nat} (h : SubS ws z) (h0 : z ≠ 0) : SubS ws (z &&& (z - 1)) := Nat.lt_trans (pred_lt h0) h
theorem SubS.low {ws : List Int} {z : Nat} (h : SubS ws z) (h0 : z ≠ 0) {a : Int} (ha : ws[Int.toNat (Proofs.YtgepadjkegfokaaDoor.tz z : Int)]? = some a) : bsum ws z = a + bsum ws (z &&& (z - 1)) ∧ z &&& (z - 1) < z := by
  obtain ⟨w, h1, h2⟩ := bsum_low ws z h0 h
  have h3 := Option.some.inj (h1.symm.trans ha)
  subst h3
  exact ⟨h2, pred_lt h0⟩
theorem SubS.of_len {ws : List Int} {z : Nat} (h : ¬ (len64 z : Int) > ws.length) : SubS ws z := Nat.not_le.1 fun hh => h (by have := len64_gt.2 hh; omega)
theorem sumP_3 {ws : List Int} {z : Nat} (h1 : ¬ (nodesP ws).2 ≠ 0) (h : (len64 z : Int) > ws.length) : sumP ws z = (0, 3) := by
  unfold sumP; rw [if_neg h1, if_pos (len64_gt.1 (by omega))]
theorem sumP_0 {ws : List Int} {z : Nat} (h1 : (nodesP ws).2 = 0) (h : SubS ws z) : sumP ws z = (bsum ws z, 0) := by
  unfold sumP; rw [if_neg (fun hh => hh h1), if_neg (Nat.not_le.2 h)]
abbrev abq52 (ws : List Int) (u : U64) : LS := [(4, VI 0), (0, .lst 1 (ws.map cI)), (1, .v (.int .u64 (u.n : Int)))]
abbrev abq53 (ws : List Int) (u : U64) : LS := (10, .tup [VI ((nodesP ws).1), VI ((nodesP ws).2)]) :: (9, .lst 1 (ws.map cI)) :: (abq52 ws u)
abbrev abq54 (u : U64) (ws : List Int) : LS := (16, .v (.int .u64 (u.n : Int))) :: (14, .v (.bool false)) :: (7, VI ((nodesP ws).2)) :: (abq52 ws u)
abbrev abq55 (ws : List Int) (u : U64) : LS := (18, .lst 1 (ws.map cI)) :: (17, VI (len64 u.n : Int)) :: (abq54 u ws)
abbrev abq56 (ws : List Int) (z : Nat) (n : Int) : LS := [(0, .lst 1 (ws.map cI)), (1, .v (.int .u64 (z : Int))), (4, VI n)]
abbrev abq57 (z : Nat) (ws : List Int) (n : Int) : LS := (29, .v (.int .u64 (z : Int))) :: (28, .lst 1 (ws.map cI)) :: (27, VI n) :: (22, .v (.bool true)) :: (abq56 ws z n)
abbrev abq58 (a5 : Int) (z : Nat) (ws : List Int) (n : Int) : LS := (31, .pim [VI a5] 0) :: (30, VI (tz z : Int)) :: (abq57 z ws n)
abbrev abq59 (a5 : Int) (z : Nat) (ws : List Int) (n : Int) : LS := [(32, VI a5), (31, .pim [VI a5] 0), (30, VI (tz z : Int)), (29, .v (.int .u64 (z : Int))), (28, .lst 1 (ws.map cI)), (27, VI n), (22, .v (.bool true)), (0, .lst 1 (ws.map cI)), (1, .v (.int .u64 (z : Int)))]
abbrev abq60 (z : Nat) (n : Int) (a5 : Int) (ws : List Int) : LS := [(24, .v (.int .u64 (z : Int))), (23, .v (.int .u64 (z : Int))), (4, VI (n + a5)), (33, VI (n + a5)), (32, VI a5), (31, .pim [VI a5] 0), (30, VI (tz z : Int)), (29, .v (.int .u64 (z : Int))), (28, .lst 1 (ws.map cI)), (27, VI n), (22, .v (.bool true)), (0, .lst 1 (ws.map cI))]
theorem sum_fn (ws : List Int) (u : U64) (hx : ws.length ≤ 9223372036854775807) : Fn Tryd.prog 41 [.lst 1 (ws.map cI), .v (.int .u64 (u.n : Int))] (.tup [VI ((sumP ws u.n).1), VI ((sumP ws u.n).2)]) := by
  have hlt := u.lt
  refine fn_walkW F41_ok (of_decide_eq_true (by kernel_rfl)) ?_
  refine EL.sreg ?_
  refine OW.last 2 [0, 1, 4] (x' := ⟨(abq52 ws u), []⟩) (by kernel_rfl) (by kernel_rfl) ?_
  refine EL.seq ?_
  refine EL.sreg ?_
  refine OW.run 1 (x' := ⟨(9, .lst 1 (ws.map cI)) :: (abq52 ws u), []⟩) (by kernel_rfl) ?_
  refine OW.fn (ar := [.lst 1 (ws.map cI)]) (x' := ⟨(abq53 ws u), []⟩) (by kernel_rfl) (by kernel_rfl) F49_call (nodes_fn ws (by first | omega | (simp; omega))) (by kernel_rfl) (by kernel_rfl) ?_
  refine OW.last 5 [0, 1, 4, 7] (x' := ⟨(7, VI ((nodesP ws).2)) :: (abq52 ws u), []⟩) (by kernel_rfl) (by kernel_rfl) ?_
  refine EL.sreg ?_
  refine OW.last 2 [0, 1, 4, 7, 14] (x' := ⟨(14, .v (.bool (((nodesP ws).2) != 0))) :: (7, VI ((nodesP ws).2)) :: (abq52 ws u), []⟩) (by kernel_rfl) (by kernel_rfl) ?_
  rcases Bool.eq_false_or_eq_true ((((nodesP ws).2) != 0)) with h1 | h1
  rw [h1]
  have g1 : ¬ (((nodesP ws).2) = 0) := by simpa using h1
  refine EL.condT (by kernel_rfl) ?_
  refine EL.sreg ?_
  refine OW.last 3 [4, 5] (x' := ⟨[(5, VI ((nodesP ws).2)), (4, VI 0)], []⟩) (by kernel_rfl) (by kernel_rfl) ?_
  refine EL.ret ?_
  refine thenL_ret ?_
  refine ⟨.inr rfl, .tup [VI 0, VI ((nodesP ws).2)], by kernel_rfl, Ale.of_eq ?_⟩
  focus (first | (rw [sumP, if_pos (by assumption)]; done) | (rw [sumP_3 (by omega) (by assumption)]; done) | (rw [sumP_0 hn0 hx2]; have hz0 : z = 0 := (by omega); rw [hz0, bsum_zero] at hs; rw [show bsum ws u.n = n by omega]; done) | trace_state)
  rw [h1]
  have g1 : (((nodesP ws).2) = 0) := by simpa using h1
  refine EL.condF (by kernel_rfl) ?_
  refine EL.skip ?_
  refine thenL_norm ?_
  refine EL.seq ?_
  refine EL.sreg ?_
  refine OW.run 1 (x' := ⟨(abq54 u ws), []⟩) (by kernel_rfl) ?_
  refine OW.fn (ar := [.v (.int .u64 (u.n : Int))]) (x' := ⟨(17, VI (len64 u.n : Int)) :: (abq54 u ws), []⟩) (by kernel_rfl) (by kernel_rfl) F35_call (lenN_fn u.n (by first | omega | exact U64.lt _)) (by kernel_rfl) (by kernel_rfl) ?_
  refine OW.run 1 (x' := ⟨(abq55 ws u), []⟩) (by kernel_rfl) ?_
  refine OW.ope (v := VI (List.length ws : Int)) (u := []) (acc := []) (x' := ⟨(19, VI (List.length ws : Int)) :: (abq55 ws u), []⟩) (by kernel_rfl) (opE_len cI ws (.s 18) 1 (by kernel_rfl) (by kernel_rfl) (.inl rfl)) (by kernel_rfl) ?_
  refine OW.last 1 [0, 1, 4, 20] (x' := ⟨(20, .v (.bool (decide ((len64 u.n : Int) > (List.length ws : Int))))) :: (abq52 ws u), []⟩) (by kernel_rfl) (by kernel_rfl) ?_
  rcases Bool.eq_false_or_eq_true (decide ((len64 u.n : Int) > (List.length ws : Int))) with h2 | h2
  rw [h2]
  have g2 : ((len64 u.n : Int) > (List.length ws : Int)) := of_decide_eq_true h2
  refine EL.condT (by kernel_rfl) ?_
  refine EL.sreg ?_
  refine OW.last 2 [4, 5] (x' := ⟨[(5, VI 3), (4, VI 0)], []⟩) (by kernel_rfl) (by kernel_rfl) ?_
  refine EL.ret ?_
  refine thenL_ret ?_
  refine ⟨.inr rfl, .tup [VI 0, VI 3], by kernel_rfl, Ale.of_eq ?_⟩
  focus (first | (rw [sumP, if_pos (by assumption)]; done) | (rw [sumP_3 (by omega) (by assumption)]; done) | (rw [sumP_0 hn0 hx2]; have hz0 : z = 0 := (by omega); rw [hz0, bsum_zero] at hs; rw [show bsum ws u.n = n by omega]; done) | trace_state)
  rw [h2]
  have g2 : ¬ ((len64 u.n : Int) > (List.length ws : Int)) := of_decide_eq_false h2
  refine EL.condF (by kernel_rfl) ?_
  refine EL.skip ?_
  refine thenL_norm ?_
  refine EL.seq ?_
  refine EL.block ?_
  refine EL.loopN (fun mM xX => ∃ (z : Nat) (n : Int), mM = z + 1 ∧ (SubS ws z ∧ z < 18446744073709551616 ∧ (nodesP ws).2 = 0 ∧ SubS ws u.n ∧ n + bsum ws z = bsum ws u.n) ∧ xX = ⟨(abq56 ws z n), []⟩) (y := (fun (z : Nat) (n : Int) => (⟨(abq56 ws z n), []⟩ : L3)) u.n 0) [0, 1, 4] [] [] (by kernel_rfl) trivial ⟨u.n, 0, rfl, by have i1 := SubS.of_len (ws := ws) (z := u.n) (by assumption); have i3 : (nodesP ws).2 = 0 := (by omega); exact ⟨i1, hlt, i3, i1, Int.zero_add _⟩, rfl⟩ ?_
  rintro _ _ ⟨z, n, rfl, hI3, rfl⟩
  obtain ⟨hz, hz64, hn0, hx2, hs⟩ := hI3
  have hnb := nodes_bd hn0
  have hb1 := bsum_bd ws z hnb.2.2.2.2
  have hb2 := bsum_bd ws u.n hnb.2.2.2.2
  have hpl : z ≠ 0 → z &&& (z - 1) < z := fun hh => pred_lt hh
  refine EL.seq ?_
  refine EL.sreg ?_
  refine OW.last 2 [0, 1, 4, 22] (x' := ⟨(22, .v (.bool ((z : Int) != 0))) :: (abq56 ws z n), []⟩) (by kernel_rfl) (by kernel_rfl) ?_
  rcases Bool.eq_false_or_eq_true (((z : Int) != 0)) with h4 | h4
  rw [h4]
  have g4 : ¬ ((z : Int) = 0) := by simpa using h4
  have n4 : ¬ ((z) = 0) := by omega
  refine EL.condT (by kernel_rfl) ?_
  refine EL.skip ?_
  refine thenL_norm ?_
  refine EL.seq ?_
  refine EL.block ?_
  refine EL.reg0 ?_
  refine OW.run 3 (x' := ⟨(abq57 z ws n), []⟩) (by kernel_rfl) ?_
  refine OW.fn (ar := [.v (.int .u64 (z : Int))]) (x' := ⟨(30, VI (tz z : Int)) :: (abq57 z ws n), []⟩) (by kernel_rfl) (by kernel_rfl) F55_call (tzN_fn z (by omega)) (by kernel_rfl) (by kernel_rfl) ?_
  obtain ⟨a5, ha5⟩ : ∃ y, ws[((tz z : Int) : Int).toNat]? = some y := idx_ex ⟨by omega, by have ht := hz.tz (by omega); omega⟩
  refine OW.ope (v := .pim [VI a5] 0) (u := []) (acc := []) (x' := ⟨(abq58 a5 z ws n), []⟩) (by kernel_rfl) (opE_iad cI ws (.s 28) (.s 30) 1 .i64 (tz z : Int) a5 (by kernel_rfl) (by kernel_rfl) (.inl rfl) rfl (by omega) ha5) (by kernel_rfl) ?_
  refine OW.run 3 (x' := ⟨(4, VI (IntKind.i64.wrap (n + a5))) :: (33, VI (IntKind.i64.wrap (n + a5))) :: (abq59 a5 z ws n), []⟩) (by kernel_rfl) ?_
  have e6 : IntKind.i64.wrap (n + a5) = n + a5 := wr64 (by have hq := hz.low (by omega) ha5; have hb3 := bsum_bd ws (z &&& (z - 1)) hnb.2.2.2.2; have hq2 := hnb.2.2.2.2 a5 (List.mem_of_getElem? ha5); omega)
  rw [e6]
  clear e6
  refine OW.end 0 (x' := ⟨(4, VI (n + a5)) :: (33, VI (n + a5)) :: (abq59 a5 z ws n), []⟩) (by kernel_rfl) (by kernel_rfl) ?_
  refine inBlk_norm ?_
  refine thenL_norm ?_
  refine EL.reg0 ?_
  refine OW.run 5 (x' := ⟨(1, .v (.int .u64 (bits .and .u64 (z : Int) (IntKind.u64.wrap ((z : Int) - 1))))) :: (26, .v (.int .u64 (bits .and .u64 (z : Int) (IntKind.u64.wrap ((z : Int) - 1))))) :: (25, .v (.int .u64 (IntKind.u64.wrap ((z : Int) - 1)))) :: (abq60 z n a5 ws), []⟩) (by kernel_rfl) ?_
  have e7 : bits .and .u64 (z : Int) (IntKind.u64.wrap ((z : Int) - 1)) = ((z &&& (z - 1) : Nat) : Int) := pred_w (by exact ⟨by omega, hz64⟩)
  rw [e7]
  clear e7
  refine OW.end 0 (x' := ⟨(1, .v (.int .u64 ((z &&& (z - 1) : Nat) : Int))) :: (26, .v (.int .u64 ((z &&& (z - 1) : Nat) : Int))) :: (25, .v (.int .u64 (IntKind.u64.wrap ((z : Int) - 1)))) :: (abq60 z n a5 ws), []⟩) (by kernel_rfl) (by kernel_rfl) ?_
  refine thenL_norm ?_
  refine round_end (live := [0, 1, 4]) (src := []) (es := []) (y := (fun (z : Nat) (n : Int) => (⟨(abq56 ws z n), []⟩ : L3)) (z &&& (z - 1)) (n + a5)) ?_ trivial ?_ ⟨(z &&& (z - 1)), (n + a5), rfl, ?_, rfl⟩
  kernel_rfl
  omega
  focus ((have hq := hz.low (by omega) ha5; exact ⟨hz.next (by omega), by omega, hn0, hx2, by omega⟩))
  rw [h4]
  have g4 : ((z : Int) = 0) := by simpa using h4
  have n4 : ((z) = 0) := by omega
  refine EL.condF (by kernel_rfl) ?_
  refine EL.exit ?_
  refine thenL_exit ?_
  refine thenL_exit ?_
  refine inBlk_hit ?_
  refine thenL_norm ?_
  refine EL.sreg ?_
  refine OW.last 3 [4, 5] (x' := ⟨[(5, VI 0), (4, VI n)], []⟩) (by kernel_rfl) (by kernel_rfl) ?_
  refine EL.ret ?_
  refine ⟨.inr rfl, .tup [VI n, VI 0], by kernel_rfl, Ale.of_eq ?_⟩
  focus (first | (rw [sumP, if_pos (by assumption)]; done) | (rw [sumP_3 (by omega) (by assumption)]; done) | (rw [sumP_0 hn0 hx2]; have hz0 : z = 0 := (by omega); rw [hz0, bsum_zero] at hs; rw [show bsum ws u.n = n by omega]; done) | trace_state)
abbrev abq61 (ws : List Int) (need : Int) (u : U64) : LS := [(0, .lst 1 (ws.map cI)), (1, VI need), (2, .v (.int .u64 (u.n : Int)))]
abbrev abq62 (ws : List Int) (need : Int) (u : U64) : LS := (13, VI (qcheckP ws need)) :: (12, VI need) :: (11, .lst 1 (ws.map cI)) :: (abq61 ws need u)
abbrev abq63 (u : U64) (ws : List Int) (need : Int) : LS := (19, .v (.int .u64 (u.n : Int))) :: (18, .lst 1 (ws.map cI)) :: (15, .v (.bool false)) :: (8, VI (qcheckP ws need)) :: (abq61 ws need u)
abbrev abq64 (ws : List Int) (u : U64) (need : Int) : LS := (20, .tup [VI ((sumP ws u.n).1), VI ((sumP ws u.n).2)]) :: (abq63 u ws need)
abbrev abq65 (ws : List Int) (u : U64) (need : Int) : LS := [(10, VI ((sumP ws u.n).2)), (9, VI ((sumP ws u.n).1)), (1, VI need)]
theorem enough_fn (ws : List Int) (need : Int) (u : U64) (hx : ws.length ≤ 9223372036854775807) : Fn Tryd.prog 19 [.lst 1 (ws.map cI), VI need, .v (.int .u64 (u.n : Int))] (.tup [.v (.bool ((enoughP ws need u.n).1)), VI ((enoughP ws need u.n).2)]) := by
  refine fn_walkW F19_ok (of_decide_eq_true (by kernel_rfl)) ?_
  refine EL.sreg ?_
  refine OW.last 2 [0, 1, 2] (x' := ⟨(abq61 ws need u), []⟩) (by kernel_rfl) (by kernel_rfl) ?_
  refine EL.seq ?_
  refine EL.sreg ?_
  refine OW.run 2 (x' := ⟨(12, VI need) :: (11, .lst 1 (ws.map cI)) :: (abq61 ws need u), []⟩) (by kernel_rfl) ?_
  refine OW.fn (ar := [.lst 1 (ws.map cI), VI need]) (x' := ⟨(abq62 ws need u), []⟩) (by kernel_rfl) (by kernel_rfl) F32_call (qcheck_fn ws need (by first | omega | (simp; omega))) (by kernel_rfl) (by kernel_rfl) ?_
  refine OW.last 1 [0, 1, 2, 8] (x' := ⟨(8, VI (qcheckP ws need)) :: (abq61 ws need u), []⟩) (by kernel_rfl) (by kernel_rfl) ?_
  refine EL.sreg ?_
  refine OW.last 2 [0, 1, 2, 8, 15] (x' := ⟨(15, .v (.bool ((qcheckP ws need) != 0))) :: (8, VI (qcheckP ws need)) :: (abq61 ws need u), []⟩) (by kernel_rfl) (by kernel_rfl) ?_
  rcases Bool.eq_false_or_eq_true (((qcheckP ws need) != 0)) with h1 | h1
  rw [h1]
  have g1 : ¬ ((qcheckP ws need) = 0) := by simpa using h1
  refine EL.condT (by kernel_rfl) ?_
  refine EL.sreg ?_
  refine OW.last 3 [6, 7] (x' := ⟨[(7, VI (qcheckP ws need)), (6, .v (.bool false))], []⟩) (by kernel_rfl) (by kernel_rfl) ?_
  refine EL.ret ?_
  refine thenL_ret ?_
  refine ⟨.inr rfl, .tup [.v (.bool false), VI (qcheckP ws need)], by kernel_rfl, Ale.of_eq ?_⟩
  focus (first | rfl | (simp [enoughP, *]; done) | (simp_all [enoughP]; done) | trace_state)
  rw [h1]
  have g1 : ((qcheckP ws need) = 0) := by simpa using h1
  refine EL.condF (by kernel_rfl) ?_
  refine EL.skip ?_
  refine thenL_norm ?_
  refine EL.sreg ?_
  refine OW.run 2 (x' := ⟨(abq63 u ws need), []⟩) (by kernel_rfl) ?_
  refine OW.fn (ar := [.lst 1 (ws.map cI), .v (.int .u64 (u.n : Int))]) (x' := ⟨(abq64 ws u need), []⟩) (by kernel_rfl) (by kernel_rfl) F41_call (sum_fn ws u (by first | omega | (simp; omega))) (by kernel_rfl) (by kernel_rfl) ?_
  refine OW.last 5 [1, 9, 10] (x' := ⟨(abq65 ws u need), []⟩) (by kernel_rfl) (by kernel_rfl) ?_
  refine EL.sreg ?_
  refine OW.run 3 (x' := ⟨(25, .v (.bool (((sumP ws u.n).2) == 0))) :: (24, .v (.bool (((sumP ws u.n).2) == 0))) :: (23, VI ((sumP ws u.n).2)) :: (abq65 ws u need), []⟩) (by kernel_rfl) ?_
  rcases Bool.eq_false_or_eq_true ((((sumP ws u.n).2) == 0)) with h2 | h2
  rw [h2]
  have g2 : (((sumP ws u.n).2) = 0) := by simpa using h2
  refine OW.last 7 [6, 7] (x' := ⟨[(7, VI ((sumP ws u.n).2)), (6, .v (.bool (decide (((sumP ws u.n).1) ≥ need))))], []⟩) (by kernel_rfl) (by kernel_rfl) ?_
  refine EL.ret ?_
  refine ⟨.inr rfl, .tup [.v (.bool (decide (((sumP ws u.n).1) ≥ need))), VI ((sumP ws u.n).2)], by kernel_rfl, Ale.of_eq ?_⟩
  focus (first | rfl | (simp [enoughP, *]; done) | (simp_all [enoughP]; done) | trace_state)
  rw [h2]
  have g2 : ¬ (((sumP ws u.n).2) = 0) := by simpa using h2
  refine OW.last 7 [6, 7] (x' := ⟨[(7, VI ((sumP ws u.n).2)), (6, .v (.bool false))], []⟩) (by kernel_rfl) (by kernel_rfl) ?_
  refine EL.ret ?_
  refine ⟨.inr rfl, .tup [.v (.bool false), VI ((sumP ws u.n).2)], by kernel_rfl, Ale.of_eq ?_⟩
  focus (first | rfl | (simp [enoughP, *]; done) | (simp_all [enoughP]; done) | trace_state)
def orU (a : U64) (k : Nat) : U64 := ⟨(a.n ||| 2 ^ k) % 18446744073709551616, Nat.mod_lt _ (by decide)⟩
def andU (a : U64) (k : Nat) : U64 := ⟨(a.n &&& 2 ^ k) % 18446744073709551616, Nat.mod_lt _ (by decide)⟩
theorem pow_lt64 {k : Nat} (h : k < 64) : 2 ^ k < 18446744073709551616 := by
  have := Nat.pow_lt_pow_right (a := 2) (by decide) h; simpa using this
theorem orU_bits {a : U64} {k : Nat} (h : k < 64) : bits .or .u64 (a.n : Int) ((2 ^ k : Nat) : Int) = ((orU a k).n : Int) := by
  rw [bits_or_u64_nat a.n (2 ^ k) a.lt (pow_lt64 h)]
  have hl : a.n ||| 2 ^ k < 18446744073709551616 := by
    have := Nat.or_lt_two_pow (n := 64) (by simpa using a.lt) (by simpa using pow_lt64 h); simpa using this
  show ((a.n ||| 2 ^ k : Nat) : Int) = (((a.n ||| 2 ^ k) % 18446744073709551616 : Nat) : Int)
  rw [Nat.mod_eq_of_lt hl]
theorem andU_bits {a : U64} {k : Nat} (h : k < 64) : bits .and .u64 (a.n : Int) ((2 ^ k : Nat) : Int) = ((andU a k).n : Int) := by
  rw [bits_and_u64_nat a.n (2 ^ k) a.lt (pow_lt64 h)]
  have hl : a.n &&& 2 ^ k < 18446744073709551616 := Nat.lt_of_le_of_lt Nat.and_le_left a.lt
  show ((a.n &&& 2 ^ k : Nat) : Int) = (((a.n &&& 2 ^ k) % 18446744073709551616 : Nat) : Int)
  rw [Nat.mod_eq_of_lt hl]
theorem shl1 {d : Int} (h : 0 ≤ d ∧ d < 64) : IntKind.u64.wrap (1 * 2 ^ (min (Int.toNat d) IntKind.u64.bits)) = ((2 ^ (Int.toNat d) : Nat) : Int) := by
  have e : min (Int.toNat d) IntKind.u64.bits = Int.toNat d := by
    have : IntKind.u64.bits = 64 := rfl
    omega
  have hp := pow_lt64 (k := Int.toNat d) (by omega)
  rw [e, Int.one_mul, show ((2 : Int) ^ (Int.toNat d)) = ((2 ^ (Int.toNat d) : Nat) : Int) by push_cast; rfl, IntKind.wrap_u64]
  generalize (2 : Nat) ^ (Int.toNat d) = p at *
  omega
/-- Node k is in the set x. -/
def inS (x k : Nat) : Bool := x / 2 ^ k % 2 == 1
theorem and_bit' : ∀ (k x : Nat), x &&& 2 ^ k = 0 ↔ x / 2 ^ k % 2 = 0
  | 0, x => by simp
  | k + 1, x => by
    have hp : 2 ^ (k + 1) = 2 * 2 ^ k + 0 := by rw [Nat.pow_succ]; omega
    have e : x = 2 * (x / 2) + x % 2 := by omega
    have ih := and_bit' k (x / 2)
    rw [Nat.div_div_eq_div_mul, Nat.mul_comm 2, ← Nat.pow_succ] at ih
    rw [← ih, hp]
    conv => lhs; lhs; lhs; rw [e]
    rw [land_two _ _ _ _ (by omega) (by omega)]; simp; omega
theorem and_bit {x : U64} {k : Nat} : (andU x k).n = 0 ↔ inS x.n k = false := by
  have hl : x.n &&& 2 ^ k < 18446744073709551616 := Nat.lt_of_le_of_lt Nat.and_le_left x.lt
  show (x.n &&& 2 ^ k) % 18446744073709551616 = 0 ↔ _
  rw [Nat.mod_eq_of_lt hl, and_bit']
  unfold inS; simp
theorem or_sub {x : U64} {k n : Nat} (hx : x.n < 2 ^ n) (hk : k < n) (hn : n ≤ 12) : (orU x k).n < 2 ^ n := by
  have hl : x.n ||| 2 ^ k < 2 ^ n := Nat.or_lt_two_pow hx (Nat.pow_lt_pow_right (by decide) hk)
  show (x.n ||| 2 ^ k) % 18446744073709551616 < 2 ^ n
  exact Nat.lt_of_le_of_lt (Nat.mod_le _ _) hl
theorem qc_nodes {ws : List Int} {need : Int} (h : qcheckP ws need = 0) : (nodesP ws).2 = 0 := by
  unfold qcheckP at h
  by_cases hn : (nodesP ws).2 = 0
  · exact hn
  · rw [if_pos hn] at h; exact absurd h hn
theorem qc_len {ws : List Int} {need : Int} (h : qcheckP ws need = 0) : ws.length ≤ 12 := (nodes_bd (qc_nodes h)).2.2.2.1
@[ext] structure Voters where
  weights : List Int
  need : Int
def Ask.checkE (a : Ask) (ws : List Int) (need : Int) : Int :=
  if qcheckP ws need ≠ 0 then qcheckP ws need else if ¬ (0 ≤ a.op ∧ a.op ≤ 30) then 3 else if ¬ (1 ≤ a.kind ∧ a.kind ≤ 2) ∨ ¬ (1 ≤ a.phase ∧ a.phase ≤ 3) then 7 else if a.data.size > 64 then 2 else if a.kind = 1 ∧ a.data.size ≠ 0 then 1 else if a.best.checkE ≠ 0 then a.best.checkE else if (len64 a.heard.n : Int) > ws.length then 3 else 0
theorem len_ge {n : U64} {l : Nat} : ((n.n : Int) ≥ ((2 ^ Int.toNat (l : Int) : Nat) : Int)) ↔ (len64 n.n : Int) > l := by
  have := len64_gt (n := n.n) (k := l)
  rw [show Int.toNat (l : Int) = l from rfl]
  omega
theorem ask_ok {a : Ask} {ws : List Int} {need : Int} (h : a.checkE ws need = 0) : qcheckP ws need = 0 ∧ (0 ≤ a.op ∧ a.op ≤ 30) ∧ (1 ≤ a.kind ∧ a.kind ≤ 2) ∧ (1 ≤ a.phase ∧ a.phase ≤ 3) ∧ a.data.size ≤ 64 ∧ (a.kind = 1 → a.data.size = 0) ∧ a.best.checkE = 0 ∧ a.heard.n < 2 ^ ws.length := by
  unfold Ask.checkE at h
  repeat' split at h
  all_goals first
    | (exfalso; simp at h; done)
    | (exfalso; contradiction)
    | skip
  rename_i h1 h2 h3 h4 h5 h6 h7
  refine ⟨by omega, by omega, by omega, by omega, by omega, fun hk => ?_, by omega, Nat.not_le.1 fun hh => h7 ?_⟩
  · by_cases hd : a.data.size = 0
    · exact hd
    · exact absurd ⟨hk, hd⟩ h5
  · have := len64_gt.2 hh; omega
theorem msg_node {m : Msg} (h : m.checkE = 0) : (0 ≤ m.node ∧ m.node < 64) ∧ m.copy.checkE = 0 := by
  unfold Msg.checkE at h
  by_cases h1 : 1 ≤ m.kind ∧ m.kind ≤ 4
  · rw [if_neg (fun hh => hh h1)] at h
    by_cases h2 : 0 ≤ m.op ∧ m.op ≤ 30 ∧ 0 ≤ m.node ∧ m.node ≤ 11
    · rw [if_neg (fun hh => hh h2)] at h
      by_cases h3 : m.copy.checkE = 0
      · exact ⟨by omega, h3⟩
      · rw [if_pos h3] at h; exact absurd h h3
    · rw [if_pos h2] at h; simp at h
  · rw [if_pos h1] at h; simp at h
/-- A message for each of so many nodes. -/
def toAllM (n : Nat) (m : Msg) : List Msg := (List.range n).map fun (i : Nat) => (⟨m.kind, m.op, (i : Int), m.copy⟩ : Msg)
def Ask.zero : Ask := ⟨0, 0, 0, ⟨#[]⟩, ⟨⟨0, 0⟩, ⟨#[]⟩⟩, ⟨0, by decide⟩⟩
def Ask.new (op kind : Int) (data : ByteArray) : Ask := ⟨op, kind, 1, data, ⟨⟨0, 0⟩, ⟨#[]⟩⟩, ⟨0, by decide⟩⟩
def beginA (v : Voters) (op kind : Int) (data : ByteArray) : Ask × List Msg × Int :=
  if (Ask.new op kind data).checkE v.weights v.need ≠ 0 then (Ask.zero, [], (Ask.new op kind data).checkE v.weights v.need)
  else (Ask.new op kind data, toAllM v.weights.length ⟨1, op, 0, ⟨⟨0, 0⟩, ⟨#[]⟩⟩⟩, 0)
abbrev abq91 (lo : Int) (n : Int) (hi : Int) : LS := [(8, VI lo), (7, VI n), (0, VI n), (1, VI lo), (2, VI hi)]
theorem within_fn (n : Int) (lo : Int) (hi : Int) : Fn Tryd.prog 33 [VI n, VI lo, VI hi] (.v (.bool (wi n lo hi))) := by
  refine fn_walkW F33_ok (of_decide_eq_true (by kernel_rfl)) ?_
  refine EL.sreg ?_
  refine OW.last 1 [0, 1, 2] (x' := ⟨[(0, VI n), (1, VI lo), (2, VI hi)], []⟩) (by kernel_rfl) (by kernel_rfl) ?_
  refine EL.sreg ?_
  refine OW.run 4 (x' := ⟨(10, .v (.bool (decide (n ≥ lo)))) :: (9, .v (.bool (decide (n ≥ lo)))) :: (abq91 lo n hi), []⟩) (by kernel_rfl) ?_
  rcases Bool.eq_false_or_eq_true (decide (n ≥ lo)) with h1 | h1
  rw [h1]
  have g1 : (n ≥ lo) := of_decide_eq_true h1
  refine OW.last 5 [6] (x' := ⟨[(6, .v (.bool (decide (n ≤ hi))))], []⟩) (by kernel_rfl) (by kernel_rfl) ?_
  refine EL.ret ?_
  refine ⟨.inr rfl, .v (.bool (decide (n ≤ hi))), by kernel_rfl, Ale.of_eq ?_⟩
  focus (first | rfl | (refine congrArg (fun b => AV.v (Value.bool b)) ?_; first | rfl | (rw [Bool.eq_iff_iff]; simp [wi]; done) | (rw [Bool.eq_iff_iff]; simp [wi]; omega)))
  rw [h1]
  have g1 : ¬ (n ≥ lo) := of_decide_eq_false h1
  refine OW.last 5 [6] (x' := ⟨[(6, .v (.bool false))], []⟩) (by kernel_rfl) (by kernel_rfl) ?_
  refine EL.ret ?_
  refine ⟨.inr rfl, .v (.bool false), by kernel_rfl, Ale.of_eq ?_⟩
  focus (first | rfl | (refine congrArg (fun b => AV.v (Value.bool b)) ?_; first | rfl | (rw [Bool.eq_iff_iff]; simp [wi]; done) | (rw [Bool.eq_iff_iff]; simp [wi]; omega)))
abbrev abq92 (a : Ask) : OB := some ⟨8, [[VI a.op, VI a.kind, VI a.phase, .v (.string a.data), VI a.best.at_.time, VI a.best.at_.who, .v (.string a.best.data), .v (.int .u64 (a.heard.n : Int))]]⟩
abbrev abq93 (v : Voters) (a : Ask) : LB := [some ⟨2, [[.lst 1 (v.weights.map cI), VI v.need]]⟩, (abq92 a)]
abbrev abq94 (v : Voters) : LS := [(10, VI v.need), (9, .ref 0 2 0 1), (8, .lst 1 (v.weights.map cI)), (7, .ref 0 2 0 0), (3, .ref 1 8 0 0), (2, .ref 0 2 0 0)]
abbrev abq95 (v : Voters) : LS := [(5, VI (qcheckP v.weights v.need)), (3, .ref 1 8 0 0), (2, .ref 0 2 0 0)]
abbrev abq96 (a : Ask) (v : Voters) : LS := (17, VI a.op) :: (16, .ref 1 8 0 0) :: (13, .v (.bool false)) :: (abq95 v)
abbrev abq97 (a : Ask) : LS := [(22, VI a.kind), (21, .ref 1 8 0 1), (15, .v (.bool false)), (3, .ref 1 8 0 0), (2, .ref 0 2 0 0)]
abbrev abq98 (a : Ask) : LS := [(26, VI a.phase), (25, .ref 1 8 0 2), (20, .v (.bool false)), (3, .ref 1 8 0 0), (2, .ref 0 2 0 0)]
abbrev abq99 (a : Ask) : LS := [(26, VI a.phase), (25, .ref 1 8 0 2), (3, .ref 1 8 0 0), (2, .ref 0 2 0 0)]
abbrev abq100 (a : Ask) : LS := [(36, VI a.kind), (35, .ref 1 8 0 1), (29, .v (.bool false)), (3, .ref 1 8 0 0), (2, .ref 0 2 0 0)]
abbrev abq101 (a : Ask) : AV := .agg [VI a.best.at_.time, VI a.best.at_.who, .v (.string a.best.data)]
abbrev abq102 (a : Ask) : LS := [(44, (abq101 a)), (43, .ref 1 8 0 4), (34, .v (.bool false)), (3, .ref 1 8 0 0), (2, .ref 0 2 0 0)]
abbrev abq103 (a : Ask) : LS := [(6, VI a.best.checkE), (3, .ref 1 8 0 0), (2, .ref 0 2 0 0)]
abbrev abq104 (a : Ask) : LS := (50, .v (.int .u64 (a.heard.n : Int))) :: (49, .ref 1 8 0 7) :: (48, .v (.bool true)) :: (47, .v (.bool true)) :: (46, VI a.best.checkE) :: (abq103 a)
abbrev abq105 (v : Voters) (a : Ask) : LS := (53, .lst 1 (v.weights.map cI)) :: (52, .ref 0 2 0 0) :: (51, VI (len64 a.heard.n : Int)) :: (abq104 a)
abbrev abq106 : LS := [(34, .v (.bool false)), (3, .ref 1 8 0 0), (2, .ref 0 2 0 0)]
theorem acheck_fn (v : Voters) (a : Ask) (hx : v.weights.length ≤ 9223372036854775807) : Fn Tryd.prog 13 [.agg [.lst 1 (v.weights.map cI), VI v.need], .agg [VI a.op, VI a.kind, VI a.phase, .v (.string a.data), VI a.best.at_.time, VI a.best.at_.who, .v (.string a.best.data), .v (.int .u64 (a.heard.n : Int))]] (VI (a.checkE v.weights v.need)) := by
  refine fn_walkW F13_ok (of_decide_eq_true (by kernel_rfl)) ?_
  refine EL.sreg ?_
  refine OW.last 3 [2, 3] (x' := ⟨[(3, .ref 1 8 0 0), (2, .ref 0 2 0 0)], (abq93 v a)⟩) (by kernel_rfl) (by kernel_rfl) ?_
  refine EL.seq ?_
  refine EL.sreg ?_
  refine OW.run 4 (x' := ⟨(abq94 v), (abq93 v a)⟩) (by kernel_rfl) ?_
  refine OW.fn (ar := [.lst 1 (v.weights.map cI), VI v.need]) (x' := ⟨(11, VI (qcheckP v.weights v.need)) :: (abq94 v), (abq93 v a)⟩) (by kernel_rfl) (by kernel_rfl) F32_call (qcheck_fn v.weights v.need (by first | omega | (simp; omega))) (by kernel_rfl) (by kernel_rfl) ?_
  refine OW.last 1 [2, 3, 5] (x' := ⟨(abq95 v), (abq93 v a)⟩) (by kernel_rfl) (by kernel_rfl) ?_
  refine EL.sreg ?_
  refine OW.last 2 [2, 3, 5, 13] (x' := ⟨(13, .v (.bool ((qcheckP v.weights v.need) != 0))) :: (abq95 v), (abq93 v a)⟩) (by kernel_rfl) (by kernel_rfl) ?_
  rcases Bool.eq_false_or_eq_true (((qcheckP v.weights v.need) != 0)) with h1 | h1
  rw [h1]
  have g1 : ¬ ((qcheckP v.weights v.need) = 0) := by simpa using h1
  refine EL.condT (by kernel_rfl) ?_
  refine EL.sreg ?_
  refine OW.last 2 [4] (x' := ⟨[(4, VI (qcheckP v.weights v.need))], (abq93 v a)⟩) (by kernel_rfl) (by kernel_rfl) ?_
  refine EL.ret ?_
  refine thenL_ret ?_
  refine ⟨.inr rfl, VI (qcheckP v.weights v.need), by kernel_rfl, Ale.of_eq ?_⟩
  focus ((refine congrArg (fun n => VI n) ?_; (try simp only [wi_iff, ba_empty, len_ge] at *); simp only [Ask.checkE, ba_empty]; (repeat' split) <;> first | rfl | omega | (exfalso; omega) | contradiction | (simp_all; done) | (simp_all; omega) | trace_state))
  rw [h1]
  have g1 : ((qcheckP v.weights v.need) = 0) := by simpa using h1
  refine EL.condF (by kernel_rfl) ?_
  refine EL.skip ?_
  refine thenL_norm ?_
  refine EL.seq ?_
  refine EL.block ?_
  refine EL.sreg ?_
  refine OW.run 2 (x' := ⟨(abq96 a v), (abq93 v a)⟩) (by kernel_rfl) ?_
  refine OW.fn (ar := [VI a.op, VI 0, VI 30]) (x' := ⟨(18, .v (.bool (wi a.op 0 30))) :: (abq96 a v), (abq93 v a)⟩) (by kernel_rfl) (by kernel_rfl) F33_call (within_fn a.op 0 30) (by kernel_rfl) (by kernel_rfl) ?_
  refine OW.last 2 [2, 3, 15] (x' := ⟨[(15, .v (.bool (!(wi a.op 0 30)))), (3, .ref 1 8 0 0), (2, .ref 0 2 0 0)], (abq93 v a)⟩) (by kernel_rfl) (by kernel_rfl) ?_
  rcases Bool.eq_false_or_eq_true (wi a.op 0 30) with h2 | h2
  rw [h2]
  have g2 : ((0 : Int) ≤ a.op ∧ (a.op : Int) ≤ 30) := wi_iff.1 h2
  refine EL.condF (by kernel_rfl) ?_
  refine EL.seq ?_
  refine EL.sreg ?_
  refine OW.run 2 (x' := ⟨(abq97 a), (abq93 v a)⟩) (by kernel_rfl) ?_
  refine OW.fn (ar := [VI a.kind, VI 1, VI 2]) (x' := ⟨(23, .v (.bool (wi a.kind 1 2))) :: (abq97 a), (abq93 v a)⟩) (by kernel_rfl) (by kernel_rfl) F33_call (within_fn a.kind 1 2) (by kernel_rfl) (by kernel_rfl) ?_
  refine OW.last 2 [2, 3, 20] (x' := ⟨[(20, .v (.bool (!(wi a.kind 1 2)))), (3, .ref 1 8 0 0), (2, .ref 0 2 0 0)], (abq93 v a)⟩) (by kernel_rfl) (by kernel_rfl) ?_
  rcases Bool.eq_false_or_eq_true (wi a.kind 1 2) with h3 | h3
  rw [h3]
  have g3 : ((1 : Int) ≤ a.kind ∧ (a.kind : Int) ≤ 2) := wi_iff.1 h3
  refine EL.condF (by kernel_rfl) ?_
  refine EL.reg0 ?_
  refine OW.run 2 (x' := ⟨(abq98 a), (abq93 v a)⟩) (by kernel_rfl) ?_
  refine OW.fn (ar := [VI a.phase, VI 1, VI 3]) (x' := ⟨(27, .v (.bool (wi a.phase 1 3))) :: (abq98 a), (abq93 v a)⟩) (by kernel_rfl) (by kernel_rfl) F33_call (within_fn a.phase 1 3) (by kernel_rfl) (by kernel_rfl) ?_
  refine OW.end 2 (x' := ⟨(20, .v (.bool (!(wi a.phase 1 3)))) :: (28, .v (.bool (!(wi a.phase 1 3)))) :: (27, .v (.bool (wi a.phase 1 3))) :: (abq99 a), (abq93 v a)⟩) (by kernel_rfl) (by kernel_rfl) ?_
  refine thenL_norm ?_
  rcases Bool.eq_false_or_eq_true (wi a.phase 1 3) with h4 | h4
  rw [h4]
  have g4 : ((1 : Int) ≤ a.phase ∧ (a.phase : Int) ≤ 3) := wi_iff.1 h4
  refine EL.condF (by kernel_rfl) ?_
  refine EL.sreg ?_
  refine OW.last 5 [2, 3, 29] (x' := ⟨[(29, .v (.bool (decide ((ByteArray.size a.data : Int) > 64)))), (3, .ref 1 8 0 0), (2, .ref 0 2 0 0)], (abq93 v a)⟩) (by kernel_rfl) (by kernel_rfl) ?_
  rcases Bool.eq_false_or_eq_true (decide ((ByteArray.size a.data : Int) > 64)) with h5 | h5
  rw [h5]
  have g5 : ((ByteArray.size a.data : Int) > 64) := of_decide_eq_true h5
  have n5 : ((ByteArray.size a.data) > 64) := by omega
  refine EL.condT (by kernel_rfl) ?_
  refine EL.sreg ?_
  refine OW.last 1 [4] (x' := ⟨[(4, VI 2)], (abq93 v a)⟩) (by kernel_rfl) (by kernel_rfl) ?_
  refine EL.ret ?_
  refine inBlk_ret ?_
  refine thenL_ret ?_
  refine ⟨.inr rfl, VI 2, by kernel_rfl, Ale.of_eq ?_⟩
  focus ((refine congrArg (fun n => VI n) ?_; (try simp only [wi_iff, ba_empty, len_ge] at *); simp only [Ask.checkE, ba_empty]; (repeat' split) <;> first | rfl | omega | (exfalso; omega) | contradiction | (simp_all; done) | (simp_all; omega) | trace_state))
  rw [h5]
  have g5 : ¬ ((ByteArray.size a.data : Int) > 64) := of_decide_eq_false h5
  have n5 : ¬ ((ByteArray.size a.data) > 64) := by omega
  refine EL.condF (by kernel_rfl) ?_
  refine EL.sreg ?_
  refine OW.run 4 (x' := ⟨(38, .v (.bool (a.kind == 1))) :: (37, .v (.bool (a.kind == 1))) :: (abq100 a), (abq93 v a)⟩) (by kernel_rfl) ?_
  rcases Bool.eq_false_or_eq_true ((a.kind == 1)) with h6 | h6
  rw [h6]
  have g6 : (a.kind = 1) := by simpa using h6
  refine OW.last 5 [2, 3, 34] (x' := ⟨[(34, .v (.bool (!(strEq a.data (⟨#[]⟩))))), (3, .ref 1 8 0 0), (2, .ref 0 2 0 0)], (abq93 v a)⟩) (by kernel_rfl) (by kernel_rfl) ?_
  rcases Bool.eq_false_or_eq_true (strEq a.data (⟨#[]⟩)) with h7 | h7
  rw [h7]
  have g7 : (a.data = (⟨#[]⟩)) := strEq_iff.1 h7
  refine EL.condF (by kernel_rfl) ?_
  refine EL.skip ?_
  refine inBlk_norm ?_
  refine thenL_norm ?_
  refine EL.sreg ?_
  refine OW.run 2 (x' := ⟨(abq102 a), (abq93 v a)⟩) (by kernel_rfl) ?_
  refine OW.fn (ar := [(abq101 a)]) (x' := ⟨(45, VI a.best.checkE) :: (abq102 a), (abq93 v a)⟩) (by kernel_rfl) (by kernel_rfl) F34_call (ccheck_fn a.best) (by kernel_rfl) (by kernel_rfl) ?_
  refine OW.last 1 [2, 3, 6] (x' := ⟨(abq103 a), (abq93 v a)⟩) (by kernel_rfl) (by kernel_rfl) ?_
  refine EL.seq ?_
  refine EL.sdraw ?_
  refine DW.run 3 (x' := ⟨(48, .v (.bool (a.best.checkE == 0))) :: (47, .v (.bool (a.best.checkE == 0))) :: (46, VI a.best.checkE) :: (abq103 a), (abq93 v a)⟩) (by kernel_rfl) ?_
  rcases Bool.eq_false_or_eq_true ((a.best.checkE == 0)) with h8 | h8
  rw [h8]
  have g8 : (a.best.checkE = 0) := by simpa using h8
  refine DW.run 2 (x' := ⟨(abq104 a), (abq93 v a)⟩) (by kernel_rfl) ?_
  refine DW.fn (ar := [.v (.int .u64 (a.heard.n : Int))]) (x' := ⟨(51, VI (len64 a.heard.n : Int)) :: (abq104 a), (abq93 v a)⟩) (by kernel_rfl) (by kernel_rfl) F35_call (lenN_fn a.heard.n (by first | omega | exact U64.lt _)) (by kernel_rfl) (by kernel_rfl) ?_
  refine DW.run 2 (x' := ⟨(abq105 v a), (abq93 v a)⟩) (by kernel_rfl) ?_
  refine DW.ope (v := VI (List.length v.weights : Int)) (u := []) (acc := []) (x' := ⟨(54, VI (List.length v.weights : Int)) :: (abq105 v a), (abq93 v a)⟩) (by kernel_rfl) (opE_len cI v.weights (.s 53) 1 (by kernel_rfl) (by kernel_rfl) (.inl rfl)) (by kernel_rfl) ?_
  refine DW.last 2 [6, 56] (x' := ⟨[(56, .v (.bool (decide ((len64 a.heard.n : Int) > (List.length v.weights : Int))))), (6, VI a.best.checkE)], (abq93 v a)⟩) (by kernel_rfl) (by kernel_rfl) ?_
  rcases Bool.eq_false_or_eq_true (decide ((len64 a.heard.n : Int) > (List.length v.weights : Int))) with h9 | h9
  rw [h9]
  have g9 : ((len64 a.heard.n : Int) > (List.length v.weights : Int)) := of_decide_eq_true h9
  refine EL.condT (by kernel_rfl) ?_
  refine EL.reg0 ?_
  refine OW.end 1 (x' := ⟨[(6, VI 3), (56, .v (.bool true))], (abq93 v a)⟩) (by kernel_rfl) (by kernel_rfl) ?_
  refine thenL_norm ?_
  refine EL.sreg ?_
  refine OW.last 2 [4] (x' := ⟨[(4, VI 3)], (abq93 v a)⟩) (by kernel_rfl) (by kernel_rfl) ?_
  refine EL.ret ?_
  refine ⟨.inr rfl, VI 3, by kernel_rfl, Ale.of_eq ?_⟩
  focus ((refine congrArg (fun n => VI n) ?_; (try simp only [wi_iff, ba_empty, len_ge] at *); simp only [Ask.checkE, ba_empty]; (repeat' split) <;> first | rfl | omega | (exfalso; omega) | contradiction | (simp_all; done) | (simp_all; omega) | trace_state))
  rw [h9]
  have g9 : ¬ ((len64 a.heard.n : Int) > (List.length v.weights : Int)) := of_decide_eq_false h9
  refine EL.condF (by kernel_rfl) ?_
  refine EL.skip ?_
  refine thenL_norm ?_
  refine EL.sreg ?_
  refine OW.last 2 [4] (x' := ⟨[(4, VI a.best.checkE)], (abq93 v a)⟩) (by kernel_rfl) (by kernel_rfl) ?_
  refine EL.ret ?_
  refine ⟨.inr rfl, VI a.best.checkE, by kernel_rfl, Ale.of_eq ?_⟩
  focus ((refine congrArg (fun n => VI n) ?_; (try simp only [wi_iff, ba_empty, len_ge] at *); simp only [Ask.checkE, ba_empty]; (repeat' split) <;> first | rfl | omega | (exfalso; omega) | contradiction | (simp_all; done) | (simp_all; omega) | trace_state))
  rw [h8]
  have g8 : ¬ (a.best.checkE = 0) := by simpa using h8
  refine DW.last 8 [6, 56] (x' := ⟨[(56, .v (.bool false)), (6, VI a.best.checkE)], (abq93 v a)⟩) (by kernel_rfl) (by kernel_rfl) ?_
  refine EL.condF (by kernel_rfl) ?_
  refine EL.skip ?_
  refine thenL_norm ?_
  refine EL.sreg ?_
  refine OW.last 2 [4] (x' := ⟨[(4, VI a.best.checkE)], (abq93 v a)⟩) (by kernel_rfl) (by kernel_rfl) ?_
  refine EL.ret ?_
  refine ⟨.inr rfl, VI a.best.checkE, by kernel_rfl, Ale.of_eq ?_⟩
  focus ((refine congrArg (fun n => VI n) ?_; (try simp only [wi_iff, ba_empty, len_ge] at *); simp only [Ask.checkE, ba_empty]; (repeat' split) <;> first | rfl | omega | (exfalso; omega) | contradiction | (simp_all; done) | (simp_all; omega) | trace_state))
  rw [h7]
  have g7 : ¬ (a.data = (⟨#[]⟩)) := fun hh => Bool.noConfusion ((strEq_iff.2 hh).symm.trans h7)
  refine EL.condT (by kernel_rfl) ?_
  refine EL.sreg ?_
  refine OW.last 1 [4] (x' := ⟨[(4, VI 1)], (abq93 v a)⟩) (by kernel_rfl) (by kernel_rfl) ?_
  refine EL.ret ?_
  refine inBlk_ret ?_
  refine thenL_ret ?_
  refine ⟨.inr rfl, VI 1, by kernel_rfl, Ale.of_eq ?_⟩
  focus ((refine congrArg (fun n => VI n) ?_; (try simp only [wi_iff, ba_empty, len_ge] at *); simp only [Ask.checkE, ba_empty]; (repeat' split) <;> first | rfl | omega | (exfalso; omega) | contradiction | (simp_all; done) | (simp_all; omega) | trace_state))
  rw [h6]
  have g6 : ¬ (a.kind = 1) := by simpa using h6
  refine OW.last 5 [2, 3, 34] (x' := ⟨abq106, (abq93 v a)⟩) (by kernel_rfl) (by kernel_rfl) ?_
  refine EL.condF (by kernel_rfl) ?_
  refine EL.skip ?_
  refine inBlk_norm ?_
  refine thenL_norm ?_
  refine EL.sreg ?_
  refine OW.run 2 (x' := ⟨(abq102 a), (abq93 v a)⟩) (by kernel_rfl) ?_
  refine OW.fn (ar := [(abq101 a)]) (x' := ⟨(45, VI a.best.checkE) :: (abq102 a), (abq93 v a)⟩) (by kernel_rfl) (by kernel_rfl) F34_call (ccheck_fn a.best) (by kernel_rfl) (by kernel_rfl) ?_
  refine OW.last 1 [2, 3, 6] (x' := ⟨(abq103 a), (abq93 v a)⟩) (by kernel_rfl) (by kernel_rfl) ?_
  refine EL.seq ?_
  refine EL.sdraw ?_
  refine DW.run 3 (x' := ⟨(48, .v (.bool (a.best.checkE == 0))) :: (47, .v (.bool (a.best.checkE == 0))) :: (46, VI a.best.checkE) :: (abq103 a), (abq93 v a)⟩) (by kernel_rfl) ?_
  rcases Bool.eq_false_or_eq_true ((a.best.checkE == 0)) with h10 | h10
  rw [h10]
  have g10 : (a.best.checkE = 0) := by simpa using h10
  refine DW.run 2 (x' := ⟨(abq104 a), (abq93 v a)⟩) (by kernel_rfl) ?_
  refine DW.fn (ar := [.v (.int .u64 (a.heard.n : Int))]) (x' := ⟨(51, VI (len64 a.heard.n : Int)) :: (abq104 a), (abq93 v a)⟩) (by kernel_rfl) (by kernel_rfl) F35_call (lenN_fn a.heard.n (by first | omega | exact U64.lt _)) (by kernel_rfl) (by kernel_rfl) ?_
  refine DW.run 2 (x' := ⟨(abq105 v a), (abq93 v a)⟩) (by kernel_rfl) ?_
  refine DW.ope (v := VI (List.length v.weights : Int)) (u := []) (acc := []) (x' := ⟨(54, VI (List.length v.weights : Int)) :: (abq105 v a), (abq93 v a)⟩) (by kernel_rfl) (opE_len cI v.weights (.s 53) 1 (by kernel_rfl) (by kernel_rfl) (.inl rfl)) (by kernel_rfl) ?_
  refine DW.last 2 [6, 56] (x' := ⟨[(56, .v (.bool (decide ((len64 a.heard.n : Int) > (List.length v.weights : Int))))), (6, VI a.best.checkE)], (abq93 v a)⟩) (by kernel_rfl) (by kernel_rfl) ?_
  rcases Bool.eq_false_or_eq_true (decide ((len64 a.heard.n : Int) > (List.length v.weights : Int))) with h11 | h11
  rw [h11]
  have g11 : ((len64 a.heard.n : Int) > (List.length v.weights : Int)) := of_decide_eq_true h11
  refine EL.condT (by kernel_rfl) ?_
  refine EL.reg0 ?_
  refine OW.end 1 (x' := ⟨[(6, VI 3), (56, .v (.bool true))], (abq93 v a)⟩) (by kernel_rfl) (by kernel_rfl) ?_
  refine thenL_norm ?_
  refine EL.sreg ?_
  refine OW.last 2 [4] (x' := ⟨[(4, VI 3)], (abq93 v a)⟩) (by kernel_rfl) (by kernel_rfl) ?_
  refine EL.ret ?_
  refine ⟨.inr rfl, VI 3, by kernel_rfl, Ale.of_eq ?_⟩
  focus ((refine congrArg (fun n => VI n) ?_; (try simp only [wi_iff, ba_empty, len_ge] at *); simp only [Ask.checkE, ba_empty]; (repeat' split) <;> first | rfl | omega | (exfalso; omega) | contradiction | (simp_all; done) | (simp_all; omega) | trace_state))
  rw [h11]
  have g11 : ¬ ((len64 a.heard.n : Int) > (List.length v.weights : Int)) := of_decide_eq_false h11
  refine EL.condF (by kernel_rfl) ?_
  refine EL.skip ?_
  refine thenL_norm ?_
  refine EL.sreg ?_
  refine OW.last 2 [4] (x' := ⟨[(4, VI a.best.checkE)], (abq93 v a)⟩) (by kernel_rfl) (by kernel_rfl) ?_
  refine EL.ret ?_
  refine ⟨.inr rfl, VI a.best.checkE, by kernel_rfl, Ale.of_eq ?_⟩
  focus ((refine congrArg (fun n => VI n) ?_; (try simp only [wi_iff, ba_empty, len_ge] at *); simp only [Ask.checkE, ba_empty]; (repeat' split) <;> first | rfl | omega | (exfalso; omega) | contradiction | (simp_all; done) | (simp_all; omega) | trace_state))
  rw [h10]
  have g10 : ¬ (a.best.checkE = 0) := by simpa using h10
  refine DW.last 8 [6, 56] (x' := ⟨[(56, .v (.bool false)), (6, VI a.best.checkE)], (abq93 v a)⟩) (by kernel_rfl) (by kernel_rfl) ?_
  refine EL.condF (by kernel_rfl) ?_
  refine EL.skip ?_
  refine thenL_norm ?_
  refine EL.sreg ?_
  refine OW.last 2 [4] (x' := ⟨[(4, VI a.best.checkE)], (abq93 v a)⟩) (by kernel_rfl) (by kernel_rfl) ?_
  refine EL.ret ?_
  refine ⟨.inr rfl, VI a.best.checkE, by kernel_rfl, Ale.of_eq ?_⟩
  focus ((refine congrArg (fun n => VI n) ?_; (try simp only [wi_iff, ba_empty, len_ge] at *); simp only [Ask.checkE, ba_empty]; (repeat' split) <;> first | rfl | omega | (exfalso; omega) | contradiction | (simp_all; done) | (simp_all; omega) | trace_state))
  rw [h4]
  have g4 : ¬ ((1 : Int) ≤ a.phase ∧ (a.phase : Int) ≤ 3) := fun hh => Bool.noConfusion ((wi_iff.2 hh).symm.trans h4)
  refine EL.condT (by kernel_rfl) ?_
  refine EL.sreg ?_
  refine OW.last 1 [4] (x' := ⟨[(4, VI 7)], (abq93 v a)⟩) (by kernel_rfl) (by kernel_rfl) ?_
  refine EL.ret ?_
  refine inBlk_ret ?_
  refine thenL_ret ?_
  refine ⟨.inr rfl, VI 7, by kernel_rfl, Ale.of_eq ?_⟩
  focus ((refine congrArg (fun n => VI n) ?_; (try simp only [wi_iff, ba_empty, len_ge] at *); simp only [Ask.checkE, ba_empty]; (repeat' split) <;> first | rfl | omega | (exfalso; omega) | contradiction | (simp_all; done) | (simp_all; omega) | trace_state))
  rw [h3]
  have g3 : ¬ ((1 : Int) ≤ a.kind ∧ (a.kind : Int) ≤ 2) := fun hh => Bool.noConfusion ((wi_iff.2 hh).symm.trans h3)
  refine EL.condT (by kernel_rfl) ?_
  refine EL.skip ?_
  refine thenL_norm ?_
  refine EL.condT (by kernel_rfl) ?_
  refine EL.sreg ?_
  refine OW.last 1 [4] (x' := ⟨[(4, VI 7)], (abq93 v a)⟩) (by kernel_rfl) (by kernel_rfl) ?_
  refine EL.ret ?_
  refine inBlk_ret ?_
  refine thenL_ret ?_
  refine ⟨.inr rfl, VI 7, by kernel_rfl, Ale.of_eq ?_⟩
  focus ((refine congrArg (fun n => VI n) ?_; (try simp only [wi_iff, ba_empty, len_ge] at *); simp only [Ask.checkE, ba_empty]; (repeat' split) <;> first | rfl | omega | (exfalso; omega) | contradiction | (simp_all; done) | (simp_all; omega) | trace_state))
  rw [h2]
  have g2 : ¬ ((0 : Int) ≤ a.op ∧ (a.op : Int) ≤ 30) := fun hh => Bool.noConfusion ((wi_iff.2 hh).symm.trans h2)
  refine EL.condT (by kernel_rfl) ?_
  refine EL.sreg ?_
  refine OW.last 1 [4] (x' := ⟨[(4, VI 3)], (abq93 v a)⟩) (by kernel_rfl) (by kernel_rfl) ?_
  refine EL.ret ?_
  refine inBlk_ret ?_
  refine thenL_ret ?_
  refine ⟨.inr rfl, VI 3, by kernel_rfl, Ale.of_eq ?_⟩
  focus ((refine congrArg (fun n => VI n) ?_; (try simp only [wi_iff, ba_empty, len_ge] at *); simp only [Ask.checkE, ba_empty]; (repeat' split) <;> first | rfl | omega | (exfalso; omega) | contradiction | (simp_all; done) | (simp_all; omega) | trace_state))
abbrev abq107 (m : Msg) : OB := some ⟨6, [[VI m.kind, VI m.op, VI m.node, VI m.copy.at_.time, VI m.copy.at_.who, .v (.string m.copy.data)]]⟩
abbrev abq108 (v : Voters) (m : Msg) : LB := [some ⟨2, [[.lst 1 (v.weights.map cI), VI v.need]]⟩, (abq107 m)]
abbrev abq109 : LS := [(5, .emp), (3, .ref 1 6 0 0), (2, .ref 0 2 0 0)]
abbrev abq110 (v : Voters) : LS := (8, .lst 1 (v.weights.map cI)) :: (7, .ref 0 2 0 0) :: abq109
abbrev abq111 (v : Voters) : LS := [(10, VI 0), (9, VI (List.length v.weights : Int)), (5, .emp), (3, .ref 1 6 0 0)]
abbrev abq112 (p : Msg) : OB := some ⟨6, [[VI p.kind, VI p.op, VI p.node, VI p.copy.at_.time, VI p.copy.at_.who, .v (.string p.copy.data)]]⟩
abbrev abq113 (out : List Msg) (v : Voters) (k : Nat) : LS := [(3, .ref 1 6 0 0), (5, .own 0 6 0 (List.length out)), (9, VI (List.length v.weights : Int)), (10, VI (k : Int))]
abbrev abq114 (p : Msg) (k : Nat) : OB := some ⟨6, [[VI p.kind, VI p.op, VI (k : Int), VI p.copy.at_.time, VI p.copy.at_.who, .v (.string p.copy.data)]]⟩
abbrev abq115 (p : Msg) (k : Nat) : AV := .agg [VI p.kind, VI p.op, VI (k : Int), VI p.copy.at_.time, VI p.copy.at_.who, .v (.string p.copy.data)]
abbrev abq116 (p : Msg) (k : Nat) (out : List Msg) (v : Voters) : LS := (17, .own 2 6 0 1) :: (16, (abq115 p k)) :: (15, .own 0 6 0 (List.length out)) :: (abq113 out v k)
abbrev abq117 (out : List Msg) (p : Msg) (k : Nat) : OB := some ⟨6, ((out ++ ([(⟨p.kind, p.op, (k : Int), p.copy⟩ : Msg)])).map Msg.cs)⟩
abbrev abq118 (out : List Msg) (p : Msg) (k : Nat) (v : Voters) : LS := (18, .own 3 6 0 (List.length (out ++ ([(⟨p.kind, p.op, (k : Int), p.copy⟩ : Msg)])))) :: (abq116 p k out v)
abbrev abq119 (out : List Msg) (p : Msg) (k : Nat) (v : Voters) : LS := [(5, .own 3 6 0 (List.length (out ++ ([(⟨p.kind, p.op, (k : Int), p.copy⟩ : Msg)])))), (18, .own 3 6 0 (List.length (out ++ ([(⟨p.kind, p.op, (k : Int), p.copy⟩ : Msg)])))), (17, .own 2 6 0 1), (16, (abq115 p k)), (15, .own 0 6 0 (List.length out)), (3, .ref 1 6 0 0), (9, VI (List.length v.weights : Int)), (10, VI (k : Int))]
abbrev abq120 (out : List Msg) (p : Msg) (k : Nat) (v : Voters) : LS := [(5, .own 3 6 0 (List.length (out ++ ([(⟨p.kind, p.op, (k : Int), p.copy⟩ : Msg)])))), (18, .own 3 6 0 (List.length (out ++ ([(⟨p.kind, p.op, (k : Int), p.copy⟩ : Msg)])))), (17, .own 2 6 0 1), (16, (abq115 p k)), (15, .own 0 6 0 (List.length out)), (3, .ref 1 6 0 0), (9, VI (List.length v.weights : Int))]
abbrev abq121 (k : Nat) (out : List Msg) (p : Msg) (v : Voters) : LS := (10, VI ((k : Int) + 1)) :: (19, VI ((k : Int) + 1)) :: (abq120 out p k v)
theorem toAllM_fn (v : Voters) (m : Msg) (hx : v.weights.length ≤ 12) : Fn Tryd.prog 22 [.agg [.lst 1 (v.weights.map cI), VI v.need], .agg [VI m.kind, VI m.op, VI m.node, VI m.copy.at_.time, VI m.copy.at_.who, .v (.string m.copy.data)]] (.lst 6 ((toAllM v.weights.length m).map Msg.cs)) := by
  refine fn_walkW F22_ok (of_decide_eq_true (by kernel_rfl)) ?_
  refine EL.sreg ?_
  refine OW.last 3 [2, 3] (x' := ⟨[(3, .ref 1 6 0 0), (2, .ref 0 2 0 0)], (abq108 v m)⟩) (by kernel_rfl) (by kernel_rfl) ?_
  refine EL.sreg ?_
  refine OW.last 1 [2, 3, 5] (x' := ⟨abq109, (abq108 v m)⟩) (by kernel_rfl) (by kernel_rfl) ?_
  refine EL.seq ?_
  refine EL.sreg ?_
  refine OW.run 2 (x' := ⟨(abq110 v), (abq108 v m)⟩) (by kernel_rfl) ?_
  refine OW.ope (v := VI (List.length v.weights : Int)) (u := []) (acc := []) (x' := ⟨(9, VI (List.length v.weights : Int)) :: (abq110 v), (abq108 v m)⟩) (by kernel_rfl) (opE_len cI v.weights (.s 8) 1 (by kernel_rfl) (by kernel_rfl) (.inl rfl)) (by kernel_rfl) ?_
  refine OW.last 1 [3, 5, 9, 10] (x' := ⟨(abq111 v), (abq108 v m)⟩) (by kernel_rfl) (by kernel_rfl) ?_
  refine EL.block ?_
  refine EL.loopN (fun mM xX => ∃ (k : Nat) (p : Msg) (out : List Msg), mM = v.weights.length - k ∧ (k ≤ v.weights.length ∧ (p.kind = m.kind ∧ p.op = m.op ∧ p.copy = m.copy) ∧ out = toAllM k m) ∧ xX = ⟨(abq113 out v k), [some ⟨6, (out.map Msg.cs)⟩, (abq112 p)]⟩) (y := (fun (k : Nat) (p : Msg) (out : List Msg) => (⟨(abq113 out v k), [some ⟨6, (out.map Msg.cs)⟩, (abq112 p)]⟩ : L3)) 0 m []) [3, 5, 9, 10] [.new 6, .old 1 false] [(5, 0)] (by kernel_rfl) trivial ⟨0, m, [], rfl, by exact ⟨by omega, ⟨rfl, rfl, rfl⟩, rfl⟩, rfl⟩ ?_
  rintro _ _ ⟨k, p, out, rfl, hI1, rfl⟩
  obtain ⟨hk, ⟨e1', e2', e3'⟩, ho⟩ := hI1
  have hol : out.length = k := by rw [ho]; simp [toAllM]
  refine EL.sreg ?_
  refine OW.last 1 [3, 5, 9, 10, 11] (x' := ⟨(11, .v (.bool (decide ((k : Int) < (List.length v.weights : Int))))) :: (abq113 out v k), [some ⟨6, (out.map Msg.cs)⟩, (abq112 p)]⟩) (by kernel_rfl) (by kernel_rfl) ?_
  refine EL.seq ?_
  rcases Bool.eq_false_or_eq_true (decide ((k : Int) < (List.length v.weights : Int))) with h2 | h2
  rw [h2]
  have g2 : ((k : Int) < (List.length v.weights : Int)) := of_decide_eq_true h2
  have n2 : ((k) < (List.length v.weights)) := by omega
  refine EL.condT (by kernel_rfl) ?_
  refine EL.skip ?_
  refine thenL_norm ?_
  refine EL.seq ?_
  refine EL.block ?_
  refine EL.sreg ?_
  refine OW.last 2 [3, 5, 6, 9, 10] (x' := ⟨(6, VI (k : Int)) :: (abq113 out v k), [some ⟨6, (out.map Msg.cs)⟩, (abq112 p)]⟩) (by kernel_rfl) (by kernel_rfl) ?_
  refine EL.sreg ?_
  refine OW.last 3 [3, 5, 9, 10] (x' := ⟨(abq113 out v k), [some ⟨6, (out.map Msg.cs)⟩, (abq114 p k)]⟩) (by kernel_rfl) (by kernel_rfl) ?_
  refine EL.reg0 ?_
  refine OW.run 3 (x' := ⟨(abq116 p k out v), [some ⟨6, (out.map Msg.cs)⟩, (abq114 p k), (abq114 p k)]⟩) (by kernel_rfl) ?_
  refine OW.ope (v := .own 3 6 0 (List.length (out ++ ([(⟨p.kind, p.op, (k : Int), p.copy⟩ : Msg)])))) (u := [(0, none), (3, some ⟨6, ((out ++ ([(⟨p.kind, p.op, (k : Int), p.copy⟩ : Msg)])).map Msg.cs)⟩)]) (acc := [2, 0]) (x' := ⟨(abq118 out p k v), [none, (abq114 p k), (abq114 p k), (abq117 out p k)]⟩) (by kernel_rfl) (opE_appO Msg.cs out ([(⟨p.kind, p.op, (k : Int), p.copy⟩ : Msg)]) (.s 15) (.s 17) 6 56 0 (.own 2 6 0 1) _ (by kernel_rfl) (by kernel_rfl) rfl (by kernel_rfl) rfl (.own (els := [[VI p.kind, VI p.op, VI (k : Int), VI p.copy.at_.time, VI p.copy.at_.who, .v (.string p.copy.data)]]) (by kernel_rfl) (by kernel_rfl) (of_decide_eq_true (by kernel_rfl))) (by simp; omega)) (by kernel_rfl) ?_
  refine OW.end 1 (x' := ⟨(abq119 out p k v), [none, (abq114 p k), (abq114 p k), (abq117 out p k)]⟩) (by kernel_rfl) (by kernel_rfl) ?_
  refine inBlk_norm ?_
  refine thenL_norm ?_
  refine EL.reg0 ?_
  refine OW.run 2 (x' := ⟨(10, VI (IntKind.i64.wrap ((k : Int) + 1))) :: (19, VI (IntKind.i64.wrap ((k : Int) + 1))) :: (abq120 out p k v), [none, (abq114 p k), (abq114 p k), (abq117 out p k)]⟩) (by kernel_rfl) ?_
  have e3 : IntKind.i64.wrap ((k : Int) + 1) = (k : Int) + 1 := wr64 (by omega)
  rw [e3]
  refine OW.end 0 (x' := ⟨(abq121 k out p v), [none, (abq114 p k), (abq114 p k), (abq117 out p k)]⟩) (by kernel_rfl) (by kernel_rfl) ?_
  refine thenL_norm ?_
  refine round_end (live := [3, 5, 9, 10]) (src := [.old 3 true, .old 1 false]) (es := []) (y := (fun (k : Nat) (p : Msg) (out : List Msg) => (⟨(abq113 out v k), [some ⟨6, (out.map Msg.cs)⟩, (abq112 p)]⟩ : L3)) (k + 1) (⟨p.kind, p.op, (k : Int), p.copy⟩ : Msg) (out ++ ([(⟨p.kind, p.op, (k : Int), p.copy⟩ : Msg)]))) ?_ ⟨pu 6 Msg.cs (out ++ ([(⟨p.kind, p.op, (k : Int), p.copy⟩ : Msg)])) (by kernel_rfl) (by intro y; kernel_rfl), trivial⟩ ?_ ⟨(k + 1), (⟨p.kind, p.op, (k : Int), p.copy⟩ : Msg), (out ++ ([(⟨p.kind, p.op, (k : Int), p.copy⟩ : Msg)])), rfl, ?_, rfl⟩
  kernel_rfl
  omega
  focus ((refine ⟨by omega, ⟨e1', e2', e3'⟩, ?_⟩; rw [ho, e1', e2', e3']; simp [toAllM, List.range_succ]))
  rw [h2]
  have g2 : ¬ ((k : Int) < (List.length v.weights : Int)) := of_decide_eq_false h2
  have n2 : ¬ ((k) < (List.length v.weights)) := by omega
  refine EL.condF (by kernel_rfl) ?_
  refine EL.exit ?_
  refine thenL_exit ?_
  refine thenL_exit ?_
  refine inBlk_hit ?_
  refine thenL_norm ?_
  refine EL.sreg ?_
  refine OW.last 2 [4] (x' := ⟨[(4, .own 0 6 0 (List.length out))], [some ⟨6, (out.map Msg.cs)⟩, (abq112 p)]⟩) (by kernel_rfl) (by kernel_rfl) ?_
  refine EL.ret ?_
  refine ⟨.inr rfl, .lst 6 (out.map Msg.cs), run_snap (r0 := .own 0 6 0 (List.length out)) (by kernel_rfl) (snapA_map Msg.cs out (by kernel_rfl) (by intro y; kernel_rfl) (by simp)), Ale.of_eq ?_⟩
  focus (first | (rw [ho, show k = v.weights.length by omega]; done) | trace_state)
abbrev abq122 : OB := some ⟨8, [[VI 0, VI 0, VI 0, .v (.string (⟨#[]⟩)), VI 0, VI 0, .v (.string (⟨#[]⟩)), .v (.int .u64 0)]]⟩
abbrev abq123 (v : Voters) : LB := [some ⟨2, [[.lst 1 (v.weights.map cI), VI v.need]]⟩, abq122]
abbrev abq124 (op : Int) (kind : Int) (data : ByteArray) : LS := [(8, .ref 1 8 0 0), (4, .ref 0 2 0 0), (1, VI op), (2, VI kind), (3, .v (.string data))]
abbrev abq125 (op : Int) (kind : Int) (data : ByteArray) : OB := some ⟨8, [[VI op, VI kind, VI 1, .v (.string data), VI 0, VI 0, .v (.string (⟨#[]⟩)), .v (.int .u64 0)]]⟩
abbrev abq126 (v : Voters) (op : Int) (kind : Int) (data : ByteArray) : LB := [some ⟨2, [[.lst 1 (v.weights.map cI), VI v.need]]⟩, abq122, (abq125 op kind data)]
abbrev abq127 (op : Int) : LS := [(11, .ref 2 8 0 0), (8, .ref 1 8 0 0), (4, .ref 0 2 0 0), (1, VI op)]
abbrev abq128 (op : Int) (kind : Int) (data : ByteArray) : AV := .agg [VI op, VI kind, VI 1, .v (.string data), VI 0, VI 0, .v (.string (⟨#[]⟩)), .v (.int .u64 0)]
abbrev abq129 (op : Int) (kind : Int) (data : ByteArray) (v : Voters) : LS := (18, (abq128 op kind data)) :: (17, .agg [.lst 1 (v.weights.map cI), VI v.need]) :: (abq127 op)
abbrev abq130 (v : Voters) (op : Int) (kind : Int) (data : ByteArray) : LB := [some ⟨2, [[.lst 1 (v.weights.map cI), VI v.need]]⟩, (abq125 op kind data), (abq125 op kind data)]
abbrev abq131 (v : Voters) (op : Int) : LS := [(10, VI 0), (9, .lst 6 ((toAllM v.weights.length (⟨1, op, 0, (⟨(⟨0, 0⟩ : Stamp), ⟨#[]⟩⟩ : Copy)⟩ : Msg)).map Msg.cs)), (8, .ref 1 8 0 0)]
theorem begin_fn (v : Voters) (op : Int) (kind : Int) (data : ByteArray) (hx : v.weights.length ≤ 9223372036854775807) : Fn Tryd.prog 9 [.agg [.lst 1 (v.weights.map cI), VI v.need], VI op, VI kind, .v (.string data)] (.tup [.agg [VI (((beginA v op kind data).1).op), VI (((beginA v op kind data).1).kind), VI (((beginA v op kind data).1).phase), .v (.string (((beginA v op kind data).1).data)), VI (((((beginA v op kind data).1).best).at_).time), VI (((((beginA v op kind data).1).best).at_).who), .v (.string ((((beginA v op kind data).1).best).data)), .v (.int .u64 (((beginA v op kind data).1).heard.n : Int))], .lst 6 (((beginA v op kind data).2.1).map Msg.cs), VI ((beginA v op kind data).2.2)]) := by
  refine fn_walkW F9_ok (of_decide_eq_true (by kernel_rfl)) ?_
  refine EL.sreg ?_
  refine OW.last 4 [1, 2, 3, 4, 8] (x' := ⟨(abq124 op kind data), (abq123 v)⟩) (by kernel_rfl) (by kernel_rfl) ?_
  refine EL.sreg ?_
  refine OW.last 6 [1, 4, 8, 11] (x' := ⟨(abq127 op), (abq126 v op kind data)⟩) (by kernel_rfl) (by kernel_rfl) ?_
  refine EL.seq ?_
  refine EL.sreg ?_
  refine OW.run 2 (x' := ⟨(abq129 op kind data v), (abq126 v op kind data)⟩) (by kernel_rfl) ?_
  refine OW.fn (ar := [.agg [.lst 1 (v.weights.map cI), VI v.need], (abq128 op kind data)]) (x' := ⟨(19, VI ((⟨op, kind, 1, data, (⟨(⟨0, 0⟩ : Stamp), ⟨#[]⟩⟩ : Copy), (⟨0, by decide⟩ : U64)⟩ : Ask).checkE v.weights v.need)) :: (abq129 op kind data v), (abq126 v op kind data)⟩) (by kernel_rfl) (by kernel_rfl) F13_call (acheck_fn v (⟨op, kind, 1, data, (⟨(⟨0, 0⟩ : Stamp), ⟨#[]⟩⟩ : Copy), (⟨0, by decide⟩ : U64)⟩ : Ask) hx) (by kernel_rfl) (by kernel_rfl) ?_
  refine OW.last 1 [1, 4, 8, 11, 12] (x' := ⟨(12, VI ((⟨op, kind, 1, data, (⟨(⟨0, 0⟩ : Stamp), ⟨#[]⟩⟩ : Copy), (⟨0, by decide⟩ : U64)⟩ : Ask).checkE v.weights v.need)) :: (abq127 op), (abq126 v op kind data)⟩) (by kernel_rfl) (by kernel_rfl) ?_
  refine EL.sreg ?_
  refine OW.last 2 [1, 4, 8, 11, 12, 21] (x' := ⟨(21, .v (.bool (((⟨op, kind, 1, data, (⟨(⟨0, 0⟩ : Stamp), ⟨#[]⟩⟩ : Copy), (⟨0, by decide⟩ : U64)⟩ : Ask).checkE v.weights v.need) != 0))) :: (12, VI ((⟨op, kind, 1, data, (⟨(⟨0, 0⟩ : Stamp), ⟨#[]⟩⟩ : Copy), (⟨0, by decide⟩ : U64)⟩ : Ask).checkE v.weights v.need)) :: (abq127 op), (abq126 v op kind data)⟩) (by kernel_rfl) (by kernel_rfl) ?_
  rcases Bool.eq_false_or_eq_true ((((⟨op, kind, 1, data, (⟨(⟨0, 0⟩ : Stamp), ⟨#[]⟩⟩ : Copy), (⟨0, by decide⟩ : U64)⟩ : Ask).checkE v.weights v.need) != 0)) with h1 | h1
  rw [h1]
  have g1 : ¬ (((⟨op, kind, 1, data, (⟨(⟨0, 0⟩ : Stamp), ⟨#[]⟩⟩ : Copy), (⟨0, by decide⟩ : U64)⟩ : Ask).checkE v.weights v.need) = 0) := by simpa using h1
  refine EL.condT (by kernel_rfl) ?_
  refine EL.sreg ?_
  refine OW.last 5 [8, 9, 10] (x' := ⟨[(10, VI ((⟨op, kind, 1, data, (⟨(⟨0, 0⟩ : Stamp), ⟨#[]⟩⟩ : Copy), (⟨0, by decide⟩ : U64)⟩ : Ask).checkE v.weights v.need)), (9, .emp), (8, .ref 1 8 0 0)], (abq126 v op kind data)⟩) (by kernel_rfl) (by kernel_rfl) ?_
  refine EL.ret ?_
  refine thenL_ret ?_
  refine ⟨.inr rfl, .tup [.agg [VI 0, VI 0, VI 0, .v (.string (⟨#[]⟩)), VI 0, VI 0, .v (.string (⟨#[]⟩)), .v (.int .u64 0)], .emp, VI ((⟨op, kind, 1, data, (⟨(⟨0, 0⟩ : Stamp), ⟨#[]⟩⟩ : Copy), (⟨0, by decide⟩ : U64)⟩ : Ask).checkE v.weights v.need)], by kernel_rfl, Ale.trans (b := .tup [.agg [VI 0, VI 0, VI 0, .v (.string (⟨#[]⟩)), VI 0, VI 0, .v (.string (⟨#[]⟩)), .v (.int .u64 0)], .lst 6 [], VI ((⟨op, kind, 1, data, (⟨(⟨0, 0⟩ : Stamp), ⟨#[]⟩⟩ : Copy), (⟨0, by decide⟩ : U64)⟩ : Ask).checkE v.weights v.need)]) (Ale.tup (.cons (Ale.refl) (.cons (Ale.emp) (.cons (Ale.refl) (.nil))))) (Ale.of_eq ?_)⟩
  focus (first | rfl | (simp [beginA, Ask.zero, Ask.new, *]; done) | (simp_all [beginA, Ask.zero, Ask.new]; done) | (exfalso; simp_all; omega) | trace_state)
  rw [h1]
  have g1 : (((⟨op, kind, 1, data, (⟨(⟨0, 0⟩ : Stamp), ⟨#[]⟩⟩ : Copy), (⟨0, by decide⟩ : U64)⟩ : Ask).checkE v.weights v.need) = 0) := by simpa using h1
  refine EL.condF (by kernel_rfl) ?_
  refine EL.skip ?_
  refine thenL_norm ?_
  refine EL.sdraw ?_
  refine DW.run 4 (x' := ⟨(27, .agg [VI 1, VI op, VI 0, VI 0, VI 0, .v (.string (⟨#[]⟩))]) :: (26, VI op) :: (25, .agg [.lst 1 (v.weights.map cI), VI v.need]) :: (24, (abq128 op kind data)) :: (21, .v (.bool false)) :: (12, VI ((⟨op, kind, 1, data, (⟨(⟨0, 0⟩ : Stamp), ⟨#[]⟩⟩ : Copy), (⟨0, by decide⟩ : U64)⟩ : Ask).checkE v.weights v.need)) :: (abq127 op), (abq126 v op kind data)⟩) (by kernel_rfl) ?_
  refine DW.fn (ar := [.agg [.lst 1 (v.weights.map cI), VI v.need], .agg [VI 1, VI op, VI 0, VI 0, VI 0, .v (.string (⟨#[]⟩))]]) (x' := ⟨(28, .lst 6 ((toAllM v.weights.length (⟨1, op, 0, (⟨(⟨0, 0⟩ : Stamp), ⟨#[]⟩⟩ : Copy)⟩ : Msg)).map Msg.cs)) :: (27, .agg [VI 1, VI op, VI 0, VI 0, VI 0, .v (.string (⟨#[]⟩))]) :: (26, VI op) :: (25, .agg [.lst 1 (v.weights.map cI), VI v.need]) :: (24, (abq128 op kind data)) :: (21, .v (.bool false)) :: (12, VI ((⟨op, kind, 1, data, (⟨(⟨0, 0⟩ : Stamp), ⟨#[]⟩⟩ : Copy), (⟨0, by decide⟩ : U64)⟩ : Ask).checkE v.weights v.need)) :: (abq127 op), (abq126 v op kind data)⟩) (by kernel_rfl) (by kernel_rfl) F22_call (toAllM_fn v (⟨1, op, 0, (⟨(⟨0, 0⟩ : Stamp), ⟨#[]⟩⟩ : Copy)⟩ : Msg) (by first | omega | exact qc_len (ask_ok (by assumption)).1)) (by kernel_rfl) (by kernel_rfl) ?_
  refine DW.last 3 [8, 9, 10] (x' := ⟨(abq131 v op), (abq130 v op kind data)⟩) (by kernel_rfl) (by kernel_rfl) ?_
  refine EL.ret ?_
  refine ⟨.inr rfl, .tup [.agg [VI op, VI kind, VI 1, .v (.string data), VI 0, VI 0, .v (.string (⟨#[]⟩)), .v (.int .u64 0)], .lst 6 ((toAllM v.weights.length (⟨1, op, 0, (⟨(⟨0, 0⟩ : Stamp), ⟨#[]⟩⟩ : Copy)⟩ : Msg)).map Msg.cs), VI 0], by kernel_rfl, Ale.of_eq ?_⟩
  focus (first | rfl | (simp [beginA, Ask.zero, Ask.new, *]; done) | (simp_all [beginA, Ask.zero, Ask.new]; done) | (exfalso; simp_all; omega) | trace_state)
end Go.Proofs.YtgepadjkegfokaaDoor
