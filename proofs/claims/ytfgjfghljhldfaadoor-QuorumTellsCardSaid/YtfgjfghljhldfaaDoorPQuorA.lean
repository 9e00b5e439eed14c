/- What the functions of package quorum answer, and their references. No condition. -/
import Derived.Test.YtfgjfghljhldfaaDoorPAc
import Derived.Test.YtfgjfghljhldfaaDoorPAvDel
import Derived.Test.YtfgjfghljhldfaaDoorPApi
import Derived.Test.YtfgjfghljhldfaaDoorPAvTab
import Derived.Test.YtfgjfghljhldfaaDoorPQuorM
set_option maxRecDepth 100000
set_option maxHeartbeats 4000000
set_option linter.unusedVariables false
set_option linter.unusedSimpArgs false
namespace Go.Proofs.YtfgjfghljhldfaaDoor
theorem tz_res {x : Nat} (h0 : x ≠ 0) (h : x < 18446744073709551616) : (0 ≤ (IntKind.u64.wrap ((bits .and .u64 (x : Int) (IntKind.u64.wrap (0 - (x : Int)))) * 285870213051353865)).fdiv (2 ^ (min 58 IntKind.u64.bits)) ∧ (IntKind.u64.wrap ((bits .and .u64 (x : Int) (IntKind.u64.wrap (0 - (x : Int)))) * 285870213051353865)).fdiv (2 ^ (min 58 IntKind.u64.bits)) < 64) ∧ glZ.getD (Int.toNat ((IntKind.u64.wrap ((bits .and .u64 (x : Int) (IntKind.u64.wrap (0 - (x : Int)))) * 285870213051353865)).fdiv (2 ^ (min 58 IntKind.u64.bits)))) 0 = (tz x : Int) := by
  rw [neg_bits h0 h]
  exact gl_at (tz_lt 64 x h0 (by simpa using h))
theorem fdn32 {n : Nat} (_ : (0 : Int) ≤ 0) : ((n : Int)).fdiv (2 ^ (min 32 IntKind.u64.bits)) = ((n / 4294967296 : Nat) : Int) := by
  show ((n : Int)).fdiv 4294967296 = _
  rw [Int.fdiv_eq_ediv_of_nonneg _ (by decide)]; omega
theorem fdn16 {n : Nat} (_ : (0 : Int) ≤ 0) : ((n : Int)).fdiv (2 ^ (min 16 IntKind.u64.bits)) = ((n / 65536 : Nat) : Int) := by
  show ((n : Int)).fdiv 65536 = _
  rw [Int.fdiv_eq_ediv_of_nonneg _ (by decide)]; omega
theorem fdn8 {n : Nat} (_ : (0 : Int) ≤ 0) : ((n : Int)).fdiv (2 ^ (min 8 IntKind.u64.bits)) = ((n / 256 : Nat) : Int) := by
  show ((n : Int)).fdiv 256 = _
  rw [Int.fdiv_eq_ediv_of_nonneg _ (by decide)]; omega
theorem wr8 {a : Int} (h : 0 ≤ a ∧ a ≤ 255) : IntKind.u8.wrap a = a := by
  have : IntKind.u8.wrap a = a % 256 := by simp [IntKind.wrap, IntKind.bits, IntKind.signed]
  omega
theorem len64_b {n : Nat} (h : n < 256) {m : Int} (hm : m = n) {b : UInt8} (hb : l8s[Int.toNat m]? = some b) : b.toNat = len64 n := by
  subst hm; exact l8_get h hb
theorem len64_32 {n : Nat} (h : 4294967296 ≤ n) : len64 n = len64 (n / 4294967296) + 32 := len64_shift (k := 32) h
theorem len64_16 {n : Nat} (h : 65536 ≤ n) : len64 n = len64 (n / 65536) + 16 := len64_shift (k := 16) h
theorem len64_s8 {n : Nat} (h : 256 ≤ n) : len64 n = len64 (n / 256) + 8 := len64_shift (k := 8) h
def nodesGo : List Int → Int → Int × Int
  | [], a => (a, 0)
  | w :: r, a => if 0 ≤ w ∧ w ≤ 100 then nodesGo r (a + w) else (0, 3)
def nodesP (ws : List Int) : Int × Int := if ws.length = 0 then (0, 8) else if ws.length > 12 then (0, 2) else nodesGo ws 0
theorem nodesGo_bd : ∀ (ws : List Int) (a : Int), 0 ≤ a → (nodesGo ws a).2 = 0 → a ≤ (nodesGo ws a).1 ∧ (nodesGo ws a).1 ≤ a + 100 * ws.length
  | [], a, h, _ => by simp [nodesGo]
  | w :: r, a, h, h2 => by
    unfold nodesGo at h2 ⊢
    split
    · rename_i hw
      rw [if_pos hw] at h2
      have := nodesGo_bd r (a + w) (by omega) h2
      simp only [List.length_cons]; omega
    · rename_i hw; rw [if_neg hw] at h2; simp at h2
theorem nodes_bd {ws : List Int} (h : (nodesP ws).2 = 0) : 0 ≤ (nodesP ws).1 ∧ (nodesP ws).1 ≤ 1200 ∧ 1 ≤ ws.length ∧ ws.length ≤ 12 ∧ ∀ w, w ∈ ws → 0 ≤ w ∧ w ≤ 100 := by
  unfold nodesP at h ⊢
  by_cases h1 : ws.length = 0
  · rw [if_pos h1] at h; simp at h
  · by_cases h2 : ws.length > 12
    · rw [if_neg h1, if_pos h2] at h; simp at h
    · rw [if_neg h1, if_neg h2] at h ⊢
      have := nodesGo_bd ws 0 (by omega) h
      refine ⟨this.1, by omega, by omega, by omega, ?_⟩
      have key : ∀ (l : List Int) (a : Int), (nodesGo l a).2 = 0 → ∀ w, w ∈ l → 0 ≤ w ∧ w ≤ 100 := by
        intro l
        induction l with
        | nil => intro a _ w hw; simp at hw
        | cons v r ih =>
          intro a h w hw
          unfold nodesGo at h
          split at h
          · rename_i hv
            rcases List.mem_cons.1 hw with rfl | hw
            · exact hv
            · exact ih _ h w hw
          · simp at h
      exact key ws 0 h
def qcheckP (ws : List Int) (need : Int) : Int := if (nodesP ws).2 ≠ 0 then (nodesP ws).2 else if need < 1 ∨ need > (nodesP ws).1 then 3 else if 2 * need ≤ (nodesP ws).1 then 4 else 0
def sumP (ws : List Int) (x : Nat) : Int × Int := if (nodesP ws).2 ≠ 0 then (0, (nodesP ws).2) else if 2 ^ ws.length ≤ x then (0, 3) else (bsum ws x, 0)
def enoughP (ws : List Int) (need : Int) (x : Nat) : Bool × Int := if qcheckP ws need ≠ 0 then (false, qcheckP ws need) else ((sumP ws x).2 == 0 && decide ((sumP ws x).1 ≥ need), (sumP ws x).2)
abbrev qaq0 (ws : List Int) : LS := [(7, .lst 1 (ws.map cI)), (2, VI 0), (0, .lst 1 (ws.map cI))]
abbrev qaq1 (ws : List Int) : LS := [(11, .lst 1 (ws.map cI)), (6, .v (.bool false)), (2, VI 0), (0, .lst 1 (ws.map cI))]
abbrev qaq2 (ws : List Int) : LS := [(14, .lst 1 (ws.map cI)), (10, .v (.bool false)), (2, VI 0), (0, .lst 1 (ws.map cI))]
abbrev qaq3 (ws : List Int) : LS := [(16, VI 0), (15, VI (List.length ws : Int)), (14, .lst 1 (ws.map cI)), (2, VI 0)]
abbrev qaq4 (a : Int) (ws : List Int) (k : Nat) : LS := [(2, VI a), (14, .lst 1 (ws.map cI)), (15, VI (List.length ws : Int)), (16, VI (k : Int))]
abbrev qaq5 (a5 : Int) (a : Int) (ws : List Int) (k : Nat) : LS := (18, .pim [VI a5] 0) :: (17, .v (.bool true)) :: (qaq4 a ws k)
abbrev qaq6 (a5 : Int) (a : Int) (ws : List Int) (k : Nat) : LS := [(27, VI a5), (26, VI a), (25, .v (.bool false)), (5, VI a5), (14, .lst 1 (ws.map cI)), (15, VI (List.length ws : Int)), (16, VI (k : Int))]
abbrev qaq7 (a : Int) (a5 : Int) (ws : List Int) : LS := [(2, VI (a + a5)), (28, VI (a + a5)), (27, VI a5), (26, VI a), (25, .v (.bool false)), (5, VI a5), (14, .lst 1 (ws.map cI)), (15, VI (List.length ws : Int))]
abbrev qaq8 (k : Nat) (a : Int) (a5 : Int) (ws : List Int) : LS := (16, VI ((k : Int) + 1)) :: (29, VI ((k : Int) + 1)) :: (qaq7 a a5 ws)
theorem nodes_fn (ws : List Int) (hx : ws.length ≤ 9223372036854775807) : Fn Tryd.prog 20 [.lst 1 (ws.map cI)] (.tup [VI ((nodesP ws).1), VI ((nodesP ws).2)]) := by
  refine fn_walkW F20_ok (of_decide_eq_true (by kernel_rfl)) ?_
  refine EL.sreg ?_
  refine OW.last 2 [0, 2] (x' := ⟨[(2, VI 0), (0, .lst 1 (ws.map cI))], []⟩) (by kernel_rfl) (by kernel_rfl) ?_
  refine EL.seq ?_
  refine EL.block ?_
  refine EL.sreg ?_
  refine OW.run 1 (x' := ⟨(qaq0 ws), []⟩) (by kernel_rfl) ?_
  refine OW.ope (v := VI (List.length ws : Int)) (u := []) (acc := []) (x' := ⟨(8, VI (List.length ws : Int)) :: (qaq0 ws), []⟩) (by kernel_rfl) (opE_len cI ws (.s 7) 1 (by kernel_rfl) (by kernel_rfl) (.inl rfl)) (by kernel_rfl) ?_
  refine OW.last 2 [0, 2, 6] (x' := ⟨[(6, .v (.bool ((List.length ws : Int) == 0))), (2, VI 0), (0, .lst 1 (ws.map cI))], []⟩) (by kernel_rfl) (by kernel_rfl) ?_
  rcases Bool.eq_false_or_eq_true (((List.length ws : Int) == 0)) with h1 | h1
  rw [h1]
  have g1 : ((List.length ws : Int) = 0) := by simpa using h1
  have n1 : ((List.length ws) = 0) := by omega
  refine EL.condT (by kernel_rfl) ?_
  refine EL.sreg ?_
  refine OW.last 2 [2, 3] (x' := ⟨[(3, VI 8), (2, VI 0)], []⟩) (by kernel_rfl) (by kernel_rfl) ?_
  refine EL.ret ?_
  refine inBlk_ret ?_
  refine thenL_ret ?_
  refine ⟨.inr rfl, .tup [VI 0, VI 8], by kernel_rfl, Ale.of_eq ?_⟩
  focus (first | (rw [nodesP, if_pos (by omega)]; done) | (rw [nodesP, if_neg (by omega), if_pos (by omega)]; done) | (rw [nodesP, if_neg (by omega), if_neg (by omega), hs]; first | (rw [List.drop_eq_nil_of_le (by omega)]; rfl) | (rw [‹ws.drop k = _›, nodesGo, if_neg (by omega)]; done)) | trace_state)
  rw [h1]
  have g1 : ¬ ((List.length ws : Int) = 0) := by simpa using h1
  have n1 : ¬ ((List.length ws) = 0) := by omega
  refine EL.condF (by kernel_rfl) ?_
  refine EL.sreg ?_
  refine OW.run 1 (x' := ⟨(qaq1 ws), []⟩) (by kernel_rfl) ?_
  refine OW.ope (v := VI (List.length ws : Int)) (u := []) (acc := []) (x' := ⟨(12, VI (List.length ws : Int)) :: (qaq1 ws), []⟩) (by kernel_rfl) (opE_len cI ws (.s 11) 1 (by kernel_rfl) (by kernel_rfl) (.inl rfl)) (by kernel_rfl) ?_
  refine OW.last 2 [0, 2, 10] (x' := ⟨[(10, .v (.bool (decide ((List.length ws : Int) > 12)))), (2, VI 0), (0, .lst 1 (ws.map cI))], []⟩) (by kernel_rfl) (by kernel_rfl) ?_
  rcases Bool.eq_false_or_eq_true (decide ((List.length ws : Int) > 12)) with h2 | h2
  rw [h2]
  have g2 : ((List.length ws : Int) > 12) := of_decide_eq_true h2
  have n2 : ((List.length ws) > 12) := by omega
  refine EL.condT (by kernel_rfl) ?_
  refine EL.sreg ?_
  refine OW.last 2 [2, 3] (x' := ⟨[(3, VI 2), (2, VI 0)], []⟩) (by kernel_rfl) (by kernel_rfl) ?_
  refine EL.ret ?_
  refine inBlk_ret ?_
  refine thenL_ret ?_
  refine ⟨.inr rfl, .tup [VI 0, VI 2], by kernel_rfl, Ale.of_eq ?_⟩
  focus (first | (rw [nodesP, if_pos (by omega)]; done) | (rw [nodesP, if_neg (by omega), if_pos (by omega)]; done) | (rw [nodesP, if_neg (by omega), if_neg (by omega), hs]; first | (rw [List.drop_eq_nil_of_le (by omega)]; rfl) | (rw [‹ws.drop k = _›, nodesGo, if_neg (by omega)]; done)) | trace_state)
  rw [h2]
  have g2 : ¬ ((List.length ws : Int) > 12) := of_decide_eq_false h2
  have n2 : ¬ ((List.length ws) > 12) := by omega
  refine EL.condF (by kernel_rfl) ?_
  refine EL.skip ?_
  refine inBlk_norm ?_
  refine thenL_norm ?_
  refine EL.seq ?_
  refine EL.sreg ?_
  refine OW.run 1 (x' := ⟨(qaq2 ws), []⟩) (by kernel_rfl) ?_
  refine OW.ope (v := VI (List.length ws : Int)) (u := []) (acc := []) (x' := ⟨(15, VI (List.length ws : Int)) :: (qaq2 ws), []⟩) (by kernel_rfl) (opE_len cI ws (.s 14) 1 (by kernel_rfl) (by kernel_rfl) (.inl rfl)) (by kernel_rfl) ?_
  refine OW.last 1 [2, 14, 15, 16] (x' := ⟨(qaq3 ws), []⟩) (by kernel_rfl) (by kernel_rfl) ?_
  refine EL.block ?_
  refine EL.loopN (fun mM xX => ∃ (k : Nat) (a : Int), mM = ws.length - k ∧ (k ≤ ws.length ∧ 1 ≤ ws.length ∧ ws.length ≤ 12 ∧ 0 ≤ a ∧ a ≤ 100 * k ∧ nodesGo ws 0 = nodesGo (ws.drop k) a) ∧ xX = ⟨(qaq4 a ws k), []⟩) (y := (fun (k : Nat) (a : Int) => (⟨(qaq4 a ws k), []⟩ : L3)) 0 0) [2, 14, 15, 16] [] [] (by kernel_rfl) trivial ⟨0, 0, rfl, by simp; omega, rfl⟩ ?_
  rintro _ _ ⟨k, a, rfl, hI3, rfl⟩
  obtain ⟨hk, hl1, hl2, ha0, ha1, hs⟩ := hI3
  refine EL.sreg ?_
  refine OW.last 1 [2, 14, 15, 16, 17] (x' := ⟨(17, .v (.bool (decide ((k : Int) < (List.length ws : Int))))) :: (qaq4 a ws k), []⟩) (by kernel_rfl) (by kernel_rfl) ?_
  refine EL.seq ?_
  rcases Bool.eq_false_or_eq_true (decide ((k : Int) < (List.length ws : Int))) with h4 | h4
  rw [h4]
  have g4 : ((k : Int) < (List.length ws : Int)) := of_decide_eq_true h4
  have n4 : ((k) < (List.length ws)) := by omega
  refine EL.condT (by kernel_rfl) ?_
  refine EL.skip ?_
  refine thenL_norm ?_
  refine EL.seq ?_
  refine EL.block ?_
  refine EL.sreg ?_
  obtain ⟨a5, ha5⟩ : ∃ y, ws[((k : Int) : Int).toNat]? = some y := idx_ex ⟨by omega, by omega⟩
  have iha5 : ws[k]? = some a5 := by simpa using ha5
  have dha5 := drop_get iha5
  refine OW.ope (v := .pim [VI a5] 0) (u := []) (acc := []) (x' := ⟨(qaq5 a5 a ws k), []⟩) (by kernel_rfl) (opE_iad cI ws (.s 14) (.s 16) 1 .i64 (k : Int) a5 (by kernel_rfl) (by kernel_rfl) (.inl rfl) rfl (by omega) ha5) (by kernel_rfl) ?_
  refine OW.last 2 [2, 5, 14, 15, 16] (x' := ⟨(5, VI a5) :: (qaq4 a ws k), []⟩) (by kernel_rfl) (by kernel_rfl) ?_
  refine EL.seq ?_
  refine EL.sreg ?_
  refine OW.run 3 (x' := ⟨(22, .v (.bool (decide (a5 < 0)))) :: (21, .v (.bool (decide (a5 < 0)))) :: (20, VI a5) :: (5, VI a5) :: (qaq4 a ws k), []⟩) (by kernel_rfl) ?_
  rcases Bool.eq_false_or_eq_true (decide (a5 < 0)) with h6 | h6
  rw [h6]
  have g6 : (a5 < 0) := of_decide_eq_true h6
  refine OW.last 3 [2, 5, 14, 15, 16, 25] (x' := ⟨(25, .v (.bool true)) :: (5, VI a5) :: (qaq4 a ws k), []⟩) (by kernel_rfl) (by kernel_rfl) ?_
  refine EL.condT (by kernel_rfl) ?_
  refine EL.sreg ?_
  refine OW.last 2 [2, 3] (x' := ⟨[(3, VI 3), (2, VI 0)], []⟩) (by kernel_rfl) (by kernel_rfl) ?_
  refine EL.ret ?_
  refine thenL_ret ?_
  refine inBlk_ret ?_
  refine thenL_ret ?_
  refine thenL_ret ?_
  refine inBlk_ret ?_
  refine thenL_ret ?_
  refine ⟨.inr rfl, .tup [VI 0, VI 3], by kernel_rfl, Ale.of_eq ?_⟩
  focus (first | (rw [nodesP, if_pos (by omega)]; done) | (rw [nodesP, if_neg (by omega), if_pos (by omega)]; done) | (rw [nodesP, if_neg (by omega), if_neg (by omega), hs]; first | (rw [List.drop_eq_nil_of_le (by omega)]; rfl) | (rw [‹ws.drop k = _›, nodesGo, if_neg (by omega)]; done)) | trace_state)
  rw [h6]
  have g6 : ¬ (a5 < 0) := of_decide_eq_false h6
  refine OW.last 3 [2, 5, 14, 15, 16, 25] (x' := ⟨(25, .v (.bool (decide (a5 > 100)))) :: (5, VI a5) :: (qaq4 a ws k), []⟩) (by kernel_rfl) (by kernel_rfl) ?_
  rcases Bool.eq_false_or_eq_true (decide (a5 > 100)) with h7 | h7
  rw [h7]
  have g7 : (a5 > 100) := of_decide_eq_true h7
  refine EL.condT (by kernel_rfl) ?_
  refine EL.sreg ?_
  refine OW.last 2 [2, 3] (x' := ⟨[(3, VI 3), (2, VI 0)], []⟩) (by kernel_rfl) (by kernel_rfl) ?_
  refine EL.ret ?_
  refine thenL_ret ?_
  refine inBlk_ret ?_
  refine thenL_ret ?_
  refine thenL_ret ?_
  refine inBlk_ret ?_
  refine thenL_ret ?_
  refine ⟨.inr rfl, .tup [VI 0, VI 3], by kernel_rfl, Ale.of_eq ?_⟩
  focus (first | (rw [nodesP, if_pos (by omega)]; done) | (rw [nodesP, if_neg (by omega), if_pos (by omega)]; done) | (rw [nodesP, if_neg (by omega), if_neg (by omega), hs]; first | (rw [List.drop_eq_nil_of_le (by omega)]; rfl) | (rw [‹ws.drop k = _›, nodesGo, if_neg (by omega)]; done)) | trace_state)
  rw [h7]
  have g7 : ¬ (a5 > 100) := of_decide_eq_false h7
  refine EL.condF (by kernel_rfl) ?_
  refine EL.skip ?_
  refine thenL_norm ?_
  refine EL.reg0 ?_
  refine OW.run 4 (x' := ⟨(2, VI (IntKind.i64.wrap (a + a5))) :: (28, VI (IntKind.i64.wrap (a + a5))) :: (qaq6 a5 a ws k), []⟩) (by kernel_rfl) ?_
  have e8 : IntKind.i64.wrap (a + a5) = a + a5 := wr64 (by omega)
  rw [e8]
  refine OW.end 0 (x' := ⟨(2, VI (a + a5)) :: (28, VI (a + a5)) :: (qaq6 a5 a ws k), []⟩) (by kernel_rfl) (by kernel_rfl) ?_
  refine inBlk_norm ?_
  refine thenL_norm ?_
  refine EL.reg0 ?_
  refine OW.run 2 (x' := ⟨(16, VI (IntKind.i64.wrap ((k : Int) + 1))) :: (29, VI (IntKind.i64.wrap ((k : Int) + 1))) :: (qaq7 a a5 ws), []⟩) (by kernel_rfl) ?_
  have e9 : IntKind.i64.wrap ((k : Int) + 1) = (k : Int) + 1 := wr64 (by omega)
  rw [e9]
  refine OW.end 0 (x' := ⟨(qaq8 k a a5 ws), []⟩) (by kernel_rfl) (by kernel_rfl) ?_
  refine thenL_norm ?_
  refine round_end (live := [2, 14, 15, 16]) (src := []) (es := []) (y := (fun (k : Nat) (a : Int) => (⟨(qaq4 a ws k), []⟩ : L3)) (k + 1) (a + a5)) ?_ trivial ?_ ⟨(k + 1), (a + a5), rfl, ?_, rfl⟩
  kernel_rfl
  omega
  focus (refine ⟨by omega, hl1, hl2, by omega, by omega, ?_⟩; rw [hs, ‹ws.drop k = _›, nodesGo, if_pos (by omega)])
  rw [h4]
  have g4 : ¬ ((k : Int) < (List.length ws : Int)) := of_decide_eq_false h4
  have n4 : ¬ ((k) < (List.length ws)) := by omega
  refine EL.condF (by kernel_rfl) ?_
  refine EL.exit ?_
  refine thenL_exit ?_
  refine thenL_exit ?_
  refine inBlk_hit ?_
  refine thenL_norm ?_
  refine EL.sreg ?_
  refine OW.last 3 [2, 3] (x' := ⟨[(3, VI 0), (2, VI a)], []⟩) (by kernel_rfl) (by kernel_rfl) ?_
  refine EL.ret ?_
  refine ⟨.inr rfl, .tup [VI a, VI 0], by kernel_rfl, Ale.of_eq ?_⟩
  focus (first | (rw [nodesP, if_pos (by omega)]; done) | (rw [nodesP, if_neg (by omega), if_pos (by omega)]; done) | (rw [nodesP, if_neg (by omega), if_neg (by omega), hs]; first | (rw [List.drop_eq_nil_of_le (by omega)]; rfl) | (rw [‹ws.drop k = _›, nodesGo, if_neg (by omega)]; done)) | trace_state)
abbrev qaq9 (ws : List Int) (need : Int) : LS := [(8, .lst 1 (ws.map cI)), (0, .lst 1 (ws.map cI)), (1, VI need)]
abbrev qaq10 (ws : List Int) (need : Int) : LS := (9, .tup [VI ((nodesP ws).1), VI ((nodesP ws).2)]) :: (qaq9 ws need)
abbrev qaq11 (ws : List Int) (need : Int) : LS := [(6, VI ((nodesP ws).2)), (5, VI ((nodesP ws).1)), (1, VI need)]
abbrev qaq12 (ws : List Int) (need : Int) : LS := [(16, .v (.bool true)), (5, VI ((nodesP ws).1)), (1, VI need)]
abbrev qaq13 (need : Int) (ws : List Int) : LS := [(25, VI need), (16, .v (.bool false)), (5, VI ((nodesP ws).1)), (1, VI need)]
theorem qcheck_fn (ws : List Int) (need : Int) (hx : ws.length ≤ 9223372036854775807) : Fn Tryd.prog 18 [.lst 1 (ws.map cI), VI need] (VI (qcheckP ws need)) := by
  refine fn_walkW F18_ok (of_decide_eq_true (by kernel_rfl)) ?_
  refine EL.sreg ?_
  refine OW.last 1 [0, 1] (x' := ⟨[(0, .lst 1 (ws.map cI)), (1, VI need)], []⟩) (by kernel_rfl) (by kernel_rfl) ?_
  refine EL.sreg ?_
  refine OW.run 1 (x' := ⟨(qaq9 ws need), []⟩) (by kernel_rfl) ?_
  refine OW.fn (ar := [.lst 1 (ws.map cI)]) (x' := ⟨(qaq10 ws need), []⟩) (by kernel_rfl) (by kernel_rfl) F20_call (nodes_fn ws (by first | omega | (simp; omega))) (by kernel_rfl) (by kernel_rfl) ?_
  refine OW.last 5 [1, 5, 6] (x' := ⟨(qaq11 ws need), []⟩) (by kernel_rfl) (by kernel_rfl) ?_
  refine EL.seq ?_
  refine EL.block ?_
  refine EL.sreg ?_
  refine OW.last 3 [1, 5, 6, 12] (x' := ⟨(12, .v (.bool (((nodesP ws).2) != 0))) :: (qaq11 ws need), []⟩) (by kernel_rfl) (by kernel_rfl) ?_
  rcases Bool.eq_false_or_eq_true ((((nodesP ws).2) != 0)) with h1 | h1
  rw [h1]
  have g1 : ¬ (((nodesP ws).2) = 0) := by simpa using h1
  refine EL.condT (by kernel_rfl) ?_
  refine EL.sreg ?_
  refine OW.last 2 [4] (x' := ⟨[(4, VI ((nodesP ws).2))], []⟩) (by kernel_rfl) (by kernel_rfl) ?_
  refine EL.ret ?_
  refine inBlk_ret ?_
  refine thenL_ret ?_
  refine ⟨.inr rfl, VI ((nodesP ws).2), by kernel_rfl, Ale.of_eq ?_⟩
  focus ((refine congrArg (fun n => VI n) ?_; simp only [qcheckP]; (repeat' split) <;> first | rfl | omega | (exfalso; omega) | contradiction | trace_state))
  rw [h1]
  have g1 : (((nodesP ws).2) = 0) := by simpa using h1
  refine EL.condF (by kernel_rfl) ?_
  refine EL.sreg ?_
  refine OW.run 3 (x' := ⟨(19, .v (.bool (decide (need < 1)))) :: (18, .v (.bool (decide (need < 1)))) :: (17, VI need) :: (12, .v (.bool false)) :: (qaq11 ws need), []⟩) (by kernel_rfl) ?_
  rcases Bool.eq_false_or_eq_true (decide (need < 1)) with h2 | h2
  rw [h2]
  have g2 : (need < 1) := of_decide_eq_true h2
  refine OW.last 5 [1, 5, 16] (x' := ⟨(qaq12 ws need), []⟩) (by kernel_rfl) (by kernel_rfl) ?_
  refine EL.condT (by kernel_rfl) ?_
  refine EL.sreg ?_
  refine OW.last 1 [4] (x' := ⟨[(4, VI 3)], []⟩) (by kernel_rfl) (by kernel_rfl) ?_
  refine EL.ret ?_
  refine inBlk_ret ?_
  refine thenL_ret ?_
  refine ⟨.inr rfl, VI 3, by kernel_rfl, Ale.of_eq ?_⟩
  focus ((refine congrArg (fun n => VI n) ?_; simp only [qcheckP]; (repeat' split) <;> first | rfl | omega | (exfalso; omega) | contradiction | trace_state))
  rw [h2]
  have g2 : ¬ (need < 1) := of_decide_eq_false h2
  refine OW.last 5 [1, 5, 16] (x' := ⟨[(16, .v (.bool (decide (need > (nodesP ws).1)))), (5, VI ((nodesP ws).1)), (1, VI need)], []⟩) (by kernel_rfl) (by kernel_rfl) ?_
  rcases Bool.eq_false_or_eq_true (decide (need > (nodesP ws).1)) with h3 | h3
  rw [h3]
  have g3 : (need > (nodesP ws).1) := of_decide_eq_true h3
  refine EL.condT (by kernel_rfl) ?_
  refine EL.sreg ?_
  refine OW.last 1 [4] (x' := ⟨[(4, VI 3)], []⟩) (by kernel_rfl) (by kernel_rfl) ?_
  refine EL.ret ?_
  refine inBlk_ret ?_
  refine thenL_ret ?_
  refine ⟨.inr rfl, VI 3, by kernel_rfl, Ale.of_eq ?_⟩
  focus ((refine congrArg (fun n => VI n) ?_; simp only [qcheckP]; (repeat' split) <;> first | rfl | omega | (exfalso; omega) | contradiction | trace_state))
  rw [h3]
  have g3 : ¬ (need > (nodesP ws).1) := of_decide_eq_false h3
  refine EL.condF (by kernel_rfl) ?_
  refine EL.sreg ?_
  refine OW.run 5 (x' := ⟨(24, .v (.bool (decide ((IntKind.i64.wrap (2 * need)) ≤ (nodesP ws).1)))) :: (28, .v (.bool (decide ((IntKind.i64.wrap (2 * need)) ≤ (nodesP ws).1)))) :: (27, VI ((nodesP ws).1)) :: (26, VI (IntKind.i64.wrap (2 * need))) :: (qaq13 need ws), []⟩) (by kernel_rfl) ?_
  have e4 : IntKind.i64.wrap (2 * need) = 2 * need := wr64 (by have hb := nodes_bd (ws := ws) (by assumption); omega)
  rw [e4]
  refine OW.last 0 [24] (x' := ⟨[(24, .v (.bool (decide ((2 * need) ≤ (nodesP ws).1))))], []⟩) (by kernel_rfl) (by kernel_rfl) ?_
  rcases Bool.eq_false_or_eq_true (decide ((2 * need) ≤ (nodesP ws).1)) with h5 | h5
  rw [h5]
  have g5 : ((2 * need) ≤ (nodesP ws).1) := of_decide_eq_true h5
  refine EL.condT (by kernel_rfl) ?_
  refine EL.sreg ?_
  refine OW.last 1 [4] (x' := ⟨[(4, VI 4)], []⟩) (by kernel_rfl) (by kernel_rfl) ?_
  refine EL.ret ?_
  refine inBlk_ret ?_
  refine thenL_ret ?_
  refine ⟨.inr rfl, VI 4, by kernel_rfl, Ale.of_eq ?_⟩
  focus ((refine congrArg (fun n => VI n) ?_; simp only [qcheckP]; (repeat' split) <;> first | rfl | omega | (exfalso; omega) | contradiction | trace_state))
  rw [h5]
  have g5 : ¬ ((2 * need) ≤ (nodesP ws).1) := of_decide_eq_false h5
  refine EL.condF (by kernel_rfl) ?_
  refine EL.skip ?_
  refine inBlk_norm ?_
  refine thenL_norm ?_
  refine EL.sreg ?_
  refine OW.last 1 [4] (x' := ⟨[(4, VI 0)], []⟩) (by kernel_rfl) (by kernel_rfl) ?_
  refine EL.ret ?_
  refine ⟨.inr rfl, VI 0, by kernel_rfl, Ale.of_eq ?_⟩
  focus ((refine congrArg (fun n => VI n) ?_; simp only [qcheckP]; (repeat' split) <;> first | rfl | omega | (exfalso; omega) | contradiction | trace_state))
abbrev qaq14 (x : U64) : LS := [(6, .v (.int .u64 (x.n : Int))), (5, .v (.int .u64 (x.n : Int))), (4, .v (.bool false)), (0, .v (.int .u64 (x.n : Int)))]
theorem tz_fn (x : U64) : Fn Tryd.prog 22 [.v (.int .u64 (x.n : Int))] (VI (tz x.n : Int)) := by
  refine fn_walkW F22_ok (of_decide_eq_true (by kernel_rfl)) ?_
  refine EL.sreg ?_
  refine OW.last 1 [0] (x' := ⟨[(0, .v (.int .u64 (x.n : Int)))], []⟩) (by kernel_rfl) (by kernel_rfl) ?_
  refine EL.seq ?_
  refine EL.sreg ?_
  refine OW.last 2 [0, 4] (x' := ⟨[(4, .v (.bool ((x.n : Int) == 0))), (0, .v (.int .u64 (x.n : Int)))], []⟩) (by kernel_rfl) (by kernel_rfl) ?_
  rcases Bool.eq_false_or_eq_true (((x.n : Int) == 0)) with h1 | h1
  rw [h1]
  have g1 : ((x.n : Int) = 0) := by simpa using h1
  refine EL.condT (by kernel_rfl) ?_
  refine EL.sreg ?_
  refine OW.last 1 [2] (x' := ⟨[(2, VI 64)], []⟩) (by kernel_rfl) (by kernel_rfl) ?_
  refine EL.ret ?_
  refine thenL_ret ?_
  refine ⟨.inr rfl, VI 64, by kernel_rfl, Ale.of_eq ?_⟩
  focus ((refine congrArg (fun n => VI n) ?_; first | (have h0 : x.n = 0 := (by omega); rw [h0, tz, if_pos rfl]; rfl) | (have ht := tz_res (x := x.n) (by omega) x.lt; rw [ht.2]; have := tz_lt 64 x.n (by omega) (by simpa using x.lt); exact wr64 (by omega)) | trace_state))
  rw [h1]
  have g1 : ¬ ((x.n : Int) = 0) := by simpa using h1
  refine EL.condF (by kernel_rfl) ?_
  refine EL.skip ?_
  refine thenL_norm ?_
  refine EL.sreg ?_
  refine OW.run 6 (x' := ⟨(10, .v (.int .u64 ((IntKind.u64.wrap ((bits .and .u64 (x.n : Int) (IntKind.u64.wrap (0 - (x.n : Int)))) * 285870213051353865)).fdiv (2 ^ (min 58 IntKind.u64.bits))))) :: (9, .v (.int .u64 (IntKind.u64.wrap ((bits .and .u64 (x.n : Int) (IntKind.u64.wrap (0 - (x.n : Int)))) * 285870213051353865)))) :: (8, .v (.int .u64 (bits .and .u64 (x.n : Int) (IntKind.u64.wrap (0 - (x.n : Int)))))) :: (7, .v (.int .u64 (IntKind.u64.wrap (0 - (x.n : Int))))) :: (qaq14 x), []⟩) (by kernel_rfl) ?_
  refine OW.ope (v := .pim glC (0 + Int.toNat ((IntKind.u64.wrap ((bits .and .u64 (x.n : Int) (IntKind.u64.wrap (0 - (x.n : Int)))) * 285870213051353865)).fdiv (2 ^ (min 58 IntKind.u64.bits))) * 1)) (u := []) (acc := []) (x' := ⟨(11, .pim glC (0 + Int.toNat ((IntKind.u64.wrap ((bits .and .u64 (x.n : Int) (IntKind.u64.wrap (0 - (x.n : Int)))) * 285870213051353865)).fdiv (2 ^ (min 58 IntKind.u64.bits))) * 1)) :: (10, .v (.int .u64 ((IntKind.u64.wrap ((bits .and .u64 (x.n : Int) (IntKind.u64.wrap (0 - (x.n : Int)))) * 285870213051353865)).fdiv (2 ^ (min 58 IntKind.u64.bits))))) :: (9, .v (.int .u64 (IntKind.u64.wrap ((bits .and .u64 (x.n : Int) (IntKind.u64.wrap (0 - (x.n : Int)))) * 285870213051353865)))) :: (8, .v (.int .u64 (bits .and .u64 (x.n : Int) (IntKind.u64.wrap (0 - (x.n : Int)))))) :: (7, .v (.int .u64 (IntKind.u64.wrap (0 - (x.n : Int))))) :: (qaq14 x), []⟩) (by kernel_rfl) (opE_iapP 1 64 (.c (.pim glC 0)) (.s 10) glC 0 .u64 ((IntKind.u64.wrap ((bits .and .u64 (x.n : Int) (IntKind.u64.wrap (0 - (x.n : Int)))) * 285870213051353865)).fdiv (2 ^ (min 58 IntKind.u64.bits))) (by kernel_rfl) (by kernel_rfl) (by kernel_rfl) (by kernel_rfl) ⟨(tz_res (x := x.n) (by omega) x.lt).1.1, (tz_res (x := x.n) (by omega) x.lt).1.2⟩) (by kernel_rfl) ?_
  refine OW.ope (v := .v (.int .u8 (glZ.getD (Int.toNat ((IntKind.u64.wrap ((bits .and .u64 (x.n : Int) (IntKind.u64.wrap (0 - (x.n : Int)))) * 285870213051353865)).fdiv (2 ^ (min 58 IntKind.u64.bits)))) 0))) (u := []) (acc := []) (x' := ⟨(12, .v (.int .u8 (glZ.getD (Int.toNat ((IntKind.u64.wrap ((bits .and .u64 (x.n : Int) (IntKind.u64.wrap (0 - (x.n : Int)))) * 285870213051353865)).fdiv (2 ^ (min 58 IntKind.u64.bits)))) 0))) :: (11, .pim glC (0 + Int.toNat ((IntKind.u64.wrap ((bits .and .u64 (x.n : Int) (IntKind.u64.wrap (0 - (x.n : Int)))) * 285870213051353865)).fdiv (2 ^ (min 58 IntKind.u64.bits))) * 1)) :: (10, .v (.int .u64 ((IntKind.u64.wrap ((bits .and .u64 (x.n : Int) (IntKind.u64.wrap (0 - (x.n : Int)))) * 285870213051353865)).fdiv (2 ^ (min 58 IntKind.u64.bits))))) :: (9, .v (.int .u64 (IntKind.u64.wrap ((bits .and .u64 (x.n : Int) (IntKind.u64.wrap (0 - (x.n : Int)))) * 285870213051353865)))) :: (8, .v (.int .u64 (bits .and .u64 (x.n : Int) (IntKind.u64.wrap (0 - (x.n : Int)))))) :: (7, .v (.int .u64 (IntKind.u64.wrap (0 - (x.n : Int))))) :: (qaq14 x), []⟩) (by kernel_rfl) (opE_ldP none (.s 11) glC (0 + Int.toNat ((IntKind.u64.wrap ((bits .and .u64 (x.n : Int) (IntKind.u64.wrap (0 - (x.n : Int)))) * 285870213051353865)).fdiv (2 ^ (min 58 IntKind.u64.bits))) * 1) (.v (.int .u8 (glZ.getD (Int.toNat ((IntKind.u64.wrap ((bits .and .u64 (x.n : Int) (IntKind.u64.wrap (0 - (x.n : Int)))) * 285870213051353865)).fdiv (2 ^ (min 58 IntKind.u64.bits)))) 0))) (by kernel_rfl) (by kernel_rfl) (by kernel_rfl) (gl_ld (by have ht := tz_res (x := x.n) (by omega) x.lt; rw [show glZ.length = 64 from rfl]; omega))) (by kernel_rfl) ?_
  refine OW.last 2 [2] (x' := ⟨[(2, VI (IntKind.i64.wrap ((glZ.getD (Int.toNat ((IntKind.u64.wrap ((bits .and .u64 (x.n : Int) (IntKind.u64.wrap (0 - (x.n : Int)))) * 285870213051353865)).fdiv (2 ^ (min 58 IntKind.u64.bits)))) 0))))], []⟩) (by kernel_rfl) (by kernel_rfl) ?_
  refine EL.ret ?_
  refine ⟨.inr rfl, VI (IntKind.i64.wrap ((glZ.getD (Int.toNat ((IntKind.u64.wrap ((bits .and .u64 (x.n : Int) (IntKind.u64.wrap (0 - (x.n : Int)))) * 285870213051353865)).fdiv (2 ^ (min 58 IntKind.u64.bits)))) 0))), by kernel_rfl, Ale.of_eq ?_⟩
  focus ((refine congrArg (fun n => VI n) ?_; first | (have h0 : x.n = 0 := (by omega); rw [h0, tz, if_pos rfl]; rfl) | (have ht := tz_res (x := x.n) (by omega) x.lt; rw [ht.2]; have := tz_lt 64 x.n (by omega) (by simpa using x.lt); exact wr64 (by omega)) | trace_state))
abbrev qaq15 (x : U64) : LS := [(5, .v (.int .u64 (x.n : Int))), (4, .v (.bool true)), (2, VI 0)]
abbrev qaq16 (x : U64) : LS := [(9, .v (.int .u64 ((x.n / 4294967296 : Nat) : Int))), (8, .v (.bool true)), (2, VI 32)]
abbrev qaq17 (x : U64) : LS := [(2, VI 48), (12, VI 48), (11, VI 32), (0, .v (.int .u64 (((x.n / 4294967296 : Nat) / 65536 : Nat) : Int)))]
abbrev qaq18 (x : U64) : LS := [(15, .v (.int .u64 (((x.n / 4294967296 : Nat) / 65536 : Nat) : Int))), (14, .v (.bool true)), (2, VI 48)]
abbrev qaq19 (x : U64) : LS := [(2, VI 56), (18, VI 56), (17, VI 48), (0, .v (.int .u64 ((((x.n / 4294967296 : Nat) / 65536 : Nat) / 256 : Nat) : Int)))]
abbrev qaq20 (x : U64) : LS := (20, .v (.int .u64 ((((x.n / 4294967296 : Nat) / 65536 : Nat) / 256 : Nat) : Int))) :: (19, VI 56) :: (qaq19 x)
abbrev qaq21 (b9 : UInt8) (x : U64) : LS := (22, .v (.int .u8 (UInt8.toNat b9 : Int))) :: (21, .v (.int .u8 (((((x.n / 4294967296 : Nat) / 65536 : Nat) / 256 : Nat) : Int)))) :: (qaq20 x)
abbrev qaq22 (b9 : UInt8) (x : U64) : LS := [(22, .v (.int .u8 (UInt8.toNat b9 : Int))), (21, .v (.int .u8 (((((x.n / 4294967296 : Nat) / 65536 : Nat) / 256 : Nat) : Int)))), (20, .v (.int .u64 ((((x.n / 4294967296 : Nat) / 65536 : Nat) / 256 : Nat) : Int))), (19, VI 56), (18, VI 56), (17, VI 48), (0, .v (.int .u64 ((((x.n / 4294967296 : Nat) / 65536 : Nat) / 256 : Nat) : Int)))]
abbrev qaq23 (x : U64) : LS := [(20, .v (.int .u64 (((x.n / 4294967296 : Nat) / 65536 : Nat) : Int))), (19, VI 48), (14, .v (.bool false)), (2, VI 48), (0, .v (.int .u64 (((x.n / 4294967296 : Nat) / 65536 : Nat) : Int)))]
abbrev qaq24 (b14 : UInt8) (x : U64) : LS := (22, .v (.int .u8 (UInt8.toNat b14 : Int))) :: (21, .v (.int .u8 ((((x.n / 4294967296 : Nat) / 65536 : Nat) : Int)))) :: (qaq23 x)
abbrev qaq25 (b14 : UInt8) (x : U64) : LS := [(22, .v (.int .u8 (UInt8.toNat b14 : Int))), (21, .v (.int .u8 ((((x.n / 4294967296 : Nat) / 65536 : Nat) : Int)))), (20, .v (.int .u64 (((x.n / 4294967296 : Nat) / 65536 : Nat) : Int))), (19, VI 48), (14, .v (.bool false)), (0, .v (.int .u64 (((x.n / 4294967296 : Nat) / 65536 : Nat) : Int)))]
abbrev qaq26 (x : U64) : LS := [(15, .v (.int .u64 ((x.n / 4294967296 : Nat) : Int))), (14, .v (.bool true)), (2, VI 32)]
abbrev qaq27 (x : U64) : LS := [(2, VI 40), (18, VI 40), (17, VI 32), (0, .v (.int .u64 (((x.n / 4294967296 : Nat) / 256 : Nat) : Int)))]
abbrev qaq28 (x : U64) : LS := (20, .v (.int .u64 (((x.n / 4294967296 : Nat) / 256 : Nat) : Int))) :: (19, VI 40) :: (qaq27 x)
abbrev qaq29 (b21 : UInt8) (x : U64) : LS := (22, .v (.int .u8 (UInt8.toNat b21 : Int))) :: (21, .v (.int .u8 ((((x.n / 4294967296 : Nat) / 256 : Nat) : Int)))) :: (qaq28 x)
abbrev qaq30 (b21 : UInt8) (x : U64) : LS := [(22, .v (.int .u8 (UInt8.toNat b21 : Int))), (21, .v (.int .u8 ((((x.n / 4294967296 : Nat) / 256 : Nat) : Int)))), (20, .v (.int .u64 (((x.n / 4294967296 : Nat) / 256 : Nat) : Int))), (19, VI 40), (18, VI 40), (17, VI 32), (0, .v (.int .u64 (((x.n / 4294967296 : Nat) / 256 : Nat) : Int)))]
abbrev qaq31 (x : U64) : LS := [(20, .v (.int .u64 ((x.n / 4294967296 : Nat) : Int))), (19, VI 32), (14, .v (.bool false)), (2, VI 32), (0, .v (.int .u64 ((x.n / 4294967296 : Nat) : Int)))]
abbrev qaq32 (b26 : UInt8) (x : U64) : LS := (22, .v (.int .u8 (UInt8.toNat b26 : Int))) :: (21, .v (.int .u8 (((x.n / 4294967296 : Nat) : Int)))) :: (qaq31 x)
abbrev qaq33 (b26 : UInt8) (x : U64) : LS := [(22, .v (.int .u8 (UInt8.toNat b26 : Int))), (21, .v (.int .u8 (((x.n / 4294967296 : Nat) : Int)))), (20, .v (.int .u64 ((x.n / 4294967296 : Nat) : Int))), (19, VI 32), (14, .v (.bool false)), (0, .v (.int .u64 ((x.n / 4294967296 : Nat) : Int)))]
abbrev qaq34 (x : U64) : LS := [(9, .v (.int .u64 (x.n : Int))), (8, .v (.bool true)), (2, VI 0)]
abbrev qaq35 (x : U64) : LS := [(2, VI 16), (12, VI 16), (11, VI 0), (0, .v (.int .u64 ((x.n / 65536 : Nat) : Int)))]
abbrev qaq36 (x : U64) : LS := [(15, .v (.int .u64 ((x.n / 65536 : Nat) : Int))), (14, .v (.bool true)), (2, VI 16)]
abbrev qaq37 (x : U64) : LS := [(2, VI 24), (18, VI 24), (17, VI 16), (0, .v (.int .u64 (((x.n / 65536 : Nat) / 256 : Nat) : Int)))]
abbrev qaq38 (x : U64) : LS := (20, .v (.int .u64 (((x.n / 65536 : Nat) / 256 : Nat) : Int))) :: (19, VI 24) :: (qaq37 x)
abbrev qaq39 (b35 : UInt8) (x : U64) : LS := (22, .v (.int .u8 (UInt8.toNat b35 : Int))) :: (21, .v (.int .u8 ((((x.n / 65536 : Nat) / 256 : Nat) : Int)))) :: (qaq38 x)
abbrev qaq40 (b35 : UInt8) (x : U64) : LS := [(22, .v (.int .u8 (UInt8.toNat b35 : Int))), (21, .v (.int .u8 ((((x.n / 65536 : Nat) / 256 : Nat) : Int)))), (20, .v (.int .u64 (((x.n / 65536 : Nat) / 256 : Nat) : Int))), (19, VI 24), (18, VI 24), (17, VI 16), (0, .v (.int .u64 (((x.n / 65536 : Nat) / 256 : Nat) : Int)))]
abbrev qaq41 (x : U64) : LS := [(20, .v (.int .u64 ((x.n / 65536 : Nat) : Int))), (19, VI 16), (14, .v (.bool false)), (2, VI 16), (0, .v (.int .u64 ((x.n / 65536 : Nat) : Int)))]
abbrev qaq42 (b40 : UInt8) (x : U64) : LS := (22, .v (.int .u8 (UInt8.toNat b40 : Int))) :: (21, .v (.int .u8 (((x.n / 65536 : Nat) : Int)))) :: (qaq41 x)
abbrev qaq43 (b40 : UInt8) (x : U64) : LS := [(22, .v (.int .u8 (UInt8.toNat b40 : Int))), (21, .v (.int .u8 (((x.n / 65536 : Nat) : Int)))), (20, .v (.int .u64 ((x.n / 65536 : Nat) : Int))), (19, VI 16), (14, .v (.bool false)), (0, .v (.int .u64 ((x.n / 65536 : Nat) : Int)))]
abbrev qaq44 (x : U64) : LS := [(15, .v (.int .u64 (x.n : Int))), (14, .v (.bool true)), (2, VI 0)]
abbrev qaq45 (x : U64) : LS := [(2, VI 8), (18, VI 8), (17, VI 0), (0, .v (.int .u64 ((x.n / 256 : Nat) : Int)))]
abbrev qaq46 (x : U64) : LS := (20, .v (.int .u64 ((x.n / 256 : Nat) : Int))) :: (19, VI 8) :: (qaq45 x)
abbrev qaq47 (b47 : UInt8) (x : U64) : LS := (22, .v (.int .u8 (UInt8.toNat b47 : Int))) :: (21, .v (.int .u8 (((x.n / 256 : Nat) : Int)))) :: (qaq46 x)
abbrev qaq48 (b47 : UInt8) (x : U64) : LS := [(22, .v (.int .u8 (UInt8.toNat b47 : Int))), (21, .v (.int .u8 (((x.n / 256 : Nat) : Int)))), (20, .v (.int .u64 ((x.n / 256 : Nat) : Int))), (19, VI 8), (18, VI 8), (17, VI 0), (0, .v (.int .u64 ((x.n / 256 : Nat) : Int)))]
abbrev qaq49 (x : U64) : LS := [(20, .v (.int .u64 (x.n : Int))), (19, VI 0), (14, .v (.bool false)), (2, VI 0), (0, .v (.int .u64 (x.n : Int)))]
abbrev qaq50 (b52 : UInt8) (x : U64) : LS := (22, .v (.int .u8 (UInt8.toNat b52 : Int))) :: (21, .v (.int .u8 ((x.n : Int)))) :: (qaq49 x)
abbrev qaq51 (b52 : UInt8) (x : U64) : LS := [(22, .v (.int .u8 (UInt8.toNat b52 : Int))), (21, .v (.int .u8 ((x.n : Int)))), (20, .v (.int .u64 (x.n : Int))), (19, VI 0), (14, .v (.bool false)), (0, .v (.int .u64 (x.n : Int)))]
theorem len64_fn (x : U64) : Fn Tryd.prog 21 [.v (.int .u64 (x.n : Int))] (VI (len64 x.n : Int)) := by
  have hlt := x.lt
  have hz : l8s.size = 256 := rfl
  refine fn_walkW F21_ok (of_decide_eq_true (by kernel_rfl)) ?_
  refine EL.sreg ?_
  refine OW.last 1 [0, 2] (x' := ⟨[(2, VI 0), (0, .v (.int .u64 (x.n : Int)))], []⟩) (by kernel_rfl) (by kernel_rfl) ?_
  refine EL.seq ?_
  refine EL.sreg ?_
  refine OW.last 2 [0, 2, 4] (x' := ⟨[(4, .v (.bool (decide ((x.n : Int) ≥ 4294967296)))), (2, VI 0), (0, .v (.int .u64 (x.n : Int)))], []⟩) (by kernel_rfl) (by kernel_rfl) ?_
  rcases Bool.eq_false_or_eq_true (decide ((x.n : Int) ≥ 4294967296)) with h1 | h1
  rw [h1]
  have g1 : ((x.n : Int) ≥ 4294967296) := of_decide_eq_true h1
  refine EL.condT (by kernel_rfl) ?_
  refine EL.sreg ?_
  refine OW.run 3 (x' := ⟨(0, .v (.int .u64 (((x.n : Int)).fdiv (2 ^ (min 32 IntKind.u64.bits))))) :: (6, .v (.int .u64 (((x.n : Int)).fdiv (2 ^ (min 32 IntKind.u64.bits))))) :: (qaq15 x), []⟩) (by kernel_rfl) ?_
  have e2 : ((x.n : Int)).fdiv (2 ^ (min 32 IntKind.u64.bits)) = ((x.n / 4294967296 : Nat) : Int) := fdn32 (by omega)
  rw [e2]
  refine OW.last 0 [0] (x' := ⟨[(0, .v (.int .u64 ((x.n / 4294967296 : Nat) : Int)))], []⟩) (by kernel_rfl) (by kernel_rfl) ?_
  refine EL.reg0 ?_
  refine OW.end 1 (x' := ⟨[(2, VI 32), (0, .v (.int .u64 ((x.n / 4294967296 : Nat) : Int)))], []⟩) (by kernel_rfl) (by kernel_rfl) ?_
  refine thenL_norm ?_
  refine EL.seq ?_
  refine EL.sreg ?_
  refine OW.last 2 [0, 2, 8] (x' := ⟨[(8, .v (.bool (decide (((x.n / 4294967296 : Nat) : Int) ≥ 65536)))), (2, VI 32), (0, .v (.int .u64 ((x.n / 4294967296 : Nat) : Int)))], []⟩) (by kernel_rfl) (by kernel_rfl) ?_
  rcases Bool.eq_false_or_eq_true (decide (((x.n / 4294967296 : Nat) : Int) ≥ 65536)) with h3 | h3
  rw [h3]
  have g3 : (((x.n / 4294967296 : Nat) : Int) ≥ 65536) := of_decide_eq_true h3
  refine EL.condT (by kernel_rfl) ?_
  refine EL.sreg ?_
  refine OW.run 3 (x' := ⟨(0, .v (.int .u64 ((((x.n / 4294967296 : Nat) : Int)).fdiv (2 ^ (min 16 IntKind.u64.bits))))) :: (10, .v (.int .u64 ((((x.n / 4294967296 : Nat) : Int)).fdiv (2 ^ (min 16 IntKind.u64.bits))))) :: (qaq16 x), []⟩) (by kernel_rfl) ?_
  have e4 : (((x.n / 4294967296 : Nat) : Int)).fdiv (2 ^ (min 16 IntKind.u64.bits)) = (((x.n / 4294967296 : Nat) / 65536 : Nat) : Int) := fdn16 (by omega)
  rw [e4]
  refine OW.last 0 [0, 2] (x' := ⟨[(0, .v (.int .u64 (((x.n / 4294967296 : Nat) / 65536 : Nat) : Int))), (2, VI 32)], []⟩) (by kernel_rfl) (by kernel_rfl) ?_
  refine EL.reg0 ?_
  refine OW.end 3 (x' := ⟨(qaq17 x), []⟩) (by kernel_rfl) (by kernel_rfl) ?_
  refine thenL_norm ?_
  refine EL.seq ?_
  refine EL.sreg ?_
  refine OW.last 2 [0, 2, 14] (x' := ⟨[(14, .v (.bool (decide ((((x.n / 4294967296 : Nat) / 65536 : Nat) : Int) ≥ 256)))), (2, VI 48), (0, .v (.int .u64 (((x.n / 4294967296 : Nat) / 65536 : Nat) : Int)))], []⟩) (by kernel_rfl) (by kernel_rfl) ?_
  rcases Bool.eq_false_or_eq_true (decide ((((x.n / 4294967296 : Nat) / 65536 : Nat) : Int) ≥ 256)) with h5 | h5
  rw [h5]
  have g5 : ((((x.n / 4294967296 : Nat) / 65536 : Nat) : Int) ≥ 256) := of_decide_eq_true h5
  refine EL.condT (by kernel_rfl) ?_
  refine EL.sreg ?_
  refine OW.run 3 (x' := ⟨(0, .v (.int .u64 (((((x.n / 4294967296 : Nat) / 65536 : Nat) : Int)).fdiv (2 ^ (min 8 IntKind.u64.bits))))) :: (16, .v (.int .u64 (((((x.n / 4294967296 : Nat) / 65536 : Nat) : Int)).fdiv (2 ^ (min 8 IntKind.u64.bits))))) :: (qaq18 x), []⟩) (by kernel_rfl) ?_
  have e6 : ((((x.n / 4294967296 : Nat) / 65536 : Nat) : Int)).fdiv (2 ^ (min 8 IntKind.u64.bits)) = ((((x.n / 4294967296 : Nat) / 65536 : Nat) / 256 : Nat) : Int) := fdn8 (by omega)
  rw [e6]
  refine OW.last 0 [0, 2] (x' := ⟨[(0, .v (.int .u64 ((((x.n / 4294967296 : Nat) / 65536 : Nat) / 256 : Nat) : Int))), (2, VI 48)], []⟩) (by kernel_rfl) (by kernel_rfl) ?_
  refine EL.reg0 ?_
  refine OW.end 3 (x' := ⟨(qaq19 x), []⟩) (by kernel_rfl) (by kernel_rfl) ?_
  refine thenL_norm ?_
  refine EL.sreg ?_
  refine OW.run 3 (x' := ⟨(21, .v (.int .u8 (IntKind.u8.wrap (((((x.n / 4294967296 : Nat) / 65536 : Nat) / 256 : Nat) : Int))))) :: (qaq20 x), []⟩) (by kernel_rfl) ?_
  have e8 : IntKind.u8.wrap (((((x.n / 4294967296 : Nat) / 65536 : Nat) / 256 : Nat) : Int)) = ((((x.n / 4294967296 : Nat) / 65536 : Nat) / 256 : Nat) : Int) := wr8 (by omega)
  rw [e8]
  obtain ⟨b9, hb9⟩ : ∃ b, l8s[Int.toNat (((((x.n / 4294967296 : Nat) / 65536 : Nat) / 256 : Nat) : Int))]? = some b := six_ex ⟨by omega, by omega⟩
  have qb9 := UInt8.toNat_lt b9
  refine OW.ope (v := .v (.int .u8 (UInt8.toNat b9 : Int))) (u := []) (acc := []) (x' := ⟨(qaq21 b9 x), []⟩) (by kernel_rfl) (opE_six l8s (.c (.v (.string l8s))) (.s 21) .u8 (((((x.n / 4294967296 : Nat) / 65536 : Nat) / 256 : Nat) : Int)) b9 (by kernel_rfl) (by kernel_rfl) (by kernel_rfl) (by kernel_rfl) (by omega) hb9) (by kernel_rfl) ?_
  refine OW.run 3 (x' := ⟨(2, VI (IntKind.i64.wrap (56 + (IntKind.i64.wrap ((UInt8.toNat b9 : Int)))))) :: (24, VI (IntKind.i64.wrap (56 + (IntKind.i64.wrap ((UInt8.toNat b9 : Int)))))) :: (23, VI (IntKind.i64.wrap ((UInt8.toNat b9 : Int)))) :: (qaq22 b9 x), []⟩) (by kernel_rfl) ?_
  have e10 : IntKind.i64.wrap ((UInt8.toNat b9 : Int)) = (UInt8.toNat b9 : Int) := wr64 (by omega)
  rw [e10]
  have e11 : IntKind.i64.wrap (56 + ((UInt8.toNat b9 : Int))) = 56 + ((UInt8.toNat b9 : Int)) := wr64 (by omega)
  rw [e11]
  refine OW.last 0 [2] (x' := ⟨[(2, VI (56 + ((UInt8.toNat b9 : Int))))], []⟩) (by kernel_rfl) (by kernel_rfl) ?_
  refine EL.ret ?_
  refine ⟨.inr rfl, VI (56 + ((UInt8.toNat b9 : Int))), by kernel_rfl, Ale.of_eq ?_⟩
  focus ((refine congrArg (fun n => VI n) ?_; have hlt := x.lt; first | (have h0 := len64_32 (n := x.n) (by omega); have h1 := len64_16 (n := x.n / 4294967296) (by omega); have h2 := len64_s8 (n := x.n / 4294967296 / 65536) (by omega);  have hl := len64_b (n := x.n / 4294967296 / 65536 / 256) (by omega) rfl (by assumption); omega) | (have h0 := len64_32 (n := x.n) (by omega); have h1 := len64_16 (n := x.n / 4294967296) (by omega);  have hl := len64_b (n := x.n / 4294967296 / 65536) (by omega) rfl (by assumption); omega) | (have h0 := len64_32 (n := x.n) (by omega); have h1 := len64_s8 (n := x.n / 4294967296) (by omega);  have hl := len64_b (n := x.n / 4294967296 / 256) (by omega) rfl (by assumption); omega) | (have h0 := len64_32 (n := x.n) (by omega);  have hl := len64_b (n := x.n / 4294967296) (by omega) rfl (by assumption); omega) | (have h0 := len64_16 (n := x.n) (by omega); have h1 := len64_s8 (n := x.n / 65536) (by omega);  have hl := len64_b (n := x.n / 65536 / 256) (by omega) rfl (by assumption); omega) | (have h0 := len64_16 (n := x.n) (by omega);  have hl := len64_b (n := x.n / 65536) (by omega) rfl (by assumption); omega) | (have h0 := len64_s8 (n := x.n) (by omega);  have hl := len64_b (n := x.n / 256) (by omega) rfl (by assumption); omega) | ( have hl := len64_b (n := x.n) (by omega) rfl (by assumption); omega) | trace_state))
  rw [h5]
  have g5 : ¬ ((((x.n / 4294967296 : Nat) / 65536 : Nat) : Int) ≥ 256) := of_decide_eq_false h5
  refine EL.condF (by kernel_rfl) ?_
  refine EL.skip ?_
  refine thenL_norm ?_
  refine EL.sreg ?_
  refine OW.run 3 (x' := ⟨(21, .v (.int .u8 (IntKind.u8.wrap ((((x.n / 4294967296 : Nat) / 65536 : Nat) : Int))))) :: (qaq23 x), []⟩) (by kernel_rfl) ?_
  have e13 : IntKind.u8.wrap ((((x.n / 4294967296 : Nat) / 65536 : Nat) : Int)) = (((x.n / 4294967296 : Nat) / 65536 : Nat) : Int) := wr8 (by omega)
  rw [e13]
  obtain ⟨b14, hb14⟩ : ∃ b, l8s[Int.toNat ((((x.n / 4294967296 : Nat) / 65536 : Nat) : Int))]? = some b := six_ex ⟨by omega, by omega⟩
  have qb14 := UInt8.toNat_lt b14
  refine OW.ope (v := .v (.int .u8 (UInt8.toNat b14 : Int))) (u := []) (acc := []) (x' := ⟨(qaq24 b14 x), []⟩) (by kernel_rfl) (opE_six l8s (.c (.v (.string l8s))) (.s 21) .u8 ((((x.n / 4294967296 : Nat) / 65536 : Nat) : Int)) b14 (by kernel_rfl) (by kernel_rfl) (by kernel_rfl) (by kernel_rfl) (by omega) hb14) (by kernel_rfl) ?_
  refine OW.run 3 (x' := ⟨(2, VI (IntKind.i64.wrap (48 + (IntKind.i64.wrap ((UInt8.toNat b14 : Int)))))) :: (24, VI (IntKind.i64.wrap (48 + (IntKind.i64.wrap ((UInt8.toNat b14 : Int)))))) :: (23, VI (IntKind.i64.wrap ((UInt8.toNat b14 : Int)))) :: (qaq25 b14 x), []⟩) (by kernel_rfl) ?_
  have e15 : IntKind.i64.wrap ((UInt8.toNat b14 : Int)) = (UInt8.toNat b14 : Int) := wr64 (by omega)
  rw [e15]
  have e16 : IntKind.i64.wrap (48 + ((UInt8.toNat b14 : Int))) = 48 + ((UInt8.toNat b14 : Int)) := wr64 (by omega)
  rw [e16]
  refine OW.last 0 [2] (x' := ⟨[(2, VI (48 + ((UInt8.toNat b14 : Int))))], []⟩) (by kernel_rfl) (by kernel_rfl) ?_
  refine EL.ret ?_
  refine ⟨.inr rfl, VI (48 + ((UInt8.toNat b14 : Int))), by kernel_rfl, Ale.of_eq ?_⟩
  focus ((refine congrArg (fun n => VI n) ?_; have hlt := x.lt; first | (have h0 := len64_32 (n := x.n) (by omega); have h1 := len64_16 (n := x.n / 4294967296) (by omega); have h2 := len64_s8 (n := x.n / 4294967296 / 65536) (by omega);  have hl := len64_b (n := x.n / 4294967296 / 65536 / 256) (by omega) rfl (by assumption); omega) | (have h0 := len64_32 (n := x.n) (by omega); have h1 := len64_16 (n := x.n / 4294967296) (by omega);  have hl := len64_b (n := x.n / 4294967296 / 65536) (by omega) rfl (by assumption); omega) | (have h0 := len64_32 (n := x.n) (by omega); have h1 := len64_s8 (n := x.n / 4294967296) (by omega);  have hl := len64_b (n := x.n / 4294967296 / 256) (by omega) rfl (by assumption); omega) | (have h0 := len64_32 (n := x.n) (by omega);  have hl := len64_b (n := x.n / 4294967296) (by omega) rfl (by assumption); omega) | (have h0 := len64_16 (n := x.n) (by omega); have h1 := len64_s8 (n := x.n / 65536) (by omega);  have hl := len64_b (n := x.n / 65536 / 256) (by omega) rfl (by assumption); omega) | (have h0 := len64_16 (n := x.n) (by omega);  have hl := len64_b (n := x.n / 65536) (by omega) rfl (by assumption); omega) | (have h0 := len64_s8 (n := x.n) (by omega);  have hl := len64_b (n := x.n / 256) (by omega) rfl (by assumption); omega) | ( have hl := len64_b (n := x.n) (by omega) rfl (by assumption); omega) | trace_state))
  rw [h3]
  have g3 : ¬ (((x.n / 4294967296 : Nat) : Int) ≥ 65536) := of_decide_eq_false h3
  refine EL.condF (by kernel_rfl) ?_
  refine EL.skip ?_
  refine thenL_norm ?_
  refine EL.seq ?_
  refine EL.sreg ?_
  refine OW.last 2 [0, 2, 14] (x' := ⟨[(14, .v (.bool (decide (((x.n / 4294967296 : Nat) : Int) ≥ 256)))), (2, VI 32), (0, .v (.int .u64 ((x.n / 4294967296 : Nat) : Int)))], []⟩) (by kernel_rfl) (by kernel_rfl) ?_
  rcases Bool.eq_false_or_eq_true (decide (((x.n / 4294967296 : Nat) : Int) ≥ 256)) with h17 | h17
  rw [h17]
  have g17 : (((x.n / 4294967296 : Nat) : Int) ≥ 256) := of_decide_eq_true h17
  refine EL.condT (by kernel_rfl) ?_
  refine EL.sreg ?_
  refine OW.run 3 (x' := ⟨(0, .v (.int .u64 ((((x.n / 4294967296 : Nat) : Int)).fdiv (2 ^ (min 8 IntKind.u64.bits))))) :: (16, .v (.int .u64 ((((x.n / 4294967296 : Nat) : Int)).fdiv (2 ^ (min 8 IntKind.u64.bits))))) :: (qaq26 x), []⟩) (by kernel_rfl) ?_
  have e18 : (((x.n / 4294967296 : Nat) : Int)).fdiv (2 ^ (min 8 IntKind.u64.bits)) = (((x.n / 4294967296 : Nat) / 256 : Nat) : Int) := fdn8 (by omega)
  rw [e18]
  refine OW.last 0 [0, 2] (x' := ⟨[(0, .v (.int .u64 (((x.n / 4294967296 : Nat) / 256 : Nat) : Int))), (2, VI 32)], []⟩) (by kernel_rfl) (by kernel_rfl) ?_
  refine EL.reg0 ?_
  refine OW.end 3 (x' := ⟨(qaq27 x), []⟩) (by kernel_rfl) (by kernel_rfl) ?_
  refine thenL_norm ?_
  refine EL.sreg ?_
  refine OW.run 3 (x' := ⟨(21, .v (.int .u8 (IntKind.u8.wrap ((((x.n / 4294967296 : Nat) / 256 : Nat) : Int))))) :: (qaq28 x), []⟩) (by kernel_rfl) ?_
  have e20 : IntKind.u8.wrap ((((x.n / 4294967296 : Nat) / 256 : Nat) : Int)) = (((x.n / 4294967296 : Nat) / 256 : Nat) : Int) := wr8 (by omega)
  rw [e20]
  obtain ⟨b21, hb21⟩ : ∃ b, l8s[Int.toNat ((((x.n / 4294967296 : Nat) / 256 : Nat) : Int))]? = some b := six_ex ⟨by omega, by omega⟩
  have qb21 := UInt8.toNat_lt b21
  refine OW.ope (v := .v (.int .u8 (UInt8.toNat b21 : Int))) (u := []) (acc := []) (x' := ⟨(qaq29 b21 x), []⟩) (by kernel_rfl) (opE_six l8s (.c (.v (.string l8s))) (.s 21) .u8 ((((x.n / 4294967296 : Nat) / 256 : Nat) : Int)) b21 (by kernel_rfl) (by kernel_rfl) (by kernel_rfl) (by kernel_rfl) (by omega) hb21) (by kernel_rfl) ?_
  refine OW.run 3 (x' := ⟨(2, VI (IntKind.i64.wrap (40 + (IntKind.i64.wrap ((UInt8.toNat b21 : Int)))))) :: (24, VI (IntKind.i64.wrap (40 + (IntKind.i64.wrap ((UInt8.toNat b21 : Int)))))) :: (23, VI (IntKind.i64.wrap ((UInt8.toNat b21 : Int)))) :: (qaq30 b21 x), []⟩) (by kernel_rfl) ?_
  have e22 : IntKind.i64.wrap ((UInt8.toNat b21 : Int)) = (UInt8.toNat b21 : Int) := wr64 (by omega)
  rw [e22]
  have e23 : IntKind.i64.wrap (40 + ((UInt8.toNat b21 : Int))) = 40 + ((UInt8.toNat b21 : Int)) := wr64 (by omega)
  rw [e23]
  refine OW.last 0 [2] (x' := ⟨[(2, VI (40 + ((UInt8.toNat b21 : Int))))], []⟩) (by kernel_rfl) (by kernel_rfl) ?_
  refine EL.ret ?_
  refine ⟨.inr rfl, VI (40 + ((UInt8.toNat b21 : Int))), by kernel_rfl, Ale.of_eq ?_⟩
  focus ((refine congrArg (fun n => VI n) ?_; have hlt := x.lt; first | (have h0 := len64_32 (n := x.n) (by omega); have h1 := len64_16 (n := x.n / 4294967296) (by omega); have h2 := len64_s8 (n := x.n / 4294967296 / 65536) (by omega);  have hl := len64_b (n := x.n / 4294967296 / 65536 / 256) (by omega) rfl (by assumption); omega) | (have h0 := len64_32 (n := x.n) (by omega); have h1 := len64_16 (n := x.n / 4294967296) (by omega);  have hl := len64_b (n := x.n / 4294967296 / 65536) (by omega) rfl (by assumption); omega) | (have h0 := len64_32 (n := x.n) (by omega); have h1 := len64_s8 (n := x.n / 4294967296) (by omega);  have hl := len64_b (n := x.n / 4294967296 / 256) (by omega) rfl (by assumption); omega) | (have h0 := len64_32 (n := x.n) (by omega);  have hl := len64_b (n := x.n / 4294967296) (by omega) rfl (by assumption); omega) | (have h0 := len64_16 (n := x.n) (by omega); have h1 := len64_s8 (n := x.n / 65536) (by omega);  have hl := len64_b (n := x.n / 65536 / 256) (by omega) rfl (by assumption); omega) | (have h0 := len64_16 (n := x.n) (by omega);  have hl := len64_b (n := x.n / 65536) (by omega) rfl (by assumption); omega) | (have h0 := len64_s8 (n := x.n) (by omega);  have hl := len64_b (n := x.n / 256) (by omega) rfl (by assumption); omega) | ( have hl := len64_b (n := x.n) (by omega) rfl (by assumption); omega) | trace_state))
  rw [h17]
  have g17 : ¬ (((x.n / 4294967296 : Nat) : Int) ≥ 256) := of_decide_eq_false h17
  refine EL.condF (by kernel_rfl) ?_
  refine EL.skip ?_
  refine thenL_norm ?_
  refine EL.sreg ?_
  refine OW.run 3 (x' := ⟨(21, .v (.int .u8 (IntKind.u8.wrap (((x.n / 4294967296 : Nat) : Int))))) :: (qaq31 x), []⟩) (by kernel_rfl) ?_
  have e25 : IntKind.u8.wrap (((x.n / 4294967296 : Nat) : Int)) = ((x.n / 4294967296 : Nat) : Int) := wr8 (by omega)
  rw [e25]
  obtain ⟨b26, hb26⟩ : ∃ b, l8s[Int.toNat (((x.n / 4294967296 : Nat) : Int))]? = some b := six_ex ⟨by omega, by omega⟩
  have qb26 := UInt8.toNat_lt b26
  refine OW.ope (v := .v (.int .u8 (UInt8.toNat b26 : Int))) (u := []) (acc := []) (x' := ⟨(qaq32 b26 x), []⟩) (by kernel_rfl) (opE_six l8s (.c (.v (.string l8s))) (.s 21) .u8 (((x.n / 4294967296 : Nat) : Int)) b26 (by kernel_rfl) (by kernel_rfl) (by kernel_rfl) (by kernel_rfl) (by omega) hb26) (by kernel_rfl) ?_
  refine OW.run 3 (x' := ⟨(2, VI (IntKind.i64.wrap (32 + (IntKind.i64.wrap ((UInt8.toNat b26 : Int)))))) :: (24, VI (IntKind.i64.wrap (32 + (IntKind.i64.wrap ((UInt8.toNat b26 : Int)))))) :: (23, VI (IntKind.i64.wrap ((UInt8.toNat b26 : Int)))) :: (qaq33 b26 x), []⟩) (by kernel_rfl) ?_
  have e27 : IntKind.i64.wrap ((UInt8.toNat b26 : Int)) = (UInt8.toNat b26 : Int) := wr64 (by omega)
  rw [e27]
  have e28 : IntKind.i64.wrap (32 + ((UInt8.toNat b26 : Int))) = 32 + ((UInt8.toNat b26 : Int)) := wr64 (by omega)
  rw [e28]
  refine OW.last 0 [2] (x' := ⟨[(2, VI (32 + ((UInt8.toNat b26 : Int))))], []⟩) (by kernel_rfl) (by kernel_rfl) ?_
  refine EL.ret ?_
  refine ⟨.inr rfl, VI (32 + ((UInt8.toNat b26 : Int))), by kernel_rfl, Ale.of_eq ?_⟩
  focus ((refine congrArg (fun n => VI n) ?_; have hlt := x.lt; first | (have h0 := len64_32 (n := x.n) (by omega); have h1 := len64_16 (n := x.n / 4294967296) (by omega); have h2 := len64_s8 (n := x.n / 4294967296 / 65536) (by omega);  have hl := len64_b (n := x.n / 4294967296 / 65536 / 256) (by omega) rfl (by assumption); omega) | (have h0 := len64_32 (n := x.n) (by omega); have h1 := len64_16 (n := x.n / 4294967296) (by omega);  have hl := len64_b (n := x.n / 4294967296 / 65536) (by omega) rfl (by assumption); omega) | (have h0 := len64_32 (n := x.n) (by omega); have h1 := len64_s8 (n := x.n / 4294967296) (by omega);  have hl := len64_b (n := x.n / 4294967296 / 256) (by omega) rfl (by assumption); omega) | (have h0 := len64_32 (n := x.n) (by omega);  have hl := len64_b (n := x.n / 4294967296) (by omega) rfl (by assumption); omega) | (have h0 := len64_16 (n := x.n) (by omega); have h1 := len64_s8 (n := x.n / 65536) (by omega);  have hl := len64_b (n := x.n / 65536 / 256) (by omega) rfl (by assumption); omega) | (have h0 := len64_16 (n := x.n) (by omega);  have hl := len64_b (n := x.n / 65536) (by omega) rfl (by assumption); omega) | (have h0 := len64_s8 (n := x.n) (by omega);  have hl := len64_b (n := x.n / 256) (by omega) rfl (by assumption); omega) | ( have hl := len64_b (n := x.n) (by omega) rfl (by assumption); omega) | trace_state))
  rw [h1]
  have g1 : ¬ ((x.n : Int) ≥ 4294967296) := of_decide_eq_false h1
  refine EL.condF (by kernel_rfl) ?_
  refine EL.skip ?_
  refine thenL_norm ?_
  refine EL.seq ?_
  refine EL.sreg ?_
  refine OW.last 2 [0, 2, 8] (x' := ⟨[(8, .v (.bool (decide ((x.n : Int) ≥ 65536)))), (2, VI 0), (0, .v (.int .u64 (x.n : Int)))], []⟩) (by kernel_rfl) (by kernel_rfl) ?_
  rcases Bool.eq_false_or_eq_true (decide ((x.n : Int) ≥ 65536)) with h29 | h29
  rw [h29]
  have g29 : ((x.n : Int) ≥ 65536) := of_decide_eq_true h29
  refine EL.condT (by kernel_rfl) ?_
  refine EL.sreg ?_
  refine OW.run 3 (x' := ⟨(0, .v (.int .u64 (((x.n : Int)).fdiv (2 ^ (min 16 IntKind.u64.bits))))) :: (10, .v (.int .u64 (((x.n : Int)).fdiv (2 ^ (min 16 IntKind.u64.bits))))) :: (qaq34 x), []⟩) (by kernel_rfl) ?_
  have e30 : ((x.n : Int)).fdiv (2 ^ (min 16 IntKind.u64.bits)) = ((x.n / 65536 : Nat) : Int) := fdn16 (by omega)
  rw [e30]
  refine OW.last 0 [0, 2] (x' := ⟨[(0, .v (.int .u64 ((x.n / 65536 : Nat) : Int))), (2, VI 0)], []⟩) (by kernel_rfl) (by kernel_rfl) ?_
  refine EL.reg0 ?_
  refine OW.end 3 (x' := ⟨(qaq35 x), []⟩) (by kernel_rfl) (by kernel_rfl) ?_
  refine thenL_norm ?_
  refine EL.seq ?_
  refine EL.sreg ?_
  refine OW.last 2 [0, 2, 14] (x' := ⟨[(14, .v (.bool (decide (((x.n / 65536 : Nat) : Int) ≥ 256)))), (2, VI 16), (0, .v (.int .u64 ((x.n / 65536 : Nat) : Int)))], []⟩) (by kernel_rfl) (by kernel_rfl) ?_
  rcases Bool.eq_false_or_eq_true (decide (((x.n / 65536 : Nat) : Int) ≥ 256)) with h31 | h31
  rw [h31]
  have g31 : (((x.n / 65536 : Nat) : Int) ≥ 256) := of_decide_eq_true h31
  refine EL.condT (by kernel_rfl) ?_
  refine EL.sreg ?_
  refine OW.run 3 (x' := ⟨(0, .v (.int .u64 ((((x.n / 65536 : Nat) : Int)).fdiv (2 ^ (min 8 IntKind.u64.bits))))) :: (16, .v (.int .u64 ((((x.n / 65536 : Nat) : Int)).fdiv (2 ^ (min 8 IntKind.u64.bits))))) :: (qaq36 x), []⟩) (by kernel_rfl) ?_
  have e32 : (((x.n / 65536 : Nat) : Int)).fdiv (2 ^ (min 8 IntKind.u64.bits)) = (((x.n / 65536 : Nat) / 256 : Nat) : Int) := fdn8 (by omega)
  rw [e32]
  refine OW.last 0 [0, 2] (x' := ⟨[(0, .v (.int .u64 (((x.n / 65536 : Nat) / 256 : Nat) : Int))), (2, VI 16)], []⟩) (by kernel_rfl) (by kernel_rfl) ?_
  refine EL.reg0 ?_
  refine OW.end 3 (x' := ⟨(qaq37 x), []⟩) (by kernel_rfl) (by kernel_rfl) ?_
  refine thenL_norm ?_
  refine EL.sreg ?_
  refine OW.run 3 (x' := ⟨(21, .v (.int .u8 (IntKind.u8.wrap ((((x.n / 65536 : Nat) / 256 : Nat) : Int))))) :: (qaq38 x), []⟩) (by kernel_rfl) ?_
  have e34 : IntKind.u8.wrap ((((x.n / 65536 : Nat) / 256 : Nat) : Int)) = (((x.n / 65536 : Nat) / 256 : Nat) : Int) := wr8 (by omega)
  rw [e34]
  obtain ⟨b35, hb35⟩ : ∃ b, l8s[Int.toNat ((((x.n / 65536 : Nat) / 256 : Nat) : Int))]? = some b := six_ex ⟨by omega, by omega⟩
  have qb35 := UInt8.toNat_lt b35
  refine OW.ope (v := .v (.int .u8 (UInt8.toNat b35 : Int))) (u := []) (acc := []) (x' := ⟨(qaq39 b35 x), []⟩) (by kernel_rfl) (opE_six l8s (.c (.v (.string l8s))) (.s 21) .u8 ((((x.n / 65536 : Nat) / 256 : Nat) : Int)) b35 (by kernel_rfl) (by kernel_rfl) (by kernel_rfl) (by kernel_rfl) (by omega) hb35) (by kernel_rfl) ?_
  refine OW.run 3 (x' := ⟨(2, VI (IntKind.i64.wrap (24 + (IntKind.i64.wrap ((UInt8.toNat b35 : Int)))))) :: (24, VI (IntKind.i64.wrap (24 + (IntKind.i64.wrap ((UInt8.toNat b35 : Int)))))) :: (23, VI (IntKind.i64.wrap ((UInt8.toNat b35 : Int)))) :: (qaq40 b35 x), []⟩) (by kernel_rfl) ?_
  have e36 : IntKind.i64.wrap ((UInt8.toNat b35 : Int)) = (UInt8.toNat b35 : Int) := wr64 (by omega)
  rw [e36]
  have e37 : IntKind.i64.wrap (24 + ((UInt8.toNat b35 : Int))) = 24 + ((UInt8.toNat b35 : Int)) := wr64 (by omega)
  rw [e37]
  refine OW.last 0 [2] (x' := ⟨[(2, VI (24 + ((UInt8.toNat b35 : Int))))], []⟩) (by kernel_rfl) (by kernel_rfl) ?_
  refine EL.ret ?_
  refine ⟨.inr rfl, VI (24 + ((UInt8.toNat b35 : Int))), by kernel_rfl, Ale.of_eq ?_⟩
  focus ((refine congrArg (fun n => VI n) ?_; have hlt := x.lt; first | (have h0 := len64_32 (n := x.n) (by omega); have h1 := len64_16 (n := x.n / 4294967296) (by omega); have h2 := len64_s8 (n := x.n / 4294967296 / 65536) (by omega);  have hl := len64_b (n := x.n / 4294967296 / 65536 / 256) (by omega) rfl (by assumption); omega) | (have h0 := len64_32 (n := x.n) (by omega); have h1 := len64_16 (n := x.n / 4294967296) (by omega);  have hl := len64_b (n := x.n / 4294967296 / 65536) (by omega) rfl (by assumption); omega) | (have h0 := len64_32 (n := x.n) (by omega); have h1 := len64_s8 (n := x.n / 4294967296) (by omega);  have hl := len64_b (n := x.n / 4294967296 / 256) (by omega) rfl (by assumption); omega) | (have h0 := len64_32 (n := x.n) (by omega);  have hl := len64_b (n := x.n / 4294967296) (by omega) rfl (by assumption); omega) | (have h0 := len64_16 (n := x.n) (by omega); have h1 := len64_s8 (n := x.n / 65536) (by omega);  have hl := len64_b (n := x.n / 65536 / 256) (by omega) rfl (by assumption); omega) | (have h0 := len64_16 (n := x.n) (by omega);  have hl := len64_b (n := x.n / 65536) (by omega) rfl (by assumption); omega) | (have h0 := len64_s8 (n := x.n) (by omega);  have hl := len64_b (n := x.n / 256) (by omega) rfl (by assumption); omega) | ( have hl := len64_b (n := x.n) (by omega) rfl (by assumption); omega) | trace_state))
  rw [h31]
  have g31 : ¬ (((x.n / 65536 : Nat) : Int) ≥ 256) := of_decide_eq_false h31
  refine EL.condF (by kernel_rfl) ?_
  refine EL.skip ?_
  refine thenL_norm ?_
  refine EL.sreg ?_
  refine OW.run 3 (x' := ⟨(21, .v (.int .u8 (IntKind.u8.wrap (((x.n / 65536 : Nat) : Int))))) :: (qaq41 x), []⟩) (by kernel_rfl) ?_
  have e39 : IntKind.u8.wrap (((x.n / 65536 : Nat) : Int)) = ((x.n / 65536 : Nat) : Int) := wr8 (by omega)
  rw [e39]
  obtain ⟨b40, hb40⟩ : ∃ b, l8s[Int.toNat (((x.n / 65536 : Nat) : Int))]? = some b := six_ex ⟨by omega, by omega⟩
  have qb40 := UInt8.toNat_lt b40
  refine OW.ope (v := .v (.int .u8 (UInt8.toNat b40 : Int))) (u := []) (acc := []) (x' := ⟨(qaq42 b40 x), []⟩) (by kernel_rfl) (opE_six l8s (.c (.v (.string l8s))) (.s 21) .u8 (((x.n / 65536 : Nat) : Int)) b40 (by kernel_rfl) (by kernel_rfl) (by kernel_rfl) (by kernel_rfl) (by omega) hb40) (by kernel_rfl) ?_
  refine OW.run 3 (x' := ⟨(2, VI (IntKind.i64.wrap (16 + (IntKind.i64.wrap ((UInt8.toNat b40 : Int)))))) :: (24, VI (IntKind.i64.wrap (16 + (IntKind.i64.wrap ((UInt8.toNat b40 : Int)))))) :: (23, VI (IntKind.i64.wrap ((UInt8.toNat b40 : Int)))) :: (qaq43 b40 x), []⟩) (by kernel_rfl) ?_
  have e41 : IntKind.i64.wrap ((UInt8.toNat b40 : Int)) = (UInt8.toNat b40 : Int) := wr64 (by omega)
  rw [e41]
  have e42 : IntKind.i64.wrap (16 + ((UInt8.toNat b40 : Int))) = 16 + ((UInt8.toNat b40 : Int)) := wr64 (by omega)
  rw [e42]
  refine OW.last 0 [2] (x' := ⟨[(2, VI (16 + ((UInt8.toNat b40 : Int))))], []⟩) (by kernel_rfl) (by kernel_rfl) ?_
  refine EL.ret ?_
  refine ⟨.inr rfl, VI (16 + ((UInt8.toNat b40 : Int))), by kernel_rfl, Ale.of_eq ?_⟩
  focus ((refine congrArg (fun n => VI n) ?_; have hlt := x.lt; first | (have h0 := len64_32 (n := x.n) (by omega); have h1 := len64_16 (n := x.n / 4294967296) (by omega); have h2 := len64_s8 (n := x.n / 4294967296 / 65536) (by omega);  have hl := len64_b (n := x.n / 4294967296 / 65536 / 256) (by omega) rfl (by assumption); omega) | (have h0 := len64_32 (n := x.n) (by omega); have h1 := len64_16 (n := x.n / 4294967296) (by omega);  have hl := len64_b (n := x.n / 4294967296 / 65536) (by omega) rfl (by assumption); omega) | (have h0 := len64_32 (n := x.n) (by omega); have h1 := len64_s8 (n := x.n / 4294967296) (by omega);  have hl := len64_b (n := x.n / 4294967296 / 256) (by omega) rfl (by assumption); omega) | (have h0 := len64_32 (n := x.n) (by omega);  have hl := len64_b (n := x.n / 4294967296) (by omega) rfl (by assumption); omega) | (have h0 := len64_16 (n := x.n) (by omega); have h1 := len64_s8 (n := x.n / 65536) (by omega);  have hl := len64_b (n := x.n / 65536 / 256) (by omega) rfl (by assumption); omega) | (have h0 := len64_16 (n := x.n) (by omega);  have hl := len64_b (n := x.n / 65536) (by omega) rfl (by assumption); omega) | (have h0 := len64_s8 (n := x.n) (by omega);  have hl := len64_b (n := x.n / 256) (by omega) rfl (by assumption); omega) | ( have hl := len64_b (n := x.n) (by omega) rfl (by assumption); omega) | trace_state))
  rw [h29]
  have g29 : ¬ ((x.n : Int) ≥ 65536) := of_decide_eq_false h29
  refine EL.condF (by kernel_rfl) ?_
  refine EL.skip ?_
  refine thenL_norm ?_
  refine EL.seq ?_
  refine EL.sreg ?_
  refine OW.last 2 [0, 2, 14] (x' := ⟨[(14, .v (.bool (decide ((x.n : Int) ≥ 256)))), (2, VI 0), (0, .v (.int .u64 (x.n : Int)))], []⟩) (by kernel_rfl) (by kernel_rfl) ?_
  rcases Bool.eq_false_or_eq_true (decide ((x.n : Int) ≥ 256)) with h43 | h43
  rw [h43]
  have g43 : ((x.n : Int) ≥ 256) := of_decide_eq_true h43
  refine EL.condT (by kernel_rfl) ?_
  refine EL.sreg ?_
  refine OW.run 3 (x' := ⟨(0, .v (.int .u64 (((x.n : Int)).fdiv (2 ^ (min 8 IntKind.u64.bits))))) :: (16, .v (.int .u64 (((x.n : Int)).fdiv (2 ^ (min 8 IntKind.u64.bits))))) :: (qaq44 x), []⟩) (by kernel_rfl) ?_
  have e44 : ((x.n : Int)).fdiv (2 ^ (min 8 IntKind.u64.bits)) = ((x.n / 256 : Nat) : Int) := fdn8 (by omega)
  rw [e44]
  refine OW.last 0 [0, 2] (x' := ⟨[(0, .v (.int .u64 ((x.n / 256 : Nat) : Int))), (2, VI 0)], []⟩) (by kernel_rfl) (by kernel_rfl) ?_
  refine EL.reg0 ?_
  refine OW.end 3 (x' := ⟨(qaq45 x), []⟩) (by kernel_rfl) (by kernel_rfl) ?_
  refine thenL_norm ?_
  refine EL.sreg ?_
  refine OW.run 3 (x' := ⟨(21, .v (.int .u8 (IntKind.u8.wrap (((x.n / 256 : Nat) : Int))))) :: (qaq46 x), []⟩) (by kernel_rfl) ?_
  have e46 : IntKind.u8.wrap (((x.n / 256 : Nat) : Int)) = ((x.n / 256 : Nat) : Int) := wr8 (by omega)
  rw [e46]
  obtain ⟨b47, hb47⟩ : ∃ b, l8s[Int.toNat (((x.n / 256 : Nat) : Int))]? = some b := six_ex ⟨by omega, by omega⟩
  have qb47 := UInt8.toNat_lt b47
  refine OW.ope (v := .v (.int .u8 (UInt8.toNat b47 : Int))) (u := []) (acc := []) (x' := ⟨(qaq47 b47 x), []⟩) (by kernel_rfl) (opE_six l8s (.c (.v (.string l8s))) (.s 21) .u8 (((x.n / 256 : Nat) : Int)) b47 (by kernel_rfl) (by kernel_rfl) (by kernel_rfl) (by kernel_rfl) (by omega) hb47) (by kernel_rfl) ?_
  refine OW.run 3 (x' := ⟨(2, VI (IntKind.i64.wrap (8 + (IntKind.i64.wrap ((UInt8.toNat b47 : Int)))))) :: (24, VI (IntKind.i64.wrap (8 + (IntKind.i64.wrap ((UInt8.toNat b47 : Int)))))) :: (23, VI (IntKind.i64.wrap ((UInt8.toNat b47 : Int)))) :: (qaq48 b47 x), []⟩) (by kernel_rfl) ?_
  have e48 : IntKind.i64.wrap ((UInt8.toNat b47 : Int)) = (UInt8.toNat b47 : Int) := wr64 (by omega)
  rw [e48]
  have e49 : IntKind.i64.wrap (8 + ((UInt8.toNat b47 : Int))) = 8 + ((UInt8.toNat b47 : Int)) := wr64 (by omega)
  rw [e49]
  refine OW.last 0 [2] (x' := ⟨[(2, VI (8 + ((UInt8.toNat b47 : Int))))], []⟩) (by kernel_rfl) (by kernel_rfl) ?_
  refine EL.ret ?_
  refine ⟨.inr rfl, VI (8 + ((UInt8.toNat b47 : Int))), by kernel_rfl, Ale.of_eq ?_⟩
  focus ((refine congrArg (fun n => VI n) ?_; have hlt := x.lt; first | (have h0 := len64_32 (n := x.n) (by omega); have h1 := len64_16 (n := x.n / 4294967296) (by omega); have h2 := len64_s8 (n := x.n / 4294967296 / 65536) (by omega);  have hl := len64_b (n := x.n / 4294967296 / 65536 / 256) (by omega) rfl (by assumption); omega) | (have h0 := len64_32 (n := x.n) (by omega); have h1 := len64_16 (n := x.n / 4294967296) (by omega);  have hl := len64_b (n := x.n / 4294967296 / 65536) (by omega) rfl (by assumption); omega) | (have h0 := len64_32 (n := x.n) (by omega); have h1 := len64_s8 (n := x.n / 4294967296) (by omega);  have hl := len64_b (n := x.n / 4294967296 / 256) (by omega) rfl (by assumption); omega) | (have h0 := len64_32 (n := x.n) (by omega);  have hl := len64_b (n := x.n / 4294967296) (by omega) rfl (by assumption); omega) | (have h0 := len64_16 (n := x.n) (by omega); have h1 := len64_s8 (n := x.n / 65536) (by omega);  have hl := len64_b (n := x.n / 65536 / 256) (by omega) rfl (by assumption); omega) | (have h0 := len64_16 (n := x.n) (by omega);  have hl := len64_b (n := x.n / 65536) (by omega) rfl (by assumption); omega) | (have h0 := len64_s8 (n := x.n) (by omega);  have hl := len64_b (n := x.n / 256) (by omega) rfl (by assumption); omega) | ( have hl := len64_b (n := x.n) (by omega) rfl (by assumption); omega) | trace_state))
  rw [h43]
  have g43 : ¬ ((x.n : Int) ≥ 256) := of_decide_eq_false h43
  refine EL.condF (by kernel_rfl) ?_
  refine EL.skip ?_
  refine thenL_norm ?_
  refine EL.sreg ?_
  refine OW.run 3 (x' := ⟨(21, .v (.int .u8 (IntKind.u8.wrap ((x.n : Int))))) :: (qaq49 x), []⟩) (by kernel_rfl) ?_
  have e51 : IntKind.u8.wrap ((x.n : Int)) = (x.n : Int) := wr8 (by omega)
  rw [e51]
  obtain ⟨b52, hb52⟩ : ∃ b, l8s[Int.toNat ((x.n : Int))]? = some b := six_ex ⟨by omega, by omega⟩
  have qb52 := UInt8.toNat_lt b52
  refine OW.ope (v := .v (.int .u8 (UInt8.toNat b52 : Int))) (u := []) (acc := []) (x' := ⟨(qaq50 b52 x), []⟩) (by kernel_rfl) (opE_six l8s (.c (.v (.string l8s))) (.s 21) .u8 ((x.n : Int)) b52 (by kernel_rfl) (by kernel_rfl) (by kernel_rfl) (by kernel_rfl) (by omega) hb52) (by kernel_rfl) ?_
  refine OW.run 3 (x' := ⟨(2, VI (IntKind.i64.wrap (0 + (IntKind.i64.wrap ((UInt8.toNat b52 : Int)))))) :: (24, VI (IntKind.i64.wrap (0 + (IntKind.i64.wrap ((UInt8.toNat b52 : Int)))))) :: (23, VI (IntKind.i64.wrap ((UInt8.toNat b52 : Int)))) :: (qaq51 b52 x), []⟩) (by kernel_rfl) ?_
  have e53 : IntKind.i64.wrap ((UInt8.toNat b52 : Int)) = (UInt8.toNat b52 : Int) := wr64 (by omega)
  rw [e53]
  have e54 : IntKind.i64.wrap (0 + ((UInt8.toNat b52 : Int))) = 0 + ((UInt8.toNat b52 : Int)) := wr64 (by omega)
  rw [e54]
  refine OW.last 0 [2] (x' := ⟨[(2, VI (0 + ((UInt8.toNat b52 : Int))))], []⟩) (by kernel_rfl) (by kernel_rfl) ?_
  refine EL.ret ?_
  refine ⟨.inr rfl, VI (0 + ((UInt8.toNat b52 : Int))), by kernel_rfl, Ale.of_eq ?_⟩
  focus ((refine congrArg (fun n => VI n) ?_; have hlt := x.lt; first | (have h0 := len64_32 (n := x.n) (by omega); have h1 := len64_16 (n := x.n / 4294967296) (by omega); have h2 := len64_s8 (n := x.n / 4294967296 / 65536) (by omega);  have hl := len64_b (n := x.n / 4294967296 / 65536 / 256) (by omega) rfl (by assumption); omega) | (have h0 := len64_32 (n := x.n) (by omega); have h1 := len64_16 (n := x.n / 4294967296) (by omega);  have hl := len64_b (n := x.n / 4294967296 / 65536) (by omega) rfl (by assumption); omega) | (have h0 := len64_32 (n := x.n) (by omega); have h1 := len64_s8 (n := x.n / 4294967296) (by omega);  have hl := len64_b (n := x.n / 4294967296 / 256) (by omega) rfl (by assumption); omega) | (have h0 := len64_32 (n := x.n) (by omega);  have hl := len64_b (n := x.n / 4294967296) (by omega) rfl (by assumption); omega) | (have h0 := len64_16 (n := x.n) (by omega); have h1 := len64_s8 (n := x.n / 65536) (by omega);  have hl := len64_b (n := x.n / 65536 / 256) (by omega) rfl (by assumption); omega) | (have h0 := len64_16 (n := x.n) (by omega);  have hl := len64_b (n := x.n / 65536) (by omega) rfl (by assumption); omega) | (have h0 := len64_s8 (n := x.n) (by omega);  have hl := len64_b (n := x.n / 256) (by omega) rfl (by assumption); omega) | ( have hl := len64_b (n := x.n) (by omega) rfl (by assumption); omega) | trace_state))
theorem pred_w {x : Nat} (h : x ≠ 0 ∧ x < 18446744073709551616) : bits .and .u64 (x : Int) (IntKind.u64.wrap ((x : Int) - 1)) = ((x &&& (x - 1) : Nat) : Int) := pred_bits h.1 h.2
theorem tzN_fn (z : Nat) (h : z < 18446744073709551616) : Fn Tryd.prog 22 [.v (.int .u64 (z : Int))] (VI (tz z : Int)) := tz_fn ⟨z, h⟩
theorem lenN_fn (z : Nat) (h : z < 18446744073709551616) : Fn Tryd.prog 21 [.v (.int .u64 (z : Int))] (VI (len64 z : Int)) := len64_fn ⟨z, h⟩
theorem bsum_bd : ∀ (ws : List Int) (z : Nat), (∀ w, w ∈ ws → 0 ≤ w ∧ w ≤ 100) → 0 ≤ bsum ws z ∧ bsum ws z ≤ 100 * ws.length
  | [], z, _ => by simp [bsum]
  | w :: ws, z, h => by
    have h1 := h w (by simp)
    have h2 := bsum_bd ws (z / 2) fun v hv => h v (by simp [hv])
    simp only [bsum, List.length_cons]
    split <;> omega
/-- A set of such nodes as there are. -/
def SubS (ws : List Int) (z : Nat) : Prop := z < 2 ^ ws.length
theorem SubS.tz {ws : List Int} {z : Nat} (h : SubS ws z) (h0 : z ≠ 0) : tz z < ws.length := tz_lt ws.length z h0 h
theorem SubS.next {ws : List Int} {z : Nat} (h : SubS ws z) (h0 : z ≠ 0) : SubS ws (z &&& (z - 1)) := Nat.lt_trans (pred_lt h0) h
theorem SubS.low {ws : List Int} {z : Nat} (h : SubS ws z) (h0 : z ≠ 0) {a : Int} (ha : ws[Int.toNat (Proofs.YtfgjfghljhldfaaDoor.tz z : Int)]? = some a) : bsum ws z = a + bsum ws (z &&& (z - 1)) ∧ z &&& (z - 1) < z := by
  obtain ⟨w, h1, h2⟩ := bsum_low ws z h0 h
  have h3 := Option.some.inj (h1.symm.trans ha)
  subst h3
  exact ⟨h2, pred_lt h0⟩
theorem SubS.of_len {ws : List Int} {z : Nat} (h : ¬ (len64 z : Int) > ws.length) : SubS ws z := Nat.not_le.1 fun hh => h (by have := len64_gt.2 hh; omega)
theorem sumP_3 {ws : List Int} {z : Nat} (h1 : ¬ (nodesP ws).2 ≠ 0) (h : (len64 z : Int) > ws.length) : sumP ws z = (0, 3) := by
  unfold sumP; rw [if_neg h1, if_pos (len64_gt.1 (by omega))]
theorem sumP_0 {ws : List Int} {z : Nat} (h1 : (nodesP ws).2 = 0) (h : SubS ws z) : sumP ws z = (bsum ws z, 0) := by
  unfold sumP; rw [if_neg (fun hh => hh h1), if_neg (Nat.not_le.2 h)]
abbrev qaq52 (ws : List Int) (u : U64) : LS := [(4, VI 0), (0, .lst 1 (ws.map cI)), (1, .v (.int .u64 (u.n : Int)))]
abbrev qaq53 (ws : List Int) (u : U64) : LS := (10, .tup [VI ((nodesP ws).1), VI ((nodesP ws).2)]) :: (9, .lst 1 (ws.map cI)) :: (qaq52 ws u)
abbrev qaq54 (u : U64) (ws : List Int) : LS := (16, .v (.int .u64 (u.n : Int))) :: (14, .v (.bool false)) :: (7, VI ((nodesP ws).2)) :: (qaq52 ws u)
abbrev qaq55 (ws : List Int) (u : U64) : LS := (18, .lst 1 (ws.map cI)) :: (17, VI (len64 u.n : Int)) :: (qaq54 u ws)
abbrev qaq56 (ws : List Int) (z : Nat) (n : Int) : LS := [(0, .lst 1 (ws.map cI)), (1, .v (.int .u64 (z : Int))), (4, VI n)]
abbrev qaq57 (z : Nat) (ws : List Int) (n : Int) : LS := (29, .v (.int .u64 (z : Int))) :: (28, .lst 1 (ws.map cI)) :: (27, VI n) :: (22, .v (.bool true)) :: (qaq56 ws z n)
abbrev qaq58 (a5 : Int) (z : Nat) (ws : List Int) (n : Int) : LS := (31, .pim [VI a5] 0) :: (30, VI (tz z : Int)) :: (qaq57 z ws n)
abbrev qaq59 (a5 : Int) (z : Nat) (ws : List Int) (n : Int) : LS := [(32, VI a5), (31, .pim [VI a5] 0), (30, VI (tz z : Int)), (29, .v (.int .u64 (z : Int))), (28, .lst 1 (ws.map cI)), (27, VI n), (22, .v (.bool true)), (0, .lst 1 (ws.map cI)), (1, .v (.int .u64 (z : Int)))]
abbrev qaq60 (z : Nat) (n : Int) (a5 : Int) (ws : List Int) : LS := [(24, .v (.int .u64 (z : Int))), (23, .v (.int .u64 (z : Int))), (4, VI (n + a5)), (33, VI (n + a5)), (32, VI a5), (31, .pim [VI a5] 0), (30, VI (tz z : Int)), (29, .v (.int .u64 (z : Int))), (28, .lst 1 (ws.map cI)), (27, VI n), (22, .v (.bool true)), (0, .lst 1 (ws.map cI))]
theorem sum_fn (ws : List Int) (u : U64) (hx : ws.length ≤ 9223372036854775807) : Fn Tryd.prog 9 [.lst 1 (ws.map cI), .v (.int .u64 (u.n : Int))] (.tup [VI ((sumP ws u.n).1), VI ((sumP ws u.n).2)]) := by
  have hlt := u.lt
  refine fn_walkW F9_ok (of_decide_eq_true (by kernel_rfl)) ?_
  refine EL.sreg ?_
  refine OW.last 2 [0, 1, 4] (x' := ⟨(qaq52 ws u), []⟩) (by kernel_rfl) (by kernel_rfl) ?_
  refine EL.seq ?_
  refine EL.sreg ?_
  refine OW.run 1 (x' := ⟨(9, .lst 1 (ws.map cI)) :: (qaq52 ws u), []⟩) (by kernel_rfl) ?_
  refine OW.fn (ar := [.lst 1 (ws.map cI)]) (x' := ⟨(qaq53 ws u), []⟩) (by kernel_rfl) (by kernel_rfl) F20_call (nodes_fn ws (by first | omega | (simp; omega))) (by kernel_rfl) (by kernel_rfl) ?_
  refine OW.last 5 [0, 1, 4, 7] (x' := ⟨(7, VI ((nodesP ws).2)) :: (qaq52 ws u), []⟩) (by kernel_rfl) (by kernel_rfl) ?_
  refine EL.sreg ?_
  refine OW.last 2 [0, 1, 4, 7, 14] (x' := ⟨(14, .v (.bool (((nodesP ws).2) != 0))) :: (7, VI ((nodesP ws).2)) :: (qaq52 ws u), []⟩) (by kernel_rfl) (by kernel_rfl) ?_
  rcases Bool.eq_false_or_eq_true ((((nodesP ws).2) != 0)) with h1 | h1
  rw [h1]
  have g1 : ¬ (((nodesP ws).2) = 0) := by simpa using h1
  refine EL.condT (by kernel_rfl) ?_
  refine EL.sreg ?_
  refine OW.last 3 [4, 5] (x' := ⟨[(5, VI ((nodesP ws).2)), (4, VI 0)], []⟩) (by kernel_rfl) (by kernel_rfl) ?_
  refine EL.ret ?_
  refine thenL_ret ?_
  refine ⟨.inr rfl, .tup [VI 0, VI ((nodesP ws).2)], by kernel_rfl, Ale.of_eq ?_⟩
  focus (first | (rw [sumP, if_pos (by assumption)]; done) | (rw [sumP_3 (by omega) (by assumption)]; done) | (rw [sumP_0 hn0 hx2]; have hz0 : z = 0 := (by omega); rw [hz0, bsum_zero] at hs; rw [show bsum ws u.n = n by omega]; done) | trace_state)
  rw [h1]
  have g1 : (((nodesP ws).2) = 0) := by simpa using h1
  refine EL.condF (by kernel_rfl) ?_
  refine EL.skip ?_
  refine thenL_norm ?_
  refine EL.seq ?_
  refine EL.sreg ?_
  refine OW.run 1 (x' := ⟨(qaq54 u ws), []⟩) (by kernel_rfl) ?_
  refine OW.fn (ar := [.v (.int .u64 (u.n : Int))]) (x' := ⟨(17, VI (len64 u.n : Int)) :: (qaq54 u ws), []⟩) (by kernel_rfl) (by kernel_rfl) F21_call (lenN_fn u.n (by first | omega | exact U64.lt _)) (by kernel_rfl) (by kernel_rfl) ?_
  refine OW.run 1 (x' := ⟨(qaq55 ws u), []⟩) (by kernel_rfl) ?_
  refine OW.ope (v := VI (List.length ws : Int)) (u := []) (acc := []) (x' := ⟨(19, VI (List.length ws : Int)) :: (qaq55 ws u), []⟩) (by kernel_rfl) (opE_len cI ws (.s 18) 1 (by kernel_rfl) (by kernel_rfl) (.inl rfl)) (by kernel_rfl) ?_
  refine OW.last 1 [0, 1, 4, 20] (x' := ⟨(20, .v (.bool (decide ((len64 u.n : Int) > (List.length ws : Int))))) :: (qaq52 ws u), []⟩) (by kernel_rfl) (by kernel_rfl) ?_
  rcases Bool.eq_false_or_eq_true (decide ((len64 u.n : Int) > (List.length ws : Int))) with h2 | h2
  rw [h2]
  have g2 : ((len64 u.n : Int) > (List.length ws : Int)) := of_decide_eq_true h2
  refine EL.condT (by kernel_rfl) ?_
  refine EL.sreg ?_
  refine OW.last 2 [4, 5] (x' := ⟨[(5, VI 3), (4, VI 0)], []⟩) (by kernel_rfl) (by kernel_rfl) ?_
  refine EL.ret ?_
  refine thenL_ret ?_
  refine ⟨.inr rfl, .tup [VI 0, VI 3], by kernel_rfl, Ale.of_eq ?_⟩
  focus (first | (rw [sumP, if_pos (by assumption)]; done) | (rw [sumP_3 (by omega) (by assumption)]; done) | (rw [sumP_0 hn0 hx2]; have hz0 : z = 0 := (by omega); rw [hz0, bsum_zero] at hs; rw [show bsum ws u.n = n by omega]; done) | trace_state)
  rw [h2]
  have g2 : ¬ ((len64 u.n : Int) > (List.length ws : Int)) := of_decide_eq_false h2
  refine EL.condF (by kernel_rfl) ?_
  refine EL.skip ?_
  refine thenL_norm ?_
  refine EL.seq ?_
  refine EL.block ?_
  refine EL.loopN (fun mM xX => ∃ (z : Nat) (n : Int), mM = z + 1 ∧ (SubS ws z ∧ z < 18446744073709551616 ∧ (nodesP ws).2 = 0 ∧ SubS ws u.n ∧ n + bsum ws z = bsum ws u.n) ∧ xX = ⟨(qaq56 ws z n), []⟩) (y := (fun (z : Nat) (n : Int) => (⟨(qaq56 ws z n), []⟩ : L3)) u.n 0) [0, 1, 4] [] [] (by kernel_rfl) trivial ⟨u.n, 0, rfl, by have i1 := SubS.of_len (ws := ws) (z := u.n) (by assumption); have i3 : (nodesP ws).2 = 0 := (by omega); exact ⟨i1, hlt, i3, i1, Int.zero_add _⟩, rfl⟩ ?_
  rintro _ _ ⟨z, n, rfl, hI3, rfl⟩
  obtain ⟨hz, hz64, hn0, hx2, hs⟩ := hI3
  have hnb := nodes_bd hn0
  have hb1 := bsum_bd ws z hnb.2.2.2.2
  have hb2 := bsum_bd ws u.n hnb.2.2.2.2
  have hpl : z ≠ 0 → z &&& (z - 1) < z := fun hh => pred_lt hh
  refine EL.seq ?_
  refine EL.sreg ?_
  refine OW.last 2 [0, 1, 4, 22] (x' := ⟨(22, .v (.bool ((z : Int) != 0))) :: (qaq56 ws z n), []⟩) (by kernel_rfl) (by kernel_rfl) ?_
  rcases Bool.eq_false_or_eq_true (((z : Int) != 0)) with h4 | h4
  rw [h4]
  have g4 : ¬ ((z : Int) = 0) := by simpa using h4
  have n4 : ¬ ((z) = 0) := by omega
  refine EL.condT (by kernel_rfl) ?_
  refine EL.skip ?_
  refine thenL_norm ?_
  refine EL.seq ?_
  refine EL.block ?_
  refine EL.reg0 ?_
  refine OW.run 3 (x' := ⟨(qaq57 z ws n), []⟩) (by kernel_rfl) ?_
  refine OW.fn (ar := [.v (.int .u64 (z : Int))]) (x' := ⟨(30, VI (tz z : Int)) :: (qaq57 z ws n), []⟩) (by kernel_rfl) (by kernel_rfl) F22_call (tzN_fn z (by omega)) (by kernel_rfl) (by kernel_rfl) ?_
  obtain ⟨a5, ha5⟩ : ∃ y, ws[((tz z : Int) : Int).toNat]? = some y := idx_ex ⟨by omega, by have ht := hz.tz (by omega); omega⟩
  refine OW.ope (v := .pim [VI a5] 0) (u := []) (acc := []) (x' := ⟨(qaq58 a5 z ws n), []⟩) (by kernel_rfl) (opE_iad cI ws (.s 28) (.s 30) 1 .i64 (tz z : Int) a5 (by kernel_rfl) (by kernel_rfl) (.inl rfl) rfl (by omega) ha5) (by kernel_rfl) ?_
  refine OW.run 3 (x' := ⟨(4, VI (IntKind.i64.wrap (n + a5))) :: (33, VI (IntKind.i64.wrap (n + a5))) :: (qaq59 a5 z ws n), []⟩) (by kernel_rfl) ?_
  have e6 : IntKind.i64.wrap (n + a5) = n + a5 := wr64 (by have hq := hz.low (by omega) ha5; have hb3 := bsum_bd ws (z &&& (z - 1)) hnb.2.2.2.2; have hq2 := hnb.2.2.2.2 a5 (List.mem_of_getElem? ha5); omega)
  rw [e6]
  clear e6
  refine OW.end 0 (x' := ⟨(4, VI (n + a5)) :: (33, VI (n + a5)) :: (qaq59 a5 z ws n), []⟩) (by kernel_rfl) (by kernel_rfl) ?_
  refine inBlk_norm ?_
  refine thenL_norm ?_
  refine EL.reg0 ?_
  refine OW.run 5 (x' := ⟨(1, .v (.int .u64 (bits .and .u64 (z : Int) (IntKind.u64.wrap ((z : Int) - 1))))) :: (26, .v (.int .u64 (bits .and .u64 (z : Int) (IntKind.u64.wrap ((z : Int) - 1))))) :: (25, .v (.int .u64 (IntKind.u64.wrap ((z : Int) - 1)))) :: (qaq60 z n a5 ws), []⟩) (by kernel_rfl) ?_
  have e7 : bits .and .u64 (z : Int) (IntKind.u64.wrap ((z : Int) - 1)) = ((z &&& (z - 1) : Nat) : Int) := pred_w (by exact ⟨by omega, hz64⟩)
  rw [e7]
  clear e7
  refine OW.end 0 (x' := ⟨(1, .v (.int .u64 ((z &&& (z - 1) : Nat) : Int))) :: (26, .v (.int .u64 ((z &&& (z - 1) : Nat) : Int))) :: (25, .v (.int .u64 (IntKind.u64.wrap ((z : Int) - 1)))) :: (qaq60 z n a5 ws), []⟩) (by kernel_rfl) (by kernel_rfl) ?_
  refine thenL_norm ?_
  refine round_end (live := [0, 1, 4]) (src := []) (es := []) (y := (fun (z : Nat) (n : Int) => (⟨(qaq56 ws z n), []⟩ : L3)) (z &&& (z - 1)) (n + a5)) ?_ trivial ?_ ⟨(z &&& (z - 1)), (n + a5), rfl, ?_, rfl⟩
  kernel_rfl
  omega
  focus ((have hq := hz.low (by omega) ha5; exact ⟨hz.next (by omega), by omega, hn0, hx2, by omega⟩))
  rw [h4]
  have g4 : ((z : Int) = 0) := by simpa using h4
  have n4 : ((z) = 0) := by omega
  refine EL.condF (by kernel_rfl) ?_
  refine EL.exit ?_
  refine thenL_exit ?_
  refine thenL_exit ?_
  refine inBlk_hit ?_
  refine thenL_norm ?_
  refine EL.sreg ?_
  refine OW.last 3 [4, 5] (x' := ⟨[(5, VI 0), (4, VI n)], []⟩) (by kernel_rfl) (by kernel_rfl) ?_
  refine EL.ret ?_
  refine ⟨.inr rfl, .tup [VI n, VI 0], by kernel_rfl, Ale.of_eq ?_⟩
  focus (first | (rw [sumP, if_pos (by assumption)]; done) | (rw [sumP_3 (by omega) (by assumption)]; done) | (rw [sumP_0 hn0 hx2]; have hz0 : z = 0 := (by omega); rw [hz0, bsum_zero] at hs; rw [show bsum ws u.n = n by omega]; done) | trace_state)
abbrev qaq61 (ws : List Int) (need : Int) (u : U64) : LS := [(0, .lst 1 (ws.map cI)), (1, VI need), (2, .v (.int .u64 (u.n : Int)))]
abbrev qaq62 (ws : List Int) (need : Int) (u : U64) : LS := (13, VI (qcheckP ws need)) :: (12, VI need) :: (11, .lst 1 (ws.map cI)) :: (qaq61 ws need u)
abbrev qaq63 (u : U64) (ws : List Int) (need : Int) : LS := (19, .v (.int .u64 (u.n : Int))) :: (18, .lst 1 (ws.map cI)) :: (15, .v (.bool false)) :: (8, VI (qcheckP ws need)) :: (qaq61 ws need u)
abbrev qaq64 (ws : List Int) (u : U64) (need : Int) : LS := (20, .tup [VI ((sumP ws u.n).1), VI ((sumP ws u.n).2)]) :: (qaq63 u ws need)
abbrev qaq65 (ws : List Int) (u : U64) (need : Int) : LS := [(10, VI ((sumP ws u.n).2)), (9, VI ((sumP ws u.n).1)), (1, VI need)]
theorem enough_fn (ws : List Int) (need : Int) (u : U64) (hx : ws.length ≤ 9223372036854775807) : Fn Tryd.prog 10 [.lst 1 (ws.map cI), VI need, .v (.int .u64 (u.n : Int))] (.tup [.v (.bool ((enoughP ws need u.n).1)), VI ((enoughP ws need u.n).2)]) := by
  refine fn_walkW F10_ok (of_decide_eq_true (by kernel_rfl)) ?_
  refine EL.sreg ?_
  refine OW.last 2 [0, 1, 2] (x' := ⟨(qaq61 ws need u), []⟩) (by kernel_rfl) (by kernel_rfl) ?_
  refine EL.seq ?_
  refine EL.sreg ?_
  refine OW.run 2 (x' := ⟨(12, VI need) :: (11, .lst 1 (ws.map cI)) :: (qaq61 ws need u), []⟩) (by kernel_rfl) ?_
  refine OW.fn (ar := [.lst 1 (ws.map cI), VI need]) (x' := ⟨(qaq62 ws need u), []⟩) (by kernel_rfl) (by kernel_rfl) F18_call (qcheck_fn ws need (by first | omega | (simp; omega))) (by kernel_rfl) (by kernel_rfl) ?_
  refine OW.last 1 [0, 1, 2, 8] (x' := ⟨(8, VI (qcheckP ws need)) :: (qaq61 ws need u), []⟩) (by kernel_rfl) (by kernel_rfl) ?_
  refine EL.sreg ?_
  refine OW.last 2 [0, 1, 2, 8, 15] (x' := ⟨(15, .v (.bool ((qcheckP ws need) != 0))) :: (8, VI (qcheckP ws need)) :: (qaq61 ws need u), []⟩) (by kernel_rfl) (by kernel_rfl) ?_
  rcases Bool.eq_false_or_eq_true (((qcheckP ws need) != 0)) with h1 | h1
  rw [h1]
  have g1 : ¬ ((qcheckP ws need) = 0) := by simpa using h1
  refine EL.condT (by kernel_rfl) ?_
  refine EL.sreg ?_
  refine OW.last 3 [6, 7] (x' := ⟨[(7, VI (qcheckP ws need)), (6, .v (.bool false))], []⟩) (by kernel_rfl) (by kernel_rfl) ?_
  refine EL.ret ?_
  refine thenL_ret ?_
  refine ⟨.inr rfl, .tup [.v (.bool false), VI (qcheckP ws need)], by kernel_rfl, Ale.of_eq ?_⟩
  focus (first | rfl | (simp [enoughP, *]; done) | (simp_all [enoughP]; done) | trace_state)
  rw [h1]
  have g1 : ((qcheckP ws need) = 0) := by simpa using h1
  refine EL.condF (by kernel_rfl) ?_
  refine EL.skip ?_
  refine thenL_norm ?_
  refine EL.sreg ?_
  refine OW.run 2 (x' := ⟨(qaq63 u ws need), []⟩) (by kernel_rfl) ?_
  refine OW.fn (ar := [.lst 1 (ws.map cI), .v (.int .u64 (u.n : Int))]) (x' := ⟨(qaq64 ws u need), []⟩) (by kernel_rfl) (by kernel_rfl) F9_call (sum_fn ws u (by first | omega | (simp; omega))) (by kernel_rfl) (by kernel_rfl) ?_
  refine OW.last 5 [1, 9, 10] (x' := ⟨(qaq65 ws u need), []⟩) (by kernel_rfl) (by kernel_rfl) ?_
  refine EL.sreg ?_
  refine OW.run 3 (x' := ⟨(25, .v (.bool (((sumP ws u.n).2) == 0))) :: (24, .v (.bool (((sumP ws u.n).2) == 0))) :: (23, VI ((sumP ws u.n).2)) :: (qaq65 ws u need), []⟩) (by kernel_rfl) ?_
  rcases Bool.eq_false_or_eq_true ((((sumP ws u.n).2) == 0)) with h2 | h2
  rw [h2]
  have g2 : (((sumP ws u.n).2) = 0) := by simpa using h2
  refine OW.last 7 [6, 7] (x' := ⟨[(7, VI ((sumP ws u.n).2)), (6, .v (.bool (decide (((sumP ws u.n).1) ≥ need))))], []⟩) (by kernel_rfl) (by kernel_rfl) ?_
  refine EL.ret ?_
  refine ⟨.inr rfl, .tup [.v (.bool (decide (((sumP ws u.n).1) ≥ need))), VI ((sumP ws u.n).2)], by kernel_rfl, Ale.of_eq ?_⟩
  focus (first | rfl | (simp [enoughP, *]; done) | (simp_all [enoughP]; done) | trace_state)
  rw [h2]
  have g2 : ¬ (((sumP ws u.n).2) = 0) := by simpa using h2
  refine OW.last 7 [6, 7] (x' := ⟨[(7, VI ((sumP ws u.n).2)), (6, .v (.bool false))], []⟩) (by kernel_rfl) (by kernel_rfl) ?_
  refine EL.ret ?_
  refine ⟨.inr rfl, .tup [.v (.bool false), VI ((sumP ws u.n).2)], by kernel_rfl, Ale.of_eq ?_⟩
  focus (first | rfl | (simp [enoughP, *]; done) | (simp_all [enoughP]; done) | trace_state)
theorem shr_n {n : Nat} {d : Int} (h : 0 ≤ d ∧ n < 18446744073709551616) : ((n : Int)).fdiv (2 ^ (min (Int.toNat d) IntKind.u64.bits)) = ((n / 2 ^ Int.toNat d : Nat) : Int) := by
  have hb : IntKind.u64.bits = 64 := rfl
  rw [hb, Int.fdiv_eq_ediv_of_nonneg _ (Int.le_of_lt (Int.pow_pos (by decide)))]
  by_cases h2 : Int.toNat d ≤ 64
  · rw [Nat.min_eq_left h2, show ((2 : Int) ^ (Int.toNat d)) = ((2 ^ (Int.toNat d) : Nat) : Int) by push_cast; rfl]; rfl
  · have hp : 2 ^ 64 ≤ 2 ^ Int.toNat d := Nat.pow_le_pow_right (by decide) (by omega)
    rw [Nat.min_eq_right (by omega), Nat.div_eq_of_lt (Nat.lt_of_lt_of_le h.2 (by simpa using hp))]
    show (n : Int) / 18446744073709551616 = 0
    omega
/-- Node k is in the set x. -/
def inS (x k : Nat) : Bool := x / 2 ^ k % 2 == 1
theorem inS_b {x k : Nat} : ((((x / 2 ^ k : Nat) : Int) % 2 == 1) : Bool) = inS x k := by
  unfold inS; generalize x / 2 ^ k = q
  rw [Bool.eq_iff_iff]; simp; omega
/-- What is left of a set from node k on. -/
def shN (x k : Nat) : Nat := x / 2 ^ k
theorem shN_0 {x : Nat} : shN x 0 = x := by simp [shN]
theorem bsum_step {w : Int} {r : List Int} {x k : Nat} : bsum (w :: r) (shN x k) = (if inS x k = true then w else 0) + bsum r (shN x (k + 1)) := by
  unfold shN inS
  rw [bsum, Nat.pow_succ, Nat.div_div_eq_div_mul]
  simp
theorem bsum_at {ws : List Int} {x k : Nat} (h : k < ws.length) : bsum (ws.drop k) (shN x k) = (if inS x k = true then (ws[k]?).getD 0 else 0) + bsum (ws.drop (k + 1)) (shN x (k + 1)) := by
  rw [List.drop_eq_getElem_cons h, bsum_step]; simp [h]
theorem qc_nodes {ws : List Int} {need : Int} (h : qcheckP ws need = 0) : (nodesP ws).2 = 0 := by
  unfold qcheckP at h
  by_cases hn : (nodesP ws).2 = 0
  · exact hn
  · rw [if_pos hn] at h; exact absurd h hn
abbrev qaq66 (k : Int) (x : U64) : LS := [(6, VI k), (5, .v (.int .u64 (x.n : Int))), (0, .v (.int .u64 (x.n : Int))), (1, VI k)]
abbrev qaq67 (x : U64) (k : Int) : LS := (7, .v (.int .u64 ((x.n / 2 ^ Int.toNat k : Nat) : Int))) :: (qaq66 k x)
theorem inset_fn (x : U64) (k : Int) (hk0 : 0 ≤ k) : Fn Tryd.prog 26 [.v (.int .u64 (x.n : Int)), VI k] (.v (.bool (inS x.n (Int.toNat k)))) := by
  refine fn_walkW F26_ok (of_decide_eq_true (by kernel_rfl)) ?_
  refine EL.sreg ?_
  refine OW.last 1 [0, 1] (x' := ⟨[(0, .v (.int .u64 (x.n : Int))), (1, VI k)], []⟩) (by kernel_rfl) (by kernel_rfl) ?_
  refine EL.sreg ?_
  refine OW.run 2 (x' := ⟨(qaq66 k x), []⟩) (by kernel_rfl) ?_
  refine OW.ope (v := .v (.int .u64 (((x.n : Int)).fdiv (2 ^ (min (Int.toNat k) IntKind.u64.bits))))) (u := []) (acc := []) (x' := ⟨(7, .v (.int .u64 (((x.n : Int)).fdiv (2 ^ (min (Int.toNat k) IntKind.u64.bits))))) :: (qaq66 k x), []⟩) (by kernel_rfl) (opE_shr (.s 5) (.s 6) .u64 .i64 (x.n : Int) k (by kernel_rfl) (by kernel_rfl) (by kernel_rfl) (by kernel_rfl) (by omega)) (by kernel_rfl) ?_
  have e1 : ((x.n : Int)).fdiv (2 ^ (min (Int.toNat k) IntKind.u64.bits)) = ((x.n / 2 ^ Int.toNat k : Nat) : Int) := shr_n (by exact ⟨hk0, x.lt⟩)
  rw [e1]
  refine OW.run 3 (x' := ⟨(4, .v (.bool (((((x.n / 2 ^ Int.toNat k : Nat) : Int)).tmod 2) == 1))) :: (9, .v (.bool (((((x.n / 2 ^ Int.toNat k : Nat) : Int)).tmod 2) == 1))) :: (8, .v (.int .u64 ((((x.n / 2 ^ Int.toNat k : Nat) : Int)).tmod 2))) :: (qaq67 x k), []⟩) (by kernel_rfl) ?_
  have e2 : (((x.n / 2 ^ Int.toNat k : Nat) : Int)).tmod 2 = ((x.n / 2 ^ Int.toNat k : Nat) : Int) % 2 := rem64 (by generalize x.n / 2 ^ Int.toNat k = q; omega)
  rw [e2]
  refine OW.last 0 [4] (x' := ⟨[(4, .v (.bool ((((x.n / 2 ^ Int.toNat k : Nat) : Int) % 2) == 1)))], []⟩) (by kernel_rfl) (by kernel_rfl) ?_
  refine EL.ret ?_
  refine ⟨.inr rfl, .v (.bool ((((x.n / 2 ^ Int.toNat k : Nat) : Int) % 2) == 1)), by kernel_rfl, Ale.of_eq ?_⟩
  focus (exact congrArg (fun b => AV.v (Value.bool b)) inS_b)
abbrev qaq68 (ws : List Int) : LS := [(7, VI (List.length ws : Int)), (6, .lst 1 (ws.map cI)), (0, .lst 1 (ws.map cI))]
abbrev qaq69 (ws : List Int) : LS := [(9, .lst 1 (ws.map cI)), (8, .v (.bool false)), (0, .lst 1 (ws.map cI))]
abbrev qaq70 (ws : List Int) : LS := [(5, VI 0), (4, VI 0), (0, .lst 1 (ws.map cI))]
abbrev qaq71 (ws : List Int) (a : Int) (k : Nat) : LS := [(0, .lst 1 (ws.map cI)), (4, VI a), (5, VI (k : Int))]
abbrev qaq72 (ws : List Int) (k : Nat) (a : Int) : LS := (13, .lst 1 (ws.map cI)) :: (12, VI (k : Int)) :: (qaq71 ws a k)
abbrev qaq73 (k : Nat) (ws : List Int) (a : Int) : LS := (19, VI (k : Int)) :: (18, .lst 1 (ws.map cI)) :: (15, .v (.bool true)) :: (qaq71 ws a k)
abbrev qaq74 (k : Nat) (ws : List Int) (a6 : Int) (a : Int) : LS := (25, VI (k : Int)) :: (24, .lst 1 (ws.map cI)) :: (23, .v (.bool false)) :: (22, .v (.bool false)) :: (21, VI a6) :: (20, .pim [VI a6] 0) :: (qaq73 k ws a)
abbrev qaq75 (k : Nat) (ws : List Int) (a : Int) : LS := (32, VI (k : Int)) :: (31, .lst 1 (ws.map cI)) :: (30, VI a) :: (29, .v (.bool false)) :: (qaq71 ws a k)
abbrev qaq76 (a6 : Int) (k : Nat) (ws : List Int) (a : Int) : LS := [(34, VI a6), (33, .pim [VI a6] 0), (32, VI (k : Int)), (31, .lst 1 (ws.map cI)), (30, VI a), (29, .v (.bool false)), (0, .lst 1 (ws.map cI)), (5, VI (k : Int))]
abbrev qaq77 (k : Nat) (a : Int) (a6 : Int) (ws : List Int) : LS := [(16, VI (k : Int)), (4, VI (a + a6)), (35, VI (a + a6)), (34, VI a6), (33, .pim [VI a6] 0), (32, VI (k : Int)), (31, .lst 1 (ws.map cI)), (30, VI a), (29, .v (.bool false)), (0, .lst 1 (ws.map cI))]
abbrev qaq78 (k : Nat) (a : Int) (a6 : Int) (ws : List Int) : LS := (5, VI ((k : Int) + 1)) :: (17, VI ((k : Int) + 1)) :: (qaq77 k a a6 ws)
theorem weights_fn (ws : List Int) (hx : ws.length ≤ 9223372036854775807) : Fn Tryd.prog 24 [.lst 1 (ws.map cI)] (.tup [VI ((nodesP ws).1), VI ((nodesP ws).2)]) := by
  refine fn_walkW F24_ok (of_decide_eq_true (by kernel_rfl)) ?_
  refine EL.sreg ?_
  refine OW.last 2 [0] (x' := ⟨[(0, .lst 1 (ws.map cI))], []⟩) (by kernel_rfl) (by kernel_rfl) ?_
  refine EL.seq ?_
  refine EL.sreg ?_
  refine OW.run 1 (x' := ⟨[(6, .lst 1 (ws.map cI)), (0, .lst 1 (ws.map cI))], []⟩) (by kernel_rfl) ?_
  refine OW.ope (v := VI (List.length ws : Int)) (u := []) (acc := []) (x' := ⟨(qaq68 ws), []⟩) (by kernel_rfl) (opE_len cI ws (.s 6) 1 (by kernel_rfl) (by kernel_rfl) (.inl rfl)) (by kernel_rfl) ?_
  refine OW.last 1 [0, 8] (x' := ⟨[(8, .v (.bool ((List.length ws : Int) == 0))), (0, .lst 1 (ws.map cI))], []⟩) (by kernel_rfl) (by kernel_rfl) ?_
  rcases Bool.eq_false_or_eq_true (((List.length ws : Int) == 0)) with h1 | h1
  rw [h1]
  have g1 : ((List.length ws : Int) = 0) := by simpa using h1
  have n1 : ((List.length ws) = 0) := by omega
  refine EL.condT (by kernel_rfl) ?_
  refine EL.sreg ?_
  refine OW.last 2 [2, 3] (x' := ⟨[(3, VI 8), (2, VI 0)], []⟩) (by kernel_rfl) (by kernel_rfl) ?_
  refine EL.ret ?_
  refine thenL_ret ?_
  refine ⟨.inr rfl, .tup [VI 0, VI 8], by kernel_rfl, Ale.of_eq ?_⟩
  focus (first | (rw [nodesP, if_pos (by omega)]; done) | (rw [nodesP, if_neg (by omega), if_pos (by omega)]; done) | (rw [nodesP, if_neg (by omega), if_neg (by omega), hs]; first | (rw [List.drop_eq_nil_of_le (by omega)]; rfl) | (rw [‹ws.drop k = _›, nodesGo, if_neg (by omega)]; done)) | trace_state)
  rw [h1]
  have g1 : ¬ ((List.length ws : Int) = 0) := by simpa using h1
  have n1 : ¬ ((List.length ws) = 0) := by omega
  refine EL.condF (by kernel_rfl) ?_
  refine EL.skip ?_
  refine thenL_norm ?_
  refine EL.seq ?_
  refine EL.sreg ?_
  refine OW.run 1 (x' := ⟨(qaq69 ws), []⟩) (by kernel_rfl) ?_
  refine OW.ope (v := VI (List.length ws : Int)) (u := []) (acc := []) (x' := ⟨(10, VI (List.length ws : Int)) :: (qaq69 ws), []⟩) (by kernel_rfl) (opE_len cI ws (.s 9) 1 (by kernel_rfl) (by kernel_rfl) (.inl rfl)) (by kernel_rfl) ?_
  refine OW.last 1 [0, 11] (x' := ⟨[(11, .v (.bool (decide ((List.length ws : Int) > 12)))), (0, .lst 1 (ws.map cI))], []⟩) (by kernel_rfl) (by kernel_rfl) ?_
  rcases Bool.eq_false_or_eq_true (decide ((List.length ws : Int) > 12)) with h2 | h2
  rw [h2]
  have g2 : ((List.length ws : Int) > 12) := of_decide_eq_true h2
  have n2 : ((List.length ws) > 12) := by omega
  refine EL.condT (by kernel_rfl) ?_
  refine EL.sreg ?_
  refine OW.last 2 [2, 3] (x' := ⟨[(3, VI 2), (2, VI 0)], []⟩) (by kernel_rfl) (by kernel_rfl) ?_
  refine EL.ret ?_
  refine thenL_ret ?_
  refine ⟨.inr rfl, .tup [VI 0, VI 2], by kernel_rfl, Ale.of_eq ?_⟩
  focus (first | (rw [nodesP, if_pos (by omega)]; done) | (rw [nodesP, if_neg (by omega), if_pos (by omega)]; done) | (rw [nodesP, if_neg (by omega), if_neg (by omega), hs]; first | (rw [List.drop_eq_nil_of_le (by omega)]; rfl) | (rw [‹ws.drop k = _›, nodesGo, if_neg (by omega)]; done)) | trace_state)
  rw [h2]
  have g2 : ¬ ((List.length ws : Int) > 12) := of_decide_eq_false h2
  have n2 : ¬ ((List.length ws) > 12) := by omega
  refine EL.condF (by kernel_rfl) ?_
  refine EL.skip ?_
  refine thenL_norm ?_
  refine EL.sreg ?_
  refine OW.last 1 [0, 4] (x' := ⟨[(4, VI 0), (0, .lst 1 (ws.map cI))], []⟩) (by kernel_rfl) (by kernel_rfl) ?_
  refine EL.seq ?_
  refine EL.sreg ?_
  refine OW.last 1 [0, 4, 5] (x' := ⟨(qaq70 ws), []⟩) (by kernel_rfl) (by kernel_rfl) ?_
  refine EL.block ?_
  refine EL.loopN (fun mM xX => ∃ (k : Nat) (a : Int), mM = ws.length - k ∧ (k ≤ ws.length ∧ 1 ≤ ws.length ∧ ws.length ≤ 12 ∧ 0 ≤ a ∧ a ≤ 100 * k ∧ nodesGo ws 0 = nodesGo (ws.drop k) a) ∧ xX = ⟨(qaq71 ws a k), []⟩) (y := (fun (k : Nat) (a : Int) => (⟨(qaq71 ws a k), []⟩ : L3)) 0 0) [0, 4, 5] [] [] (by kernel_rfl) trivial ⟨0, 0, rfl, by simp; omega, rfl⟩ ?_
  rintro _ _ ⟨k, a, rfl, hI3, rfl⟩
  obtain ⟨hk, hl1, hl2, ha0, ha1, hs⟩ := hI3
  refine EL.seq ?_
  refine EL.sreg ?_
  refine OW.run 2 (x' := ⟨(qaq72 ws k a), []⟩) (by kernel_rfl) ?_
  refine OW.ope (v := VI (List.length ws : Int)) (u := []) (acc := []) (x' := ⟨(14, VI (List.length ws : Int)) :: (qaq72 ws k a), []⟩) (by kernel_rfl) (opE_len cI ws (.s 13) 1 (by kernel_rfl) (by kernel_rfl) (.inl rfl)) (by kernel_rfl) ?_
  refine OW.last 1 [0, 4, 5, 15] (x' := ⟨(15, .v (.bool (decide ((k : Int) < (List.length ws : Int))))) :: (qaq71 ws a k), []⟩) (by kernel_rfl) (by kernel_rfl) ?_
  rcases Bool.eq_false_or_eq_true (decide ((k : Int) < (List.length ws : Int))) with h4 | h4
  rw [h4]
  have g4 : ((k : Int) < (List.length ws : Int)) := of_decide_eq_true h4
  have n4 : ((k) < (List.length ws)) := by omega
  refine EL.condT (by kernel_rfl) ?_
  refine EL.skip ?_
  refine thenL_norm ?_
  refine EL.seq ?_
  refine EL.block ?_
  refine EL.seq ?_
  refine EL.sreg ?_
  refine OW.run 2 (x' := ⟨(qaq73 k ws a), []⟩) (by kernel_rfl) ?_
  obtain ⟨a6, ha6⟩ : ∃ y, ws[((k : Int) : Int).toNat]? = some y := idx_ex ⟨by omega, by omega⟩
  have iha6 : ws[k]? = some a6 := by simpa using ha6
  have dha6 := drop_get iha6
  refine OW.ope (v := .pim [VI a6] 0) (u := []) (acc := []) (x' := ⟨(20, .pim [VI a6] 0) :: (qaq73 k ws a), []⟩) (by kernel_rfl) (opE_iad cI ws (.s 18) (.s 19) 1 .i64 (k : Int) a6 (by kernel_rfl) (by kernel_rfl) (.inl rfl) rfl (by omega) ha6) (by kernel_rfl) ?_
  refine OW.run 3 (x' := ⟨(23, .v (.bool (decide (a6 < 0)))) :: (22, .v (.bool (decide (a6 < 0)))) :: (21, VI a6) :: (20, .pim [VI a6] 0) :: (qaq73 k ws a), []⟩) (by kernel_rfl) ?_
  rcases Bool.eq_false_or_eq_true (decide (a6 < 0)) with h7 | h7
  rw [h7]
  have g7 : (a6 < 0) := of_decide_eq_true h7
  refine OW.last 6 [0, 4, 5, 29] (x' := ⟨(29, .v (.bool true)) :: (qaq71 ws a k), []⟩) (by kernel_rfl) (by kernel_rfl) ?_
  refine EL.condT (by kernel_rfl) ?_
  refine EL.sreg ?_
  refine OW.last 2 [2, 3] (x' := ⟨[(3, VI 3), (2, VI 0)], []⟩) (by kernel_rfl) (by kernel_rfl) ?_
  refine EL.ret ?_
  refine thenL_ret ?_
  refine inBlk_ret ?_
  refine thenL_ret ?_
  refine thenL_ret ?_
  refine inBlk_ret ?_
  refine thenL_ret ?_
  refine ⟨.inr rfl, .tup [VI 0, VI 3], by kernel_rfl, Ale.of_eq ?_⟩
  focus (first | (rw [nodesP, if_pos (by omega)]; done) | (rw [nodesP, if_neg (by omega), if_pos (by omega)]; done) | (rw [nodesP, if_neg (by omega), if_neg (by omega), hs]; first | (rw [List.drop_eq_nil_of_le (by omega)]; rfl) | (rw [‹ws.drop k = _›, nodesGo, if_neg (by omega)]; done)) | trace_state)
  rw [h7]
  have g7 : ¬ (a6 < 0) := of_decide_eq_false h7
  refine OW.run 2 (x' := ⟨(qaq74 k ws a6 a), []⟩) (by kernel_rfl) ?_
  refine OW.ope (v := .pim [VI a6] 0) (u := []) (acc := []) (x' := ⟨(26, .pim [VI a6] 0) :: (qaq74 k ws a6 a), []⟩) (by kernel_rfl) (opE_iad cI ws (.s 24) (.s 25) 1 .i64 (k : Int) a6 (by kernel_rfl) (by kernel_rfl) (.inl rfl) rfl (by omega) ha6) (by kernel_rfl) ?_
  refine OW.last 3 [0, 4, 5, 29] (x' := ⟨(29, .v (.bool (decide (a6 > 100)))) :: (qaq71 ws a k), []⟩) (by kernel_rfl) (by kernel_rfl) ?_
  rcases Bool.eq_false_or_eq_true (decide (a6 > 100)) with h8 | h8
  rw [h8]
  have g8 : (a6 > 100) := of_decide_eq_true h8
  refine EL.condT (by kernel_rfl) ?_
  refine EL.sreg ?_
  refine OW.last 2 [2, 3] (x' := ⟨[(3, VI 3), (2, VI 0)], []⟩) (by kernel_rfl) (by kernel_rfl) ?_
  refine EL.ret ?_
  refine thenL_ret ?_
  refine inBlk_ret ?_
  refine thenL_ret ?_
  refine thenL_ret ?_
  refine inBlk_ret ?_
  refine thenL_ret ?_
  refine ⟨.inr rfl, .tup [VI 0, VI 3], by kernel_rfl, Ale.of_eq ?_⟩
  focus (first | (rw [nodesP, if_pos (by omega)]; done) | (rw [nodesP, if_neg (by omega), if_pos (by omega)]; done) | (rw [nodesP, if_neg (by omega), if_neg (by omega), hs]; first | (rw [List.drop_eq_nil_of_le (by omega)]; rfl) | (rw [‹ws.drop k = _›, nodesGo, if_neg (by omega)]; done)) | trace_state)
  rw [h8]
  have g8 : ¬ (a6 > 100) := of_decide_eq_false h8
  refine EL.condF (by kernel_rfl) ?_
  refine EL.skip ?_
  refine thenL_norm ?_
  refine EL.reg0 ?_
  refine OW.run 3 (x' := ⟨(qaq75 k ws a), []⟩) (by kernel_rfl) ?_
  refine OW.ope (v := .pim [VI a6] 0) (u := []) (acc := []) (x' := ⟨(33, .pim [VI a6] 0) :: (qaq75 k ws a), []⟩) (by kernel_rfl) (opE_iad cI ws (.s 31) (.s 32) 1 .i64 (k : Int) a6 (by kernel_rfl) (by kernel_rfl) (.inl rfl) rfl (by omega) ha6) (by kernel_rfl) ?_
  refine OW.run 3 (x' := ⟨(4, VI (IntKind.i64.wrap (a + a6))) :: (35, VI (IntKind.i64.wrap (a + a6))) :: (qaq76 a6 k ws a), []⟩) (by kernel_rfl) ?_
  have e9 : IntKind.i64.wrap (a + a6) = a + a6 := wr64 (by omega)
  rw [e9]
  refine OW.end 0 (x' := ⟨(4, VI (a + a6)) :: (35, VI (a + a6)) :: (qaq76 a6 k ws a), []⟩) (by kernel_rfl) (by kernel_rfl) ?_
  refine inBlk_norm ?_
  refine thenL_norm ?_
  refine EL.reg0 ?_
  refine OW.run 3 (x' := ⟨(5, VI (IntKind.i64.wrap ((k : Int) + 1))) :: (17, VI (IntKind.i64.wrap ((k : Int) + 1))) :: (qaq77 k a a6 ws), []⟩) (by kernel_rfl) ?_
  have e10 : IntKind.i64.wrap ((k : Int) + 1) = (k : Int) + 1 := wr64 (by omega)
  rw [e10]
  refine OW.end 0 (x' := ⟨(qaq78 k a a6 ws), []⟩) (by kernel_rfl) (by kernel_rfl) ?_
  refine thenL_norm ?_
  refine round_end (live := [0, 4, 5]) (src := []) (es := []) (y := (fun (k : Nat) (a : Int) => (⟨(qaq71 ws a k), []⟩ : L3)) (k + 1) (a + a6)) ?_ trivial ?_ ⟨(k + 1), (a + a6), rfl, ?_, rfl⟩
  kernel_rfl
  omega
  focus (refine ⟨by omega, hl1, hl2, by omega, by omega, ?_⟩; rw [hs, ‹ws.drop k = _›, nodesGo, if_pos (by omega)])
  rw [h4]
  have g4 : ¬ ((k : Int) < (List.length ws : Int)) := of_decide_eq_false h4
  have n4 : ¬ ((k) < (List.length ws)) := by omega
  refine EL.condF (by kernel_rfl) ?_
  refine EL.exit ?_
  refine thenL_exit ?_
  refine thenL_exit ?_
  refine inBlk_hit ?_
  refine thenL_norm ?_
  refine EL.sreg ?_
  refine OW.last 3 [2, 3] (x' := ⟨[(3, VI 0), (2, VI a)], []⟩) (by kernel_rfl) (by kernel_rfl) ?_
  refine EL.ret ?_
  refine ⟨.inr rfl, .tup [VI a, VI 0], by kernel_rfl, Ale.of_eq ?_⟩
  focus (first | (rw [nodesP, if_pos (by omega)]; done) | (rw [nodesP, if_neg (by omega), if_pos (by omega)]; done) | (rw [nodesP, if_neg (by omega), if_neg (by omega), hs]; first | (rw [List.drop_eq_nil_of_le (by omega)]; rfl) | (rw [‹ws.drop k = _›, nodesGo, if_neg (by omega)]; done)) | trace_state)
abbrev qaq79 (ws : List Int) (need : Int) : LS := [(21, .v (.bool true)), (5, VI ((nodesP ws).1)), (1, VI need)]
abbrev qaq80 (need : Int) (ws : List Int) : LS := [(22, VI need), (21, .v (.bool false)), (5, VI ((nodesP ws).1)), (1, VI need)]
theorem rqcheck_fn (ws : List Int) (need : Int) (hx : ws.length ≤ 9223372036854775807) : Fn Tryd.prog 14 [.lst 1 (ws.map cI), VI need] (VI (qcheckP ws need)) := by
  refine fn_walkW F14_ok (of_decide_eq_true (by kernel_rfl)) ?_
  refine EL.sreg ?_
  refine OW.last 1 [0, 1] (x' := ⟨[(0, .lst 1 (ws.map cI)), (1, VI need)], []⟩) (by kernel_rfl) (by kernel_rfl) ?_
  refine EL.sreg ?_
  refine OW.run 1 (x' := ⟨(qaq9 ws need), []⟩) (by kernel_rfl) ?_
  refine OW.fn (ar := [.lst 1 (ws.map cI)]) (x' := ⟨(qaq10 ws need), []⟩) (by kernel_rfl) (by kernel_rfl) F24_call (weights_fn ws (by first | omega | (simp; omega))) (by kernel_rfl) (by kernel_rfl) ?_
  refine OW.last 5 [1, 5, 6] (x' := ⟨(qaq11 ws need), []⟩) (by kernel_rfl) (by kernel_rfl) ?_
  refine EL.seq ?_
  refine EL.sreg ?_
  refine OW.last 2 [1, 5, 6, 13] (x' := ⟨(13, .v (.bool (((nodesP ws).2) != 0))) :: (qaq11 ws need), []⟩) (by kernel_rfl) (by kernel_rfl) ?_
  rcases Bool.eq_false_or_eq_true ((((nodesP ws).2) != 0)) with h1 | h1
  rw [h1]
  have g1 : ¬ (((nodesP ws).2) = 0) := by simpa using h1
  refine EL.condT (by kernel_rfl) ?_
  refine EL.sreg ?_
  refine OW.last 2 [4] (x' := ⟨[(4, VI ((nodesP ws).2))], []⟩) (by kernel_rfl) (by kernel_rfl) ?_
  refine EL.ret ?_
  refine thenL_ret ?_
  refine ⟨.inr rfl, VI ((nodesP ws).2), by kernel_rfl, Ale.of_eq ?_⟩
  focus ((refine congrArg (fun n => VI n) ?_; simp only [qcheckP]; (repeat' split) <;> first | rfl | omega | (exfalso; omega) | contradiction | trace_state))
  rw [h1]
  have g1 : (((nodesP ws).2) = 0) := by simpa using h1
  refine EL.condF (by kernel_rfl) ?_
  refine EL.skip ?_
  refine thenL_norm ?_
  refine EL.seq ?_
  refine EL.sreg ?_
  refine OW.run 3 (x' := ⟨(17, .v (.bool (decide (need < 1)))) :: (16, .v (.bool (decide (need < 1)))) :: (15, VI need) :: (13, .v (.bool false)) :: (qaq11 ws need), []⟩) (by kernel_rfl) ?_
  rcases Bool.eq_false_or_eq_true (decide (need < 1)) with h2 | h2
  rw [h2]
  have g2 : (need < 1) := of_decide_eq_true h2
  refine OW.last 4 [1, 5, 21] (x' := ⟨(qaq79 ws need), []⟩) (by kernel_rfl) (by kernel_rfl) ?_
  refine EL.condT (by kernel_rfl) ?_
  refine EL.sreg ?_
  refine OW.last 1 [4] (x' := ⟨[(4, VI 3)], []⟩) (by kernel_rfl) (by kernel_rfl) ?_
  refine EL.ret ?_
  refine thenL_ret ?_
  refine ⟨.inr rfl, VI 3, by kernel_rfl, Ale.of_eq ?_⟩
  focus ((refine congrArg (fun n => VI n) ?_; simp only [qcheckP]; (repeat' split) <;> first | rfl | omega | (exfalso; omega) | contradiction | trace_state))
  rw [h2]
  have g2 : ¬ (need < 1) := of_decide_eq_false h2
  refine OW.last 4 [1, 5, 21] (x' := ⟨[(21, .v (.bool (decide (need > (nodesP ws).1)))), (5, VI ((nodesP ws).1)), (1, VI need)], []⟩) (by kernel_rfl) (by kernel_rfl) ?_
  rcases Bool.eq_false_or_eq_true (decide (need > (nodesP ws).1)) with h3 | h3
  rw [h3]
  have g3 : (need > (nodesP ws).1) := of_decide_eq_true h3
  refine EL.condT (by kernel_rfl) ?_
  refine EL.sreg ?_
  refine OW.last 1 [4] (x' := ⟨[(4, VI 3)], []⟩) (by kernel_rfl) (by kernel_rfl) ?_
  refine EL.ret ?_
  refine thenL_ret ?_
  refine ⟨.inr rfl, VI 3, by kernel_rfl, Ale.of_eq ?_⟩
  focus ((refine congrArg (fun n => VI n) ?_; simp only [qcheckP]; (repeat' split) <;> first | rfl | omega | (exfalso; omega) | contradiction | trace_state))
  rw [h3]
  have g3 : ¬ (need > (nodesP ws).1) := of_decide_eq_false h3
  refine EL.condF (by kernel_rfl) ?_
  refine EL.skip ?_
  refine thenL_norm ?_
  refine EL.seq ?_
  refine EL.sreg ?_
  refine OW.run 4 (x' := ⟨(25, .v (.bool (decide ((IntKind.i64.wrap (need * 2)) ≤ (nodesP ws).1)))) :: (24, VI ((nodesP ws).1)) :: (23, VI (IntKind.i64.wrap (need * 2))) :: (qaq80 need ws), []⟩) (by kernel_rfl) ?_
  have e4 : IntKind.i64.wrap (need * 2) = need * 2 := wr64 (by have hb := nodes_bd (ws := ws) (by assumption); omega)
  rw [e4]
  refine OW.last 0 [25] (x' := ⟨[(25, .v (.bool (decide ((need * 2) ≤ (nodesP ws).1))))], []⟩) (by kernel_rfl) (by kernel_rfl) ?_
  rcases Bool.eq_false_or_eq_true (decide ((need * 2) ≤ (nodesP ws).1)) with h5 | h5
  rw [h5]
  have g5 : ((need * 2) ≤ (nodesP ws).1) := of_decide_eq_true h5
  refine EL.condT (by kernel_rfl) ?_
  refine EL.sreg ?_
  refine OW.last 1 [4] (x' := ⟨[(4, VI 4)], []⟩) (by kernel_rfl) (by kernel_rfl) ?_
  refine EL.ret ?_
  refine thenL_ret ?_
  refine ⟨.inr rfl, VI 4, by kernel_rfl, Ale.of_eq ?_⟩
  focus ((refine congrArg (fun n => VI n) ?_; simp only [qcheckP]; (repeat' split) <;> first | rfl | omega | (exfalso; omega) | contradiction | trace_state))
  rw [h5]
  have g5 : ¬ ((need * 2) ≤ (nodesP ws).1) := of_decide_eq_false h5
  refine EL.condF (by kernel_rfl) ?_
  refine EL.skip ?_
  refine thenL_norm ?_
  refine EL.sreg ?_
  refine OW.last 1 [4] (x' := ⟨[(4, VI 0)], []⟩) (by kernel_rfl) (by kernel_rfl) ?_
  refine EL.ret ?_
  refine ⟨.inr rfl, VI 0, by kernel_rfl, Ale.of_eq ?_⟩
  focus ((refine congrArg (fun n => VI n) ?_; simp only [qcheckP]; (repeat' split) <;> first | rfl | omega | (exfalso; omega) | contradiction | trace_state))
abbrev qaq81 (ws : List Int) (u : U64) : LS := [(5, VI 0), (0, .lst 1 (ws.map cI)), (1, .v (.int .u64 (u.n : Int)))]
abbrev qaq82 (ws : List Int) (u : U64) (n : Int) (k : Nat) : LS := [(0, .lst 1 (ws.map cI)), (1, .v (.int .u64 (u.n : Int))), (5, VI n), (6, VI (k : Int))]
abbrev qaq83 (ws : List Int) (k : Nat) (u : U64) (n : Int) : LS := (8, .lst 1 (ws.map cI)) :: (7, VI (k : Int)) :: (qaq82 ws u n k)
abbrev qaq84 (k : Nat) (u : U64) (ws : List Int) (n : Int) : LS := (14, VI (k : Int)) :: (13, .v (.int .u64 (u.n : Int))) :: (10, .v (.bool true)) :: (qaq82 ws u n k)
abbrev qaq85 (k : Nat) (ws : List Int) (n : Int) (u : U64) : LS := (18, VI (k : Int)) :: (17, .lst 1 (ws.map cI)) :: (16, VI n) :: (15, .v (.bool true)) :: (qaq82 ws u n k)
abbrev qaq86 (a5 : Int) (k : Nat) (ws : List Int) (n : Int) (u : U64) : LS := [(20, VI a5), (19, .pim [VI a5] 0), (18, VI (k : Int)), (17, .lst 1 (ws.map cI)), (16, VI n), (15, .v (.bool true)), (0, .lst 1 (ws.map cI)), (1, .v (.int .u64 (u.n : Int))), (6, VI (k : Int))]
abbrev qaq87 (k : Nat) (n : Int) (a5 : Int) (ws : List Int) (u : U64) : LS := [(11, VI (k : Int)), (5, VI (n + a5)), (21, VI (n + a5)), (20, VI a5), (19, .pim [VI a5] 0), (18, VI (k : Int)), (17, .lst 1 (ws.map cI)), (16, VI n), (15, .v (.bool true)), (0, .lst 1 (ws.map cI)), (1, .v (.int .u64 (u.n : Int)))]
abbrev qaq88 (k : Nat) (n : Int) (a5 : Int) (ws : List Int) (u : U64) : LS := (6, VI ((k : Int) + 1)) :: (12, VI ((k : Int) + 1)) :: (qaq87 k n a5 ws u)
abbrev qaq89 (k : Nat) (ws : List Int) (u : U64) (n : Int) : LS := [(11, VI (k : Int)), (15, .v (.bool false)), (0, .lst 1 (ws.map cI)), (1, .v (.int .u64 (u.n : Int))), (5, VI n)]
abbrev qaq90 (k : Nat) (ws : List Int) (u : U64) (n : Int) : LS := (6, VI ((k : Int) + 1)) :: (12, VI ((k : Int) + 1)) :: (qaq89 k ws u n)
theorem sumof_fn (ws : List Int) (u : U64) (hw : (nodesP ws).2 = 0) : Fn Tryd.prog 25 [.lst 1 (ws.map cI), .v (.int .u64 (u.n : Int))] (VI (bsum ws u.n)) := by
  have hnb := nodes_bd hw
  refine fn_walkW F25_ok (of_decide_eq_true (by kernel_rfl)) ?_
  refine EL.sreg ?_
  refine OW.last 1 [0, 1] (x' := ⟨[(0, .lst 1 (ws.map cI)), (1, .v (.int .u64 (u.n : Int)))], []⟩) (by kernel_rfl) (by kernel_rfl) ?_
  refine EL.sreg ?_
  refine OW.last 1 [0, 1, 5] (x' := ⟨(qaq81 ws u), []⟩) (by kernel_rfl) (by kernel_rfl) ?_
  refine EL.seq ?_
  refine EL.sreg ?_
  refine OW.last 1 [0, 1, 5, 6] (x' := ⟨(6, VI 0) :: (qaq81 ws u), []⟩) (by kernel_rfl) (by kernel_rfl) ?_
  refine EL.block ?_
  refine EL.loopN (fun mM xX => ∃ (k : Nat) (n : Int), mM = ws.length - k ∧ (k ≤ ws.length ∧ n + bsum (ws.drop k) (shN u.n k) = bsum ws u.n ∧ 0 ≤ n) ∧ xX = ⟨(qaq82 ws u n k), []⟩) (y := (fun (k : Nat) (n : Int) => (⟨(qaq82 ws u n k), []⟩ : L3)) 0 0) [0, 1, 5, 6] [] [] (by kernel_rfl) trivial ⟨0, 0, rfl, by rw [shN_0]; simp, rfl⟩ ?_
  rintro _ _ ⟨k, n, rfl, hI1, rfl⟩
  obtain ⟨hk, hs, hn0⟩ := hI1
  have hb1 := bsum_bd (ws.drop k) (shN u.n k) (fun w hw => hnb.2.2.2.2 w (List.mem_of_mem_drop hw))
  refine EL.seq ?_
  refine EL.sreg ?_
  refine OW.run 2 (x' := ⟨(qaq83 ws k u n), []⟩) (by kernel_rfl) ?_
  refine OW.ope (v := VI (List.length ws : Int)) (u := []) (acc := []) (x' := ⟨(9, VI (List.length ws : Int)) :: (qaq83 ws k u n), []⟩) (by kernel_rfl) (opE_len cI ws (.s 8) 1 (by kernel_rfl) (by kernel_rfl) (.inl rfl)) (by kernel_rfl) ?_
  refine OW.last 1 [0, 1, 5, 6, 10] (x' := ⟨(10, .v (.bool (decide ((k : Int) < (List.length ws : Int))))) :: (qaq82 ws u n k), []⟩) (by kernel_rfl) (by kernel_rfl) ?_
  rcases Bool.eq_false_or_eq_true (decide ((k : Int) < (List.length ws : Int))) with h2 | h2
  rw [h2]
  have g2 : ((k : Int) < (List.length ws : Int)) := of_decide_eq_true h2
  have n2 : ((k) < (List.length ws)) := by omega
  refine EL.condT (by kernel_rfl) ?_
  refine EL.skip ?_
  refine thenL_norm ?_
  refine EL.seq ?_
  refine EL.block ?_
  refine EL.sreg ?_
  refine OW.run 2 (x' := ⟨(qaq84 k u ws n), []⟩) (by kernel_rfl) ?_
  refine OW.fn (ar := [.v (.int .u64 (u.n : Int)), VI (k : Int)]) (x' := ⟨(15, .v (.bool (inS u.n (Int.toNat (k : Int))))) :: (qaq84 k u ws n), []⟩) (by kernel_rfl) (by kernel_rfl) F26_call (inset_fn u (k : Int) (by omega)) (by kernel_rfl) (by kernel_rfl) ?_
  refine OW.last 0 [0, 1, 5, 6, 15] (x' := ⟨(15, .v (.bool (inS u.n (Int.toNat (k : Int))))) :: (qaq82 ws u n k), []⟩) (by kernel_rfl) (by kernel_rfl) ?_
  rcases Bool.eq_false_or_eq_true (inS u.n (Int.toNat (k : Int))) with h3 | h3
  rw [h3]
  refine EL.condT (by kernel_rfl) ?_
  refine EL.reg0 ?_
  refine OW.run 3 (x' := ⟨(qaq85 k ws n u), []⟩) (by kernel_rfl) ?_
  obtain ⟨a5, ha5⟩ : ∃ y, ws[((k : Int) : Int).toNat]? = some y := idx_ex ⟨by omega, by omega⟩
  have iha5 : ws[k]? = some a5 := by simpa using ha5
  have dha5 := drop_get iha5
  refine OW.ope (v := .pim [VI a5] 0) (u := []) (acc := []) (x' := ⟨(19, .pim [VI a5] 0) :: (qaq85 k ws n u), []⟩) (by kernel_rfl) (opE_iad cI ws (.s 17) (.s 18) 1 .i64 (k : Int) a5 (by kernel_rfl) (by kernel_rfl) (.inl rfl) rfl (by omega) ha5) (by kernel_rfl) ?_
  refine OW.run 3 (x' := ⟨(5, VI (IntKind.i64.wrap (n + a5))) :: (21, VI (IntKind.i64.wrap (n + a5))) :: (qaq86 a5 k ws n u), []⟩) (by kernel_rfl) ?_
  have e6 : IntKind.i64.wrap (n + a5) = n + a5 := wr64 (by have hw9 := hnb.2.2.2.2 a5 (List.mem_of_getElem? ha5); have hb3 := bsum_bd ws u.n hnb.2.2.2.2; omega)
  rw [e6]
  refine OW.end 0 (x' := ⟨(5, VI (n + a5)) :: (21, VI (n + a5)) :: (qaq86 a5 k ws n u), []⟩) (by kernel_rfl) (by kernel_rfl) ?_
  refine inBlk_norm ?_
  refine thenL_norm ?_
  refine EL.reg0 ?_
  refine OW.run 3 (x' := ⟨(6, VI (IntKind.i64.wrap ((k : Int) + 1))) :: (12, VI (IntKind.i64.wrap ((k : Int) + 1))) :: (qaq87 k n a5 ws u), []⟩) (by kernel_rfl) ?_
  have e7 : IntKind.i64.wrap ((k : Int) + 1) = (k : Int) + 1 := wr64 (by omega)
  rw [e7]
  refine OW.end 0 (x' := ⟨(qaq88 k n a5 ws u), []⟩) (by kernel_rfl) (by kernel_rfl) ?_
  refine thenL_norm ?_
  refine round_end (live := [0, 1, 5, 6]) (src := []) (es := []) (y := (fun (k : Nat) (n : Int) => (⟨(qaq82 ws u n k), []⟩ : L3)) (k + 1) (n + a5)) ?_ trivial ?_ ⟨(k + 1), (n + a5), rfl, ?_, rfl⟩
  kernel_rfl
  omega
  focus ((have hq := bsum_at (ws := ws) (x := u.n) (k := k) (by omega); first | (rw [if_pos (by assumption), iha5, Option.getD_some] at hq; have hw9 := hnb.2.2.2.2 a5 (List.mem_of_getElem? ha5); refine ⟨by omega, by omega, by omega⟩) | (rw [if_neg (by simp_all)] at hq; refine ⟨by omega, by omega, by omega⟩)))
  rw [h3]
  refine EL.condF (by kernel_rfl) ?_
  refine EL.skip ?_
  refine inBlk_norm ?_
  refine thenL_norm ?_
  refine EL.reg0 ?_
  refine OW.run 3 (x' := ⟨(6, VI (IntKind.i64.wrap ((k : Int) + 1))) :: (12, VI (IntKind.i64.wrap ((k : Int) + 1))) :: (qaq89 k ws u n), []⟩) (by kernel_rfl) ?_
  have e8 : IntKind.i64.wrap ((k : Int) + 1) = (k : Int) + 1 := wr64 (by omega)
  rw [e8]
  refine OW.end 0 (x' := ⟨(qaq90 k ws u n), []⟩) (by kernel_rfl) (by kernel_rfl) ?_
  refine thenL_norm ?_
  refine round_end (live := [0, 1, 5, 6]) (src := []) (es := []) (y := (fun (k : Nat) (n : Int) => (⟨(qaq82 ws u n k), []⟩ : L3)) (k + 1) n) ?_ trivial ?_ ⟨(k + 1), n, rfl, ?_, rfl⟩
  kernel_rfl
  omega
  focus ((have hq := bsum_at (ws := ws) (x := u.n) (k := k) (by omega); first | (rw [if_pos (by assumption), iha5, Option.getD_some] at hq; have hw9 := hnb.2.2.2.2 a5 (List.mem_of_getElem? ha5); refine ⟨by omega, by omega, by omega⟩) | (rw [if_neg (by simp_all)] at hq; refine ⟨by omega, by omega, by omega⟩)))
  rw [h2]
  have g2 : ¬ ((k : Int) < (List.length ws : Int)) := of_decide_eq_false h2
  have n2 : ¬ ((k) < (List.length ws)) := by omega
  refine EL.condF (by kernel_rfl) ?_
  refine EL.exit ?_
  refine thenL_exit ?_
  refine thenL_exit ?_
  refine inBlk_hit ?_
  refine thenL_norm ?_
  refine EL.sreg ?_
  refine OW.last 2 [4] (x' := ⟨[(4, VI n)], []⟩) (by kernel_rfl) (by kernel_rfl) ?_
  refine EL.ret ?_
  refine ⟨.inr rfl, VI n, by kernel_rfl, Ale.of_eq ?_⟩
  focus ((refine congrArg (fun n => VI n) ?_; rw [List.drop_eq_nil_of_le (by omega)] at hs; simp only [bsum] at hs; omega))
theorem wru64 {a : Int} (h : 0 ≤ a ∧ a < 18446744073709551616) : IntKind.u64.wrap a = a := by rw [IntKind.wrap_u64]; omega
/-- One element on its way into the sorted ones. -/
def InsI (xs : List Int) (i : Nat) (zs : List Int) (j : Nat) : Prop :=
  ∃ p q x, zs = p.reverse ++ x :: (q.reverse ++ xs.drop (i + 1)) ∧ p.length = j ∧ j + q.length = i ∧ insR x (srtGo [] (xs.take i)) = q ++ insR x p ∧ xs[i]? = some x
theorem srtGo_len (ws acc : List Int) : (srtGo acc ws).length = acc.length + ws.length := by rw [(srtGo_perm ws acc).length_eq, List.length_append]
theorem srtGo_snoc : ∀ (l acc : List Int) (x : Int), srtGo acc (l ++ [x]) = insR x (srtGo acc l)
  | [], _, _ => rfl
  | a :: l, acc, x => by simp only [List.cons_append, srtGo, srtGo_snoc l]
theorem InsI.start {xs : List Int} {i : Nat} (h : i < xs.length) : InsI xs i ((srtGo [] (xs.take i)).reverse ++ xs.drop i) i := by
  refine ⟨srtGo [] (xs.take i), [], xs[i], ?_, ?_, by simp, by simp, by simp [h]⟩
  · rw [List.drop_eq_getElem_cons h]; rfl
  · rw [srtGo_len]; simp; omega
theorem InsI.len {xs zs : List Int} {i j : Nat} (h : InsI xs i zs j) : zs.length = xs.length ∧ j ≤ i ∧ i < xs.length := by
  obtain ⟨p, q, x, rfl, h1, h2, h3, h4⟩ := h
  have := (List.getElem?_eq_some_iff.1 h4).1
  simp; omega
theorem InsI.swap {xs zs : List Int} {i j : Nat} (h : InsI xs i zs j) (hj : 0 < j) {a b : Int} (ha : zs[j]? = some a) (hb : zs[j - 1]? = some b) (hl : b < a) : InsI xs i ((zs.set j b).set (j - 1) a) (j - 1) := by
  obtain ⟨p, q, x, rfl, h1, h2, h3, h4⟩ := h
  cases p with
  | nil => simp at h1; omega
  | cons y p =>
    simp only [List.length_cons] at h1
    have hpl : p.reverse.length = j - 1 := by simp; omega
    have e : (y :: p).reverse ++ x :: (q.reverse ++ xs.drop (i + 1)) = p.reverse ++ (y :: x :: (q.reverse ++ xs.drop (i + 1))) := by simp
    rw [e] at ha hb ⊢
    rw [List.getElem?_append_right (by omega), hpl, show j - (j - 1) = 1 by omega] at ha
    rw [List.getElem?_append_right (by omega), hpl, show j - 1 - (j - 1) = 0 by omega] at hb
    simp only [List.getElem?_cons_succ, List.getElem?_cons_zero, Option.some.injEq] at ha hb
    subst ha; subst hb
    rw [List.set_append_right _ _ (by omega), hpl, show j - (j - 1) = 1 by omega, List.set_append_right _ _ (by omega), hpl, show j - 1 - (j - 1) = 0 by omega]
    refine ⟨p, q ++ [y], x, by simp, by omega, by simp; omega, ?_, h4⟩
    rw [h3]; simp only [insR, if_pos hl, List.append_assoc, List.cons_append, List.nil_append]
theorem InsI.done {xs zs : List Int} {i j : Nat} (h : InsI xs i zs j) (hd : j = 0 ∨ ∃ a b, zs[j]? = some a ∧ zs[j - 1]? = some b ∧ ¬ b < a) : zs = (srtGo [] (xs.take (i + 1))).reverse ++ xs.drop (i + 1) := by
  obtain ⟨p, q, x, hz, h1, h2, h3, h4⟩ := h
  have ht : xs.take (i + 1) = xs.take i ++ [x] := by
    obtain ⟨hi, rfl⟩ := List.getElem?_eq_some_iff.1 h4
    exact (List.take_append_getElem hi).symm
  rw [ht, srtGo_snoc, h3, hz]
  have hp : insR x p = x :: p := by
    cases p with
    | nil => rfl
    | cons y p =>
      rcases hd with hd | ⟨a, b, ha, hb, hl⟩
      · subst hd; simp at h1
      · simp only [List.length_cons] at h1
        have hpl : p.reverse.length = j - 1 := by simp; omega
        have e : (y :: p).reverse ++ x :: (q.reverse ++ xs.drop (i + 1)) = p.reverse ++ (y :: x :: (q.reverse ++ xs.drop (i + 1))) := by simp
        rw [hz, e] at ha hb
        rw [List.getElem?_append_right (by omega), hpl, show j - (j - 1) = 1 by omega] at ha
        rw [List.getElem?_append_right (by omega), hpl, show j - 1 - (j - 1) = 0 by omega] at hb
        simp only [List.getElem?_cons_succ, List.getElem?_cons_zero, Option.some.injEq] at ha hb
        subst ha; subst hb
        simp only [insR, if_neg hl]
  rw [hp]; simp
theorem mem_set2 {zs : List Int} {j k : Nat} {a b : Int} (h : ∀ w, w ∈ zs → 0 ≤ w ∧ w ≤ 100) (ha : 0 ≤ a ∧ a ≤ 100) (hb : 0 ≤ b ∧ b ≤ 100) : ∀ w, w ∈ (zs.set j b).set k a → 0 ≤ w ∧ w ≤ 100 := by
  intro w hw
  rcases List.mem_or_eq_of_mem_set hw with hw | rfl
  · rcases List.mem_or_eq_of_mem_set hw with hw | rfl
    · exact h w hw
    · exact hb
  · exact ha
theorem hcmp_fn (a : Int) (b : Int) (hab : (0 ≤ a ∧ a ≤ 100) ∧ 0 ≤ b ∧ b ≤ 100) : Fn Tryd.prog 29 [VI a, VI b] (VI (b - a)) := by
  refine fn_walkW F29_ok (of_decide_eq_true (by kernel_rfl)) ?_
  refine EL.sreg ?_
  refine OW.last 1 [0, 1] (x' := ⟨[(0, VI a), (1, VI b)], []⟩) (by kernel_rfl) (by kernel_rfl) ?_
  refine EL.sreg ?_
  refine OW.run 4 (x' := ⟨[(4, VI (IntKind.i64.wrap (b - a))), (7, VI (IntKind.i64.wrap (b - a))), (6, VI a), (5, VI b), (0, VI a), (1, VI b)], []⟩) (by kernel_rfl) ?_
  have e1 : IntKind.i64.wrap (b - a) = b - a := wr64 (by omega)
  rw [e1]
  refine OW.last 0 [4] (x' := ⟨[(4, VI (b - a))], []⟩) (by kernel_rfl) (by kernel_rfl) ?_
  refine EL.ret ?_
  refine ⟨.inr rfl, VI (b - a), by kernel_rfl, Ale.of_eq ?_⟩
  focus (rfl)
abbrev qaq91 (xs : List Int) : LS := [(8, VI 1), (0, .own 0 1 0 (List.length xs)), (1, VI 0), (2, VI (List.length xs : Int)), (3, .fn 29 [])]
abbrev qaq92 (xs : List Int) (i : Nat) : LS := [(0, .own 0 1 0 (List.length xs)), (1, VI 0), (2, VI (List.length xs : Int)), (3, .fn 29 []), (8, VI (i : Int))]
abbrev qaq93 (xs : List Int) (i : Nat) (j : Int) : LS := [(0, .own 0 1 0 (List.length xs)), (1, VI 0), (2, VI (List.length xs : Int)), (3, .fn 29 []), (8, VI (i : Int)), (9, VI j)]
abbrev qaq94 (j : Int) (xs : List Int) (i : Nat) : LS := (24, VI j) :: (23, .own 0 1 0 (List.length xs)) :: (22, .fn 29 []) :: (21, .v (.bool true)) :: (20, .v (.bool true)) :: (19, VI 0) :: (18, VI j) :: (qaq93 xs i j)
abbrev qaq95 (a6 : Int) (j : Int) (xs : List Int) (i : Nat) : LS := (26, VI a6) :: (25, .ref 0 1 (0 + Int.toNat j) 0) :: (qaq94 j xs i)
abbrev qaq96 (j : Int) (xs : List Int) (a6 : Int) (i : Nat) : LS := (28, VI j) :: (27, .own 0 1 0 (List.length xs)) :: (qaq95 a6 j xs i)
abbrev qaq97 (j : Int) (xs : List Int) (a6 : Int) (i : Nat) : LS := (30, .ref 0 1 (0 + Int.toNat (j - 1)) 0) :: (29, VI (j - 1)) :: (qaq96 j xs a6 i)
abbrev qaq98 (j : Int) (xs : List Int) (i : Nat) : LS := (40, VI j) :: (39, .own 0 1 0 (List.length xs)) :: (38, VI j) :: (37, .own 0 1 0 (List.length xs)) :: (34, .v (.bool true)) :: (qaq93 xs i j)
abbrev qaq99 (j : Int) (xs : List Int) (i : Nat) : LS := (45, .ref 0 1 (0 + Int.toNat (j - 1)) 0) :: (44, VI (j - 1)) :: (43, VI j) :: (42, .own 0 1 0 (List.length xs)) :: (41, VI (j - 1)) :: (qaq98 j xs i)
abbrev qaq100 (j : Int) (xs : List Int) (a9 : Int) (i : Nat) : LS := (48, VI j) :: (47, .own 0 1 0 (List.length xs)) :: (46, VI a9) :: (qaq99 j xs i)
abbrev qaq101 (a6 : Int) (j : Int) (xs : List Int) (a9 : Int) (i : Nat) : LS := (50, VI a6) :: (49, .ref 0 1 (0 + Int.toNat j) 0) :: (qaq100 j xs a9 i)
abbrev qaq102 (j : Int) (a6 : Int) (xs : List Int) (a9 : Int) (i : Nat) : LS := (52, .ref 0 1 (0 + Int.toNat (j - 1)) 0) :: (51, .ref 0 1 (0 + Int.toNat j) 0) :: (qaq101 a6 j xs a9 i)
abbrev qaq103 (zs : List Int) (j : Int) (a9 : Int) (a6 : Int) : OB := some ⟨1, ((List.set (List.set zs (0 + Int.toNat j) a9) (0 + Int.toNat (j - 1)) a6).map cI)⟩
abbrev qaq104 (j : Int) (a6 : Int) (xs : List Int) (a9 : Int) (i : Nat) : LS := (35, VI j) :: (52, .ref 0 1 (0 + Int.toNat (j - 1)) 0) :: (51, .ref 0 1 (0 + Int.toNat j) 0) :: (50, VI a6) :: (49, .ref 0 1 (0 + Int.toNat j) 0) :: (48, VI j) :: (47, .own 0 1 0 (List.length xs)) :: (46, VI a9) :: (45, .ref 0 1 (0 + Int.toNat (j - 1)) 0) :: (44, VI (j - 1)) :: (43, VI j) :: (42, .own 0 1 0 (List.length xs)) :: (41, VI (j - 1)) :: (40, VI j) :: (39, .own 0 1 0 (List.length xs)) :: (38, VI j) :: (37, .own 0 1 0 (List.length xs)) :: (34, .v (.bool true)) :: (qaq92 xs i)
abbrev qaq105 (i : Nat) (xs : List Int) (j : Int) : LS := [(15, VI (i : Int)), (34, .v (.bool false)), (0, .own 0 1 0 (List.length xs)), (1, VI 0), (2, VI (List.length xs : Int)), (3, .fn 29 []), (9, VI j)]
abbrev qaq106 (i : Nat) (xs : List Int) (j : Int) : LS := (8, VI ((i : Int) + 1)) :: (16, VI ((i : Int) + 1)) :: (qaq105 i xs j)
theorem isort_fi (xs : List Int) (hx : xs.length ≤ 12 ∧ (∀ w, w ∈ xs → 0 ≤ w ∧ w ≤ 100)) : Fi Tryd.prog 32 [.own 0 1 0 (List.length xs), VI 0, VI (List.length xs : Int), .fn 29 []] (look [some ⟨1, (xs.map cI)⟩]) 1 (.tup []) (look [some ⟨1, ((srtD xs).map cI)⟩]) 1 := by
  refine fi_walkW (m := [some ⟨1, (xs.map cI)⟩]) (m' := [some ⟨1, ((srtD xs).map cI)⟩]) F32_ok (of_decide_eq_true (by kernel_rfl)) ?_
  refine EL.sreg ?_
  refine OW.last 3 [0, 1, 2, 3, 8] (x' := ⟨(qaq91 xs), [some ⟨1, (xs.map cI)⟩]⟩) (by kernel_rfl) (by kernel_rfl) ?_
  refine EL.block ?_
  refine EL.loopN (fun mM xX => ∃ (i : Nat) (ys : List Int), mM = xs.length - i ∧ (1 ≤ i ∧ (i ≤ xs.length ∨ i = 1) ∧ ys = (srtGo [] (xs.take i)).reverse ++ xs.drop i ∧ ∀ w, w ∈ ys → 0 ≤ w ∧ w ≤ 100) ∧ xX = ⟨(qaq92 xs i), [some ⟨1, (ys.map cI)⟩]⟩) (y := (fun (i : Nat) (ys : List Int) => (⟨(qaq92 xs i), [some ⟨1, (ys.map cI)⟩]⟩ : L3)) 1 xs) [0, 1, 2, 3, 8] [.old 0 true] [] (by kernel_rfl) ⟨pucI xs (by kernel_rfl), trivial⟩ ⟨1, xs, rfl, by exact ⟨by omega, .inr rfl, by cases xs <;> simp [srtGo, insR], hx.2⟩, rfl⟩ ?_
  rintro _ _ ⟨i, ys, rfl, hI1, rfl⟩
  obtain ⟨hi1, hi2, hy, hz⟩ := hI1
  refine EL.seq ?_
  refine EL.sreg ?_
  refine OW.last 3 [0, 1, 2, 3, 8, 14] (x' := ⟨(14, .v (.bool (decide ((i : Int) < (List.length xs : Int))))) :: (qaq92 xs i), [some ⟨1, (ys.map cI)⟩]⟩) (by kernel_rfl) (by kernel_rfl) ?_
  rcases Bool.eq_false_or_eq_true (decide ((i : Int) < (List.length xs : Int))) with h2 | h2
  rw [h2]
  have g2 : ((i : Int) < (List.length xs : Int)) := of_decide_eq_true h2
  have n2 : ((i) < (List.length xs)) := by omega
  refine EL.condT (by kernel_rfl) ?_
  refine EL.skip ?_
  refine thenL_norm ?_
  refine EL.seq ?_
  refine EL.block ?_
  refine EL.sreg ?_
  refine OW.last 2 [0, 1, 2, 3, 8, 9] (x' := ⟨(9, VI (i : Int)) :: (qaq92 xs i), [some ⟨1, (ys.map cI)⟩]⟩) (by kernel_rfl) (by kernel_rfl) ?_
  refine EL.block ?_
  refine EL.loopN (fun mM xX => ∃ (j : Int) (zs : List Int), mM = j.toNat + 1 ∧ (0 ≤ j ∧ InsI xs i zs j.toNat ∧ ∀ w, w ∈ zs → 0 ≤ w ∧ w ≤ 100) ∧ xX = ⟨(qaq93 xs i j), [some ⟨1, (zs.map cI)⟩]⟩) (y := (fun (j : Int) (zs : List Int) => (⟨(qaq93 xs i j), [some ⟨1, (zs.map cI)⟩]⟩ : L3)) (i : Int) ys) [0, 1, 2, 3, 8, 9] [.old 0 true] [] (by kernel_rfl) ⟨pucI ys (by kernel_rfl), trivial⟩ ⟨(i : Int), ys, rfl, by exact ⟨by omega, by rw [hy]; exact InsI.start (by omega), hz⟩, rfl⟩ ?_
  rintro _ _ ⟨j, zs, rfl, hI3, rfl⟩
  obtain ⟨hj0, hI, hz⟩ := hI3
  have hIl := hI.len
  refine EL.seq ?_
  refine EL.sdraw ?_
  refine DW.run 4 (x' := ⟨(21, .v (.bool (decide (j > 0)))) :: (20, .v (.bool (decide (j > 0)))) :: (19, VI 0) :: (18, VI j) :: (qaq93 xs i j), [some ⟨1, (zs.map cI)⟩]⟩) (by kernel_rfl) ?_
  rcases Bool.eq_false_or_eq_true (decide (j > 0)) with h4 | h4
  rw [h4]
  have g4 : (j > 0) := of_decide_eq_true h4
  refine DW.run 3 (x' := ⟨(qaq94 j xs i), [some ⟨1, (zs.map cI)⟩]⟩) (by kernel_rfl) ?_
  obtain ⟨a6, ha6⟩ : ∃ y, zs[(j : Int).toNat]? = some y := idx_ex ⟨by omega, by first | omega | (simp; omega)⟩
  refine DW.ope (v := .ref 0 1 (0 + Int.toNat j) 0) (u := []) (acc := [0]) (x' := ⟨(25, .ref 0 1 (0 + Int.toNat j) 0) :: (qaq94 j xs i), [some ⟨1, (zs.map cI)⟩]⟩) (by kernel_rfl) (opE_iado (.s 23) (.s 24) 1 0 0 (List.length xs) .i64 j ⟨1, (zs.map cI)⟩ (by kernel_rfl) (by kernel_rfl) rfl rfl ⟨by omega, by first | omega | (simp; omega)⟩ (by kernel_rfl)) (by kernel_rfl) ?_
  refine DW.ope (v := VI a6) (u := []) (acc := [0]) (x' := ⟨(qaq95 a6 j xs i), [some ⟨1, (zs.map cI)⟩]⟩) (by kernel_rfl) (opE_ldoS cI zs none (.s 25) 0 1 (0 + Int.toNat j) 0 a6 (VI a6) (by kernel_rfl) (by kernel_rfl) rfl (by kernel_rfl) (by simpa using ha6) (by kernel_rfl)) (by kernel_rfl) ?_
  refine DW.run 3 (x' := ⟨(29, VI (IntKind.i64.wrap (j - 1))) :: (qaq96 j xs a6 i), [some ⟨1, (zs.map cI)⟩]⟩) (by kernel_rfl) ?_
  have e8 : IntKind.i64.wrap (j - 1) = j - 1 := wr64 (by omega)
  rw [e8]
  obtain ⟨a9, ha9⟩ : ∃ y, zs[((j - 1) : Int).toNat]? = some y := idx_ex ⟨by omega, by first | omega | (simp; omega)⟩
  refine DW.ope (v := .ref 0 1 (0 + Int.toNat (j - 1)) 0) (u := []) (acc := [0]) (x' := ⟨(qaq97 j xs a6 i), [some ⟨1, (zs.map cI)⟩]⟩) (by kernel_rfl) (opE_iado (.s 27) (.s 29) 1 0 0 (List.length xs) .i64 (j - 1) ⟨1, (zs.map cI)⟩ (by kernel_rfl) (by kernel_rfl) rfl rfl ⟨by omega, by first | omega | (simp; omega)⟩ (by kernel_rfl)) (by kernel_rfl) ?_
  refine DW.ope (v := VI a9) (u := []) (acc := [0]) (x' := ⟨(31, VI a9) :: (qaq97 j xs a6 i), [some ⟨1, (zs.map cI)⟩]⟩) (by kernel_rfl) (opE_ldoS cI zs none (.s 30) 0 1 (0 + Int.toNat (j - 1)) 0 a9 (VI a9) (by kernel_rfl) (by kernel_rfl) rfl (by kernel_rfl) (by simpa using ha9) (by kernel_rfl)) (by kernel_rfl) ?_
  refine DW.fn (ar := [VI a6, VI a9]) (x' := ⟨(32, VI (a9 - a6)) :: (31, VI a9) :: (qaq97 j xs a6 i), [some ⟨1, (zs.map cI)⟩]⟩) (by kernel_rfl) (by kernel_rfl) F29_call (hcmp_fn a6 a9 (by exact ⟨hz _ (List.mem_of_getElem? (by assumption)), hz _ (List.mem_of_getElem? (by assumption))⟩)) (by kernel_rfl) (by kernel_rfl) ?_
  refine DW.last 2 [0, 1, 2, 3, 8, 9, 34] (x' := ⟨(34, .v (.bool (decide ((a9 - a6) < 0)))) :: (qaq93 xs i j), [some ⟨1, (zs.map cI)⟩]⟩) (by kernel_rfl) (by kernel_rfl) ?_
  rcases Bool.eq_false_or_eq_true (decide ((a9 - a6) < 0)) with h10 | h10
  rw [h10]
  have g10 : ((a9 - a6) < 0) := of_decide_eq_true h10
  refine EL.condT (by kernel_rfl) ?_
  refine EL.skip ?_
  refine thenL_norm ?_
  refine EL.seq ?_
  refine EL.block ?_
  refine EL.draw0 ?_
  refine DW.run 8 (x' := ⟨(44, VI (IntKind.i64.wrap (j - 1))) :: (43, VI j) :: (42, .own 0 1 0 (List.length xs)) :: (41, VI (IntKind.i64.wrap (j - 1))) :: (qaq98 j xs i), [some ⟨1, (zs.map cI)⟩]⟩) (by kernel_rfl) ?_
  have e12 : IntKind.i64.wrap (j - 1) = j - 1 := wr64 (by omega)
  rw [e12]
  refine DW.ope (v := .ref 0 1 (0 + Int.toNat (j - 1)) 0) (u := []) (acc := [0]) (x' := ⟨(qaq99 j xs i), [some ⟨1, (zs.map cI)⟩]⟩) (by kernel_rfl) (opE_iado (.s 42) (.s 44) 1 0 0 (List.length xs) .i64 (j - 1) ⟨1, (zs.map cI)⟩ (by kernel_rfl) (by kernel_rfl) rfl rfl ⟨by omega, by first | omega | (simp; omega)⟩ (by kernel_rfl)) (by kernel_rfl) ?_
  refine DW.ope (v := VI a9) (u := []) (acc := [0]) (x' := ⟨(46, VI a9) :: (qaq99 j xs i), [some ⟨1, (zs.map cI)⟩]⟩) (by kernel_rfl) (opE_ldoS cI zs none (.s 45) 0 1 (0 + Int.toNat (j - 1)) 0 a9 (VI a9) (by kernel_rfl) (by kernel_rfl) rfl (by kernel_rfl) (by simpa using ha9) (by kernel_rfl)) (by kernel_rfl) ?_
  refine DW.run 2 (x' := ⟨(qaq100 j xs a9 i), [some ⟨1, (zs.map cI)⟩]⟩) (by kernel_rfl) ?_
  refine DW.ope (v := .ref 0 1 (0 + Int.toNat j) 0) (u := []) (acc := [0]) (x' := ⟨(49, .ref 0 1 (0 + Int.toNat j) 0) :: (qaq100 j xs a9 i), [some ⟨1, (zs.map cI)⟩]⟩) (by kernel_rfl) (opE_iado (.s 47) (.s 48) 1 0 0 (List.length xs) .i64 j ⟨1, (zs.map cI)⟩ (by kernel_rfl) (by kernel_rfl) rfl rfl ⟨by omega, by first | omega | (simp; omega)⟩ (by kernel_rfl)) (by kernel_rfl) ?_
  refine DW.ope (v := VI a6) (u := []) (acc := [0]) (x' := ⟨(qaq101 a6 j xs a9 i), [some ⟨1, (zs.map cI)⟩]⟩) (by kernel_rfl) (opE_ldoS cI zs none (.s 49) 0 1 (0 + Int.toNat j) 0 a6 (VI a6) (by kernel_rfl) (by kernel_rfl) rfl (by kernel_rfl) (by simpa using ha6) (by kernel_rfl)) (by kernel_rfl) ?_
  refine DW.ope (v := .ref 0 1 (0 + Int.toNat j) 0) (u := []) (acc := [0]) (x' := ⟨(51, .ref 0 1 (0 + Int.toNat j) 0) :: (qaq101 a6 j xs a9 i), [some ⟨1, (zs.map cI)⟩]⟩) (by kernel_rfl) (opE_iado (.s 37) (.s 38) 1 0 0 (List.length xs) .i64 j ⟨1, (zs.map cI)⟩ (by kernel_rfl) (by kernel_rfl) rfl rfl ⟨by omega, by first | omega | (simp; omega)⟩ (by kernel_rfl)) (by kernel_rfl) ?_
  refine DW.ope (v := .v undef) (u := [(0, some ⟨1, ((List.set zs (0 + Int.toNat j) a9).map cI)⟩)]) (acc := [0]) (x' := ⟨(51, .ref 0 1 (0 + Int.toNat j) 0) :: (qaq101 a6 j xs a9 i), [some ⟨1, ((List.set zs (0 + Int.toNat j) a9).map cI)⟩]⟩) (by kernel_rfl) (opE_stoS cI zs 1 (.s 51) (.s 46) 0 1 (0 + Int.toNat j) 0 a6 a9 (VI a9) (by kernel_rfl) (by kernel_rfl) rfl rfl (by kernel_rfl) (by simpa using ha6) (by kernel_rfl) (by kernel_rfl)) (by kernel_rfl) ?_
  obtain ⟨a13, ha13⟩ : ∃ y, (List.set zs (0 + Int.toNat j) a9)[((j - 1) : Int).toNat]? = some y := idx_ex ⟨by omega, by first | omega | (simp; omega)⟩
  refine DW.ope (v := .ref 0 1 (0 + Int.toNat (j - 1)) 0) (u := []) (acc := [0]) (x' := ⟨(qaq102 j a6 xs a9 i), [some ⟨1, ((List.set zs (0 + Int.toNat j) a9).map cI)⟩]⟩) (by kernel_rfl) (opE_iado (.s 39) (.s 41) 1 0 0 (List.length xs) .i64 (j - 1) ⟨1, ((List.set zs (0 + Int.toNat j) a9).map cI)⟩ (by kernel_rfl) (by kernel_rfl) rfl rfl ⟨by omega, by first | omega | (simp; omega)⟩ (by kernel_rfl)) (by kernel_rfl) ?_
  refine DW.ope (v := .v undef) (u := [(0, some ⟨1, ((List.set (List.set zs (0 + Int.toNat j) a9) (0 + Int.toNat (j - 1)) a6).map cI)⟩)]) (acc := [0]) (x' := ⟨(qaq102 j a6 xs a9 i), [(qaq103 zs j a9 a6)]⟩) (by kernel_rfl) (opE_stoS cI (List.set zs (0 + Int.toNat j) a9) 1 (.s 52) (.s 50) 0 1 (0 + Int.toNat (j - 1)) 0 a13 a6 (VI a6) (by kernel_rfl) (by kernel_rfl) rfl rfl (by kernel_rfl) (by simpa using ha13) (by kernel_rfl) (by kernel_rfl)) (by kernel_rfl) ?_
  refine DW.end 0 (x' := ⟨(qaq102 j a6 xs a9 i), [(qaq103 zs j a9 a6)]⟩) (by kernel_rfl) (by kernel_rfl) ?_
  refine inBlk_norm ?_
  refine thenL_norm ?_
  refine EL.reg0 ?_
  refine OW.run 3 (x' := ⟨(9, VI (IntKind.i64.wrap (j - 1))) :: (36, VI (IntKind.i64.wrap (j - 1))) :: (qaq104 j a6 xs a9 i), [(qaq103 zs j a9 a6)]⟩) (by kernel_rfl) ?_
  have e14 : IntKind.i64.wrap (j - 1) = j - 1 := wr64 (by omega)
  rw [e14]
  refine OW.end 0 (x' := ⟨(9, VI (j - 1)) :: (36, VI (j - 1)) :: (qaq104 j a6 xs a9 i), [(qaq103 zs j a9 a6)]⟩) (by kernel_rfl) (by kernel_rfl) ?_
  refine thenL_norm ?_
  refine round_end (live := [0, 1, 2, 3, 8, 9]) (src := [.old 0 true]) (es := []) (y := (fun (j : Int) (zs : List Int) => (⟨(qaq93 xs i j), [some ⟨1, (zs.map cI)⟩]⟩ : L3)) (j - 1) (List.set (List.set zs (0 + Int.toNat j) a9) (0 + Int.toNat (j - 1)) a6)) ?_ ⟨pucI (List.set (List.set zs (0 + Int.toNat j) a9) (0 + Int.toNat (j - 1)) a6) (by kernel_rfl), trivial⟩ ?_ ⟨(j - 1), (List.set (List.set zs (0 + Int.toNat j) a9) (0 + Int.toNat (j - 1)) a6), rfl, ?_, rfl⟩
  kernel_rfl
  omega
  focus ((simp only [Nat.zero_add] at *; have e9 : (j - 1).toNat = j.toNat - 1 := (by omega); rw [e9] at ha9 ⊢; exact ⟨by omega, hI.swap (by omega) ha6 ha9 (by omega), mem_set2 hz (hz _ (List.mem_of_getElem? ha6)) (hz _ (List.mem_of_getElem? ha9))⟩))
  rw [h10]
  have g10 : ¬ ((a9 - a6) < 0) := of_decide_eq_false h10
  refine EL.condF (by kernel_rfl) ?_
  refine EL.exit ?_
  refine thenL_exit ?_
  refine thenL_exit ?_
  refine inBlk_hit ?_
  refine inBlk_norm ?_
  refine thenL_norm ?_
  refine EL.reg0 ?_
  refine OW.run 3 (x' := ⟨(8, VI (IntKind.i64.wrap ((i : Int) + 1))) :: (16, VI (IntKind.i64.wrap ((i : Int) + 1))) :: (qaq105 i xs j), [some ⟨1, (zs.map cI)⟩]⟩) (by kernel_rfl) ?_
  have e15 : IntKind.i64.wrap ((i : Int) + 1) = (i : Int) + 1 := wr64 (by omega)
  rw [e15]
  refine OW.end 0 (x' := ⟨(qaq106 i xs j), [some ⟨1, (zs.map cI)⟩]⟩) (by kernel_rfl) (by kernel_rfl) ?_
  refine thenL_norm ?_
  refine round_end (live := [0, 1, 2, 3, 8]) (src := [.old 0 true]) (es := []) (y := (fun (i : Nat) (ys : List Int) => (⟨(qaq92 xs i), [some ⟨1, (ys.map cI)⟩]⟩ : L3)) (i + 1) zs) ?_ ⟨pucI zs (by kernel_rfl), trivial⟩ ?_ ⟨(i + 1), zs, rfl, ?_, rfl⟩
  kernel_rfl
  omega
  focus ((refine ⟨by omega, .inl (by omega), hI.done ?_, hz⟩; first | (left; omega) | (right; exact ⟨_, _, ha6, by rw [← show (j - 1).toNat = j.toNat - 1 by omega]; exact ha9, by omega⟩)))
  rw [h4]
  have g4 : ¬ (j > 0) := of_decide_eq_false h4
  refine DW.last 13 [0, 1, 2, 3, 8, 9, 34] (x' := ⟨(34, .v (.bool false)) :: (qaq93 xs i j), [some ⟨1, (zs.map cI)⟩]⟩) (by kernel_rfl) (by kernel_rfl) ?_
  refine EL.condF (by kernel_rfl) ?_
  refine EL.exit ?_
  refine thenL_exit ?_
  refine thenL_exit ?_
  refine inBlk_hit ?_
  refine inBlk_norm ?_
  refine thenL_norm ?_
  refine EL.reg0 ?_
  refine OW.run 3 (x' := ⟨(8, VI (IntKind.i64.wrap ((i : Int) + 1))) :: (16, VI (IntKind.i64.wrap ((i : Int) + 1))) :: (qaq105 i xs j), [some ⟨1, (zs.map cI)⟩]⟩) (by kernel_rfl) ?_
  have e16 : IntKind.i64.wrap ((i : Int) + 1) = (i : Int) + 1 := wr64 (by omega)
  rw [e16]
  refine OW.end 0 (x' := ⟨(qaq106 i xs j), [some ⟨1, (zs.map cI)⟩]⟩) (by kernel_rfl) (by kernel_rfl) ?_
  refine thenL_norm ?_
  refine round_end (live := [0, 1, 2, 3, 8]) (src := [.old 0 true]) (es := []) (y := (fun (i : Nat) (ys : List Int) => (⟨(qaq92 xs i), [some ⟨1, (ys.map cI)⟩]⟩ : L3)) (i + 1) zs) ?_ ⟨pucI zs (by kernel_rfl), trivial⟩ ?_ ⟨(i + 1), zs, rfl, ?_, rfl⟩
  kernel_rfl
  omega
  focus ((refine ⟨by omega, .inl (by omega), hI.done ?_, hz⟩; first | (left; omega) | (right; exact ⟨_, _, ha6, by rw [← show (j - 1).toNat = j.toNat - 1 by omega]; exact ha9, by omega⟩)))
  rw [h2]
  have g2 : ¬ ((i : Int) < (List.length xs : Int)) := of_decide_eq_false h2
  have n2 : ¬ ((i) < (List.length xs)) := by omega
  refine EL.condF (by kernel_rfl) ?_
  refine EL.exit ?_
  refine thenL_exit ?_
  refine thenL_exit ?_
  refine inBlk_hit ?_
  (have he : srtD xs = ys := (by rw [hy, List.take_of_length_le (by omega), List.drop_eq_nil_of_le (by omega)]; simp [srtD])); rw [he]
  refine ⟨.inl rfl, ⟨[], [some ⟨1, (ys.map cI)⟩]⟩, norm_le (live := []) (src := [.old 0 true]) (es := []) (by kernel_rfl) ⟨pucI ys (by kernel_rfl), trivial⟩, by kernel_rfl, rfl⟩
abbrev qaq107 (xs : List Int) (lim : Int) : LS := [(10, .v (.bool true)), (0, .own 0 1 0 (List.length xs)), (1, VI 0), (2, VI (List.length xs : Int)), (3, VI lim), (4, .fn 29 [])]
abbrev qaq108 (xs : List Int) (lim : Int) : LS := (22, VI 0) :: (21, VI (List.length xs : Int)) :: (11, .v (.bool true)) :: (qaq107 xs lim)
abbrev qaq109 (xs : List Int) (lim : Int) : LS := (12, VI ((List.length xs : Int) - 0)) :: (11, .v (.bool true)) :: (qaq107 xs lim)
abbrev qaq110 (xs : List Int) (lim : Int) : LS := (29, .fn 29 []) :: (28, VI (List.length xs : Int)) :: (27, VI 0) :: (26, .own 0 1 0 (List.length xs)) :: (25, .v (.bool true)) :: (qaq109 xs lim)
theorem pdq_fi (xs : List Int) (lim : Int) (hx : xs.length ≤ 12 ∧ (∀ w, w ∈ xs → 0 ≤ w ∧ w ≤ 100)) : Fi Tryd.prog 30 [.own 0 1 0 (List.length xs), VI 0, VI (List.length xs : Int), VI lim, .fn 29 []] (look [some ⟨1, (xs.map cI)⟩]) 1 (.tup []) (look [some ⟨1, ((srtD xs).map cI)⟩]) 1 := by
  have hle : decide (((List.length xs : Int) - 0) ≤ 12) = true := (by simp; omega)
  refine fi_walkW (m := [some ⟨1, (xs.map cI)⟩]) (m' := [some ⟨1, ((srtD xs).map cI)⟩]) F30_ok (of_decide_eq_true (by kernel_rfl)) ?_
  refine EL.sreg ?_
  refine OW.last 1 [0, 1, 2, 3, 4, 10] (x' := ⟨(qaq107 xs lim), [some ⟨1, (xs.map cI)⟩]⟩) (by kernel_rfl) (by kernel_rfl) ?_
  refine EL.sreg ?_
  refine OW.last 1 [0, 1, 2, 3, 4, 10, 11] (x' := ⟨(11, .v (.bool true)) :: (qaq107 xs lim), [some ⟨1, (xs.map cI)⟩]⟩) (by kernel_rfl) (by kernel_rfl) ?_
  refine EL.block ?_
  refine EL.unroll 1 ?_
  refine JU.step ?_
  refine EL.block ?_
  refine EL.sreg ?_
  refine OW.run 4 (x' := ⟨(12, VI (IntKind.i64.wrap ((List.length xs : Int) - 0))) :: (23, VI (IntKind.i64.wrap ((List.length xs : Int) - 0))) :: (qaq108 xs lim), [some ⟨1, (xs.map cI)⟩]⟩) (by kernel_rfl) ?_
  have e1 : IntKind.i64.wrap ((List.length xs : Int) - 0) = (List.length xs : Int) - 0 := wr64 (by omega)
  rw [e1]
  refine OW.last 0 [0, 1, 2, 3, 4, 10, 11, 12] (x' := ⟨(qaq109 xs lim), [some ⟨1, (xs.map cI)⟩]⟩) (by kernel_rfl) (by kernel_rfl) ?_
  refine EL.seq ?_
  refine EL.sreg ?_
  refine OW.last 2 [0, 1, 2, 3, 4, 10, 11, 12, 25] (x' := ⟨(25, .v (.bool (decide (((List.length xs : Int) - 0) ≤ 12)))) :: (qaq109 xs lim), [some ⟨1, (xs.map cI)⟩]⟩) (by kernel_rfl) (by kernel_rfl) ?_
  rw [hle]
  refine EL.condT (by kernel_rfl) ?_
  refine EL.sreg ?_
  refine OW.run 4 (x' := ⟨(qaq110 xs lim), [some ⟨1, (xs.map cI)⟩]⟩) (by kernel_rfl) ?_
  refine OW.fi (ar := [.own 0 1 0 (List.length xs), VI 0, VI (List.length xs : Int), .fn 29 []]) (r := .tup []) (m' := [some ⟨1, ((srtD xs).map cI)⟩]) (x' := ⟨(30, .tup []) :: (qaq110 xs lim), [some ⟨1, ((srtD xs).map cI)⟩]⟩) (by kernel_rfl) (by kernel_rfl) F32_call (isort_fi xs hx) (by kernel_rfl) ?_
  refine OW.last 0 [] (x' := ⟨[], [some ⟨1, ((srtD xs).map cI)⟩]⟩) (by kernel_rfl) (by kernel_rfl) ?_
  refine EL.ret ?_
  refine thenL_ret ?_
  refine inBlk_ret ?_
  refine thenL_ret ?_
  refine inBlk_ret ?_
  refine ⟨.inr rfl, ⟨[], [some ⟨1, ((srtD xs).map cI)⟩]⟩, norm_le (live := []) (src := [.old 0 true]) (es := []) (by kernel_rfl) ⟨pucI (srtD xs) (by kernel_rfl), trivial⟩, by kernel_rfl, rfl⟩
abbrev qaq111 (x : U64) : LS := [(7, VI (len64 x.n : Int)), (6, .v (.int .u64 (x.n : Int))), (0, .v (.int .u64 (x.n : Int)))]
theorem len_fn (x : U64) : Fn Tryd.prog 31 [.v (.int .u64 (x.n : Int))] (VI (len64 x.n : Int)) := by
  refine fn_walkW F31_ok (of_decide_eq_true (by kernel_rfl)) ?_
  refine EL.sreg ?_
  refine OW.last 1 [0] (x' := ⟨[(0, .v (.int .u64 (x.n : Int)))], []⟩) (by kernel_rfl) (by kernel_rfl) ?_
  refine EL.seq ?_
  refine EL.condF (by kernel_rfl) ?_
  refine EL.skip ?_
  refine thenL_norm ?_
  refine EL.sreg ?_
  refine OW.run 1 (x' := ⟨[(6, .v (.int .u64 (x.n : Int))), (0, .v (.int .u64 (x.n : Int)))], []⟩) (by kernel_rfl) ?_
  refine OW.fn (ar := [.v (.int .u64 (x.n : Int))]) (x' := ⟨(qaq111 x), []⟩) (by kernel_rfl) (by kernel_rfl) F21_call (lenN_fn x.n (by first | omega | exact U64.lt _)) (by kernel_rfl) (by kernel_rfl) ?_
  refine OW.last 1 [2] (x' := ⟨[(2, VI (len64 x.n : Int))], []⟩) (by kernel_rfl) (by kernel_rfl) ?_
  refine EL.ret ?_
  refine ⟨.inr rfl, VI (len64 x.n : Int), by kernel_rfl, Ale.of_eq ?_⟩
  focus (rfl)
theorem lenW_fn (z : Nat) (h : z < 18446744073709551616) : Fn Tryd.prog 31 [.v (.int .u64 (z : Int))] (VI (len64 z : Int)) := len_fn ⟨z, h⟩
abbrev qaq112 (xs : List Int) : LS := [(4, VI (List.length xs : Int)), (0, .own 0 1 0 (List.length xs)), (1, .fn 29 [])]
abbrev qaq113 (xs : List Int) : LS := (9, VI (List.length xs : Int)) :: (8, VI (List.length xs : Int)) :: (7, .own 0 1 0 (List.length xs)) :: (qaq112 xs)
abbrev qaq114 (xs : List Int) : LS := (11, VI (len64 (List.length xs) : Int)) :: (10, .v (.int .u64 (List.length xs : Int))) :: (qaq113 xs)
theorem sort_fi (xs : List Int) (hx : xs.length ≤ 12 ∧ (∀ w, w ∈ xs → 0 ≤ w ∧ w ≤ 100)) : Fi Tryd.prog 28 [.own 0 1 0 (List.length xs), .fn 29 []] (look [some ⟨1, (xs.map cI)⟩]) 1 (.tup []) (look [some ⟨1, ((srtD xs).map cI)⟩]) 1 := by
  refine fi_walkW (m := [some ⟨1, (xs.map cI)⟩]) (m' := [some ⟨1, ((srtD xs).map cI)⟩]) F28_ok (of_decide_eq_true (by kernel_rfl)) ?_
  refine EL.sreg ?_
  refine OW.last 3 [0, 1, 4] (x' := ⟨(qaq112 xs), [some ⟨1, (xs.map cI)⟩]⟩) (by kernel_rfl) (by kernel_rfl) ?_
  refine EL.reg0 ?_
  refine OW.run 4 (x' := ⟨(10, .v (.int .u64 (IntKind.u64.wrap ((List.length xs : Int))))) :: (qaq113 xs), [some ⟨1, (xs.map cI)⟩]⟩) (by kernel_rfl) ?_
  have e1 : IntKind.u64.wrap ((List.length xs : Int)) = (List.length xs : Int) := wru64 (by omega)
  rw [e1]
  refine OW.fn (ar := [.v (.int .u64 (List.length xs : Int))]) (x' := ⟨(qaq114 xs), [some ⟨1, (xs.map cI)⟩]⟩) (by kernel_rfl) (by kernel_rfl) F31_call (lenW_fn (List.length xs) (by omega)) (by kernel_rfl) (by kernel_rfl) ?_
  refine OW.run 1 (x' := ⟨(12, .fn 29 []) :: (qaq114 xs), [some ⟨1, (xs.map cI)⟩]⟩) (by kernel_rfl) ?_
  refine OW.fi (ar := [.own 0 1 0 (List.length xs), VI 0, VI (List.length xs : Int), VI (len64 (List.length xs) : Int), .fn 29 []]) (r := .tup []) (m' := [some ⟨1, ((srtD xs).map cI)⟩]) (x' := ⟨(13, .tup []) :: (12, .fn 29 []) :: (qaq114 xs), [some ⟨1, ((srtD xs).map cI)⟩]⟩) (by kernel_rfl) (by kernel_rfl) F30_call (pdq_fi xs (len64 (List.length xs) : Int) hx) (by kernel_rfl) ?_
  refine OW.end 0 (x' := ⟨(13, .tup []) :: (12, .fn 29 []) :: (qaq114 xs), [some ⟨1, ((srtD xs).map cI)⟩]⟩) (by kernel_rfl) (by kernel_rfl) ?_
  refine ⟨.inl rfl, ⟨[], [some ⟨1, ((srtD xs).map cI)⟩]⟩, norm_le (live := []) (src := [.old 0 true]) (es := []) (by kernel_rfl) ⟨pucI (srtD xs) (by kernel_rfl), trivial⟩, by kernel_rfl, rfl⟩
abbrev qaq115 (xs : List Int) : LS := [(4, .anyb), (3, .lst 1 (xs.map cI)), (0, .lst 1 (xs.map cI))]
abbrev qaq116 (xs : List Int) : LS := [(4, .v (.bool false)), (3, .lst 1 (xs.map cI)), (0, .lst 1 (xs.map cI))]
abbrev qaq117 (xs : List Int) : LS := [(6, .lst 1 (xs.map cI)), (5, .own 0 1 0 0), (0, .lst 1 (xs.map cI))]
theorem clone_fo (xs : List Int) (hx : xs.length ≤ 1000000) : Fo Tryd.prog 27 [.lst 1 (xs.map cI)] 1 (xs.map cI) := by
  refine fo_of ?_
  rw [List.length_map]
  refine fi_walkW (m := []) (m' := [some ⟨1, (xs.map cI)⟩]) F27_ok (of_decide_eq_true (by kernel_rfl)) ?_
  refine EL.sreg ?_
  refine OW.last 1 [0] (x' := ⟨[(0, .lst 1 (xs.map cI))], []⟩) (by kernel_rfl) (by kernel_rfl) ?_
  refine EL.seqG [0] (fun y => (y = ⟨[(0, .lst 1 (xs.map cI))], []⟩ ∧ ((List.isEmpty xs = true) ∨ (List.isEmpty xs = false)))) ?_ ?_
  intro IHJ1 HJ1
  refine EL.sreg ?_
  refine OW.run 1 (x' := ⟨[(3, .lst 1 (xs.map cI)), (0, .lst 1 (xs.map cI))], []⟩) (by kernel_rfl) ?_
  rcases Bool.eq_false_or_eq_true (List.isEmpty xs) with h2 | h2
  try rw [h2]
  refine OW.ope (v := .anyb) (u := []) (acc := []) (x' := ⟨(qaq115 xs), []⟩) (by kernel_rfl) (opE_isn_any cI xs (.s 3) 1 false (by kernel_rfl) (by kernel_rfl) (.inl rfl) h2) (by kernel_rfl) ?_
  refine OW.last 0 [0, 4] (x' := ⟨[(4, .anyb), (0, .lst 1 (xs.map cI))], []⟩) (by kernel_rfl) (by kernel_rfl) ?_
  refine EL.condAny (by kernel_rfl) ?_ ?_
  refine EL.sreg ?_
  refine OW.last 1 [2] (x' := ⟨[(2, .emp)], []⟩) (by kernel_rfl) (by kernel_rfl) ?_
  refine EL.ret ?_
  refine thenL_ret ?_
  refine ⟨.inr rfl, ⟨[(2, .own 0 1 0 (List.length xs))], [some ⟨1, (xs.map cI)⟩]⟩, norm_le (live := [2]) (src := [.new 1]) (es := [(2, 0)]) (by rw [List.isEmpty_iff.1 h2]; kernel_rfl) trivial, by kernel_rfl, rfl⟩
  refine EL.skip ?_
  exact thenL_norm (HJ1.get ⟨by kernel_rfl, (Or.inl (by first | exact g2 | exact h2 | simp_all | omega))⟩)
  try rw [h2]
  refine OW.ope (v := .v (.bool false)) (u := []) (acc := []) (x' := ⟨(qaq116 xs), []⟩) (by kernel_rfl) (opE_isn_ne cI xs (.s 3) 1 false (by kernel_rfl) (by kernel_rfl) (.inl rfl) h2) (by kernel_rfl) ?_
  refine OW.last 0 [0, 4] (x' := ⟨[(4, .v (.bool false)), (0, .lst 1 (xs.map cI))], []⟩) (by kernel_rfl) (by kernel_rfl) ?_
  refine EL.condF (by kernel_rfl) ?_
  refine EL.skip ?_
  exact thenL_norm (HJ1.get ⟨by kernel_rfl, (Or.inr (by first | exact g2 | exact h2 | simp_all | omega))⟩)
  rintro _ (⟨rfl, hD3⟩)
  refine EL.sreg ?_
  refine OW.run 2 (x' := ⟨(qaq117 xs), [some ⟨1, []⟩]⟩) (by kernel_rfl) ?_
  refine OW.ope (v := .own 1 1 0 (List.length xs)) (u := [(0, none), (1, some ⟨1, (xs.map cI)⟩)]) (acc := [0]) (x' := ⟨(7, .own 1 1 0 (List.length xs)) :: (qaq117 xs), [none, some ⟨1, (xs.map cI)⟩]⟩) (by kernel_rfl) (opE_appO cI ([] : List Int) xs (.s 5) (.s 6) 1 8 0 (.lst 1 (xs.map cI)) _ (by kernel_rfl) (by kernel_rfl) rfl (by kernel_rfl) rfl .lst (by simp; omega)) (by kernel_rfl) ?_
  refine OW.last 1 [2] (x' := ⟨[(2, .own 1 1 0 (List.length xs))], [none, some ⟨1, (xs.map cI)⟩]⟩) (by kernel_rfl) (by kernel_rfl) ?_
  refine EL.ret ?_
  refine ⟨.inr rfl, ⟨[(2, .own 0 1 0 (List.length xs))], [some ⟨1, (xs.map cI)⟩]⟩, norm_le (live := [2]) (src := [.old 1 true]) (es := []) (by kernel_rfl) ⟨pucI xs (by kernel_rfl), trivial⟩, by kernel_rfl, rfl⟩
theorem hvG_zero {l : List Int} {d : Int} (h : d ≤ 0) : hvG l d = 0 := by
  cases l with
  | nil => rfl
  | cons a r => simp only [hvG, if_pos h]
theorem lsum_drop {l : List Int} {k : Nat} (h : 0 < lsum (l.drop k)) : k < l.length := by
  by_cases hk : k < l.length
  · exact hk
  · rw [List.drop_eq_nil_of_le (by omega)] at h; simp [lsum] at h
theorem nodesGo_sum : ∀ (ws : List Int) (a : Int), (nodesGo ws a).2 = 0 → (nodesGo ws a).1 = a + lsum ws
  | [], a, _ => by simp [nodesGo, lsum]
  | w :: r, a, h => by
    unfold nodesGo at h ⊢
    by_cases hw : 0 ≤ w ∧ w ≤ 100
    · rw [if_pos hw] at h ⊢; rw [nodesGo_sum r _ h]; simp only [lsum]; omega
    · rw [if_neg hw] at h; simp at h
theorem nodes_sum {ws : List Int} (h : (nodesP ws).2 = 0) : (nodesP ws).1 = lsum ws := by
  unfold nodesP at h ⊢
  by_cases h1 : ws.length = 0
  · rw [if_pos h1] at h; simp at h
  · by_cases h2 : ws.length > 12
    · rw [if_neg h1, if_pos h2] at h; simp at h
    · rw [if_neg h1, if_neg h2] at h ⊢; rw [nodesGo_sum ws 0 h]; omega
theorem qc_need {ws : List Int} {need : Int} (h : qcheckP ws need = 0) : 1 ≤ need ∧ need ≤ lsum ws ∧ lsum ws < 2 * need ∧ lsum ws ≤ 1200 := by
  have hn := qc_nodes h
  have hb := nodes_bd hn
  have hs := nodes_sum hn
  unfold qcheckP at h
  rw [if_neg (fun hh => hh hn)] at h
  by_cases h1 : need < 1 ∨ need > (nodesP ws).1
  · rw [if_pos h1] at h; simp at h
  · rw [if_neg h1] at h
    by_cases h2 : 2 * need ≤ (nodesP ws).1
    · rw [if_pos h2] at h; simp at h
    · omega
abbrev qaq118 (ws : List Int) (need : Int) : LS := [(7, .lst 1 (ws.map cI)), (0, .lst 1 (ws.map cI)), (1, VI need)]
abbrev qaq119 (ws : List Int) (need : Int) : LS := [(9, .own 0 1 0 (List.length ws)), (5, .own 0 1 0 (List.length ws)), (1, VI need)]
abbrev qaq120 (ws : List Int) (need : Int) : LS := [(6, VI 0), (5, .own 0 1 0 (List.length ws)), (1, VI need)]
abbrev qaq121 (d : Int) (ws : List Int) (k : Nat) : LS := [(1, VI d), (5, .own 0 1 0 (List.length ws)), (6, VI (k : Int))]
abbrev qaq122 (k : Nat) (ws : List Int) (d : Int) : LS := (15, VI (k : Int)) :: (14, .own 0 1 0 (List.length ws)) :: (13, VI d) :: (12, .v (.bool true)) :: (qaq121 d ws k)
abbrev qaq123 (k : Nat) (ws : List Int) (d : Int) : LS := (16, .ref 0 1 (0 + Int.toNat (k : Int)) 0) :: (qaq122 k ws d)
abbrev qaq124 (a4 : Int) (k : Nat) (ws : List Int) (d : Int) : LS := [(17, VI a4), (16, .ref 0 1 (0 + Int.toNat (k : Int)) 0), (15, VI (k : Int)), (14, .own 0 1 0 (List.length ws)), (13, VI d), (12, .v (.bool true)), (5, .own 0 1 0 (List.length ws)), (6, VI (k : Int))]
abbrev qaq125 (d : Int) (a4 : Int) (ws : List Int) (k : Nat) : LS := [(1, VI (d - a4)), (5, .own 0 1 0 (List.length ws)), (6, VI (k : Int))]
abbrev qaq126 (k : Nat) (d : Int) (a4 : Int) (ws : List Int) : LS := [(19, VI (k : Int)), (1, VI (d - a4)), (5, .own 0 1 0 (List.length ws))]
abbrev qaq127 (k : Nat) (d : Int) (a4 : Int) (ws : List Int) : LS := (6, VI ((k : Int) + 1)) :: (20, VI ((k : Int) + 1)) :: (qaq126 k d a4 ws)
theorem heaviest_fn (ws : List Int) (need : Int) (hw : (nodesP ws).2 = 0) (hn : 1 ≤ need ∧ need ≤ lsum ws) : Fn Tryd.prog 23 [.lst 1 (ws.map cI), VI need] (VI (heavyP ws need : Int)) := by
  have hnb := nodes_bd hw
  have hns := nodes_sum hw
  have hlen : ws.length ≤ 12 := hnb.2.2.2.1
  have hw : ∀ w, w ∈ ws → 0 ≤ w ∧ w ≤ 100 := hnb.2.2.2.2
  have hsl := srtD_len ws
  have hms : ∀ w, w ∈ srtD ws → 0 ≤ w ∧ w ≤ 100 := fun w h => hw w ((srtD_perm ws).mem_iff.1 h)
  refine fn_walkW F23_ok (of_decide_eq_true (by kernel_rfl)) ?_
  refine EL.sreg ?_
  refine OW.last 1 [0, 1] (x' := ⟨[(0, .lst 1 (ws.map cI)), (1, VI need)], []⟩) (by kernel_rfl) (by kernel_rfl) ?_
  refine EL.sreg ?_
  refine OW.run 1 (x' := ⟨(qaq118 ws need), []⟩) (by kernel_rfl) ?_
  refine OW.fo (ar := [.lst 1 (ws.map cI)]) (fe := cI) (xs := ws) (x' := ⟨(8, .own 0 1 0 (List.length ws)) :: (qaq118 ws need), [some ⟨1, (ws.map cI)⟩]⟩) (by kernel_rfl) (by kernel_rfl) F27_call (clone_fo ws (by omega)) (by intro y; kernel_rfl) (by kernel_rfl) (by kernel_rfl) ?_
  refine OW.last 1 [1, 5] (x' := ⟨[(5, .own 0 1 0 (List.length ws)), (1, VI need)], [some ⟨1, (ws.map cI)⟩]⟩) (by kernel_rfl) (by kernel_rfl) ?_
  refine EL.sreg ?_
  refine OW.run 1 (x' := ⟨(qaq119 ws need), [some ⟨1, (ws.map cI)⟩]⟩) (by kernel_rfl) ?_
  refine OW.fi (ar := [.own 0 1 0 (List.length ws), .fn 29 []]) (r := .tup []) (m' := [some ⟨1, ((srtD ws).map cI)⟩]) (x' := ⟨(10, .tup []) :: (qaq119 ws need), [some ⟨1, ((srtD ws).map cI)⟩]⟩) (by kernel_rfl) (by kernel_rfl) F28_call (sort_fi ws (by exact ⟨by omega, hw⟩)) (by kernel_rfl) ?_
  refine OW.last 0 [1, 5] (x' := ⟨[(5, .own 0 1 0 (List.length ws)), (1, VI need)], [some ⟨1, ((srtD ws).map cI)⟩]⟩) (by kernel_rfl) (by kernel_rfl) ?_
  refine EL.sreg ?_
  refine OW.last 1 [1, 5, 6] (x' := ⟨(qaq120 ws need), [some ⟨1, ((srtD ws).map cI)⟩]⟩) (by kernel_rfl) (by kernel_rfl) ?_
  refine EL.seq ?_
  refine EL.block ?_
  refine EL.loopN (fun mM xX => ∃ (k : Nat) (d : Int), mM = ws.length - k ∧ (k ≤ ws.length ∧ hvG (srtD ws) need = k + hvG ((srtD ws).drop k) d ∧ d ≤ lsum ((srtD ws).drop k) ∧ -100 ≤ d ∧ d ≤ 1200) ∧ xX = ⟨(qaq121 d ws k), [some ⟨1, ((srtD ws).map cI)⟩]⟩) (y := (fun (k : Nat) (d : Int) => (⟨(qaq121 d ws k), [some ⟨1, ((srtD ws).map cI)⟩]⟩ : L3)) 0 need) [1, 5, 6] [.old 0 true] [] (by kernel_rfl) ⟨pucI (srtD ws) (by kernel_rfl), trivial⟩ ⟨0, need, rfl, by rw [List.drop_zero, lsum_perm (srtD_perm ws)]; exact ⟨by omega, by omega, by omega, by omega, by omega⟩, rfl⟩ ?_
  rintro _ _ ⟨k, d, rfl, hI1, rfl⟩
  obtain ⟨hk, hs, hd, hd1, hd2⟩ := hI1
  have hkl := lsum_drop (l := srtD ws) (k := k)
  refine EL.seq ?_
  refine EL.sreg ?_
  refine OW.last 2 [1, 5, 6, 12] (x' := ⟨(12, .v (.bool (decide (d > 0)))) :: (qaq121 d ws k), [some ⟨1, ((srtD ws).map cI)⟩]⟩) (by kernel_rfl) (by kernel_rfl) ?_
  rcases Bool.eq_false_or_eq_true (decide (d > 0)) with h2 | h2
  rw [h2]
  have g2 : (d > 0) := of_decide_eq_true h2
  refine EL.condT (by kernel_rfl) ?_
  refine EL.skip ?_
  refine thenL_norm ?_
  refine EL.block ?_
  refine EL.sreg ?_
  refine OW.run 3 (x' := ⟨(qaq122 k ws d), [some ⟨1, ((srtD ws).map cI)⟩]⟩) (by kernel_rfl) ?_
  obtain ⟨a4, ha4⟩ : ∃ y, (srtD ws)[((k : Int) : Int).toNat]? = some y := idx_ex ⟨by omega, by have := lsum_drop (l := srtD ws) (k := k) (by omega); omega⟩
  have iha4 : (srtD ws)[k]? = some a4 := by simpa using ha4
  have dha4 := drop_get iha4
  have ma4 := hms _ (List.mem_of_getElem? ha4)
  refine OW.ope (v := .ref 0 1 (0 + Int.toNat (k : Int)) 0) (u := []) (acc := [0]) (x' := ⟨(qaq123 k ws d), [some ⟨1, ((srtD ws).map cI)⟩]⟩) (by kernel_rfl) (opE_iado (.s 14) (.s 15) 1 0 0 (List.length ws) .i64 (k : Int) ⟨1, ((srtD ws).map cI)⟩ (by kernel_rfl) (by kernel_rfl) rfl rfl ⟨by omega, by have := lsum_drop (l := srtD ws) (k := k) (by omega); omega⟩ (by kernel_rfl)) (by kernel_rfl) ?_
  refine OW.ope (v := VI a4) (u := []) (acc := [0]) (x' := ⟨(17, VI a4) :: (qaq123 k ws d), [some ⟨1, ((srtD ws).map cI)⟩]⟩) (by kernel_rfl) (opE_ldoS cI (srtD ws) none (.s 16) 0 1 (0 + Int.toNat (k : Int)) 0 a4 (VI a4) (by kernel_rfl) (by kernel_rfl) rfl (by kernel_rfl) (by simpa using ha4) (by kernel_rfl)) (by kernel_rfl) ?_
  refine OW.run 2 (x' := ⟨(1, VI (IntKind.i64.wrap (d - a4))) :: (18, VI (IntKind.i64.wrap (d - a4))) :: (qaq124 a4 k ws d), [some ⟨1, ((srtD ws).map cI)⟩]⟩) (by kernel_rfl) ?_
  have e5 : IntKind.i64.wrap (d - a4) = d - a4 := wr64 (by omega)
  rw [e5]
  refine OW.last 0 [1, 5, 6] (x' := ⟨(qaq125 d a4 ws k), [some ⟨1, ((srtD ws).map cI)⟩]⟩) (by kernel_rfl) (by kernel_rfl) ?_
  refine EL.reg0 ?_
  refine OW.run 3 (x' := ⟨(6, VI (IntKind.i64.wrap ((k : Int) + 1))) :: (20, VI (IntKind.i64.wrap ((k : Int) + 1))) :: (qaq126 k d a4 ws), [some ⟨1, ((srtD ws).map cI)⟩]⟩) (by kernel_rfl) ?_
  have e6 : IntKind.i64.wrap ((k : Int) + 1) = (k : Int) + 1 := wr64 (by omega)
  rw [e6]
  refine OW.end 0 (x' := ⟨(qaq127 k d a4 ws), [some ⟨1, ((srtD ws).map cI)⟩]⟩) (by kernel_rfl) (by kernel_rfl) ?_
  refine inBlk_norm ?_
  refine thenL_norm ?_
  refine round_end (live := [1, 5, 6]) (src := [.old 0 true]) (es := []) (y := (fun (k : Nat) (d : Int) => (⟨(qaq121 d ws k), [some ⟨1, ((srtD ws).map cI)⟩]⟩ : L3)) (k + 1) (d - a4)) ?_ ⟨pucI (srtD ws) (by kernel_rfl), trivial⟩ ?_ ⟨(k + 1), (d - a4), rfl, ?_, rfl⟩
  kernel_rfl
  omega
  focus ((have hk2 := hkl (by omega); rw [‹(srtD ws).drop k = _›, hvG, if_neg (by omega)] at hs; rw [‹(srtD ws).drop k = _›, lsum] at hd; exact ⟨by omega, by omega, by omega, by omega, by omega⟩))
  rw [h2]
  have g2 : ¬ (d > 0) := of_decide_eq_false h2
  refine EL.condF (by kernel_rfl) ?_
  refine EL.exit ?_
  refine thenL_exit ?_
  refine thenL_exit ?_
  refine inBlk_hit ?_
  refine thenL_norm ?_
  refine EL.sreg ?_
  refine OW.last 2 [4] (x' := ⟨[(4, VI (k : Int))], [some ⟨1, ((srtD ws).map cI)⟩]⟩) (by kernel_rfl) (by kernel_rfl) ?_
  refine EL.ret ?_
  refine ⟨.inr rfl, VI (k : Int), by kernel_rfl, Ale.of_eq ?_⟩
  focus ((refine congrArg (fun n => VI n) ?_; rw [hvG_zero (l := (srtD ws).drop k) (d := d) (by omega)] at hs; unfold heavyP; omega))
def leastP (ws : List Int) (need : Int) : Int × Int := if qcheckP ws need ≠ 0 then (0, qcheckP ws need) else (heavyP ws need, 0)
def spareP (ws : List Int) (need : Int) : Int × Int := if qcheckP ws need ≠ 0 then (0, qcheckP ws need) else ((heavyP ws (lsum ws - need + 1) : Int) - 1, 0)
abbrev qaq128 (need : Int) (ws : List Int) : LS := [(8, VI need), (7, .lst 1 (ws.map cI)), (0, .lst 1 (ws.map cI)), (1, VI need)]
abbrev qaq129 (ws : List Int) (need : Int) : LS := [(6, VI (qcheckP ws need)), (0, .lst 1 (ws.map cI)), (1, VI need)]
abbrev qaq130 (need : Int) (ws : List Int) : LS := (14, VI need) :: (13, .lst 1 (ws.map cI)) :: (11, .v (.bool false)) :: (qaq129 ws need)
theorem least_fn (ws : List Int) (need : Int) (hx : ws.length ≤ 9223372036854775807) : Fn Tryd.prog 11 [.lst 1 (ws.map cI), VI need] (.tup [VI ((leastP ws need).1), VI ((leastP ws need).2)]) := by
  refine fn_walkW F11_ok (of_decide_eq_true (by kernel_rfl)) ?_
  refine EL.sreg ?_
  refine OW.last 2 [0, 1] (x' := ⟨[(0, .lst 1 (ws.map cI)), (1, VI need)], []⟩) (by kernel_rfl) (by kernel_rfl) ?_
  refine EL.seq ?_
  refine EL.sreg ?_
  refine OW.run 2 (x' := ⟨(qaq128 need ws), []⟩) (by kernel_rfl) ?_
  refine OW.fn (ar := [.lst 1 (ws.map cI), VI need]) (x' := ⟨(9, VI (qcheckP ws need)) :: (qaq128 need ws), []⟩) (by kernel_rfl) (by kernel_rfl) F18_call (qcheck_fn ws need (by first | omega | (simp; omega))) (by kernel_rfl) (by kernel_rfl) ?_
  refine OW.last 1 [0, 1, 6] (x' := ⟨(qaq129 ws need), []⟩) (by kernel_rfl) (by kernel_rfl) ?_
  refine EL.sreg ?_
  refine OW.last 2 [0, 1, 6, 11] (x' := ⟨(11, .v (.bool ((qcheckP ws need) != 0))) :: (qaq129 ws need), []⟩) (by kernel_rfl) (by kernel_rfl) ?_
  rcases Bool.eq_false_or_eq_true (((qcheckP ws need) != 0)) with h1 | h1
  rw [h1]
  have g1 : ¬ ((qcheckP ws need) = 0) := by simpa using h1
  refine EL.condT (by kernel_rfl) ?_
  refine EL.sreg ?_
  refine OW.last 3 [4, 5] (x' := ⟨[(5, VI (qcheckP ws need)), (4, VI 0)], []⟩) (by kernel_rfl) (by kernel_rfl) ?_
  refine EL.ret ?_
  refine thenL_ret ?_
  refine ⟨.inr rfl, .tup [VI 0, VI (qcheckP ws need)], by kernel_rfl, Ale.of_eq ?_⟩
  focus (first | (simp [leastP, *]; done) | (simp_all [leastP]; done))
  rw [h1]
  have g1 : ((qcheckP ws need) = 0) := by simpa using h1
  refine EL.condF (by kernel_rfl) ?_
  refine EL.skip ?_
  refine thenL_norm ?_
  refine EL.sreg ?_
  refine OW.run 2 (x' := ⟨(qaq130 need ws), []⟩) (by kernel_rfl) ?_
  refine OW.fn (ar := [.lst 1 (ws.map cI), VI need]) (x' := ⟨(15, VI (heavyP ws need : Int)) :: (qaq130 need ws), []⟩) (by kernel_rfl) (by kernel_rfl) F23_call (heaviest_fn ws need (qc_nodes (by assumption)) (by have h9 := qc_need (by assumption); have h8 := nodes_sum (qc_nodes (by assumption)); omega)) (by kernel_rfl) (by kernel_rfl) ?_
  refine OW.last 2 [4, 5] (x' := ⟨[(5, VI 0), (4, VI (heavyP ws need : Int))], []⟩) (by kernel_rfl) (by kernel_rfl) ?_
  refine EL.ret ?_
  refine ⟨.inr rfl, .tup [VI (heavyP ws need : Int), VI 0], by kernel_rfl, Ale.of_eq ?_⟩
  focus (first | (simp [leastP, *]; done) | (simp_all [leastP]; done))
abbrev qaq131 (need : Int) (ws : List Int) : LS := [(10, VI need), (9, .lst 1 (ws.map cI)), (0, .lst 1 (ws.map cI)), (1, VI need)]
abbrev qaq132 (ws : List Int) (need : Int) : LS := (16, .lst 1 (ws.map cI)) :: (13, .v (.bool false)) :: (qaq129 ws need)
abbrev qaq133 (ws : List Int) (need : Int) : LS := (17, .tup [VI ((nodesP ws).1), VI ((nodesP ws).2)]) :: (qaq132 ws need)
abbrev qaq134 (ws : List Int) (need : Int) : LS := [(7, VI ((nodesP ws).1)), (0, .lst 1 (ws.map cI)), (1, VI need)]
abbrev qaq135 (need : Int) (ws : List Int) : LS := (22, VI need) :: (21, VI ((nodesP ws).1)) :: (20, .lst 1 (ws.map cI)) :: (qaq134 ws need)
abbrev qaq136 (ws : List Int) (need : Int) : LS := (25, VI (heavyP ws ((((nodesP ws).1) - need) + 1) : Int)) :: (24, VI ((((nodesP ws).1) - need) + 1)) :: (23, VI (((nodesP ws).1) - need)) :: (qaq135 need ws)
theorem spare_fn (ws : List Int) (need : Int) (hx : ws.length ≤ 9223372036854775807) : Fn Tryd.prog 12 [.lst 1 (ws.map cI), VI need] (.tup [VI ((spareP ws need).1), VI ((spareP ws need).2)]) := by
  refine fn_walkW F12_ok (of_decide_eq_true (by kernel_rfl)) ?_
  refine EL.sreg ?_
  refine OW.last 2 [0, 1] (x' := ⟨[(0, .lst 1 (ws.map cI)), (1, VI need)], []⟩) (by kernel_rfl) (by kernel_rfl) ?_
  refine EL.seq ?_
  refine EL.sreg ?_
  refine OW.run 2 (x' := ⟨(qaq131 need ws), []⟩) (by kernel_rfl) ?_
  refine OW.fn (ar := [.lst 1 (ws.map cI), VI need]) (x' := ⟨(11, VI (qcheckP ws need)) :: (qaq131 need ws), []⟩) (by kernel_rfl) (by kernel_rfl) F18_call (qcheck_fn ws need (by first | omega | (simp; omega))) (by kernel_rfl) (by kernel_rfl) ?_
  refine OW.last 1 [0, 1, 6] (x' := ⟨(qaq129 ws need), []⟩) (by kernel_rfl) (by kernel_rfl) ?_
  refine EL.sreg ?_
  refine OW.last 2 [0, 1, 6, 13] (x' := ⟨(13, .v (.bool ((qcheckP ws need) != 0))) :: (qaq129 ws need), []⟩) (by kernel_rfl) (by kernel_rfl) ?_
  rcases Bool.eq_false_or_eq_true (((qcheckP ws need) != 0)) with h1 | h1
  rw [h1]
  have g1 : ¬ ((qcheckP ws need) = 0) := by simpa using h1
  refine EL.condT (by kernel_rfl) ?_
  refine EL.sreg ?_
  refine OW.last 3 [4, 5] (x' := ⟨[(5, VI (qcheckP ws need)), (4, VI 0)], []⟩) (by kernel_rfl) (by kernel_rfl) ?_
  refine EL.ret ?_
  refine thenL_ret ?_
  refine ⟨.inr rfl, .tup [VI 0, VI (qcheckP ws need)], by kernel_rfl, Ale.of_eq ?_⟩
  focus (first | (have hq : qcheckP ws need = 0 := (by assumption); have h9 := nodes_sum (qc_nodes hq); rw [spareP, if_neg (fun hh => hh hq), ← h9]; done) | (rw [spareP, if_pos (by assumption)]; done))
  rw [h1]
  have g1 : ((qcheckP ws need) = 0) := by simpa using h1
  refine EL.condF (by kernel_rfl) ?_
  refine EL.skip ?_
  refine thenL_norm ?_
  refine EL.sreg ?_
  refine OW.run 1 (x' := ⟨(qaq132 ws need), []⟩) (by kernel_rfl) ?_
  refine OW.fn (ar := [.lst 1 (ws.map cI)]) (x' := ⟨(qaq133 ws need), []⟩) (by kernel_rfl) (by kernel_rfl) F20_call (nodes_fn ws (by first | omega | (simp; omega))) (by kernel_rfl) (by kernel_rfl) ?_
  refine OW.last 5 [0, 1, 7] (x' := ⟨(qaq134 ws need), []⟩) (by kernel_rfl) (by kernel_rfl) ?_
  refine EL.sreg ?_
  refine OW.run 5 (x' := ⟨(24, VI (IntKind.i64.wrap ((IntKind.i64.wrap (((nodesP ws).1) - need)) + 1))) :: (23, VI (IntKind.i64.wrap (((nodesP ws).1) - need))) :: (qaq135 need ws), []⟩) (by kernel_rfl) ?_
  have e2 : IntKind.i64.wrap (((nodesP ws).1) - need) = ((nodesP ws).1) - need := wr64 (by have h9 := qc_need (by assumption); have h8 := nodes_sum (qc_nodes (by assumption)); first | omega | (have h7 := hvG_le (srtD ws) (lsum ws - need + 1); have h6 := srtD_len ws; have h5 : heavyP ws (lsum ws - need + 1) = hvG (srtD ws) (lsum ws - need + 1) := rfl; rw [h8] at *; omega))
  rw [e2]
  have e3 : IntKind.i64.wrap ((((nodesP ws).1) - need) + 1) = (((nodesP ws).1) - need) + 1 := wr64 (by have h9 := qc_need (by assumption); have h8 := nodes_sum (qc_nodes (by assumption)); first | omega | (have h7 := hvG_le (srtD ws) (lsum ws - need + 1); have h6 := srtD_len ws; have h5 : heavyP ws (lsum ws - need + 1) = hvG (srtD ws) (lsum ws - need + 1) := rfl; rw [h8] at *; omega))
  rw [e3]
  refine OW.fn (ar := [.lst 1 (ws.map cI), VI ((((nodesP ws).1) - need) + 1)]) (x' := ⟨(qaq136 ws need), []⟩) (by kernel_rfl) (by kernel_rfl) F23_call (heaviest_fn ws ((((nodesP ws).1) - need) + 1) (qc_nodes (by assumption)) (by have h9 := qc_need (by assumption); have h8 := nodes_sum (qc_nodes (by assumption)); omega)) (by kernel_rfl) (by kernel_rfl) ?_
  refine OW.run 3 (x' := ⟨(5, VI 0) :: (4, VI (IntKind.i64.wrap ((heavyP ws ((((nodesP ws).1) - need) + 1) : Int) - 1))) :: (26, VI (IntKind.i64.wrap ((heavyP ws ((((nodesP ws).1) - need) + 1) : Int) - 1))) :: (qaq136 ws need), []⟩) (by kernel_rfl) ?_
  have e4 : IntKind.i64.wrap ((heavyP ws ((((nodesP ws).1) - need) + 1) : Int) - 1) = (heavyP ws ((((nodesP ws).1) - need) + 1) : Int) - 1 := wr64 (by have h9 := qc_need (by assumption); have h8 := nodes_sum (qc_nodes (by assumption)); first | omega | (have h7 := hvG_le (srtD ws) (lsum ws - need + 1); have h6 := srtD_len ws; have h5 : heavyP ws (lsum ws - need + 1) = hvG (srtD ws) (lsum ws - need + 1) := rfl; rw [h8] at *; omega))
  rw [e4]
  refine OW.last 0 [4, 5] (x' := ⟨[(5, VI 0), (4, VI ((heavyP ws ((((nodesP ws).1) - need) + 1) : Int) - 1))], []⟩) (by kernel_rfl) (by kernel_rfl) ?_
  refine EL.ret ?_
  refine ⟨.inr rfl, .tup [VI ((heavyP ws ((((nodesP ws).1) - need) + 1) : Int) - 1), VI 0], by kernel_rfl, Ale.of_eq ?_⟩
  focus (first | (have hq : qcheckP ws need = 0 := (by assumption); have h9 := nodes_sum (qc_nodes hq); rw [spareP, if_neg (fun hh => hh hq), ← h9]; done) | (rw [spareP, if_pos (by assumption)]; done))
end Go.Proofs.YtfgjfghljhldfaaDoor
