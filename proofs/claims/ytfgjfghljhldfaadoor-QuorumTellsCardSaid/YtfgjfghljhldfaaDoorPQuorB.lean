/- What the references of package quorum answer; what must be in any case. No condition. -/
import Derived.Test.YtfgjfghljhldfaaDoorPQuorA
set_option maxRecDepth 100000
set_option maxHeartbeats 4000000
set_option linter.unusedVariables false
set_option linter.unusedSimpArgs false
namespace Go.Proofs.YtfgjfghljhldfaaDoor
theorem bsize_step {n x k : Nat} : bsize (n + 1) (shN x k) = (if inS x k = true then 1 else 0) + bsize n (shN x (k + 1)) := by
  unfold shN inS
  rw [bsize, Nat.pow_succ, Nat.div_div_eq_div_mul]
  have : x / 2 ^ k % 2 = 0 ∨ x / 2 ^ k % 2 = 1 := by omega
  rcases this with h | h <;> simp [h]
theorem bsize_0 {x : Nat} : bsize 0 x = 0 := rfl
theorem add1N {a : Nat} (h : a + 1 < 18446744073709551616) : IntKind.u64.wrap ((a : Int) + 1) = ((a + 1 : Nat) : Int) := by rw [IntKind.wrap_u64]; omega
theorem bsize_ext : ∀ (n m x : Nat), x < 2 ^ n → n ≤ m → bsize m x = bsize n x
  | 0, m, x, h, _ => by
    have hx : x = 0 := by simpa using h
    subst hx
    have : ∀ m, bsize m 0 = 0 := by
      intro m; induction m with
      | zero => rfl
      | succ m ih => simp [bsize, ih]
    exact this m
  | n + 1, 0, x, h, h2 => by omega
  | n + 1, m + 1, x, h, h2 => by
    rw [Nat.pow_succ] at h
    unfold bsize; rw [bsize_ext n m (x / 2) (by omega) (by omega)]
/-- How many nodes a set has, of 64. -/
@[irreducible] def size64 (x : Nat) : Nat := bsize 64 x
theorem size64_0 {x : Nat} : 0 + bsize (64 - 0) (shN x 0) = size64 x := by unfold size64; rw [shN_0]; simp
theorem size64_le (x : Nat) : size64 x ≤ 64 := by unfold size64; exact bsize_le 64 x
theorem size64_eq {n x : Nat} (h : x < 2 ^ n) (hn : n ≤ 64) : size64 x = bsize n x := by unfold size64; exact bsize_ext n 64 x h hn
/-- All sets of nodes. -/
def allS (ws : List Int) : Nat := 2 ^ ws.length
theorem allS_pow (ws : List Int) : (2 ^ Int.toNat (ws.length : Int) : Nat) = allS ws := rfl
theorem allS_le {ws : List Int} (h : ws.length ≤ 12) : 1 ≤ allS ws ∧ allS ws ≤ 4096 := by
  unfold allS
  have := Nat.pow_le_pow_right (n := 2) (by decide) h
  have := Nat.two_pow_pos ws.length
  omega
theorem len_ge {n : U64} {l : Nat} : ((n.n : Int) ≥ ((2 ^ Int.toNat (l : Int) : Nat) : Int)) ↔ 2 ^ l ≤ n.n := by
  rw [show Int.toNat (l : Int) = l from rfl]
  omega
theorem pow_lt64 {k : Nat} (h : k < 64) : 2 ^ k < 18446744073709551616 := by
  have := Nat.pow_lt_pow_right (a := 2) (by decide) h; simpa using this
theorem shl1 {d : Int} (h : 0 ≤ d ∧ d < 64) : IntKind.u64.wrap (1 * 2 ^ (min (Int.toNat d) IntKind.u64.bits)) = ((2 ^ (Int.toNat d) : Nat) : Int) := by
  have e : min (Int.toNat d) IntKind.u64.bits = Int.toNat d := by
    have : IntKind.u64.bits = 64 := rfl
    omega
  have hp := pow_lt64 (k := Int.toNat d) (by omega)
  rw [e, Int.one_mul, show ((2 : Int) ^ (Int.toNat d)) = ((2 ^ (Int.toNat d) : Nat) : Int) by push_cast; rfl, IntKind.wrap_u64]
  generalize (2 : Nat) ^ (Int.toNat d) = p at *
  omega
abbrev qbq0 (u : U64) : LS := [(4, VI 0), (3, VI 0), (0, .v (.int .u64 (u.n : Int)))]
abbrev qbq1 (u : U64) (n : Nat) (k : Nat) : LS := [(0, .v (.int .u64 (u.n : Int))), (3, VI (n : Int)), (4, VI (k : Int))]
abbrev qbq2 (k : Nat) (u : U64) (n : Nat) : LS := (10, VI (k : Int)) :: (9, .v (.int .u64 (u.n : Int))) :: (6, .v (.bool true)) :: (qbq1 u n k)
abbrev qbq3 (n : Nat) (u : U64) (k : Nat) : LS := [(12, VI (n : Int)), (11, .v (.bool true)), (0, .v (.int .u64 (u.n : Int))), (4, VI (k : Int))]
abbrev qbq4 (n : Nat) (u : U64) (k : Nat) : LS := (3, VI ((n : Int) + 1)) :: (13, VI ((n : Int) + 1)) :: (qbq3 n u k)
abbrev qbq5 (k : Nat) (n : Nat) (u : U64) : LS := [(7, VI (k : Int)), (3, VI ((n : Int) + 1)), (13, VI ((n : Int) + 1)), (12, VI (n : Int)), (11, .v (.bool true)), (0, .v (.int .u64 (u.n : Int)))]
abbrev qbq6 (k : Nat) (n : Nat) (u : U64) : LS := (4, VI ((k : Int) + 1)) :: (8, VI ((k : Int) + 1)) :: (qbq5 k n u)
abbrev qbq7 (k : Nat) (u : U64) (n : Nat) : LS := [(7, VI (k : Int)), (11, .v (.bool false)), (0, .v (.int .u64 (u.n : Int))), (3, VI (n : Int))]
abbrev qbq8 (k : Nat) (u : U64) (n : Nat) : LS := (4, VI ((k : Int) + 1)) :: (8, VI ((k : Int) + 1)) :: (qbq7 k u n)
theorem sizeof_fn (u : U64) : Fn Tryd.prog 19 [.v (.int .u64 (u.n : Int))] (VI (size64 u.n : Int)) := by
  refine fn_walkW F19_ok (of_decide_eq_true (by kernel_rfl)) ?_
  refine EL.sreg ?_
  refine OW.last 1 [0] (x' := ⟨[(0, .v (.int .u64 (u.n : Int)))], []⟩) (by kernel_rfl) (by kernel_rfl) ?_
  refine EL.sreg ?_
  refine OW.last 1 [0, 3] (x' := ⟨[(3, VI 0), (0, .v (.int .u64 (u.n : Int)))], []⟩) (by kernel_rfl) (by kernel_rfl) ?_
  refine EL.seq ?_
  refine EL.sreg ?_
  refine OW.last 1 [0, 3, 4] (x' := ⟨(qbq0 u), []⟩) (by kernel_rfl) (by kernel_rfl) ?_
  refine EL.block ?_
  refine EL.loopN (fun mM xX => ∃ (k : Nat) (n : Nat), mM = 64 - k ∧ (k ≤ 64 ∧ n + bsize (64 - k) (shN u.n k) = size64 u.n ∧ n ≤ 64) ∧ xX = ⟨(qbq1 u n k), []⟩) (y := (fun (k : Nat) (n : Nat) => (⟨(qbq1 u n k), []⟩ : L3)) 0 0) [0, 3, 4] [] [] (by kernel_rfl) trivial ⟨0, 0, rfl, by exact ⟨by omega, size64_0, by omega⟩, rfl⟩ ?_
  rintro _ _ ⟨k, n, rfl, hI1, rfl⟩
  obtain ⟨hk, hs, hn⟩ := hI1
  have hb64 := size64_le u.n
  refine EL.seq ?_
  refine EL.sreg ?_
  refine OW.last 2 [0, 3, 4, 6] (x' := ⟨(6, .v (.bool (decide ((k : Int) < 64)))) :: (qbq1 u n k), []⟩) (by kernel_rfl) (by kernel_rfl) ?_
  rcases Bool.eq_false_or_eq_true (decide ((k : Int) < 64)) with h2 | h2
  rw [h2]
  have g2 : ((k : Int) < 64) := of_decide_eq_true h2
  have n2 : ((k) < 64) := by omega
  refine EL.condT (by kernel_rfl) ?_
  refine EL.skip ?_
  refine thenL_norm ?_
  refine EL.seq ?_
  refine EL.block ?_
  refine EL.sreg ?_
  refine OW.run 2 (x' := ⟨(qbq2 k u n), []⟩) (by kernel_rfl) ?_
  refine OW.fn (ar := [.v (.int .u64 (u.n : Int)), VI (k : Int)]) (x' := ⟨(11, .v (.bool (inS u.n (Int.toNat (k : Int))))) :: (qbq2 k u n), []⟩) (by kernel_rfl) (by kernel_rfl) F26_call (inset_fn u (k : Int) (by omega)) (by kernel_rfl) (by kernel_rfl) ?_
  refine OW.last 0 [0, 3, 4, 11] (x' := ⟨(11, .v (.bool (inS u.n (Int.toNat (k : Int))))) :: (qbq1 u n k), []⟩) (by kernel_rfl) (by kernel_rfl) ?_
  rcases Bool.eq_false_or_eq_true (inS u.n (Int.toNat (k : Int))) with h3 | h3
  rw [h3]
  refine EL.condT (by kernel_rfl) ?_
  refine EL.reg0 ?_
  refine OW.run 3 (x' := ⟨(3, VI (IntKind.i64.wrap ((n : Int) + 1))) :: (13, VI (IntKind.i64.wrap ((n : Int) + 1))) :: (qbq3 n u k), []⟩) (by kernel_rfl) ?_
  have e4 : IntKind.i64.wrap ((n : Int) + 1) = (n : Int) + 1 := wr64 (by omega)
  rw [e4]
  refine OW.end 0 (x' := ⟨(qbq4 n u k), []⟩) (by kernel_rfl) (by kernel_rfl) ?_
  refine inBlk_norm ?_
  refine thenL_norm ?_
  refine EL.reg0 ?_
  refine OW.run 3 (x' := ⟨(4, VI (IntKind.i64.wrap ((k : Int) + 1))) :: (8, VI (IntKind.i64.wrap ((k : Int) + 1))) :: (qbq5 k n u), []⟩) (by kernel_rfl) ?_
  have e5 : IntKind.i64.wrap ((k : Int) + 1) = (k : Int) + 1 := wr64 (by omega)
  rw [e5]
  refine OW.end 0 (x' := ⟨(qbq6 k n u), []⟩) (by kernel_rfl) (by kernel_rfl) ?_
  refine thenL_norm ?_
  refine round_end (live := [0, 3, 4]) (src := []) (es := []) (y := (fun (k : Nat) (n : Nat) => (⟨(qbq1 u n k), []⟩ : L3)) (k + 1) (n + 1)) ?_ trivial ?_ ⟨(k + 1), (n + 1), rfl, ?_, rfl⟩
  kernel_rfl
  omega
  focus ((have hq := bsize_step (n := 63 - k) (x := u.n) (k := k); rw [show 63 - k + 1 = 64 - k by omega] at hq; rw [show 64 - (k + 1) = 63 - k by omega]; first | (rw [if_pos (by assumption)] at hq; refine ⟨by omega, by omega, by omega⟩) | (rw [if_neg (by simp_all)] at hq; refine ⟨by omega, by omega, by omega⟩)))
  rw [h3]
  refine EL.condF (by kernel_rfl) ?_
  refine EL.skip ?_
  refine inBlk_norm ?_
  refine thenL_norm ?_
  refine EL.reg0 ?_
  refine OW.run 3 (x' := ⟨(4, VI (IntKind.i64.wrap ((k : Int) + 1))) :: (8, VI (IntKind.i64.wrap ((k : Int) + 1))) :: (qbq7 k u n), []⟩) (by kernel_rfl) ?_
  have e6 : IntKind.i64.wrap ((k : Int) + 1) = (k : Int) + 1 := wr64 (by omega)
  rw [e6]
  refine OW.end 0 (x' := ⟨(qbq8 k u n), []⟩) (by kernel_rfl) (by kernel_rfl) ?_
  refine thenL_norm ?_
  refine round_end (live := [0, 3, 4]) (src := []) (es := []) (y := (fun (k : Nat) (n : Nat) => (⟨(qbq1 u n k), []⟩ : L3)) (k + 1) n) ?_ trivial ?_ ⟨(k + 1), n, rfl, ?_, rfl⟩
  kernel_rfl
  omega
  focus ((have hq := bsize_step (n := 63 - k) (x := u.n) (k := k); rw [show 63 - k + 1 = 64 - k by omega] at hq; rw [show 64 - (k + 1) = 63 - k by omega]; first | (rw [if_pos (by assumption)] at hq; refine ⟨by omega, by omega, by omega⟩) | (rw [if_neg (by simp_all)] at hq; refine ⟨by omega, by omega, by omega⟩)))
  rw [h2]
  have g2 : ¬ ((k : Int) < 64) := of_decide_eq_false h2
  have n2 : ¬ ((k) < 64) := by omega
  refine EL.condF (by kernel_rfl) ?_
  refine EL.exit ?_
  refine thenL_exit ?_
  refine thenL_exit ?_
  refine inBlk_hit ?_
  refine thenL_norm ?_
  refine EL.sreg ?_
  refine OW.last 2 [2] (x' := ⟨[(2, VI (n : Int))], []⟩) (by kernel_rfl) (by kernel_rfl) ?_
  refine EL.ret ?_
  refine ⟨.inr rfl, VI (n : Int), by kernel_rfl, Ale.of_eq ?_⟩
  focus ((refine congrArg (fun n => VI n) ?_; rw [show k = 64 by omega] at hs; rw [Nat.sub_self, bsize_0] at hs; omega))
abbrev qbq9 (ws : List Int) (u : U64) : LS := [(9, .lst 1 (ws.map cI)), (0, .lst 1 (ws.map cI)), (1, .v (.int .u64 (u.n : Int)))]
abbrev qbq10 (ws : List Int) (u : U64) : LS := (10, .tup [VI ((nodesP ws).1), VI ((nodesP ws).2)]) :: (qbq9 ws u)
abbrev qbq11 (ws : List Int) (u : U64) : LS := [(7, VI ((nodesP ws).2)), (0, .lst 1 (ws.map cI)), (1, .v (.int .u64 (u.n : Int)))]
abbrev qbq12 (ws : List Int) (u : U64) : LS := (17, .lst 1 (ws.map cI)) :: (16, .v (.int .u64 (u.n : Int))) :: (15, .v (.bool true)) :: (14, .v (.bool true)) :: (13, VI ((nodesP ws).2)) :: (qbq11 ws u)
abbrev qbq13 (ws : List Int) (u : U64) : LS := [(7, VI 3), (21, .v (.bool true)), (0, .lst 1 (ws.map cI)), (1, .v (.int .u64 (u.n : Int)))]
abbrev qbq14 (ws : List Int) (u : U64) : LS := [(23, .v (.bool true)), (7, VI 3), (0, .lst 1 (ws.map cI)), (1, .v (.int .u64 (u.n : Int)))]
abbrev qbq15 (u : U64) (ws : List Int) : LS := (26, .v (.int .u64 (u.n : Int))) :: (25, .lst 1 (ws.map cI)) :: (23, .v (.bool false)) :: (qbq11 ws u)
theorem sumno_fn (ws : List Int) (u : U64) (hx : ws.length ≤ 9223372036854775807) : Fn Tryd.prog 13 [.lst 1 (ws.map cI), .v (.int .u64 (u.n : Int))] (.tup [VI ((sumP ws u.n).1), VI ((sumP ws u.n).2)]) := by
  refine fn_walkW F13_ok (of_decide_eq_true (by kernel_rfl)) ?_
  refine EL.sreg ?_
  refine OW.last 2 [0, 1] (x' := ⟨[(0, .lst 1 (ws.map cI)), (1, .v (.int .u64 (u.n : Int)))], []⟩) (by kernel_rfl) (by kernel_rfl) ?_
  refine EL.sreg ?_
  refine OW.run 1 (x' := ⟨(qbq9 ws u), []⟩) (by kernel_rfl) ?_
  refine OW.fn (ar := [.lst 1 (ws.map cI)]) (x' := ⟨(qbq10 ws u), []⟩) (by kernel_rfl) (by kernel_rfl) F24_call (weights_fn ws (by first | omega | (simp; omega))) (by kernel_rfl) (by kernel_rfl) ?_
  refine OW.last 5 [0, 1, 7] (x' := ⟨(qbq11 ws u), []⟩) (by kernel_rfl) (by kernel_rfl) ?_
  refine EL.seq ?_
  refine EL.sreg ?_
  refine OW.run 3 (x' := ⟨(15, .v (.bool (((nodesP ws).2) == 0))) :: (14, .v (.bool (((nodesP ws).2) == 0))) :: (13, VI ((nodesP ws).2)) :: (qbq11 ws u), []⟩) (by kernel_rfl) ?_
  rcases Bool.eq_false_or_eq_true ((((nodesP ws).2) == 0)) with h1 | h1
  rw [h1]
  have g1 : (((nodesP ws).2) = 0) := by simpa using h1
  refine OW.run 2 (x' := ⟨(qbq12 ws u), []⟩) (by kernel_rfl) ?_
  refine OW.ope (v := VI (List.length ws : Int)) (u := []) (acc := []) (x' := ⟨(18, VI (List.length ws : Int)) :: (qbq12 ws u), []⟩) (by kernel_rfl) (opE_len cI ws (.s 17) 1 (by kernel_rfl) (by kernel_rfl) (.inl rfl)) (by kernel_rfl) ?_
  refine OW.ope (v := .v (.int .u64 (IntKind.u64.wrap (1 * 2 ^ (min (Int.toNat (List.length ws : Int)) IntKind.u64.bits))))) (u := []) (acc := []) (x' := ⟨(19, .v (.int .u64 (IntKind.u64.wrap (1 * 2 ^ (min (Int.toNat (List.length ws : Int)) IntKind.u64.bits))))) :: (18, VI (List.length ws : Int)) :: (qbq12 ws u), []⟩) (by kernel_rfl) (opE_shl (.c (.v (.int .u64 1))) (.s 18) .u64 .i64 1 (List.length ws : Int) (by kernel_rfl) (by kernel_rfl) (by kernel_rfl) (by kernel_rfl) (by have := nodes_bd (ws := ws) (by assumption); omega)) (by kernel_rfl) ?_
  have e2 : IntKind.u64.wrap (1 * 2 ^ (min (Int.toNat (List.length ws : Int)) IntKind.u64.bits)) = ((2 ^ (Int.toNat (List.length ws : Int)) : Nat) : Int) := shl1 (by have := nodes_bd (ws := ws) (by assumption); omega)
  rw [e2]
  refine OW.last 2 [0, 1, 7, 21] (x' := ⟨(21, .v (.bool (decide ((u.n : Int) ≥ ((2 ^ (Int.toNat (List.length ws : Int)) : Nat) : Int))))) :: (qbq11 ws u), []⟩) (by kernel_rfl) (by kernel_rfl) ?_
  rcases Bool.eq_false_or_eq_true (decide ((u.n : Int) ≥ ((2 ^ (Int.toNat (List.length ws : Int)) : Nat) : Int))) with h3 | h3
  rw [h3]
  have g3 : ((u.n : Int) ≥ ((2 ^ (Int.toNat (List.length ws : Int)) : Nat) : Int)) := of_decide_eq_true h3
  refine EL.condT (by kernel_rfl) ?_
  refine EL.reg0 ?_
  refine OW.end 1 (x' := ⟨(qbq13 ws u), []⟩) (by kernel_rfl) (by kernel_rfl) ?_
  refine thenL_norm ?_
  refine EL.seq ?_
  refine EL.sreg ?_
  refine OW.last 2 [0, 1, 7, 23] (x' := ⟨(qbq14 ws u), []⟩) (by kernel_rfl) (by kernel_rfl) ?_
  refine EL.condT (by kernel_rfl) ?_
  refine EL.sreg ?_
  refine OW.last 3 [4, 5] (x' := ⟨[(5, VI 3), (4, VI 0)], []⟩) (by kernel_rfl) (by kernel_rfl) ?_
  refine EL.ret ?_
  refine thenL_ret ?_
  refine ⟨.inr rfl, .tup [VI 0, VI 3], by kernel_rfl, Ale.of_eq ?_⟩
  focus (first | (rw [sumP, if_pos (by assumption)]; done) | (rw [sumP, if_neg (fun hh => hh (by assumption)), if_pos (len_ge.1 (by assumption))]; done) | (rw [sumP, if_neg (fun hh => hh (by assumption)), if_neg (fun hh => (by assumption : ¬ _) (len_ge.2 hh))]; done))
  rw [h3]
  have g3 : ¬ ((u.n : Int) ≥ ((2 ^ (Int.toNat (List.length ws : Int)) : Nat) : Int)) := of_decide_eq_false h3
  refine EL.condF (by kernel_rfl) ?_
  refine EL.skip ?_
  refine thenL_norm ?_
  refine EL.seq ?_
  refine EL.sreg ?_
  refine OW.last 2 [0, 1, 7, 23] (x' := ⟨(23, .v (.bool (((nodesP ws).2) != 0))) :: (qbq11 ws u), []⟩) (by kernel_rfl) (by kernel_rfl) ?_
  have h4 : (((nodesP ws).2) != 0) = false := (by show (!(((nodesP ws).2) == 0)) = _; rw [h1]; rfl)
  rw [h4]
  refine EL.condF (by kernel_rfl) ?_
  refine EL.skip ?_
  refine thenL_norm ?_
  refine EL.sreg ?_
  refine OW.run 2 (x' := ⟨(qbq15 u ws), []⟩) (by kernel_rfl) ?_
  refine OW.fn (ar := [.lst 1 (ws.map cI), .v (.int .u64 (u.n : Int))]) (x' := ⟨(27, VI (bsum ws u.n)) :: (qbq15 u ws), []⟩) (by kernel_rfl) (by kernel_rfl) F25_call (sumof_fn ws u (by assumption)) (by kernel_rfl) (by kernel_rfl) ?_
  refine OW.last 2 [4, 5] (x' := ⟨[(5, VI 0), (4, VI (bsum ws u.n))], []⟩) (by kernel_rfl) (by kernel_rfl) ?_
  refine EL.ret ?_
  refine ⟨.inr rfl, .tup [VI (bsum ws u.n), VI 0], by kernel_rfl, Ale.of_eq ?_⟩
  focus (first | (rw [sumP, if_pos (by assumption)]; done) | (rw [sumP, if_neg (fun hh => hh (by assumption)), if_pos (len_ge.1 (by assumption))]; done) | (rw [sumP, if_neg (fun hh => hh (by assumption)), if_neg (fun hh => (by assumption : ¬ _) (len_ge.2 hh))]; done))
  rw [h1]
  have g1 : ¬ (((nodesP ws).2) = 0) := by simpa using h1
  refine OW.last 6 [0, 1, 7, 21] (x' := ⟨(21, .v (.bool false)) :: (qbq11 ws u), []⟩) (by kernel_rfl) (by kernel_rfl) ?_
  refine EL.condF (by kernel_rfl) ?_
  refine EL.skip ?_
  refine thenL_norm ?_
  refine EL.seq ?_
  refine EL.sreg ?_
  refine OW.last 2 [0, 1, 7, 23] (x' := ⟨(23, .v (.bool (((nodesP ws).2) != 0))) :: (qbq11 ws u), []⟩) (by kernel_rfl) (by kernel_rfl) ?_
  have h5 : (((nodesP ws).2) != 0) = true := (by show (!(((nodesP ws).2) == 0)) = _; rw [h1]; rfl)
  rw [h5]
  refine EL.condT (by kernel_rfl) ?_
  refine EL.sreg ?_
  refine OW.last 3 [4, 5] (x' := ⟨[(5, VI ((nodesP ws).2)), (4, VI 0)], []⟩) (by kernel_rfl) (by kernel_rfl) ?_
  refine EL.ret ?_
  refine thenL_ret ?_
  refine ⟨.inr rfl, .tup [VI 0, VI ((nodesP ws).2)], by kernel_rfl, Ale.of_eq ?_⟩
  focus (first | (rw [sumP, if_pos (by assumption)]; done) | (rw [sumP, if_neg (fun hh => hh (by assumption)), if_pos (len_ge.1 (by assumption))]; done) | (rw [sumP, if_neg (fun hh => hh (by assumption)), if_neg (fun hh => (by assumption : ¬ _) (len_ge.2 hh))]; done))
theorem sumofN_fn (ws : List Int) (z : Nat) (h : z < 18446744073709551616) (hw : (nodesP ws).2 = 0) : Fn Tryd.prog 25 [.lst 1 (ws.map cI), .v (.int .u64 (z : Int))] (VI (bsum ws z)) := sumof_fn ws ⟨z, h⟩ hw
theorem sizeofN_fn (z : Nat) (h : z < 18446744073709551616) : Fn Tryd.prog 19 [.v (.int .u64 (z : Int))] (VI (size64 z : Int)) := sizeof_fn ⟨z, h⟩
abbrev qbq16 (ws : List Int) (need : Int) : LS := [(7, .lst 1 (ws.map cI)), (0, .lst 1 (ws.map cI)), (1, VI need)]
abbrev qbq17 (ws : List Int) (need : Int) : LS := [(5, VI (List.length ws : Int)), (0, .lst 1 (ws.map cI)), (1, VI need)]
abbrev qbq18 (ws : List Int) (need : Int) (b : Int) (k : Nat) : LS := [(0, .lst 1 (ws.map cI)), (1, VI need), (5, VI b), (6, .v (.int .u64 (k : Int)))]
abbrev qbq19 (ws : List Int) (k : Nat) (need : Int) (b : Int) : LS := (10, .lst 1 (ws.map cI)) :: (9, .v (.int .u64 (k : Int))) :: (qbq18 ws need b k)
abbrev qbq20 (k : Nat) (ws : List Int) (need : Int) (b : Int) : LS := (17, .v (.int .u64 (k : Int))) :: (16, .lst 1 (ws.map cI)) :: (13, .v (.bool true)) :: (qbq18 ws need b k)
abbrev qbq21 (k : Nat) (need : Int) (ws : List Int) (b : Int) : LS := (22, .v (.int .u64 (k : Int))) :: (21, .v (.bool true)) :: (20, .v (.bool true)) :: (19, VI need) :: (18, VI (bsum ws k)) :: (qbq20 k ws need b)
abbrev qbq22 (k : Nat) (ws : List Int) (need : Int) (b : Int) : LS := (27, .v (.int .u64 (k : Int))) :: (26, .v (.bool true)) :: (qbq18 ws need b k)
abbrev qbq23 (k : Nat) (ws : List Int) (need : Int) : LS := [(5, VI (size64 k : Int)), (28, VI (size64 k : Int)), (27, .v (.int .u64 (k : Int))), (26, .v (.bool true)), (0, .lst 1 (ws.map cI)), (1, VI need), (6, .v (.int .u64 (k : Int)))]
abbrev qbq24 (k : Nat) (ws : List Int) (need : Int) : LS := [(14, .v (.int .u64 (k : Int))), (5, VI (size64 k : Int)), (28, VI (size64 k : Int)), (27, .v (.int .u64 (k : Int))), (26, .v (.bool true)), (0, .lst 1 (ws.map cI)), (1, VI need)]
abbrev qbq25 (k : Nat) (ws : List Int) (need : Int) : LS := (6, .v (.int .u64 ((k + 1 : Nat) : Int))) :: (15, .v (.int .u64 ((k + 1 : Nat) : Int))) :: (qbq24 k ws need)
abbrev qbq26 (k : Nat) (ws : List Int) (need : Int) (b : Int) : LS := [(14, .v (.int .u64 (k : Int))), (26, .v (.bool false)), (0, .lst 1 (ws.map cI)), (1, VI need), (5, VI b)]
abbrev qbq27 (k : Nat) (ws : List Int) (need : Int) (b : Int) : LS := (6, .v (.int .u64 ((k + 1 : Nat) : Int))) :: (15, .v (.int .u64 ((k + 1 : Nat) : Int))) :: (qbq26 k ws need b)
theorem leastof_fn (ws : List Int) (need : Int) (hw : (nodesP ws).2 = 0) : Fn Tryd.prog 15 [.lst 1 (ws.map cI), VI need] (VI (leastG ws need (allS ws))) := by
  have hnb := nodes_bd hw
  have hlen : ws.length ≤ 12 := hnb.2.2.2.1
  have hall := allS_le hlen
  have hP := allS_pow ws
  refine fn_walkW F15_ok (of_decide_eq_true (by kernel_rfl)) ?_
  refine EL.sreg ?_
  refine OW.last 1 [0, 1] (x' := ⟨[(0, .lst 1 (ws.map cI)), (1, VI need)], []⟩) (by kernel_rfl) (by kernel_rfl) ?_
  refine EL.sreg ?_
  refine OW.run 1 (x' := ⟨(qbq16 ws need), []⟩) (by kernel_rfl) ?_
  refine OW.ope (v := VI (List.length ws : Int)) (u := []) (acc := []) (x' := ⟨(8, VI (List.length ws : Int)) :: (qbq16 ws need), []⟩) (by kernel_rfl) (opE_len cI ws (.s 7) 1 (by kernel_rfl) (by kernel_rfl) (.inl rfl)) (by kernel_rfl) ?_
  refine OW.last 1 [0, 1, 5] (x' := ⟨(qbq17 ws need), []⟩) (by kernel_rfl) (by kernel_rfl) ?_
  refine EL.seq ?_
  refine EL.sreg ?_
  refine OW.last 1 [0, 1, 5, 6] (x' := ⟨(6, .v (.int .u64 0)) :: (qbq17 ws need), []⟩) (by kernel_rfl) (by kernel_rfl) ?_
  refine EL.block ?_
  refine EL.loopN (fun mM xX => ∃ (k : Nat) (b : Int), mM = allS ws - k ∧ (k ≤ allS ws ∧ b = leastG ws need k) ∧ xX = ⟨(qbq18 ws need b k), []⟩) (y := (fun (k : Nat) (b : Int) => (⟨(qbq18 ws need b k), []⟩ : L3)) 0 (List.length ws : Int)) [0, 1, 5, 6] [] [] (by kernel_rfl) trivial ⟨0, (List.length ws : Int), rfl, by exact ⟨by omega, rfl⟩, rfl⟩ ?_
  rintro _ _ ⟨k, b, rfl, hI1, rfl⟩
  obtain ⟨hk, hs⟩ := hI1
  have hb64 := size64_le k
  refine EL.seq ?_
  refine EL.sreg ?_
  refine OW.run 2 (x' := ⟨(qbq19 ws k need b), []⟩) (by kernel_rfl) ?_
  refine OW.ope (v := VI (List.length ws : Int)) (u := []) (acc := []) (x' := ⟨(11, VI (List.length ws : Int)) :: (qbq19 ws k need b), []⟩) (by kernel_rfl) (opE_len cI ws (.s 10) 1 (by kernel_rfl) (by kernel_rfl) (.inl rfl)) (by kernel_rfl) ?_
  refine OW.ope (v := .v (.int .u64 (IntKind.u64.wrap (1 * 2 ^ (min (Int.toNat (List.length ws : Int)) IntKind.u64.bits))))) (u := []) (acc := []) (x' := ⟨(12, .v (.int .u64 (IntKind.u64.wrap (1 * 2 ^ (min (Int.toNat (List.length ws : Int)) IntKind.u64.bits))))) :: (11, VI (List.length ws : Int)) :: (qbq19 ws k need b), []⟩) (by kernel_rfl) (opE_shl (.c (.v (.int .u64 1))) (.s 11) .u64 .i64 1 (List.length ws : Int) (by kernel_rfl) (by kernel_rfl) (by kernel_rfl) (by kernel_rfl) (by omega)) (by kernel_rfl) ?_
  have e2 : IntKind.u64.wrap (1 * 2 ^ (min (Int.toNat (List.length ws : Int)) IntKind.u64.bits)) = ((2 ^ (Int.toNat (List.length ws : Int)) : Nat) : Int) := shl1 (by omega)
  rw [e2]
  clear e2
  refine OW.last 1 [0, 1, 5, 6, 13] (x' := ⟨(13, .v (.bool (decide ((k : Int) < ((2 ^ (Int.toNat (List.length ws : Int)) : Nat) : Int))))) :: (qbq18 ws need b k), []⟩) (by kernel_rfl) (by kernel_rfl) ?_
  rcases Bool.eq_false_or_eq_true (decide ((k : Int) < ((2 ^ (Int.toNat (List.length ws : Int)) : Nat) : Int))) with h3 | h3
  rw [h3]
  have g3 : ((k : Int) < ((2 ^ (Int.toNat (List.length ws : Int)) : Nat) : Int)) := of_decide_eq_true h3
  refine EL.condT (by kernel_rfl) ?_
  refine EL.skip ?_
  refine thenL_norm ?_
  refine EL.seq ?_
  refine EL.block ?_
  refine EL.sreg ?_
  refine OW.run 2 (x' := ⟨(qbq20 k ws need b), []⟩) (by kernel_rfl) ?_
  refine OW.fn (ar := [.lst 1 (ws.map cI), .v (.int .u64 (k : Int))]) (x' := ⟨(18, VI (bsum ws k)) :: (qbq20 k ws need b), []⟩) (by kernel_rfl) (by kernel_rfl) F25_call (sumofN_fn ws k (by omega) hw) (by kernel_rfl) (by kernel_rfl) ?_
  refine OW.run 3 (x' := ⟨(21, .v (.bool (decide ((bsum ws k) ≥ need)))) :: (20, .v (.bool (decide ((bsum ws k) ≥ need)))) :: (19, VI need) :: (18, VI (bsum ws k)) :: (qbq20 k ws need b), []⟩) (by kernel_rfl) ?_
  rcases Bool.eq_false_or_eq_true (decide ((bsum ws k) ≥ need)) with h4 | h4
  rw [h4]
  have g4 : ((bsum ws k) ≥ need) := of_decide_eq_true h4
  refine OW.run 1 (x' := ⟨(qbq21 k need ws b), []⟩) (by kernel_rfl) ?_
  refine OW.fn (ar := [.v (.int .u64 (k : Int))]) (x' := ⟨(23, VI (size64 k : Int)) :: (qbq21 k need ws b), []⟩) (by kernel_rfl) (by kernel_rfl) F19_call (sizeofN_fn k (by omega)) (by kernel_rfl) (by kernel_rfl) ?_
  refine OW.last 3 [0, 1, 5, 6, 26] (x' := ⟨(26, .v (.bool (decide ((size64 k : Int) < b)))) :: (qbq18 ws need b k), []⟩) (by kernel_rfl) (by kernel_rfl) ?_
  rcases Bool.eq_false_or_eq_true (decide ((size64 k : Int) < b)) with h5 | h5
  rw [h5]
  have g5 : ((size64 k : Int) < b) := of_decide_eq_true h5
  refine EL.condT (by kernel_rfl) ?_
  refine EL.reg0 ?_
  refine OW.run 1 (x' := ⟨(qbq22 k ws need b), []⟩) (by kernel_rfl) ?_
  refine OW.fn (ar := [.v (.int .u64 (k : Int))]) (x' := ⟨(28, VI (size64 k : Int)) :: (qbq22 k ws need b), []⟩) (by kernel_rfl) (by kernel_rfl) F19_call (sizeofN_fn k (by omega)) (by kernel_rfl) (by kernel_rfl) ?_
  refine OW.end 1 (x' := ⟨(qbq23 k ws need), []⟩) (by kernel_rfl) (by kernel_rfl) ?_
  refine inBlk_norm ?_
  refine thenL_norm ?_
  refine EL.reg0 ?_
  refine OW.run 3 (x' := ⟨(6, .v (.int .u64 (IntKind.u64.wrap ((k : Int) + 1)))) :: (15, .v (.int .u64 (IntKind.u64.wrap ((k : Int) + 1)))) :: (qbq24 k ws need), []⟩) (by kernel_rfl) ?_
  have e6 : IntKind.u64.wrap ((k : Int) + 1) = ((k + 1 : Nat) : Int) := add1N (by omega)
  rw [e6]
  clear e6
  refine OW.end 0 (x' := ⟨(qbq25 k ws need), []⟩) (by kernel_rfl) (by kernel_rfl) ?_
  refine thenL_norm ?_
  refine round_end (live := [0, 1, 5, 6]) (src := []) (es := []) (y := (fun (k : Nat) (b : Int) => (⟨(qbq18 ws need b k), []⟩ : L3)) (k + 1) (size64 k : Int)) ?_ trivial ?_ ⟨(k + 1), (size64 k : Int), rfl, ?_, rfl⟩
  kernel_rfl
  omega
  focus ((have he := size64_eq (n := ws.length) (x := k) (by show k < allS ws; omega) (by omega); (try rw [he]); refine ⟨by omega, ?_⟩; rw [leastG]; first | (rw [if_pos ⟨by omega, by omega⟩]; done) | (rw [if_neg (by omega)]; assumption)))
  rw [h5]
  have g5 : ¬ ((size64 k : Int) < b) := of_decide_eq_false h5
  refine EL.condF (by kernel_rfl) ?_
  refine EL.skip ?_
  refine inBlk_norm ?_
  refine thenL_norm ?_
  refine EL.reg0 ?_
  refine OW.run 3 (x' := ⟨(6, .v (.int .u64 (IntKind.u64.wrap ((k : Int) + 1)))) :: (15, .v (.int .u64 (IntKind.u64.wrap ((k : Int) + 1)))) :: (qbq26 k ws need b), []⟩) (by kernel_rfl) ?_
  have e7 : IntKind.u64.wrap ((k : Int) + 1) = ((k + 1 : Nat) : Int) := add1N (by omega)
  rw [e7]
  clear e7
  refine OW.end 0 (x' := ⟨(qbq27 k ws need b), []⟩) (by kernel_rfl) (by kernel_rfl) ?_
  refine thenL_norm ?_
  refine round_end (live := [0, 1, 5, 6]) (src := []) (es := []) (y := (fun (k : Nat) (b : Int) => (⟨(qbq18 ws need b k), []⟩ : L3)) (k + 1) b) ?_ trivial ?_ ⟨(k + 1), b, rfl, ?_, rfl⟩
  kernel_rfl
  omega
  focus ((have he := size64_eq (n := ws.length) (x := k) (by show k < allS ws; omega) (by omega); (try rw [he]); refine ⟨by omega, ?_⟩; rw [leastG]; first | (rw [if_pos ⟨by omega, by omega⟩]; done) | (rw [if_neg (by omega)]; assumption)))
  rw [h4]
  have g4 : ¬ ((bsum ws k) ≥ need) := of_decide_eq_false h4
  refine OW.last 5 [0, 1, 5, 6, 26] (x' := ⟨(26, .v (.bool false)) :: (qbq18 ws need b k), []⟩) (by kernel_rfl) (by kernel_rfl) ?_
  refine EL.condF (by kernel_rfl) ?_
  refine EL.skip ?_
  refine inBlk_norm ?_
  refine thenL_norm ?_
  refine EL.reg0 ?_
  refine OW.run 3 (x' := ⟨(6, .v (.int .u64 (IntKind.u64.wrap ((k : Int) + 1)))) :: (15, .v (.int .u64 (IntKind.u64.wrap ((k : Int) + 1)))) :: (qbq26 k ws need b), []⟩) (by kernel_rfl) ?_
  have e8 : IntKind.u64.wrap ((k : Int) + 1) = ((k + 1 : Nat) : Int) := add1N (by omega)
  rw [e8]
  clear e8
  refine OW.end 0 (x' := ⟨(qbq27 k ws need b), []⟩) (by kernel_rfl) (by kernel_rfl) ?_
  refine thenL_norm ?_
  refine round_end (live := [0, 1, 5, 6]) (src := []) (es := []) (y := (fun (k : Nat) (b : Int) => (⟨(qbq18 ws need b k), []⟩ : L3)) (k + 1) b) ?_ trivial ?_ ⟨(k + 1), b, rfl, ?_, rfl⟩
  kernel_rfl
  omega
  focus ((have he := size64_eq (n := ws.length) (x := k) (by show k < allS ws; omega) (by omega); (try rw [he]); refine ⟨by omega, ?_⟩; rw [leastG]; first | (rw [if_pos ⟨by omega, by omega⟩]; done) | (rw [if_neg (by omega)]; assumption)))
  rw [h3]
  have g3 : ¬ ((k : Int) < ((2 ^ (Int.toNat (List.length ws : Int)) : Nat) : Int)) := of_decide_eq_false h3
  refine EL.condF (by kernel_rfl) ?_
  refine EL.exit ?_
  refine thenL_exit ?_
  refine thenL_exit ?_
  refine inBlk_hit ?_
  refine thenL_norm ?_
  refine EL.sreg ?_
  refine OW.last 2 [4] (x' := ⟨[(4, VI b)], []⟩) (by kernel_rfl) (by kernel_rfl) ?_
  refine EL.ret ?_
  refine ⟨.inr rfl, VI b, by kernel_rfl, Ale.of_eq ?_⟩
  focus ((refine congrArg (fun n => VI n) ?_; rw [hs, show k = allS ws by omega]))
abbrev qbq28 (ws : List Int) (need : Int) (k : Nat) (b : Int) : LS := (22, .lst 1 (ws.map cI)) :: (21, .v (.bool true)) :: (20, .v (.bool true)) :: (19, VI need) :: (18, VI (bsum ws k)) :: (qbq20 k ws need b)
abbrev qbq29 (k : Nat) (ws : List Int) (need : Int) (b : Int) : LS := (24, .v (.int .u64 (k : Int))) :: (23, VI (List.length ws : Int)) :: (qbq28 ws need k b)
abbrev qbq30 (ws : List Int) (need : Int) (b : Int) (k : Nat) : LS := (31, .lst 1 (ws.map cI)) :: (30, .v (.bool true)) :: (qbq18 ws need b k)
abbrev qbq31 (k : Nat) (ws : List Int) (need : Int) (b : Int) : LS := (33, .v (.int .u64 (k : Int))) :: (32, VI (List.length ws : Int)) :: (qbq30 ws need b k)
abbrev qbq32 (k : Nat) (ws : List Int) (need : Int) : LS := [(34, VI (size64 k : Int)), (33, .v (.int .u64 (k : Int))), (32, VI (List.length ws : Int)), (31, .lst 1 (ws.map cI)), (30, .v (.bool true)), (0, .lst 1 (ws.map cI)), (1, VI need), (6, .v (.int .u64 (k : Int)))]
abbrev qbq33 (ws : List Int) (k : Nat) (need : Int) : LS := (5, VI (((List.length ws : Int) - (size64 k : Int)) - 1)) :: (36, VI (((List.length ws : Int) - (size64 k : Int)) - 1)) :: (35, VI ((List.length ws : Int) - (size64 k : Int))) :: (qbq32 k ws need)
abbrev qbq34 (k : Nat) (ws : List Int) (need : Int) : LS := [(14, .v (.int .u64 (k : Int))), (5, VI (((List.length ws : Int) - (size64 k : Int)) - 1)), (36, VI (((List.length ws : Int) - (size64 k : Int)) - 1)), (35, VI ((List.length ws : Int) - (size64 k : Int))), (34, VI (size64 k : Int)), (33, .v (.int .u64 (k : Int))), (32, VI (List.length ws : Int)), (31, .lst 1 (ws.map cI)), (30, .v (.bool true)), (0, .lst 1 (ws.map cI)), (1, VI need)]
abbrev qbq35 (k : Nat) (ws : List Int) (need : Int) : LS := (6, .v (.int .u64 ((k + 1 : Nat) : Int))) :: (15, .v (.int .u64 ((k + 1 : Nat) : Int))) :: (qbq34 k ws need)
abbrev qbq36 (k : Nat) (ws : List Int) (need : Int) (b : Int) : LS := [(14, .v (.int .u64 (k : Int))), (30, .v (.bool false)), (0, .lst 1 (ws.map cI)), (1, VI need), (5, VI b)]
abbrev qbq37 (k : Nat) (ws : List Int) (need : Int) (b : Int) : LS := (6, .v (.int .u64 ((k + 1 : Nat) : Int))) :: (15, .v (.int .u64 ((k + 1 : Nat) : Int))) :: (qbq36 k ws need b)
theorem spareof_fn (ws : List Int) (need : Int) (hw : (nodesP ws).2 = 0) : Fn Tryd.prog 16 [.lst 1 (ws.map cI), VI need] (VI (spareG ws need (allS ws))) := by
  have hnb := nodes_bd hw
  have hlen : ws.length ≤ 12 := hnb.2.2.2.1
  have hall := allS_le hlen
  have hP := allS_pow ws
  refine fn_walkW F16_ok (of_decide_eq_true (by kernel_rfl)) ?_
  refine EL.sreg ?_
  refine OW.last 1 [0, 1] (x' := ⟨[(0, .lst 1 (ws.map cI)), (1, VI need)], []⟩) (by kernel_rfl) (by kernel_rfl) ?_
  refine EL.sreg ?_
  refine OW.run 1 (x' := ⟨(qbq16 ws need), []⟩) (by kernel_rfl) ?_
  refine OW.ope (v := VI (List.length ws : Int)) (u := []) (acc := []) (x' := ⟨(8, VI (List.length ws : Int)) :: (qbq16 ws need), []⟩) (by kernel_rfl) (opE_len cI ws (.s 7) 1 (by kernel_rfl) (by kernel_rfl) (.inl rfl)) (by kernel_rfl) ?_
  refine OW.last 1 [0, 1, 5] (x' := ⟨(qbq17 ws need), []⟩) (by kernel_rfl) (by kernel_rfl) ?_
  refine EL.seq ?_
  refine EL.sreg ?_
  refine OW.last 1 [0, 1, 5, 6] (x' := ⟨(6, .v (.int .u64 0)) :: (qbq17 ws need), []⟩) (by kernel_rfl) (by kernel_rfl) ?_
  refine EL.block ?_
  refine EL.loopN (fun mM xX => ∃ (k : Nat) (b : Int), mM = allS ws - k ∧ (k ≤ allS ws ∧ b = spareG ws need k) ∧ xX = ⟨(qbq18 ws need b k), []⟩) (y := (fun (k : Nat) (b : Int) => (⟨(qbq18 ws need b k), []⟩ : L3)) 0 (List.length ws : Int)) [0, 1, 5, 6] [] [] (by kernel_rfl) trivial ⟨0, (List.length ws : Int), rfl, by exact ⟨by omega, rfl⟩, rfl⟩ ?_
  rintro _ _ ⟨k, b, rfl, hI1, rfl⟩
  obtain ⟨hk, hs⟩ := hI1
  have hb64 := size64_le k
  refine EL.seq ?_
  refine EL.sreg ?_
  refine OW.run 2 (x' := ⟨(qbq19 ws k need b), []⟩) (by kernel_rfl) ?_
  refine OW.ope (v := VI (List.length ws : Int)) (u := []) (acc := []) (x' := ⟨(11, VI (List.length ws : Int)) :: (qbq19 ws k need b), []⟩) (by kernel_rfl) (opE_len cI ws (.s 10) 1 (by kernel_rfl) (by kernel_rfl) (.inl rfl)) (by kernel_rfl) ?_
  refine OW.ope (v := .v (.int .u64 (IntKind.u64.wrap (1 * 2 ^ (min (Int.toNat (List.length ws : Int)) IntKind.u64.bits))))) (u := []) (acc := []) (x' := ⟨(12, .v (.int .u64 (IntKind.u64.wrap (1 * 2 ^ (min (Int.toNat (List.length ws : Int)) IntKind.u64.bits))))) :: (11, VI (List.length ws : Int)) :: (qbq19 ws k need b), []⟩) (by kernel_rfl) (opE_shl (.c (.v (.int .u64 1))) (.s 11) .u64 .i64 1 (List.length ws : Int) (by kernel_rfl) (by kernel_rfl) (by kernel_rfl) (by kernel_rfl) (by omega)) (by kernel_rfl) ?_
  have e2 : IntKind.u64.wrap (1 * 2 ^ (min (Int.toNat (List.length ws : Int)) IntKind.u64.bits)) = ((2 ^ (Int.toNat (List.length ws : Int)) : Nat) : Int) := shl1 (by omega)
  rw [e2]
  clear e2
  refine OW.last 1 [0, 1, 5, 6, 13] (x' := ⟨(13, .v (.bool (decide ((k : Int) < ((2 ^ (Int.toNat (List.length ws : Int)) : Nat) : Int))))) :: (qbq18 ws need b k), []⟩) (by kernel_rfl) (by kernel_rfl) ?_
  rcases Bool.eq_false_or_eq_true (decide ((k : Int) < ((2 ^ (Int.toNat (List.length ws : Int)) : Nat) : Int))) with h3 | h3
  rw [h3]
  have g3 : ((k : Int) < ((2 ^ (Int.toNat (List.length ws : Int)) : Nat) : Int)) := of_decide_eq_true h3
  refine EL.condT (by kernel_rfl) ?_
  refine EL.skip ?_
  refine thenL_norm ?_
  refine EL.seq ?_
  refine EL.block ?_
  refine EL.sreg ?_
  refine OW.run 2 (x' := ⟨(qbq20 k ws need b), []⟩) (by kernel_rfl) ?_
  refine OW.fn (ar := [.lst 1 (ws.map cI), .v (.int .u64 (k : Int))]) (x' := ⟨(18, VI (bsum ws k)) :: (qbq20 k ws need b), []⟩) (by kernel_rfl) (by kernel_rfl) F25_call (sumofN_fn ws k (by omega) hw) (by kernel_rfl) (by kernel_rfl) ?_
  refine OW.run 3 (x' := ⟨(21, .v (.bool (decide ((bsum ws k) < need)))) :: (20, .v (.bool (decide ((bsum ws k) < need)))) :: (19, VI need) :: (18, VI (bsum ws k)) :: (qbq20 k ws need b), []⟩) (by kernel_rfl) ?_
  rcases Bool.eq_false_or_eq_true (decide ((bsum ws k) < need)) with h4 | h4
  rw [h4]
  have g4 : ((bsum ws k) < need) := of_decide_eq_true h4
  refine OW.run 1 (x' := ⟨(qbq28 ws need k b), []⟩) (by kernel_rfl) ?_
  refine OW.ope (v := VI (List.length ws : Int)) (u := []) (acc := []) (x' := ⟨(23, VI (List.length ws : Int)) :: (qbq28 ws need k b), []⟩) (by kernel_rfl) (opE_len cI ws (.s 22) 1 (by kernel_rfl) (by kernel_rfl) (.inl rfl)) (by kernel_rfl) ?_
  refine OW.run 1 (x' := ⟨(qbq29 k ws need b), []⟩) (by kernel_rfl) ?_
  refine OW.fn (ar := [.v (.int .u64 (k : Int))]) (x' := ⟨(25, VI (size64 k : Int)) :: (qbq29 k ws need b), []⟩) (by kernel_rfl) (by kernel_rfl) F19_call (sizeofN_fn k (by omega)) (by kernel_rfl) (by kernel_rfl) ?_
  refine OW.run 5 (x' := ⟨(30, .v (.bool (decide ((IntKind.i64.wrap ((IntKind.i64.wrap ((List.length ws : Int) - (size64 k : Int))) - 1)) < b)))) :: (29, .v (.bool (decide ((IntKind.i64.wrap ((IntKind.i64.wrap ((List.length ws : Int) - (size64 k : Int))) - 1)) < b)))) :: (28, VI b) :: (27, VI (IntKind.i64.wrap ((IntKind.i64.wrap ((List.length ws : Int) - (size64 k : Int))) - 1))) :: (26, VI (IntKind.i64.wrap ((List.length ws : Int) - (size64 k : Int)))) :: (25, VI (size64 k : Int)) :: (qbq29 k ws need b), []⟩) (by kernel_rfl) ?_
  have e5 : IntKind.i64.wrap ((List.length ws : Int) - (size64 k : Int)) = (List.length ws : Int) - (size64 k : Int) := wr64 (by omega)
  rw [e5]
  clear e5
  have e6 : IntKind.i64.wrap (((List.length ws : Int) - (size64 k : Int)) - 1) = ((List.length ws : Int) - (size64 k : Int)) - 1 := wr64 (by omega)
  rw [e6]
  clear e6
  refine OW.last 0 [0, 1, 5, 6, 30] (x' := ⟨(30, .v (.bool (decide ((((List.length ws : Int) - (size64 k : Int)) - 1) < b)))) :: (qbq18 ws need b k), []⟩) (by kernel_rfl) (by kernel_rfl) ?_
  rcases Bool.eq_false_or_eq_true (decide ((((List.length ws : Int) - (size64 k : Int)) - 1) < b)) with h7 | h7
  rw [h7]
  have g7 : ((((List.length ws : Int) - (size64 k : Int)) - 1) < b) := of_decide_eq_true h7
  refine EL.condT (by kernel_rfl) ?_
  refine EL.reg0 ?_
  refine OW.run 1 (x' := ⟨(qbq30 ws need b k), []⟩) (by kernel_rfl) ?_
  refine OW.ope (v := VI (List.length ws : Int)) (u := []) (acc := []) (x' := ⟨(32, VI (List.length ws : Int)) :: (qbq30 ws need b k), []⟩) (by kernel_rfl) (opE_len cI ws (.s 31) 1 (by kernel_rfl) (by kernel_rfl) (.inl rfl)) (by kernel_rfl) ?_
  refine OW.run 1 (x' := ⟨(qbq31 k ws need b), []⟩) (by kernel_rfl) ?_
  refine OW.fn (ar := [.v (.int .u64 (k : Int))]) (x' := ⟨(34, VI (size64 k : Int)) :: (qbq31 k ws need b), []⟩) (by kernel_rfl) (by kernel_rfl) F19_call (sizeofN_fn k (by omega)) (by kernel_rfl) (by kernel_rfl) ?_
  refine OW.run 3 (x' := ⟨(5, VI (IntKind.i64.wrap ((IntKind.i64.wrap ((List.length ws : Int) - (size64 k : Int))) - 1))) :: (36, VI (IntKind.i64.wrap ((IntKind.i64.wrap ((List.length ws : Int) - (size64 k : Int))) - 1))) :: (35, VI (IntKind.i64.wrap ((List.length ws : Int) - (size64 k : Int)))) :: (qbq32 k ws need), []⟩) (by kernel_rfl) ?_
  have e8 : IntKind.i64.wrap ((List.length ws : Int) - (size64 k : Int)) = (List.length ws : Int) - (size64 k : Int) := wr64 (by omega)
  rw [e8]
  clear e8
  have e9 : IntKind.i64.wrap (((List.length ws : Int) - (size64 k : Int)) - 1) = ((List.length ws : Int) - (size64 k : Int)) - 1 := wr64 (by omega)
  rw [e9]
  clear e9
  refine OW.end 0 (x' := ⟨(qbq33 ws k need), []⟩) (by kernel_rfl) (by kernel_rfl) ?_
  refine inBlk_norm ?_
  refine thenL_norm ?_
  refine EL.reg0 ?_
  refine OW.run 3 (x' := ⟨(6, .v (.int .u64 (IntKind.u64.wrap ((k : Int) + 1)))) :: (15, .v (.int .u64 (IntKind.u64.wrap ((k : Int) + 1)))) :: (qbq34 k ws need), []⟩) (by kernel_rfl) ?_
  have e10 : IntKind.u64.wrap ((k : Int) + 1) = ((k + 1 : Nat) : Int) := add1N (by omega)
  rw [e10]
  clear e10
  refine OW.end 0 (x' := ⟨(qbq35 k ws need), []⟩) (by kernel_rfl) (by kernel_rfl) ?_
  refine thenL_norm ?_
  refine round_end (live := [0, 1, 5, 6]) (src := []) (es := []) (y := (fun (k : Nat) (b : Int) => (⟨(qbq18 ws need b k), []⟩ : L3)) (k + 1) (((List.length ws : Int) - (size64 k : Int)) - 1)) ?_ trivial ?_ ⟨(k + 1), (((List.length ws : Int) - (size64 k : Int)) - 1), rfl, ?_, rfl⟩
  kernel_rfl
  omega
  focus ((have he := size64_eq (n := ws.length) (x := k) (by show k < allS ws; omega) (by omega); (try rw [he]); refine ⟨by omega, ?_⟩; rw [spareG]; first | (rw [if_pos ⟨by omega, by omega⟩]; done) | (rw [if_neg (by omega)]; assumption)))
  rw [h7]
  have g7 : ¬ ((((List.length ws : Int) - (size64 k : Int)) - 1) < b) := of_decide_eq_false h7
  refine EL.condF (by kernel_rfl) ?_
  refine EL.skip ?_
  refine inBlk_norm ?_
  refine thenL_norm ?_
  refine EL.reg0 ?_
  refine OW.run 3 (x' := ⟨(6, .v (.int .u64 (IntKind.u64.wrap ((k : Int) + 1)))) :: (15, .v (.int .u64 (IntKind.u64.wrap ((k : Int) + 1)))) :: (qbq36 k ws need b), []⟩) (by kernel_rfl) ?_
  have e11 : IntKind.u64.wrap ((k : Int) + 1) = ((k + 1 : Nat) : Int) := add1N (by omega)
  rw [e11]
  clear e11
  refine OW.end 0 (x' := ⟨(qbq37 k ws need b), []⟩) (by kernel_rfl) (by kernel_rfl) ?_
  refine thenL_norm ?_
  refine round_end (live := [0, 1, 5, 6]) (src := []) (es := []) (y := (fun (k : Nat) (b : Int) => (⟨(qbq18 ws need b k), []⟩ : L3)) (k + 1) b) ?_ trivial ?_ ⟨(k + 1), b, rfl, ?_, rfl⟩
  kernel_rfl
  omega
  focus ((have he := size64_eq (n := ws.length) (x := k) (by show k < allS ws; omega) (by omega); (try rw [he]); refine ⟨by omega, ?_⟩; rw [spareG]; first | (rw [if_pos ⟨by omega, by omega⟩]; done) | (rw [if_neg (by omega)]; assumption)))
  rw [h4]
  have g4 : ¬ ((bsum ws k) < need) := of_decide_eq_false h4
  refine OW.last 9 [0, 1, 5, 6, 30] (x' := ⟨(30, .v (.bool false)) :: (qbq18 ws need b k), []⟩) (by kernel_rfl) (by kernel_rfl) ?_
  refine EL.condF (by kernel_rfl) ?_
  refine EL.skip ?_
  refine inBlk_norm ?_
  refine thenL_norm ?_
  refine EL.reg0 ?_
  refine OW.run 3 (x' := ⟨(6, .v (.int .u64 (IntKind.u64.wrap ((k : Int) + 1)))) :: (15, .v (.int .u64 (IntKind.u64.wrap ((k : Int) + 1)))) :: (qbq36 k ws need b), []⟩) (by kernel_rfl) ?_
  have e12 : IntKind.u64.wrap ((k : Int) + 1) = ((k + 1 : Nat) : Int) := add1N (by omega)
  rw [e12]
  clear e12
  refine OW.end 0 (x' := ⟨(qbq37 k ws need b), []⟩) (by kernel_rfl) (by kernel_rfl) ?_
  refine thenL_norm ?_
  refine round_end (live := [0, 1, 5, 6]) (src := []) (es := []) (y := (fun (k : Nat) (b : Int) => (⟨(qbq18 ws need b k), []⟩ : L3)) (k + 1) b) ?_ trivial ?_ ⟨(k + 1), b, rfl, ?_, rfl⟩
  kernel_rfl
  omega
  focus ((have he := size64_eq (n := ws.length) (x := k) (by show k < allS ws; omega) (by omega); (try rw [he]); refine ⟨by omega, ?_⟩; rw [spareG]; first | (rw [if_pos ⟨by omega, by omega⟩]; done) | (rw [if_neg (by omega)]; assumption)))
  rw [h3]
  have g3 : ¬ ((k : Int) < ((2 ^ (Int.toNat (List.length ws : Int)) : Nat) : Int)) := of_decide_eq_false h3
  refine EL.condF (by kernel_rfl) ?_
  refine EL.exit ?_
  refine thenL_exit ?_
  refine thenL_exit ?_
  refine inBlk_hit ?_
  refine thenL_norm ?_
  refine EL.sreg ?_
  refine OW.last 2 [4] (x' := ⟨[(4, VI b)], []⟩) (by kernel_rfl) (by kernel_rfl) ?_
  refine EL.ret ?_
  refine ⟨.inr rfl, VI b, by kernel_rfl, Ale.of_eq ?_⟩
  focus ((refine congrArg (fun n => VI n) ?_; rw [hs, show k = allS ws by omega]))
end Go.Proofs.YtfgjfghljhldfaaDoor
