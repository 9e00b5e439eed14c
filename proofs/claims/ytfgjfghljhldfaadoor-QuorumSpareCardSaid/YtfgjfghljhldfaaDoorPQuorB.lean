/- What the references of package quorum answer; what must be in any case. No condition. -/
import Derived.Test.YtfgjfghljhldfaaDoorPQuorA
set_option maxRecDepth 100000
set_option maxHeartbeats 4000000
set_option linter.unusedVariables false
set_option linter.unusedSimpArgs false
namespace Go.Proofs.YtfgjfghljhldfaaDoor
theorem bsize_step {n x k : Nat} : bsize (n + 1) (shN x k) = (if inS x k = true then 1 else 0) + bsize n (shN x (k + 1)) := by
  unfold shN inS
  rw [bsize, Nat.pow_succ, Nat.div_div_eq_div_mul]
  have : x / 2 ^ k % 2 = 0 ∨ x / 2 ^ k % 2 = 1 := by omega
  rcases this with h | h <;> simp [h]
theorem bsize_0 {x : Nat} : bsize 0 x = 0 := rfl
theorem bsize_ext : ∀ (n m x : Nat), x < 2 ^ n → n ≤ m → bsize m x = bsize n x
  | 0, m, x, h, _ => by
    have hx : x = 0 := by simpa using h
    subst hx
    have : ∀ m, bsize m 0 = 0 := by
      intro m; induction m with
      | zero => rfl
      | succ m ih => simp [bsize, ih]
    exact this m
  | n + 1, 0, x, h, h2 => by omega
  | n + 1, m + 1, x, h, h2 => by
    rw [Nat.pow_succ] at h
    unfold bsize; rw [bsize_ext n m (x / 2) (by omega) (by omega)]
/-- How many nodes a set has, of 64. -/
@[irreducible] def size64 (x : Nat) : Nat := bsize 64 x
theorem size64_0 {x : Nat} : 0 + bsize (64 - 0) (shN x 0) = size64 x := by unfold size64; rw [shN_0]; simp
theorem size64_le (x : Nat) : size64 x ≤ 64 := by unfold size64; exact bsize_le 64 x
theorem size64_eq {n x : Nat} (h : x < 2 ^ n) (hn : n ≤ 64) : size64 x = bsize n x := by unfold size64; exact bsize_ext n 64 x h hn
theorem pow_lt64 {k : Nat} (h : k < 64) : 2 ^ k < 18446744073709551616 := by
  have := Nat.pow_lt_pow_right (a := 2) (by decide) h; simpa using this
theorem shl1 {d : Int} (h : 0 ≤ d ∧ d < 64) : IntKind.u64.wrap (1 * 2 ^ (min (Int.toNat d) IntKind.u64.bits)) = ((2 ^ (Int.toNat d) : Nat) : Int) := by
  have e : min (Int.toNat d) IntKind.u64.bits = Int.toNat d := by
    have : IntKind.u64.bits = 64 := rfl
    omega
  have hp := pow_lt64 (k := Int.toNat d) (by omega)
  rw [e, Int.one_mul, show ((2 : Int) ^ (Int.toNat d)) = ((2 ^ (Int.toNat d) : Nat) : Int) by push_cast; rfl, IntKind.wrap_u64]
  generalize (2 : Nat) ^ (Int.toNat d) = p at *
  omega
abbrev qbq0 (u : U64) : LS := [(4, VI 0), (3, VI 0), (0, .v (.int .u64 (u.n : Int)))]
abbrev qbq1 (u : U64) (n : Nat) (k : Nat) : LS := [(0, .v (.int .u64 (u.n : Int))), (3, VI (n : Int)), (4, VI (k : Int))]
abbrev qbq2 (k : Nat) (u : U64) (n : Nat) : LS := (10, VI (k : Int)) :: (9, .v (.int .u64 (u.n : Int))) :: (6, .v (.bool true)) :: (qbq1 u n k)
abbrev qbq3 (n : Nat) (u : U64) (k : Nat) : LS := [(12, VI (n : Int)), (11, .v (.bool true)), (0, .v (.int .u64 (u.n : Int))), (4, VI (k : Int))]
abbrev qbq4 (n : Nat) (u : U64) (k : Nat) : LS := (3, VI ((n : Int) + 1)) :: (13, VI ((n : Int) + 1)) :: (qbq3 n u k)
abbrev qbq5 (k : Nat) (n : Nat) (u : U64) : LS := [(7, VI (k : Int)), (3, VI ((n : Int) + 1)), (13, VI ((n : Int) + 1)), (12, VI (n : Int)), (11, .v (.bool true)), (0, .v (.int .u64 (u.n : Int)))]
abbrev qbq6 (k : Nat) (n : Nat) (u : U64) : LS := (4, VI ((k : Int) + 1)) :: (8, VI ((k : Int) + 1)) :: (qbq5 k n u)
abbrev qbq7 (k : Nat) (u : U64) (n : Nat) : LS := [(7, VI (k : Int)), (11, .v (.bool false)), (0, .v (.int .u64 (u.n : Int))), (3, VI (n : Int))]
abbrev qbq8 (k : Nat) (u : U64) (n : Nat) : LS := (4, VI ((k : Int) + 1)) :: (8, VI ((k : Int) + 1)) :: (qbq7 k u n)
theorem sizeof_fn (u : U64) : Fn Tryd.prog 19 [.v (.int .u64 (u.n : Int))] (VI (size64 u.n : Int)) := by
  refine fn_walkW F19_ok (of_decide_eq_true (by kernel_rfl)) ?_
  refine EL.sreg ?_
  refine OW.last 1 [0] (x' := ⟨[(0, .v (.int .u64 (u.n : Int)))], []⟩) (by kernel_rfl) (by kernel_rfl) ?_
  refine EL.sreg ?_
  refine OW.last 1 [0, 3] (x' := ⟨[(3, VI 0), (0, .v (.int .u64 (u.n : Int)))], []⟩) (by kernel_rfl) (by kernel_rfl) ?_
  refine EL.seq ?_
  refine EL.sreg ?_
  refine OW.last 1 [0, 3, 4] (x' := ⟨(qbq0 u), []⟩) (by kernel_rfl) (by kernel_rfl) ?_
  refine EL.block ?_
  refine EL.loopN (fun mM xX => ∃ (k : Nat) (n : Nat), mM = 64 - k ∧ (k ≤ 64 ∧ n + bsize (64 - k) (shN u.n k) = size64 u.n ∧ n ≤ 64) ∧ xX = ⟨(qbq1 u n k), []⟩) (y := (fun (k : Nat) (n : Nat) => (⟨(qbq1 u n k), []⟩ : L3)) 0 0) [0, 3, 4] [] [] (by kernel_rfl) trivial ⟨0, 0, rfl, by exact ⟨by omega, size64_0, by omega⟩, rfl⟩ ?_
  rintro _ _ ⟨k, n, rfl, hI1, rfl⟩
  obtain ⟨hk, hs, hn⟩ := hI1
  have hb64 := size64_le u.n
  refine EL.seq ?_
  refine EL.sreg ?_
  refine OW.last 2 [0, 3, 4, 6] (x' := ⟨(6, .v (.bool (decide ((k : Int) < 64)))) :: (qbq1 u n k), []⟩) (by kernel_rfl) (by kernel_rfl) ?_
  rcases Bool.eq_false_or_eq_true (decide ((k : Int) < 64)) with h2 | h2
  rw [h2]
  have g2 : ((k : Int) < 64) := of_decide_eq_true h2
  have n2 : ((k) < 64) := by omega
  refine EL.condT (by kernel_rfl) ?_
  refine EL.skip ?_
  refine thenL_norm ?_
  refine EL.seq ?_
  refine EL.block ?_
  refine EL.sreg ?_
  refine OW.run 2 (x' := ⟨(qbq2 k u n), []⟩) (by kernel_rfl) ?_
  refine OW.fn (ar := [.v (.int .u64 (u.n : Int)), VI (k : Int)]) (x' := ⟨(11, .v (.bool (inS u.n (Int.toNat (k : Int))))) :: (qbq2 k u n), []⟩) (by kernel_rfl) (by kernel_rfl) F26_call (inset_fn u (k : Int) (by omega)) (by kernel_rfl) (by kernel_rfl) ?_
  refine OW.last 0 [0, 3, 4, 11] (x' := ⟨(11, .v (.bool (inS u.n (Int.toNat (k : Int))))) :: (qbq1 u n k), []⟩) (by kernel_rfl) (by kernel_rfl) ?_
  rcases Bool.eq_false_or_eq_true (inS u.n (Int.toNat (k : Int))) with h3 | h3
  rw [h3]
  refine EL.condT (by kernel_rfl) ?_
  refine EL.reg0 ?_
  refine OW.run 3 (x' := ⟨(3, VI (IntKind.i64.wrap ((n : Int) + 1))) :: (13, VI (IntKind.i64.wrap ((n : Int) + 1))) :: (qbq3 n u k), []⟩) (by kernel_rfl) ?_
  have e4 : IntKind.i64.wrap ((n : Int) + 1) = (n : Int) + 1 := wr64 (by omega)
  rw [e4]
  refine OW.end 0 (x' := ⟨(qbq4 n u k), []⟩) (by kernel_rfl) (by kernel_rfl) ?_
  refine inBlk_norm ?_
  refine thenL_norm ?_
  refine EL.reg0 ?_
  refine OW.run 3 (x' := ⟨(4, VI (IntKind.i64.wrap ((k : Int) + 1))) :: (8, VI (IntKind.i64.wrap ((k : Int) + 1))) :: (qbq5 k n u), []⟩) (by kernel_rfl) ?_
  have e5 : IntKind.i64.wrap ((k : Int) + 1) = (k : Int) + 1 := wr64 (by omega)
  rw [e5]
  refine OW.end 0 (x' := ⟨(qbq6 k n u), []⟩) (by kernel_rfl) (by kernel_rfl) ?_
  refine thenL_norm ?_
  refine round_end (live := [0, 3, 4]) (src := []) (es := []) (y := (fun (k : Nat) (n : Nat) => (⟨(qbq1 u n k), []⟩ : L3)) (k + 1) (n + 1)) ?_ trivial ?_ ⟨(k + 1), (n + 1), rfl, ?_, rfl⟩
  kernel_rfl
  omega
  focus ((have hq := bsize_step (n := 63 - k) (x := u.n) (k := k); rw [show 63 - k + 1 = 64 - k by omega] at hq; rw [show 64 - (k + 1) = 63 - k by omega]; first | (rw [if_pos (by assumption)] at hq; refine ⟨by omega, by omega, by omega⟩) | (rw [if_neg (by simp_all)] at hq; refine ⟨by omega, by omega, by omega⟩)))
  rw [h3]
  refine EL.condF (by kernel_rfl) ?_
  refine EL.skip ?_
  refine inBlk_norm ?_
  refine thenL_norm ?_
  refine EL.reg0 ?_
  refine OW.run 3 (x' := ⟨(4, VI (IntKind.i64.wrap ((k : Int) + 1))) :: (8, VI (IntKind.i64.wrap ((k : Int) + 1))) :: (qbq7 k u n), []⟩) (by kernel_rfl) ?_
  have e6 : IntKind.i64.wrap ((k : Int) + 1) = (k : Int) + 1 := wr64 (by omega)
  rw [e6]
  refine OW.end 0 (x' := ⟨(qbq8 k u n), []⟩) (by kernel_rfl) (by kernel_rfl) ?_
  refine thenL_norm ?_
  refine round_end (live := [0, 3, 4]) (src := []) (es := []) (y := (fun (k : Nat) (n : Nat) => (⟨(qbq1 u n k), []⟩ : L3)) (k + 1) n) ?_ trivial ?_ ⟨(k + 1), n, rfl, ?_, rfl⟩
  kernel_rfl
  omega
  focus ((have hq := bsize_step (n := 63 - k) (x := u.n) (k := k); rw [show 63 - k + 1 = 64 - k by omega] at hq; rw [show 64 - (k + 1) = 63 - k by omega]; first | (rw [if_pos (by assumption)] at hq; refine ⟨by omega, by omega, by omega⟩) | (rw [if_neg (by simp_all)] at hq; refine ⟨by omega, by omega, by omega⟩)))
  rw [h2]
  have g2 : ¬ ((k : Int) < 64) := of_decide_eq_false h2
  have n2 : ¬ ((k) < 64) := by omega
  refine EL.condF (by kernel_rfl) ?_
  refine EL.exit ?_
  refine thenL_exit ?_
  refine thenL_exit ?_
  refine inBlk_hit ?_
  refine thenL_norm ?_
  refine EL.sreg ?_
  refine OW.last 2 [2] (x' := ⟨[(2, VI (n : Int))], []⟩) (by kernel_rfl) (by kernel_rfl) ?_
  refine EL.ret ?_
  refine ⟨.inr rfl, VI (n : Int), by kernel_rfl, Ale.of_eq ?_⟩
  focus ((refine congrArg (fun n => VI n) ?_; rw [show k = 64 by omega] at hs; rw [Nat.sub_self, bsize_0] at hs; omega))
end Go.Proofs.YtfgjfghljhldfaaDoor
