/- Plain laws of sums of sets; what must be in any case. No condition. -/
import Derived.Test.YtfgjfghljhldfaaDoorPQuorB
set_option maxRecDepth 100000
set_option maxHeartbeats 4000000
set_option linter.unusedVariables false
set_option linter.unusedSimpArgs false
namespace Go.Proofs.YtfgjfghljhldfaaDoor
def uAnd (a b : U64) : U64 := ⟨(a.n &&& b.n) % 18446744073709551616, Nat.mod_lt _ (by decide)⟩
def uDiff (a b : U64) : U64 := ⟨(a.n - (a.n &&& b.n)) % 18446744073709551616, Nat.mod_lt _ (by decide)⟩
def uMsk (k : Nat) : U64 := ⟨(2 ^ k - 1) % 18446744073709551616, Nat.mod_lt _ (by decide)⟩
theorem uAnd_n {a b : U64} : (uAnd a b).n = a.n &&& b.n := Nat.mod_eq_of_lt (Nat.lt_of_le_of_lt Nat.and_le_left a.lt)
theorem uAnd_bits {a b : U64} (_ : (0 : Int) ≤ 0) : bits .and .u64 (a.n : Int) (b.n : Int) = ((uAnd a b).n : Int) := by rw [bits_and_u64_nat a.n b.n a.lt b.lt, uAnd_n]
theorem uMsk_n {k : Nat} (h : k < 64) : (uMsk k).n = 2 ^ k - 1 := by
  have := pow_lt64 h
  exact Nat.mod_eq_of_lt (by omega)
theorem uMsk_sub {k : Nat} (h : k < 64) : IntKind.u64.wrap (((2 ^ k : Nat) : Int) - 1) = ((uMsk k).n : Int) := by
  have := pow_lt64 h
  have hp := Nat.two_pow_pos k
  rw [uMsk_n h, IntKind.wrap_u64]
  generalize (2 : Nat) ^ k = p at *
  omega
theorem qc_nn {ws : List Int} {need : Int} (h : qcheckP ws need = 0) : ∀ w, w ∈ ws → 0 ≤ w := fun w hw => ((nodes_bd (qc_nodes h)).2.2.2.2 w hw).1
/-- What Enough says, where it says something. -/
theorem enough_ok {ws : List Int} {need : Int} {x : Nat} (h : (enoughP ws need x).2 = 0) : qcheckP ws need = 0 ∧ x < 2 ^ ws.length ∧ sumP ws x = (bsum ws x, 0) ∧ ((enoughP ws need x).1 = true ↔ need ≤ bsum ws x) := by
  by_cases hq : qcheckP ws need = 0
  · unfold enoughP at h ⊢
    rw [if_neg (fun hh => hh hq)] at h ⊢
    have hx : x < 2 ^ ws.length := by
      by_cases hx : x < 2 ^ ws.length
      · exact hx
      · unfold sumP at h; rw [if_neg (fun hh => hh (qc_nodes hq)), if_pos (by omega)] at h; simp at h
    have hs := sumP_0 (qc_nodes hq) hx
    refine ⟨hq, hx, hs, ?_⟩
    rw [hs]; simp
  · unfold enoughP at h; rw [if_pos hq] at h; exact absurd h hq
theorem enough_of {ws : List Int} {need : Int} {x : Nat} (hq : qcheckP ws need = 0) (hx : x < 2 ^ ws.length) : (enoughP ws need x).2 = 0 ∧ sumP ws x = (bsum ws x, 0) ∧ ((enoughP ws need x).1 = true ↔ need ≤ bsum ws x) := by
  have hs := sumP_0 (qc_nodes hq) hx
  have h : (enoughP ws need x).2 = 0 := by unfold enoughP; rw [if_neg (fun hh => hh hq), hs]
  exact ⟨h, hs, (enough_ok h).2.2.2⟩
/-- The first ones that are not enough leave enough. -/
theorem least_spare {ws : List Int} {need : Int} (h0 : ∀ w, w ∈ ws → 0 ≤ w) (hn : 1 ≤ need ∧ need ≤ lsum ws) : heavyP ws (lsum ws - need + 1) + heavyP ws need ≤ ws.length + 1 ∧ 1 ≤ heavyP ws need ∧ 1 ≤ heavyP ws (lsum ws - need + 1) := by
  have hpos : ∀ n : Int, 1 ≤ n → n ≤ lsum ws → 1 ≤ heavyP ws n := by
    intro n h1 h2
    obtain ⟨x, _, h3, h4⟩ := heavy_has h2
    by_cases hz : heavyP ws n = 0
    · exfalso
      have hs := hvG_sum (srtD ws) n (by rw [lsum_perm (srtD_perm ws)]; exact h2)
      unfold heavyP at hz; rw [hz] at hs; simp [lsum] at hs; omega
    · omega
  have p1 := hpos need hn.1 hn.2
  have p2 := hpos (lsum ws - need + 1) (by omega) (by omega)
  refine ⟨?_, p1, p2⟩
  have ht := hvG_less (srtD ws) need (heavyP ws need - 1) (by unfold heavyP at p1 ⊢; omega)
  have hsum : lsum ((srtD ws).take (heavyP ws need - 1)) + lsum ((srtD ws).drop (heavyP ws need - 1)) = lsum ws := by
    rw [← lsum_append, List.take_append_drop, lsum_perm (srtD_perm ws)]
  obtain ⟨l, h1, h2⟩ := List.exists_perm_sublist (List.drop_sublist (heavyP ws need - 1) (srtD ws)) (srtD_perm ws)
  obtain ⟨x, h3, h4⟩ := sel_of_sub h2
  have h5 := heavy_min (ws := ws) (need := lsum ws - need + 1) (x := x) h0 (by rw [← sel_sum, h4, lsum_perm h1]; omega)
  have h6 : bsize ws.length x = ws.length - (heavyP ws need - 1) := by rw [← sel_len, h4, h1.length_eq, List.length_drop, srtD_len]
  have h7 := hvG_le (srtD ws) need
  rw [srtD_len] at h7
  have h8 : heavyP ws need = hvG (srtD ws) need := rfl
  omega
theorem uDiff_n {a b : U64} : (uDiff a b).n = a.n - (a.n &&& b.n) := Nat.mod_eq_of_lt (by have := a.lt; omega)
theorem and_compl : ∀ (v a b : Nat), a < 2 ^ v → b < 2 ^ v → (a &&& (2 ^ v - 1 - b)) + (a &&& b) = a
  | 0, a, b, h, _ => by have : a = 0 := by simpa using h
                        subst this; simp
  | v + 1, a, b, h, h2 => by
    have hp : 2 ^ (v + 1) = 2 * 2 ^ v := by rw [Nat.pow_succ]; omega
    have ih := and_compl v (a / 2) (b / 2) (by omega) (by omega)
    have e1 : a = 2 * (a / 2) + a % 2 := by omega
    have e2 : 2 ^ (v + 1) - 1 - b = 2 * (2 ^ v - 1 - b / 2) + (1 - b % 2) := by omega
    have e3 : b = 2 * (b / 2) + b % 2 := by omega
    have k1 : a &&& (2 ^ (v + 1) - 1 - b) = 2 * (a / 2 &&& (2 ^ v - 1 - b / 2)) + (a % 2 &&& (1 - b % 2)) := by
      rw [e2]; conv => lhs; lhs; rw [e1]
      exact land_two _ _ _ _ (by omega) (by omega)
    have k2 : a &&& b = 2 * (a / 2 &&& b / 2) + (a % 2 &&& b % 2) := by
      conv => lhs; rw [e1, e3]
      exact land_two _ _ _ _ (by omega) (by omega)
    rw [k1, k2]
    have h1 : a % 2 = 0 ∨ a % 2 = 1 := by omega
    have h2 : b % 2 = 0 ∨ b % 2 = 1 := by omega
    rcases h1 with h1 | h1 <;> rcases h2 with h2 | h2 <;> rw [h1, h2] <;> simp <;> omega
theorem uDiff_bits {a b : U64} (_ : (0 : Int) ≤ 0) : bits .andNot .u64 (a.n : Int) (b.n : Int) = ((uDiff a b).n : Int) := by
  have h1 : (BitVec.ofInt 64 (a.n : Int)).toNat = a.n := by
    rw [BitVec.ofInt_natCast, BitVec.toNat_ofNat]; exact Nat.mod_eq_of_lt (by have := a.lt; omega)
  have h2 : (BitVec.ofInt 64 (b.n : Int)).toNat = b.n := by
    rw [BitVec.ofInt_natCast, BitVec.toNat_ofNat]; exact Nat.mod_eq_of_lt (by have := b.lt; omega)
  show IntKind.u64.wrap ((BitVec.ofInt 64 (a.n : Int) &&& ~~~(BitVec.ofInt 64 (b.n : Int))).toNat : Int) = _
  rw [BitVec.toNat_and, BitVec.toNat_not, h1, h2, IntKind.wrap_u64, uDiff_n]
  have := and_compl 64 a.n b.n (by simpa using a.lt) (by simpa using b.lt)
  have := a.lt
  generalize a.n &&& (2 ^ 64 - 1 - b.n) = p at *
  generalize a.n &&& b.n = q at *
  omega
theorem and_msk {x k : Nat} : x &&& (2 ^ k - 1) = x % 2 ^ k := Nat.and_two_pow_sub_one_eq_mod x k
/-- The nodes that are not away. -/
theorem others_n {L : Nat} {x : U64} (hL : L < 64) (hx : x.n < 2 ^ L) : (uDiff (uMsk L) x).n = 2 ^ L - 1 - x.n := by
  rw [uDiff_n, uMsk_n hL, Nat.and_comm, and_msk, Nat.mod_eq_of_lt hx]
theorem away_n {L : Nat} {x : U64} (hL : L < 64) : (uAnd x (uMsk L)).n = x.n % 2 ^ L := by
  rw [uAnd_n, uMsk_n hL, and_msk]
theorem qc_of_spare {ws : List Int} {need : Int} (h : (spareP ws need).2 = 0) : qcheckP ws need = 0 := by
  unfold spareP at h
  by_cases hq : qcheckP ws need = 0
  · exact hq
  · rw [if_pos hq] at h; exact absurd h hq
theorem spare_err {ws : List Int} {need : Int} (h : ¬ (spareP ws need).2 = 0 ∨ ¬ (leastP ws need).2 = 0) : (spareP ws need).1 = 0 ∧ (leastP ws need).1 = 0 := by
  unfold spareP leastP at *
  by_cases hq : qcheckP ws need = 0
  · rw [if_neg (fun hh => hh hq), if_neg (fun hh => hh hq)] at h; simp at h
  · rw [if_pos hq, if_pos hq]; exact ⟨rfl, rfl⟩
theorem spare_law {ws : List Int} {need : Int} {away : U64} (h : (spareP ws need).2 = 0) :
    (enoughP ws need (uDiff (uMsk (Int.toNat (ws.length : Int))) (uAnd away (uMsk (Int.toNat (ws.length : Int))))).n).2 = 0 ∧ (enoughP ws need (uAnd away (uMsk (Int.toNat (ws.length : Int)))).n).2 = 0 ∧
    (¬ (size64 (uAnd away (uMsk (Int.toNat (ws.length : Int)))).n : Int) > (spareP ws need).1 → (enoughP ws need (uDiff (uMsk (Int.toNat (ws.length : Int))) (uAnd away (uMsk (Int.toNat (ws.length : Int))))).n).1 = true) ∧
    (¬ (size64 (uAnd away (uMsk (Int.toNat (ws.length : Int)))).n : Int) ≥ (leastP ws need).1 → (enoughP ws need (uAnd away (uMsk (Int.toNat (ws.length : Int)))).n).1 = false) ∧
    0 ≤ (spareP ws need).1 ∧ (spareP ws need).1 < ws.length ∧ 1 ≤ (leastP ws need).1 ∧ (spareP ws need).1 + (leastP ws need).1 ≤ ws.length := by
  have hq := qc_of_spare h
  have hL := qc_len hq
  have hn := qc_need hq
  have h0 := qc_nn hq
  rw [show Int.toNat (ws.length : Int) = ws.length from rfl]
  have ey := away_n (L := ws.length) (x := away) (by omega)
  generalize uAnd away (uMsk ws.length) = y at ey ⊢
  have hy : y.n < 2 ^ ws.length := by rw [ey]; exact Nat.mod_lt _ (Nat.two_pow_pos _)
  have eo := others_n (L := ws.length) (x := y) (by omega) hy
  generalize uDiff (uMsk ws.length) y = o at eo ⊢
  have ho : o.n < 2 ^ ws.length := by rw [eo]; have := Nat.two_pow_pos ws.length; omega
  have es := size64_eq hy (by omega)
  have hc := bsum_compl ws y.n hy
  rw [← eo] at hc
  obtain ⟨a1, a2, a3⟩ := enough_of hq ho
  obtain ⟨b1, b2, b3⟩ := enough_of hq hy
  obtain ⟨c1, c2, c3⟩ := least_spare h0 ⟨hn.1, hn.2.1⟩
  have es1 : (spareP ws need).1 = (heavyP ws (lsum ws - need + 1) : Int) - 1 := by unfold spareP; rw [if_neg (fun hh => hh hq)]
  have el1 : (leastP ws need).1 = heavyP ws need := by unfold leastP; rw [if_neg (fun hh => hh hq)]
  rw [es1, el1, es]
  refine ⟨a1, b1, fun hs => a3.2 ?_, fun hs => ?_, by omega, by omega, by omega, by omega⟩
  · by_cases hk : lsum ws - need + 1 ≤ bsum ws y.n
    · have := heavy_min h0 hk; omega
    · omega
  · by_cases hk : need ≤ bsum ws y.n
    · have := heavy_min h0 hk; omega
    · cases he : (enoughP ws need y.n).1 with
      | false => rfl
      | true => exact absurd (b3.1 he) hk
theorem qbegun_fn : Fn Tryd.prog 17 [] (.v (.bool true)) := by
  refine fn_walkW F17_ok (of_decide_eq_true (by kernel_rfl)) ?_
  refine EL.sreg ?_
  refine OW.last 1 [] (x' := ⟨[], []⟩) (by kernel_rfl) (by kernel_rfl) ?_
  refine EL.sreg ?_
  refine OW.last 2 [1] (x' := ⟨[(1, .own 0 1 0 4)], [some ⟨1, [[VI 3], [VI 1], [VI 1], [VI 2]]⟩]⟩) (by kernel_rfl) (by kernel_rfl) ?_
  refine EL.sreg ?_
  refine OW.run 1 (x' := ⟨[(14, .own 0 1 0 4), (1, .own 0 1 0 4)], [some ⟨1, [[VI 3], [VI 1], [VI 1], [VI 2]]⟩]⟩) (by kernel_rfl) ?_
  refine OW.fn (ar := [.own 0 1 0 4, .v (.int .u64 5)]) (x' := ⟨[(15, .tup [VI ((sumP ([3, 1, 1, 2]) (⟨5, by decide⟩ : U64).n).1), VI ((sumP ([3, 1, 1, 2]) (⟨5, by decide⟩ : U64).n).2)]), (14, .own 0 1 0 4), (1, .own 0 1 0 4)], [some ⟨1, [[VI 3], [VI 1], [VI 1], [VI 2]]⟩]⟩) (by kernel_rfl) (by kernel_rfl) F9_call (sum_fn ([3, 1, 1, 2]) (⟨5, by decide⟩ : U64) (by decide)) (by kernel_rfl) (by kernel_rfl) ?_
  refine OW.last 5 [1, 2, 3] (x' := ⟨[(3, VI ((sumP ([3, 1, 1, 2]) (⟨5, by decide⟩ : U64).n).2)), (2, VI ((sumP ([3, 1, 1, 2]) (⟨5, by decide⟩ : U64).n).1)), (1, .own 0 1 0 4)], [some ⟨1, [[VI 3], [VI 1], [VI 1], [VI 2]]⟩]⟩) (by kernel_rfl) (by kernel_rfl) ?_
  refine EL.sreg ?_
  refine OW.run 1 (x' := ⟨[(19, .own 0 1 0 4), (3, VI ((sumP ([3, 1, 1, 2]) (⟨5, by decide⟩ : U64).n).2)), (2, VI ((sumP ([3, 1, 1, 2]) (⟨5, by decide⟩ : U64).n).1)), (1, .own 0 1 0 4)], [some ⟨1, [[VI 3], [VI 1], [VI 1], [VI 2]]⟩]⟩) (by kernel_rfl) ?_
  refine OW.fn (ar := [.own 0 1 0 4, VI 4, .v (.int .u64 9)]) (x' := ⟨[(20, .tup [.v (.bool ((enoughP ([3, 1, 1, 2]) 4 (⟨9, by decide⟩ : U64).n).1)), VI ((enoughP ([3, 1, 1, 2]) 4 (⟨9, by decide⟩ : U64).n).2)]), (19, .own 0 1 0 4), (3, VI ((sumP ([3, 1, 1, 2]) (⟨5, by decide⟩ : U64).n).2)), (2, VI ((sumP ([3, 1, 1, 2]) (⟨5, by decide⟩ : U64).n).1)), (1, .own 0 1 0 4)], [some ⟨1, [[VI 3], [VI 1], [VI 1], [VI 2]]⟩]⟩) (by kernel_rfl) (by kernel_rfl) F10_call (enough_fn ([3, 1, 1, 2]) 4 (⟨9, by decide⟩ : U64) (by decide)) (by kernel_rfl) (by kernel_rfl) ?_
  refine OW.last 5 [1, 2, 3, 4, 5] (x' := ⟨[(5, VI ((enoughP ([3, 1, 1, 2]) 4 (⟨9, by decide⟩ : U64).n).2)), (4, .v (.bool ((enoughP ([3, 1, 1, 2]) 4 (⟨9, by decide⟩ : U64).n).1))), (3, VI ((sumP ([3, 1, 1, 2]) (⟨5, by decide⟩ : U64).n).2)), (2, VI ((sumP ([3, 1, 1, 2]) (⟨5, by decide⟩ : U64).n).1)), (1, .own 0 1 0 4)], [some ⟨1, [[VI 3], [VI 1], [VI 1], [VI 2]]⟩]⟩) (by kernel_rfl) (by kernel_rfl) ?_
  refine EL.sreg ?_
  refine OW.run 1 (x' := ⟨[(24, .own 0 1 0 4), (5, VI ((enoughP ([3, 1, 1, 2]) 4 (⟨9, by decide⟩ : U64).n).2)), (4, .v (.bool ((enoughP ([3, 1, 1, 2]) 4 (⟨9, by decide⟩ : U64).n).1))), (3, VI ((sumP ([3, 1, 1, 2]) (⟨5, by decide⟩ : U64).n).2)), (2, VI ((sumP ([3, 1, 1, 2]) (⟨5, by decide⟩ : U64).n).1)), (1, .own 0 1 0 4)], [some ⟨1, [[VI 3], [VI 1], [VI 1], [VI 2]]⟩]⟩) (by kernel_rfl) ?_
  refine OW.fn (ar := [.own 0 1 0 4, VI 4]) (x' := ⟨[(25, .tup [VI ((leastP ([3, 1, 1, 2]) 4).1), VI ((leastP ([3, 1, 1, 2]) 4).2)]), (24, .own 0 1 0 4), (5, VI ((enoughP ([3, 1, 1, 2]) 4 (⟨9, by decide⟩ : U64).n).2)), (4, .v (.bool ((enoughP ([3, 1, 1, 2]) 4 (⟨9, by decide⟩ : U64).n).1))), (3, VI ((sumP ([3, 1, 1, 2]) (⟨5, by decide⟩ : U64).n).2)), (2, VI ((sumP ([3, 1, 1, 2]) (⟨5, by decide⟩ : U64).n).1)), (1, .own 0 1 0 4)], [some ⟨1, [[VI 3], [VI 1], [VI 1], [VI 2]]⟩]⟩) (by kernel_rfl) (by kernel_rfl) F11_call (least_fn ([3, 1, 1, 2]) 4 (by decide)) (by kernel_rfl) (by kernel_rfl) ?_
  refine OW.last 5 [1, 2, 3, 4, 5, 6, 7] (x' := ⟨[(7, VI ((leastP ([3, 1, 1, 2]) 4).2)), (6, VI ((leastP ([3, 1, 1, 2]) 4).1)), (5, VI ((enoughP ([3, 1, 1, 2]) 4 (⟨9, by decide⟩ : U64).n).2)), (4, .v (.bool ((enoughP ([3, 1, 1, 2]) 4 (⟨9, by decide⟩ : U64).n).1))), (3, VI ((sumP ([3, 1, 1, 2]) (⟨5, by decide⟩ : U64).n).2)), (2, VI ((sumP ([3, 1, 1, 2]) (⟨5, by decide⟩ : U64).n).1)), (1, .own 0 1 0 4)], [some ⟨1, [[VI 3], [VI 1], [VI 1], [VI 2]]⟩]⟩) (by kernel_rfl) (by kernel_rfl) ?_
  refine EL.sreg ?_
  refine OW.run 1 (x' := ⟨[(29, .own 0 1 0 4), (7, VI ((leastP ([3, 1, 1, 2]) 4).2)), (6, VI ((leastP ([3, 1, 1, 2]) 4).1)), (5, VI ((enoughP ([3, 1, 1, 2]) 4 (⟨9, by decide⟩ : U64).n).2)), (4, .v (.bool ((enoughP ([3, 1, 1, 2]) 4 (⟨9, by decide⟩ : U64).n).1))), (3, VI ((sumP ([3, 1, 1, 2]) (⟨5, by decide⟩ : U64).n).2)), (2, VI ((sumP ([3, 1, 1, 2]) (⟨5, by decide⟩ : U64).n).1)), (1, .own 0 1 0 4)], [some ⟨1, [[VI 3], [VI 1], [VI 1], [VI 2]]⟩]⟩) (by kernel_rfl) ?_
  refine OW.fn (ar := [.own 0 1 0 4, VI 4]) (x' := ⟨[(30, .tup [VI ((spareP ([3, 1, 1, 2]) 4).1), VI ((spareP ([3, 1, 1, 2]) 4).2)]), (29, .own 0 1 0 4), (7, VI ((leastP ([3, 1, 1, 2]) 4).2)), (6, VI ((leastP ([3, 1, 1, 2]) 4).1)), (5, VI ((enoughP ([3, 1, 1, 2]) 4 (⟨9, by decide⟩ : U64).n).2)), (4, .v (.bool ((enoughP ([3, 1, 1, 2]) 4 (⟨9, by decide⟩ : U64).n).1))), (3, VI ((sumP ([3, 1, 1, 2]) (⟨5, by decide⟩ : U64).n).2)), (2, VI ((sumP ([3, 1, 1, 2]) (⟨5, by decide⟩ : U64).n).1)), (1, .own 0 1 0 4)], [some ⟨1, [[VI 3], [VI 1], [VI 1], [VI 2]]⟩]⟩) (by kernel_rfl) (by kernel_rfl) F12_call (spare_fn ([3, 1, 1, 2]) 4 (by decide)) (by kernel_rfl) (by kernel_rfl) ?_
  refine OW.last 5 [1, 2, 3, 4, 5, 6, 7, 8, 9] (x' := ⟨[(9, VI ((spareP ([3, 1, 1, 2]) 4).2)), (8, VI ((spareP ([3, 1, 1, 2]) 4).1)), (7, VI ((leastP ([3, 1, 1, 2]) 4).2)), (6, VI ((leastP ([3, 1, 1, 2]) 4).1)), (5, VI ((enoughP ([3, 1, 1, 2]) 4 (⟨9, by decide⟩ : U64).n).2)), (4, .v (.bool ((enoughP ([3, 1, 1, 2]) 4 (⟨9, by decide⟩ : U64).n).1))), (3, VI ((sumP ([3, 1, 1, 2]) (⟨5, by decide⟩ : U64).n).2)), (2, VI ((sumP ([3, 1, 1, 2]) (⟨5, by decide⟩ : U64).n).1)), (1, .own 0 1 0 4)], [some ⟨1, [[VI 3], [VI 1], [VI 1], [VI 2]]⟩]⟩) (by kernel_rfl) (by kernel_rfl) ?_
  refine EL.sreg ?_
  refine OW.run 1 (x' := ⟨[(34, .own 0 1 0 4), (9, VI ((spareP ([3, 1, 1, 2]) 4).2)), (8, VI ((spareP ([3, 1, 1, 2]) 4).1)), (7, VI ((leastP ([3, 1, 1, 2]) 4).2)), (6, VI ((leastP ([3, 1, 1, 2]) 4).1)), (5, VI ((enoughP ([3, 1, 1, 2]) 4 (⟨9, by decide⟩ : U64).n).2)), (4, .v (.bool ((enoughP ([3, 1, 1, 2]) 4 (⟨9, by decide⟩ : U64).n).1))), (3, VI ((sumP ([3, 1, 1, 2]) (⟨5, by decide⟩ : U64).n).2)), (2, VI ((sumP ([3, 1, 1, 2]) (⟨5, by decide⟩ : U64).n).1)), (1, .own 0 1 0 4)], [some ⟨1, [[VI 3], [VI 1], [VI 1], [VI 2]]⟩]⟩) (by kernel_rfl) ?_
  refine OW.fn (ar := [.own 0 1 0 4, .v (.int .u64 16)]) (x' := ⟨[(35, .tup [VI ((sumP ([3, 1, 1, 2]) (⟨16, by decide⟩ : U64).n).1), VI ((sumP ([3, 1, 1, 2]) (⟨16, by decide⟩ : U64).n).2)]), (34, .own 0 1 0 4), (9, VI ((spareP ([3, 1, 1, 2]) 4).2)), (8, VI ((spareP ([3, 1, 1, 2]) 4).1)), (7, VI ((leastP ([3, 1, 1, 2]) 4).2)), (6, VI ((leastP ([3, 1, 1, 2]) 4).1)), (5, VI ((enoughP ([3, 1, 1, 2]) 4 (⟨9, by decide⟩ : U64).n).2)), (4, .v (.bool ((enoughP ([3, 1, 1, 2]) 4 (⟨9, by decide⟩ : U64).n).1))), (3, VI ((sumP ([3, 1, 1, 2]) (⟨5, by decide⟩ : U64).n).2)), (2, VI ((sumP ([3, 1, 1, 2]) (⟨5, by decide⟩ : U64).n).1)), (1, .own 0 1 0 4)], [some ⟨1, [[VI 3], [VI 1], [VI 1], [VI 2]]⟩]⟩) (by kernel_rfl) (by kernel_rfl) F9_call (sum_fn ([3, 1, 1, 2]) (⟨16, by decide⟩ : U64) (by decide)) (by kernel_rfl) (by kernel_rfl) ?_
  refine OW.last 5 [1, 2, 3, 4, 5, 6, 7, 8, 9, 11] (x' := ⟨[(11, VI ((sumP ([3, 1, 1, 2]) (⟨16, by decide⟩ : U64).n).2)), (9, VI ((spareP ([3, 1, 1, 2]) 4).2)), (8, VI ((spareP ([3, 1, 1, 2]) 4).1)), (7, VI ((leastP ([3, 1, 1, 2]) 4).2)), (6, VI ((leastP ([3, 1, 1, 2]) 4).1)), (5, VI ((enoughP ([3, 1, 1, 2]) 4 (⟨9, by decide⟩ : U64).n).2)), (4, .v (.bool ((enoughP ([3, 1, 1, 2]) 4 (⟨9, by decide⟩ : U64).n).1))), (3, VI ((sumP ([3, 1, 1, 2]) (⟨5, by decide⟩ : U64).n).2)), (2, VI ((sumP ([3, 1, 1, 2]) (⟨5, by decide⟩ : U64).n).1)), (1, .own 0 1 0 4)], [some ⟨1, [[VI 3], [VI 1], [VI 1], [VI 2]]⟩]⟩) (by kernel_rfl) (by kernel_rfl) ?_
  refine EL.sreg ?_
  refine OW.run 3 (x' := ⟨[(40, .v (.bool (((sumP ([3, 1, 1, 2]) (⟨5, by decide⟩ : U64).n).1) == 4))), (39, .v (.bool (((sumP ([3, 1, 1, 2]) (⟨5, by decide⟩ : U64).n).1) == 4))), (38, VI ((sumP ([3, 1, 1, 2]) (⟨5, by decide⟩ : U64).n).1)), (11, VI ((sumP ([3, 1, 1, 2]) (⟨16, by decide⟩ : U64).n).2)), (9, VI ((spareP ([3, 1, 1, 2]) 4).2)), (8, VI ((spareP ([3, 1, 1, 2]) 4).1)), (7, VI ((leastP ([3, 1, 1, 2]) 4).2)), (6, VI ((leastP ([3, 1, 1, 2]) 4).1)), (5, VI ((enoughP ([3, 1, 1, 2]) 4 (⟨9, by decide⟩ : U64).n).2)), (4, .v (.bool ((enoughP ([3, 1, 1, 2]) 4 (⟨9, by decide⟩ : U64).n).1))), (3, VI ((sumP ([3, 1, 1, 2]) (⟨5, by decide⟩ : U64).n).2)), (2, VI ((sumP ([3, 1, 1, 2]) (⟨5, by decide⟩ : U64).n).1)), (1, .own 0 1 0 4)], [some ⟨1, [[VI 3], [VI 1], [VI 1], [VI 2]]⟩]⟩) (by kernel_rfl) ?_
  have h1 : (((sumP ([3, 1, 1, 2]) (⟨5, by decide⟩ : U64).n).1) == 4) = true := by first | kernel_rfl | decide
  rw [h1]
  refine OW.run 4 (x' := ⟨[(44, .v (.bool (((sumP ([3, 1, 1, 2]) (⟨5, by decide⟩ : U64).n).2) == 0))), (43, .v (.bool (((sumP ([3, 1, 1, 2]) (⟨5, by decide⟩ : U64).n).2) == 0))), (42, .v (.bool (((sumP ([3, 1, 1, 2]) (⟨5, by decide⟩ : U64).n).2) == 0))), (41, VI ((sumP ([3, 1, 1, 2]) (⟨5, by decide⟩ : U64).n).2)), (40, .v (.bool true)), (39, .v (.bool true)), (38, VI ((sumP ([3, 1, 1, 2]) (⟨5, by decide⟩ : U64).n).1)), (11, VI ((sumP ([3, 1, 1, 2]) (⟨16, by decide⟩ : U64).n).2)), (9, VI ((spareP ([3, 1, 1, 2]) 4).2)), (8, VI ((spareP ([3, 1, 1, 2]) 4).1)), (7, VI ((leastP ([3, 1, 1, 2]) 4).2)), (6, VI ((leastP ([3, 1, 1, 2]) 4).1)), (5, VI ((enoughP ([3, 1, 1, 2]) 4 (⟨9, by decide⟩ : U64).n).2)), (4, .v (.bool ((enoughP ([3, 1, 1, 2]) 4 (⟨9, by decide⟩ : U64).n).1))), (3, VI ((sumP ([3, 1, 1, 2]) (⟨5, by decide⟩ : U64).n).2)), (2, VI ((sumP ([3, 1, 1, 2]) (⟨5, by decide⟩ : U64).n).1)), (1, .own 0 1 0 4)], [some ⟨1, [[VI 3], [VI 1], [VI 1], [VI 2]]⟩]⟩) (by kernel_rfl) ?_
  have h2 : (((sumP ([3, 1, 1, 2]) (⟨5, by decide⟩ : U64).n).2) == 0) = true := by first | kernel_rfl | decide
  rw [h2]
  refine OW.run 3 (x' := ⟨[(47, .v (.bool ((enoughP ([3, 1, 1, 2]) 4 (⟨9, by decide⟩ : U64).n).1))), (46, .v (.bool ((enoughP ([3, 1, 1, 2]) 4 (⟨9, by decide⟩ : U64).n).1))), (45, .v (.bool ((enoughP ([3, 1, 1, 2]) 4 (⟨9, by decide⟩ : U64).n).1))), (44, .v (.bool true)), (43, .v (.bool true)), (42, .v (.bool true)), (41, VI ((sumP ([3, 1, 1, 2]) (⟨5, by decide⟩ : U64).n).2)), (40, .v (.bool true)), (39, .v (.bool true)), (38, VI ((sumP ([3, 1, 1, 2]) (⟨5, by decide⟩ : U64).n).1)), (11, VI ((sumP ([3, 1, 1, 2]) (⟨16, by decide⟩ : U64).n).2)), (9, VI ((spareP ([3, 1, 1, 2]) 4).2)), (8, VI ((spareP ([3, 1, 1, 2]) 4).1)), (7, VI ((leastP ([3, 1, 1, 2]) 4).2)), (6, VI ((leastP ([3, 1, 1, 2]) 4).1)), (5, VI ((enoughP ([3, 1, 1, 2]) 4 (⟨9, by decide⟩ : U64).n).2)), (4, .v (.bool ((enoughP ([3, 1, 1, 2]) 4 (⟨9, by decide⟩ : U64).n).1))), (3, VI ((sumP ([3, 1, 1, 2]) (⟨5, by decide⟩ : U64).n).2)), (2, VI ((sumP ([3, 1, 1, 2]) (⟨5, by decide⟩ : U64).n).1)), (1, .own 0 1 0 4)], [some ⟨1, [[VI 3], [VI 1], [VI 1], [VI 2]]⟩]⟩) (by kernel_rfl) ?_
  have h3 : (enoughP ([3, 1, 1, 2]) 4 (⟨9, by decide⟩ : U64).n).1 = true := by first | kernel_rfl | decide
  rw [h3]
  refine OW.run 4 (x' := ⟨[(51, .v (.bool (((enoughP ([3, 1, 1, 2]) 4 (⟨9, by decide⟩ : U64).n).2) == 0))), (50, .v (.bool (((enoughP ([3, 1, 1, 2]) 4 (⟨9, by decide⟩ : U64).n).2) == 0))), (49, .v (.bool (((enoughP ([3, 1, 1, 2]) 4 (⟨9, by decide⟩ : U64).n).2) == 0))), (48, VI ((enoughP ([3, 1, 1, 2]) 4 (⟨9, by decide⟩ : U64).n).2)), (47, .v (.bool true)), (46, .v (.bool true)), (45, .v (.bool true)), (44, .v (.bool true)), (43, .v (.bool true)), (42, .v (.bool true)), (41, VI ((sumP ([3, 1, 1, 2]) (⟨5, by decide⟩ : U64).n).2)), (40, .v (.bool true)), (39, .v (.bool true)), (38, VI ((sumP ([3, 1, 1, 2]) (⟨5, by decide⟩ : U64).n).1)), (11, VI ((sumP ([3, 1, 1, 2]) (⟨16, by decide⟩ : U64).n).2)), (9, VI ((spareP ([3, 1, 1, 2]) 4).2)), (8, VI ((spareP ([3, 1, 1, 2]) 4).1)), (7, VI ((leastP ([3, 1, 1, 2]) 4).2)), (6, VI ((leastP ([3, 1, 1, 2]) 4).1)), (5, VI ((enoughP ([3, 1, 1, 2]) 4 (⟨9, by decide⟩ : U64).n).2)), (4, .v (.bool true)), (3, VI ((sumP ([3, 1, 1, 2]) (⟨5, by decide⟩ : U64).n).2)), (2, VI ((sumP ([3, 1, 1, 2]) (⟨5, by decide⟩ : U64).n).1)), (1, .own 0 1 0 4)], [some ⟨1, [[VI 3], [VI 1], [VI 1], [VI 2]]⟩]⟩) (by kernel_rfl) ?_
  have h4 : (((enoughP ([3, 1, 1, 2]) 4 (⟨9, by decide⟩ : U64).n).2) == 0) = true := by first | kernel_rfl | decide
  rw [h4]
  refine OW.run 4 (x' := ⟨[(55, .v (.bool (((leastP ([3, 1, 1, 2]) 4).1) == 2))), (54, .v (.bool (((leastP ([3, 1, 1, 2]) 4).1) == 2))), (53, .v (.bool (((leastP ([3, 1, 1, 2]) 4).1) == 2))), (52, VI ((leastP ([3, 1, 1, 2]) 4).1)), (51, .v (.bool true)), (50, .v (.bool true)), (49, .v (.bool true)), (48, VI ((enoughP ([3, 1, 1, 2]) 4 (⟨9, by decide⟩ : U64).n).2)), (47, .v (.bool true)), (46, .v (.bool true)), (45, .v (.bool true)), (44, .v (.bool true)), (43, .v (.bool true)), (42, .v (.bool true)), (41, VI ((sumP ([3, 1, 1, 2]) (⟨5, by decide⟩ : U64).n).2)), (40, .v (.bool true)), (39, .v (.bool true)), (38, VI ((sumP ([3, 1, 1, 2]) (⟨5, by decide⟩ : U64).n).1)), (11, VI ((sumP ([3, 1, 1, 2]) (⟨16, by decide⟩ : U64).n).2)), (9, VI ((spareP ([3, 1, 1, 2]) 4).2)), (8, VI ((spareP ([3, 1, 1, 2]) 4).1)), (7, VI ((leastP ([3, 1, 1, 2]) 4).2)), (6, VI ((leastP ([3, 1, 1, 2]) 4).1)), (5, VI ((enoughP ([3, 1, 1, 2]) 4 (⟨9, by decide⟩ : U64).n).2)), (4, .v (.bool true)), (3, VI ((sumP ([3, 1, 1, 2]) (⟨5, by decide⟩ : U64).n).2)), (2, VI ((sumP ([3, 1, 1, 2]) (⟨5, by decide⟩ : U64).n).1)), (1, .own 0 1 0 4)], [some ⟨1, [[VI 3], [VI 1], [VI 1], [VI 2]]⟩]⟩) (by kernel_rfl) ?_
  have h5 : (((leastP ([3, 1, 1, 2]) 4).1) == 2) = true := by first | kernel_rfl | decide
  rw [h5]
  refine OW.run 4 (x' := ⟨[(59, .v (.bool (((leastP ([3, 1, 1, 2]) 4).2) == 0))), (58, .v (.bool (((leastP ([3, 1, 1, 2]) 4).2) == 0))), (57, .v (.bool (((leastP ([3, 1, 1, 2]) 4).2) == 0))), (56, VI ((leastP ([3, 1, 1, 2]) 4).2)), (55, .v (.bool true)), (54, .v (.bool true)), (53, .v (.bool true)), (52, VI ((leastP ([3, 1, 1, 2]) 4).1)), (51, .v (.bool true)), (50, .v (.bool true)), (49, .v (.bool true)), (48, VI ((enoughP ([3, 1, 1, 2]) 4 (⟨9, by decide⟩ : U64).n).2)), (47, .v (.bool true)), (46, .v (.bool true)), (45, .v (.bool true)), (44, .v (.bool true)), (43, .v (.bool true)), (42, .v (.bool true)), (41, VI ((sumP ([3, 1, 1, 2]) (⟨5, by decide⟩ : U64).n).2)), (40, .v (.bool true)), (39, .v (.bool true)), (38, VI ((sumP ([3, 1, 1, 2]) (⟨5, by decide⟩ : U64).n).1)), (11, VI ((sumP ([3, 1, 1, 2]) (⟨16, by decide⟩ : U64).n).2)), (9, VI ((spareP ([3, 1, 1, 2]) 4).2)), (8, VI ((spareP ([3, 1, 1, 2]) 4).1)), (7, VI ((leastP ([3, 1, 1, 2]) 4).2)), (6, VI ((leastP ([3, 1, 1, 2]) 4).1)), (5, VI ((enoughP ([3, 1, 1, 2]) 4 (⟨9, by decide⟩ : U64).n).2)), (4, .v (.bool true)), (3, VI ((sumP ([3, 1, 1, 2]) (⟨5, by decide⟩ : U64).n).2)), (2, VI ((sumP ([3, 1, 1, 2]) (⟨5, by decide⟩ : U64).n).1)), (1, .own 0 1 0 4)], [some ⟨1, [[VI 3], [VI 1], [VI 1], [VI 2]]⟩]⟩) (by kernel_rfl) ?_
  have h6 : (((leastP ([3, 1, 1, 2]) 4).2) == 0) = true := by first | kernel_rfl | decide
  rw [h6]
  refine OW.run 4 (x' := ⟨[(63, .v (.bool (((spareP ([3, 1, 1, 2]) 4).1) == 1))), (62, .v (.bool (((spareP ([3, 1, 1, 2]) 4).1) == 1))), (61, .v (.bool (((spareP ([3, 1, 1, 2]) 4).1) == 1))), (60, VI ((spareP ([3, 1, 1, 2]) 4).1)), (59, .v (.bool true)), (58, .v (.bool true)), (57, .v (.bool true)), (56, VI ((leastP ([3, 1, 1, 2]) 4).2)), (55, .v (.bool true)), (54, .v (.bool true)), (53, .v (.bool true)), (52, VI ((leastP ([3, 1, 1, 2]) 4).1)), (51, .v (.bool true)), (50, .v (.bool true)), (49, .v (.bool true)), (48, VI ((enoughP ([3, 1, 1, 2]) 4 (⟨9, by decide⟩ : U64).n).2)), (47, .v (.bool true)), (46, .v (.bool true)), (45, .v (.bool true)), (44, .v (.bool true)), (43, .v (.bool true)), (42, .v (.bool true)), (41, VI ((sumP ([3, 1, 1, 2]) (⟨5, by decide⟩ : U64).n).2)), (40, .v (.bool true)), (39, .v (.bool true)), (38, VI ((sumP ([3, 1, 1, 2]) (⟨5, by decide⟩ : U64).n).1)), (11, VI ((sumP ([3, 1, 1, 2]) (⟨16, by decide⟩ : U64).n).2)), (9, VI ((spareP ([3, 1, 1, 2]) 4).2)), (8, VI ((spareP ([3, 1, 1, 2]) 4).1)), (7, VI ((leastP ([3, 1, 1, 2]) 4).2)), (6, VI ((leastP ([3, 1, 1, 2]) 4).1)), (5, VI ((enoughP ([3, 1, 1, 2]) 4 (⟨9, by decide⟩ : U64).n).2)), (4, .v (.bool true)), (3, VI ((sumP ([3, 1, 1, 2]) (⟨5, by decide⟩ : U64).n).2)), (2, VI ((sumP ([3, 1, 1, 2]) (⟨5, by decide⟩ : U64).n).1)), (1, .own 0 1 0 4)], [some ⟨1, [[VI 3], [VI 1], [VI 1], [VI 2]]⟩]⟩) (by kernel_rfl) ?_
  have h7 : (((spareP ([3, 1, 1, 2]) 4).1) == 1) = true := by first | kernel_rfl | decide
  rw [h7]
  refine OW.run 4 (x' := ⟨[(67, .v (.bool (((spareP ([3, 1, 1, 2]) 4).2) == 0))), (66, .v (.bool (((spareP ([3, 1, 1, 2]) 4).2) == 0))), (65, .v (.bool (((spareP ([3, 1, 1, 2]) 4).2) == 0))), (64, VI ((spareP ([3, 1, 1, 2]) 4).2)), (63, .v (.bool true)), (62, .v (.bool true)), (61, .v (.bool true)), (60, VI ((spareP ([3, 1, 1, 2]) 4).1)), (59, .v (.bool true)), (58, .v (.bool true)), (57, .v (.bool true)), (56, VI ((leastP ([3, 1, 1, 2]) 4).2)), (55, .v (.bool true)), (54, .v (.bool true)), (53, .v (.bool true)), (52, VI ((leastP ([3, 1, 1, 2]) 4).1)), (51, .v (.bool true)), (50, .v (.bool true)), (49, .v (.bool true)), (48, VI ((enoughP ([3, 1, 1, 2]) 4 (⟨9, by decide⟩ : U64).n).2)), (47, .v (.bool true)), (46, .v (.bool true)), (45, .v (.bool true)), (44, .v (.bool true)), (43, .v (.bool true)), (42, .v (.bool true)), (41, VI ((sumP ([3, 1, 1, 2]) (⟨5, by decide⟩ : U64).n).2)), (40, .v (.bool true)), (39, .v (.bool true)), (38, VI ((sumP ([3, 1, 1, 2]) (⟨5, by decide⟩ : U64).n).1)), (11, VI ((sumP ([3, 1, 1, 2]) (⟨16, by decide⟩ : U64).n).2)), (9, VI ((spareP ([3, 1, 1, 2]) 4).2)), (8, VI ((spareP ([3, 1, 1, 2]) 4).1)), (7, VI ((leastP ([3, 1, 1, 2]) 4).2)), (6, VI ((leastP ([3, 1, 1, 2]) 4).1)), (5, VI ((enoughP ([3, 1, 1, 2]) 4 (⟨9, by decide⟩ : U64).n).2)), (4, .v (.bool true)), (3, VI ((sumP ([3, 1, 1, 2]) (⟨5, by decide⟩ : U64).n).2)), (2, VI ((sumP ([3, 1, 1, 2]) (⟨5, by decide⟩ : U64).n).1)), (1, .own 0 1 0 4)], [some ⟨1, [[VI 3], [VI 1], [VI 1], [VI 2]]⟩]⟩) (by kernel_rfl) ?_
  have h8 : (((spareP ([3, 1, 1, 2]) 4).2) == 0) = true := by first | kernel_rfl | decide
  rw [h8]
  refine OW.run 4 (x' := ⟨[(71, .v (.bool (((sumP ([3, 1, 1, 2]) (⟨16, by decide⟩ : U64).n).2) == 3))), (70, .v (.bool (((sumP ([3, 1, 1, 2]) (⟨16, by decide⟩ : U64).n).2) == 3))), (69, .v (.bool (((sumP ([3, 1, 1, 2]) (⟨16, by decide⟩ : U64).n).2) == 3))), (68, VI ((sumP ([3, 1, 1, 2]) (⟨16, by decide⟩ : U64).n).2)), (67, .v (.bool true)), (66, .v (.bool true)), (65, .v (.bool true)), (64, VI ((spareP ([3, 1, 1, 2]) 4).2)), (63, .v (.bool true)), (62, .v (.bool true)), (61, .v (.bool true)), (60, VI ((spareP ([3, 1, 1, 2]) 4).1)), (59, .v (.bool true)), (58, .v (.bool true)), (57, .v (.bool true)), (56, VI ((leastP ([3, 1, 1, 2]) 4).2)), (55, .v (.bool true)), (54, .v (.bool true)), (53, .v (.bool true)), (52, VI ((leastP ([3, 1, 1, 2]) 4).1)), (51, .v (.bool true)), (50, .v (.bool true)), (49, .v (.bool true)), (48, VI ((enoughP ([3, 1, 1, 2]) 4 (⟨9, by decide⟩ : U64).n).2)), (47, .v (.bool true)), (46, .v (.bool true)), (45, .v (.bool true)), (44, .v (.bool true)), (43, .v (.bool true)), (42, .v (.bool true)), (41, VI ((sumP ([3, 1, 1, 2]) (⟨5, by decide⟩ : U64).n).2)), (40, .v (.bool true)), (39, .v (.bool true)), (38, VI ((sumP ([3, 1, 1, 2]) (⟨5, by decide⟩ : U64).n).1)), (11, VI ((sumP ([3, 1, 1, 2]) (⟨16, by decide⟩ : U64).n).2)), (9, VI ((spareP ([3, 1, 1, 2]) 4).2)), (8, VI ((spareP ([3, 1, 1, 2]) 4).1)), (7, VI ((leastP ([3, 1, 1, 2]) 4).2)), (6, VI ((leastP ([3, 1, 1, 2]) 4).1)), (5, VI ((enoughP ([3, 1, 1, 2]) 4 (⟨9, by decide⟩ : U64).n).2)), (4, .v (.bool true)), (3, VI ((sumP ([3, 1, 1, 2]) (⟨5, by decide⟩ : U64).n).2)), (2, VI ((sumP ([3, 1, 1, 2]) (⟨5, by decide⟩ : U64).n).1)), (1, .own 0 1 0 4)], [some ⟨1, [[VI 3], [VI 1], [VI 1], [VI 2]]⟩]⟩) (by kernel_rfl) ?_
  have h9 : (((sumP ([3, 1, 1, 2]) (⟨16, by decide⟩ : U64).n).2) == 3) = true := by first | kernel_rfl | decide
  rw [h9]
  refine OW.run 1 (x' := ⟨[(72, .own 0 1 0 4), (71, .v (.bool true)), (70, .v (.bool true)), (69, .v (.bool true)), (68, VI ((sumP ([3, 1, 1, 2]) (⟨16, by decide⟩ : U64).n).2)), (67, .v (.bool true)), (66, .v (.bool true)), (65, .v (.bool true)), (64, VI ((spareP ([3, 1, 1, 2]) 4).2)), (63, .v (.bool true)), (62, .v (.bool true)), (61, .v (.bool true)), (60, VI ((spareP ([3, 1, 1, 2]) 4).1)), (59, .v (.bool true)), (58, .v (.bool true)), (57, .v (.bool true)), (56, VI ((leastP ([3, 1, 1, 2]) 4).2)), (55, .v (.bool true)), (54, .v (.bool true)), (53, .v (.bool true)), (52, VI ((leastP ([3, 1, 1, 2]) 4).1)), (51, .v (.bool true)), (50, .v (.bool true)), (49, .v (.bool true)), (48, VI ((enoughP ([3, 1, 1, 2]) 4 (⟨9, by decide⟩ : U64).n).2)), (47, .v (.bool true)), (46, .v (.bool true)), (45, .v (.bool true)), (44, .v (.bool true)), (43, .v (.bool true)), (42, .v (.bool true)), (41, VI ((sumP ([3, 1, 1, 2]) (⟨5, by decide⟩ : U64).n).2)), (40, .v (.bool true)), (39, .v (.bool true)), (38, VI ((sumP ([3, 1, 1, 2]) (⟨5, by decide⟩ : U64).n).1)), (11, VI ((sumP ([3, 1, 1, 2]) (⟨16, by decide⟩ : U64).n).2)), (9, VI ((spareP ([3, 1, 1, 2]) 4).2)), (8, VI ((spareP ([3, 1, 1, 2]) 4).1)), (7, VI ((leastP ([3, 1, 1, 2]) 4).2)), (6, VI ((leastP ([3, 1, 1, 2]) 4).1)), (5, VI ((enoughP ([3, 1, 1, 2]) 4 (⟨9, by decide⟩ : U64).n).2)), (4, .v (.bool true)), (3, VI ((sumP ([3, 1, 1, 2]) (⟨5, by decide⟩ : U64).n).2)), (2, VI ((sumP ([3, 1, 1, 2]) (⟨5, by decide⟩ : U64).n).1)), (1, .own 0 1 0 4)], [some ⟨1, [[VI 3], [VI 1], [VI 1], [VI 2]]⟩]⟩) (by kernel_rfl) ?_
  refine OW.fn (ar := [.own 0 1 0 4, VI 3]) (x' := ⟨[(73, VI (qcheckP ([3, 1, 1, 2]) 3)), (72, .own 0 1 0 4), (71, .v (.bool true)), (70, .v (.bool true)), (69, .v (.bool true)), (68, VI ((sumP ([3, 1, 1, 2]) (⟨16, by decide⟩ : U64).n).2)), (67, .v (.bool true)), (66, .v (.bool true)), (65, .v (.bool true)), (64, VI ((spareP ([3, 1, 1, 2]) 4).2)), (63, .v (.bool true)), (62, .v (.bool true)), (61, .v (.bool true)), (60, VI ((spareP ([3, 1, 1, 2]) 4).1)), (59, .v (.bool true)), (58, .v (.bool true)), (57, .v (.bool true)), (56, VI ((leastP ([3, 1, 1, 2]) 4).2)), (55, .v (.bool true)), (54, .v (.bool true)), (53, .v (.bool true)), (52, VI ((leastP ([3, 1, 1, 2]) 4).1)), (51, .v (.bool true)), (50, .v (.bool true)), (49, .v (.bool true)), (48, VI ((enoughP ([3, 1, 1, 2]) 4 (⟨9, by decide⟩ : U64).n).2)), (47, .v (.bool true)), (46, .v (.bool true)), (45, .v (.bool true)), (44, .v (.bool true)), (43, .v (.bool true)), (42, .v (.bool true)), (41, VI ((sumP ([3, 1, 1, 2]) (⟨5, by decide⟩ : U64).n).2)), (40, .v (.bool true)), (39, .v (.bool true)), (38, VI ((sumP ([3, 1, 1, 2]) (⟨5, by decide⟩ : U64).n).1)), (11, VI ((sumP ([3, 1, 1, 2]) (⟨16, by decide⟩ : U64).n).2)), (9, VI ((spareP ([3, 1, 1, 2]) 4).2)), (8, VI ((spareP ([3, 1, 1, 2]) 4).1)), (7, VI ((leastP ([3, 1, 1, 2]) 4).2)), (6, VI ((leastP ([3, 1, 1, 2]) 4).1)), (5, VI ((enoughP ([3, 1, 1, 2]) 4 (⟨9, by decide⟩ : U64).n).2)), (4, .v (.bool true)), (3, VI ((sumP ([3, 1, 1, 2]) (⟨5, by decide⟩ : U64).n).2)), (2, VI ((sumP ([3, 1, 1, 2]) (⟨5, by decide⟩ : U64).n).1)), (1, .own 0 1 0 4)], [some ⟨1, [[VI 3], [VI 1], [VI 1], [VI 2]]⟩]⟩) (by kernel_rfl) (by kernel_rfl) F18_call (qcheck_fn ([3, 1, 1, 2]) 3 (by decide)) (by kernel_rfl) (by kernel_rfl) ?_
  refine OW.last 3 [0] (x' := ⟨[(0, .v (.bool ((qcheckP ([3, 1, 1, 2]) 3) == 4)))], [some ⟨1, [[VI 3], [VI 1], [VI 1], [VI 2]]⟩]⟩) (by kernel_rfl) (by kernel_rfl) ?_
  refine EL.ret ?_
  refine ⟨.inr rfl, .v (.bool ((qcheckP ([3, 1, 1, 2]) 3) == 4)), by kernel_rfl, Ale.of_eq ?_⟩
  focus (rfl)
end Go.Proofs.YtfgjfghljhldfaaDoor
