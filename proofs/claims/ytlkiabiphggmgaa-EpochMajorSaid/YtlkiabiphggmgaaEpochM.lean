/- Epochs in plain Lean: what the document says of them. No condition. -/
import Derived.Test.YtlkiabiphggmgaaPopM
import Derived.Test.YtlkiabiphggmgaaApi
namespace Go.Proofs.Ytlkiabiphggmgaa
set_option linter.unusedSimpArgs false
set_option linter.unusedVariables false
def U64.of (n : Nat) : U64 := ⟨n % 18446744073709551616, by omega⟩
theorem U64.of_n {n : Nat} (h : n < 18446744073709551616) : (U64.of n).n = n := Nat.mod_eq_of_lt h
theorem U64.ext {a b : U64} (h : a.n = b.n) : a = b := by cases a; cases b; simp at h; subst h; rfl
theorem U64.ext_iff {a b : U64} : a = b ↔ a.n = b.n := ⟨congrArg _, U64.ext⟩
theorem U64.eta (a : U64) (h : a.n < 18446744073709551616) : (⟨a.n, h⟩ : U64) = a := rfl
instance : DecidableEq U64 := fun a b => decidable_of_iff (a.n = b.n) U64.ext_iff.symm
instance : DecidableEq Epoch := fun a b => decidable_of_iff (a.no = b.no ∧ a.members = b.members) Epoch.ext_iff.symm
namespace Epoch
def enc (x : Epoch) : List Value := [I x.no, .int .u64 (x.members.n : Int)]
def lastM (l : List Epoch) : Nat := match l.getLast? with | some e => e.members.n | none => 0
theorem lastM_nil : lastM [] = 0 := rfl
theorem lastM_snoc (l : List Epoch) (e : Epoch) : lastM (l ++ [e]) = e.members.n := by unfold lastM; simp
theorem lastM_lt (l : List Epoch) : lastM l < 18446744073709551616 := by
  unfold lastM; split
  · exact (Epoch.members _).lt
  · decide
theorem lastM_get {l : List Epoch} {m : Nat} {e : Epoch} (hn : l.length = m + 1) (he : l[m]? = some e) : lastM l = e.members.n := by
  unfold lastM
  rw [List.getLast?_eq_getElem?, hn, Nat.add_sub_cancel, he]
def rightE (l : List Epoch) (e : Epoch) : Int :=
  if e.no = l.length + 1 then (if 4095 < e.members.n then 3 else if e.members.n = 0 then 8 else if l.length ≠ 0 ∧ pop (e.members.n ^^^ lastM l) ≠ 1 then 1 else 0) else 4
/-- What the loop comes to. -/
def checkGo (all : List Epoch) : Nat → List Epoch → Int
  | _, [] => 0
  | k, e :: l => if rightE (all.take k) e = 0 then checkGo all (k + 1) l else rightE (all.take k) e
def checkP (l : List Epoch) : Int := if 64 < l.length then 2 else checkGo l 0 l
def next (l : List Epoch) (node : Int) : Epoch := ⟨l.length + 1, U64.of (lastM l ^^^ 2 ^ node.toNat)⟩
def turnP (l : List Epoch) (node : Int) : List Epoch × Int :=
  if checkP l = 0 then (if l.length = 0 then ([], 5) else if node < 0 ∨ 12 ≤ node then ([], 3) else if l.length = 64 then ([], 2) else if rightE l (next l node) = 0 then (l ++ [next l node], 0) else ([], rightE l (next l node))) else ([], checkP l)
def zero : Epoch := ⟨0, ⟨0, by decide⟩⟩
def atP (l : List Epoch) (no : Int) : Epoch × Int :=
  if checkP l = 0 then (if no < 1 ∨ (l.length : Int) < no then (zero, 5) else (l.getD (no - 1).toNat zero, 0)) else (zero, checkP l)
def majorB (e : Epoch) (s : Nat) : Bool := decide (pop e.members.n < 2 * pop (e.members.n &&& s))
def commonGo : Nat → List Epoch → Nat → Nat
  | _, [], s => s
  | k, e :: l, s => commonGo (k + 1) l ((if k = 0 then e.members.n else s) &&& e.members.n)
def commonP (l : List Epoch) : Nat × Int := if checkP l = 0 then (commonGo 0 l 0, 0) else (0, checkP l)
/-! ### Laws -/
theorem checkGo_iff (all : List Epoch) : ∀ (l : List Epoch) (k : Nat), all.drop k = l → (checkGo all k l = 0 ↔ ∀ i e, k ≤ i → all[i]? = some e → rightE (all.take i) e = 0)
  | [], k, h => by
    simp only [checkGo, true_iff]
    intro i e hi he
    have : all.length ≤ k := by simpa using h
    have := (List.getElem?_eq_some_iff.1 he).1
    omega
  | x :: l, k, h => by
    have hx : all[k]? = some x := by rw [← List.head?_drop, h]; rfl
    have hl : all.drop (k + 1) = l := by rw [← List.tail_drop, h]; rfl
    rw [checkGo]
    split
    · rename_i hr
      rw [checkGo_iff all l (k + 1) hl]
      constructor
      · intro H i e hi he
        by_cases hk : i = k
        · subst hk; rw [hx] at he; cases he; exact hr
        · exact H i e (by omega) he
      · intro H i e hi he; exact H i e (by omega) he
    · rename_i hr
      constructor
      · intro H; exact absurd H hr
      · intro H; exact absurd (H k x (Nat.le_refl _) hx) hr
theorem check_iff {l : List Epoch} : checkP l = 0 ↔ l.length ≤ 64 ∧ ∀ i e, l[i]? = some e → rightE (l.take i) e = 0 := by
  unfold checkP
  split
  · rename_i h; constructor
    · intro H; simp at H
    · rintro ⟨H, _⟩; omega
  · rename_i h
    rw [checkGo_iff l l 0 rfl]
    exact ⟨fun H => ⟨by omega, fun i e he => H i e (by omega) he⟩, fun H i e _ he => H.2 i e he⟩
theorem check_len {l : List Epoch} (h : checkP l = 0) : l.length ≤ 64 := (check_iff.1 h).1
theorem right_zero {l : List Epoch} {e : Epoch} : rightE l e = 0 ↔ e.no = l.length + 1 ∧ e.members.n ≤ 4095 ∧ e.members.n ≠ 0 ∧ (l.length ≠ 0 → pop (e.members.n ^^^ lastM l) = 1) := by
  unfold rightE
  constructor
  · intro h
    repeat' split at h
    all_goals simp_all
    all_goals omega
  · rintro ⟨h1, h2, h3, h4⟩
    rw [if_pos h1, if_neg (by omega), if_neg h3, if_neg (fun h => h.2 (h4 h.1))]
/-! ### Sets, bit by bit -/
theorem bit_eq (x k : Nat) : decide (x / 2 ^ k % 2 = 1) = x.testBit k := by rw [Nat.testBit_eq_decide_div_mod_eq]
def everyB (n : Nat) : List Epoch → Bool → Bool
  | [], b => b
  | e :: l, b => everyB n l (b && decide (e.members.n / 2 ^ n % 2 = 1))
theorem common_bit (n : Nat) : ∀ (l : List Epoch) (k s : Nat), (commonGo (k + 1) l s).testBit n = everyB n l (s.testBit n)
  | [], _, _ => rfl
  | e :: l, k, s => by
    rw [commonGo, common_bit n l (k + 1), if_neg (by omega), everyB, Nat.testBit_and, bit_eq]
theorem common_every (n : Nat) {l : List Epoch} (h : l ≠ []) : everyB n l true = decide (commonGo 0 l 0 / 2 ^ n % 2 = 1) := by
  cases l with
  | nil => exact absurd rfl h
  | cons e l =>
    rw [bit_eq, commonGo, common_bit, everyB, if_pos rfl, Nat.testBit_and, bit_eq, Bool.and_self, Bool.true_and]
theorem common_le : ∀ (l : List Epoch) (k s m : Nat), s ≤ m → (k ≠ 0 ∨ ∀ e, e ∈ l → e.members.n ≤ m) → commonGo k l s ≤ m
  | [], _, _, _, h, _ => h
  | e :: l, k, s, m, h, h2 => by
    rw [commonGo]
    refine common_le l (k + 1) _ m ?_ (.inl (by omega))
    by_cases hk : k = 0
    · rw [if_pos hk, Nat.and_self]
      rcases h2 with h2 | h2
      · exact absurd hk h2
      · exact h2 e (by simp)
    · rw [if_neg hk]; exact Nat.le_trans Nat.and_le_left h
theorem check_le {l : List Epoch} (h : checkP l = 0) : ∀ e, e ∈ l → e.members.n ≤ 4095 := by
  intro e he
  obtain ⟨i, hi, rfl⟩ := List.getElem_of_mem he
  exact (right_zero.1 ((check_iff.1 h).2 i _ (List.getElem?_eq_getElem hi))).2.1
theorem common_lt {l : List Epoch} (h : checkP l = 0) : commonGo 0 l 0 < 2 ^ 12 := by
  have := common_le l 0 0 4095 (by omega) (.inr (check_le h))
  omega
theorem mod_step (c n : Nat) : c % 2 ^ (n + 1) = if decide (c / 2 ^ n % 2 = 1) = true then c % 2 ^ n + 2 ^ n else c % 2 ^ n := by
  rw [Nat.mod_pow_succ]
  have := Nat.mod_two_eq_zero_or_one (c / 2 ^ n)
  rcases this with e | e <;> simp [e]
theorem cnt_zero_iff : ∀ (k x : Nat), cnt k x = 0 ↔ x % 2 ^ k = 0
  | 0, x => by simp [cnt, Nat.mod_one]
  | k + 1, x => by
    rw [cnt, mod_step]
    have ih := cnt_zero_iff k x
    have h2 : 0 < 2 ^ k := Nat.two_pow_pos k
    have := Nat.mod_two_eq_zero_or_one (x / 2 ^ k)
    rcases this with e | e
    · rw [e]; simp [ih]
    · rw [e]; simp
theorem cnt_zero (s : U64) : pop s.n = 0 ↔ s.n = 0 := by
  rw [pop_eq, cnt_zero_iff, Nat.mod_eq_of_lt s.lt]
/-- What the reference counts: members in the set, and those outside. -/
theorem major_iff {x : Epoch} {s a b : Nat} (ha : a = pop (x.members.n &&& s)) (hb : a + b = pop x.members.n) : x.majorB s = decide (b < a) := by
  unfold majorB
  subst ha
  rw [decide_eq_decide]
  omega
end Epoch
theorem flip_all : alln (fun k => alln (fun x => if x / 2 ^ k % 2 = 1 then (2 ^ k ≤ x ∧ x - 2 ^ k = x ^^^ 2 ^ k) else x + 2 ^ k = x ^^^ 2 ^ k) 4096) 12 = true := by kernel_rfl
theorem flip_key {k x : Nat} (hk : k < 12) (hx : x < 4096) : if x / 2 ^ k % 2 = 1 then (2 ^ k ≤ x ∧ x - 2 ^ k = x ^^^ 2 ^ k) else x + 2 ^ k = x ^^^ 2 ^ k := by
  have := alln_of (alln_of flip_all k hk) x hx
  split
  · rename_i h; rw [if_pos h] at this; exact of_decide_eq_true this
  · rename_i h; rw [if_neg h] at this; exact of_decide_eq_true this
theorem one_all : alln (fun k => cnt 64 (2 ^ k) == 1) 64 = true := by kernel_rfl
theorem pop_pow {k : Nat} (hk : k < 64) : pop (2 ^ k) = 1 := by rw [pop_eq]; exact eq_of_beq (alln_of one_all k hk)
theorem xor_back (x y : Nat) : (x ^^^ y) ^^^ x = y := by rw [Nat.xor_comm x y, Nat.xor_assoc, Nat.xor_self, Nat.xor_zero]
namespace Epoch
theorem last_le {l : List Epoch} (h : checkP l = 0) : lastM l ≤ 4095 := by
  unfold lastM
  split
  · rename_i e he; exact check_le h e (List.mem_of_getLast? he)
  · omega
theorem next_lt {l : List Epoch} {m : Nat} (h : checkP l = 0) (hm : m < 12) : lastM l ^^^ 2 ^ m < 2 ^ 12 :=
  Nat.xor_lt_two_pow (by have := last_le h; omega) (Nat.pow_lt_pow_right (by decide) hm)
theorem right_next {l : List Epoch} {m : Nat} (h : checkP l = 0) (hm : m < 12) : rightE l (next l m) = if lastM l ^^^ 2 ^ m = 0 then 8 else 0 := by
  have h1 := next_lt h hm
  have h2 : (next l m).members.n = lastM l ^^^ 2 ^ m := by
    show (U64.of (lastM l ^^^ 2 ^ (m : Int).toNat)).n = _
    rw [Int.toNat_natCast, U64.of_n (by omega)]
  unfold rightE
  rw [if_pos (show (next l m).no = l.length + 1 from rfl), h2, if_neg (by omega), xor_back, pop_pow (by omega)]
  split
  · rfl
  · rw [if_neg (by simp)]
end Epoch
theorem and_step (x y k : Nat) : (x &&& y) / 2 ^ k % 2 = if decide (x / 2 ^ k % 2 = 1) = true then (if decide (y / 2 ^ k % 2 = 1) = true then 1 else 0) else 0 := by
  have h : ∀ z, z / 2 ^ k % 2 = (z.testBit k).toNat := fun z => by
    rw [Nat.testBit_eq_decide_div_mod_eq]
    rcases Nat.mod_two_eq_zero_or_one (z / 2 ^ k) with e | e <;> simp [e]
  rw [h, Nat.testBit_and, Epoch.bit_eq, Epoch.bit_eq]
  cases x.testBit k <;> cases y.testBit k <;> rfl
end Go.Proofs.Ytlkiabiphggmgaa
