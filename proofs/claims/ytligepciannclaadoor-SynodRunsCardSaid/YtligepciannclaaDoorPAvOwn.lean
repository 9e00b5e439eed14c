/- A cell of a record that holds an empty list becomes a list of its own. No condition. -/
import Derived.Test.YtligepciannclaaDoorPAvFix
import Derived.Test.YtligepciannclaaDoorPAvMap
import Derived.Laws.Bits64
import Derived.Laws.Bits64b
set_option linter.unusedSimpArgs false
set_option linter.unusedVariables false
namespace Go.Proofs.YtligepciannclaaDoor
open Go.RowKit
def isC (hs : List (Option Nat)) (i : Nat) : Bool := match hs[i]? with | some (some _) => true | _ => false
def callsOK (rs : List Rec) (hs : List (Option Nat)) (dep : List (List Nat)) : Bool :=
  (List.range rs.length).all fun j => (List.range j).all fun i => ((dep[j]?).getD []).contains i || (match rs[i]?, rs[j]? with | some x, some y => !(isC hs i && isC hs j) && ((!isC hs i || y.ups.isEmpty) && (!isC hs j || x.ups.isEmpty)) | _, _ => false)
inductive OpsF (P : Program) (n : Nat) : List AOper → (Nat → AV) → (Nat → Option Bk) → Nat → List Rec → List (Option Nat) → (Nat → AV) → (Nat → Option Bk) → Nat → Prop
  | nil {σ : Nat → AV} {g : Nat → Option Bk} {k : Nat} : OpsF P n [] σ g k [] [] σ g k
  | cons {o : AOper} {os : List AOper} {σ σ' : Nat → AV} {g g' : Nat → Option Bk} {k k1 k' : Nat} {val : AV} {ups : List (Nat × Option Bk)} {acc : List Nat} {rs : List Rec} {hs : List (Option Nat)} (h : OpRun P σ g k o val ups acc) (hk : k ≤ k1) (hu : ∀ id, id ∈ ups.map Prod.fst → id < k1)
      (hr : OpsF P n os (putσ n o.dst val σ) (gput g ups) k1 rs hs σ' g' k') : OpsF P n (o :: os) σ g k (⟨o.dst, val, ups, acc, k⟩ :: rs) (none :: hs) σ' g' k'
  | fi {o : AOper} {os : List AOper} {σ σ' : Nat → AV} {g g' : Nat → Option Bk} {k k1 k' : Nat} {r : AV} {f : FuncId} {as_ : List AV} {ups : List (Nat × Option Bk)} {rs : List Rec} {hs : List (Option Nat)} (hg : guardA σ o.guard = some true) (hal : o.ao.allocs = false) (h : (o.ao.sem k (argσ σ)).run g = some (.call f as_)) (hc : callable P f = true) (hf : Fi P f as_ g k r (gput g ups) k1) (hk : k ≤ k1) (hu : ∀ id, id ∈ ups.map Prod.fst → id < k1)
      (hr : OpsF P n os (putσ n o.dst r σ) (gput g ups) k1 rs hs σ' g' k') : OpsF P n (o :: os) σ g k (⟨o.dst, r, ups, [], k⟩ :: rs) (some k1 :: hs) σ' g' k'
def RunF (P : Program) (n : Nat) (σ : Nat → AV) (g : Nat → Option Bk) (rs : List Rec) (hs : List (Option Nat)) (i : Nat) (o : AOper) (r : Rec) : Prop :=
  (hs[i]? = some none ∧ OpRun P (σat n (upto i) rs σ) (gat (upto i) rs g) r.fr o r.val r.ups r.acc) ∨
  ∃ f as_ k1, hs[i]? = some (some k1) ∧ guardA (σat n (upto i) rs σ) o.guard = some true ∧ o.ao.allocs = false ∧ (o.ao.sem r.fr (argσ (σat n (upto i) rs σ))).run (gat (upto i) rs g) = some (.call f as_) ∧ callable P f = true ∧ Fi P f as_ (gat (upto i) rs g) r.fr r.val (gput (gat (upto i) rs g) r.ups) k1
theorem opsF_canon {P : Program} {n : Nat} {os : List AOper} {σ σ' : Nat → AV} {g g' : Nat → Option Bk} {k k' : Nat} {rs : List Rec} {hs : List (Option Nat)} (h : OpsF P n os σ g k rs hs σ' g' k') :
    (rs.length = os.length ∧ hs.length = os.length) ∧ k ≤ k' ∧ (∀ (i : Nat) o, os[i]? = some o → ∃ r, rs[i]? = some r ∧ r.dst = o.dst ∧ RunF P n σ g rs hs i o r ∧ k ≤ r.fr) ∧
      (∀ (i j : Nat) ri rj, i < j → rs[i]? = some ri → rs[j]? = some rj → (∀ id, id ∈ ri.keys → id < rj.fr) ∧ ∀ k1, hs[i]? = some (some k1) → k1 ≤ rj.fr) ∧ (∀ (i : Nat) r, rs[i]? = some r → (∀ id, id ∈ r.keys → id < k') ∧ ∀ k1, hs[i]? = some (some k1) → k1 ≤ k') ∧ σ' = σat n (fun _ => true) rs σ ∧ g' = gat (fun _ => true) rs g := by
  induction h with
  | nil => exact ⟨⟨rfl, rfl⟩, Nat.le_refl _, fun i o ho => by simp at ho, fun i j ri rj _ h => by simp at h, fun i r h => by simp at h, rfl, rfl⟩
  | @cons o os σ σ' g g' k k1 k' val ups acc rs hs h hk hu hr ih =>
    obtain ⟨⟨i1, i1'⟩, i2, i3, i4, i5, i6, i7⟩ := ih
    have e1 : ∀ i, σat n (upto (i + 1)) (⟨o.dst, val, ups, acc, k⟩ :: rs) σ = σat n (upto i) rs (putσ n o.dst val σ) := by
      intro i; funext t
      show lastW _ _ 1 rs _ = _
      rw [lastW_shift]
      unfold σat
      congr 1
      · funext j; simp [upto]
      · rw [if_pos (by simp [upto])]; exact (putσ_wσ n t ⟨o.dst, val, ups, acc, k⟩ σ).symm
    have e2 : ∀ i, gat (upto (i + 1)) (⟨o.dst, val, ups, acc, k⟩ :: rs) g = gat (upto i) rs (gput g ups) := by
      intro i; funext id
      show lastW _ _ 1 rs _ = _
      rw [lastW_shift]
      unfold gat
      congr 1
      · funext j; simp [upto]
      · rw [if_pos (by simp [upto]), gput_kv]; rfl
    refine ⟨⟨by simp [i1], by simp [i1']⟩, Nat.le_trans hk i2, fun i o' ho => ?_, fun i j ri rj hij hi hj => ?_, fun i r' hr' => ?_, ?_, ?_⟩
    · cases i with
      | zero =>
        simp only [List.getElem?_cons_zero, Option.some.injEq] at ho
        subst ho
        refine ⟨_, rfl, rfl, ?_, Nat.le_refl _⟩
        have s0 : σat n (upto 0) (⟨o.dst, val, ups, acc, k⟩ :: rs) σ = σ := by funext t; exact lastW_none _ 0 _ fun j r _ hl => by simp [upto] at hl
        have g0 : gat (upto 0) (⟨o.dst, val, ups, acc, k⟩ :: rs) g = g := by funext t; exact lastW_none _ 0 _ fun j r _ hl => by simp [upto] at hl
        unfold RunF
        rw [s0, g0]
        exact .inl ⟨rfl, h⟩
      | succ i =>
        obtain ⟨r', r1, r2, r3, r4⟩ := i3 i o' (by simpa using ho)
        refine ⟨r', by simpa using r1, r2, ?_, Nat.le_trans hk r4⟩
        unfold RunF
        rw [e1, e2, List.getElem?_cons_succ]; exact r3
    · cases j with
      | zero => omega
      | succ j =>
        simp only [List.getElem?_cons_succ] at hj
        cases i with
        | zero =>
          simp only [List.getElem?_cons_zero, Option.some.injEq] at hi
          subst hi
          have hjl : j < os.length := by rw [← i1]; exact (List.getElem?_eq_some_iff.1 hj).1
          obtain ⟨r', r1, _, _, r4⟩ := i3 j _ (List.getElem?_eq_getElem hjl)
          rw [hj] at r1
          simp only [Option.some.injEq] at r1
          subst r1
          exact ⟨fun id hid => Nat.lt_of_lt_of_le (hu id hid) r4, fun x hx => by first | (simp at hx; done) | (simp at hx; subst hx; exact r4)⟩
        | succ i => simp only [List.getElem?_cons_succ] at hi ⊢; exact i4 i j ri rj (by omega) hi hj
    · cases i with
      | zero =>
        simp only [List.getElem?_cons_zero, Option.some.injEq] at hr'
        subst hr'
        exact ⟨fun id hid => Nat.lt_of_lt_of_le (hu id hid) i2, fun x hx => by first | (simp at hx; done) | (simp at hx; subst hx; exact i2)⟩
      | succ i => simp only [List.getElem?_cons_succ] at hr' ⊢; exact i5 i r' hr'
    · rw [i6]
      funext t
      unfold σat
      simp only [lastW]
      rw [lastW_shift, if_true, putσ_wσ n t ⟨o.dst, val, ups, acc, k⟩ σ]
    · rw [i7]
      funext id
      unfold gat
      simp only [lastW]
      rw [lastW_shift, if_true, gput_kv]
      rfl
  | @fi o os σ σ' g g' k k1 k' r f as_ ups rs hs hg hal h hc hf hk hu hr ih =>
    obtain ⟨⟨i1, i1'⟩, i2, i3, i4, i5, i6, i7⟩ := ih
    have e1 : ∀ i, σat n (upto (i + 1)) (⟨o.dst, r, ups, [], k⟩ :: rs) σ = σat n (upto i) rs (putσ n o.dst r σ) := by
      intro i; funext t
      show lastW _ _ 1 rs _ = _
      rw [lastW_shift]
      unfold σat
      congr 1
      · funext j; simp [upto]
      · rw [if_pos (by simp [upto])]; exact (putσ_wσ n t ⟨o.dst, r, ups, [], k⟩ σ).symm
    have e2 : ∀ i, gat (upto (i + 1)) (⟨o.dst, r, ups, [], k⟩ :: rs) g = gat (upto i) rs (gput g ups) := by
      intro i; funext id
      show lastW _ _ 1 rs _ = _
      rw [lastW_shift]
      unfold gat
      congr 1
      · funext j; simp [upto]
      · rw [if_pos (by simp [upto]), gput_kv]; rfl
    refine ⟨⟨by simp [i1], by simp [i1']⟩, Nat.le_trans hk i2, fun i o' ho => ?_, fun i j ri rj hij hi hj => ?_, fun i r' hr' => ?_, ?_, ?_⟩
    · cases i with
      | zero =>
        simp only [List.getElem?_cons_zero, Option.some.injEq] at ho
        subst ho
        refine ⟨_, rfl, rfl, ?_, Nat.le_refl _⟩
        have s0 : σat n (upto 0) (⟨o.dst, r, ups, [], k⟩ :: rs) σ = σ := by funext t; exact lastW_none _ 0 _ fun j r _ hl => by simp [upto] at hl
        have g0 : gat (upto 0) (⟨o.dst, r, ups, [], k⟩ :: rs) g = g := by funext t; exact lastW_none _ 0 _ fun j r _ hl => by simp [upto] at hl
        unfold RunF
        rw [s0, g0]
        exact .inr ⟨f, as_, k1, rfl, hg, hal, h, hc, hf⟩
      | succ i =>
        obtain ⟨r', r1, r2, r3, r4⟩ := i3 i o' (by simpa using ho)
        refine ⟨r', by simpa using r1, r2, ?_, Nat.le_trans hk r4⟩
        unfold RunF
        rw [e1, e2, List.getElem?_cons_succ]; exact r3
    · cases j with
      | zero => omega
      | succ j =>
        simp only [List.getElem?_cons_succ] at hj
        cases i with
        | zero =>
          simp only [List.getElem?_cons_zero, Option.some.injEq] at hi
          subst hi
          have hjl : j < os.length := by rw [← i1]; exact (List.getElem?_eq_some_iff.1 hj).1
          obtain ⟨r', r1, _, _, r4⟩ := i3 j _ (List.getElem?_eq_getElem hjl)
          rw [hj] at r1
          simp only [Option.some.injEq] at r1
          subst r1
          exact ⟨fun id hid => Nat.lt_of_lt_of_le (hu id hid) r4, fun x hx => by first | (simp at hx; done) | (simp at hx; subst hx; exact r4)⟩
        | succ i => simp only [List.getElem?_cons_succ] at hi ⊢; exact i4 i j ri rj (by omega) hi hj
    · cases i with
      | zero =>
        simp only [List.getElem?_cons_zero, Option.some.injEq] at hr'
        subst hr'
        exact ⟨fun id hid => Nat.lt_of_lt_of_le (hu id hid) i2, fun x hx => by first | (simp at hx; done) | (simp at hx; subst hx; exact i2)⟩
      | succ i => simp only [List.getElem?_cons_succ] at hr' ⊢; exact i5 i r' hr'
    · rw [i6]
      funext t
      unfold σat
      simp only [lastW]
      rw [lastW_shift, if_true, putσ_wσ n t ⟨o.dst, r, ups, [], k⟩ σ]
    · rw [i7]
      funext id
      unfold gat
      simp only [lastW]
      rw [lastW_shift, if_true, gput_kv]
      rfl
section
variable {P : Program} {E0 : Env} {n : Nat} {ops : Array Oper} {J : Nat → Prop} {base : Nat} {w0 : World} {Q : Exit → Act → World → Prop} {os : List AOper} {dep : List (List Nat)} {σ σ' : Nat → AV} {g g' : Nat → Option Bk} {k k' : Nat} {rs : List Rec} {hs : List (Option Nat)}
structure DInvF (E0 : Env) (n : Nat) (ops : Array Oper) (J : Nat → Prop) (base : Nat) (w0 : World) (σ : Nat → AV) (g : Nat → Option Bk) (k : Nat) (rs : List Rec) (hs : List (Option Nat)) (listed : Array Bool) (a : Act) (w : World) : Prop where
  ex : ∃ E : Env, E.w = w ∧ E0.Le E ∧ (∀ t, Rep E (a.tmps.getD t undef) (σat n (fun j => listed.getD j false) rs σ t)) ∧ MemAt E J base (gat (fun j => listed.getD j false) rs g) ∧
    (∀ id, E.kn id → id < k ∨ ∃ j r, listed.getD j false = true ∧ rs[j]? = some r ∧ (id ∈ r.keys ∨ ∃ k1, hs[j]? = some (some k1) ∧ id < k1)) ∧ Mk E w0.heap.size a.defers
  size : a.tmps.size = n
  below : Below base w0 w
  gl : GlE E0
  lsize : listed.size = ops.size
  closed : ∀ (j : Nat) op, ops[j]? = some op → listed.getD j false = true → ∀ e, e ∈ dirOf op → listed.getD e false = true
theorem draw_soundF {rd : Option Nat} (hrec : OpsF P n os σ g k rs hs σ' g' k') (hlen : os.length = ops.size) (hops : ∀ (j : Nat) op, ops[j]? = some op → ∃ o, os[j]? = some o ∧ cOper P ops op = some o)
    (hd : depOK ops.toList dep = true) (hsl : slotsOK os dep = true) (hid : idsOK rs dep = true) (hcs : callsOK rs hs dep = true) (hQ : ∀ a w, RelS E0 J base w0 n σ' g' k' a w → Q .normal a w) :
    ∀ (fuel : Nat) (listed : Array Bool) (a : Act) (w : World), DInvF E0 n ops J base w0 σ g k rs hs listed a w → (∀ m : List Nat, (∀ j, j ∈ m → j < ops.size ∧ listed.getD j true = false) → m.Nodup → m.length ≤ fuel) → wpAnyIn (rnd rd) 0 P .any ops Q fuel listed a w := by
  obtain ⟨⟨c1, c1'⟩, c2, c3, c4, c5, c6, c7⟩ := opsF_canon hrec
  -- all are listed where none is ready
  have done : ∀ (listed : Array Bool) (a : Act) (w : World), DInvF E0 n ops J base w0 σ g k rs hs listed a w → Region.ready .any ops listed = [] → Q .normal a w := by
    intro listed a w hI hready
    have hall : ∀ j, j < ops.size → listed.getD j false = true := by
      intro j
      induction j using Nat.strongRecOn with
      | _ j ih =>
        intro hj
        cases hl : listed.getD j false with
        | true => rfl
        | false =>
          exfalso
          have hjs : j < listed.size := by rw [hI.lsize]; exact hj
          have : j ∈ Region.ready .any ops listed := by
            rw [mem_ready]
            refine ⟨by simp [hjs] at hl ⊢; exact hl, ops[j], Array.getElem?_eq_getElem hj, fun e he hb => ?_⟩
            have hdj := hd
            unfold depOK at hdj
            simp only [Bool.and_eq_true, List.all_eq_true, List.mem_range, decide_eq_true_eq] at hdj
            have hj2 := (hdj.2 j (by simpa using hj)).1
            have hopl : ops.toList[j]? = some ops[j] := by simp [hj]
            simp only [hopl, Option.map_some, Option.getD_some] at hj2
            have hlt := hj2 e.on (mem_dirOf.2 ⟨e, he, hb, rfl⟩)
            exact ih e.on hlt (by omega)
          rw [hready] at this
          simp at this
    obtain ⟨E, rfl, hle, h1, h2, h3, hmk⟩ := hI.ex
    have e6 : σat n (fun j => listed.getD j false) rs σ = σ' := by
      rw [c6]; funext t
      refine lastW_congr _ 0 _ fun j r hr hl => absurd ?_ hl
      rw [Nat.zero_add, hall j (by rw [← hlen, ← c1]; exact (List.getElem?_eq_some_iff.1 hr).1)]
    have e7 : gat (fun j => listed.getD j false) rs g = g' := by
      rw [c7]; funext t
      refine lastW_congr _ 0 _ fun j r hr hl => absurd ?_ hl
      rw [Nat.zero_add, hall j (by rw [← hlen, ← c1]; exact (List.getElem?_eq_some_iff.1 hr).1)]
    rw [e6] at h1; rw [e7] at h2
    refine hQ a E.w ⟨⟨E, rfl, hle, h1, h2, fun id hh => ?_, hmk⟩, hI.size, hI.below, hI.gl⟩
    rcases h3 id hh with h | ⟨j, r, _, hr, hk | ⟨k1, hk1, hk⟩⟩
    · exact Nat.lt_of_lt_of_le h c2
    · exact (c5 j r hr).1 id hk
    · exact Nat.lt_of_lt_of_le hk ((c5 j r hr).2 k1 hk1)
  intro fuel
  induction fuel with
  | zero =>
    intro listed a w hI hcount
    have hr : Region.ready .any ops listed = [] := by
      cases hr : Region.ready .any ops listed with
      | nil => rfl
      | cons x xs =>
        have hx : x ∈ Region.ready .any ops listed := by rw [hr]; simp
        obtain ⟨m1, o, m2, _⟩ := mem_ready.1 hx
        have := hcount [x] (fun j hj => by simp at hj; subst hj; exact ⟨(Array.getElem?_eq_some_iff.1 m2).1, m1⟩) (by simp)
        simp at this
    exact ⟨hr, done listed a w hI hr⟩
  | succ fuel ih =>
    intro listed a w hI hcount
    refine ⟨done listed a w hI, fun i hi => ?_⟩
    obtain ⟨m1, op, m2, m3⟩ := mem_ready.1 hi
    have hil : i < ops.size := (Array.getElem?_eq_some_iff.1 m2).1
    have hunl : listed.getD i false = false := by
      have : i < listed.size := by rw [hI.lsize]; exact hil
      simp [this] at m1 ⊢; exact m1
    have hdir : ∀ e, e ∈ dirOf op → listed.getD e false = true := fun e he => by
      obtain ⟨x, hx, hb, rfl⟩ := mem_dirOf.1 he
      exact m3 x hx hb
    obtain ⟨o, ho, hco⟩ := hops i op m2
    obtain ⟨r, hri, hrd, hrun, hfr⟩ := c3 i o ho
    obtain ⟨E, rfl, hle, h1, h2, h3, hmk⟩ := hI.ex
    -- whoever is listed out of turn is free of this one
    have free : ∀ j rj oj, j ≠ i → rs[j]? = some rj → os[j]? = some oj → listed.getD j false ≠ upto i j → (slotFree (if i < j then o else oj) (if i < j then oj else o) = true ∧ idFree (if i < j then r else rj) (if i < j then rj else r) = true) := by
      intro j rj oj hne hrj hoj hl
      have hjl : j < os.length := (List.getElem?_eq_some_iff.1 hoj).1
      unfold slotsOK at hsl
      unfold idsOK at hid
      simp only [List.all_eq_true, List.mem_range, Bool.or_eq_true, List.contains_iff_mem] at hsl hid
      by_cases hij : i < j
      · rw [if_pos hij, if_pos hij, if_pos hij, if_pos hij]
        have hlj : listed.getD j false = true := by
          have hu : upto i j = false := by simp [upto]; omega
          rw [hu] at hl
          simpa using hl
        have hnd : i ∉ (dep[j]?).getD [] := by
          intro hmem
          have hjo : j < ops.size := by omega
          have := dep_closed hd hI.closed j ops[j] (Array.getElem?_eq_getElem hjo) (hI.closed j _ (Array.getElem?_eq_getElem hjo) hlj) i hmem
          rw [hunl] at this; simp at this
        have s1 := (hsl j hjl i hij).resolve_left hnd
        have s2 := (hid j (by rw [c1]; exact hjl) i hij).resolve_left hnd
        rw [ho, hoj] at s1; rw [hri, hrj] at s2
        exact ⟨s1, s2⟩
      · rw [if_neg hij, if_neg hij, if_neg hij, if_neg hij]
        have hji : j < i := by omega
        have hlj : listed.getD j false = false := by
          have hu : upto i j = true := by simp [upto]; omega
          rw [hu] at hl
          simpa using hl
        have hnd : j ∉ (dep[i]?).getD [] := by
          intro hmem
          have := dep_closed hd hI.closed i op m2 hdir j hmem
          rw [hlj] at this; simp at this
        have s1 := (hsl i (by omega) j hji).resolve_left hnd
        have s2 := (hid i (by omega) j hji).resolve_left hnd
        rw [ho, hoj] at s1; rw [hri, hrj] at s2
        exact ⟨s1, s2⟩
    have getO : ∀ (j : Nat) rj, rs[j]? = some rj → ∃ oj, os[j]? = some oj ∧ rj.dst = oj.dst := fun j rj hrj => by
      have hjl : j < os.length := by rw [← c1]; exact (List.getElem?_eq_some_iff.1 hrj).1
      obtain ⟨r', q1, q2, _, _⟩ := c3 j _ (List.getElem?_eq_getElem hjl)
      rw [hrj] at q1; simp only [Option.some.injEq] at q1; subst q1
      exact ⟨_, List.getElem?_eq_getElem hjl, q2⟩
    -- a slot that it looks at is as it comes one behind the other
    have hσ : ∀ t, t ∈ o.uses → σat n (fun j => listed.getD j false) rs σ t = σat n (upto i) rs σ t := by
      intro t ht
      refine lastW_congr _ 0 _ fun j rj hrj hl => ?_
      rw [Nat.zero_add] at hl
      by_cases hne : j = i
      · subst hne; rw [hunl] at hl; simp [upto] at hl
      · obtain ⟨oj, hoj, hdj⟩ := getO j rj hrj
        have hf := (free j rj oj hne hrj hoj hl).1
        unfold wσ
        rw [if_neg]
        rintro ⟨hdt, _⟩
        rw [hdj] at hdt
        unfold slotFree at hf
        by_cases hij : i < j
        · simp only [if_pos hij, hdt, Bool.and_eq_true, Bool.not_eq_true', List.contains_eq_mem, decide_eq_false_iff_not] at hf
          exact hf.2 ht
        · simp only [if_neg hij, hdt, Bool.and_eq_true, Bool.not_eq_true', List.contains_eq_mem, decide_eq_false_iff_not] at hf
          exact hf.1.1 ht
    have hg : ∀ id, id ∈ r.acc → gat (fun j => listed.getD j false) rs g id = gat (upto i) rs g id := by
      intro id hida
      refine lastW_congr _ 0 _ fun j rj hrj hl => ?_
      rw [Nat.zero_add] at hl
      by_cases hne : j = i
      · subst hne; rw [hunl] at hl; simp [upto] at hl
      · obtain ⟨oj, hoj, hdj⟩ := getO j rj hrj
        have hf := (free j rj oj hne hrj hoj hl).2
        cases hw : wg id rj with
        | none => rfl
        | some y =>
          exfalso
          have hk : id ∈ rj.keys := kv_mem (by unfold wg at hw; rw [hw]; simp)
          unfold idFree at hf
          by_cases hij : i < j
          · simp only [if_pos hij, Bool.and_eq_true, List.all_eq_true, Bool.not_eq_true', List.contains_eq_mem, decide_eq_false_iff_not] at hf
            exact hf.2 id hk hida
          · simp only [if_neg hij, Bool.and_eq_true, List.all_eq_true, Bool.not_eq_true', List.contains_eq_mem, decide_eq_false_iff_not] at hf
            exact (hf.1 id hk).1 hida
    have isCi : ∀ {j x}, hs[j]? = some (some x) → isC hs j = true := fun h => by unfold isC; rw [h]
    have free2 : ∀ j rj, j ≠ i → rs[j]? = some rj → listed.getD j false ≠ upto i j → (isC hs i && isC hs j) = false ∧ (isC hs i = true → rj.ups = []) ∧ (isC hs j = true → r.ups = []) := by
      intro j rj hne hrj hl
      have hjl : j < rs.length := (List.getElem?_eq_some_iff.1 hrj).1
      unfold callsOK at hcs
      simp only [List.all_eq_true, List.mem_range, Bool.or_eq_true, List.contains_iff_mem] at hcs
      by_cases hij : i < j
      · have hlj : listed.getD j false = true := by
          have hu : upto i j = false := by simp [upto]; omega
          rw [hu] at hl
          simpa using hl
        have hnd : i ∉ (dep[j]?).getD [] := by
          intro hmem
          have hjo : j < ops.size := by omega
          have := dep_closed hd hI.closed j ops[j] (Array.getElem?_eq_getElem hjo) (hI.closed j _ (Array.getElem?_eq_getElem hjo) hlj) i hmem
          rw [hunl] at this; simp at this
        have s2 := (hcs j hjl i hij).resolve_left hnd
        rw [hri, hrj] at s2
        simp only [Bool.and_eq_true, Bool.or_eq_true, Bool.not_eq_true', List.isEmpty_iff] at s2
        exact ⟨s2.1, fun h => s2.2.1.resolve_left (by rw [h]; simp), fun h => s2.2.2.resolve_left (by rw [h]; simp)⟩
      · have hji : j < i := by omega
        have hlj : listed.getD j false = false := by
          have hu : upto i j = true := by simp [upto]; omega
          rw [hu] at hl
          simpa using hl
        have hnd : j ∉ (dep[i]?).getD [] := by
          intro hmem
          have := dep_closed hd hI.closed i op m2 hdir j hmem
          rw [hlj] at this; simp at this
        have s2 := (hcs i (by omega) j hji).resolve_left hnd
        rw [hri, hrj] at s2
        simp only [Bool.and_eq_true, Bool.or_eq_true, Bool.not_eq_true', List.isEmpty_iff] at s2
        exact ⟨by rw [Bool.and_comm]; exact s2.1, fun h => s2.2.2.resolve_left (by rw [h]; simp), fun h => s2.2.1.resolve_left (by rw [h]; simp)⟩
    have fin : ∀ v E', E.Le E' → Rep E' v r.val → MemAt E' J base (gput (gat (fun j => listed.getD j false) rs g) r.ups) → Below base E.w E'.w → (∀ id, E'.kn id → (E.kn id ∨ id ∈ r.keys) ∨ ∃ k1, hs[i]? = some (some k1) ∧ id < k1) → wpAnyIn (rnd rd) 0 P .any ops Q fuel (listed.setIfInBounds i true) (a.put o.dst v) E'.w := by
      intro v E' hE hv hM hB hkn
      -- it is listed now
      have hlist : ∀ j, (listed.setIfInBounds i true).getD j false = if j = 0 + i then true else listed.getD j false := by
        intro j
        rw [Nat.zero_add]
        have hils : i < listed.size := by rw [hI.lsize]; exact hil
        by_cases hji : j = i
        · subst hji; simp [hils]
        · rw [if_neg hji, getD_set_ne false (Ne.symm hji)]
      have nσ : ∀ t, σat n (fun j => (listed.setIfInBounds i true).getD j false) rs σ t = putσ n o.dst r.val (σat n (fun j => listed.getD j false) rs σ) t := by
        intro t
        rw [← hrd, putσ_wσ]
        refine lastW_ins rs 0 i _ r hri (by rw [Nat.zero_add]; exact hunl) hlist fun j rj hij hrj hlj => ?_
        rw [Nat.zero_add] at hlj
        obtain ⟨oj, hoj, hdj⟩ := getO j rj hrj
        have hf := (free j rj oj (by omega) hrj hoj (by rw [hlj]; simp [upto]; omega)).1
        unfold slotFree at hf
        simp only [if_pos hij] at hf
        by_cases hd1 : r.dst = some t
        · left
          unfold wσ
          rw [if_neg]
          rintro ⟨hdt, _⟩
          rw [hrd] at hd1
          rw [hdj] at hdt
          simp only [hd1, hdt, Bool.and_eq_true, bne_iff_ne, ne_eq] at hf
          exact hf.1.2 trivial
        · right
          unfold wσ
          rw [if_neg]
          rintro ⟨hdt, _⟩
          exact hd1 hdt
      have ng : ∀ id, gat (fun j => (listed.setIfInBounds i true).getD j false) rs g id = gput (gat (fun j => listed.getD j false) rs g) r.ups id := by
        intro id
        rw [gput_kv]
        refine lastW_ins rs 0 i _ r hri (by rw [Nat.zero_add]; exact hunl) hlist fun j rj hij hrj hlj => ?_
        rw [Nat.zero_add] at hlj
        obtain ⟨oj, hoj, hdj⟩ := getO j rj hrj
        have hf := (free j rj oj (by omega) hrj hoj (by rw [hlj]; simp [upto]; omega)).2
        unfold idFree at hf
        simp only [if_pos hij, Bool.and_eq_true, List.all_eq_true, Bool.not_eq_true', List.contains_eq_mem, decide_eq_false_iff_not] at hf
        cases hw : wg id r with
        | none => exact .inr rfl
        | some y =>
          left
          cases hw2 : wg id rj with
          | none => rfl
          | some y2 =>
            exfalso
            have k1 : id ∈ r.keys := kv_mem (by unfold wg at hw; rw [hw]; simp)
            have k2 : id ∈ rj.keys := kv_mem (by unfold wg at hw2; rw [hw2]; simp)
            exact (hf.1 id k1).2 k2
      refine ih _ _ _ ⟨⟨E', rfl, hle.trans hE, fun t => ?_, ?_, fun id hh => ?_, ?_⟩, ?_, hI.below.trans hB, hI.gl, by simpa using hI.lsize, fun j oj hoj hlj e he => ?_⟩ fun m hm hnd => ?_
      · rw [nσ t]
        have := put_rep hE h1 hv o.dst t
        rw [hI.size] at this
        exact this
      · rw [show gat (fun j => (listed.setIfInBounds i true).getD j false) rs g = gput (gat (fun j => listed.getD j false) rs g) r.ups from funext ng]
        exact hM
      · rcases hkn id hh with (h | h) | h
        · rcases h3 id h with h | ⟨j, rj, q1, q2, q3⟩
          · exact .inl h
          · exact .inr ⟨j, rj, getD_set_true q1, q2, q3⟩
        · refine .inr ⟨i, r, ?_, hri, .inl h⟩
          rw [hlist i, Nat.zero_add, if_pos rfl]
        · refine .inr ⟨i, r, ?_, hri, .inr h⟩
          rw [hlist i, Nat.zero_add, if_pos rfl]
      · rw [(put_size a o.dst v).2]; exact hmk.step hE
      · rw [(put_size a o.dst v).1]; exact hI.size
      · rw [hlist j, Nat.zero_add] at hlj
        by_cases hji : j = i
        · subst hji
          rw [m2] at hoj; simp only [Option.some.injEq] at hoj; subst hoj
          exact getD_set_true (hdir e he)
        · rw [if_neg hji] at hlj
          exact getD_set_true (hI.closed j oj hoj hlj e he)
      · have hni : i ∉ m := fun hmem => by
          have := (hm i hmem).2
          have hils : i < listed.size := by rw [hI.lsize]; exact hil
          simp [hils] at this
        have := hcount (i :: m) (fun j hj => by
          rcases List.mem_cons.1 hj with rfl | hj
          · exact ⟨hil, m1⟩
          · refine ⟨(hm j hj).1, ?_⟩
            have h5 := (hm j hj).2
            have hji : i ≠ j := fun e => hni (e ▸ hj)
            rwa [getD_set_ne true hji] at h5) (List.nodup_cons.2 ⟨hni, hnd⟩)
        simpa using this
    rcases hrun with ⟨hnone, hrun⟩ | ⟨f, as_, k1, hsome, hgd, hal, hsem, hcl, hfi⟩
    · -- a name that nobody has
      have hname : ∃ fr', ¬ E.kn fr' ∧ (r.fr ∈ r.ups.map Prod.fst → fr' = r.fr) := by
        by_cases hin : r.fr ∈ r.ups.map Prod.fst
        · refine ⟨r.fr, fun hk => ?_, fun _ => rfl⟩
          rcases h3 _ hk with h | ⟨j, rj, hlj, hrj, hkj⟩
          · omega
          · by_cases hne : j = i
            · subst hne; rw [hunl] at hlj; simp at hlj
            · rcases hkj with hkj | ⟨k1, hk1, hkj⟩
              rotate_left
              · by_cases hij : i < j
                · have := (free2 j rj hne hrj (by rw [hlj]; simp [upto]; omega)).2.2 (isCi hk1)
                  rw [this] at hin; simp at hin
                · have := (c4 j i rj r (by omega) hrj hri).2 k1 hk1
                  omega
              by_cases hij : i < j
              · obtain ⟨oj, hoj, _⟩ := getO j rj hrj
                have hf := (free j rj oj hne hrj hoj (by rw [hlj]; simp [upto]; omega)).2
                unfold idFree at hf
                simp only [if_pos hij, Bool.and_eq_true, List.all_eq_true, Bool.not_eq_true', List.contains_eq_mem, decide_eq_false_iff_not] at hf
                exact (hf.1 _ hin).2 hkj
              · have := (c4 j i rj r (by omega) hrj hri).1 _ hkj
                exact Nat.lt_irrefl _ this
        · refine ⟨k', fun hk => ?_, fun h => absurd h hin⟩
          rcases h3 _ hk with h | ⟨j, rj, hlj, hrj, hkj | ⟨k1, hk1, hkj⟩⟩
          · omega
          · exact Nat.lt_irrefl _ ((c5 j rj hrj).1 _ hkj)
          · exact Nat.lt_irrefl _ (Nat.lt_of_lt_of_le hkj ((c5 j rj hrj).2 k1 hk1))
      obtain ⟨fr', hfr1, hfr2⟩ := hname
      obtain ⟨acc', hrun'⟩ := hrun.local hσ hg hfr2
      exact step_sound (hI.gl.step hle) h1 h2 hfr1 m2 hco hrun' fun v E' hE hv hM hB hkn => fin v E' hE hv hM hB fun id h => .inl (hkn id h)
    · have hci := isCi hsome
      have gall : gat (fun j => listed.getD j false) rs g = gat (upto i) rs g := by
        funext id
        refine lastW_congr _ 0 _ fun j rj hrj hl => ?_
        rw [Nat.zero_add] at hl
        by_cases hne : j = i
        · subst hne; rw [hunl] at hl; simp [upto] at hl
        · unfold wg; rw [(free2 j rj hne hrj hl).2.1 hci]; rfl
      have hknl : ∀ id, E.kn id → id < r.fr := by
        intro id hid
        rcases h3 id hid with h | ⟨j, rj, hlj, hrj, hkj⟩
        · omega
        · by_cases hne : j = i
          · subst hne; rw [hunl] at hlj; simp at hlj
          · by_cases hij : i < j
            · have hf2 := free2 j rj hne hrj (by rw [hlj]; simp [upto]; omega)
              rcases hkj with hkj | ⟨x, hx, hkj⟩
              · unfold Rec.keys at hkj; rw [hf2.2.1 hci] at hkj; simp at hkj
              · have := hf2.1; rw [hci, isCi hx] at this; simp at this
            · rcases hkj with hkj | ⟨x, hx, hkj⟩
              · exact (c4 j i rj r (by omega) hrj hri).1 _ hkj
              · have := (c4 j i rj r (by omega) hrj hri).2 x hx; omega
      have hgd2 : guardA (σat n (fun j => listed.getD j false) rs σ) o.guard = some true := by
        rw [← hgd]
        cases hg0 : o.guard with
        | none => rfl
        | some p =>
          obtain ⟨t, w⟩ := p
          simp only [guardA, hσ t (by simp [AOper.uses, hg0])]
      have hsem2 : (o.ao.sem r.fr (argσ (σat n (fun j => listed.getD j false) rs σ))).run (gat (fun j => listed.getD j false) rs g) = some (.call f as_) := by
        rw [gall, sem_congr r.fr fun t ht => hσ t (by simp [AOper.uses, ht])]; exact hsem
      have hdd := cOper_inv hco
      have hse : ∀ e, op.semAt (rnd rd).round e = execOp e op := fun e => Oper.semAt_plain (rnd rd) _ _ (cOp_nodefer hdd.2)
      unfold wpOpIn
      simp only [m2]
      rw [guard_sound h1 hco hgd2, if_pos rfl]
      obtain ⟨vs, e1, e2⟩ := call_sound (Args.of (hI.gl.step hle) h1) hdd.2 hsem2 hcl
      unfold Oper.wpIn
      rw [hse, e1, Oper.uponIn_enter]
      have h2' := h2
      rw [gall] at h2'
      refine ⟨rnd_out, rnd_depth, calls_rnd ((hfi E J base vs (hI.gl.step hle) h2' hknl e2).mono ?_)⟩
      rintro e w' ⟨v, E', rfl, rfl, q1, q2, q3, q4, q5⟩
      have hfin := fin v E' q1 q2 (by rw [gall]; exact q3) q4 fun id h => .inr ⟨k1, hsome, q5 id h⟩
      rw [hdd.1] at hfin
      exact hfin
theorem region_drawF {id : Nat} (hmix : P.follows .mixedOrders = true) (hrec : OpsF P n os σ g k rs hs σ' g' k') (hlen : os.length = ops.size) (hops : ∀ (j : Nat) op, ops[j]? = some op → ∃ o, os[j]? = some o ∧ cOper P ops op = some o)
    (hd : depOK ops.toList dep = true) (hsl : slotsOK os dep = true) (hid : idsOK rs dep = true) (hcs : callsOK rs hs dep = true) (hQ : ∀ a w, RelS E0 J base w0 n σ' g' k' a w → Q .normal a w) {a : Act} {w : World} (hrel : RelS E0 J base w0 n σ g k a w) {rd : Option Nat} : (Code.region id ops true).wpIn (rnd rd) 0 P Q a w := by
  refine wpIn_region_any hmix ?_
  obtain ⟨E, rfl, hle, h1, h2, h3, hmk⟩ := hrel.ex
  obtain ⟨E', hw, hE, hM, _, hk, _, _⟩ := h2.drew
  have hrep : ∀ (j : Nat), (Array.replicate ops.size false).getD j false = false := by
    intro j
    rcases Nat.lt_or_ge j ops.size with h | h
    · simp [h]
    · simp [h]
  refine draw_soundF hrec hlen hops hd hsl hid hcs hQ ops.size _ a _ ⟨⟨E', hw, hle.trans hE, fun t => ?_, ?_, fun id hh => .inl (h3 id ((hk id).1 hh)), hmk.step hE⟩, hrel.size, hrel.below.drew, hrel.gl, by simp, fun j op hop hl => ?_⟩ fun m hm hnd => ?_
  · have : σat n (fun j => (Array.replicate ops.size false).getD j false) rs σ t = σ t := lastW_none _ 0 _ fun j r _ hl => by rw [hrep] at hl; simp at hl
    rw [this]; exact (h1 t).step hE
  · have : gat (fun j => (Array.replicate ops.size false).getD j false) rs g = g := by funext id; exact lastW_none _ 0 _ fun j r _ hl => by rw [hrep] at hl; simp at hl
    rw [this]; exact hM
  · rw [hrep] at hl; simp at hl
  · exact nodup_len _ _ hnd fun j hj => (hm j hj).1
inductive DrawF (P : Program) (n : Nat) (dep : List (List Nat)) : List AOper → (Nat → AV) → (Nat → Option Bk) → Nat → List Rec → List (Option Nat) → (Nat → AV) → (Nat → Option Bk) → Nat → Prop
  | nil {σ : Nat → AV} {g : Nat → Option Bk} {k : Nat} {rs : List Rec} {hs : List (Option Nat)} (hid : idsOK rs dep = true) (hcs : callsOK rs hs dep = true) : DrawF P n dep [] σ g k rs hs σ g k
  | cons {o : AOper} {os : List AOper} {σ σ' : Nat → AV} {g g' : Nat → Option Bk} {k k1 k' : Nat} {val : AV} {ups : List (Nat × Option Bk)} {acc : List Nat} {rs : List Rec} {hs : List (Option Nat)} (h : OpRun P σ g k o val ups acc) (hk : k ≤ k1) (hu : ∀ id, id ∈ ups.map Prod.fst → id < k1)
      (hr : DrawF P n dep os (putσ n o.dst val σ) (gput g ups) k1 (rs ++ [⟨o.dst, val, ups, acc, k⟩]) (hs ++ [none]) σ' g' k') : DrawF P n dep (o :: os) σ g k rs hs σ' g' k'
  | fi {o : AOper} {os : List AOper} {σ σ' : Nat → AV} {g g' : Nat → Option Bk} {k k1 k' : Nat} {r : AV} {f : FuncId} {as_ : List AV} {ups : List (Nat × Option Bk)} {rs : List Rec} {hs : List (Option Nat)} (hg : guardA σ o.guard = some true) (hal : o.ao.allocs = false) (h : (o.ao.sem k (argσ σ)).run g = some (.call f as_)) (hc : callable P f = true) (hf : Fi P f as_ g k r (gput g ups) k1) (hk : k ≤ k1) (hu : ∀ id, id ∈ ups.map Prod.fst → id < k1)
      (hr : DrawF P n dep os (putσ n o.dst r σ) (gput g ups) k1 (rs ++ [⟨o.dst, r, ups, [], k⟩]) (hs ++ [some k1]) σ' g' k') : DrawF P n dep (o :: os) σ g k rs hs σ' g' k'
theorem OpsF.snoc {o : AOper} {k1 : Nat} {val : AV} {ups : List (Nat × Option Bk)} {acc : List Nat} (h0 : OpsF P n os σ g k rs hs σ' g' k') (h : OpRun P σ' g' k' o val ups acc) (hk : k' ≤ k1) (hu : ∀ id, id ∈ ups.map Prod.fst → id < k1) : OpsF P n (os ++ [o]) σ g k (rs ++ [⟨o.dst, val, ups, acc, k'⟩]) (hs ++ [none]) (putσ n o.dst val σ') (gput g' ups) k1 := by
  induction h0 with
  | nil => exact .cons h hk hu .nil
  | cons h1 h2 h3 h4 ih => exact .cons h1 h2 h3 (ih h hk)
  | fi h1 h2 h3 h4 h5 h6 h7 h8 ih => exact .fi h1 h2 h3 h4 h5 h6 h7 (ih h hk)
theorem OpsF.snocF {o : AOper} {k1 : Nat} {r : AV} {f : FuncId} {as_ : List AV} {ups : List (Nat × Option Bk)} (h0 : OpsF P n os σ g k rs hs σ' g' k') (hg : guardA σ' o.guard = some true) (hal : o.ao.allocs = false) (h : (o.ao.sem k' (argσ σ')).run g' = some (.call f as_)) (hc : callable P f = true) (hf : Fi P f as_ g' k' r (gput g' ups) k1) (hk : k' ≤ k1) (hu : ∀ id, id ∈ ups.map Prod.fst → id < k1) :
    OpsF P n (os ++ [o]) σ g k (rs ++ [⟨o.dst, r, ups, [], k'⟩]) (hs ++ [some k1]) (putσ n o.dst r σ') (gput g' ups) k1 := by
  induction h0 with
  | nil => exact .fi hg hal h hc hf hk hu .nil
  | cons h1 h2 h3 h4 ih => exact .cons h1 h2 h3 (ih hg h hf hk)
  | fi h1 h2 h3 h4 h5 h6 h7 h8 ih => exact .fi h1 h2 h3 h4 h5 h6 h7 (ih hg h hf hk)
theorem DrawF.all {pre : List AOper} {σ0 : Nat → AV} {g0 : Nat → Option Bk} {kk : Nat} (h0 : OpsF P n pre σ0 g0 kk rs hs σ g k) (h : DrawF P n dep os σ g k rs hs σ' g' k') : ∃ rs' hs', OpsF P n (pre ++ os) σ0 g0 kk rs' hs' σ' g' k' ∧ idsOK rs' dep = true ∧ callsOK rs' hs' dep = true := by
  induction h generalizing pre with
  | nil h1 h2 => exact ⟨_, _, by rw [List.append_nil]; exact h0, h1, h2⟩
  | @cons o os σ σ' g g' k k1 k' val ups acc rs hs h hk hu hr ih =>
    have := ih (pre := pre ++ [o]) (h0.snoc h hk hu)
    rwa [List.append_assoc] at this
  | @fi o os σ σ' g g' k k1 k' r f as_ ups rs hs hg hal h hc hf hk hu hr ih =>
    have := ih (pre := pre ++ [o]) (h0.snocF hg hal h hc hf hk hu)
    rwa [List.append_assoc] at this
theorem EW.drawF {k0 : Nat} {s : S3} {Q : Ex → S3 → Prop} {s' : S3} (h : DrawF P n dep os s.σ s.g s.k [] [] s'.σ s'.g s'.k) (hq : Q .normal s') : EW P n k0 (.reg os (some dep)) s Q := by
  intro rd c E0 J base w0 a w hrd hc hk hr
  obtain ⟨id, ops, draw, rfl, h1, h2⟩ := cCode_reg hc
  rcases h2 with ⟨rfl, hh⟩ | ⟨rfl, d, hd, h3, h4, h5⟩
  · simp at hh
  · simp only [Option.some.injEq] at hd
    subst hd
    obtain ⟨k1, k2⟩ := cOpers_get h1
    obtain ⟨rs', hs', a1, a2, a3⟩ := DrawF.all .nil h
    rw [List.nil_append] at a1
    exact region_drawF h5 a1 (by rw [← k1]; simp) (fun j op hj => k2 j op (by simpa using hj)) h3 h4 a2 a3 (fun a' w' hr' => ⟨.normal, s', hq, rfl, hr'⟩) hr
def DF (P : Program) (n : Nat) (dep : List (List Nat)) (os : List AOper) (x : L3) (rs : List Rec) (hs : List (Option Nat)) (K : L3 → Prop) : Prop :=
  ∃ x' : L3, DrawF P n dep os (slot x.t) (look x.m) x.m.length rs hs (slot x'.t) (look x'.m) x'.m.length ∧ K x'
end
section
variable {P : Program} {n k k0 : Nat} {x : L3} {K : L3 → Prop} {Q : Ex → L3 → Prop} {R : List AOper} {dep : List (List Nat)} {rs : List Rec} {hs : List (Option Nat)}
theorem DF.nil (hid : idsOK rs dep = true) (hcs : callsOK rs hs dep = true) (h : K x) : DF P n dep [] x rs hs K := ⟨x, .nil hid hcs, h⟩
theorem DF.cons {o : AOper} {os : List AOper} {val : AV} {ups : List (Nat × Option Bk)} {acc : List Nat} (hd : dstOK n o.dst = true) (h : opE o x = .done val ups acc) (hu : upsOK x.m.length ups = true)
    (hr : DF P n dep os ⟨setA x.t o.dst val, mput x.m ups⟩ (rs ++ [⟨o.dst, val, ups, acc, x.m.length⟩]) (hs ++ [none]) K) : DF P n dep (o :: os) x rs hs K := by
  obtain ⟨x', h1, h4⟩ := hr
  simp only [setA_slot _ _ hd] at h1
  obtain ⟨m1, m2, m3⟩ := mput_spec ups x.m hu
  rw [m1] at h1
  exact ⟨x', .cons (opE_done h) m2 m3 h1, h4⟩
theorem runN_df : ∀ (c : Nat) (os : List AOper) (x x' : L3) (rs : List Rec) (hs : List (Option Nat)), runN n c os x = some x' → DF P n dep (os.drop c) x' (rs ++ recN c os x) (hs ++ List.replicate c none) K → DF P n dep os x rs hs K
  | 0, os, x, x', rs, hs, h, hr => by simp only [runN, Option.some.injEq] at h; subst h; simpa [recN] using hr
  | c + 1, [], x, x', rs, hs, h, hr => by simp [runN] at h
  | c + 1, o :: os, x, x', rs, hs, h, hr => by
    simp only [runN] at h
    cases hd : dstOK n o.dst with
    | false => rw [hd] at h; simp at h
    | true =>
      rw [hd, cond_true] at h
      split at h
      · rename_i v u hv
        obtain ⟨acc, he⟩ := opV_done hv
        cases hu : upsOK x.m.length u with
        | false => rw [hu] at h; simp at h
        | true =>
          rw [hu, cond_true] at h
          refine DF.cons hd he hu (runN_df c os _ x' _ _ h ?_)
          simp only [recN, he] at hr
          simpa [List.replicate_succ] using hr
      · simp at h
theorem DF.run (c : Nat) {x' : L3} (h : runN n c (R.drop k) x = some x') (hr : DF P n dep (R.drop (k + c)) x' (rs ++ recN c (R.drop k) x) (hs ++ List.replicate c none) K) : DF P n dep (R.drop k) x rs hs K :=
  runN_df c _ x x' rs hs h (by rw [List.drop_drop]; exact hr)
theorem DF.last (c : Nat) (live : List Nat) {b : AC} {x' : L3} (h : (runN n c (R.drop k) x).map (L3.keep live) = some x') (he : ((R.drop (k + c)).isEmpty && (idsOK (rs ++ recN c (R.drop k) x) dep && callsOK (rs ++ recN c (R.drop k) x) (hs ++ List.replicate c none) dep)) = true) (hr : EL P n k0 b x' Q) : DF P n dep (R.drop k) x rs hs fun y => EL P n k0 b y Q := by
  simp only [Bool.and_eq_true] at he
  cases hy : runN n c (R.drop k) x with
  | none => rw [hy] at h; simp at h
  | some y =>
    rw [hy] at h
    simp only [Option.map_some, Option.some.injEq] at h
    refine DF.run c hy ?_
    rw [List.isEmpty_iff.1 he.1]
    exact DF.nil he.2.1 he.2.2 (EL.prune live (by rw [h]; exact hr))
theorem DF.fi {f : FuncId} {ar : List AV} {r : AV} {m' : List (Option Bk)} {x' : L3} (u : List (Nat × Option Bk)) (hl : Nat.blt k R.length = true) (h : opE (opD R k) x = .call f ar) (hc : callable P f = true) (hf : Fi P f ar (look x.m) x.m.length r (look m') m'.length)
    (hu : (upsOK x.m.length u && !(opD R k).ao.allocs) = true) (hm : mput x.m u = m') (hx : (bif dstOK n (opD R k).dst then some (⟨setA x.t (opD R k).dst r, m'⟩ : L3) else none) = some x') (hr : DF P n dep (R.drop (k + 1)) x' (rs ++ [⟨(opD R k).dst, r, u, [], x.m.length⟩]) (hs ++ [some m'.length]) K) : DF P n dep (R.drop k) x rs hs K := by
  rw [opD_drop hl]
  simp only [Bool.and_eq_true, Bool.not_eq_true'] at hu
  cases hd : dstOK n (opD R k).dst with
  | false => rw [hd] at hx; simp at hx
  | true =>
    rw [hd, cond_true] at hx
    simp only [Option.some.injEq] at hx
    subst hx
    obtain ⟨z, h1, h3⟩ := hr
    simp only [setA_slot _ _ hd] at h1
    obtain ⟨m1, m2, m3⟩ := mput_spec u x.m hu.1
    rw [hm] at m1 m2 m3
    rw [m1] at h1 hf
    obtain ⟨g1, g2⟩ := opE_call h
    exact ⟨z, .fi g1 hu.2 g2 hc hf m2 m3 h1, h3⟩
theorem EL.sdrawF {b : AC} (h : DF P n dep (R.drop 0) x [] [] fun y => EL P n k0 b y Q) : EL P n k0 (.seq (.reg R (some dep)) b) x Q := by
  rw [List.drop_zero] at h
  obtain ⟨x', h1, h3⟩ := h
  exact EL.seq (EW.drawF (s' := x'.s) h1 ⟨x', rfl, h3⟩)
end
open Go.RowKit
section
variable {P : Program} {n k k0 : Nat} {x : L3} {K : L3 → Prop} {Q : Ex → L3 → Prop} {R : List AOper} {dep : List (List Nat)} {rs : List Rec} {hs : List (Option Nat)} {b : AC}
theorem owl (c : Nat) (live : List Nat) (x' : L3) (hr : EL P n k0 b x' Q) (h : (runN n c (R.drop k) x).map (L3.keep live) = some x' := by kernel_rfl) (he : (R.drop (k + c)).isEmpty = true := by kernel_rfl) : OW P n k0 (R.drop k) x fun y => EL P n k0 b y Q := OW.last c live h he hr
theorem srl (c : Nat) (live : List Nat) (x' : L3) (hr : EL P n k0 b x' Q) (h : (runN n c (R.drop 0) x).map (L3.keep live) = some x' := by kernel_rfl) (he : (R.drop (0 + c)).isEmpty = true := by kernel_rfl) : EL P n k0 (.seq (.reg R none) b) x Q := EL.sreg (OW.last c live h he hr)
theorem owr (c : Nat) (x' : L3) (hr : OW P n k0 (R.drop (k + c)) x' K) (h : runN n c (R.drop k) x = some x' := by kernel_rfl) : OW P n k0 (R.drop k) x K := OW.run c h hr
theorem srr (c : Nat) (x' : L3) (hr : OW P n k0 (R.drop (0 + c)) x' fun y => EL P n k0 b y Q) (h : runN n c (R.drop 0) x = some x' := by kernel_rfl) : EL P n k0 (.seq (.reg R none) b) x Q := EL.sreg (OW.run c h hr)
theorem owe (c : Nat) (x' : L3) (hr : K x') (h : runN n c (R.drop k) x = some x' := by kernel_rfl) (he : (R.drop (k + c)).isEmpty = true := by kernel_rfl) : OW P n k0 (R.drop k) x K := OW.end c h he hr
theorem roe (c : Nat) (x' : L3) (hr : Q .normal x') (h : runN n c (R.drop 0) x = some x' := by kernel_rfl) (he : (R.drop (0 + c)).isEmpty = true := by kernel_rfl) : EL P n k0 (.reg R none) x Q := EL.reg0 (OW.end c h he hr)
theorem dwr (c : Nat) (x' : L3) (hr : DW P n dep (R.drop (k + c)) x' (rs ++ recN c (R.drop k) x) K) (h : runN n c (R.drop k) x = some x' := by kernel_rfl) : DW P n dep (R.drop k) x rs K := DW.run c h hr
theorem dwl (c : Nat) (live : List Nat) (x' : L3) (hr : EL P n k0 b x' Q) (h : (runN n c (R.drop k) x).map (L3.keep live) = some x' := by kernel_rfl) (he : ((R.drop (k + c)).isEmpty && idsOK (rs ++ recN c (R.drop k) x) dep) = true := by kernel_rfl) : DW P n dep (R.drop k) x rs fun y => EL P n k0 b y Q := DW.last c live h he hr
theorem sdl (c : Nat) (live : List Nat) (x' : L3) (hr : EL P n k0 b x' Q) (h : (runN n c (R.drop 0) x).map (L3.keep live) = some x' := by kernel_rfl) (he : ((R.drop (0 + c)).isEmpty && idsOK ([] ++ recN c (R.drop 0) x) dep) = true := by kernel_rfl) : EL P n k0 (.seq (.reg R (some dep)) b) x Q := EL.sdraw (DW.last c live h he hr)
theorem sdr (c : Nat) (x' : L3) (hr : DW P n dep (R.drop (0 + c)) x' ([] ++ recN c (R.drop 0) x) fun y => EL P n k0 b y Q) (h : runN n c (R.drop 0) x = some x' := by kernel_rfl) : EL P n k0 (.seq (.reg R (some dep)) b) x Q := EL.sdraw (DW.run c h hr)
theorem dwe (c : Nat) (x' : L3) (hr : K x') (h : runN n c (R.drop k) x = some x' := by kernel_rfl) (he : ((R.drop (k + c)).isEmpty && idsOK (rs ++ recN c (R.drop k) x) dep) = true := by kernel_rfl) : DW P n dep (R.drop k) x rs K := DW.end c h he hr
theorem dfr (c : Nat) (x' : L3) (hr : DF P n dep (R.drop (k + c)) x' (rs ++ recN c (R.drop k) x) (hs ++ List.replicate c none) K) (h : runN n c (R.drop k) x = some x' := by kernel_rfl) : DF P n dep (R.drop k) x rs hs K := DF.run c h hr
theorem dfl (c : Nat) (live : List Nat) (x' : L3) (hr : EL P n k0 b x' Q) (h : (runN n c (R.drop k) x).map (L3.keep live) = some x' := by kernel_rfl) (he : ((R.drop (k + c)).isEmpty && (idsOK (rs ++ recN c (R.drop k) x) dep && callsOK (rs ++ recN c (R.drop k) x) (hs ++ List.replicate c none) dep)) = true := by kernel_rfl) : DF P n dep (R.drop k) x rs hs fun y => EL P n k0 b y Q := DF.last c live h he hr
theorem cnT {a : Arg} {y z : AC} (h : EL P n k0 y x Q) (hb : argσ (slot x.t) a = .v (.bool true) := by kernel_rfl) : EL P n k0 (.cond a y z) x Q := EL.condT hb h
theorem cnF {a : Arg} {y z : AC} (h : EL P n k0 z x Q) (hb : argσ (slot x.t) a = .v (.bool false) := by kernel_rfl) : EL P n k0 (.cond a y z) x Q := EL.condF hb h
theorem rtr {f : L3 → Prop} (h : Q .ret x) : EL P n k0 .ret x (Ex.thenL f Q) := EL.ret (tR h)
theorem skn {f : L3 → Prop} (h : f x) : EL P n k0 .skip x (Ex.thenL f Q) := EL.skip (tN h)
theorem pq {α : Type} {m : List (Option Bk)} {id : Nat} (sz : Nat) (f : α → List AV) (xs : List α) (h : look m id = some ⟨sz, xs.map f⟩ := by kernel_rfl) (hp : ∀ y, (f y).all AV.pu1 = true := by intro y; kernel_rfl) : PuE m id := pu sz f xs h hp
theorem smp {α : Type} {g : Nat → Option Bk} (f : α → List AV) (xs : List α) {id sz n : Nat} (hB : g id = some ⟨sz, xs.map f⟩ := by kernel_rfl) (hp : ∀ y, (f y).all AV.pu1 = true := by intro y; kernel_rfl) (hn : n = xs.length := by simp) : (snap1 (.own id sz 0 n)).run g = some (.lst sz (xs.map f)) := snap1_map f xs hB hp hn
end
open Go.RowKit
abbrev uf (i : Nat) : Src0 := .old i false
abbrev ut (i : Nat) : Src0 := .old i true
theorem bqT {α : Type} [BEq α] [LawfulBEq α] {a b : α} (h : (a == b) = true) : a = b := eq_of_beq h
theorem bqF {α : Type} [BEq α] [LawfulBEq α] {a b : α} (h : (a == b) = false) : ¬ a = b := fun e => by subst e; simp at h
theorem bnT {α : Type} [BEq α] [LawfulBEq α] {a b : α} (h : (a != b) = true) : ¬ a = b := fun e => by subst e; simp at h
theorem bnF {α : Type} [BEq α] [LawfulBEq α] {a b : α} (h : (a != b) = false) : a = b := by simpa using h
theorem fne {n k0 : Nat} {x : L3} {res : List ARes} {r : AV} {m' : List (Option Bk)} (live : List Nat) (src : List Src0) (y : L3) (hp : PuS x.m src) (h : normL k0 live src [] x = some y := by kernel_rfl) (hr : (resR (slot y.t) res).run (look y.m) = some r := by kernel_rfl) (hm : y.m = m' := by rfl) :
    (Ex.ret = .normal ∨ Ex.ret = .ret) ∧ ∃ y : L3, x.s.Le k0 n y.s ∧ (resR (slot y.t) res).run (look y.m) = some r ∧ y.m = m' := ⟨.inr rfl, y, norm_le h hp, hr, hm⟩
section
variable {x : L3} {res : List ARes} {r' : AV}
theorem rqe (r : AV) (he : r = r') (h : ((resR (slot x.t) res).bind snapR).run (look x.m) = some r := by kernel_rfl) : (Ex.ret = .normal ∨ Ex.ret = .ret) ∧ ∃ q, ((resR (slot x.t) res).bind snapR).run (look x.m) = some q ∧ Ale q r' := ⟨.inr rfl, r, h, Ale.of_eq he⟩
theorem rqa (r : AV) {b : AV} (ha : Ale r b) (he : b = r') (h : ((resR (slot x.t) res).bind snapR).run (look x.m) = some r := by kernel_rfl) : (Ex.ret = .normal ∨ Ex.ret = .ret) ∧ ∃ q, ((resR (slot x.t) res).bind snapR).run (look x.m) = some q ∧ Ale q r' := ⟨.inr rfl, r, h, Ale.trans ha (Ale.of_eq he)⟩
theorem rqs (r r0 : AV) (h : (snapR r0).run (look x.m) = some r) (he : r = r') (h0 : (resR (slot x.t) res).run (look x.m) = some r0 := by kernel_rfl) : (Ex.ret = .normal ∨ Ex.ret = .ret) ∧ ∃ q, ((resR (slot x.t) res).bind snapR).run (look x.m) = some q ∧ Ale q r' := ⟨.inr rfl, r, run_snap h0 h, Ale.of_eq he⟩
end
theorem fnw {P : Program} {f : FuncId} {F : AFn} (hF : cFunc P f = some F) {as_ : List AV} {r : AV} (h : EL P F.n 0 F.code (start as_) fun e x => (e = .normal ∨ e = .ret) ∧ ∃ r', ((resR (slot x.t) F.res).bind snapR).run (look x.m) = some r' ∧ Ale r' r) (hl : as_.length ≤ F.n := by exact of_decide_eq_true (by kernel_rfl)) : Fn P f as_ r := fW hF hl h
theorem fiw {P : Program} {f : FuncId} {F : AFn} (hF : cFunc P f = some F) {as_ : List AV} {r : AV} {m m' : List (Option Bk)} (h : EL P F.n m.length F.code ⟨startT 0 as_, m⟩ fun e x => (e = .normal ∨ e = .ret) ∧ ∃ y : L3, x.s.Le m.length F.n y.s ∧ (resR (slot y.t) F.res).run (look y.m) = some r ∧ y.m = m') (hl : as_.length ≤ F.n := by exact of_decide_eq_true (by kernel_rfl)) : Fi P f as_ (look m) m.length r (look m') m'.length := fV hF hl h
section
variable {P : Program} {n k k0 : Nat} {x : L3} {K : L3 → Prop} {R : List AOper}
theorem owg {f : FuncId} {bs : List AV} {r : AV} (ar : List AV) (x' : L3) (hf : Fn P f bs r) (hr : OW P n k0 (R.drop (k + 1)) x' K) (hc : callable P f = true := by kernel_rfl) (hl : Nat.blt k R.length = true := by kernel_rfl) (h : opE (opD R k) x = .call f ar := by kernel_rfl) (hs : (snapAs ar).run (look x.m) = some bs := by kernel_rfl)
    (hx : (bif dstOK n (opD R k).dst && upsOK x.m.length (callUps ar r) then some (⟨setA x.t (opD R k).dst r, mput x.m (callUps ar r)⟩ : L3) else none) = some x' := by kernel_rfl) : OW P n k0 (R.drop k) x K := OW.fn hl h hc hf hs hx hr
theorem dwg {dep : List (List Nat)} {rs : List Rec} {f : FuncId} {bs : List AV} {r : AV} (ar : List AV) (x' : L3) (hf : Fn P f bs r) (hr : DW P n dep (R.drop (k + 1)) x' (rs ++ [⟨(opD R k).dst, r, callUps ar r, accCall (opD R k).ao ar x, x.m.length⟩]) K) (hc : callable P f = true := by kernel_rfl) (hl : Nat.blt k R.length = true := by kernel_rfl) (h : opE (opD R k) x = .call f ar := by kernel_rfl) (hs : (snapAs ar).run (look x.m) = some bs := by kernel_rfl)
    (hx : (bif dstOK n (opD R k).dst && upsOK x.m.length (callUps ar r) then some (⟨setA x.t (opD R k).dst r, mput x.m (callUps ar r)⟩ : L3) else none) = some x' := by kernel_rfl) : DW P n dep (R.drop k) x rs K := DW.fn hl h hc hf hs hx hr
theorem owj {f : FuncId} (ar : List AV) (r : AV) (m' : List (Option Bk)) (x' : L3) (hf : Fi P f ar (look x.m) x.m.length r (look m') m'.length) (hr : OW P n k0 (R.drop (k + 1)) x' K) (hc : callable P f = true := by kernel_rfl) (hl : Nat.blt k R.length = true := by kernel_rfl) (h : opE (opD R k) x = .call f ar := by kernel_rfl)
    (hx : (bif dstOK n (opD R k).dst then some (⟨setA x.t (opD R k).dst r, m'⟩ : L3) else none) = some x' := by kernel_rfl) : OW P n k0 (R.drop k) x K := OW.fi hl h hc hf hx hr
theorem ow2 {v : AV} {u : List (Nat × Option Bk)} {acc : List Nat} (x' : L3) (h : opE (opD R k) x = .done v u acc) (hr : OW P n k0 (R.drop (k + 1)) x' K) (hl : Nat.blt k R.length = true := by kernel_rfl) (hx : (bif dstOK n (opD R k).dst && upsOK x.m.length u then some (⟨setA x.t (opD R k).dst v, mput x.m u⟩ : L3) else none) = some x' := by kernel_rfl) : OW P n k0 (R.drop k) x K := OW.ope hl h hx hr
theorem dw2 {dep : List (List Nat)} {rs : List Rec} {v : AV} {u : List (Nat × Option Bk)} {acc : List Nat} (x' : L3) (h : opE (opD R k) x = .done v u acc) (hr : DW P n dep (R.drop (k + 1)) x' (rs ++ [⟨(opD R k).dst, v, u, acc, x.m.length⟩]) K) (hl : Nat.blt k R.length = true := by kernel_rfl) (hx : (bif dstOK n (opD R k).dst && upsOK x.m.length u then some (⟨setA x.t (opD R k).dst v, mput x.m u⟩ : L3) else none) = some x' := by kernel_rfl) : DW P n dep (R.drop k) x rs K := DW.ope hl h hx hr
end
section
variable {o : AOper} {x : L3}
theorem oln {α : Type} (f : α → List AV) (xs : List α) (a : Arg) (sz : Nat) (ho : o.ao = .len false a := by kernel_rfl) (hg : guardA (slot x.t) o.guard = some true := by kernel_rfl) (ha : argσ (slot x.t) a = .lst sz (xs.map f) ∨ argσ (slot x.t) a = .tls sz (xs.map f) := by exact .inl rfl) : opE o x = .done (VI xs.length) [] [] := opE_len f xs a sz ho hg ha
theorem oid {α : Type} (f : α → List AV) (xs : List α) (a i : Arg) (sz : Nat) (q : IntKind) (m : Int) (y : α) (h0 : 0 ≤ m) (hy : xs[m.toNat]? = some y) (ho : o.ao = .iad sz a i := by kernel_rfl) (hg : guardA (slot x.t) o.guard = some true := by kernel_rfl) (ha : argσ (slot x.t) a = .lst sz (xs.map f) ∨ argσ (slot x.t) a = .tls sz (xs.map f) := by exact .inl rfl) (hi : argσ (slot x.t) i = .v (.int q m) := by rfl) : opE o x = .done (.pim (f y) 0) [] [] := opE_iad f xs a i sz q m y ho hg ha hi h0 hy
theorem oap {α : Type} (f : α → List AV) (xs ys : List α) (s a : Arg) (sz by_ id : Nat) (w : AV) {acc : List Nat} (hw : Src f sz (look x.m) w ys acc) (hb : (xs.length + ys.length) * by_ ≤ 140737488355328) (ho : o.ao = .app sz by_ s a := by kernel_rfl) (hg : guardA (slot x.t) o.guard = some true := by kernel_rfl) (hs : argσ (slot x.t) s = .own id sz 0 xs.length := by rfl) (hB : look x.m id = some ⟨sz, xs.map f⟩ := by kernel_rfl) (ha : argσ (slot x.t) a = w := by rfl) :
    opE o x = .done (.own x.m.length sz 0 (xs ++ ys).length) [(id, none), (x.m.length, some ⟨sz, (xs ++ ys).map f⟩)] (acc ++ [id]) := opE_appO f xs ys s a sz by_ id w acc ho hg hs hB ha hw hb
end
theorem aR {a : AV} {r s : List AV} (t : AleL r s) : AleL (a :: r) (a :: s) := .cons Ale.refl t
theorem aE (sz : Nat) {r s : List AV} (t : AleL r s) : AleL (.emp :: r) (.lst sz [] :: s) := .cons Ale.emp t
theorem aT {a : List AV} {b : List AV} {r s : List AV} (h : AleL a b) (t : AleL r s) : AleL (.agg a :: r) (.agg b :: s) := .cons (Ale.agg h) t
def tz (n : Nat) : Nat := if n = 0 then 64 else if n % 2 = 1 then 0 else tz (n / 2) + 1
termination_by n
decreasing_by omega
theorem tz_odd {n : Nat} (h : n % 2 = 1) : tz n = 0 := by
  rw [tz, if_neg (by omega), if_pos h]
theorem tz_even {n : Nat} (h0 : n ≠ 0) (h : n % 2 = 0) : tz n = tz (n / 2) + 1 := by
  rw [tz, if_neg h0, if_neg (by omega)]
theorem land_two (a b i k : Nat) (hi : i < 2) (hk : k < 2) : (2 * a + i) &&& (2 * b + k) = 2 * (a &&& b) + (i &&& k) := by
  apply Nat.eq_of_testBit_eq
  intro j
  have hik : i &&& k < 2 := Nat.lt_of_le_of_lt Nat.and_le_left hi
  cases j with
  | zero =>
    rw [Nat.testBit_and, Nat.testBit_zero, Nat.testBit_zero, Nat.testBit_zero]
    have : i = 0 ∨ i = 1 := by omega
    have : k = 0 ∨ k = 1 := by omega
    rcases ‹i = 0 ∨ i = 1› with rfl | rfl <;> rcases ‹k = 0 ∨ k = 1› with rfl | rfl <;> simp <;> omega
  | succ j =>
    rw [Nat.testBit_and, Nat.testBit_succ, Nat.testBit_succ, Nat.testBit_succ, show (2 * a + i) / 2 = a by omega, show (2 * b + k) / 2 = b by omega, show (2 * (a &&& b) + (i &&& k)) / 2 = (a &&& b) by omega, Nat.testBit_and]
theorem compl_land : ∀ (v y : Nat), y < 2 ^ v → y &&& (2 ^ v - 1 - y) = 0
  | 0, y, h => by have : y = 0 := by simpa using h
                  subst this; simp
  | v + 1, y, h => by
    have hp : 2 ^ (v + 1) = 2 * 2 ^ v := by rw [Nat.pow_succ]; omega
    have ih := compl_land v (y / 2) (by omega)
    have e1 : y = 2 * (y / 2) + y % 2 := by omega
    have e2 : 2 ^ (v + 1) - 1 - y = 2 * (2 ^ v - 1 - y / 2) + (1 - y % 2) := by omega
    rw [e2]
    conv => lhs; lhs; rw [e1]
    rw [land_two _ _ _ _ (by omega) (by omega), ih]
    have : y % 2 = 0 ∨ y % 2 = 1 := by omega
    rcases this with h | h <;> rw [h] <;> rfl
theorem neg_land : ∀ (v x : Nat), 0 < x → x < 2 ^ v → x &&& (2 ^ v - x) = 2 ^ tz x
  | 0, x, h, h2 => by simp at h2; omega
  | v + 1, x, h, h2 => by
    have hp : 2 ^ (v + 1) = 2 * 2 ^ v := by rw [Nat.pow_succ]; omega
    by_cases ho : x % 2 = 1
    · have e1 : x = 2 * (x / 2) + 1 := by omega
      have e2 : 2 ^ (v + 1) - x = 2 * (2 ^ v - 1 - x / 2) + 1 := by omega
      rw [tz_odd ho, e2]
      conv => lhs; lhs; rw [e1]
      rw [land_two _ _ _ _ (by omega) (by omega), compl_land v (x / 2) (by omega)]; rfl
    · have he : x % 2 = 0 := by omega
      have e1 : x = 2 * (x / 2) + 0 := by omega
      have e2 : 2 ^ (v + 1) - x = 2 * (2 ^ v - x / 2) + 0 := by omega
      rw [tz_even (by omega) he, e2, Nat.pow_succ]
      conv => lhs; lhs; rw [e1]
      rw [land_two _ _ _ _ (by omega) (by omega), neg_land v (x / 2) (by omega) (by omega)]
      simp; omega
theorem pred_odd {x : Nat} (h : x % 2 = 1) : x &&& (x - 1) = 2 * (x / 2) := by
  have e1 : x = 2 * (x / 2) + 1 := by omega
  have e2 : x - 1 = 2 * (x / 2) + 0 := by omega
  rw [e2]
  conv => lhs; lhs; rw [e1]
  rw [land_two _ _ _ _ (by omega) (by omega), Nat.and_self]; rfl
theorem pred_even {x : Nat} (h0 : x ≠ 0) (h : x % 2 = 0) : x &&& (x - 1) = 2 * ((x / 2) &&& (x / 2 - 1)) := by
  have e1 : x = 2 * (x / 2) + 0 := by omega
  have e2 : x - 1 = 2 * (x / 2 - 1) + 1 := by omega
  rw [e2]
  conv => lhs; lhs; rw [e1]
  rw [land_two _ _ _ _ (by omega) (by omega)]; simp
theorem pred_lt {x : Nat} (h0 : x ≠ 0) : x &&& (x - 1) < x := Nat.lt_of_le_of_lt Nat.and_le_right (by omega)
theorem tz_lt : ∀ (v x : Nat), x ≠ 0 → x < 2 ^ v → tz x < v
  | 0, x, h, h2 => by simp at h2; omega
  | v + 1, x, h, h2 => by
    have hp : 2 ^ (v + 1) = 2 * 2 ^ v := by rw [Nat.pow_succ]; omega
    by_cases ho : x % 2 = 1
    · rw [tz_odd ho]; omega
    · rw [tz_even h (by omega)]
      have := tz_lt v (x / 2) (by omega) (by omega); omega
def bsum : List Int → Nat → Int
  | [], _ => 0
  | w :: ws, x => (if x % 2 = 1 then w else 0) + bsum ws (x / 2)
theorem bsum_zero : ∀ ws : List Int, bsum ws 0 = 0
  | [] => rfl
  | w :: ws => by simp [bsum, bsum_zero ws]
theorem bsum_low : ∀ (ws : List Int) (x : Nat), x ≠ 0 → x < 2 ^ ws.length → ∃ w, ws[tz x]? = some w ∧ bsum ws x = w + bsum ws (x &&& (x - 1))
  | [], x, h, h2 => by simp at h2; omega
  | w :: ws, x, h, h2 => by
    have hp : 2 ^ (ws.length + 1) = 2 * 2 ^ ws.length := by rw [Nat.pow_succ]; omega
    rw [List.length_cons] at h2
    by_cases ho : x % 2 = 1
    · refine ⟨w, by rw [tz_odd ho]; rfl, ?_⟩
      rw [pred_odd ho]
      simp only [bsum, ho, if_true]
      rw [if_neg (by omega), show 2 * (x / 2) / 2 = x / 2 by omega]; omega
    · have he : x % 2 = 0 := by omega
      obtain ⟨w', k1, k2⟩ := bsum_low ws (x / 2) (by omega) (by omega)
      refine ⟨w', by rw [tz_even h he]; simpa using k1, ?_⟩
      rw [pred_even h he]
      simp only [bsum]
      rw [if_neg ho, if_neg (by omega), k2, show 2 * (x / 2 &&& (x / 2 - 1)) / 2 = (x / 2 &&& (x / 2 - 1)) by omega]; omega
open Go.RowKit
section
variable {o : AOper} {x : L3}
theorem six_ex {s : ByteArray} {m : Int} (h : 0 ≤ m ∧ m < s.size) : ∃ b, s[Int.toNat m]? = some b := by
  have : Int.toNat m < s.size := by omega
  exact ⟨_, getElem?_pos s (Int.toNat m) this⟩
theorem opE_six (s : ByteArray) (a i : Arg) (q : IntKind) (m : Int) (b : UInt8) (ho : o.ao = .six a i) (hg : guardA (slot x.t) o.guard = some true) (ha : argσ (slot x.t) a = .v (.string s)) (hi : argσ (slot x.t) i = .v (.int q m)) (h0 : 0 ≤ m) (hb : s[Int.toNat m]? = some b) :
    opE o x = .done (.v (.int .u8 b.toNat)) [] [] := by
  have hs : (AO.six a i).sem x.m.length (argσ (slot x.t)) = .opt (s[Int.toNat m]?.map fun b => .done (.v (.int .u8 b.toNat)) []) := by simp [AO.sem, ha, hi, natOf, h0]
  exact opE_sem _ (acc := []) (see := []) ho hg (by rw [hs]; simp [RM.run, hb, RM.opt]) (by rw [hs]; simp [RM.acc, hb, RM.opt]) (by rw [hs]; simp [RM.see, hb, RM.opt])
theorem opE_iapP (sz ln : Nat) (a i : Arg) (cs : List AV) (off : Nat) (q : IntKind) (m : Int) (ho : o.ao = .iap sz ln a i) (hg : guardA (slot x.t) o.guard = some true) (ha : argσ (slot x.t) a = .pim cs off) (hi : argσ (slot x.t) i = .v (.int q m)) (h0 : 0 ≤ m ∧ m < ln) : opE o x = .done (.pim cs (off + Int.toNat m * sz)) [] [] := by
  have hs : (AO.iap sz ln a i).sem x.m.length (argσ (slot x.t)) = .ret (.done (.pim cs (off + Int.toNat m * sz)) []) := by simp [AO.sem, ha, hi, h0]
  exact opE_sem _ (acc := []) (see := []) ho hg (by rw [hs]; simp [RM.run]) (by rw [hs]; simp [RM.acc]) (by rw [hs]; simp [RM.see])
theorem opE_ldP (mm : Option Nat) (a : Arg) (cs : List AV) (off : Nat) (v : AV) (ho : o.ao = .load mm a) (hg : guardA (slot x.t) o.guard = some true) (ha : argσ (slot x.t) a = .pim cs off) (hv : getCells cs off mm = some v) : opE o x = .done v [] [] := by
  have hs : (AO.load mm a).sem x.m.length (argσ (slot x.t)) = .opt ((getCells cs off mm).map fun a => .done a []) := by simp [AO.sem, ha]
  exact opE_sem _ (acc := []) (see := []) ho hg (by rw [hs]; simp [RM.run, hv, RM.opt]) (by rw [hs]; simp [RM.acc, hv, RM.opt]) (by rw [hs]; simp [RM.see, hv, RM.opt])
end
def len8 (m : Nat) : Nat := if m = 0 then 0 else Nat.log2 m + 1
def l8s : ByteArray := ⟨#[0, 1, 2, 2, 3, 3, 3, 3, 4, 4, 4, 4, 4, 4, 4, 4, 5, 5, 5, 5, 5, 5, 5, 5, 5, 5, 5, 5, 5, 5, 5, 5, 6, 6, 6, 6, 6, 6, 6, 6, 6, 6, 6, 6, 6, 6, 6, 6, 6, 6, 6, 6, 6, 6, 6, 6, 6, 6, 6, 6, 6, 6, 6, 6, 7, 7, 7, 7, 7, 7, 7, 7, 7, 7, 7, 7, 7, 7, 7, 7, 7, 7, 7, 7, 7, 7, 7, 7, 7, 7, 7, 7, 7, 7, 7, 7, 7, 7, 7, 7, 7, 7, 7, 7, 7, 7, 7, 7, 7, 7, 7, 7, 7, 7, 7, 7, 7, 7, 7, 7, 7, 7, 7, 7, 7, 7, 7, 7, 8, 8, 8, 8, 8, 8, 8, 8, 8, 8, 8, 8, 8, 8, 8, 8, 8, 8, 8, 8, 8, 8, 8, 8, 8, 8, 8, 8, 8, 8, 8, 8, 8, 8, 8, 8, 8, 8, 8, 8, 8, 8, 8, 8, 8, 8, 8, 8, 8, 8, 8, 8, 8, 8, 8, 8, 8, 8, 8, 8, 8, 8, 8, 8, 8, 8, 8, 8, 8, 8, 8, 8, 8, 8, 8, 8, 8, 8, 8, 8, 8, 8, 8, 8, 8, 8, 8, 8, 8, 8, 8, 8, 8, 8, 8, 8, 8, 8, 8, 8, 8, 8, 8, 8, 8, 8, 8, 8, 8, 8, 8, 8, 8, 8, 8, 8, 8, 8, 8, 8, 8, 8, 8, 8, 8, 8, 8, 8]⟩
set_option maxRecDepth 100000 in
theorem l8_all : ((List.range 256).all fun m => (l8s.data[m]?.map UInt8.toNat) == some (len8 m)) = true := by kernel_rfl
theorem l8_get {m : Nat} (h : m < 256) {b : UInt8} (hb : l8s[m]? = some b) : b.toNat = len8 m := by
  have h1 := List.all_eq_true.1 l8_all m (List.mem_range.2 h)
  have h2 : l8s.data[m]? = some b := by
    have hs : m < l8s.size := by
      by_cases hh : m < l8s.size
      · exact hh
      · rw [getElem?_neg l8s m hh] at hb; simp at hb
    rw [getElem?_pos l8s m hs] at hb
    rw [Array.getElem?_eq_getElem (by exact hs)]
    exact hb
  rw [h2] at h1
  simpa using h1
def len64 (n : Nat) : Nat := if n = 0 then 0 else Nat.log2 n + 1
theorem len64_gt {n k : Nat} : k < len64 n ↔ 2 ^ k ≤ n := by
  unfold len64
  by_cases h : n = 0
  · subst h; simp
  · rw [if_neg h, Nat.lt_succ_iff, Nat.le_log2 h]
theorem len64_shift {n k : Nat} (h : 2 ^ k ≤ n) : len64 n = len64 (n / 2 ^ k) + k := by
  have hp := Nat.two_pow_pos k
  have h0 : n ≠ 0 := by omega
  have h1 : n / 2 ^ k ≠ 0 := by have := Nat.div_pos h hp; omega
  have e : ∀ j, j < len64 n ↔ j < len64 (n / 2 ^ k) + k := fun j => by
    rw [len64_gt]
    by_cases hj : j < k
    · have := Nat.pow_le_pow_right (n := 2) (by omega) (Nat.le_of_lt hj)
      constructor <;> intro _ <;> omega
    · obtain ⟨i, rfl⟩ : ∃ i, j = i + k := ⟨j - k, by omega⟩
      rw [Nat.add_lt_add_iff_right, len64_gt, Nat.le_div_iff_mul_le hp, Nat.pow_add]
  have a := e (len64 n)
  have b := e (len64 (n / 2 ^ k) + k)
  omega
theorem gl_ld {i : Nat} (h : i < glZ.length) : getCells glC (0 + i * 1) none = some (.v (.int .u8 (glZ.getD i 0))) := by
  rw [Nat.zero_add, Nat.mul_one]; exact glT_get h
set_option maxRecDepth 100000 in
theorem gl_all : ((List.range 64).all fun k => decide ((IntKind.u64.wrap (((2 ^ k : Nat) : Int) * 285870213051353865)).fdiv (2 ^ (min 58 IntKind.u64.bits)) < 64) && decide (0 ≤ (IntKind.u64.wrap (((2 ^ k : Nat) : Int) * 285870213051353865)).fdiv (2 ^ (min 58 IntKind.u64.bits))) && glZ.getD (Int.toNat ((IntKind.u64.wrap (((2 ^ k : Nat) : Int) * 285870213051353865)).fdiv (2 ^ (min 58 IntKind.u64.bits)))) 0 == (k : Int)) = true := by kernel_rfl
theorem gl_at {k : Nat} (h : k < 64) : (0 ≤ (IntKind.u64.wrap (((2 ^ k : Nat) : Int) * 285870213051353865)).fdiv (2 ^ (min 58 IntKind.u64.bits)) ∧ (IntKind.u64.wrap (((2 ^ k : Nat) : Int) * 285870213051353865)).fdiv (2 ^ (min 58 IntKind.u64.bits)) < 64) ∧ glZ.getD (Int.toNat ((IntKind.u64.wrap (((2 ^ k : Nat) : Int) * 285870213051353865)).fdiv (2 ^ (min 58 IntKind.u64.bits)))) 0 = (k : Int) := by
  have h1 := List.all_eq_true.1 gl_all k (List.mem_range.2 h)
  simp only [Bool.and_eq_true, decide_eq_true_eq, beq_iff_eq] at h1
  exact ⟨⟨h1.1.2, h1.1.1⟩, h1.2⟩
theorem neg_bits {x : Nat} (h0 : x ≠ 0) (h : x < 18446744073709551616) : bits .and .u64 (x : Int) (IntKind.u64.wrap (0 - (x : Int))) = ((2 ^ tz x : Nat) : Int) := by
  have e : IntKind.u64.wrap (0 - (x : Int)) = ((18446744073709551616 - x : Nat) : Int) := by rw [IntKind.wrap_u64]; omega
  rw [e, bits_and_u64_nat x _ h (by omega)]
  have := neg_land 64 x (by omega) (by simpa using h)
  rw [show (2 : Nat) ^ 64 = 18446744073709551616 by decide] at this
  rw [this]
theorem pred_bits {x : Nat} (h0 : x ≠ 0) (h : x < 18446744073709551616) : bits .and .u64 (x : Int) (IntKind.u64.wrap ((x : Int) - 1)) = ((x &&& (x - 1) : Nat) : Int) := by
  have e : IntKind.u64.wrap ((x : Int) - 1) = ((x - 1 : Nat) : Int) := by rw [IntKind.wrap_u64]; omega
  rw [e, bits_and_u64_nat x _ h (by omega)]
open Go.RowKit
section
variable {P : Program}
end
end Go.Proofs.YtligepciannclaaDoor
