/- Regions that draw their order, where a call upon the own memory stands between those before it and those behind it. No condition. -/
import Derived.Test.YtgepadjkegfokaaDoorPAvDraw
set_option linter.unusedSimpArgs false
set_option linter.unusedVariables false
namespace Go.Proofs.YtgepadjkegfokaaDoor
set_option linter.unusedSimpArgs false
set_option linter.unusedVariables false
open Go.RowKit
/-- An operation that does nothing. -/
def dumO : AOper := ⟨none, .mov (.c (.v undef)), none⟩
def dumR (k : Nat) : Rec := ⟨none, .v undef, [], [], k⟩
/-- All others come before b, or behind it, in any order. -/
def barOK (dep : List (List Nat)) (b N : Nat) : Bool :=
  ((List.range b).all fun i => ((dep[b]?).getD []).contains i) && (List.range N).all fun j => decide (j ≤ b) || ((dep[j]?).getD []).contains b
section
variable {P : Program} {E0 : Env} {n : Nat} {ops : Array Oper} {J : Nat → Prop} {base : Nat} {w0 : World} {Q : Exit → Act → World → Prop} {os : List AOper} {dep : List (List Nat)} {σ σ' : Nat → AV} {g g' : Nat → Option Bk} {k k' : Nat} {rs : List Rec}
theorem draw_soundB {rd : Option Nat} {i0 i1 : Nat} (hrec : OpsRec P n os σ g k rs σ' g' k') (hlen : os.length = i1) (hi1 : i1 ≤ ops.size) (hops : ∀ (j : Nat) op, i0 ≤ j → j < i1 → ops[j]? = some op → ∃ o, os[j]? = some o ∧ cOper P ops op = some o)
    (hd : depOK ops.toList dep = true) (hsl : slotsOK os dep = true) (hid : idsOK rs dep = true)
    (inlt : ∀ listed : Array Bool, (∀ (j : Nat) op, ops[j]? = some op → listed.getD j false = true → ∀ e, e ∈ dirOf op → listed.getD e false = true) → (∀ j, listed.getD j false = true → j < i1) → (¬ ∀ j, j < i1 → listed.getD j false = true) → ∀ i op, ops[i]? = some op → (∀ e, e ∈ dirOf op → listed.getD e false = true) → i < i1)
    (hK : ∀ fuel listed a w, RelS E0 J base w0 n σ' g' k' a w → listed.size = ops.size → (∀ j, listed.getD j false = decide (j < i1)) → (∀ m : List Nat, (∀ j, j ∈ m → j < ops.size ∧ listed.getD j true = false) → m.Nodup → m.length ≤ fuel) → wpAnyIn (rnd rd) 0 P .any ops Q fuel listed a w) :
    ∀ (fuel : Nat) (listed : Array Bool) (a : Act) (w : World), DInv E0 n ops J base w0 σ g k rs listed a w → (∀ j, j < i0 → listed.getD j false = true) → (∀ j, listed.getD j false = true → j < i1) → (∀ m : List Nat, (∀ j, j ∈ m → j < ops.size ∧ listed.getD j true = false) → m.Nodup → m.length ≤ fuel) → wpAnyIn (rnd rd) 0 P .any ops Q fuel listed a w := by
  obtain ⟨c1, c2, c3, c4, c5, c6, c7⟩ := rec_canon hrec
  have done : ∀ (fuel : Nat) (listed : Array Bool) (a : Act) (w : World), DInv E0 n ops J base w0 σ g k rs listed a w → (∀ j, listed.getD j false = true → j < i1) → (∀ m : List Nat, (∀ j, j ∈ m → j < ops.size ∧ listed.getD j true = false) → m.Nodup → m.length ≤ fuel) → (∀ j, j < i1 → listed.getD j false = true) → wpAnyIn (rnd rd) 0 P .any ops Q fuel listed a w := by
    intro fuel listed a w hI hhi hcount hall
    obtain ⟨E, rfl, hle, h1, h2, h3, hmk⟩ := hI.ex
    have e6 : σat n (fun j => listed.getD j false) rs σ = σ' := by
      rw [c6]; funext t
      refine lastW_congr _ 0 _ fun j r hr hl => absurd ?_ hl
      rw [Nat.zero_add, hall j (by rw [← hlen, ← c1]; exact (List.getElem?_eq_some_iff.1 hr).1)]
    have e7 : gat (fun j => listed.getD j false) rs g = g' := by
      rw [c7]; funext t
      refine lastW_congr _ 0 _ fun j r hr hl => absurd ?_ hl
      rw [Nat.zero_add, hall j (by rw [← hlen, ← c1]; exact (List.getElem?_eq_some_iff.1 hr).1)]
    rw [e6] at h1; rw [e7] at h2
    refine hK fuel listed a E.w ⟨⟨E, rfl, hle, h1, h2, fun id hh => ?_, hmk⟩, hI.size, hI.below, hI.gl⟩ hI.lsize (fun j => ?_) hcount
    · rcases h3 id hh with h | ⟨j, r, _, hr, hk⟩
      · exact Nat.lt_of_lt_of_le h c2
      · exact c5 j r hr id hk
    · by_cases hj : j < i1
      · rw [hall j hj]; simp [hj]
      · cases hl : listed.getD j false with
        | true => exact absurd (hhi j hl) hj
        | false => simp [hj]
  have first : ∀ (listed : Array Bool), listed.size = ops.size → (∀ (j : Nat) op, ops[j]? = some op → listed.getD j false = true → ∀ e, e ∈ dirOf op → listed.getD e false = true) → (¬ ∀ j, j < i1 → listed.getD j false = true) → Region.ready .any ops listed ≠ [] := by
    intro listed hls hcl hall hr
    refine hall fun j => ?_
    induction j using Nat.strongRecOn with
    | _ j ih =>
      intro hj
      cases hl : listed.getD j false with
      | true => rfl
      | false =>
        exfalso
        have hjs : j < listed.size := by rw [hls]; omega
        have hjo : j < ops.size := by omega
        have : j ∈ Region.ready .any ops listed := by
          rw [mem_ready]
          refine ⟨by simp [hjs] at hl ⊢; exact hl, ops[j], Array.getElem?_eq_getElem hjo, fun e he hb => ?_⟩
          have hdj := hd
          unfold depOK at hdj
          simp only [Bool.and_eq_true, List.all_eq_true, List.mem_range, decide_eq_true_eq] at hdj
          have hj2 := (hdj.2 j (by simpa using hjo)).1
          have hopl : ops.toList[j]? = some ops[j] := by simp [hjo]
          simp only [hopl, Option.map_some, Option.getD_some] at hj2
          have hlt := hj2 e.on (mem_dirOf.2 ⟨e, he, hb, rfl⟩)
          exact ih e.on hlt (by omega)
        rw [hr] at this
        simp at this
  intro fuel
  induction fuel with
  | zero =>
    intro listed a w hI hlo hhi hcount
    by_cases hall : ∀ j, j < i1 → listed.getD j false = true
    · exact done 0 listed a w hI hhi hcount hall
    · exfalso
      cases hr : Region.ready .any ops listed with
      | nil => exact first listed hI.lsize hI.closed hall hr
      | cons x xs =>
        have hx : x ∈ Region.ready .any ops listed := by rw [hr]; simp
        obtain ⟨m1, o, m2, _⟩ := mem_ready.1 hx
        have := hcount [x] (fun j hj => by simp at hj; subst hj; exact ⟨(Array.getElem?_eq_some_iff.1 m2).1, m1⟩) (by simp)
        simp at this
  | succ fuel ih =>
    intro listed a w hI hlo hhi hcount
    by_cases hall : ∀ j, j < i1 → listed.getD j false = true
    · exact done _ listed a w hI hhi hcount hall
    refine ⟨fun hr => absurd hr (first listed hI.lsize hI.closed hall), fun i hi => ?_⟩
    obtain ⟨m1, op, m2, m3⟩ := mem_ready.1 hi
    have hil : i < ops.size := (Array.getElem?_eq_some_iff.1 m2).1
    have hunl : listed.getD i false = false := by
      have : i < listed.size := by rw [hI.lsize]; exact hil
      simp [this] at m1 ⊢; exact m1
    have hdir : ∀ e, e ∈ dirOf op → listed.getD e false = true := fun e he => by
      obtain ⟨x, hx, hb, rfl⟩ := mem_dirOf.1 he
      exact m3 x hx hb
    have hin : i < i1 := inlt listed hI.closed hhi hall i op m2 hdir
    have hin0 : i0 ≤ i := by
      rcases Nat.lt_or_ge i i0 with h | h
      · have := hlo i h; rw [hunl] at this; simp at this
      · exact h
    obtain ⟨o, ho, hco⟩ := hops i op hin0 hin m2
    obtain ⟨r, hri, hrd, hrun, hfr⟩ := c3 i o ho
    obtain ⟨E, rfl, hle, h1, h2, h3, hmk⟩ := hI.ex
    -- whoever is listed out of turn is free of this one
    have free : ∀ j rj oj, j ≠ i → rs[j]? = some rj → os[j]? = some oj → listed.getD j false ≠ upto i j → (slotFree (if i < j then o else oj) (if i < j then oj else o) = true ∧ idFree (if i < j then r else rj) (if i < j then rj else r) = true) := by
      intro j rj oj hne hrj hoj hl
      have hjl : j < os.length := (List.getElem?_eq_some_iff.1 hoj).1
      unfold slotsOK at hsl
      unfold idsOK at hid
      simp only [List.all_eq_true, List.mem_range, Bool.or_eq_true, List.contains_iff_mem] at hsl hid
      by_cases hij : i < j
      · rw [if_pos hij, if_pos hij, if_pos hij, if_pos hij]
        have hlj : listed.getD j false = true := by
          have hu : upto i j = false := by simp [upto]; omega
          rw [hu] at hl
          simpa using hl
        have hnd : i ∉ (dep[j]?).getD [] := by
          intro hmem
          have hjo : j < ops.size := by omega
          have := dep_closed hd hI.closed j ops[j] (Array.getElem?_eq_getElem hjo) (hI.closed j _ (Array.getElem?_eq_getElem hjo) hlj) i hmem
          rw [hunl] at this; simp at this
        have s1 := (hsl j hjl i hij).resolve_left hnd
        have s2 := (hid j (by rw [c1]; exact hjl) i hij).resolve_left hnd
        rw [ho, hoj] at s1; rw [hri, hrj] at s2
        exact ⟨s1, s2⟩
      · rw [if_neg hij, if_neg hij, if_neg hij, if_neg hij]
        have hji : j < i := by omega
        have hlj : listed.getD j false = false := by
          have hu : upto i j = true := by simp [upto]; omega
          rw [hu] at hl
          simpa using hl
        have hnd : j ∉ (dep[i]?).getD [] := by
          intro hmem
          have := dep_closed hd hI.closed i op m2 hdir j hmem
          rw [hlj] at this; simp at this
        have s1 := (hsl i (by omega) j hji).resolve_left hnd
        have s2 := (hid i (by omega) j hji).resolve_left hnd
        rw [ho, hoj] at s1; rw [hri, hrj] at s2
        exact ⟨s1, s2⟩
    have getO : ∀ (j : Nat) rj, rs[j]? = some rj → ∃ oj, os[j]? = some oj ∧ rj.dst = oj.dst := fun j rj hrj => by
      have hjl : j < os.length := by rw [← c1]; exact (List.getElem?_eq_some_iff.1 hrj).1
      obtain ⟨r', q1, q2, _, _⟩ := c3 j _ (List.getElem?_eq_getElem hjl)
      rw [hrj] at q1; simp only [Option.some.injEq] at q1; subst q1
      exact ⟨_, List.getElem?_eq_getElem hjl, q2⟩
    -- a slot that it looks at is as it comes one behind the other
    have hσ : ∀ t, t ∈ o.uses → σat n (fun j => listed.getD j false) rs σ t = σat n (upto i) rs σ t := by
      intro t ht
      refine lastW_congr _ 0 _ fun j rj hrj hl => ?_
      rw [Nat.zero_add] at hl
      by_cases hne : j = i
      · subst hne; rw [hunl] at hl; simp [upto] at hl
      · obtain ⟨oj, hoj, hdj⟩ := getO j rj hrj
        have hf := (free j rj oj hne hrj hoj hl).1
        unfold wσ
        rw [if_neg]
        rintro ⟨hdt, _⟩
        rw [hdj] at hdt
        unfold slotFree at hf
        by_cases hij : i < j
        · simp only [if_pos hij, hdt, Bool.and_eq_true, Bool.not_eq_true', List.contains_eq_mem, decide_eq_false_iff_not] at hf
          exact hf.2 ht
        · simp only [if_neg hij, hdt, Bool.and_eq_true, Bool.not_eq_true', List.contains_eq_mem, decide_eq_false_iff_not] at hf
          exact hf.1.1 ht
    have hg : ∀ id, id ∈ r.acc → gat (fun j => listed.getD j false) rs g id = gat (upto i) rs g id := by
      intro id hida
      refine lastW_congr _ 0 _ fun j rj hrj hl => ?_
      rw [Nat.zero_add] at hl
      by_cases hne : j = i
      · subst hne; rw [hunl] at hl; simp [upto] at hl
      · obtain ⟨oj, hoj, hdj⟩ := getO j rj hrj
        have hf := (free j rj oj hne hrj hoj hl).2
        cases hw : wg id rj with
        | none => rfl
        | some y =>
          exfalso
          have hk : id ∈ rj.keys := kv_mem (by unfold wg at hw; rw [hw]; simp)
          unfold idFree at hf
          by_cases hij : i < j
          · simp only [if_pos hij, Bool.and_eq_true, List.all_eq_true, Bool.not_eq_true', List.contains_eq_mem, decide_eq_false_iff_not] at hf
            exact hf.2 id hk hida
          · simp only [if_neg hij, Bool.and_eq_true, List.all_eq_true, Bool.not_eq_true', List.contains_eq_mem, decide_eq_false_iff_not] at hf
            exact (hf.1 id hk).1 hida
    -- a name that nobody has
    have hname : ∃ fr', ¬ E.kn fr' ∧ (r.fr ∈ r.ups.map Prod.fst → fr' = r.fr) := by
      by_cases hin : r.fr ∈ r.ups.map Prod.fst
      · refine ⟨r.fr, fun hk => ?_, fun _ => rfl⟩
        rcases h3 _ hk with h | ⟨j, rj, hlj, hrj, hkj⟩
        · omega
        · by_cases hne : j = i
          · subst hne; rw [hunl] at hlj; simp at hlj
          · by_cases hij : i < j
            · obtain ⟨oj, hoj, _⟩ := getO j rj hrj
              have hf := (free j rj oj hne hrj hoj (by rw [hlj]; simp [upto]; omega)).2
              unfold idFree at hf
              simp only [if_pos hij, Bool.and_eq_true, List.all_eq_true, Bool.not_eq_true', List.contains_eq_mem, decide_eq_false_iff_not] at hf
              exact (hf.1 _ hin).2 hkj
            · have := c4 j i rj r (by omega) hrj hri _ hkj
              exact Nat.lt_irrefl _ this
      · refine ⟨k', fun hk => ?_, fun h => absurd h hin⟩
        rcases h3 _ hk with h | ⟨j, rj, hlj, hrj, hkj⟩
        · omega
        · exact Nat.lt_irrefl _ (c5 j rj hrj _ hkj)
    obtain ⟨fr', hfr1, hfr2⟩ := hname
    obtain ⟨acc', hrun'⟩ := hrun.local hσ hg hfr2
    refine step_sound (hI.gl.step hle) h1 h2 hfr1 m2 hco hrun' fun v E' hE hv hM hB hkn => ?_
    -- it is listed now
    have hlist : ∀ j, (listed.setIfInBounds i true).getD j false = if j = 0 + i then true else listed.getD j false := by
      intro j
      rw [Nat.zero_add]
      have hils : i < listed.size := by rw [hI.lsize]; exact hil
      by_cases hji : j = i
      · subst hji; simp [hils]
      · rw [if_neg hji, getD_set_ne false (Ne.symm hji)]
    have nσ : ∀ t, σat n (fun j => (listed.setIfInBounds i true).getD j false) rs σ t = putσ n o.dst r.val (σat n (fun j => listed.getD j false) rs σ) t := by
      intro t
      rw [← hrd, putσ_wσ]
      refine lastW_ins rs 0 i _ r hri (by rw [Nat.zero_add]; exact hunl) hlist fun j rj hij hrj hlj => ?_
      rw [Nat.zero_add] at hlj
      obtain ⟨oj, hoj, hdj⟩ := getO j rj hrj
      have hf := (free j rj oj (by omega) hrj hoj (by rw [hlj]; simp [upto]; omega)).1
      unfold slotFree at hf
      simp only [if_pos hij] at hf
      by_cases hd1 : r.dst = some t
      · left
        unfold wσ
        rw [if_neg]
        rintro ⟨hdt, _⟩
        rw [hrd] at hd1
        rw [hdj] at hdt
        simp only [hd1, hdt, Bool.and_eq_true, bne_iff_ne, ne_eq] at hf
        exact hf.1.2 trivial
      · right
        unfold wσ
        rw [if_neg]
        rintro ⟨hdt, _⟩
        exact hd1 hdt
    have ng : ∀ id, gat (fun j => (listed.setIfInBounds i true).getD j false) rs g id = gput (gat (fun j => listed.getD j false) rs g) r.ups id := by
      intro id
      rw [gput_kv]
      refine lastW_ins rs 0 i _ r hri (by rw [Nat.zero_add]; exact hunl) hlist fun j rj hij hrj hlj => ?_
      rw [Nat.zero_add] at hlj
      obtain ⟨oj, hoj, hdj⟩ := getO j rj hrj
      have hf := (free j rj oj (by omega) hrj hoj (by rw [hlj]; simp [upto]; omega)).2
      unfold idFree at hf
      simp only [if_pos hij, Bool.and_eq_true, List.all_eq_true, Bool.not_eq_true', List.contains_eq_mem, decide_eq_false_iff_not] at hf
      cases hw : wg id r with
      | none => exact .inr rfl
      | some y =>
        left
        cases hw2 : wg id rj with
        | none => rfl
        | some y2 =>
          exfalso
          have k1 : id ∈ r.keys := kv_mem (by unfold wg at hw; rw [hw]; simp)
          have k2 : id ∈ rj.keys := kv_mem (by unfold wg at hw2; rw [hw2]; simp)
          exact (hf.1 id k1).2 k2
    refine ih _ _ _ ⟨⟨E', rfl, hle.trans hE, fun t => ?_, ?_, fun id hh => ?_, ?_⟩, ?_, hI.below.trans hB, hI.gl, by simpa using hI.lsize, fun j oj hoj hlj e he => ?_⟩ (fun j hj => getD_set_true (hlo j hj)) (fun j hj => ?_) fun m hm hnd => ?_
    · rw [nσ t]
      have := put_rep hE h1 hv o.dst t
      rw [hI.size] at this
      exact this
    · rw [show gat (fun j => (listed.setIfInBounds i true).getD j false) rs g = gput (gat (fun j => listed.getD j false) rs g) r.ups from funext ng]
      exact hM
    · rcases hkn id hh with h | h
      · rcases h3 id h with h | ⟨j, rj, q1, q2, q3⟩
        · exact .inl h
        · exact .inr ⟨j, rj, getD_set_true q1, q2, q3⟩
      · refine .inr ⟨i, r, ?_, hri, h⟩
        rw [hlist i, Nat.zero_add, if_pos rfl]
    · rw [(put_size a o.dst v).2]; exact hmk.step hE
    · rw [(put_size a o.dst v).1]; exact hI.size
    · rw [hlist j, Nat.zero_add] at hlj
      by_cases hji : j = i
      · subst hji
        rw [m2] at hoj; simp only [Option.some.injEq] at hoj; subst hoj
        exact getD_set_true (hdir e he)
      · rw [if_neg hji] at hlj
        exact getD_set_true (hI.closed j oj hoj hlj e he)
    · rw [hlist j, Nat.zero_add] at hj
      by_cases hji : j = i
      · rw [hji]; exact hin
      · rw [if_neg hji] at hj; exact hhi j hj
    · have hni : i ∉ m := fun hmem => by
        have := (hm i hmem).2
        have hils : i < listed.size := by rw [hI.lsize]; exact hil
        simp [hils] at this
      have := hcount (i :: m) (fun j hj => by
        rcases List.mem_cons.1 hj with rfl | hj
        · exact ⟨hil, m1⟩
        · refine ⟨(hm j hj).1, ?_⟩
          have h5 := (hm j hj).2
          have hji : i ≠ j := fun e => hni (e ▸ hj)
          rwa [getD_set_ne true hji] at h5) (List.nodup_cons.2 ⟨hni, hnd⟩)
      simpa using this
/-- Operations in a region that draws its order: 'rs' what was done since the last call upon the own memory. -/
inductive DrawB (P : Program) (n : Nat) (dep : List (List Nat)) : List AOper → (Nat → AV) → (Nat → Option Bk) → Nat → List Rec → (Nat → AV) → (Nat → Option Bk) → Nat → Prop
  | nil {σ : Nat → AV} {g : Nat → Option Bk} {k : Nat} {rs : List Rec} (hid : idsOK rs dep = true) : DrawB P n dep [] σ g k rs σ g k
  | cons {o : AOper} {os : List AOper} {σ σ' : Nat → AV} {g g' : Nat → Option Bk} {k k1 k' : Nat} {val : AV} {ups : List (Nat × Option Bk)} {acc : List Nat} {rs : List Rec} (h : OpRun P σ g k o val ups acc) (hk : k ≤ k1) (hu : ∀ id, id ∈ ups.map Prod.fst → id < k1)
      (hr : DrawB P n dep os (putσ n o.dst val σ) (gput g ups) k1 (rs ++ [⟨o.dst, val, ups, acc, k⟩]) σ' g' k') : DrawB P n dep (o :: os) σ g k rs σ' g' k'
  | bar {o : AOper} {os : List AOper} {σ σ' : Nat → AV} {g g1 g' : Nat → Option Bk} {k k1 k' : Nat} {f : FuncId} {as : List AV} {r : AV} {rs : List Rec} (hid : idsOK rs dep = true) (hb : barOK dep rs.length (rs.length + 1 + os.length) = true) (hg : guardA σ o.guard = some true)
      (h : (o.ao.sem k (argσ σ)).run g = some (.call f as)) (hc : callable P f = true) (hf : Fi P f as g k r g1 k1) (hr : DrawB P n dep os (putσ n o.dst r σ) g1 k1 (List.replicate (rs.length + 1) (dumR k1)) σ' g' k') : DrawB P n dep (o :: os) σ g k rs σ' g' k'
theorem dumO_run : OpRun P σ g k dumO (.v undef) [] [] := .done (val := .v undef) (ups := []) rfl rfl
theorem OpsRec.dums : ∀ i, OpsRec P n (List.replicate i dumO) σ g k (List.replicate i (dumR k)) σ g k
  | 0 => .nil
  | i + 1 => by
    rw [List.replicate_succ, List.replicate_succ]
    exact .cons (o := dumO) (k1 := k) dumO_run (Nat.le_refl _) (by simp) (OpsRec.dums i)
theorem OpsRec.snoc {o : AOper} {k1 : Nat} {val : AV} {ups : List (Nat × Option Bk)} {acc : List Nat} (h0 : OpsRec P n os σ g k rs σ' g' k') (h : OpRun P σ' g' k' o val ups acc) (hk : k' ≤ k1) (hu : ∀ id, id ∈ ups.map Prod.fst → id < k1) : OpsRec P n (os ++ [o]) σ g k (rs ++ [⟨o.dst, val, ups, acc, k'⟩]) (putσ n o.dst val σ') (gput g' ups) k1 := by
  induction h0 with
  | nil => exact .cons h hk hu .nil
  | cons h1 h2 h3 h4 ih => exact .cons h1 h2 h3 (ih h hk)
theorem slotsOK_pre {full pre : List AOper} {i0 : Nat} (h : slotsOK full dep = true) (hl : pre.length ≤ full.length) (h1 : ∀ j, i0 ≤ j → j < pre.length → pre[j]? = full[j]?) (h2 : ∀ j, j < i0 → j < pre.length → pre[j]? = some dumO) : slotsOK pre dep = true := by
  unfold slotsOK at h ⊢
  simp only [List.all_eq_true, List.mem_range, Bool.or_eq_true] at h ⊢
  intro j hj i hi
  rcases h j (by omega) i hi with h | h
  · exact .inl h
  · right
    by_cases hi0 : i0 ≤ i
    · rw [h1 i hi0 (by omega), h1 j (by omega) hj]; exact h
    · rw [h2 i (by omega) (by omega)]
      cases hp : pre[j]? with
      | none => simp [List.getElem?_eq_none_iff] at hp; omega
      | some y =>
        simp only [slotFree, dumO, AOper.uses, AO.slots, Arg.slot, Bool.true_and]
        split <;> simp
theorem drawB_sound {rd : Option Nat} {full : List AOper} (hfl : full.length = ops.size) (hops : ∀ (j : Nat) op, ops[j]? = some op → ∃ o, full[j]? = some o ∧ cOper P ops op = some o) (hd : depOK ops.toList dep = true) (hsl : slotsOK full dep = true)
    (hQ : ∀ a w, RelS E0 J base w0 n σ' g' k' a w → Q .normal a w) (h : DrawB P n dep os σ g k rs σ' g' k') :
    ∀ (i0 : Nat) (pre : List AOper) (σ0 : Nat → AV) (g0 : Nat → Option Bk) (kk : Nat), OpsRec P n pre σ0 g0 kk rs σ g k → i0 ≤ pre.length → pre.length + os.length = full.length → (∀ j, i0 ≤ j → (pre ++ os)[j]? = full[j]?) → (∀ j, j < i0 → pre[j]? = some dumO ∧ ∃ q, rs[j]? = some (dumR q)) →
      ∀ (fuel : Nat) (listed : Array Bool) (a : Act) (w : World), RelS E0 J base w0 n σ0 g0 kk a w → listed.size = ops.size → (∀ j, listed.getD j false = decide (j < i0)) → (∀ m : List Nat, (∀ j, j ∈ m → j < ops.size ∧ listed.getD j true = false) → m.Nodup → m.length ≤ fuel) → wpAnyIn (rnd rd) 0 P .any ops Q fuel listed a w := by
  have dlt : ∀ (j : Nat) op, ops[j]? = some op → ∀ e, e ∈ dirOf op → e < j := by
    intro j op hop e he
    have hjo : j < ops.size := (Array.getElem?_eq_some_iff.1 hop).1
    have hdj := hd
    unfold depOK at hdj
    simp only [Bool.and_eq_true, List.all_eq_true, List.mem_range, decide_eq_true_eq] at hdj
    have hj2 := (hdj.2 j (by simpa using hjo)).1
    have hopl : ops.toList[j]? = some op := by simpa using hop
    simp only [hopl, Option.map_some, Option.getD_some] at hj2
    exact hj2 e he
  -- a phase, given what comes behind it
  have phase : ∀ {os : List AOper} {σ : Nat → AV} {g : Nat → Option Bk} {k : Nat} {rs : List Rec} (i0 : Nat) (pre : List AOper) (σ0 : Nat → AV) (g0 : Nat → Option Bk) (kk : Nat), OpsRec P n pre σ0 g0 kk rs σ g k → i0 ≤ pre.length → pre.length + os.length = full.length → (∀ j, i0 ≤ j → (pre ++ os)[j]? = full[j]?) → (∀ j, j < i0 → pre[j]? = some dumO ∧ ∃ q, rs[j]? = some (dumR q)) → idsOK rs dep = true →
      (∀ listed : Array Bool, (∀ (j : Nat) op, ops[j]? = some op → listed.getD j false = true → ∀ e, e ∈ dirOf op → listed.getD e false = true) → (∀ j, listed.getD j false = true → j < pre.length) → (¬ ∀ j, j < pre.length → listed.getD j false = true) → ∀ i op, ops[i]? = some op → (∀ e, e ∈ dirOf op → listed.getD e false = true) → i < pre.length) →
      (∀ fuel listed a w, RelS E0 J base w0 n σ g k a w → listed.size = ops.size → (∀ j, listed.getD j false = decide (j < pre.length)) → (∀ m : List Nat, (∀ j, j ∈ m → j < ops.size ∧ listed.getD j true = false) → m.Nodup → m.length ≤ fuel) → wpAnyIn (rnd rd) 0 P .any ops Q fuel listed a w) →
      ∀ (fuel : Nat) (listed : Array Bool) (a : Act) (w : World), RelS E0 J base w0 n σ0 g0 kk a w → listed.size = ops.size → (∀ j, listed.getD j false = decide (j < i0)) → (∀ m : List Nat, (∀ j, j ∈ m → j < ops.size ∧ listed.getD j true = false) → m.Nodup → m.length ≤ fuel) → wpAnyIn (rnd rd) 0 P .any ops Q fuel listed a w := by
    intro os σ g k rs i0 pre σ0 g0 kk hrec hi0 hln hfull hdum hid inlt hK fuel listed a w hrel hls hlist hcount
    have hpf : ∀ j, i0 ≤ j → j < pre.length → pre[j]? = full[j]? := fun j h1 h2 => by
      have := hfull j h1
      rwa [List.getElem?_append_left h2] at this
    refine draw_soundB (i0 := i0) hrec rfl (by omega) (fun j op h1 h2 hop => ?_) hd (slotsOK_pre hsl (by omega) hpf fun j h1 _ => (hdum j h1).1) hid inlt hK fuel listed a w ?_ (fun j hj => by rw [hlist]; simpa using hj) (fun j hj => by rw [hlist] at hj; simp at hj; omega) hcount
    · rw [hpf j h1 h2]; exact hops j op hop
    · obtain ⟨E, rfl, hle, h1, h2, h3, hmk⟩ := hrel.ex
      have z : ∀ {β : Type} (wt : Rec → Option β) (x : β), (∀ q, wt (dumR q) = none) → lastW (fun j => listed.getD j false) wt 0 rs x = x := by
        intro β wt x hw
        refine lastW_none rs 0 x fun j r hr hl => ?_
        rw [Nat.zero_add, hlist] at hl
        obtain ⟨q, hq⟩ := (hdum j (by simpa using hl)).2
        rw [hq] at hr; simp only [Option.some.injEq] at hr; subst hr
        exact hw q
      have e1 : σat n (fun j => listed.getD j false) rs σ0 = σ0 := by funext t; exact z _ _ fun q => by simp [wσ, dumR]
      have e2 : gat (fun j => listed.getD j false) rs g0 = g0 := by funext t; exact z _ _ fun q => by simp [wg, dumR, kv]
      refine ⟨⟨E, rfl, hle, ?_, ?_, fun id hh => .inl (h3 id hh), hmk⟩, hrel.size, hrel.below, hrel.gl, hls, fun j op hop hl e he => ?_⟩
      · rw [e1]; exact h1
      · rw [e2]; exact h2
      · rw [hlist] at hl ⊢
        have := dlt j op hop e he
        simp at hl ⊢; omega
  induction h with
  | @nil σ g k rs hid =>
    intro i0 pre σ0 g0 kk hrec hi0 hln hfull hdum
    have hpl : pre.length = ops.size := by simp at hln; omega
    refine phase i0 pre σ0 g0 kk hrec hi0 hln hfull hdum hid (fun listed _ _ _ i op hop _ => ?_) fun fuel listed a w hrel hls hlist hcount => ?_
    · rw [hpl]; exact (Array.getElem?_eq_some_iff.1 hop).1
    · have hr : Region.ready .any ops listed = [] := by
        cases hr : Region.ready .any ops listed with
        | nil => rfl
        | cons x xs =>
          have hx : x ∈ Region.ready .any ops listed := by rw [hr]; simp
          obtain ⟨m1, o, m2, _⟩ := mem_ready.1 hx
          have hxl : x < ops.size := (Array.getElem?_eq_some_iff.1 m2).1
          have hxs : x < listed.size := by rw [hls]; exact hxl
          have h5 := hlist x
          rw [hpl] at h5
          simp [hxs, hxl] at h5 m1
          rw [h5] at m1; simp at m1
      cases fuel with
      | zero => exact ⟨hr, hQ a w hrel⟩
      | succ fuel => exact ⟨fun _ => hQ a w hrel, fun i hi => by rw [hr] at hi; simp at hi⟩
  | @cons o os σ σ' g g' k k1 k' val ups acc rs h hk hu hr ih =>
    intro i0 pre σ0 g0 kk hrec hi0 hln hfull hdum
    obtain ⟨c1, _⟩ := rec_canon hrec
    refine ih hQ i0 (pre ++ [o]) σ0 g0 kk (hrec.snoc h hk hu) (by simp; omega) (by simp at hln ⊢; omega) (fun j hj => by rw [List.append_assoc]; exact hfull j hj) fun j hj => ?_
    obtain ⟨d1, q, d2⟩ := hdum j hj
    exact ⟨by rw [List.getElem?_append_left (by omega)]; exact d1, q, by rw [List.getElem?_append_left (by omega)]; exact d2⟩
  | @bar o os σ σ' g g1 g' k k1 k' f as r rs hid hb hg h hcl hf hr ih =>
    intro i0 pre σ0 g0 kk hrec hi0 hln hfull hdum
    obtain ⟨c1, _⟩ := rec_canon hrec
    obtain ⟨b, hbd⟩ : ∃ b, pre.length = b := ⟨_, rfl⟩
    rw [c1, hbd] at hb
    have hbl : b < ops.size := by simp at hln; omega
    have hob : full[b]? = some o := by
      have := hfull b (by omega)
      rw [← this, List.getElem?_append_right (by omega), hbd, Nat.sub_self]; rfl
    unfold barOK at hb
    simp only [Bool.and_eq_true, List.all_eq_true, List.mem_range, Bool.or_eq_true, decide_eq_true_eq, List.contains_iff_mem] at hb
    have hbig : ∀ listed : Array Bool, (∀ (j : Nat) op, ops[j]? = some op → listed.getD j false = true → ∀ e, e ∈ dirOf op → listed.getD e false = true) → (∀ j, listed.getD j false = true → j < b) → ∀ i op, ops[i]? = some op → (∀ e, e ∈ dirOf op → listed.getD e false = true) → i ≤ b := by
      intro listed hcl hhi i op hop hdir
      rcases Nat.lt_or_ge b i with hlt | hge
      · exfalso
        have hi : i < ops.size := (Array.getElem?_eq_some_iff.1 hop).1
        have hm := (hb.2 i (by simp at hln; omega)).resolve_left (by omega)
        exact Nat.lt_irrefl _ (hhi b (dep_closed hd hcl i op hop hdir b hm))
      · exact hge
    refine phase i0 pre σ0 g0 kk hrec hi0 hln hfull hdum hid (fun listed hcl hhi hall i op hop hdir => ?_) fun fuel listed a w hrel hls hlist hcount => ?_
    · rw [hbd] at hhi hall ⊢
      have h1 := hbig listed hcl hhi i op hop hdir
      rcases Nat.lt_or_ge i b with h2 | h2
      · exact h2
      · exfalso
        have e : i = b := by omega
        subst e
        exact hall fun j hj => dep_closed hd hcl i op hop hdir j (hb.1 j hj)
    · rw [hbd] at hlist
      have hbs : b < listed.size := by rw [hls]; exact hbl
      have hcd : ∀ (j : Nat) op, ops[j]? = some op → listed.getD j false = true → ∀ e, e ∈ dirOf op → listed.getD e false = true := fun j op hop hl e he => by
        rw [hlist] at hl ⊢
        have := dlt j op hop e he
        simp at hl ⊢; omega
      have hbu : listed.getD b true = false := by
        have := hlist b
        simp [hbs] at this ⊢; exact this
      cases fuel with
      | zero =>
        have := hcount [b] (fun j hj => by simp at hj; subst hj; exact ⟨hbl, hbu⟩) (by simp)
        simp at this
      | succ fuel =>
        refine ⟨fun hr => ?_, fun i hi => ?_⟩
        · have : b ∈ Region.ready .any ops listed := by
            rw [mem_ready]
            refine ⟨hbu, ops[b], Array.getElem?_eq_getElem hbl, fun e he hb => ?_⟩
            have := dlt b _ (Array.getElem?_eq_getElem hbl) e.on (mem_dirOf.2 ⟨e, he, hb, rfl⟩)
            rw [hlist]; simpa using this
          rw [hr] at this; simp at this
        · obtain ⟨m1, op, m2, m3⟩ := mem_ready.1 hi
          have hil : i < ops.size := (Array.getElem?_eq_some_iff.1 m2).1
          have hdir : ∀ e, e ∈ dirOf op → listed.getD e false = true := fun e he => by
            obtain ⟨x, hx, hb, rfl⟩ := mem_dirOf.1 he
            exact m3 x hx hb
          have hib : i = b := by
            have h1 := hbig listed hcd (fun j hj => by rw [hlist] at hj; simpa using hj) i op m2 hdir
            rcases Nat.lt_or_ge i b with h2 | h2
            · exfalso
              have his : i < listed.size := by rw [hls]; exact hil
              have h5 := hlist i
              simp [his, h2] at h5 m1
              rw [h5] at m1; simp at m1
            · omega
          subst hib
          obtain ⟨o', ho', h3⟩ := hops i op m2
          rw [hob] at ho'; simp only [Option.some.injEq] at ho'; subst ho'
          obtain ⟨E, rfl, hle, hs, hm, hkn, hmk⟩ := hrel.ex
          have hdd := cOper_inv h3
          have hsem : ∀ e, op.semAt (rnd rd).round e = execOp e op := fun e => Oper.semAt_plain (rnd rd) _ _ (cOp_nodefer hdd.2)
          unfold wpOpIn
          simp only [m2]
          rw [guard_sound hs h3 hg, if_pos rfl]
          obtain ⟨vs, e1, e2⟩ := call_sound (Args.of (hrel.gl.step hle) hs) hdd.2 h hcl
          unfold Oper.wpIn
          rw [hsem, e1, Oper.uponIn_enter]
          refine ⟨rnd_out, rnd_depth, calls_rnd ((hf E J base vs (hrel.gl.step hle) hm hkn e2).mono ?_)⟩
          rintro e w' ⟨v, E', rfl, rfl, q1, q2, q3, q4, q5⟩
          refine ih hQ (i + 1) (List.replicate (i + 1) dumO) _ _ _ (by rw [c1, hbd]; exact OpsRec.dums (i + 1)) (by simp) (by simp at hln ⊢; omega) (fun j hj => ?_) (fun j hj => ⟨by simp [hj], k1, by rw [c1, hbd]; simp [hj]⟩) fuel _ _ _ ⟨⟨E', rfl, hle.trans q1, ?_, q3, q5, ?_⟩, ?_, ?_, hrel.gl⟩ (by simpa using hls) (fun j => ?_) fun m hm2 hnd => ?_
          · have h7 := hfull j (by omega)
            rw [← h7, List.getElem?_append_right (by simp; omega), List.getElem?_append_right (by omega), hbd]
            simp only [List.length_replicate]
            rw [show j - i = (j - (i + 1)) + 1 by omega, List.getElem?_cons_succ]
          · have := put_rep q1 hs q2 op.dst
            rw [hrel.size] at this
            rw [hdd.1]
            exact this
          · rw [(put_size a op.dst v).2]; exact hmk.step q1
          · rw [(put_size a op.dst v).1]; exact hrel.size
          · exact hrel.below.trans q4
          · by_cases hji : j = i
            · subst hji; simp [hbs]
            · rw [getD_set_ne false (Ne.symm hji), hlist j, decide_eq_decide]; omega
          · have hni : i ∉ m := fun hmem => by
              have := (hm2 i hmem).2
              simp [hbs] at this
            have := hcount (i :: m) (fun j hj => by
              rcases List.mem_cons.1 hj with rfl | hj
              · exact ⟨hil, m1⟩
              · refine ⟨(hm2 j hj).1, ?_⟩
                have h5 := (hm2 j hj).2
                have hji : i ≠ j := fun e => hni (e ▸ hj)
                rwa [getD_set_ne true hji] at h5) (List.nodup_cons.2 ⟨hni, hnd⟩)
            simpa using this
/-- A region that draws its order. -/
theorem region_drawB {id : Nat} (hmix : P.follows .mixedOrders = true) (h : DrawB P n dep os σ g k [] σ' g' k') (hlen : os.length = ops.size) (hops : ∀ (j : Nat) op, ops[j]? = some op → ∃ o, os[j]? = some o ∧ cOper P ops op = some o)
    (hd : depOK ops.toList dep = true) (hsl : slotsOK os dep = true) (hQ : ∀ a w, RelS E0 J base w0 n σ' g' k' a w → Q .normal a w) {a : Act} {w : World} (hrel : RelS E0 J base w0 n σ g k a w) {rd : Option Nat} : (Code.region id ops true).wpIn (rnd rd) 0 P Q a w := by
  refine wpIn_region_any hmix ?_
  obtain ⟨E, rfl, hle, h1, h2, h3, hmk⟩ := hrel.ex
  obtain ⟨E', hw, hE, hM, _, hk, _, _⟩ := h2.drew
  have hrep : ∀ (j : Nat), (Array.replicate ops.size false).getD j false = false := by
    intro j
    rcases Nat.lt_or_ge j ops.size with h | h
    · simp [h]
    · simp [h]
  refine drawB_sound hlen hops hd hsl hQ h 0 [] σ g k .nil (by simp) (by simp) (fun j _ => by simp) (fun j hj => by omega) ops.size _ a _ ⟨⟨E', hw, hle.trans hE, fun t => (h1 t).step hE, hM, fun id hh => h3 id ((hk id).1 hh), hmk.step hE⟩, hrel.size, hrel.below.drew, hrel.gl⟩ (by simp) (fun j => by rw [hrep]; simp) fun m hm hnd => ?_
  exact nodup_len _ _ hnd fun j hj => (hm j hj).1
end
end Go.Proofs.YtgepadjkegfokaaDoor
