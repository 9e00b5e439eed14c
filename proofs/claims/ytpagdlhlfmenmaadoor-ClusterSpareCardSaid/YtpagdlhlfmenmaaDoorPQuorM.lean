/- Sums over sets of nodes: the heaviest nodes are the fewest. Plain. No condition. -/
import Derived.Test.YtpagdlhlfmenmaaDoorPAvSide
import Derived.Test.YtpagdlhlfmenmaaDoorRows
import Derived.Test.YtpagdlhlfmenmaaDoorPAvMap
import Derived.Laws.Bits64
import Derived.Laws.Bits64b
set_option linter.unusedSimpArgs false
set_option linter.unusedVariables false
set_option maxRecDepth 100000
namespace Go.Proofs.YtpagdlhlfmenmaaDoor
open Go.RowKit
inductive Src0 where
  | old (id : Nat) (raw : Bool)
  | new (sz : Nat)
def newOf : List Src0 → Nat → Nat → Option Nat
  | [], _, _ => none
  | .old i _ :: r, j, id => bif Nat.beq i id then some j else newOf r (j + 1) id
  | .new _ :: r, j, id => newOf r (j + 1) id
def ren (ρ : Nat → Option Nat) : Nat → AV → AV
  | 0, _ => .dead
  | d + 1, .agg cs => .agg (cs.map (ren ρ d))
  | d + 1, .tup cs => .tup (cs.map (ren ρ d))
  | d + 1, .fn f cs => .fn f (cs.map (ren ρ d))
  | d + 1, .bf f cs => .bf f (cs.map (ren ρ d))
  | d + 1, .yld r cs => .yld r (cs.map (ren ρ d))
  | _ + 1, .ref id sz i o => match ρ id with
    | some j => .ref j sz i o
    | none => .dead
  | _ + 1, .own id sz off n => match ρ id with
    | some j => .own j sz off n
    | none => .dead
  | _ + 1, .mp id => match ρ id with
    | some j => .mp j
    | none => .dead
  | _ + 1, a => a
def renB (ρ : Nat → Option Nat) (B : Bk) : Bk := ⟨B.sz, B.els.map fun cs => cs.map (ren ρ 3)⟩
def rhoOf (m : List (Option Bk)) (src : List Src0) (id : Nat) : Option Nat := bif (look m id).isSome then newOf src 0 id else none
def renS (ρ : Nat → Option Nat) (src : List Src0) (es : List (Nat × Nat)) (j : Nat) (a : AV) : AV :=
  match a, es.lookup j with
  | .emp, some i => match src[i]? with
    | some (.new sz) => .own i sz 0 0
    | _ => .emp
  | a, _ => ren ρ 4 a
def blkOf (m : List (Option Bk)) (src : List Src0) : Src0 → Option Bk
  | .old i raw => (look m i).map fun B => bif raw then B else renB (rhoOf m src) B
  | .new sz => some ⟨sz, []⟩
def srcOK (k0 : Nat) (src : List Src0) : Bool :=
  (List.range src.length).all (fun i => match src[i]? with
    | some (.old id _) => match newOf src 0 id with
      | some j => Nat.beq j i
      | none => false
    | some (.new sz) => Nat.ble 1 sz
    | _ => true) && (List.range k0).all fun i => match src[i]? with
    | some (.old id _) => Nat.beq id i
    | _ => false
def normL (k0 : Nat) (live : List Nat) (src : List Src0) (es : List (Nat × Nat)) (x : L3) : Option L3 :=
  bif srcOK k0 src then some ⟨live.map fun j => (j, renS (rhoOf x.m src) src es j (slot x.t j)), src.map (blkOf x.m src)⟩ else none
def lnOf (ln : Nat → Nat) : Option Src0 → Nat
  | some (.old id _) => ln id
  | _ => 0
def locOf (loc : Nat → Option Nat) : Option Src0 → Option Nat
  | some (.old id _) => loc id
  | _ => none
theorem emp_inv {E : Env} {v : Value} (h : Rep E v .emp) : ∃ A, v = .slice A 0 0 := by
  cases h with
  | emp => exact ⟨_, rfl⟩
theorem newOf_src : ∀ (src : List Src0) (k id j : Nat), newOf src k id = some j → k ≤ j ∧ ∃ raw, src[j - k]? = some (.old id raw)
  | [], k, id, j, h => by simp [newOf] at h
  | .old i raw :: r, k, id, j, h => by
    simp only [newOf] at h
    cases hb : Nat.beq i id with
    | true =>
      rw [hb] at h
      simp only [cond_true, Option.some.injEq] at h
      subst h
      have := Nat.eq_of_beq_eq_true hb
      subst this
      exact ⟨by omega, raw, by simp⟩
    | false =>
      rw [hb, cond_false] at h
      obtain ⟨h1, h2⟩ := newOf_src r (k + 1) id j h
      refine ⟨by omega, ?_⟩
      rw [show j - k = (j - (k + 1)) + 1 by omega, List.getElem?_cons_succ]
      exact h2
  | .new _ :: r, k, id, j, h => by
    simp only [newOf] at h
    obtain ⟨h1, h2⟩ := newOf_src r (k + 1) id j h
    refine ⟨by omega, ?_⟩
    rw [show j - k = (j - (k + 1)) + 1 by omega, List.getElem?_cons_succ]
    exact h2
theorem slot_map (G : Nat → AV) : ∀ (live : List Nat) (i : Nat), slot (live.map fun j => (j, G j)) i = G i ∨ slot (live.map fun j => (j, G j)) i = .dead
  | [], i => .inr rfl
  | j :: r, i => by
    simp only [List.map_cons, slot]
    cases hb : Nat.beq i j with
    | true =>
      have := Nat.eq_of_beq_eq_true hb
      subst this
      exact .inl rfl
    | false => exact slot_map G r i
theorem look_map (m : List (Option Bk)) (src : List Src0) (i : Nat) : look (src.map (blkOf m src)) i = (src[i]?).bind (blkOf m src) := by
  unfold look
  rw [List.getElem?_map]
  cases src[i]? <;> simp
section
variable {E E' : Env} {ρ : Nat → Option Nat}
theorem ren_rep (hI : E'.I = E.I) (hw : E'.w = E.w) (hg : ∀ l, E.rg l → E'.rg l) (hρ : ∀ id j, ρ id = some j → E'.kn j ∧ ¬ E'.dead j ∧ E'.loc j = E.loc id ∧ ¬ E.dead id ∧ E'.ln j = E.ln id) : ∀ (d : Nat) {v : Value} {a : AV}, Rep E v a → Rep E' v (ren ρ d a) := by
  have hp : ∀ {v : Value} {a : AV}, Rep E v a → Pu a → Rep E' v a := fun h hp => h.pure (fun b hb => ⟨by rw [hI]; exact hb, fun o => by rw [hw]⟩) hp
  intro d
  induction d with
  | zero => intro v a h; exact .dead
  | succ d ih =>
    have ihm : ∀ {vs : Array Value} {cs : List AV}, vs.size = cs.length → (∀ (i : Nat) v c, vs[i]? = some v → cs[i]? = some c → Rep E v c) → vs.size = (cs.map (ren ρ d)).length ∧ ∀ (i : Nat) v c, vs[i]? = some v → (cs.map (ren ρ d))[i]? = some c → Rep E' v c := by
      intro vs cs hl h
      refine ⟨by simpa using hl, fun i v c hv hc => ?_⟩
      rw [List.getElem?_map, Option.map_eq_some_iff] at hc
      obtain ⟨c0, hc0, rfl⟩ := hc
      exact ih (h i v c0 hv hc0)
    intro v a h
    cases a with
    | v x => exact hp h .v
    | agg cs => cases h with | agg hl hh => obtain ⟨q1, q2⟩ := ihm hl hh; exact .agg q1 q2
    | tup cs => cases h with | tup hl hh => obtain ⟨q1, q2⟩ := ihm hl hh; exact .tup q1 q2
    | fn f cs => cases h with | fn hl hh => obtain ⟨q1, q2⟩ := ihm hl hh; exact .fn q1 q2
    | bf f cs => cases h with | bf hl hh => obtain ⟨q1, q2⟩ := ihm hl hh; exact .bf q1 q2
    | yld r cs => cases h with | yld h1 h2 h3 hl hh => obtain ⟨q1, q2⟩ := ihm hl hh; exact .yld (hg _ h1) (by rw [hI]; exact h2) (by rw [hw]; exact h3) q1 q2
    | lst sz els => exact hp h .lst
    | tls sz els => exact hp h .tls
    | emp => exact hp h .emp
    | pim cs o => exact hp h .pim
    | anyb => exact hp h .anyb
    | dead => exact .dead
    | ref id sz i o =>
      simp only [ren]
      cases hr : ρ id with
      | none => exact .dead
      | some j =>
        obtain ⟨r1, r2, r3, r4, r5⟩ := hρ id j hr
        cases h with
        | ref hi hd hb hq => exact .ref r1 r2 (r3.trans hb) hq
        | staleR hi hd ho => exact absurd hd r4
    | own id sz off n =>
      simp only [ren]
      cases hr : ρ id with
      | none => exact .dead
      | some j =>
        obtain ⟨r1, r2, r3, r4, r5⟩ := hρ id j hr
        cases h with
        | own hi hd hb hq hs hm hl hc hln => exact .own r1 r2 (r3.trans hb) hq (by rw [hw]; exact hs) hm hl hc (by rw [r5]; exact hln)
        | own0 hi hd hb hln => exact .own0 r1 r2 (r3.trans hb) (r5.trans hln)
        | staleO hi hd ho => exact absurd hd r4
    | mp id =>
      simp only [ren]
      cases hr : ρ id with
      | none => exact .dead
      | some j =>
        obtain ⟨r1, r2, r3, r4, r5⟩ := hρ id j hr
        cases h with
        | mp hi hd hb => exact .mp r1 r2 (r3.trans hb)
        | staleP hi hd ho => exact absurd hd r4
end
def PuS (m : List (Option Bk)) : List Src0 → Prop
  | [] => True
  | .old id true :: r => (∃ (α : Type) (f : α → List AV) (xs : List α) (sz : Nat), look m id = some ⟨sz, xs.map f⟩ ∧ ∀ y, (f y).all AV.pu1 = true) ∧ PuS m r
  | _ :: r => PuS m r
abbrev PuE (m : List (Option Bk)) (id : Nat) : Prop := ∃ (α : Type) (f : α → List AV) (xs : List α) (sz : Nat), look m id = some ⟨sz, xs.map f⟩ ∧ ∀ y, (f y).all AV.pu1 = true
theorem pu {α : Type} {m : List (Option Bk)} {id : Nat} (sz : Nat) (f : α → List AV) (xs : List α) (h : look m id = some ⟨sz, xs.map f⟩) (hp : ∀ y, (f y).all AV.pu1 = true) : PuE m id := ⟨α, f, xs, sz, h, hp⟩
theorem pucI {m : List (Option Bk)} {id : Nat} (xs : List Int) (h : look m id = some ⟨1, xs.map cI⟩) : PuE m id := pu 1 cI xs h (by intro y; kernel_rfl)
theorem PuS.get {m : List (Option Bk)} : ∀ {src : List Src0}, PuS m src → ∀ (i id : Nat), src[i]? = some (.old id true) → ∀ B, look m id = some B → ∀ cs, cs ∈ B.els → ∀ c, c ∈ cs → Pu c
  | [], _, i, id, h, B, hB, cs, hcs, c, hc => by simp at h
  | .new _ :: r, hp, i, id, h, B, hB, cs, hcs, c, hc => by
    cases i with
    | zero => simp at h
    | succ i => exact PuS.get (src := r) hp i id (by simpa using h) B hB cs hcs c hc
  | .old _ false :: r, hp, i, id, h, B, hB, cs, hcs, c, hc => by
    cases i with
    | zero => simp at h
    | succ i => exact PuS.get (src := r) hp i id (by simpa using h) B hB cs hcs c hc
  | .old _ true :: r, hp, i, id, h, B, hB, cs, hcs, c, hc => by
    cases i with
    | zero =>
      simp only [List.getElem?_cons_zero, Option.some.injEq, Src0.old.injEq, and_true] at h
      subst h
      obtain ⟨⟨α, f, xs, sz, h1, h2⟩, _⟩ := hp
      rw [h1] at hB
      simp only [Option.some.injEq] at hB
      subst hB
      simp only [List.mem_map] at hcs
      obtain ⟨y, _, rfl⟩ := hcs
      have := h2 y
      simp only [List.all_eq_true] at this
      exact AV.pu1_pu (this c hc)
    | succ i => exact PuS.get (src := r) hp.2 i id (by simpa using h) B hB cs hcs c hc
theorem Mk.same {E E' : Env} (hI : E'.I = E.I) (hw : E'.w = E.w) {lo : Nat} {ds : List Deferred} (h : Mk E lo ds) : Mk E' lo ds := by
  induction h with
  | nil => exact .nil
  | cons h1 hD hh hne t ih => exact .cons (by rw [hI]; exact h1) hD (by rw [hw]; exact hh) hne ih
theorem norm_le {n k0 : Nat} {live : List Nat} {src : List Src0} {es : List (Nat × Nat)} {x y : L3} (h : normL k0 live src es x = some y) (hpu : PuS x.m src) : x.s.Le k0 n y.s := by
  have hp := hpu.get
  unfold normL at h
  cases hok : srcOK k0 src with
  | false => rw [hok] at h; simp at h
  | true =>
  rw [hok, cond_true, Option.some.injEq] at h
  subst h
  simp only [srcOK, Bool.and_eq_true, List.all_eq_true, List.mem_range] at hok
  obtain ⟨ok1, ok2⟩ := hok
  have inj : ∀ i id raw, src[i]? = some (.old id raw) → newOf src 0 id = some i := by
    intro i id raw hi
    have hlt : i < src.length := (List.getElem?_eq_some_iff.1 hi).1
    have := ok1 i hlt
    rw [hi] at this
    simp only at this
    cases hn : newOf src 0 id with
    | none => rw [hn] at this; simp at this
    | some j => rw [hn] at this; simp only at this; rw [Nat.eq_of_beq_eq_true this]
  have low : ∀ i, i < k0 → ∃ raw, src[i]? = some (.old i raw) := by
    intro i hi
    have := ok2 i hi
    cases hs : src[i]? with
    | none => rw [hs] at this; simp at this
    | some q =>
      cases q with
      | old id raw => rw [hs] at this; simp only at this; exact ⟨raw, by rw [Nat.eq_of_beq_eq_true this]⟩
      | new sz => rw [hs] at this; simp at this
  intro E0 J base w0 a w hk hr
  obtain ⟨E, rfl, hle, hs, hm, hkn, hmk⟩ := hr.ex
  let E' : Env := { w := E.w, kn := fun i => i < src.length, loc := fun i => locOf E.loc (src[i]?), dead := fun i => look (src.map (blkOf x.m src)) i = none, I := E.I, ln := fun i => lnOf E.ln (src[i]?), rg := E.rg }
  have hlive : ∀ id, look x.m id ≠ none → E.kn id ∧ ¬ E.dead id := fun id hid => by
    obtain ⟨B, hB⟩ := Option.ne_none_iff_exists'.1 hid
    exact (hm.live id).2 ⟨B, hB⟩
  have hρ : ∀ id j, rhoOf x.m src id = some j → E'.kn j ∧ ¬ E'.dead j ∧ E'.loc j = E.loc id ∧ ¬ E.dead id ∧ E'.ln j = E.ln id := by
    intro id j hj
    unfold rhoOf at hj
    cases hB : look x.m id with
    | none => rw [hB] at hj; simp at hj
    | some B =>
      rw [hB] at hj
      simp only [Option.isSome_some, cond_true] at hj
      obtain ⟨_, raw, h2⟩ := newOf_src src 0 id j hj
      simp only [Nat.sub_zero] at h2
      refine ⟨(List.getElem?_eq_some_iff.1 h2).1, ?_, ?_, (hlive id (by rw [hB]; simp)).2, by show lnOf E.ln (src[j]?) = _; rw [h2]; rfl⟩
      · show ¬ look _ j = none
        rw [look_map, h2]; simp [blkOf, hB]
      · show locOf E.loc (src[j]?) = _
        rw [h2]; rfl
  have hR : ∀ (d : Nat) {v : Value} {a : AV}, Rep E v a → Rep E' v (ren (rhoOf x.m src) d a) := ren_rep (E := E) (E' := E') rfl rfl (fun _ h => h) hρ
  have hget : ∀ i B', look (src.map (blkOf x.m src)) i = some B' → (∃ id raw B, src[i]? = some (.old id raw) ∧ look x.m id = some B ∧ B' = (bif raw then B else renB (rhoOf x.m src) B) ∧ E'.loc i = E.loc id) ∨ (∃ sz, src[i]? = some (.new sz) ∧ B' = ⟨sz, []⟩ ∧ E'.loc i = none) := by
    intro i B' hB'
    rw [look_map] at hB'
    cases hsi : src[i]? with
    | none => rw [hsi] at hB'; simp at hB'
    | some q =>
      rw [hsi] at hB'
      cases q with
      | old id raw =>
        simp only [Option.bind_some, blkOf, Option.map_eq_some_iff] at hB'
        obtain ⟨B, hB, rfl⟩ := hB'
        refine .inl ⟨id, raw, B, rfl, hB, rfl, ?_⟩
        show locOf E.loc (src[i]?) = _
        rw [hsi]; rfl
      | new sz =>
        simp only [Option.bind_some, blkOf, Option.some.injEq] at hB'
        subst hB'
        refine .inr ⟨sz, rfl, rfl, ?_⟩
        show locOf E.loc (src[i]?) = _
        rw [hsi]; rfl
  have hM : MemAt E' J base (look (src.map (blkOf x.m src))) := by
    refine ⟨fun i => ?_, fun i B' hB' => ?_, fun i i' b B1 B2 h1 h2 h3 h4 => ?_, fun i b B' hB' hl => ?_, hm.low, hm.size, fun i B' hB' hzz => ?_, hm.rgb⟩
    · show (i < src.length ∧ ¬ look _ i = none) ↔ _
      constructor
      · rintro ⟨_, h2⟩
        exact Option.ne_none_iff_exists'.1 h2
      · rintro ⟨B, hB⟩
        refine ⟨?_, by rw [hB]; simp⟩
        rw [look_map] at hB
        cases hsi : src[i]? with
        | none => rw [hsi] at hB; simp at hB
        | some q => exact (List.getElem?_eq_some_iff.1 hsi).1
    · rcases hget i B' hB' with ⟨id, raw, B, e1, e2, hBB, e4⟩ | ⟨sz, e1, rfl, e3⟩
      · rw [e4]
        have := hm.at_ id B e2
        have hsz : B'.sz = B.sz ∧ B'.els.length = B.els.length := by subst hBB; cases raw <;> simp [renB]
        have hel : ∀ (i : Nat) cs', B'.els[i]? = some cs' → ∃ cs, B.els[i]? = some cs ∧ cs'.length = cs.length ∧ ∀ (j : Nat) c', cs'[j]? = some c' → ∃ c, cs[j]? = some c ∧ ∀ u, Rep E u c → Rep E' u c' := by
          subst hBB
          cases raw with
          | true =>
            intro i' cs hi
            refine ⟨cs, hi, rfl, fun j c hj => ⟨c, hj, fun u hu => ?_⟩⟩
            exact Rep.pure (E := E) (E' := E') (fun b hb => ⟨hb, fun _ => rfl⟩) hu (hp i id e1 B e2 cs (List.mem_of_getElem? hi) c (List.mem_of_getElem? hj))
          | false =>
            intro i' cs' hi
            simp only [cond_false, renB, List.getElem?_map, Option.map_eq_some_iff] at hi
            obtain ⟨cs, hcs, rfl⟩ := hi
            refine ⟨cs, hcs, by simp, fun j c' hj => ?_⟩
            rw [List.getElem?_map, Option.map_eq_some_iff] at hj
            obtain ⟨c, hc, rfl⟩ := hj
            exact ⟨c, hc, fun u hu => hR 3 hu⟩
        cases hl : E.loc id with
        | none =>
          rw [hl] at this
          show B'.els = []
          have h0 : B.els = [] := this
          have := hsz.2
          rw [h0] at this
          exact List.eq_nil_of_length_eq_zero this
        | some b =>
          rw [hl] at this
          obtain ⟨q1, ⟨hz, arr, t, q2, q3, q4⟩ | ⟨hz, ent, clock, q2, q3, q4⟩⟩ := this
          · refine .ofCells ⟨q1, arr, t, q2, by rw [hsz.1, hsz.2]; exact q3, fun i cs' hi => ?_⟩ (by rw [hsz.1]; exact hz)
            obtain ⟨cs, hcs, hlen, hcell⟩ := hel i cs' hi
            obtain ⟨p1, p2⟩ := q4 i cs hcs
            refine ⟨by rw [hlen, hsz.1]; exact p1, fun j c' hj => ?_⟩
            obtain ⟨c, hc, hrep⟩ := hcell j c' hj
            obtain ⟨u, u1, u2, u3⟩ := p2 j c hc
            exact ⟨u, by rw [hsz.1]; exact u1, u2, hrep u u3⟩
          · refine .ofMap ⟨q1, ent, clock, q2, by rw [hsz.2]; exact q3, fun i' e cs' he hi => ?_⟩ (by rw [hsz.1]; exact hz)
            subst hBB
            cases raw with
            | true =>
              obtain ⟨y, k1, k2, k3⟩ := q4 i' e cs' he hi
              refine ⟨y, k1, k2, Rep.pure (E := E) (E' := E') (fun b hb => ⟨hb, fun _ => rfl⟩) k3 (hp i id e1 B e2 cs' (List.mem_of_getElem? hi) y (by rw [k1]; simp))⟩
            | false =>
              simp only [cond_false, renB, List.getElem?_map, Option.map_eq_some_iff] at hi
              obtain ⟨cs, hcs, rfl⟩ := hi
              obtain ⟨y, rfl, k2, k3⟩ := q4 i' e cs he hcs
              exact ⟨ren (rhoOf x.m src) 3 y, rfl, k2, hR 3 k3⟩
      · rw [e3]; rfl
    · rcases hget i B1 h1 with ⟨id, raw, B, e1, e2, _, e4⟩ | ⟨sz, _, _, e3⟩
      · rcases hget i' B2 h2 with ⟨id', raw', B', f1, f2, _, f4⟩ | ⟨sz, _, _, f3⟩
        · rw [e4] at h3; rw [f4] at h4
          have := hm.apart id id' b B B' e2 f2 h3 h4
          subst this
          have a1 := inj i id raw e1
          have a2 := inj i' id raw' f1
          rw [a1] at a2
          exact Option.some.inj a2
        · rw [f3] at h4; simp at h4
      · rw [e3] at h3; simp at h3
    · rcases hget i B' hB' with ⟨id, raw, B, e1, e2, _, e4⟩ | ⟨sz, _, _, e3⟩
      · rw [e4] at hl; exact hm.out id b B e2 hl
      · rw [e3] at hl; simp at hl
    · show _ = lnOf E.ln (src[i]?)
      rcases hget i B' hB' with ⟨id, raw, B, e1, e2, e3, e4⟩ | ⟨sz, e1, e2, e3⟩
      · rw [e1]; show _ = E.ln id
        rw [← hm.len id B e2 (by subst e3; cases raw <;> simpa [renB] using hzz), e3]; cases raw <;> simp [renB]
      · rw [e1, e2]; rfl
  have hE0 : E0.Le E' := by
    have locE : ∀ id, E0.kn id → E'.loc id = E.loc id := fun id hid => by
      show locOf E.loc (src[id]?) = _
      obtain ⟨raw, hl⟩ := low id (hk id hid)
      rw [hl]; rfl
    have deadE : ∀ id, E0.kn id → E.dead id → E'.dead id := fun id hid hd => by
      show look _ id = none
      obtain ⟨raw, hl⟩ := low id (hk id hid)
      rw [look_map, hl]
      cases hB : look x.m id with
      | none => simp [blkOf, hB]
      | some B => exact absurd hd (hlive id (by rw [hB]; simp)).2
    refine ⟨fun id hid => (low id (hk id hid)).elim fun _ hl => (List.getElem?_eq_some_iff.1 hl).1, hle.imm, fun id hid hd => deadE id hid (hle.dead id hid hd), fun id hid hd => ?_, fun id b hid hd hb => ?_, fun id hid hd => ?_, hle.rg⟩
    · rcases hle.loc id hid hd with h | h
      · exact .inl (deadE id hid h)
      · exact .inr ((locE id hid).trans h)
    · rcases hle.shape id b hid hd hb with h | h
      · exact .inl (deadE id hid h)
      · exact .inr h
    · rcases hle.ln id hid hd with h | h
      · exact .inl (deadE id hid h)
      · refine .inr (Eq.trans ?_ h)
        show lnOf E.ln (src[id]?) = _
        obtain ⟨raw, hl⟩ := low id (hk id hid)
        rw [hl]; rfl
  have hmk' : Mk E' w0.heap.size a.defers := Mk.same (E := E) (E' := E') rfl rfl hmk
  refine ⟨⟨E', rfl, hE0, fun t => ?_, hM, fun id hid => ?_, hmk'⟩, hr.size, hr.below, hr.gl⟩
  · show Rep E' _ (slot (live.map fun j => (j, renS (rhoOf x.m src) src es j (slot x.t j))) t)
    rcases slot_map (fun j => renS (rhoOf x.m src) src es j (slot x.t j)) live t with h | h
    · rw [h]
      have ht := hs t
      have ht' : Rep E (a.tmps.getD t undef) (slot x.t t) := ht
      have hdef : Rep E' (a.tmps.getD t undef) (ren (rhoOf x.m src) 4 (slot x.t t)) := hR 4 ht'
      unfold renS
      split
      · rename_i i he hl
        rw [he] at ht'
        split
        · rename_i sz hsz
          obtain ⟨A, hA⟩ := emp_inv ht'
          rw [hA]
          have hB' : look (src.map (blkOf x.m src)) i = some ⟨sz, []⟩ := by rw [look_map, hsz]; rfl
          have hz : sz ≠ 0 := by
            have := ok1 i (List.getElem?_eq_some_iff.1 hsz).1
            rw [hsz] at this
            have := Nat.le_of_ble_eq_true this
            omega
          refine .own0 (List.getElem?_eq_some_iff.1 hsz).1 (by show ¬ look _ i = none; rw [hB']; simp) ?_ ?_
          · show locOf E.loc (src[i]?) = _
            rw [hsz]; rfl
          · show lnOf E.ln (src[i]?) = _
            rw [hsz]; rfl
        · obtain ⟨A, hA⟩ := emp_inv ht'
          rw [hA]
          exact .emp
      · exact hdef
    · rw [h]; exact .dead
  · show id < (src.map _).length
    rw [List.length_map]; exact hid
section
variable {P : Program} {n k0 : Nat} {x : L3} {Q : Ex → L3 → Prop}
theorem EL.loopN {a : AC} (I : Nat → L3 → Prop) {m : Nat} {y : L3} (live : List Nat) (src : List Src0) (es : List (Nat × Nat)) (hn : normL k0 live src es x = some y) (hpu : PuS x.m src) (h0 : I m y)
    (round : ∀ m x, I m x → EL P n k0 a x (Ex.thenL (fun x' => ∃ m', m' < m ∧ ∃ y, x'.s.Le k0 n y.s ∧ I m' y) Q)) : EL P n k0 (.loop a) x Q :=
  EL.loop (fun m x => ∃ y, x.s.Le k0 n y.s ∧ I m y) (m := m) ⟨y, norm_le hn hpu, h0⟩ fun m x ⟨y, h1, h2⟩ => EL.weak h1 (round m y h2)
theorem rE {I : Nat → L3 → Prop} {m m' : Nat} {y : L3} {live : List Nat} {src : List Src0} {es : List (Nat × Nat)} (hn : normL k0 live src es x = some y) (hpu : PuS x.m src) (hm : m' < m) (hI : I m' y) : ∃ m', m' < m ∧ ∃ y, x.s.Le k0 n y.s ∧ I m' y := ⟨m', hm, y, norm_le hn hpu, hI⟩
end
section
variable {g : Nat → Option Bk}
theorem run_bind_some {α β : Type} {f : α → RM β} {m : RM α} {a : α} {b : β} (h : m.run g = some a) (h2 : (f a).run g = some b) : (m.bind f).run g = some b := by rw [(run_bind m h).1]; exact h2
theorem snap1_map {α : Type} (f : α → List AV) (xs : List α) {id sz n : Nat} (hB : g id = some ⟨sz, xs.map f⟩) (hp : ∀ y, (f y).all AV.pu1 = true) (hn : n = xs.length) : (snap1 (.own id sz 0 n)).run g = some (.lst sz (xs.map f)) := by
  subst hn
  have hc : (content sz (.own id sz 0 xs.length)).run g = some (xs.map f) := by
    simp [content, RM.run, hB]
    exact List.take_of_length_le (by simp)
  have : (snap1 (.own id sz 0 xs.length)) = (content sz (.own id sz 0 xs.length)).bind fun els => if (els.all fun cs => cs.all AV.pu1) = true then .ret (.lst sz els) else .fail := rfl
  rw [this]
  refine run_bind_some hc ?_
  have hall : ((xs.map f).all fun cs => cs.all AV.pu1) = true := by simpa using fun y _ => hp y
  rw [if_pos hall]; rfl
theorem snapA_map {α : Type} (f : α → List AV) (xs : List α) {id sz n : Nat} (hB : g id = some ⟨sz, xs.map f⟩) (hp : ∀ y, (f y).all AV.pu1 = true) (hn : n = xs.length) : (snapA (.own id sz 0 n)).run g = some (.lst sz (xs.map f)) := snap1_map f xs hB hp hn
theorem drop_get {α : Type} {xs : List α} {j : Nat} {a : α} (h : xs[j]? = some a) : xs.drop j = a :: xs.drop (j + 1) := by
  obtain ⟨hj, rfl⟩ := List.getElem?_eq_some_iff.1 h
  exact List.drop_eq_getElem_cons hj
end
def Ale (a b : AV) : Prop := ∀ (E : Env) (v : Value), Rep E v a → Rep E v b
theorem Ale.refl {a : AV} : Ale a a := fun _ _ h => h
theorem Ale.of_eq {a b : AV} (h : a = b) : Ale a b := h ▸ Ale.refl
theorem Ale.trans {a b c : AV} (h : Ale a b) (k : Ale b c) : Ale a c := fun E v r => k E v (h E v r)
theorem Ale.emp {sz : Nat} : Ale .emp (.lst sz []) := fun E v h => by
  obtain ⟨A, rfl⟩ := emp_inv h
  exact .lst0 (by omega)
inductive AleL : List AV → List AV → Prop
  | nil : AleL [] []
  | cons {a b : AV} {r s : List AV} (h : Ale a b) (t : AleL r s) : AleL (a :: r) (b :: s)
theorem AleL.get {r s : List AV} (h : AleL r s) : r.length = s.length ∧ ∀ (i : Nat) b, s[i]? = some b → ∃ a, r[i]? = some a ∧ Ale a b := by
  induction h with
  | nil => exact ⟨rfl, fun i b h => by simp at h⟩
  | cons h t ih =>
    refine ⟨by simp [ih.1], fun i b hb => ?_⟩
    cases i with
    | zero => simp only [List.getElem?_cons_zero, Option.some.injEq] at hb; subst hb; exact ⟨_, by simp, h⟩
    | succ i => exact ih.2 i b (by simpa using hb)
theorem Ale.tup {r s : List AV} (h : AleL r s) : Ale (.tup r) (.tup s) := fun E v hv => by
  cases hv with
  | tup hl hh => exact .tup (hl.trans h.get.1) fun i u c hu hc => let ⟨a, ha, hab⟩ := h.get.2 i c hc; hab _ _ (hh i u a hu ha)
theorem Ale.agg {r s : List AV} (h : AleL r s) : Ale (.agg r) (.agg s) := fun E v hv => by
  cases hv with
  | agg hl hh => exact .agg (hl.trans h.get.1) fun i u c hu hc => let ⟨a, ha, hab⟩ := h.get.2 i c hc; hab _ _ (hh i u a hu ha)
theorem Fn.args {P : Program} {f : FuncId} {as_ as' : List AV} {r : AV} (h : Fn P f as_ r) (ha : AleL as' as_) : Fn P f as' r := fun w J vs hJ hG hrc =>
  h w J vs hJ hG ⟨hrc.1.trans ha.get.1, fun i u c hu hc => let ⟨a, h1, h2⟩ := ha.get.2 i c hc; h2 _ _ (hrc.2 i u a hu h1)⟩
theorem fn_ofW {P : Program} {f : FuncId} {F : AFn} (hF : cFunc P f = some F) {as_ : List AV} (hl : as_.length ≤ F.n) {r : AV}
    (h : EW P F.n 0 F.code ⟨σ0 as_, fun _ => none, 0⟩ fun x s' => (x = .normal ∨ x = .ret) ∧ ∃ r', ((resR s'.σ F.res).bind snapR).run s'.g = some r' ∧ Ale r' r) : Fn P f as_ r := by
  intro w J vs hJ hG hrc
  obtain ⟨fn, c, h1, h2, h3, h4, h5⟩ := cFunc_inv hF
  have hm : MemAt (E0 w J) J w.heap.size (fun _ => none) := ⟨fun id => by simp [E0], fun id B hg => by simp at hg, fun id id' b B B' hg => by simp at hg, fun id b B hg => by simp at hg, fun b hb => ⟨hJ b hb, .inl hb⟩, Nat.le_refl _, fun id B hg => by simp at hg, fun _ h => h.elim⟩
  refine calls_marks h1 h2 (wpIn_mono (h none c (E0 w J) J w.heap.size w _ w (fun _ => rfl) h4 (fun id hid => hid.elim) ⟨⟨E0 w J, rfl, Env.Le.refl _, start_rep hrc _, hm, fun id hid => hid.elim, .nil⟩, ?_, Below.refl _ _, hG⟩) ?_)
  · simp only [Array.size_append, Array.size_replicate, hrc.1]; omega
  · rintro e a' w' ⟨x, s', ⟨hx, r', hr, hale⟩, rfl, hrel⟩
    obtain ⟨E1, rfl, hle, hs1, hM1, hk, hmk⟩ := hrel.ex
    refine ⟨by rcases hx with rfl | rfl <;> simp [Ex.up], marks_leave _ E1 hmk fun E' hS => ?_⟩
    have hM := hS.mem hM1
    have hs := fun t => hS.rep (hs1 t)
    obtain ⟨r0, hr1, hr2⟩ := bind_run hr
    obtain ⟨v, e1, e2⟩ := res_run hM hs h3 hr1
    have hI : ∀ ids b, Handed E' s'.g ids b → J b ∨ (w.heap.size ≤ b ∧ b < E'.w.heap.size) := by
      intro ids b hb
      rcases hb with hb | ⟨id, B, _, hg, hl⟩
      · have := hM.low b hb
        rcases this.2 with h | h
        · exact .inl h
        · exact .inr ⟨h, this.1⟩
      · have := hM.at_ id B hg
        rw [hl] at this
        exact .inr this.lt
    have hrep : Rep (Proofs.YtpagdlhlfmenmaaDoor.E0 E'.w fun b => J b ∨ (w.heap.size ≤ b ∧ b < E'.w.heap.size)) v r := by
      refine hale _ _ ?_
      cases r0 with
      | tup us =>
        simp only [snapR] at hr2
        obtain ⟨l, m1, m2⟩ := bind_run hr2
        simp only [RM.run, Option.some.injEq] at m2; subst m2
        obtain ⟨k1, k2⟩ := snapAs_rep hM _ m1 (hI _)
        cases e2 with
        | tup hl h =>
          refine .tup (by rw [k1]; exact hl) fun i v c hv hc => ?_
          have hi : i < us.length := by rw [← k1]; exact (List.getElem?_eq_some_iff.1 hc).1
          exact k2 i v us[i] c (h i v _ hv (List.getElem?_eq_getElem hi)) (List.getElem?_eq_getElem hi) hc
      | _ => exact snapA_rep hM _ e2 hr2 (hI _)
    exact ⟨v, e1, v, rfl, hrep, hS.below (Nat.le_refl _) hrel.below⟩
theorem fW {P : Program} {f : FuncId} {F : AFn} (hF : cFunc P f = some F) {as_ : List AV} (hl : as_.length ≤ F.n) {r : AV}
    (h : EL P F.n 0 F.code (start as_) fun e x => (e = .normal ∨ e = .ret) ∧ ∃ r', ((resR (slot x.t) F.res).bind snapR).run (look x.m) = some r' ∧ Ale r' r) : Fn P f as_ r := by
  refine fn_ofW hF hl (EW.weak (start_le as_ _ _) (EW.conseq h ?_))
  rintro e s ⟨x', rfl, h1, h2⟩
  exact ⟨h1, h2⟩
theorem run_snap {x : L3} {res : List ARes} {r0 r' : AV} (h0 : (resR (slot x.t) res).run (look x.m) = some r0) (h : (snapR r0).run (look x.m) = some r') : ((resR (slot x.t) res).bind snapR).run (look x.m) = some r' := run_bind_some h0 h
theorem fi_ofW {P : Program} {f : FuncId} {F : AFn} (hF : cFunc P f = some F) {as_ : List AV} (hl : as_.length ≤ F.n) {g g' : Nat → Option Bk} {k k' : Nat} {r : AV}
    (h : EW P F.n k F.code ⟨σ0 as_, g, k⟩ fun x s' => (x = .normal ∨ x = .ret) ∧ ∃ y : S3, s'.Le k F.n y ∧ (resR y.σ F.res).run y.g = some r ∧ y.g = g' ∧ y.k = k') : Fi P f as_ g k r g' k' := by
  intro E J base vs hG hm hkn hrc
  obtain ⟨fn, c, h1, h2, h3, h4, h5⟩ := cFunc_inv hF
  refine calls_marks h1 h2 (wpIn_mono (h none c E J base E.w _ E.w (fun _ => rfl) h4 hkn ⟨⟨E, rfl, Env.Le.refl E, start_rep hrc _, hm, hkn, .nil⟩, ?_, Below.refl _ _, hG⟩) ?_)
  · simp only [Array.size_append, Array.size_replicate, hrc.1]; omega
  · rintro e a' w' ⟨x, s', ⟨hx, y, hy, hr, rfl, rfl⟩, rfl, hrel0⟩
    have hrel := hy E J base E.w a' w' hkn hrel0
    obtain ⟨E', rfl, hle, hs, hM, hk, hmk⟩ := hrel.ex
    refine ⟨by rcases hx with rfl | rfl <;> simp [Ex.up], marks_leave _ E' hmk fun E2 hS => ?_⟩
    have hM2 := hS.mem hM
    obtain ⟨v, e1, e2⟩ := res_run hM2 (fun t => hS.rep (hs t)) h3 hr
    exact ⟨v, e1, v, E2, rfl, rfl, hS.le hle fun b hb => (hm.low b hb).1, e2, hM2, hS.below hm.size hrel.below, fun id hid => hk id (by rw [← hS.eqs.1]; exact hid)⟩
theorem fV {P : Program} {f : FuncId} {F : AFn} (hF : cFunc P f = some F) {as_ : List AV} (hl : as_.length ≤ F.n) {r : AV} {m m' : List (Option Bk)}
    (h : EL P F.n m.length F.code ⟨startT 0 as_, m⟩ fun e x => (e = .normal ∨ e = .ret) ∧ ∃ y : L3, x.s.Le m.length F.n y.s ∧ (resR (slot y.t) F.res).run (look y.m) = some r ∧ y.m = m') : Fi P f as_ (look m) m.length r (look m') m'.length := by
  refine fi_ofW hF hl (EW.weak (start_le as_ _ _) (EW.conseq h ?_))
  rintro e s ⟨x', rfl, h1, y, h2, h3, rfl⟩
  exact ⟨h1, y.s, h2, h3, rfl, rfl⟩
theorem fo_of {P : Program} {f : FuncId} {as_ : List AV} {sz : Nat} {els : List (List AV)} (h : Fi P f as_ (look []) 0 (.own 0 sz 0 els.length) (look [some ⟨sz, els⟩]) 1) : Fo P f as_ sz els := by
  intro w J vs hJ hG hrc
  have hm : MemAt (E0 w J) J w.heap.size (look []) := ⟨fun id => by simp [E0, look], fun id B hg => by simp [look] at hg, fun id id' b B B' hg => by simp [look] at hg, fun id b B hg => by simp [look] at hg, fun b hb => ⟨hJ b hb, .inl hb⟩, Nat.le_refl _, fun id B hg => by simp [look] at hg, fun _ h => h.elim⟩
  refine (h (E0 w J) J w.heap.size vs hG hm (fun id hid => hid.elim) hrc).mono ?_
  rintro e w' ⟨v, E', he, hw, hle, hr, hM, hb, hk⟩
  have hg : look [some (⟨sz, els⟩ : Bk)] 0 = some ⟨sz, els⟩ := rfl
  obtain ⟨k1, k2⟩ := (hM.live 0).2 ⟨_, hg⟩
  exact ⟨v, E', he, hw, hb, hr, k1, k2, hM.at_ 0 _ hg, (hM.len 0 _ hg (hr.own_sz k2)).symm⟩
section
variable {P : Program} {n k0 : Nat} {x : L3} {K : L3 → Prop} {R : List AOper} {k : Nat}
theorem nob_map {α : Type} {f : α → List AV} {xs : List α} (h : ∀ y, (f y).all AV.nob1 = true) : ∀ cs, cs ∈ xs.map f → ∀ c, c ∈ cs → c.nob1 = true := by
  intro cs hcs c hc
  simp only [List.mem_map] at hcs
  obtain ⟨y, _, rfl⟩ := hcs
  have := h y
  simp only [List.all_eq_true] at this
  exact this c hc
theorem OW.fo {α : Type} {f : FuncId} {ar bs : List AV} {sz : Nat} {fe : α → List AV} {xs : List α} {x' : L3} (hl : Nat.blt k R.length = true) (h : opE (opD R k) x = .call f ar) (hc : callable P f = true) (hf : Fo P f bs sz (xs.map fe)) (hn : ∀ y, (fe y).all AV.nob1 = true) (hs : (snapAs ar).run (look x.m) = some bs)
    (hx : (bif dstOK n (opD R k).dst then some (⟨setA x.t (opD R k).dst (.own x.m.length sz 0 xs.length), mput x.m [(x.m.length, some ⟨sz, xs.map fe⟩)]⟩ : L3) else none) = some x') (hr : OW P n k0 (R.drop (k + 1)) x' K) : OW P n k0 (R.drop k) x K := by
  rw [opD_drop hl]
  cases hd : dstOK n (opD R k).dst with
  | false => rw [hd] at hx; simp at hx
  | true =>
    rw [hd, cond_true] at hx
    simp only [Option.some.injEq] at hx
    subst hx
    obtain ⟨x', h1, h3⟩ := hr
    simp only [setA_slot _ _ hd] at h1
    obtain ⟨m1, m2, m3⟩ := mput_spec [(x.m.length, some (⟨sz, xs.map fe⟩ : Bk))] x.m (by simp [upsOK])
    rw [m1] at h1
    obtain ⟨g1, g2⟩ := opE_call h
    have := OpRun.callO g1 g2 hc hs hf (nob_map hn)
    rw [List.length_map] at this
    exact ⟨x', .cons this m2 m3 h1, h3⟩
end
section
variable {o : AOper} {x : L3}
theorem opE_ldoS {α : Type} (f : α → List AV) (xs : List α) (mm : Option Nat) (a : Arg) (id sz i oo : Nat) (z : α) (v : AV) (ho : o.ao = .load mm a) (hg : guardA (slot x.t) o.guard = some true) (ha : argσ (slot x.t) a = .ref id sz i oo) (hB : look x.m id = some ⟨sz, xs.map f⟩) (hi : xs[i]? = some z) (hv : getCells (f z) oo mm = some v) : opE o x = .done v [] [id] :=
  opE_ldo mm a id sz i oo _ (f z) v ho hg ha hB (by simp [hi]) hv
theorem opE_stoS {α : Type} (f : α → List AV) (xs : List α) (nn : Nat) (a b : Arg) (id sz i oo : Nat) (z y : α) (w : AV) (ho : o.ao = .store nn a b) (hg : guardA (slot x.t) o.guard = some true) (ha : argσ (slot x.t) a = .ref id sz i oo) (hb : argσ (slot x.t) b = w) (hB : look x.m id = some ⟨sz, xs.map f⟩) (hi : xs[i]? = some z)
    (hw : (Nat.beq w.cells.length nn && w.cells.all AV.one && Nat.ble (oo + nn) sz) = true) (hy : putCells (f z) oo w.cells = f y) : opE o x = .done (.v undef) [(id, some ⟨sz, (xs.set i y).map f⟩)] [id] := by
  have := opE_sto nn a b id sz i oo (xs.map f) (f z) w ho hg ha hb hB (by simp [hi]) hw
  rw [this, hy, List.map_set]
end
theorem rem64 {x c : Int} (h : 0 ≤ x) : x.tmod c = x % c := Int.tmod_eq_emod_of_nonneg h
open Go.RowKit
def Del1 (sz : Nat) : List AOper := [⟨some 8, .mov (.s 0), none⟩, ⟨some 9, .mov (.s 1), none⟩, ⟨some 10, .mov (.s 2), none⟩, ⟨some 11, .mov (.s 0), none⟩, ⟨some 12, .len false (.s 11), none⟩, ⟨some 13, .slc sz (.s 8) (some (.s 9)) (some (.s 10)) (some (.s 12)), none⟩]
def Del2 : List AOper := [⟨some 14, .mov (.s 1), none⟩, ⟨some 15, .mov (.s 2), none⟩, ⟨some 16, .bin false .eql (.s 14) (.s 15), none⟩]
def Del3 : List AOper := [⟨some 17, .mov (.s 0), none⟩, ⟨some 6, .mov (.s 17), none⟩]
def Del4 : List AOper := [⟨some 18, .mov (.s 0), none⟩, ⟨some 19, .len false (.s 18), none⟩, ⟨some 7, .mov (.s 19), none⟩]
def Del5 (sz by_ : Nat) : List AOper := [⟨some 20, .mov (.s 0), none⟩, ⟨some 21, .mov (.s 1), none⟩, ⟨some 22, .slc sz (.s 20) none (some (.s 21)) none, none⟩, ⟨some 23, .mov (.s 0), none⟩, ⟨some 24, .mov (.s 2), none⟩, ⟨some 25, .slc sz (.s 23) (some (.s 24)) none none, none⟩, ⟨some 26, .app sz by_ (.s 22) (.s 25), none⟩, ⟨some 0, .mov (.s 26), none⟩]
def Del6 (sz : Nat) (zs : List AV) : List AOper := [⟨some 27, .mov (.s 0), none⟩, ⟨some 28, .mov (.s 0), none⟩, ⟨some 29, .len false (.s 28), none⟩, ⟨some 30, .mov (.s 7), none⟩, ⟨some 31, .slc sz (.s 27) (some (.s 29)) (some (.s 30)) none, none⟩, ⟨none, .clr zs (.s 31), none⟩]
def Del7 : List AOper := [⟨some 32, .mov (.s 0), none⟩, ⟨some 6, .mov (.s 32), none⟩]
def DelDep : List (List Nat) := [[], [], [0, 1], [], [], [3, 4], [2, 5, 0, 1, 3, 4], [6, 0, 1, 2, 3, 4, 5]]
def DelF (sz by_ : Nat) (zs : List AV) : AFn := ⟨33, [.tmp 6],
  .seq (.reg [⟨some 6, .mov (.c .emp), none⟩] none)
  (.seq (.reg (Del1 sz) none)
  (.seq (.seq (.reg Del2 none)
  (.cond (.s 16)
    (.seq (.reg Del3 none)
    (.ret))
    (.skip)))
  (.seq (.reg Del4 none)
  (.seq (.reg (Del5 sz by_) (some DelDep))
  (.seq (.reg (Del6 sz zs) none)
  (.seq (.reg Del7 none)
  (.ret)))))))⟩
def delM (m : List (Option Bk)) (id : Nat) (B : Bk) : List (Option Bk) := m.set id none ++ [none, some B]
theorem trunc_le {n k0 : Nat} {x : L3} {id sz c t0 : Nat} {els : List (List AV)} (hB : look x.m id = some ⟨sz, els⟩) (hc : c ≤ els.length) (hs : slot x.t t0 = .own id sz 0 c) {y : L3} (hy : y.t = [(t0, .own x.m.length sz 0 c)]) (hm : y.m = x.m.set id none ++ [some ⟨sz, els.take c⟩]) : x.s.Le k0 n y.s := by
  intro E0 J base w0 a w hk hr
  obtain ⟨E, rfl, hle, hsl, hmm, hkn, hmk⟩ := hr.ex
  have hid : id < x.m.length := by
    rcases Nat.lt_or_ge id x.m.length with h | h
    · exact h
    · unfold look at hB; rw [List.getElem?_eq_none h] at hB; simp at hB
  have hf : ¬ E.kn x.m.length := fun hh => Nat.lt_irrefl _ (hkn _ hh)
  have hz0 : sz ≠ 0 := (show Rep E (a.tmps.getD t0 undef) (.own id sz 0 c) by rw [← hs]; exact hsl t0).own_sz ((hmm.live id).2 ⟨_, hB⟩).2
  obtain ⟨E', hw, hE, hM, k1, k2, k3, k4, k5⟩ := hmm.move hf id ⟨sz, els⟩ ⟨sz, els.take c⟩ hB E.w (fun _ _ => rfl) rfl (fun _ _ => rfl) (fun E' hE hw => by
    have := (hmm.at_ id _ hB)
    cases hl : E.loc id with
    | none =>
      rw [hl] at this
      have h0 : els = [] := this
      show els.take c = []
      rw [h0]; simp
    | some b =>
      rw [hl] at this
      obtain ⟨q1, arr, t, q2, q3, q4⟩ := this.cells hz0
      refine .ofCells ⟨q1, arr, t, by rw [hw]; exact q2, ?_, fun i cs hi => ?_⟩ hz0
      · refine Nat.le_trans (Nat.mul_le_mul_right _ ?_) q3
        simp only [List.length_take]; omega
      · have hi' : els[i]? = some cs := by
          simp only [List.getElem?_take] at hi
          split at hi
          · exact hi
          · simp at hi
        refine ⟨(q4 i cs hi').1, fun j x hj => ?_⟩
        obtain ⟨u, u1, u2, u3⟩ := (q4 i cs hi').2 j x hj
        exact ⟨u, u1, u2, u3.step hE⟩)
  have hg : gput (look x.m) [(id, none), (x.m.length, some ⟨sz, els.take c⟩)] = look y.m := by
    rw [hm]
    have e1 := look_put x.m id none (by omega)
    rw [if_pos hid] at e1
    have e2 := look_put (x.m.set id none) x.m.length (some ⟨sz, els.take c⟩) (by simp)
    rw [if_neg (by simp)] at e2
    rw [e2, e1]
    rfl
  have hM := hg ▸ (show MemAt E' J base (gput (look x.m) [(id, none), (x.m.length, some ⟨sz, els.take c⟩)]) from hM)
  refine ⟨⟨E', hw, hle.trans hE, fun t => ?_, hM, fun j hj => ?_, hmk.step hE⟩, hr.size, hr.below, hr.gl⟩
  · show Rep E' _ (slot y.t t)
    rw [hy]
    simp only [slot]
    cases hb : Nat.beq t t0 with
    | false => exact .dead
    | true =>
      have := Nat.eq_of_beq_eq_true hb
      subst this
      have hv := hsl t
      have hv' : Rep E (a.tmps.getD t undef) (.own id sz 0 c) := by rw [← hs]; exact hv
      have hlive := (hmm.live id).2 ⟨_, hB⟩
      have hlen : c ≤ els.length := hc
      simp only [cond_true]
      obtain ⟨vv, hvv⟩ : ∃ vv, vv = a.tmps.getD t undef := ⟨_, rfl⟩
      rw [← hvv] at hv' ⊢
      cases hv' with
      | staleO hi hd => exact absurd hd hlive.2
      | own hi hd hb hq hss hm' hl hcc hln =>
        refine .own k1 k2 (k3.trans hb) hq (by rw [hw]; exact hss) hm' hl hcc (by rw [k5]; simp only [List.length_take]; omega)
      | own0 hi hd hb hln => exact .own0 k1 k2 (k3.trans hb) (by rw [k5]; simp)
  · show j < y.m.length
    rw [hm]
    simp only [List.length_append, List.length_set, List.length_cons, List.length_nil]
    rcases k4 j hj with h | h
    · have h' : j < x.m.length := hkn j h
      omega
    · omega
section
variable {o : AOper} {x : L3}
theorem optNat_nat {σ : Nat → AV} {a : Arg} {n : Nat} (h : argσ σ a = VI n) : optNat (argσ σ) (some a) = some (some n) := by
  simp only [optNat, h, natOf]
  rw [if_pos (by omega)]; simp
theorem opE_slco2 (a : Arg) (lo hi : Option Arg) (sz id off n l h : Nat) (lo' hi' : Option Nat) (B : Bk) (ho : o.ao = .slc sz a lo hi none) (hg : guardA (slot x.t) o.guard = some true) (ha : argσ (slot x.t) a = .own id sz off n) (hlo : optNat (argσ (slot x.t)) lo = some lo') (hhi : optNat (argσ (slot x.t)) hi = some hi') (hbd : bounds n lo' hi' = some (l, h)) (hB : look x.m id = some B) :
    opE o x = .done (.own id sz (off + l) (h - l)) [] [id] := by
  have hn : optNat (argσ (slot x.t)) none = some none := rfl
  have hs : (AO.slc sz a lo hi none).sem x.m.length (argσ (slot x.t)) = .lv id (.ret (.done (.own id sz (off + l) (h - l)) [])) := by simp [AO.sem, ha, hlo, hhi, hn, hbd, RM.opt]
  exact opE_sem _ (acc := []) (see := [id]) ho hg (by rw [hs]; simp [RM.run, hB]) (by rw [hs]; rfl) (by rw [hs]; rfl)
theorem opE_slco3 (a : Arg) (lo hi : Option Arg) (mx : Arg) (sz id off n l h mm : Nat) (lo' hi' : Option Nat) (B : Bk) (ho : o.ao = .slc sz a lo hi (some mx)) (hg : guardA (slot x.t) o.guard = some true) (ha : argσ (slot x.t) a = .own id sz off n) (hlo : optNat (argσ (slot x.t)) lo = some lo') (hhi : optNat (argσ (slot x.t)) hi = some hi') (hmx : optNat (argσ (slot x.t)) (some mx) = some (some mm)) (hbd : bounds n lo' hi' = some (l, h)) (hB : look x.m id = some B) (h1 : B.els.length ≤ off + mm) (h2 : h ≤ mm ∧ mm ≤ n) (h3 : mm ≠ l) (hBz : B.sz = sz := by rfl) :
    opE o x = .done (.own id sz (off + l) (h - l)) [] [id, id] := by
  have hs : (AO.slc sz a lo hi (some mx)).sem x.m.length (argσ (slot x.t)) = .lv id (.rd id fun B => if B.sz = sz ∧ B.els.length ≤ off + mm then .ret (.done (.own id sz (off + l) (h - l)) []) else .fail) := by
    simp [AO.sem, ha, hlo, hhi, hmx, hbd, RM.opt, h2, h3]
  exact opE_sem _ (acc := [id]) (see := [id]) ho hg (by rw [hs]; simp [RM.run, hB, h1, hBz]) (by rw [hs]; simp [RM.acc, hB, h1, hBz]) (by rw [hs]; simp [RM.see, hB, h1, hBz])
theorem opE_slco2h (a : Arg) (lo hi : Option Arg) (sz id off n l h : Nat) (lo' : Option Nat) (hh : Nat) (B : Bk) (ho : o.ao = .slc sz a lo hi none) (hg : guardA (slot x.t) o.guard = some true) (ha : argσ (slot x.t) a = .own id sz off n) (hlo : optNat (argσ (slot x.t)) lo = some lo') (hhi : optNat (argσ (slot x.t)) hi = some (some hh)) (hno : bounds n lo' (some hh) = none) (hB : look x.m id = some B) (hbd : bounds (B.els.length - off) lo' (some hh) = some (l, h)) (hBz : B.sz = sz := by rfl) :
    opE o x = .done (.own id sz (off + l) (h - l)) [] [id, id] := by
  have hn : optNat (argσ (slot x.t)) none = some none := rfl
  have hs : (AO.slc sz a lo hi none).sem x.m.length (argσ (slot x.t)) = .lv id (.rd id fun B => if B.sz = sz then .opt ((bounds (B.els.length - off) lo' (some hh)).map fun b => .done (.own id sz (off + b.1) (b.2 - b.1)) []) else .fail) := by simp [AO.sem, ha, hlo, hhi, hn, hno]
  exact opE_sem _ (acc := [id]) (see := [id]) ho hg (by rw [hs]; simp [RM.run, RM.opt, hB, hbd, hBz]) (by rw [hs]; simp [RM.acc, RM.opt, hB, hbd, hBz]) (by rw [hs]; simp [RM.see, RM.opt, hB, hbd, hBz])
theorem opE_appIn (s a : Arg) (sz by_ id off n : Nat) (els ys : List (List AV)) (w : AV) (acc : List Nat) (ho : o.ao = .app sz by_ s a) (hg : guardA (slot x.t) o.guard = some true) (hs : argσ (slot x.t) s = .own id sz off n) (ha : argσ (slot x.t) a = w) (c1 : (content sz w).run (look x.m) = some ys) (c2 : (content sz w).acc (look x.m) = acc) (c3 : (content sz w).see (look x.m) = [])
    (hB : look x.m id = some ⟨sz, els⟩) (hno : ¬ (off = 0 ∧ n = els.length)) (hfit : off + n + ys.length ≤ els.length) :
    opE o x = .done (.own id sz off (n + ys.length)) [(id, some ⟨sz, els.take (off + n) ++ ys ++ els.drop (off + n + ys.length)⟩), (x.m.length, none)] (acc ++ [id]) := by
  let F : List (List AV) → RM Out := fun ys => .rd id fun B => if sz = sz ∧ B.sz = sz ∧ off = 0 ∧ n = B.els.length ∧ (n + ys.length) * by_ ≤ 140737488355328 then .ret (.done (.own x.m.length sz 0 (n + ys.length)) [(id, none), (x.m.length, some ⟨sz, B.els ++ ys⟩)])
    else if sz = sz ∧ B.sz = sz ∧ off + n + ys.length ≤ B.els.length then .ret (.done (.own id sz off (n + ys.length)) [(id, some ⟨B.sz, B.els.take (off + n) ++ ys ++ B.els.drop (off + n + ys.length)⟩), (x.m.length, none)]) else .fail
  have hsem : (AO.app sz by_ s a).sem x.m.length (argσ (slot x.t)) = (content sz w).bind F := by simp [AO.sem, hs, ha, F]
  obtain ⟨r1, r2, r3⟩ := run_bind (f := F) _ c1
  have hno' : ¬ (off = 0 ∧ n = els.length ∧ (n + ys.length) * by_ ≤ 140737488355328) := fun h => hno ⟨h.1, h.2.1⟩
  have hF1 : (F ys).run (look x.m) = some (.done (.own id sz off (n + ys.length)) [(id, some ⟨sz, els.take (off + n) ++ ys ++ els.drop (off + n + ys.length)⟩), (x.m.length, none)]) := by
    simp only [F, RM.run, hB, true_and]; rw [if_neg hno', if_pos hfit]; rfl
  have hF2 : (F ys).acc (look x.m) = [id] := by
    simp only [F, RM.acc, hB, true_and]; rw [if_neg hno', if_pos hfit]; rfl
  have hF3 : (F ys).see (look x.m) = [] := by
    simp only [F, RM.see, hB, true_and]; rw [if_neg hno', if_pos hfit]; rfl
  have := opE_sem (AO.app sz by_ s a) (o := o) (x := x) (acc := acc ++ [id]) (see := []) ho hg (by rw [hsem, r1]; exact hF1) (by rw [hsem, r2, c2, hF2]) (by rw [hsem, r3, c3, hF3]; rfl)
  simpa using this
theorem opE_clr (zs : List AV) (a : Arg) (sz id off n : Nat) (els : List (List AV)) (ho : o.ao = .clr zs a) (hg : guardA (slot x.t) o.guard = some true) (hz : zs.length = sz) (ha : argσ (slot x.t) a = .own id sz off n) (hB : look x.m id = some ⟨sz, els⟩) (hfit : off + n ≤ els.length) :
    opE o x = .done (.v undef) [(id, some ⟨sz, els.take off ++ List.replicate n zs ++ els.drop (off + n)⟩)] [id] := by
  subst hz
  have hs : (AO.clr zs a).sem x.m.length (argσ (slot x.t)) = .rd id fun B => if B.sz = zs.length ∧ off + n ≤ B.els.length then .ret (.done (.v undef) [(id, some ⟨B.sz, B.els.take off ++ List.replicate n zs ++ B.els.drop (off + n)⟩)]) else .fail := by simp [AO.sem, ha]
  exact opE_sem _ (acc := [id]) (see := []) ho hg (by rw [hs]; simp [RM.run, hB, hfit]) (by rw [hs]; simp [RM.acc, hB, hfit]) (by rw [hs]; simp [RM.see, hB, hfit])
end
section
variable {P : Program} {sz by_ : Nat} {zs : List AV} {m : List (Option Bk)} {id i : Nat} {els : List (List AV)}
theorem look_lt {B : Bk} (hB : look m id = some B) : id < m.length := by
  rcases Nat.lt_or_ge id m.length with h | h
  · exact h
  · unfold look at hB; rw [List.getElem?_eq_none h] at hB; simp at hB
theorem delete_fi {f : FuncId} (hF : cFunc P f = some (DelF sz by_ zs)) (hz : zs.length = sz) (hB : look m id = some ⟨sz, els⟩) (hi : i < els.length) (hb : els.length ≤ 4611686018427387904) :
    Fi P f [.own id sz 0 els.length, VI i, VI (i + 1 : Nat)] (look m) m.length (.own (m.length + 1) sz 0 (els.length - 1)) (look (delM m id ⟨sz, els.eraseIdx i⟩)) (delM m id ⟨sz, els.eraseIdx i⟩).length := by
  have hid := look_lt hB
  have e1 : ((i : Int)).toNat = i := by omega
  have e2 : (((i + 1 : Nat) : Int)).toNat = i + 1 := by omega
  have e3 : ((els.length : Int)).toNat = els.length := by omega
  have p1 : (0 : Int) ≤ (i : Int) := by omega
  have p2 : (0 : Int) ≤ ((i + 1 : Nat) : Int) := by omega
  have p3 : (0 : Int) ≤ (els.length : Int) := by omega
  refine fV hF (by show 3 ≤ 33; omega) ?_
  refine EL.sreg ?_
  refine OW.last 1 [0, 1, 2] (x' := ⟨[(0, .own id sz 0 els.length), (1, VI i), (2, VI (i + 1 : Nat))], m⟩) (by kernel_rfl) (by kernel_rfl) ?_
  refine EL.sreg ?_
  refine OW.run 4 (x' := ⟨[(11, .own id sz 0 els.length), (10, VI (i + 1 : Nat)), (9, VI i), (8, .own id sz 0 els.length), (0, .own id sz 0 els.length), (1, VI i), (2, VI (i + 1 : Nat))], m⟩) (by kernel_rfl) ?_
  refine OW.ope (v := VI els.length) (u := []) (acc := [id]) (x' := ⟨[(12, VI els.length), (11, .own id sz 0 els.length), (10, VI (i + 1 : Nat)), (9, VI i), (8, .own id sz 0 els.length), (0, .own id sz 0 els.length), (1, VI i), (2, VI (i + 1 : Nat))], m⟩) (by kernel_rfl) (opE_sem _ (acc := []) (see := [id]) rfl rfl (by simp [opD, Del1, AO.sem, argσ, slot, RM.run, hB, goInt]) (by simp [opD, Del1, AO.sem, argσ, slot, RM.acc]) (by simp [opD, Del1, AO.sem, argσ, slot, RM.see])) (by kernel_rfl) ?_
  refine OW.ope (v := .own id sz (0 + i) (i + 1 - i)) (u := []) (acc := [id, id]) (x' := ⟨[(13, .own id sz (0 + i) (i + 1 - i)), (12, VI els.length), (11, .own id sz 0 els.length), (10, VI (i + 1 : Nat)), (9, VI i), (8, .own id sz 0 els.length), (0, .own id sz 0 els.length), (1, VI i), (2, VI (i + 1 : Nat))], m⟩) (by kernel_rfl)
    (opE_slco3 (.s 8) (some (.s 9)) (some (.s 10)) (.s 12) sz id 0 els.length i (i + 1) els.length (some i) (some (i + 1)) ⟨sz, els⟩ rfl rfl rfl (optNat_nat (by rfl)) (optNat_nat (by rfl)) (optNat_nat (by rfl)) (by simp [bounds]; omega) hB (by simp) ⟨by omega, by omega⟩ (by omega)) (by kernel_rfl) ?_
  refine OW.last 0 [0, 1, 2] (x' := ⟨[(0, .own id sz 0 els.length), (1, VI i), (2, VI (i + 1 : Nat))], m⟩) (by kernel_rfl) (by kernel_rfl) ?_
  refine EL.seq ?_
  refine EL.sreg ?_
  refine OW.last 3 [0, 1, 2, 16] (x' := ⟨[(16, .v (.bool ((i : Int) == ((i + 1 : Nat) : Int)))), (0, .own id sz 0 els.length), (1, VI i), (2, VI (i + 1 : Nat))], m⟩) (by kernel_rfl) (by kernel_rfl) ?_
  have hne : ((i : Int) == ((i + 1 : Nat) : Int)) = false := by simp; omega
  rw [hne]
  refine EL.condF (by kernel_rfl) ?_
  refine EL.skip ?_
  refine tN ?_
  refine EL.sreg ?_
  refine OW.run 1 (x' := ⟨[(18, .own id sz 0 els.length), (16, .v (.bool false)), (0, .own id sz 0 els.length), (1, VI i), (2, VI (i + 1 : Nat))], m⟩) (by kernel_rfl) ?_
  refine OW.ope (v := VI els.length) (u := []) (acc := [id]) (x' := ⟨[(19, VI els.length), (18, .own id sz 0 els.length), (16, .v (.bool false)), (0, .own id sz 0 els.length), (1, VI i), (2, VI (i + 1 : Nat))], m⟩) (by kernel_rfl) (opE_sem _ (acc := []) (see := [id]) rfl rfl (by simp [opD, Del4, AO.sem, argσ, slot, RM.run, hB, goInt]) (by simp [opD, Del4, AO.sem, argσ, slot, RM.acc]) (by simp [opD, Del4, AO.sem, argσ, slot, RM.see])) (by kernel_rfl) ?_
  refine OW.last 1 [0, 1, 2, 7] (x' := ⟨[(7, VI els.length), (0, .own id sz 0 els.length), (1, VI i), (2, VI (i + 1 : Nat))], m⟩) (by kernel_rfl) (by kernel_rfl) ?_
  refine EL.sdraw ?_
  refine DW.run 2 (x' := ⟨[(21, VI i), (20, .own id sz 0 els.length), (7, VI els.length), (0, .own id sz 0 els.length), (1, VI i), (2, VI (i + 1 : Nat))], m⟩) (by kernel_rfl) ?_
  refine DW.ope (v := .own id sz (0 + 0) (i - 0)) (u := []) (acc := [id]) (x' := ⟨[(22, .own id sz (0 + 0) (i - 0)), (21, VI i), (20, .own id sz 0 els.length), (7, VI els.length), (0, .own id sz 0 els.length), (1, VI i), (2, VI (i + 1 : Nat))], m⟩) (by kernel_rfl)
    (opE_slco2 (.s 20) none (some (.s 21)) sz id 0 els.length 0 i none (some i) ⟨sz, els⟩ rfl rfl rfl rfl (optNat_nat (by rfl)) (by simp [bounds]; omega) hB) (by kernel_rfl) ?_
  refine DW.run 2 (x' := ⟨[(24, VI (i + 1 : Nat)), (23, .own id sz 0 els.length), (22, .own id sz (0 + 0) (i - 0)), (21, VI i), (20, .own id sz 0 els.length), (7, VI els.length), (0, .own id sz 0 els.length), (1, VI i), (2, VI (i + 1 : Nat))], m⟩) (by kernel_rfl) ?_
  refine DW.ope (v := .own id sz (0 + (i + 1)) (els.length - (i + 1))) (u := []) (acc := [id]) (x' := ⟨[(25, .own id sz (0 + (i + 1)) (els.length - (i + 1))), (24, VI (i + 1 : Nat)), (23, .own id sz 0 els.length), (22, .own id sz (0 + 0) (i - 0)), (21, VI i), (20, .own id sz 0 els.length), (7, VI els.length), (0, .own id sz 0 els.length), (1, VI i), (2, VI (i + 1 : Nat))], m⟩) (by kernel_rfl)
    (opE_slco2 (.s 23) (some (.s 24)) none sz id 0 els.length (i + 1) els.length (some (i + 1)) none ⟨sz, els⟩ rfl rfl rfl (optNat_nat (by rfl)) rfl (by simp [bounds]; omega) hB) (by kernel_rfl) ?_
  obtain ⟨ys, hys⟩ : ∃ ys, ys = (els.drop (0 + (i + 1))).take (els.length - (i + 1)) := ⟨_, rfl⟩
  have hyl : ys.length = els.length - (i + 1) := by rw [hys]; simp
  obtain ⟨els2, he2⟩ : ∃ els2, els2 = els.take (0 + 0 + (i - 0)) ++ ys ++ els.drop (0 + 0 + (i - 0) + ys.length) := ⟨_, rfl⟩
  have hl2 : els2.length = els.length := by rw [he2]; simp; omega
  obtain ⟨m2, hm2⟩ : ∃ m2, m2 = m.set id (some ⟨sz, els2⟩) ++ [none] := ⟨_, rfl⟩
  have hput : mput m [(id, some ⟨sz, els2⟩), (m.length, none)] = m2 := by
    simp only [mput]
    rw [if_pos hid, if_neg (by simp), hm2]
  have hml : m2.length = m.length + 1 := by rw [hm2]; simp
  have hlk : look m2 id = some ⟨sz, els2⟩ := by
    rw [hm2]; unfold look
    rw [List.getElem?_append_left (by simpa using hid)]
    simp [hid]
  have hc1 : (content sz (.own id sz (0 + (i + 1)) (els.length - (i + 1)))).run (look m) = some ys := by
    simp only [content, RM.run, hB, true_and]; rw [if_pos (by omega), hys]; rfl
  have hc2 : (content sz (.own id sz (0 + (i + 1)) (els.length - (i + 1)))).acc (look m) = [id] := by
    simp only [content, RM.acc, hB, true_and]; rw [if_pos (by omega)]; rfl
  have hc3 : (content sz (.own id sz (0 + (i + 1)) (els.length - (i + 1)))).see (look m) = [] := by
    simp only [content, RM.see, hB, true_and]; rw [if_pos (by omega)]; rfl
  have hups : upsOK m.length [(id, some (⟨sz, els2⟩ : Bk)), (m.length, none)] = true := by
    simp only [upsOK]; rw [if_pos hid]; simp; omega
  refine DW.ope (v := .own id sz (0 + 0) (i - 0 + ys.length)) (u := [(id, some ⟨sz, els2⟩), (m.length, none)]) (acc := [id] ++ [id]) (x' := ⟨[(26, .own id sz (0 + 0) (i - 0 + ys.length)), (25, .own id sz (0 + (i + 1)) (els.length - (i + 1))), (24, VI (i + 1 : Nat)), (23, .own id sz 0 els.length), (22, .own id sz (0 + 0) (i - 0)), (21, VI i), (20, .own id sz 0 els.length), (7, VI els.length), (0, .own id sz 0 els.length), (1, VI i), (2, VI (i + 1 : Nat))], m2⟩) (by kernel_rfl)
    (by rw [he2]; exact opE_appIn (.s 22) (.s 25) sz by_ id (0 + 0) (i - 0) els ys _ [id] rfl rfl rfl rfl hc1 hc2 hc3 hB (by rintro ⟨_, h⟩; omega) (by omega)) (by
      show (bif dstOK 33 (some 26) && upsOK m.length [(id, some (⟨sz, els2⟩ : Bk)), (m.length, none)] then _ else _) = _
      rw [hups, hput]; rfl) ?_
  obtain ⟨t3, ht3⟩ : ∃ t3 : List (Nat × AV), t3 = [(0, .own id sz (0 + 0) (i - 0 + ys.length)), (2, VI (i + 1 : Nat)), (7, VI els.length)] := ⟨_, rfl⟩
  refine DW.last 1 [0, 7] (x' := ⟨[(0, .own id sz (0 + 0) (i - 0 + ys.length)), (7, VI els.length)], m2⟩) (by kernel_rfl) (by kernel_rfl) ?_
  have q1 : i - 0 + ys.length = els.length - 1 := by omega
  rw [q1]
  refine EL.sreg ?_
  refine OW.run 2 (x' := ⟨[(28, .own id sz (0 + 0) (els.length - 1)), (27, .own id sz (0 + 0) (els.length - 1)), (0, .own id sz (0 + 0) (els.length - 1)), (7, VI els.length)], m2⟩) (by kernel_rfl) ?_
  refine OW.ope (v := VI (els.length - 1 : Nat)) (u := []) (acc := [id]) (x' := ⟨[(29, VI (els.length - 1 : Nat)), (28, .own id sz (0 + 0) (els.length - 1)), (27, .own id sz (0 + 0) (els.length - 1)), (0, .own id sz (0 + 0) (els.length - 1)), (7, VI els.length)], m2⟩) (by kernel_rfl) (opE_sem _ (acc := []) (see := [id]) rfl rfl (by simp [opD, Del6, AO.sem, argσ, slot, RM.run, hlk, goInt]) (by simp [opD, Del6, AO.sem, argσ, slot, RM.acc]) (by simp [opD, Del6, AO.sem, argσ, slot, RM.see])) (by kernel_rfl) ?_
  refine OW.run 1 (x' := ⟨[(30, VI els.length), (29, VI (els.length - 1 : Nat)), (28, .own id sz (0 + 0) (els.length - 1)), (27, .own id sz (0 + 0) (els.length - 1)), (0, .own id sz (0 + 0) (els.length - 1)), (7, VI els.length)], m2⟩) (by kernel_rfl) ?_
  refine OW.ope (v := .own id sz (0 + 0 + (els.length - 1)) (els.length - (els.length - 1))) (u := []) (acc := [id, id]) (x' := ⟨[(31, .own id sz (0 + 0 + (els.length - 1)) (els.length - (els.length - 1))), (30, VI els.length), (29, VI (els.length - 1 : Nat)), (28, .own id sz (0 + 0) (els.length - 1)), (27, .own id sz (0 + 0) (els.length - 1)), (0, .own id sz (0 + 0) (els.length - 1)), (7, VI els.length)], m2⟩) (by kernel_rfl)
    (opE_slco2h (.s 27) (some (.s 29)) (some (.s 30)) sz id (0 + 0) (els.length - 1) (els.length - 1) els.length (some (els.length - 1)) els.length ⟨sz, els2⟩ rfl rfl rfl (optNat_nat (by rfl)) (optNat_nat (by rfl)) (by simp only [bounds, Option.getD_some]; rw [if_neg (by omega)]) hlk (by simp only [bounds, Option.getD_some]; rw [if_pos ⟨by omega, by show _ ≤ els2.length - (0 + 0); omega⟩])) (by kernel_rfl) ?_
  obtain ⟨els3, he3⟩ : ∃ els3, els3 = els2.take (0 + 0 + (els.length - 1)) ++ List.replicate (els.length - (els.length - 1)) zs ++ els2.drop (0 + 0 + (els.length - 1) + (els.length - (els.length - 1))) := ⟨_, rfl⟩
  have hid2 : id < m2.length := by omega
  have hput3 : mput m2 [(id, some ⟨sz, els3⟩)] = m2.set id (some ⟨sz, els3⟩) := by
    simp only [mput]; rw [if_pos hid2]
  have hups3 : upsOK m2.length [(id, some (⟨sz, els3⟩ : Bk))] = true := by simp [upsOK]; omega
  refine OW.ope (v := .v undef) (u := [(id, some ⟨sz, els3⟩)]) (acc := [id]) (x' := ⟨[(31, .own id sz (0 + 0 + (els.length - 1)) (els.length - (els.length - 1))), (30, VI els.length), (29, VI (els.length - 1 : Nat)), (28, .own id sz (0 + 0) (els.length - 1)), (27, .own id sz (0 + 0) (els.length - 1)), (0, .own id sz (0 + 0) (els.length - 1)), (7, VI els.length)], m2.set id (some ⟨sz, els3⟩)⟩) (by kernel_rfl)
    (by rw [he3]; exact opE_clr zs (.s 31) sz id (0 + 0 + (els.length - 1)) (els.length - (els.length - 1)) els2 rfl rfl hz rfl hlk (by omega)) (by
      show (bif dstOK 33 none && upsOK m2.length [(id, some (⟨sz, els3⟩ : Bk))] then _ else _) = _
      rw [hups3, hput3]; rfl) ?_
  refine OW.last 0 [0] (x' := ⟨[(0, .own id sz (0 + 0) (els.length - 1))], m2.set id (some ⟨sz, els3⟩)⟩) (by kernel_rfl) (by kernel_rfl) ?_
  refine EL.sreg ?_
  refine OW.last 2 [6] (x' := ⟨[(6, .own id sz (0 + 0) (els.length - 1))], m2.set id (some ⟨sz, els3⟩)⟩) (by kernel_rfl) (by kernel_rfl) ?_
  refine EL.ret ?_
  have hl3 : els3.length = els.length := by rw [he3]; simp; omega
  have hlk3 : look (m2.set id (some ⟨sz, els3⟩)) id = some ⟨sz, els3⟩ := by
    unfold look; simp [hid2]
  have hfin : els3.take (els.length - 1) = els.eraseIdx i := by
    have h1 : els3.take (els.length - 1) = els2.take (els.length - 1) := by
      rw [he3, List.append_assoc, List.take_append_of_le_length (by simp; omega), Nat.add_zero, Nat.zero_add, List.take_take, Nat.min_self]
    rw [h1, he2]
    have h2 : els.length - 1 = i + ys.length := by omega
    rw [h2, List.take_append_of_le_length (by simp; omega)]
    rw [List.take_of_length_le (by simp; omega)]
    rw [List.eraseIdx_eq_take_drop_succ, hys]
    congr 1
    · simp
    · rw [Nat.zero_add]
      exact List.take_of_length_le (by simp)
  refine ⟨.inr rfl, ⟨[(6, .own (m2.set id (some ⟨sz, els3⟩)).length sz 0 (els.length - 1))], (m2.set id (some ⟨sz, els3⟩)).set id none ++ [some ⟨sz, els3.take (els.length - 1)⟩]⟩, trunc_le (t0 := 6) hlk3 (by omega) rfl rfl rfl, ?_, ?_⟩
  · simp only [List.length_set, hml]; rfl
  · rw [hfin, hm2]
    simp only [delM]
    rw [List.set_set, List.set_append, if_pos (by simpa using hid), List.set_set]
    simp
theorem delete_map {f : FuncId} {α : Type} {fe : α → List AV} {xs : List α} (hF : cFunc P f = some (DelF sz by_ zs)) (hz : zs.length = sz) (hB : look m id = some ⟨sz, xs.map fe⟩) {n : Int} (h0 : 0 ≤ n) (h1 : n < xs.length) (hb : xs.length ≤ 1000000) :
    Fi P f [.own id sz 0 xs.length, VI n, VI (n + 1)] (look m) m.length (.own (m.length + 1) sz 0 (xs.eraseIdx n.toNat).length) (look (delM m id ⟨sz, (xs.eraseIdx n.toNat).map fe⟩)) (delM m id ⟨sz, (xs.eraseIdx n.toNat).map fe⟩).length := by
  have e0 : ((n.toNat : Nat) : Int) = n := by omega
  have e1 : ((n.toNat + 1 : Nat) : Int) = n + 1 := by omega
  have h := delete_fi (P := P) (f := f) (i := n.toNat) (els := xs.map fe) hF hz hB (by simp; omega) (by simp; omega)
  rw [e0, e1, List.length_map] at h
  have e2 : (xs.map fe).eraseIdx n.toNat = (xs.eraseIdx n.toNat).map fe := by
    rw [List.eraseIdx_eq_take_drop_succ, List.eraseIdx_eq_take_drop_succ, List.map_append, List.map_take, List.map_drop]
  have e3 : (xs.eraseIdx n.toNat).length = xs.length - 1 := by rw [List.length_eraseIdx, if_pos (by omega)]
  rw [e2] at h
  rw [e3]
  exact h
end
open Go.RowKit
section
variable {o : AOper} {x : L3}
end
open Go.RowKit
def isC (hs : List (Option Nat)) (i : Nat) : Bool := match hs[i]? with | some (some _) => true | _ => false
def callsOK (rs : List Rec) (hs : List (Option Nat)) (dep : List (List Nat)) : Bool :=
  (List.range rs.length).all fun j => (List.range j).all fun i => ((dep[j]?).getD []).contains i || (match rs[i]?, rs[j]? with | some x, some y => !(isC hs i && isC hs j) && ((!isC hs i || y.ups.isEmpty) && (!isC hs j || x.ups.isEmpty)) | _, _ => false)
inductive OpsF (P : Program) (n : Nat) : List AOper → (Nat → AV) → (Nat → Option Bk) → Nat → List Rec → List (Option Nat) → (Nat → AV) → (Nat → Option Bk) → Nat → Prop
  | nil {σ : Nat → AV} {g : Nat → Option Bk} {k : Nat} : OpsF P n [] σ g k [] [] σ g k
  | cons {o : AOper} {os : List AOper} {σ σ' : Nat → AV} {g g' : Nat → Option Bk} {k k1 k' : Nat} {val : AV} {ups : List (Nat × Option Bk)} {acc : List Nat} {rs : List Rec} {hs : List (Option Nat)} (h : OpRun P σ g k o val ups acc) (hk : k ≤ k1) (hu : ∀ id, id ∈ ups.map Prod.fst → id < k1)
      (hr : OpsF P n os (putσ n o.dst val σ) (gput g ups) k1 rs hs σ' g' k') : OpsF P n (o :: os) σ g k (⟨o.dst, val, ups, acc, k⟩ :: rs) (none :: hs) σ' g' k'
  | fi {o : AOper} {os : List AOper} {σ σ' : Nat → AV} {g g' : Nat → Option Bk} {k k1 k' : Nat} {r : AV} {f : FuncId} {as_ : List AV} {ups : List (Nat × Option Bk)} {rs : List Rec} {hs : List (Option Nat)} (hg : guardA σ o.guard = some true) (hal : o.ao.allocs = false) (h : (o.ao.sem k (argσ σ)).run g = some (.call f as_)) (hc : callable P f = true) (hf : Fi P f as_ g k r (gput g ups) k1) (hk : k ≤ k1) (hu : ∀ id, id ∈ ups.map Prod.fst → id < k1)
      (hr : OpsF P n os (putσ n o.dst r σ) (gput g ups) k1 rs hs σ' g' k') : OpsF P n (o :: os) σ g k (⟨o.dst, r, ups, [], k⟩ :: rs) (some k1 :: hs) σ' g' k'
def RunF (P : Program) (n : Nat) (σ : Nat → AV) (g : Nat → Option Bk) (rs : List Rec) (hs : List (Option Nat)) (i : Nat) (o : AOper) (r : Rec) : Prop :=
  (hs[i]? = some none ∧ OpRun P (σat n (upto i) rs σ) (gat (upto i) rs g) r.fr o r.val r.ups r.acc) ∨
  ∃ f as_ k1, hs[i]? = some (some k1) ∧ guardA (σat n (upto i) rs σ) o.guard = some true ∧ o.ao.allocs = false ∧ (o.ao.sem r.fr (argσ (σat n (upto i) rs σ))).run (gat (upto i) rs g) = some (.call f as_) ∧ callable P f = true ∧ Fi P f as_ (gat (upto i) rs g) r.fr r.val (gput (gat (upto i) rs g) r.ups) k1
theorem opsF_canon {P : Program} {n : Nat} {os : List AOper} {σ σ' : Nat → AV} {g g' : Nat → Option Bk} {k k' : Nat} {rs : List Rec} {hs : List (Option Nat)} (h : OpsF P n os σ g k rs hs σ' g' k') :
    (rs.length = os.length ∧ hs.length = os.length) ∧ k ≤ k' ∧ (∀ (i : Nat) o, os[i]? = some o → ∃ r, rs[i]? = some r ∧ r.dst = o.dst ∧ RunF P n σ g rs hs i o r ∧ k ≤ r.fr) ∧
      (∀ (i j : Nat) ri rj, i < j → rs[i]? = some ri → rs[j]? = some rj → (∀ id, id ∈ ri.keys → id < rj.fr) ∧ ∀ k1, hs[i]? = some (some k1) → k1 ≤ rj.fr) ∧ (∀ (i : Nat) r, rs[i]? = some r → (∀ id, id ∈ r.keys → id < k') ∧ ∀ k1, hs[i]? = some (some k1) → k1 ≤ k') ∧ σ' = σat n (fun _ => true) rs σ ∧ g' = gat (fun _ => true) rs g := by
  induction h with
  | nil => exact ⟨⟨rfl, rfl⟩, Nat.le_refl _, fun i o ho => by simp at ho, fun i j ri rj _ h => by simp at h, fun i r h => by simp at h, rfl, rfl⟩
  | @cons o os σ σ' g g' k k1 k' val ups acc rs hs h hk hu hr ih =>
    obtain ⟨⟨i1, i1'⟩, i2, i3, i4, i5, i6, i7⟩ := ih
    have e1 : ∀ i, σat n (upto (i + 1)) (⟨o.dst, val, ups, acc, k⟩ :: rs) σ = σat n (upto i) rs (putσ n o.dst val σ) := by
      intro i; funext t
      show lastW _ _ 1 rs _ = _
      rw [lastW_shift]
      unfold σat
      congr 1
      · funext j; simp [upto]
      · rw [if_pos (by simp [upto])]; exact (putσ_wσ n t ⟨o.dst, val, ups, acc, k⟩ σ).symm
    have e2 : ∀ i, gat (upto (i + 1)) (⟨o.dst, val, ups, acc, k⟩ :: rs) g = gat (upto i) rs (gput g ups) := by
      intro i; funext id
      show lastW _ _ 1 rs _ = _
      rw [lastW_shift]
      unfold gat
      congr 1
      · funext j; simp [upto]
      · rw [if_pos (by simp [upto]), gput_kv]; rfl
    refine ⟨⟨by simp [i1], by simp [i1']⟩, Nat.le_trans hk i2, fun i o' ho => ?_, fun i j ri rj hij hi hj => ?_, fun i r' hr' => ?_, ?_, ?_⟩
    · cases i with
      | zero =>
        simp only [List.getElem?_cons_zero, Option.some.injEq] at ho
        subst ho
        refine ⟨_, rfl, rfl, ?_, Nat.le_refl _⟩
        have s0 : σat n (upto 0) (⟨o.dst, val, ups, acc, k⟩ :: rs) σ = σ := by funext t; exact lastW_none _ 0 _ fun j r _ hl => by simp [upto] at hl
        have g0 : gat (upto 0) (⟨o.dst, val, ups, acc, k⟩ :: rs) g = g := by funext t; exact lastW_none _ 0 _ fun j r _ hl => by simp [upto] at hl
        unfold RunF
        rw [s0, g0]
        exact .inl ⟨rfl, h⟩
      | succ i =>
        obtain ⟨r', r1, r2, r3, r4⟩ := i3 i o' (by simpa using ho)
        refine ⟨r', by simpa using r1, r2, ?_, Nat.le_trans hk r4⟩
        unfold RunF
        rw [e1, e2, List.getElem?_cons_succ]; exact r3
    · cases j with
      | zero => omega
      | succ j =>
        simp only [List.getElem?_cons_succ] at hj
        cases i with
        | zero =>
          simp only [List.getElem?_cons_zero, Option.some.injEq] at hi
          subst hi
          have hjl : j < os.length := by rw [← i1]; exact (List.getElem?_eq_some_iff.1 hj).1
          obtain ⟨r', r1, _, _, r4⟩ := i3 j _ (List.getElem?_eq_getElem hjl)
          rw [hj] at r1
          simp only [Option.some.injEq] at r1
          subst r1
          exact ⟨fun id hid => Nat.lt_of_lt_of_le (hu id hid) r4, fun x hx => by first | (simp at hx; done) | (simp at hx; subst hx; exact r4)⟩
        | succ i => simp only [List.getElem?_cons_succ] at hi ⊢; exact i4 i j ri rj (by omega) hi hj
    · cases i with
      | zero =>
        simp only [List.getElem?_cons_zero, Option.some.injEq] at hr'
        subst hr'
        exact ⟨fun id hid => Nat.lt_of_lt_of_le (hu id hid) i2, fun x hx => by first | (simp at hx; done) | (simp at hx; subst hx; exact i2)⟩
      | succ i => simp only [List.getElem?_cons_succ] at hr' ⊢; exact i5 i r' hr'
    · rw [i6]
      funext t
      unfold σat
      simp only [lastW]
      rw [lastW_shift, if_true, putσ_wσ n t ⟨o.dst, val, ups, acc, k⟩ σ]
    · rw [i7]
      funext id
      unfold gat
      simp only [lastW]
      rw [lastW_shift, if_true, gput_kv]
      rfl
  | @fi o os σ σ' g g' k k1 k' r f as_ ups rs hs hg hal h hc hf hk hu hr ih =>
    obtain ⟨⟨i1, i1'⟩, i2, i3, i4, i5, i6, i7⟩ := ih
    have e1 : ∀ i, σat n (upto (i + 1)) (⟨o.dst, r, ups, [], k⟩ :: rs) σ = σat n (upto i) rs (putσ n o.dst r σ) := by
      intro i; funext t
      show lastW _ _ 1 rs _ = _
      rw [lastW_shift]
      unfold σat
      congr 1
      · funext j; simp [upto]
      · rw [if_pos (by simp [upto])]; exact (putσ_wσ n t ⟨o.dst, r, ups, [], k⟩ σ).symm
    have e2 : ∀ i, gat (upto (i + 1)) (⟨o.dst, r, ups, [], k⟩ :: rs) g = gat (upto i) rs (gput g ups) := by
      intro i; funext id
      show lastW _ _ 1 rs _ = _
      rw [lastW_shift]
      unfold gat
      congr 1
      · funext j; simp [upto]
      · rw [if_pos (by simp [upto]), gput_kv]; rfl
    refine ⟨⟨by simp [i1], by simp [i1']⟩, Nat.le_trans hk i2, fun i o' ho => ?_, fun i j ri rj hij hi hj => ?_, fun i r' hr' => ?_, ?_, ?_⟩
    · cases i with
      | zero =>
        simp only [List.getElem?_cons_zero, Option.some.injEq] at ho
        subst ho
        refine ⟨_, rfl, rfl, ?_, Nat.le_refl _⟩
        have s0 : σat n (upto 0) (⟨o.dst, r, ups, [], k⟩ :: rs) σ = σ := by funext t; exact lastW_none _ 0 _ fun j r _ hl => by simp [upto] at hl
        have g0 : gat (upto 0) (⟨o.dst, r, ups, [], k⟩ :: rs) g = g := by funext t; exact lastW_none _ 0 _ fun j r _ hl => by simp [upto] at hl
        unfold RunF
        rw [s0, g0]
        exact .inr ⟨f, as_, k1, rfl, hg, hal, h, hc, hf⟩
      | succ i =>
        obtain ⟨r', r1, r2, r3, r4⟩ := i3 i o' (by simpa using ho)
        refine ⟨r', by simpa using r1, r2, ?_, Nat.le_trans hk r4⟩
        unfold RunF
        rw [e1, e2, List.getElem?_cons_succ]; exact r3
    · cases j with
      | zero => omega
      | succ j =>
        simp only [List.getElem?_cons_succ] at hj
        cases i with
        | zero =>
          simp only [List.getElem?_cons_zero, Option.some.injEq] at hi
          subst hi
          have hjl : j < os.length := by rw [← i1]; exact (List.getElem?_eq_some_iff.1 hj).1
          obtain ⟨r', r1, _, _, r4⟩ := i3 j _ (List.getElem?_eq_getElem hjl)
          rw [hj] at r1
          simp only [Option.some.injEq] at r1
          subst r1
          exact ⟨fun id hid => Nat.lt_of_lt_of_le (hu id hid) r4, fun x hx => by first | (simp at hx; done) | (simp at hx; subst hx; exact r4)⟩
        | succ i => simp only [List.getElem?_cons_succ] at hi ⊢; exact i4 i j ri rj (by omega) hi hj
    · cases i with
      | zero =>
        simp only [List.getElem?_cons_zero, Option.some.injEq] at hr'
        subst hr'
        exact ⟨fun id hid => Nat.lt_of_lt_of_le (hu id hid) i2, fun x hx => by first | (simp at hx; done) | (simp at hx; subst hx; exact i2)⟩
      | succ i => simp only [List.getElem?_cons_succ] at hr' ⊢; exact i5 i r' hr'
    · rw [i6]
      funext t
      unfold σat
      simp only [lastW]
      rw [lastW_shift, if_true, putσ_wσ n t ⟨o.dst, r, ups, [], k⟩ σ]
    · rw [i7]
      funext id
      unfold gat
      simp only [lastW]
      rw [lastW_shift, if_true, gput_kv]
      rfl
section
variable {P : Program} {E0 : Env} {n : Nat} {ops : Array Oper} {J : Nat → Prop} {base : Nat} {w0 : World} {Q : Exit → Act → World → Prop} {os : List AOper} {dep : List (List Nat)} {σ σ' : Nat → AV} {g g' : Nat → Option Bk} {k k' : Nat} {rs : List Rec} {hs : List (Option Nat)}
structure DInvF (E0 : Env) (n : Nat) (ops : Array Oper) (J : Nat → Prop) (base : Nat) (w0 : World) (σ : Nat → AV) (g : Nat → Option Bk) (k : Nat) (rs : List Rec) (hs : List (Option Nat)) (listed : Array Bool) (a : Act) (w : World) : Prop where
  ex : ∃ E : Env, E.w = w ∧ E0.Le E ∧ (∀ t, Rep E (a.tmps.getD t undef) (σat n (fun j => listed.getD j false) rs σ t)) ∧ MemAt E J base (gat (fun j => listed.getD j false) rs g) ∧
    (∀ id, E.kn id → id < k ∨ ∃ j r, listed.getD j false = true ∧ rs[j]? = some r ∧ (id ∈ r.keys ∨ ∃ k1, hs[j]? = some (some k1) ∧ id < k1)) ∧ Mk E w0.heap.size a.defers
  size : a.tmps.size = n
  below : Below base w0 w
  gl : GlE E0
  lsize : listed.size = ops.size
  closed : ∀ (j : Nat) op, ops[j]? = some op → listed.getD j false = true → ∀ e, e ∈ dirOf op → listed.getD e false = true
theorem draw_soundF {rd : Option Nat} (hrec : OpsF P n os σ g k rs hs σ' g' k') (hlen : os.length = ops.size) (hops : ∀ (j : Nat) op, ops[j]? = some op → ∃ o, os[j]? = some o ∧ cOper P ops op = some o)
    (hd : depOK ops.toList dep = true) (hsl : slotsOK os dep = true) (hid : idsOK rs dep = true) (hcs : callsOK rs hs dep = true) (hQ : ∀ a w, RelS E0 J base w0 n σ' g' k' a w → Q .normal a w) :
    ∀ (fuel : Nat) (listed : Array Bool) (a : Act) (w : World), DInvF E0 n ops J base w0 σ g k rs hs listed a w → (∀ m : List Nat, (∀ j, j ∈ m → j < ops.size ∧ listed.getD j true = false) → m.Nodup → m.length ≤ fuel) → wpAnyIn (rnd rd) 0 P .any ops Q fuel listed a w := by
  obtain ⟨⟨c1, c1'⟩, c2, c3, c4, c5, c6, c7⟩ := opsF_canon hrec
  -- all are listed where none is ready
  have done : ∀ (listed : Array Bool) (a : Act) (w : World), DInvF E0 n ops J base w0 σ g k rs hs listed a w → Region.ready .any ops listed = [] → Q .normal a w := by
    intro listed a w hI hready
    have hall : ∀ j, j < ops.size → listed.getD j false = true := by
      intro j
      induction j using Nat.strongRecOn with
      | _ j ih =>
        intro hj
        cases hl : listed.getD j false with
        | true => rfl
        | false =>
          exfalso
          have hjs : j < listed.size := by rw [hI.lsize]; exact hj
          have : j ∈ Region.ready .any ops listed := by
            rw [mem_ready]
            refine ⟨by simp [hjs] at hl ⊢; exact hl, ops[j], Array.getElem?_eq_getElem hj, fun e he hb => ?_⟩
            have hdj := hd
            unfold depOK at hdj
            simp only [Bool.and_eq_true, List.all_eq_true, List.mem_range, decide_eq_true_eq] at hdj
            have hj2 := (hdj.2 j (by simpa using hj)).1
            have hopl : ops.toList[j]? = some ops[j] := by simp [hj]
            simp only [hopl, Option.map_some, Option.getD_some] at hj2
            have hlt := hj2 e.on (mem_dirOf.2 ⟨e, he, hb, rfl⟩)
            exact ih e.on hlt (by omega)
          rw [hready] at this
          simp at this
    obtain ⟨E, rfl, hle, h1, h2, h3, hmk⟩ := hI.ex
    have e6 : σat n (fun j => listed.getD j false) rs σ = σ' := by
      rw [c6]; funext t
      refine lastW_congr _ 0 _ fun j r hr hl => absurd ?_ hl
      rw [Nat.zero_add, hall j (by rw [← hlen, ← c1]; exact (List.getElem?_eq_some_iff.1 hr).1)]
    have e7 : gat (fun j => listed.getD j false) rs g = g' := by
      rw [c7]; funext t
      refine lastW_congr _ 0 _ fun j r hr hl => absurd ?_ hl
      rw [Nat.zero_add, hall j (by rw [← hlen, ← c1]; exact (List.getElem?_eq_some_iff.1 hr).1)]
    rw [e6] at h1; rw [e7] at h2
    refine hQ a E.w ⟨⟨E, rfl, hle, h1, h2, fun id hh => ?_, hmk⟩, hI.size, hI.below, hI.gl⟩
    rcases h3 id hh with h | ⟨j, r, _, hr, hk | ⟨k1, hk1, hk⟩⟩
    · exact Nat.lt_of_lt_of_le h c2
    · exact (c5 j r hr).1 id hk
    · exact Nat.lt_of_lt_of_le hk ((c5 j r hr).2 k1 hk1)
  intro fuel
  induction fuel with
  | zero =>
    intro listed a w hI hcount
    have hr : Region.ready .any ops listed = [] := by
      cases hr : Region.ready .any ops listed with
      | nil => rfl
      | cons x xs =>
        have hx : x ∈ Region.ready .any ops listed := by rw [hr]; simp
        obtain ⟨m1, o, m2, _⟩ := mem_ready.1 hx
        have := hcount [x] (fun j hj => by simp at hj; subst hj; exact ⟨(Array.getElem?_eq_some_iff.1 m2).1, m1⟩) (by simp)
        simp at this
    exact ⟨hr, done listed a w hI hr⟩
  | succ fuel ih =>
    intro listed a w hI hcount
    refine ⟨done listed a w hI, fun i hi => ?_⟩
    obtain ⟨m1, op, m2, m3⟩ := mem_ready.1 hi
    have hil : i < ops.size := (Array.getElem?_eq_some_iff.1 m2).1
    have hunl : listed.getD i false = false := by
      have : i < listed.size := by rw [hI.lsize]; exact hil
      simp [this] at m1 ⊢; exact m1
    have hdir : ∀ e, e ∈ dirOf op → listed.getD e false = true := fun e he => by
      obtain ⟨x, hx, hb, rfl⟩ := mem_dirOf.1 he
      exact m3 x hx hb
    obtain ⟨o, ho, hco⟩ := hops i op m2
    obtain ⟨r, hri, hrd, hrun, hfr⟩ := c3 i o ho
    obtain ⟨E, rfl, hle, h1, h2, h3, hmk⟩ := hI.ex
    -- whoever is listed out of turn is free of this one
    have free : ∀ j rj oj, j ≠ i → rs[j]? = some rj → os[j]? = some oj → listed.getD j false ≠ upto i j → (slotFree (if i < j then o else oj) (if i < j then oj else o) = true ∧ idFree (if i < j then r else rj) (if i < j then rj else r) = true) := by
      intro j rj oj hne hrj hoj hl
      have hjl : j < os.length := (List.getElem?_eq_some_iff.1 hoj).1
      unfold slotsOK at hsl
      unfold idsOK at hid
      simp only [List.all_eq_true, List.mem_range, Bool.or_eq_true, List.contains_iff_mem] at hsl hid
      by_cases hij : i < j
      · rw [if_pos hij, if_pos hij, if_pos hij, if_pos hij]
        have hlj : listed.getD j false = true := by
          have hu : upto i j = false := by simp [upto]; omega
          rw [hu] at hl
          simpa using hl
        have hnd : i ∉ (dep[j]?).getD [] := by
          intro hmem
          have hjo : j < ops.size := by omega
          have := dep_closed hd hI.closed j ops[j] (Array.getElem?_eq_getElem hjo) (hI.closed j _ (Array.getElem?_eq_getElem hjo) hlj) i hmem
          rw [hunl] at this; simp at this
        have s1 := (hsl j hjl i hij).resolve_left hnd
        have s2 := (hid j (by rw [c1]; exact hjl) i hij).resolve_left hnd
        rw [ho, hoj] at s1; rw [hri, hrj] at s2
        exact ⟨s1, s2⟩
      · rw [if_neg hij, if_neg hij, if_neg hij, if_neg hij]
        have hji : j < i := by omega
        have hlj : listed.getD j false = false := by
          have hu : upto i j = true := by simp [upto]; omega
          rw [hu] at hl
          simpa using hl
        have hnd : j ∉ (dep[i]?).getD [] := by
          intro hmem
          have := dep_closed hd hI.closed i op m2 hdir j hmem
          rw [hlj] at this; simp at this
        have s1 := (hsl i (by omega) j hji).resolve_left hnd
        have s2 := (hid i (by omega) j hji).resolve_left hnd
        rw [ho, hoj] at s1; rw [hri, hrj] at s2
        exact ⟨s1, s2⟩
    have getO : ∀ (j : Nat) rj, rs[j]? = some rj → ∃ oj, os[j]? = some oj ∧ rj.dst = oj.dst := fun j rj hrj => by
      have hjl : j < os.length := by rw [← c1]; exact (List.getElem?_eq_some_iff.1 hrj).1
      obtain ⟨r', q1, q2, _, _⟩ := c3 j _ (List.getElem?_eq_getElem hjl)
      rw [hrj] at q1; simp only [Option.some.injEq] at q1; subst q1
      exact ⟨_, List.getElem?_eq_getElem hjl, q2⟩
    -- a slot that it looks at is as it comes one behind the other
    have hσ : ∀ t, t ∈ o.uses → σat n (fun j => listed.getD j false) rs σ t = σat n (upto i) rs σ t := by
      intro t ht
      refine lastW_congr _ 0 _ fun j rj hrj hl => ?_
      rw [Nat.zero_add] at hl
      by_cases hne : j = i
      · subst hne; rw [hunl] at hl; simp [upto] at hl
      · obtain ⟨oj, hoj, hdj⟩ := getO j rj hrj
        have hf := (free j rj oj hne hrj hoj hl).1
        unfold wσ
        rw [if_neg]
        rintro ⟨hdt, _⟩
        rw [hdj] at hdt
        unfold slotFree at hf
        by_cases hij : i < j
        · simp only [if_pos hij, hdt, Bool.and_eq_true, Bool.not_eq_true', List.contains_eq_mem, decide_eq_false_iff_not] at hf
          exact hf.2 ht
        · simp only [if_neg hij, hdt, Bool.and_eq_true, Bool.not_eq_true', List.contains_eq_mem, decide_eq_false_iff_not] at hf
          exact hf.1.1 ht
    have hg : ∀ id, id ∈ r.acc → gat (fun j => listed.getD j false) rs g id = gat (upto i) rs g id := by
      intro id hida
      refine lastW_congr _ 0 _ fun j rj hrj hl => ?_
      rw [Nat.zero_add] at hl
      by_cases hne : j = i
      · subst hne; rw [hunl] at hl; simp [upto] at hl
      · obtain ⟨oj, hoj, hdj⟩ := getO j rj hrj
        have hf := (free j rj oj hne hrj hoj hl).2
        cases hw : wg id rj with
        | none => rfl
        | some y =>
          exfalso
          have hk : id ∈ rj.keys := kv_mem (by unfold wg at hw; rw [hw]; simp)
          unfold idFree at hf
          by_cases hij : i < j
          · simp only [if_pos hij, Bool.and_eq_true, List.all_eq_true, Bool.not_eq_true', List.contains_eq_mem, decide_eq_false_iff_not] at hf
            exact hf.2 id hk hida
          · simp only [if_neg hij, Bool.and_eq_true, List.all_eq_true, Bool.not_eq_true', List.contains_eq_mem, decide_eq_false_iff_not] at hf
            exact (hf.1 id hk).1 hida
    have isCi : ∀ {j x}, hs[j]? = some (some x) → isC hs j = true := fun h => by unfold isC; rw [h]
    have free2 : ∀ j rj, j ≠ i → rs[j]? = some rj → listed.getD j false ≠ upto i j → (isC hs i && isC hs j) = false ∧ (isC hs i = true → rj.ups = []) ∧ (isC hs j = true → r.ups = []) := by
      intro j rj hne hrj hl
      have hjl : j < rs.length := (List.getElem?_eq_some_iff.1 hrj).1
      unfold callsOK at hcs
      simp only [List.all_eq_true, List.mem_range, Bool.or_eq_true, List.contains_iff_mem] at hcs
      by_cases hij : i < j
      · have hlj : listed.getD j false = true := by
          have hu : upto i j = false := by simp [upto]; omega
          rw [hu] at hl
          simpa using hl
        have hnd : i ∉ (dep[j]?).getD [] := by
          intro hmem
          have hjo : j < ops.size := by omega
          have := dep_closed hd hI.closed j ops[j] (Array.getElem?_eq_getElem hjo) (hI.closed j _ (Array.getElem?_eq_getElem hjo) hlj) i hmem
          rw [hunl] at this; simp at this
        have s2 := (hcs j hjl i hij).resolve_left hnd
        rw [hri, hrj] at s2
        simp only [Bool.and_eq_true, Bool.or_eq_true, Bool.not_eq_true', List.isEmpty_iff] at s2
        exact ⟨s2.1, fun h => s2.2.1.resolve_left (by rw [h]; simp), fun h => s2.2.2.resolve_left (by rw [h]; simp)⟩
      · have hji : j < i := by omega
        have hlj : listed.getD j false = false := by
          have hu : upto i j = true := by simp [upto]; omega
          rw [hu] at hl
          simpa using hl
        have hnd : j ∉ (dep[i]?).getD [] := by
          intro hmem
          have := dep_closed hd hI.closed i op m2 hdir j hmem
          rw [hlj] at this; simp at this
        have s2 := (hcs i (by omega) j hji).resolve_left hnd
        rw [hri, hrj] at s2
        simp only [Bool.and_eq_true, Bool.or_eq_true, Bool.not_eq_true', List.isEmpty_iff] at s2
        exact ⟨by rw [Bool.and_comm]; exact s2.1, fun h => s2.2.2.resolve_left (by rw [h]; simp), fun h => s2.2.1.resolve_left (by rw [h]; simp)⟩
    have fin : ∀ v E', E.Le E' → Rep E' v r.val → MemAt E' J base (gput (gat (fun j => listed.getD j false) rs g) r.ups) → Below base E.w E'.w → (∀ id, E'.kn id → (E.kn id ∨ id ∈ r.keys) ∨ ∃ k1, hs[i]? = some (some k1) ∧ id < k1) → wpAnyIn (rnd rd) 0 P .any ops Q fuel (listed.setIfInBounds i true) (a.put o.dst v) E'.w := by
      intro v E' hE hv hM hB hkn
      -- it is listed now
      have hlist : ∀ j, (listed.setIfInBounds i true).getD j false = if j = 0 + i then true else listed.getD j false := by
        intro j
        rw [Nat.zero_add]
        have hils : i < listed.size := by rw [hI.lsize]; exact hil
        by_cases hji : j = i
        · subst hji; simp [hils]
        · rw [if_neg hji, getD_set_ne false (Ne.symm hji)]
      have nσ : ∀ t, σat n (fun j => (listed.setIfInBounds i true).getD j false) rs σ t = putσ n o.dst r.val (σat n (fun j => listed.getD j false) rs σ) t := by
        intro t
        rw [← hrd, putσ_wσ]
        refine lastW_ins rs 0 i _ r hri (by rw [Nat.zero_add]; exact hunl) hlist fun j rj hij hrj hlj => ?_
        rw [Nat.zero_add] at hlj
        obtain ⟨oj, hoj, hdj⟩ := getO j rj hrj
        have hf := (free j rj oj (by omega) hrj hoj (by rw [hlj]; simp [upto]; omega)).1
        unfold slotFree at hf
        simp only [if_pos hij] at hf
        by_cases hd1 : r.dst = some t
        · left
          unfold wσ
          rw [if_neg]
          rintro ⟨hdt, _⟩
          rw [hrd] at hd1
          rw [hdj] at hdt
          simp only [hd1, hdt, Bool.and_eq_true, bne_iff_ne, ne_eq] at hf
          exact hf.1.2 trivial
        · right
          unfold wσ
          rw [if_neg]
          rintro ⟨hdt, _⟩
          exact hd1 hdt
      have ng : ∀ id, gat (fun j => (listed.setIfInBounds i true).getD j false) rs g id = gput (gat (fun j => listed.getD j false) rs g) r.ups id := by
        intro id
        rw [gput_kv]
        refine lastW_ins rs 0 i _ r hri (by rw [Nat.zero_add]; exact hunl) hlist fun j rj hij hrj hlj => ?_
        rw [Nat.zero_add] at hlj
        obtain ⟨oj, hoj, hdj⟩ := getO j rj hrj
        have hf := (free j rj oj (by omega) hrj hoj (by rw [hlj]; simp [upto]; omega)).2
        unfold idFree at hf
        simp only [if_pos hij, Bool.and_eq_true, List.all_eq_true, Bool.not_eq_true', List.contains_eq_mem, decide_eq_false_iff_not] at hf
        cases hw : wg id r with
        | none => exact .inr rfl
        | some y =>
          left
          cases hw2 : wg id rj with
          | none => rfl
          | some y2 =>
            exfalso
            have k1 : id ∈ r.keys := kv_mem (by unfold wg at hw; rw [hw]; simp)
            have k2 : id ∈ rj.keys := kv_mem (by unfold wg at hw2; rw [hw2]; simp)
            exact (hf.1 id k1).2 k2
      refine ih _ _ _ ⟨⟨E', rfl, hle.trans hE, fun t => ?_, ?_, fun id hh => ?_, ?_⟩, ?_, hI.below.trans hB, hI.gl, by simpa using hI.lsize, fun j oj hoj hlj e he => ?_⟩ fun m hm hnd => ?_
      · rw [nσ t]
        have := put_rep hE h1 hv o.dst t
        rw [hI.size] at this
        exact this
      · rw [show gat (fun j => (listed.setIfInBounds i true).getD j false) rs g = gput (gat (fun j => listed.getD j false) rs g) r.ups from funext ng]
        exact hM
      · rcases hkn id hh with (h | h) | h
        · rcases h3 id h with h | ⟨j, rj, q1, q2, q3⟩
          · exact .inl h
          · exact .inr ⟨j, rj, getD_set_true q1, q2, q3⟩
        · refine .inr ⟨i, r, ?_, hri, .inl h⟩
          rw [hlist i, Nat.zero_add, if_pos rfl]
        · refine .inr ⟨i, r, ?_, hri, .inr h⟩
          rw [hlist i, Nat.zero_add, if_pos rfl]
      · rw [(put_size a o.dst v).2]; exact hmk.step hE
      · rw [(put_size a o.dst v).1]; exact hI.size
      · rw [hlist j, Nat.zero_add] at hlj
        by_cases hji : j = i
        · subst hji
          rw [m2] at hoj; simp only [Option.some.injEq] at hoj; subst hoj
          exact getD_set_true (hdir e he)
        · rw [if_neg hji] at hlj
          exact getD_set_true (hI.closed j oj hoj hlj e he)
      · have hni : i ∉ m := fun hmem => by
          have := (hm i hmem).2
          have hils : i < listed.size := by rw [hI.lsize]; exact hil
          simp [hils] at this
        have := hcount (i :: m) (fun j hj => by
          rcases List.mem_cons.1 hj with rfl | hj
          · exact ⟨hil, m1⟩
          · refine ⟨(hm j hj).1, ?_⟩
            have h5 := (hm j hj).2
            have hji : i ≠ j := fun e => hni (e ▸ hj)
            rwa [getD_set_ne true hji] at h5) (List.nodup_cons.2 ⟨hni, hnd⟩)
        simpa using this
    rcases hrun with ⟨hnone, hrun⟩ | ⟨f, as_, k1, hsome, hgd, hal, hsem, hcl, hfi⟩
    · -- a name that nobody has
      have hname : ∃ fr', ¬ E.kn fr' ∧ (r.fr ∈ r.ups.map Prod.fst → fr' = r.fr) := by
        by_cases hin : r.fr ∈ r.ups.map Prod.fst
        · refine ⟨r.fr, fun hk => ?_, fun _ => rfl⟩
          rcases h3 _ hk with h | ⟨j, rj, hlj, hrj, hkj⟩
          · omega
          · by_cases hne : j = i
            · subst hne; rw [hunl] at hlj; simp at hlj
            · rcases hkj with hkj | ⟨k1, hk1, hkj⟩
              rotate_left
              · by_cases hij : i < j
                · have := (free2 j rj hne hrj (by rw [hlj]; simp [upto]; omega)).2.2 (isCi hk1)
                  rw [this] at hin; simp at hin
                · have := (c4 j i rj r (by omega) hrj hri).2 k1 hk1
                  omega
              by_cases hij : i < j
              · obtain ⟨oj, hoj, _⟩ := getO j rj hrj
                have hf := (free j rj oj hne hrj hoj (by rw [hlj]; simp [upto]; omega)).2
                unfold idFree at hf
                simp only [if_pos hij, Bool.and_eq_true, List.all_eq_true, Bool.not_eq_true', List.contains_eq_mem, decide_eq_false_iff_not] at hf
                exact (hf.1 _ hin).2 hkj
              · have := (c4 j i rj r (by omega) hrj hri).1 _ hkj
                exact Nat.lt_irrefl _ this
        · refine ⟨k', fun hk => ?_, fun h => absurd h hin⟩
          rcases h3 _ hk with h | ⟨j, rj, hlj, hrj, hkj | ⟨k1, hk1, hkj⟩⟩
          · omega
          · exact Nat.lt_irrefl _ ((c5 j rj hrj).1 _ hkj)
          · exact Nat.lt_irrefl _ (Nat.lt_of_lt_of_le hkj ((c5 j rj hrj).2 k1 hk1))
      obtain ⟨fr', hfr1, hfr2⟩ := hname
      obtain ⟨acc', hrun'⟩ := hrun.local hσ hg hfr2
      exact step_sound (hI.gl.step hle) h1 h2 hfr1 m2 hco hrun' fun v E' hE hv hM hB hkn => fin v E' hE hv hM hB fun id h => .inl (hkn id h)
    · have hci := isCi hsome
      have gall : gat (fun j => listed.getD j false) rs g = gat (upto i) rs g := by
        funext id
        refine lastW_congr _ 0 _ fun j rj hrj hl => ?_
        rw [Nat.zero_add] at hl
        by_cases hne : j = i
        · subst hne; rw [hunl] at hl; simp [upto] at hl
        · unfold wg; rw [(free2 j rj hne hrj hl).2.1 hci]; rfl
      have hknl : ∀ id, E.kn id → id < r.fr := by
        intro id hid
        rcases h3 id hid with h | ⟨j, rj, hlj, hrj, hkj⟩
        · omega
        · by_cases hne : j = i
          · subst hne; rw [hunl] at hlj; simp at hlj
          · by_cases hij : i < j
            · have hf2 := free2 j rj hne hrj (by rw [hlj]; simp [upto]; omega)
              rcases hkj with hkj | ⟨x, hx, hkj⟩
              · unfold Rec.keys at hkj; rw [hf2.2.1 hci] at hkj; simp at hkj
              · have := hf2.1; rw [hci, isCi hx] at this; simp at this
            · rcases hkj with hkj | ⟨x, hx, hkj⟩
              · exact (c4 j i rj r (by omega) hrj hri).1 _ hkj
              · have := (c4 j i rj r (by omega) hrj hri).2 x hx; omega
      have hgd2 : guardA (σat n (fun j => listed.getD j false) rs σ) o.guard = some true := by
        rw [← hgd]
        cases hg0 : o.guard with
        | none => rfl
        | some p =>
          obtain ⟨t, w⟩ := p
          simp only [guardA, hσ t (by simp [AOper.uses, hg0])]
      have hsem2 : (o.ao.sem r.fr (argσ (σat n (fun j => listed.getD j false) rs σ))).run (gat (fun j => listed.getD j false) rs g) = some (.call f as_) := by
        rw [gall, sem_congr r.fr fun t ht => hσ t (by simp [AOper.uses, ht])]; exact hsem
      have hdd := cOper_inv hco
      have hse : ∀ e, op.semAt (rnd rd).round e = execOp e op := fun e => Oper.semAt_plain (rnd rd) _ _ (cOp_nodefer hdd.2)
      unfold wpOpIn
      simp only [m2]
      rw [guard_sound h1 hco hgd2, if_pos rfl]
      obtain ⟨vs, e1, e2⟩ := call_sound (Args.of (hI.gl.step hle) h1) hdd.2 hsem2 hcl
      unfold Oper.wpIn
      rw [hse, e1, Oper.uponIn_enter]
      have h2' := h2
      rw [gall] at h2'
      refine ⟨rnd_out, rnd_depth, calls_rnd ((hfi E J base vs (hI.gl.step hle) h2' hknl e2).mono ?_)⟩
      rintro e w' ⟨v, E', rfl, rfl, q1, q2, q3, q4, q5⟩
      have hfin := fin v E' q1 q2 (by rw [gall]; exact q3) q4 fun id h => .inr ⟨k1, hsome, q5 id h⟩
      rw [hdd.1] at hfin
      exact hfin
theorem region_drawF {id : Nat} (hmix : P.follows .mixedOrders = true) (hrec : OpsF P n os σ g k rs hs σ' g' k') (hlen : os.length = ops.size) (hops : ∀ (j : Nat) op, ops[j]? = some op → ∃ o, os[j]? = some o ∧ cOper P ops op = some o)
    (hd : depOK ops.toList dep = true) (hsl : slotsOK os dep = true) (hid : idsOK rs dep = true) (hcs : callsOK rs hs dep = true) (hQ : ∀ a w, RelS E0 J base w0 n σ' g' k' a w → Q .normal a w) {a : Act} {w : World} (hrel : RelS E0 J base w0 n σ g k a w) {rd : Option Nat} : (Code.region id ops true).wpIn (rnd rd) 0 P Q a w := by
  refine wpIn_region_any hmix ?_
  obtain ⟨E, rfl, hle, h1, h2, h3, hmk⟩ := hrel.ex
  obtain ⟨E', hw, hE, hM, _, hk, _, _⟩ := h2.drew
  have hrep : ∀ (j : Nat), (Array.replicate ops.size false).getD j false = false := by
    intro j
    rcases Nat.lt_or_ge j ops.size with h | h
    · simp [h]
    · simp [h]
  refine draw_soundF hrec hlen hops hd hsl hid hcs hQ ops.size _ a _ ⟨⟨E', hw, hle.trans hE, fun t => ?_, ?_, fun id hh => .inl (h3 id ((hk id).1 hh)), hmk.step hE⟩, hrel.size, hrel.below.drew, hrel.gl, by simp, fun j op hop hl => ?_⟩ fun m hm hnd => ?_
  · have : σat n (fun j => (Array.replicate ops.size false).getD j false) rs σ t = σ t := lastW_none _ 0 _ fun j r _ hl => by rw [hrep] at hl; simp at hl
    rw [this]; exact (h1 t).step hE
  · have : gat (fun j => (Array.replicate ops.size false).getD j false) rs g = g := by funext id; exact lastW_none _ 0 _ fun j r _ hl => by rw [hrep] at hl; simp at hl
    rw [this]; exact hM
  · rw [hrep] at hl; simp at hl
  · exact nodup_len _ _ hnd fun j hj => (hm j hj).1
inductive DrawF (P : Program) (n : Nat) (dep : List (List Nat)) : List AOper → (Nat → AV) → (Nat → Option Bk) → Nat → List Rec → List (Option Nat) → (Nat → AV) → (Nat → Option Bk) → Nat → Prop
  | nil {σ : Nat → AV} {g : Nat → Option Bk} {k : Nat} {rs : List Rec} {hs : List (Option Nat)} (hid : idsOK rs dep = true) (hcs : callsOK rs hs dep = true) : DrawF P n dep [] σ g k rs hs σ g k
  | cons {o : AOper} {os : List AOper} {σ σ' : Nat → AV} {g g' : Nat → Option Bk} {k k1 k' : Nat} {val : AV} {ups : List (Nat × Option Bk)} {acc : List Nat} {rs : List Rec} {hs : List (Option Nat)} (h : OpRun P σ g k o val ups acc) (hk : k ≤ k1) (hu : ∀ id, id ∈ ups.map Prod.fst → id < k1)
      (hr : DrawF P n dep os (putσ n o.dst val σ) (gput g ups) k1 (rs ++ [⟨o.dst, val, ups, acc, k⟩]) (hs ++ [none]) σ' g' k') : DrawF P n dep (o :: os) σ g k rs hs σ' g' k'
  | fi {o : AOper} {os : List AOper} {σ σ' : Nat → AV} {g g' : Nat → Option Bk} {k k1 k' : Nat} {r : AV} {f : FuncId} {as_ : List AV} {ups : List (Nat × Option Bk)} {rs : List Rec} {hs : List (Option Nat)} (hg : guardA σ o.guard = some true) (hal : o.ao.allocs = false) (h : (o.ao.sem k (argσ σ)).run g = some (.call f as_)) (hc : callable P f = true) (hf : Fi P f as_ g k r (gput g ups) k1) (hk : k ≤ k1) (hu : ∀ id, id ∈ ups.map Prod.fst → id < k1)
      (hr : DrawF P n dep os (putσ n o.dst r σ) (gput g ups) k1 (rs ++ [⟨o.dst, r, ups, [], k⟩]) (hs ++ [some k1]) σ' g' k') : DrawF P n dep (o :: os) σ g k rs hs σ' g' k'
theorem OpsF.snoc {o : AOper} {k1 : Nat} {val : AV} {ups : List (Nat × Option Bk)} {acc : List Nat} (h0 : OpsF P n os σ g k rs hs σ' g' k') (h : OpRun P σ' g' k' o val ups acc) (hk : k' ≤ k1) (hu : ∀ id, id ∈ ups.map Prod.fst → id < k1) : OpsF P n (os ++ [o]) σ g k (rs ++ [⟨o.dst, val, ups, acc, k'⟩]) (hs ++ [none]) (putσ n o.dst val σ') (gput g' ups) k1 := by
  induction h0 with
  | nil => exact .cons h hk hu .nil
  | cons h1 h2 h3 h4 ih => exact .cons h1 h2 h3 (ih h hk)
  | fi h1 h2 h3 h4 h5 h6 h7 h8 ih => exact .fi h1 h2 h3 h4 h5 h6 h7 (ih h hk)
theorem OpsF.snocF {o : AOper} {k1 : Nat} {r : AV} {f : FuncId} {as_ : List AV} {ups : List (Nat × Option Bk)} (h0 : OpsF P n os σ g k rs hs σ' g' k') (hg : guardA σ' o.guard = some true) (hal : o.ao.allocs = false) (h : (o.ao.sem k' (argσ σ')).run g' = some (.call f as_)) (hc : callable P f = true) (hf : Fi P f as_ g' k' r (gput g' ups) k1) (hk : k' ≤ k1) (hu : ∀ id, id ∈ ups.map Prod.fst → id < k1) :
    OpsF P n (os ++ [o]) σ g k (rs ++ [⟨o.dst, r, ups, [], k'⟩]) (hs ++ [some k1]) (putσ n o.dst r σ') (gput g' ups) k1 := by
  induction h0 with
  | nil => exact .fi hg hal h hc hf hk hu .nil
  | cons h1 h2 h3 h4 ih => exact .cons h1 h2 h3 (ih hg h hf hk)
  | fi h1 h2 h3 h4 h5 h6 h7 h8 ih => exact .fi h1 h2 h3 h4 h5 h6 h7 (ih hg h hf hk)
theorem DrawF.all {pre : List AOper} {σ0 : Nat → AV} {g0 : Nat → Option Bk} {kk : Nat} (h0 : OpsF P n pre σ0 g0 kk rs hs σ g k) (h : DrawF P n dep os σ g k rs hs σ' g' k') : ∃ rs' hs', OpsF P n (pre ++ os) σ0 g0 kk rs' hs' σ' g' k' ∧ idsOK rs' dep = true ∧ callsOK rs' hs' dep = true := by
  induction h generalizing pre with
  | nil h1 h2 => exact ⟨_, _, by rw [List.append_nil]; exact h0, h1, h2⟩
  | @cons o os σ σ' g g' k k1 k' val ups acc rs hs h hk hu hr ih =>
    have := ih (pre := pre ++ [o]) (h0.snoc h hk hu)
    rwa [List.append_assoc] at this
  | @fi o os σ σ' g g' k k1 k' r f as_ ups rs hs hg hal h hc hf hk hu hr ih =>
    have := ih (pre := pre ++ [o]) (h0.snocF hg hal h hc hf hk hu)
    rwa [List.append_assoc] at this
theorem EW.drawF {k0 : Nat} {s : S3} {Q : Ex → S3 → Prop} {s' : S3} (h : DrawF P n dep os s.σ s.g s.k [] [] s'.σ s'.g s'.k) (hq : Q .normal s') : EW P n k0 (.reg os (some dep)) s Q := by
  intro rd c E0 J base w0 a w hrd hc hk hr
  obtain ⟨id, ops, draw, rfl, h1, h2⟩ := cCode_reg hc
  rcases h2 with ⟨rfl, hh⟩ | ⟨rfl, d, hd, h3, h4, h5⟩
  · simp at hh
  · simp only [Option.some.injEq] at hd
    subst hd
    obtain ⟨k1, k2⟩ := cOpers_get h1
    obtain ⟨rs', hs', a1, a2, a3⟩ := DrawF.all .nil h
    rw [List.nil_append] at a1
    exact region_drawF h5 a1 (by rw [← k1]; simp) (fun j op hj => k2 j op (by simpa using hj)) h3 h4 a2 a3 (fun a' w' hr' => ⟨.normal, s', hq, rfl, hr'⟩) hr
end
section
variable {P : Program} {n k k0 : Nat} {x : L3} {K : L3 → Prop} {Q : Ex → L3 → Prop} {R : List AOper} {dep : List (List Nat)} {rs : List Rec} {hs : List (Option Nat)}
end
abbrev cl (f : Nat) (as_ : List Arg) : AO := .call (.c (.fn f [])) as_
abbrev cd (k : Nat) (y z : AC) : AC := .cond (.s k) y z
abbrev bi (o : BinOp) (a b : Arg) : AO := .bin false o a b
abbrev lq (n k : Nat) : AO := .load (some n) (.s k)
abbrev RL := List AOper
abbrev zi (n : Int) : AV := .v (.int .i64 n)
abbrev zs : AV := .v (.string ⟨#[]⟩)
abbrev ci (n : Int) : Arg := .c (zi n)
abbrev cT : Arg := .c (.v (.bool true))
abbrev cF : Arg := .c (.v (.bool false))
abbrev ld (k : Nat) : AO := .load none (.s k)
abbrev ms (k : Nat) : AO := .mov (.s k)
abbrev fd (a k : Nat) : AO := .fad a (.s k)
abbrev sr (R : List AOper) (b : AC) : AC := .seq (.reg R none) b
abbrev rg (R : List AOper) : AC := .reg R none
def F11r0 : RL := [oo 4 (.box 2 (.s 0)),
 oo 8 (.mov cF)]
def F11r1 : RL := [oo 16 (lq 2 4),
 oo 17 (cl 12 [.s 16]),
 oo 15 (ms 17),
 oo 18 (.ext 0 (.s 15)),
 oo 19 (.ext 1 (.s 15)),
 oo 9 (.new [.emp, zi 0, .emp, .emp, .emp, .emp, zi 0]),
 ow (.store 7 (.s 9) (.s 18)),
 oo 10 (ms 19)]
def F11r2 : RL := [oo 20 (cl 16 []),
 oo 21 (.un .not (.s 20))]
def F11r3 : RL := [oo 8 (.mov cF)]
def F11r4 : RL := [oo 23 (fd 0 4),
 oo 24 (ld 23),
 oo 25 (fd 1 4),
 oo 26 (ld 25),
 oo 27 (cl 32 [.s 24, .s 26]),
 oo 22 (ms 27),
 oo 28 (.ext 0 (.s 22)),
 oo 29 (.ext 1 (.s 22)),
 oo 11 (ms 28),
 oo 12 (ms 29)]
def F11r5 : RL := [oo 30 (ms 10),
 oo 31 (bi .neq (.s 30) (ci 0)),
 oo 32 (ms 31),
 on 33 (ms 12) 32,
 on 34 (bi .neq (.s 33) (ci 0)) 32,
 oo 35 (.pick (.s 32) cT (.s 34))]
def F11r6 : RL := [oo 36 (ms 10),
 oo 37 (ms 12),
 oo 38 (bi .eql (.s 36) (.s 37)),
 oo 8 (ms 38)]
def F11r7 : RL := [oo 39 (ms 3),
 oo 40 (fd 0 4),
 oo 41 (ld 40),
 oo 42 (.len false (.s 41)),
 oo 43 (bi .shl (.c (.v (.int .u64 1))) (.s 42)),
 oo 44 (bi .sub (.s 43) (.c (.v (.int .u64 1)))),
 oo 45 (bi .and (.s 39) (.s 44)),
 oo 3 (ms 45)]
def F11r8 : RL := [oo 46 (ms 1),
 oo 47 (bi .eql (.s 46) (ci 1))]
def F11r9 : RL := [oo 2 (.mov (.c (zs)))]
def F11r10 : RL := [oo 49 (lq 7 9),
 oo 50 (ms 1),
 oo 51 (ms 2),
 oo 52 (.agg [zi 0, zi 0, zs] [(0, (1, .s 50)), (2, (1, .s 51))]),
 oo 53 (cl 13 [.s 49, .s 52]),
 oo 48 (ms 53),
 oo 54 (.ext 0 (.s 48)),
 oo 55 (.ext 1 (.s 48)),
 ow (.store 7 (.s 9) (.s 54)),
 oo 10 (ms 55)]
def F11r11 : RL := [oo 56 (ms 10),
 oo 57 (bi .neq (.s 56) (ci 0)),
 oo 58 (ms 57),
 on 59 (ms 1) 58,
 on 60 (bi .gtr (.s 59) (ci 2)) 58,
 oo 61 (.pick (.s 58) cT (.s 60)),
 oo 62 (ms 61),
 on 63 (ms 3) 62,
 on 64 (cl 33 [.s 63]) 62,
 on 65 (ms 11) 62,
 on 66 (bi .gtr (.s 64) (.s 65)) 62,
 oo 67 (.pick (.s 62) cT (.s 66))]
def F11r12 : RL := [oo 8 (.mov cT)]
def F11r13 : RL := [oo 13 (.mov (ci 0))]
def F11r14 : RL := [oo 68 (ms 13),
 oo 69 (bi .lss (.s 68) (ci 200)),
 oo 70 (ms 69),
 ot 71 (fd 5 9) 70,
 ot 72 (ld 71) 70,
 ot 73 (.len false (.s 72)) 70,
 ot 74 (bi .gtr (.s 73) (ci 0)) 70,
 oo 75 (.pick (.s 70) (.s 74) cF)]
def F11r15 : RL := [oo 14 (.mov (ci 3))]
def F11r16 : RL := [oo 78 (ms 3),
 oo 79 (fd 5 9),
 oo 80 (ld 79),
 oo 81 (.iad 6 (.s 80) (ci 0)),
 oo 82 (fd 2 81),
 oo 83 (ld 82),
 oo 84 (cl 34 [.s 78, .s 83])]
def F11r17 : RL := [oo 14 (.mov (ci 4))]
def F11r18 : RL := [oo 86 (lq 7 9),
 oo 87 (ms 14),
 oo 88 (.agg [zi 0, zi 0, zs] [(0, (1, .s 87))]),
 oo 89 (cl 13 [.s 86, .s 88]),
 oo 85 (ms 89),
 oo 90 (.ext 0 (.s 85)),
 oo 91 (.ext 1 (.s 85)),
 ow (.store 7 (.s 9) (.s 90)),
 oo 10 (ms 91)]
def F11r19 : RL := [oo 92 (ms 10),
 oo 93 (bi .neq (.s 92) (ci 0))]
def F11r20 : RL := [oo 8 (.mov cF)]
def F11r21 : RL := [oo 76 (ms 13),
 oo 77 (bi .add (.s 76) (ci 1)),
 oo 13 (ms 77)]
def F11r22 : RL := [oo 94 (fd 5 9),
 oo 95 (ld 94),
 oo 96 (.len false (.s 95)),
 oo 97 (bi .eql (.s 96) (ci 0)),
 oo 98 (ms 97),
 ot 99 (fd 3 9) 98,
 ot 100 (ld 99) 98,
 ot 101 (.iad 8 (.s 100) (ci 0)) 98,
 ot 102 (fd 2 101) 98,
 ot 103 (ld 102) 98,
 ot 104 (bi .eql (.s 103) (ci 3)) 98,
 oo 105 (.pick (.s 98) (.s 104) cF),
 oo 8 (ms 105)]
def F11 : AFn := ⟨106, [.tmp 8],
  sr F11r0
  (sr F11r1
  (.seq (sr F11r2
  (cd 21
    (sr F11r3
    (.ret))
    (.skip)))
  (sr F11r4
  (.seq (sr F11r5
  (cd 35
    (sr F11r6
    (.ret))
    (.skip)))
  (sr F11r7
  (.seq (sr F11r8
  (cd 47
    (rg F11r9)
    (.skip)))
  (sr F11r10
  (.seq (sr F11r11
  (cd 67
    (sr F11r12
    (.ret))
    (.skip)))
  (.seq (sr F11r13
  (.block 0 (
    .loop (
      .seq (sr F11r14
      (cd 75
        (.skip)
        (.exit 0)))
      (.seq (.block 1 (
        sr F11r15
        (.seq (sr F11r16
        (cd 84
          (rg F11r17)
          (.skip)))
        (sr F11r18
        (sr F11r19
        (cd 93
          (sr F11r20
          (.ret))
          (.skip)))))))
      (rg F11r21))))))
  (sr F11r22
  (.ret)))))))))))⟩
theorem F11_ok : cFunc Tryd.prog 11 = some F11 := by kernel_rfl
theorem F11_call : callable Tryd.prog 11 = true := by kernel_rfl
def F12r0 : RL := [oo 1 (.box 2 (.s 0)),
 oo 2 (.new [.emp, zi 0, .emp, .emp, .emp, .emp, zi 0]),
 oo 3 (.mov (ci 0))]
def F12r1 : RL := [oo 6 (fd 0 1),
 oo 7 (ld 6),
 oo 8 (fd 1 1),
 oo 9 (ld 8),
 oo 10 (cl 35 [.s 7, .s 9]),
 oo 4 (ms 10)]
def F12r2 : RL := [oo 11 (ms 4),
 oo 12 (bi .neq (.s 11) (ci 0))]
def F12r3 : RL := [oo 13 (.agg [.emp, zi 0, .emp, .emp, .emp, .emp, zi 0] []),
 oo 14 (ms 4),
 ow (.store 7 (.s 2) (.s 13)),
 oo 3 (ms 14)]
def F12r4 : RL := [oo 15 (fd 0 1),
 oo 16 (ld 15),
 oo 17 (.len false (.s 16)),
 oo 5 (ms 17)]
def F12r5 : RL := [oo 18 (fd 0 1),
 oo 19 (ld 18),
 oo 20 (cl 36 [.s 19]),
 oo 21 (fd 1 1),
 oo 22 (ld 21),
 oo 23 (.agg [.emp, zi 0] [(0, (1, .s 20)), (1, (1, .s 22))]),
 oo 24 (ms 5),
 oo 25 (.msl 3 32 [zi 0, zi 0, zs] (.s 24) (.s 24)),
 oo 26 (.agg [.emp, zi 0, .emp, .emp, .emp, .emp, zi 0] [(0, (2, .s 23)), (2, (1, .s 25))]),
 ow (.store 7 (.s 2) (.s 26)),
 oo 3 (.mov (ci 0))]
def F12 : AFn := ⟨27, [.cell 2 (some 7), .tmp 3],
  sr F12r0
  (.seq (sr F12r1
  (sr F12r2
  (cd 12
    (sr F12r3
    (.ret))
    (.skip))))
  (sr F12r4
  (.seq (.reg F12r5 (some [[], [0], [1, 0], [], [3], [2, 4, 1, 0, 3], [], [6], [5, 7, 2, 4, 1, 0, 3, 6], [8, 2, 0, 1, 3, 4, 5, 6, 7], [9, 0, 1, 2, 3, 4, 5, 6, 7, 8]]))
  (.ret))))⟩
theorem F12_ok : cFunc Tryd.prog 12 = some F12 := by kernel_rfl
theorem F12_call : callable Tryd.prog 12 = true := by kernel_rfl
def F13r0 : RL := [oo 2 (.box 7 (.s 0)),
 oo 3 (.box 3 (.s 1)),
 oo 4 (.new [.emp, zi 0, .emp, .emp, .emp, .emp, zi 0]),
 oo 5 (.mov (ci 0))]
def F13r1 : RL := [oo 7 (lq 7 2),
 oo 8 (cl 18 [.s 7]),
 oo 6 (ms 8)]
def F13r2 : RL := [oo 9 (ms 6),
 oo 10 (bi .neq (.s 9) (ci 0))]
def F13r3 : RL := [oo 11 (.agg [.emp, zi 0, .emp, .emp, .emp, .emp, zi 0] []),
 oo 12 (ms 6),
 ow (.store 7 (.s 4) (.s 11)),
 oo 5 (ms 12)]
def F13r4 : RL := [oo 13 (lq 7 2),
 oo 14 (lq 3 3),
 oo 15 (cl 37 [.s 13, .s 14]),
 oo 16 (.ext 0 (.s 15)),
 oo 17 (.ext 1 (.s 15)),
 ow (.store 7 (.s 4) (.s 16)),
 oo 5 (ms 17)]
def F13 : AFn := ⟨18, [.cell 4 (some 7), .tmp 5],
  sr F13r0
  (.seq (sr F13r1
  (sr F13r2
  (cd 10
    (sr F13r3
    (.ret))
    (.skip))))
  (sr F13r4
  (.ret)))⟩
theorem F13_ok : cFunc Tryd.prog 13 = some F13 := by kernel_rfl
theorem F13_call : callable Tryd.prog 13 = true := by kernel_rfl
def F16r0 : RL := [oo 0 (.mov cF)]
def F16r1 : RL := [oo 10 (cl 42 []),
 oo 11 (cl 12 [.s 10]),
 oo 9 (ms 11),
 oo 12 (.ext 0 (.s 9)),
 oo 13 (.ext 1 (.s 9)),
 oo 1 (.new [.emp, zi 0, .emp, .emp, .emp, .emp, zi 0]),
 ow (.store 7 (.s 1) (.s 12)),
 oo 2 (ms 13)]
def F16r2 : RL := [oo 14 (.agg [zi 0, zi 0, zs] [(0, (1, ci 2)), (2, (1, .c (.v (.string ⟨#[97]⟩))))]),
 oo 15 (.bsl 3 1 [zi 0, zi 0, zs] [(0, .s 14)]),
 oo 16 (cl 43 [ci 12]),
 oo 17 (.app 3 32 (.s 15) (.s 16)),
 oo 3 (ms 17)]
def F16r3 : RL := [oo 19 (lq 7 1),
 oo 20 (ms 3),
 oo 21 (.agg [zi 0, zi 0, zs] [(0, (1, ci 1))]),
 oo 22 (.bsl 3 1 [zi 0, zi 0, zs] [(0, .s 21)]),
 oo 23 (.app 3 32 (.s 20) (.s 22)),
 oo 24 (cl 43 [ci 12]),
 oo 25 (.app 3 32 (.s 23) (.s 24)),
 oo 26 (cl 20 [.s 19, .s 25]),
 oo 18 (ms 26),
 oo 27 (.ext 0 (.s 18)),
 oo 28 (.ext 1 (.s 18)),
 oo 29 (.ext 2 (.s 18)),
 oo 4 (.new [.emp, zi 0, .emp, .emp, .emp, .emp, zi 0]),
 ow (.store 7 (.s 4) (.s 27)),
 oo 5 (ms 28),
 oo 6 (ms 29)]
def F16r4 : RL := [oo 31 (lq 7 1),
 oo 32 (.agg [zi 0, zi 0, zs] [(0, (1, ci 3))]),
 oo 33 (cl 13 [.s 31, .s 32]),
 oo 30 (ms 33),
 oo 34 (.ext 0 (.s 30)),
 oo 35 (.ext 1 (.s 30)),
 oo 7 (.new [.emp, zi 0, .emp, .emp, .emp, .emp, zi 0]),
 ow (.store 7 (.s 7) (.s 34)),
 oo 8 (ms 35)]
def F16r5 : RL := [oo 36 (ms 2),
 oo 37 (bi .eql (.s 36) (ci 0)),
 oo 38 (ms 37),
 ot 39 (ms 6) 38,
 ot 40 (bi .eql (.s 39) (ci 0)) 38,
 oo 41 (.pick (.s 38) (.s 40) cF),
 oo 42 (ms 41),
 ot 43 (ms 5) 42,
 ot 44 (bi .eql (.s 43) (ci 26)) 42,
 oo 45 (.pick (.s 42) (.s 44) cF),
 oo 46 (ms 45),
 ot 47 (fd 3 4) 46,
 ot 48 (ld 47) 46,
 ot 49 (.len false (.s 48)) 46,
 ot 50 (bi .eql (.s 49) (ci 2)) 46,
 oo 51 (.pick (.s 46) (.s 50) cF),
 oo 52 (ms 51),
 ot 53 (fd 3 4) 52,
 ot 54 (ld 53) 52,
 ot 55 (.iad 8 (.s 54) (ci 0)) 52,
 ot 56 (fd 2 55) 52,
 ot 57 (ld 56) 52,
 ot 58 (bi .eql (.s 57) (ci 3)) 52,
 oo 59 (.pick (.s 52) (.s 58) cF),
 oo 60 (ms 59),
 ot 61 (fd 3 4) 60,
 ot 62 (ld 61) 60,
 ot 63 (.iad 8 (.s 62) (ci 1)) 60,
 ot 64 (fd 4 63) 60,
 ot 65 (lq 3 64) 60,
 ot 66 (cl 29 [ci 1, ci 0, .c (.v (.string ⟨#[97]⟩))]) 60,
 ot 67 (.eqs false 3 [(0, .int), (1, .int), (2, .str)] (.s 65) (.s 66)) 60,
 oo 68 (.pick (.s 60) (.s 67) cF),
 oo 69 (ms 68),
 ot 70 (fd 4 4) 69,
 ot 71 (ld 70) 69,
 ot 72 (.iad 2 (.s 71) (ci 1)) 69,
 ot 73 (fd 1 72) 69,
 ot 74 (ld 73) 69,
 ot 75 (bi .gtr (.s 74) (ci 0)) 69,
 oo 76 (.pick (.s 69) (.s 75) cF),
 oo 77 (ms 76),
 ot 78 (fd 5 4) 77,
 ot 79 (ld 78) 77,
 ot 80 (.len false (.s 79)) 77,
 ot 81 (bi .eql (.s 80) (ci 0)) 77,
 oo 82 (.pick (.s 77) (.s 81) cF),
 oo 83 (ms 82),
 ot 84 (ms 8) 83,
 ot 85 (bi .eql (.s 84) (ci 3)) 83,
 oo 86 (.pick (.s 83) (.s 85) cF),
 oo 87 (ms 86),
 ot 88 (lq 7 1) 87,
 ot 89 (cl 18 [.s 88]) 87,
 ot 90 (bi .eql (.s 89) (ci 0)) 87,
 oo 91 (.pick (.s 87) (.s 90) cF),
 oo 0 (ms 91)]
def F16 : AFn := ⟨92, [.tmp 0],
  sr F16r0
  (sr F16r1
  (sr F16r2
  (.seq (.reg F16r3 (some [[], [], [], [2], [1, 3, 2], [4, 1, 3, 2], [4, 5, 1, 3, 2], [0, 6, 4, 5, 1, 3, 2], [7, 0, 6, 4, 5, 1, 3, 2], [8, 7, 0, 6, 4, 5, 1, 3, 2], [8, 7, 0, 6, 4, 5, 1, 3, 2], [8, 7, 0, 6, 4, 5, 1, 3, 2], [], [12, 9, 7, 0, 1, 2, 3, 4, 5, 6, 8], [10, 13, 0, 1, 2, 3, 4, 5, 6, 7, 8, 9, 12], [11, 14, 0, 1, 2, 3, 4, 5, 6, 7, 8, 9, 10, 12, 13]]))
  (sr F16r4
  (.seq (.reg F16r5 (some [[], [0], [1, 0], [2, 1, 0], [3, 2, 1, 0], [2, 4, 1, 0, 3], [5, 2, 4, 1, 0, 3], [6, 5, 2, 4, 1, 0, 3], [7, 6, 5, 2, 4, 1, 0, 3], [6, 8, 5, 2, 4, 1, 0, 3, 7], [9, 6, 8, 5, 2, 4, 1, 0, 3, 7], [10, 9, 6, 8, 5, 2, 4, 1, 0, 3, 7], [11, 10, 9, 6, 8, 5, 2, 4, 1, 0, 3, 7], [12, 10, 11, 9, 6, 8, 5, 2, 4, 1, 0, 3, 7], [13, 10, 12, 11, 9, 6, 8, 5, 2, 4, 1, 0, 3, 7], [10, 14, 9, 6, 8, 5, 2, 4, 1, 0, 3, 7, 13, 12, 11], [15, 10, 14, 9, 6, 8, 5, 2, 4, 1, 0, 3, 7, 13, 12, 11], [16, 15, 10, 14, 9, 6, 8, 5, 2, 4, 1, 0, 3, 7, 13, 12, 11], [17, 16, 15, 10, 14, 9, 6, 8, 5, 2, 4, 1, 0, 3, 7, 13, 12, 11], [18, 16, 17, 15, 10, 14, 9, 6, 8, 5, 2, 4, 1, 0, 3, 7, 13, 12, 11], [19, 16, 18, 17, 15, 10, 14, 9, 6, 8, 5, 2, 4, 1, 0, 3, 7, 13, 12, 11], [20, 16, 19, 18, 17, 15, 10, 14, 9, 6, 8, 5, 2, 4, 1, 0, 3, 7, 13, 12, 11], [21, 16, 20, 19, 18, 17, 15, 10, 14, 9, 6, 8, 5, 2, 4, 1, 0, 3, 7, 13, 12, 11], [16, 22, 15, 10, 14, 9, 6, 8, 5, 2, 4, 1, 0, 3, 7, 13, 12, 11, 21, 20, 19, 18, 17], [23, 16, 22, 15, 10, 14, 9, 6, 8, 5, 2, 4, 1, 0, 3, 7, 13, 12, 11, 21, 20, 19, 18, 17], [24, 23, 16, 22, 15, 10, 14, 9, 6, 8, 5, 2, 4, 1, 0, 3, 7, 13, 12, 11, 21, 20, 19, 18, 17], [25, 24, 23, 16, 22, 15, 10, 14, 9, 6, 8, 5, 2, 4, 1, 0, 3, 7, 13, 12, 11, 21, 20, 19, 18, 17], [26, 24, 25, 23, 16, 22, 15, 10, 14, 9, 6, 8, 5, 2, 4, 1, 0, 3, 7, 13, 12, 11, 21, 20, 19, 18, 17], [27, 24, 26, 25, 23, 16, 22, 15, 10, 14, 9, 6, 8, 5, 2, 4, 1, 0, 3, 7, 13, 12, 11, 21, 20, 19, 18, 17], [28, 24, 27, 26, 25, 23, 16, 22, 15, 10, 14, 9, 6, 8, 5, 2, 4, 1, 0, 3, 7, 13, 12, 11, 21, 20, 19, 18, 17], [24, 23, 16, 22, 15, 10, 14, 9, 6, 8, 5, 2, 4, 1, 0, 3, 7, 13, 12, 11, 21, 20, 19, 18, 17], [29, 30, 24, 28, 27, 26, 25, 23, 16, 22, 15, 10, 14, 9, 6, 8, 5, 2, 4, 1, 0, 3, 7, 13, 12, 11, 21, 20, 19, 18, 17], [24, 31, 23, 16, 22, 15, 10, 14, 9, 6, 8, 5, 2, 4, 1, 0, 3, 7, 13, 12, 11, 21, 20, 19, 18, 17, 29, 30, 28, 27, 26, 25], [32, 30, 24, 31, 23, 16, 22, 15, 10, 14, 9, 6, 8, 5, 2, 4, 1, 0, 3, 7, 13, 12, 11, 21, 20, 19, 18, 17, 29, 28, 27, 26, 25], [33, 32, 30, 24, 31, 23, 16, 22, 15, 10, 14, 9, 6, 8, 5, 2, 4, 1, 0, 3, 7, 13, 12, 11, 21, 20, 19, 18, 17, 29, 28, 27, 26, 25], [34, 33, 32, 30, 24, 31, 23, 16, 22, 15, 10, 14, 9, 6, 8, 5, 2, 4, 1, 0, 3, 7, 13, 12, 11, 21, 20, 19, 18, 17, 29, 28, 27, 26, 25], [35, 33, 34, 32, 30, 24, 31, 23, 16, 22, 15, 10, 14, 9, 6, 8, 5, 2, 4, 1, 0, 3, 7, 13, 12, 11, 21, 20, 19, 18, 17, 29, 28, 27, 26, 25], [36, 33, 35, 34, 32, 30, 24, 31, 23, 16, 22, 15, 10, 14, 9, 6, 8, 5, 2, 4, 1, 0, 3, 7, 13, 12, 11, 21, 20, 19, 18, 17, 29, 28, 27, 26, 25], [37, 33, 36, 35, 34, 32, 30, 24, 31, 23, 16, 22, 15, 10, 14, 9, 6, 8, 5, 2, 4, 1, 0, 3, 7, 13, 12, 11, 21, 20, 19, 18, 17, 29, 28, 27, 26, 25], [38, 33, 37, 36, 35, 34, 32, 30, 24, 31, 23, 16, 22, 15, 10, 14, 9, 6, 8, 5, 2, 4, 1, 0, 3, 7, 13, 12, 11, 21, 20, 19, 18, 17, 29, 28, 27, 26, 25], [33, 39, 32, 30, 24, 31, 23, 16, 22, 15, 10, 14, 9, 6, 8, 5, 2, 4, 1, 0, 3, 7, 13, 12, 11, 21, 20, 19, 18, 17, 29, 28, 27, 26, 25, 38, 37, 36, 35, 34], [40, 33, 39, 32, 30, 24, 31, 23, 16, 22, 15, 10, 14, 9, 6, 8, 5, 2, 4, 1, 0, 3, 7, 13, 12, 11, 21, 20, 19, 18, 17, 29, 28, 27, 26, 25, 38, 37, 36, 35, 34], [41, 40, 33, 39, 32, 30, 24, 31, 23, 16, 22, 15, 10, 14, 9, 6, 8, 5, 2, 4, 1, 0, 3, 7, 13, 12, 11, 21, 20, 19, 18, 17, 29, 28, 27, 26, 25, 38, 37, 36, 35, 34], [42, 41, 40, 33, 39, 32, 30, 24, 31, 23, 16, 22, 15, 10, 14, 9, 6, 8, 5, 2, 4, 1, 0, 3, 7, 13, 12, 11, 21, 20, 19, 18, 17, 29, 28, 27, 26, 25, 38, 37, 36, 35, 34], [43, 41, 42, 40, 33, 39, 32, 30, 24, 31, 23, 16, 22, 15, 10, 14, 9, 6, 8, 5, 2, 4, 1, 0, 3, 7, 13, 12, 11, 21, 20, 19, 18, 17, 29, 28, 27, 26, 25, 38, 37, 36, 35, 34], [44, 41, 43, 42, 40, 33, 39, 32, 30, 24, 31, 23, 16, 22, 15, 10, 14, 9, 6, 8, 5, 2, 4, 1, 0, 3, 7, 13, 12, 11, 21, 20, 19, 18, 17, 29, 28, 27, 26, 25, 38, 37, 36, 35, 34], [41, 45, 40, 33, 39, 32, 30, 24, 31, 23, 16, 22, 15, 10, 14, 9, 6, 8, 5, 2, 4, 1, 0, 3, 7, 13, 12, 11, 21, 20, 19, 18, 17, 29, 28, 27, 26, 25, 38, 37, 36, 35, 34, 44, 43, 42], [46, 41, 45, 40, 33, 39, 32, 30, 24, 31, 23, 16, 22, 15, 10, 14, 9, 6, 8, 5, 2, 4, 1, 0, 3, 7, 13, 12, 11, 21, 20, 19, 18, 17, 29, 28, 27, 26, 25, 38, 37, 36, 35, 34, 44, 43, 42], [47, 46, 41, 45, 40, 33, 39, 32, 30, 24, 31, 23, 16, 22, 15, 10, 14, 9, 6, 8, 5, 2, 4, 1, 0, 3, 7, 13, 12, 11, 21, 20, 19, 18, 17, 29, 28, 27, 26, 25, 38, 37, 36, 35, 34, 44, 43, 42], [48, 47, 46, 41, 45, 40, 33, 39, 32, 30, 24, 31, 23, 16, 22, 15, 10, 14, 9, 6, 8, 5, 2, 4, 1, 0, 3, 7, 13, 12, 11, 21, 20, 19, 18, 17, 29, 28, 27, 26, 25, 38, 37, 36, 35, 34, 44, 43, 42], [47, 49, 46, 41, 45, 40, 33, 39, 32, 30, 24, 31, 23, 16, 22, 15, 10, 14, 9, 6, 8, 5, 2, 4, 1, 0, 3, 7, 13, 12, 11, 21, 20, 19, 18, 17, 29, 28, 27, 26, 25, 38, 37, 36, 35, 34, 44, 43, 42, 48], [50, 47, 49, 46, 41, 45, 40, 33, 39, 32, 30, 24, 31, 23, 16, 22, 15, 10, 14, 9, 6, 8, 5, 2, 4, 1, 0, 3, 7, 13, 12, 11, 21, 20, 19, 18, 17, 29, 28, 27, 26, 25, 38, 37, 36, 35, 34, 44, 43, 42, 48], [51, 50, 47, 49, 46, 41, 45, 40, 33, 39, 32, 30, 24, 31, 23, 16, 22, 15, 10, 14, 9, 6, 8, 5, 2, 4, 1, 0, 3, 7, 13, 12, 11, 21, 20, 19, 18, 17, 29, 28, 27, 26, 25, 38, 37, 36, 35, 34, 44, 43, 42, 48], [52, 51, 50, 47, 49, 46, 41, 45, 40, 33, 39, 32, 30, 24, 31, 23, 16, 22, 15, 10, 14, 9, 6, 8, 5, 2, 4, 1, 0, 3, 7, 13, 12, 11, 21, 20, 19, 18, 17, 29, 28, 27, 26, 25, 38, 37, 36, 35, 34, 44, 43, 42, 48], [53, 51, 52, 50, 47, 49, 46, 41, 45, 40, 33, 39, 32, 30, 24, 31, 23, 16, 22, 15, 10, 14, 9, 6, 8, 5, 2, 4, 1, 0, 3, 7, 13, 12, 11, 21, 20, 19, 18, 17, 29, 28, 27, 26, 25, 38, 37, 36, 35, 34, 44, 43, 42, 48], [51, 54, 50, 47, 49, 46, 41, 45, 40, 33, 39, 32, 30, 24, 31, 23, 16, 22, 15, 10, 14, 9, 6, 8, 5, 2, 4, 1, 0, 3, 7, 13, 12, 11, 21, 20, 19, 18, 17, 29, 28, 27, 26, 25, 38, 37, 36, 35, 34, 44, 43, 42, 48, 53, 52], [55, 53, 0, 1, 2, 3, 4, 5, 6, 7, 8, 9, 10, 11, 12, 13, 14, 15, 16, 17, 18, 19, 20, 21, 22, 23, 24, 25, 26, 27, 28, 29, 30, 31, 32, 33, 34, 35, 36, 37, 38, 39, 40, 41, 42, 43, 44, 45, 46, 47, 48, 49, 50, 51, 52, 54]]))
  (.ret))))))⟩
theorem F16_ok : cFunc Tryd.prog 16 = some F16 := by kernel_rfl
theorem F16_call : callable Tryd.prog 16 = true := by kernel_rfl
def F18r0 : RL := [oo 1 (.box 7 (.s 0)),
 oo 2 (.mov (ci 0))]
def F18r1 : RL := [oo 10 (fd 0 1),
 oo 11 (fd 0 10),
 oo 12 (ld 11),
 oo 13 (fd 0 1),
 oo 14 (fd 1 13),
 oo 15 (ld 14),
 oo 16 (cl 35 [.s 12, .s 15]),
 oo 3 (ms 16)]
def F18r2 : RL := [oo 17 (ms 3),
 oo 18 (bi .neq (.s 17) (ci 0))]
def F18r3 : RL := [oo 19 (ms 3),
 oo 2 (ms 19)]
def F18r4 : RL := [oo 20 (fd 2 1),
 oo 21 (ld 20),
 oo 22 (.len false (.s 21)),
 oo 23 (fd 0 1),
 oo 24 (fd 0 23),
 oo 25 (ld 24),
 oo 26 (.len false (.s 25)),
 oo 27 (bi .neq (.s 22) (.s 26))]
def F18r5 : RL := [oo 2 (.mov (ci 1))]
def F18r6 : RL := [oo 28 (fd 2 1),
 oo 29 (ld 28),
 oo 30 (.len false (.s 29)),
 oo 31 (.mov (ci 0))]
def F18r7 : RL := [oo 32 (bi .lss (.s 31) (.s 30))]
def F18r8 : RL := [oo 33 (.iad 3 (.s 29) (.s 31)),
 oo 34 (lq 3 33),
 oo 5 (.new [zi 0, zi 0, zs]),
 ow (.store 3 (.s 5) (.s 34))]
def F18r9 : RL := [oo 35 (lq 3 5),
 oo 36 (cl 46 [.s 35]),
 oo 6 (ms 36)]
def F18r10 : RL := [oo 37 (ms 6),
 oo 38 (bi .neq (.s 37) (ci 0))]
def F18r11 : RL := [oo 39 (ms 6),
 oo 2 (ms 39)]
def F18r12 : RL := [oo 40 (bi .add (.s 31) (ci 1)),
 oo 31 (ms 40)]
def F18r13 : RL := [oo 41 (.agg [.v .nilFunc, .v .nilFunc] [(0, (1, .c (.fn 47 []))), (1, (1, .c (.fn 48 [])))]),
 oo 42 (.mov (ci 0))]
def F18r14 : RL := [oo 43 (bi .lss (.s 42) (ci 2))]
def F18r15 : RL := [oo 44 (.ixa 1 2 none (.s 41) (.s 42)),
 oo 8 (ms 44)]
def F18r16 : RL := [oo 45 (ms 8),
 oo 46 (lq 7 1),
 oo 47 (.call (.s 45) [.s 46]),
 oo 9 (ms 47)]
def F18r17 : RL := [oo 48 (ms 9),
 oo 49 (bi .neq (.s 48) (ci 0))]
def F18r18 : RL := [oo 50 (ms 9),
 oo 2 (ms 50)]
def F18r19 : RL := [oo 51 (bi .add (.s 42) (ci 1)),
 oo 42 (ms 51)]
def F18r20 : RL := [oo 52 (fd 6 1),
 oo 53 (ld 52),
 oo 54 (bi .lss (.s 53) (ci 0)),
 oo 55 (ms 54),
 on 56 (fd 6 1) 55,
 on 57 (ld 56) 55,
 on 58 (bi .gtr (.s 57) (ci 1000000)) 55,
 oo 59 (.pick (.s 55) cT (.s 58))]
def F18r21 : RL := [oo 2 (.mov (ci 3))]
def F18r22 : RL := [oo 2 (.mov (ci 0))]
def F18 : AFn := ⟨60, [.tmp 2],
  sr F18r0
  (.seq (sr F18r1
  (sr F18r2
  (cd 18
    (sr F18r3
    (.ret))
    (.skip))))
  (.seq (sr F18r4
  (cd 27
    (sr F18r5
    (.ret))
    (.skip)))
  (.seq (sr F18r6
  (.block 0 (
    .loop (
      sr F18r7
      (.seq (cd 32
        (.skip)
        (.exit 0))
      (.seq (.block 1 (
        sr F18r8
        (sr F18r9
        (sr F18r10
        (cd 38
          (sr F18r11
          (.ret))
          (.skip))))))
      (rg F18r12)))))))
  (.seq (sr F18r13
  (.block 2 (
    .loop (
      sr F18r14
      (.seq (cd 43
        (.skip)
        (.exit 2))
      (.seq (.block 3 (
        sr F18r15
        (sr F18r16
        (sr F18r17
        (cd 49
          (sr F18r18
          (.ret))
          (.skip))))))
      (rg F18r19)))))))
  (.seq (sr F18r20
  (cd 59
    (sr F18r21
    (.ret))
    (.skip)))
  (sr F18r22
  (.ret)))))))⟩
theorem F18_ok : cFunc Tryd.prog 18 = some F18 := by kernel_rfl
theorem F18_call : callable Tryd.prog 18 = true := by kernel_rfl
def F20r0 : RL := [oo 2 (.box 7 (.s 0)),
 oo 4 (.new [.emp, zi 0, .emp, .emp, .emp, .emp, zi 0]),
 oo 5 (.mov (ci 0)),
 oo 6 (.mov (ci 0))]
def F20r1 : RL := [oo 13 (lq 7 2),
 oo 14 (cl 18 [.s 13]),
 oo 7 (ms 14)]
def F20r2 : RL := [oo 15 (ms 7),
 oo 16 (bi .eql (.s 15) (ci 0)),
 oo 17 (ms 16),
 ot 18 (ms 1) 17,
 ot 19 (.len false (.s 18)) 17,
 ot 20 (bi .gtr (.s 19) (ci 200)) 17,
 oo 21 (.pick (.s 17) (.s 20) cF)]
def F20r3 : RL := [oo 7 (.mov (ci 2))]
def F20r4 : RL := [oo 22 (ms 7),
 oo 23 (bi .neq (.s 22) (ci 0))]
def F20r5 : RL := [oo 24 (.agg [.emp, zi 0, .emp, .emp, .emp, .emp, zi 0] []),
 oo 25 (ms 7),
 ow (.store 7 (.s 4) (.s 24)),
 oo 5 (.mov (ci 0)),
 oo 6 (ms 25)]
def F20r6 : RL := [oo 26 (lq 7 2),
 oo 27 (cl 52 [.s 26]),
 ow (.store 7 (.s 2) (.s 27))]
def F20r7 : RL := [oo 8 (.mov (ci 0))]
def F20r8 : RL := [oo 28 (ms 1),
 oo 29 (.len false (.s 28)),
 oo 30 (.mov (ci 0))]
def F20r9 : RL := [oo 31 (bi .lss (.s 30) (.s 29))]
def F20r10 : RL := [oo 32 (.iad 3 (.s 28) (.s 30)),
 oo 33 (lq 3 32),
 oo 10 (.new [zi 0, zi 0, zs]),
 ow (.store 3 (.s 10) (.s 33))]
def F20r11 : RL := [oo 35 (lq 7 2),
 oo 36 (lq 3 10),
 oo 37 (cl 37 [.s 35, .s 36]),
 oo 34 (ms 37),
 oo 38 (.ext 0 (.s 34)),
 oo 39 (.ext 1 (.s 34)),
 oo 11 (.new [.emp, zi 0, .emp, .emp, .emp, .emp, zi 0]),
 ow (.store 7 (.s 11) (.s 38)),
 oo 12 (ms 39)]
def F20r12 : RL := [oo 40 (ms 12),
 oo 41 (bi .eql (.s 40) (ci 0))]
def F20r13 : RL := [oo 42 (lq 7 11),
 ow (.store 7 (.s 2) (.s 42))]
def F20r14 : RL := [oo 43 (ms 8),
 oo 44 (bi .add (.s 43) (ci 1)),
 oo 8 (ms 44)]
def F20r15 : RL := [oo 45 (bi .add (.s 30) (ci 1)),
 oo 30 (ms 45)]
def F20r16 : RL := [oo 46 (lq 7 2),
 oo 47 (ms 8),
 ow (.store 7 (.s 4) (.s 46)),
 oo 5 (ms 47),
 oo 6 (.mov (ci 0))]
def F20 : AFn := ⟨48, [.cell 4 (some 7), .tmp 5, .tmp 6],
  sr F20r0
  (sr F20r1
  (.seq (sr F20r2
  (cd 21
    (rg F20r3)
    (.skip)))
  (.seq (sr F20r4
  (cd 23
    (sr F20r5
    (.ret))
    (.skip)))
  (sr F20r6
  (sr F20r7
  (.seq (sr F20r8
  (.block 0 (
    .loop (
      sr F20r9
      (.seq (cd 31
        (.skip)
        (.exit 0))
      (.seq (.block 1 (
        sr F20r10
        (sr F20r11
        (sr F20r12
        (cd 41
          (sr F20r13
          (rg F20r14))
          (.skip))))))
      (rg F20r15)))))))
  (sr F20r16
  (.ret))))))))⟩
theorem F20_ok : cFunc Tryd.prog 20 = some F20 := by kernel_rfl
theorem F20_call : callable Tryd.prog 20 = true := by kernel_rfl
def F23r0 : RL := [oo 2 (.box 2 (.s 0)),
 oo 3 (.box 2 (.s 1)),
 oo 4 (.mov cF)]
def F23r1 : RL := [oo 5 (lq 2 2),
 oo 6 (lq 2 3),
 oo 7 (cl 53 [.s 5, .s 6]),
 oo 8 (bi .lss (.s 7) (ci 0)),
 oo 4 (ms 8)]
def F23 : AFn := ⟨9, [.tmp 4],
  sr F23r0
  (sr F23r1
  (.ret))⟩
theorem F23_ok : cFunc Tryd.prog 23 = some F23 := by kernel_rfl
theorem F23_call : callable Tryd.prog 23 = true := by kernel_rfl
def F24r0 : RL := [oo 6 (.mov cF),
 oo 7 (.mov (ci 0))]
def F24r1 : RL := [oo 11 (ms 0),
 oo 12 (ms 1),
 oo 13 (cl 35 [.s 11, .s 12]),
 oo 8 (ms 13)]
def F24r2 : RL := [oo 14 (ms 8),
 oo 15 (bi .neq (.s 14) (ci 0))]
def F24r3 : RL := [oo 16 (ms 8),
 oo 6 (.mov cF),
 oo 7 (ms 16)]
def F24r4 : RL := [oo 18 (ms 0),
 oo 19 (ms 2),
 oo 20 (cl 54 [.s 18, .s 19]),
 oo 17 (ms 20),
 oo 21 (.ext 0 (.s 17)),
 oo 22 (.ext 1 (.s 17)),
 oo 9 (ms 21),
 oo 10 (ms 22)]
def F24r5 : RL := [oo 23 (ms 10),
 oo 24 (bi .eql (.s 23) (ci 0)),
 oo 25 (ms 24),
 ot 26 (ms 9) 25,
 ot 27 (ms 1) 25,
 ot 28 (bi .geq (.s 26) (.s 27)) 25,
 oo 29 (.pick (.s 25) (.s 28) cF),
 oo 30 (ms 10),
 oo 6 (ms 29),
 oo 7 (ms 30)]
def F24 : AFn := ⟨31, [.tmp 6, .tmp 7],
  sr F24r0
  (.seq (sr F24r1
  (sr F24r2
  (cd 15
    (sr F24r3
    (.ret))
    (.skip))))
  (sr F24r4
  (sr F24r5
  (.ret))))⟩
theorem F24_ok : cFunc Tryd.prog 24 = some F24 := by kernel_rfl
theorem F24_call : callable Tryd.prog 24 = true := by kernel_rfl
def F29r0 : RL := [oo 6 (.new [zi 0, zi 0, zs])]
def F29r1 : RL := [oo 7 (ms 0),
 oo 8 (ms 1),
 oo 9 (cl 30 [.s 7, .s 8]),
 oo 10 (ms 2),
 oo 11 (.agg [zi 0, zi 0, zs] [(0, (2, .s 9)), (2, (1, .s 10))]),
 ow (.store 3 (.s 6) (.s 11))]
def F29 : AFn := ⟨12, [.cell 6 (some 3)],
  sr F29r0
  (sr F29r1
  (.ret))⟩
theorem F29_ok : cFunc Tryd.prog 29 = some F29 := by kernel_rfl
theorem F29_call : callable Tryd.prog 29 = true := by kernel_rfl
def F30r0 : RL := [oo 4 (.new [zi 0, zi 0])]
def F30r1 : RL := [oo 5 (ms 0),
 oo 6 (ms 1),
 oo 7 (.agg [zi 0, zi 0] [(0, (1, .s 5)), (1, (1, .s 6))]),
 ow (.store 2 (.s 4) (.s 7))]
def F30 : AFn := ⟨8, [.cell 4 (some 2)],
  sr F30r0
  (sr F30r1
  (.ret))⟩
theorem F30_ok : cFunc Tryd.prog 30 = some F30 := by kernel_rfl
theorem F30_call : callable Tryd.prog 30 = true := by kernel_rfl
def F32r0 : RL := [oo 4 (.mov (ci 0)),
 oo 5 (.mov (ci 0))]
def F32r1 : RL := [oo 9 (ms 0),
 oo 10 (ms 1),
 oo 11 (cl 35 [.s 9, .s 10]),
 oo 6 (ms 11)]
def F32r2 : RL := [oo 12 (ms 6),
 oo 13 (bi .neq (.s 12) (ci 0))]
def F32r3 : RL := [oo 14 (ms 6),
 oo 4 (.mov (ci 0)),
 oo 5 (ms 14)]
def F32r4 : RL := [oo 16 (ms 0),
 oo 17 (cl 59 [.s 16]),
 oo 15 (ms 17),
 oo 18 (.ext 0 (.s 15)),
 oo 19 (.ext 1 (.s 15)),
 oo 7 (ms 18),
 oo 8 (ms 19)]
def F32r5 : RL := [oo 20 (ms 0),
 oo 21 (ms 7),
 oo 22 (ms 1),
 oo 23 (bi .sub (.s 21) (.s 22)),
 oo 24 (bi .add (.s 23) (ci 1)),
 oo 25 (cl 60 [.s 20, .s 24]),
 oo 26 (bi .sub (.s 25) (ci 1)),
 oo 4 (ms 26),
 oo 5 (.mov (ci 0))]
def F32 : AFn := ⟨27, [.tmp 4, .tmp 5],
  sr F32r0
  (.seq (sr F32r1
  (sr F32r2
  (cd 13
    (sr F32r3
    (.ret))
    (.skip))))
  (sr F32r4
  (sr F32r5
  (.ret))))⟩
theorem F32_ok : cFunc Tryd.prog 32 = some F32 := by kernel_rfl
theorem F32_call : callable Tryd.prog 32 = true := by kernel_rfl
def F33r0 : RL := [oo 2 (.mov (ci 0))]
def F33r1 : RL := [oo 3 (.mov (ci 0))]
def F33r2 : RL := [oo 4 (.mov (ci 0))]
def F33r3 : RL := [oo 5 (ms 4),
 oo 6 (bi .lss (.s 5) (ci 64))]
def F33r4 : RL := [oo 9 (ms 0),
 oo 10 (ms 4),
 oo 11 (cl 34 [.s 9, .s 10])]
def F33r5 : RL := [oo 12 (ms 3),
 oo 13 (bi .add (.s 12) (ci 1)),
 oo 3 (ms 13)]
def F33r6 : RL := [oo 7 (ms 4),
 oo 8 (bi .add (.s 7) (ci 1)),
 oo 4 (ms 8)]
def F33r7 : RL := [oo 14 (ms 3),
 oo 2 (ms 14)]
def F33 : AFn := ⟨15, [.tmp 2],
  sr F33r0
  (sr F33r1
  (.seq (sr F33r2
  (.block 0 (
    .loop (
      .seq (sr F33r3
      (cd 6
        (.skip)
        (.exit 0)))
      (.seq (.block 1 (
        sr F33r4
        (cd 11
          (rg F33r5)
          (.skip))))
      (rg F33r6))))))
  (sr F33r7
  (.ret))))⟩
theorem F33_ok : cFunc Tryd.prog 33 = some F33 := by kernel_rfl
theorem F33_call : callable Tryd.prog 33 = true := by kernel_rfl
def F34r0 : RL := [oo 4 (.mov cF)]
def F34r1 : RL := [oo 5 (ms 0),
 oo 6 (ms 1),
 oo 7 (bi .shr (.s 5) (.s 6)),
 oo 8 (bi .rem (.s 7) (.c (.v (.int .u64 2)))),
 oo 9 (bi .eql (.s 8) (.c (.v (.int .u64 1)))),
 oo 4 (ms 9)]
def F34 : AFn := ⟨10, [.tmp 4],
  sr F34r0
  (sr F34r1
  (.ret))⟩
theorem F34_ok : cFunc Tryd.prog 34 = some F34 := by kernel_rfl
theorem F34_call : callable Tryd.prog 34 = true := by kernel_rfl
def F35r0 : RL := [oo 4 (.mov (ci 0))]
def F35r1 : RL := [oo 8 (ms 0),
 oo 9 (cl 59 [.s 8]),
 oo 7 (ms 9),
 oo 10 (.ext 0 (.s 7)),
 oo 11 (.ext 1 (.s 7)),
 oo 5 (ms 10),
 oo 6 (ms 11)]
def F35r2 : RL := [oo 13 (ms 6),
 oo 14 (bi .neq (.s 13) (ci 0)),
 oo 12 (ms 14)]
def F35r3 : RL := [oo 15 (ms 6),
 oo 4 (ms 15)]
def F35r4 : RL := [oo 17 (ms 1),
 oo 18 (bi .lss (.s 17) (ci 1)),
 oo 19 (ms 18),
 on 20 (ms 1) 19,
 on 21 (ms 5) 19,
 on 22 (bi .gtr (.s 20) (.s 21)) 19,
 oo 23 (.pick (.s 19) cT (.s 22)),
 oo 16 (ms 23)]
def F35r5 : RL := [oo 4 (.mov (ci 3))]
def F35r6 : RL := [oo 25 (ms 1),
 oo 26 (bi .mul (ci 2) (.s 25)),
 oo 27 (ms 5),
 oo 28 (bi .leq (.s 26) (.s 27)),
 oo 24 (ms 28)]
def F35r7 : RL := [oo 4 (.mov (ci 4))]
def F35r8 : RL := [oo 4 (.mov (ci 0))]
def F35 : AFn := ⟨29, [.tmp 4],
  sr F35r0
  (sr F35r1
  (.seq (.block 0 (
    sr F35r2
    (cd 12
      (sr F35r3
      (.ret))
      (sr F35r4
      (cd 16
        (sr F35r5
        (.ret))
        (sr F35r6
        (cd 24
          (sr F35r7
          (.ret))
          (.skip))))))))
  (sr F35r8
  (.ret))))⟩
theorem F35_ok : cFunc Tryd.prog 35 = some F35 := by kernel_rfl
theorem F35_call : callable Tryd.prog 35 = true := by kernel_rfl
def F36r0 : RL := [oo 2 (.mov (.c .emp))]
def F36r1 : RL := [oo 3 (ms 0),
 oo 4 (.isn .sl false (.s 3))]
def F36r2 : RL := [oo 2 (.mov (.c .emp))]
def F36r3 : RL := [oo 5 (.bsl 1 0 [zi 0] []),
 oo 6 (ms 0),
 oo 7 (.app 1 8 (.s 5) (.s 6)),
 oo 2 (ms 7)]
def F36 : AFn := ⟨8, [.tmp 2],
  sr F36r0
  (.seq (sr F36r1
  (cd 4
    (sr F36r2
    (.ret))
    (.skip)))
  (sr F36r3
  (.ret)))⟩
theorem F36_ok : cFunc Tryd.prog 36 = some F36 := by kernel_rfl
theorem F36_call : callable Tryd.prog 36 = true := by kernel_rfl
def F37r0 : RL := [oo 2 (.box 7 (.s 0)),
 oo 3 (.box 3 (.s 1)),
 oo 4 (.new [.emp, zi 0, .emp, .emp, .emp, .emp, zi 0]),
 oo 5 (.mov (ci 0))]
def F37r1 : RL := [oo 8 (fd 6 2),
 oo 9 (ld 8),
 oo 10 (bi .eql (.s 9) (ci 1000000))]
def F37r2 : RL := [oo 11 (.agg [.emp, zi 0, .emp, .emp, .emp, .emp, zi 0] []),
 ow (.store 7 (.s 4) (.s 11)),
 oo 5 (.mov (ci 2))]
def F37r3 : RL := [oo 12 (lq 7 2),
 oo 13 (cl 52 [.s 12]),
 oo 14 (.agg [.emp, zi 0, .emp, .emp, .emp, .emp, zi 0] [(0, (7, .s 13))]),
 oo 15 (.box 7 (.s 14)),
 oo 6 (ms 15)]
def F37r4 : RL := [oo 16 (ms 6),
 oo 17 (lq 3 3),
 oo 18 (cl 61 [.s 16, .s 17]),
 oo 7 (ms 18)]
def F37r5 : RL := [oo 19 (ms 7),
 oo 20 (bi .neq (.s 19) (ci 0))]
def F37r6 : RL := [oo 21 (.agg [.emp, zi 0, .emp, .emp, .emp, .emp, zi 0] []),
 oo 22 (ms 7),
 ow (.store 7 (.s 4) (.s 21)),
 oo 5 (ms 22)]
def F37r7 : RL := [oo 23 (ms 6),
 oo 24 (.nilc (.s 23)),
 oo 25 (fd 0 24),
 oo 26 (lq 7 25),
 ow (.store 7 (.s 4) (.s 26)),
 oo 5 (.mov (ci 0))]
def F37 : AFn := ⟨27, [.cell 4 (some 7), .tmp 5],
  sr F37r0
  (.seq (sr F37r1
  (cd 10
    (sr F37r2
    (.ret))
    (.skip)))
  (sr F37r3
  (.seq (sr F37r4
  (sr F37r5
  (cd 20
    (sr F37r6
    (.ret))
    (.skip))))
  (sr F37r7
  (.ret)))))⟩
theorem F37_ok : cFunc Tryd.prog 37 = some F37 := by kernel_rfl
theorem F37_call : callable Tryd.prog 37 = true := by kernel_rfl
def F42r0 : RL := [oo 0 (.new [.emp, zi 0])]
def F42r1 : RL := [oo 1 (.bsl 1 3 [zi 0] [(0, ci 1), (1, ci 1), (2, ci 1)]),
 oo 2 (.agg [.emp, zi 0] [(0, (1, .s 1)), (1, (1, ci 2))]),
 ow (.store 2 (.s 0) (.s 2))]
def F42 : AFn := ⟨3, [.cell 0 (some 2)],
  sr F42r0
  (sr F42r1
  (.ret))⟩
theorem F42_ok : cFunc Tryd.prog 42 = some F42 := by kernel_rfl
theorem F42_call : callable Tryd.prog 42 = true := by kernel_rfl
def F43r0 : RL := [oo 2 (.mov (.c .emp))]
def F43r1 : RL := [oo 3 (.mov (.c .emp))]
def F43r2 : RL := [oo 4 (.mov (ci 0))]
def F43r3 : RL := [oo 5 (ms 4),
 oo 6 (ms 0),
 oo 7 (bi .lss (.s 5) (.s 6))]
def F43r4 : RL := [oo 10 (ms 3),
 oo 11 (.agg [zi 0, zi 0, zs] [(0, (1, ci 3))]),
 oo 12 (.bsl 3 1 [zi 0, zi 0, zs] [(0, .s 11)]),
 oo 13 (.app 3 32 (.s 10) (.s 12)),
 oo 3 (ms 13)]
def F43r5 : RL := [oo 8 (ms 4),
 oo 9 (bi .add (.s 8) (ci 1)),
 oo 4 (ms 9)]
def F43r6 : RL := [oo 14 (ms 3),
 oo 2 (ms 14)]
def F43 : AFn := ⟨15, [.tmp 2],
  sr F43r0
  (sr F43r1
  (.seq (sr F43r2
  (.block 0 (
    .loop (
      .seq (sr F43r3
      (cd 7
        (.skip)
        (.exit 0)))
      (.seq (.block 1 (
        rg F43r4))
      (rg F43r5))))))
  (sr F43r6
  (.ret))))⟩
theorem F43_ok : cFunc Tryd.prog 43 = some F43 := by kernel_rfl
theorem F43_call : callable Tryd.prog 43 = true := by kernel_rfl
def F46r0 : RL := [oo 1 (.box 3 (.s 0)),
 oo 2 (.mov (ci 0))]
def F46r1 : RL := [oo 4 (fd 0 1),
 oo 5 (lq 2 4),
 oo 6 (cl 66 [.s 5]),
 oo 3 (ms 6)]
def F46r2 : RL := [oo 7 (ms 3),
 oo 8 (bi .eql (.s 7) (ci 0)),
 oo 9 (ms 8),
 ot 10 (fd 2 1) 9,
 ot 11 (ld 10) 9,
 ot 12 (.len true (.s 11)) 9,
 ot 13 (bi .gtr (.s 12) (ci 64)) 9,
 oo 14 (.pick (.s 9) (.s 13) cF)]
def F46r3 : RL := [oo 3 (.mov (ci 2))]
def F46r4 : RL := [oo 15 (ms 3),
 oo 2 (ms 15)]
def F46 : AFn := ⟨16, [.tmp 2],
  sr F46r0
  (sr F46r1
  (.seq (sr F46r2
  (cd 14
    (rg F46r3)
    (.skip)))
  (sr F46r4
  (.ret))))⟩
theorem F46_ok : cFunc Tryd.prog 46 = some F46 := by kernel_rfl
theorem F46_call : callable Tryd.prog 46 = true := by kernel_rfl
def F47r0 : RL := [oo 1 (.box 7 (.s 0)),
 oo 2 (.mov (ci 0))]
def F47r1 : RL := [oo 7 (fd 3 1),
 oo 8 (ld 7),
 oo 9 (.len false (.s 8)),
 oo 10 (bi .gtr (.s 9) (ci 31)),
 oo 6 (ms 10)]
def F47r2 : RL := [oo 2 (.mov (ci 2))]
def F47r3 : RL := [oo 12 (fd 3 1),
 oo 13 (ld 12),
 oo 14 (.len false (.s 13)),
 oo 15 (fd 4 1),
 oo 16 (ld 15),
 oo 17 (.len false (.s 16)),
 oo 18 (bi .neq (.s 14) (.s 17)),
 oo 11 (ms 18)]
def F47r4 : RL := [oo 2 (.mov (ci 1))]
def F47r5 : RL := [oo 19 (fd 3 1),
 oo 20 (ld 19),
 oo 21 (.len false (.s 20)),
 oo 22 (.mov (ci 0))]
def F47r6 : RL := [oo 23 (bi .lss (.s 22) (.s 21))]
def F47r7 : RL := [oo 24 (ms 22),
 oo 25 (.iad 8 (.s 20) (.s 22)),
 oo 26 (lq 8 25),
 oo 4 (.new [zi 0, zi 0, zi 0, zs, zi 0, zi 0, zs, .v (.int .u64 0)]),
 oo 3 (ms 24),
 ow (.store 8 (.s 4) (.s 26))]
def F47r8 : RL := [oo 27 (fd 0 4),
 oo 28 (ld 27),
 oo 29 (ms 3),
 oo 30 (bi .neq (.s 28) (.s 29))]
def F47r9 : RL := [oo 2 (.mov (ci 1))]
def F47r10 : RL := [oo 31 (fd 0 1),
 oo 32 (lq 2 31),
 oo 33 (lq 8 4),
 oo 34 (cl 67 [.s 32, .s 33]),
 oo 5 (ms 34)]
def F47r11 : RL := [oo 35 (ms 5),
 oo 36 (bi .neq (.s 35) (ci 0))]
def F47r12 : RL := [oo 37 (ms 5),
 oo 2 (ms 37)]
def F47r13 : RL := [oo 38 (fd 4 1),
 oo 39 (ld 38),
 oo 40 (ms 3),
 oo 41 (.iad 2 (.s 39) (.s 40)),
 oo 42 (lq 2 41),
 oo 43 (lq 8 4),
 oo 44 (fd 6 1),
 oo 45 (ld 44),
 oo 46 (cl 68 [.s 42, .s 43, .s 45]),
 oo 47 (.un .not (.s 46))]
def F47r14 : RL := [oo 2 (.mov (ci 4))]
def F47r15 : RL := [oo 48 (bi .add (.s 22) (ci 1)),
 oo 22 (ms 48)]
def F47r16 : RL := [oo 2 (.mov (ci 0))]
def F47 : AFn := ⟨49, [.tmp 2],
  sr F47r0
  (.seq (.block 0 (
    sr F47r1
    (cd 6
      (sr F47r2
      (.ret))
      (sr F47r3
      (cd 11
        (sr F47r4
        (.ret))
        (.skip))))))
  (.seq (sr F47r5
  (.block 1 (
    .loop (
      sr F47r6
      (.seq (cd 23
        (.skip)
        (.exit 1))
      (.seq (.block 2 (
        sr F47r7
        (.seq (sr F47r8
        (cd 30
          (sr F47r9
          (.ret))
          (.skip)))
        (.seq (sr F47r10
        (sr F47r11
        (cd 36
          (sr F47r12
          (.ret))
          (.skip))))
        (.seq (.reg F47r13 (some [[], [0], [], [1, 2, 0], [3, 1, 2, 0], [], [], [6], [4, 5, 7, 3, 1, 2, 0, 6], [8, 4, 5, 7, 3, 1, 2, 0, 6]]))
        (cd 47
          (sr F47r14
          (.ret))
          (.skip)))))))
      (rg F47r15)))))))
  (sr F47r16
  (.ret))))⟩
theorem F47_ok : cFunc Tryd.prog 47 = some F47 := by kernel_rfl
theorem F47_call : callable Tryd.prog 47 = true := by kernel_rfl
def F48r0 : RL := [oo 1 (.box 7 (.s 0)),
 oo 2 (.mov (ci 0))]
def F48r1 : RL := [oo 6 (fd 5 1),
 oo 7 (ld 6),
 oo 8 (.len false (.s 7)),
 oo 9 (bi .gtr (.s 8) (ci 200))]
def F48r2 : RL := [oo 2 (.mov (ci 2))]
def F48r3 : RL := [oo 10 (fd 5 1),
 oo 11 (ld 10),
 oo 12 (.len false (.s 11)),
 oo 13 (.mov (ci 0))]
def F48r4 : RL := [oo 14 (bi .lss (.s 13) (.s 12))]
def F48r5 : RL := [oo 15 (.iad 6 (.s 11) (.s 13)),
 oo 16 (lq 6 15),
 oo 4 (.new [zi 0, zi 0, zi 0, zi 0, zi 0, zs]),
 ow (.store 6 (.s 4) (.s 16))]
def F48r6 : RL := [oo 17 (lq 6 4),
 oo 18 (cl 69 [.s 17]),
 oo 5 (ms 18)]
def F48r7 : RL := [oo 19 (ms 5),
 oo 20 (bi .neq (.s 19) (ci 0))]
def F48r8 : RL := [oo 21 (ms 5),
 oo 2 (ms 21)]
def F48r9 : RL := [oo 22 (fd 2 4),
 oo 23 (ld 22),
 oo 24 (fd 2 1),
 oo 25 (ld 24),
 oo 26 (.len false (.s 25)),
 oo 27 (bi .geq (.s 23) (.s 26)),
 oo 28 (ms 27),
 on 29 (fd 1 4) 28,
 on 30 (ld 29) 28,
 on 31 (fd 3 1) 28,
 on 32 (ld 31) 28,
 on 33 (.len false (.s 32)) 28,
 on 34 (bi .geq (.s 30) (.s 33)) 28,
 oo 35 (.pick (.s 28) cT (.s 34))]
def F48r10 : RL := [oo 2 (.mov (ci 3))]
def F48r11 : RL := [oo 36 (bi .add (.s 13) (ci 1)),
 oo 13 (ms 36)]
def F48r12 : RL := [oo 2 (.mov (ci 0))]
def F48 : AFn := ⟨37, [.tmp 2],
  sr F48r0
  (.seq (sr F48r1
  (cd 9
    (sr F48r2
    (.ret))
    (.skip)))
  (.seq (sr F48r3
  (.block 0 (
    .loop (
      sr F48r4
      (.seq (cd 14
        (.skip)
        (.exit 0))
      (.seq (.block 1 (
        sr F48r5
        (.seq (sr F48r6
        (sr F48r7
        (cd 20
          (sr F48r8
          (.ret))
          (.skip))))
        (sr F48r9
        (cd 35
          (sr F48r10
          (.ret))
          (.skip))))))
      (rg F48r11)))))))
  (sr F48r12
  (.ret))))⟩
theorem F48_ok : cFunc Tryd.prog 48 = some F48 := by kernel_rfl
theorem F48_call : callable Tryd.prog 48 = true := by kernel_rfl
def F52r0 : RL := [oo 1 (.box 7 (.s 0)),
 oo 2 (.new [.emp, zi 0, .emp, .emp, .emp, .emp, zi 0])]
def F52r1 : RL := [oo 3 (fd 0 1),
 oo 4 (fd 0 3),
 oo 5 (ld 4),
 oo 6 (cl 36 [.s 5]),
 oo 7 (fd 0 1),
 oo 8 (fd 1 7),
 oo 9 (ld 8),
 oo 10 (.agg [.emp, zi 0] [(0, (1, .s 6)), (1, (1, .s 9))]),
 oo 11 (fd 2 1),
 oo 12 (ld 11),
 oo 13 (cl 72 [.s 12]),
 oo 14 (fd 3 1),
 oo 15 (ld 14),
 oo 16 (cl 73 [.s 15]),
 oo 17 (fd 4 1),
 oo 18 (ld 17),
 oo 19 (cl 74 [.s 18]),
 oo 20 (fd 5 1),
 oo 21 (ld 20),
 oo 22 (cl 75 [.s 21]),
 oo 23 (fd 6 1),
 oo 24 (ld 23),
 oo 25 (.agg [.emp, zi 0, .emp, .emp, .emp, .emp, zi 0] [(0, (2, .s 10)), (2, (1, .s 13)), (3, (1, .s 16)), (4, (1, .s 19)), (5, (1, .s 22)), (6, (1, .s 24))]),
 ow (.store 7 (.s 2) (.s 25))]
def F52 : AFn := ⟨26, [.cell 2 (some 7)],
  sr F52r0
  (.seq (.reg F52r1 (some [[], [0], [1, 0], [2, 1, 0], [], [4], [5, 4], [3, 6, 2, 1, 0, 5, 4], [], [8], [9, 3, 8, 2, 1, 0], [], [11], [12, 10, 11, 9, 3, 8, 2, 1, 0], [], [14], [15, 13, 14, 12, 10, 11, 9, 3, 8, 2, 1, 0], [], [17], [18, 16, 17, 15, 13, 14, 12, 10, 11, 9, 3, 8, 2, 1, 0], [], [20], [7, 10, 13, 16, 19, 21, 3, 6, 2, 1, 0, 5, 4, 9, 8, 12, 11, 15, 14, 18, 17, 20], [22, 19, 0, 1, 2, 3, 4, 5, 6, 7, 8, 9, 10, 11, 12, 13, 14, 15, 16, 17, 18, 20, 21]]))
  (.ret))⟩
theorem F52_ok : cFunc Tryd.prog 52 = some F52 := by kernel_rfl
theorem F52_call : callable Tryd.prog 52 = true := by kernel_rfl
def F53r0 : RL := [oo 2 (.box 2 (.s 0)),
 oo 3 (.box 2 (.s 1)),
 oo 4 (.mov (ci 0))]
def F53r1 : RL := [oo 5 (fd 0 2),
 oo 6 (ld 5),
 oo 7 (fd 0 3),
 oo 8 (ld 7),
 oo 9 (cl 77 [.s 6, .s 8]),
 oo 10 (fd 1 2),
 oo 11 (ld 10),
 oo 12 (fd 1 3),
 oo 13 (ld 12),
 oo 14 (cl 77 [.s 11, .s 13]),
 oo 15 (.bsl 1 2 [zi 0] [(0, .s 9), (1, .s 14)]),
 oo 16 (cl 76 [.s 15]),
 oo 4 (ms 16)]
def F53 : AFn := ⟨17, [.tmp 4],
  sr F53r0
  (.seq (.reg F53r1 (some [[], [0], [], [2], [1, 3, 0, 2], [], [5], [], [7], [6, 8, 4, 5, 7, 1, 3, 0, 2], [4, 9, 1, 3, 0, 2, 6, 8, 5, 7], [10, 9, 4, 1, 3, 0, 2, 6, 8, 5, 7], [11, 0, 1, 2, 3, 4, 5, 6, 7, 8, 9, 10]]))
  (.ret))⟩
theorem F53_ok : cFunc Tryd.prog 53 = some F53 := by kernel_rfl
theorem F53_call : callable Tryd.prog 53 = true := by kernel_rfl
def F54r0 : RL := [oo 4 (.mov (ci 0)),
 oo 5 (.mov (ci 0))]
def F54r1 : RL := [oo 9 (ms 0),
 oo 10 (cl 59 [.s 9]),
 oo 8 (ms 10),
 oo 11 (.ext 0 (.s 8)),
 oo 12 (.ext 1 (.s 8)),
 oo 6 (ms 11),
 oo 7 (ms 12)]
def F54r2 : RL := [oo 13 (ms 7),
 oo 14 (bi .neq (.s 13) (ci 0))]
def F54r3 : RL := [oo 15 (ms 7),
 oo 4 (.mov (ci 0)),
 oo 5 (ms 15)]
def F54r4 : RL := [oo 16 (ms 1),
 oo 17 (cl 78 [.s 16]),
 oo 18 (ms 0),
 oo 19 (.len false (.s 18)),
 oo 20 (bi .gtr (.s 17) (.s 19))]
def F54r5 : RL := [oo 4 (.mov (ci 0)),
 oo 5 (.mov (ci 3))]
def F54r6 : RL := [oo 21 (ms 1),
 oo 22 (bi .neq (.s 21) (.c (.v (.int .u64 0))))]
def F54r7 : RL := [oo 27 (ms 4),
 oo 28 (ms 0),
 oo 29 (ms 1),
 oo 30 (cl 79 [.s 29]),
 oo 31 (.iad 1 (.s 28) (.s 30)),
 oo 32 (ld 31),
 oo 33 (bi .add (.s 27) (.s 32)),
 oo 4 (ms 33)]
def F54r8 : RL := [oo 23 (ms 1),
 oo 24 (ms 1),
 oo 25 (bi .sub (.s 24) (.c (.v (.int .u64 1)))),
 oo 26 (bi .and (.s 23) (.s 25)),
 oo 1 (ms 26)]
def F54r9 : RL := [oo 34 (ms 4),
 oo 4 (ms 34),
 oo 5 (.mov (ci 0))]
def F54 : AFn := ⟨35, [.tmp 4, .tmp 5],
  sr F54r0
  (.seq (sr F54r1
  (sr F54r2
  (cd 14
    (sr F54r3
    (.ret))
    (.skip))))
  (.seq (sr F54r4
  (cd 20
    (sr F54r5
    (.ret))
    (.skip)))
  (.seq (.block 0 (
    .loop (
      .seq (sr F54r6
      (cd 22
        (.skip)
        (.exit 0)))
      (.seq (.block 1 (
        rg F54r7))
      (rg F54r8)))))
  (sr F54r9
  (.ret)))))⟩
theorem F54_ok : cFunc Tryd.prog 54 = some F54 := by kernel_rfl
theorem F54_call : callable Tryd.prog 54 = true := by kernel_rfl
def F59r0 : RL := [oo 2 (.mov (ci 0)),
 oo 3 (.mov (ci 0))]
def F59r1 : RL := [oo 7 (ms 0),
 oo 8 (.len false (.s 7)),
 oo 9 (bi .eql (.s 8) (ci 0)),
 oo 6 (ms 9)]
def F59r2 : RL := [oo 2 (.mov (ci 0)),
 oo 3 (.mov (ci 8))]
def F59r3 : RL := [oo 11 (ms 0),
 oo 12 (.len false (.s 11)),
 oo 13 (bi .gtr (.s 12) (ci 12)),
 oo 10 (ms 13)]
def F59r4 : RL := [oo 2 (.mov (ci 0)),
 oo 3 (.mov (ci 2))]
def F59r5 : RL := [oo 14 (ms 0),
 oo 15 (.len false (.s 14)),
 oo 16 (.mov (ci 0))]
def F59r6 : RL := [oo 17 (bi .lss (.s 16) (.s 15))]
def F59r7 : RL := [oo 18 (.iad 1 (.s 14) (.s 16)),
 oo 19 (ld 18),
 oo 5 (ms 19)]
def F59r8 : RL := [oo 20 (ms 5),
 oo 21 (bi .lss (.s 20) (ci 0)),
 oo 22 (ms 21),
 on 23 (ms 5) 22,
 on 24 (bi .gtr (.s 23) (ci 100)) 22,
 oo 25 (.pick (.s 22) cT (.s 24))]
def F59r9 : RL := [oo 2 (.mov (ci 0)),
 oo 3 (.mov (ci 3))]
def F59r10 : RL := [oo 26 (ms 2),
 oo 27 (ms 5),
 oo 28 (bi .add (.s 26) (.s 27)),
 oo 2 (ms 28)]
def F59r11 : RL := [oo 29 (bi .add (.s 16) (ci 1)),
 oo 16 (ms 29)]
def F59r12 : RL := [oo 30 (ms 2),
 oo 2 (ms 30),
 oo 3 (.mov (ci 0))]
def F59 : AFn := ⟨31, [.tmp 2, .tmp 3],
  sr F59r0
  (.seq (.block 0 (
    sr F59r1
    (cd 6
      (sr F59r2
      (.ret))
      (sr F59r3
      (cd 10
        (sr F59r4
        (.ret))
        (.skip))))))
  (.seq (sr F59r5
  (.block 1 (
    .loop (
      sr F59r6
      (.seq (cd 17
        (.skip)
        (.exit 1))
      (.seq (.block 2 (
        sr F59r7
        (.seq (sr F59r8
        (cd 25
          (sr F59r9
          (.ret))
          (.skip)))
        (rg F59r10))))
      (rg F59r11)))))))
  (sr F59r12
  (.ret))))⟩
theorem F59_ok : cFunc Tryd.prog 59 = some F59 := by kernel_rfl
theorem F59_call : callable Tryd.prog 59 = true := by kernel_rfl
def F60r0 : RL := [oo 4 (.mov (ci 0))]
def F60r1 : RL := [oo 7 (ms 0),
 oo 8 (cl 36 [.s 7]),
 oo 5 (ms 8)]
def F60r2 : RL := [oo 9 (ms 5),
 oo 10 (cl 92 [.s 9, .c (.fn 93 [])])]
def F60r3 : RL := [oo 6 (.mov (ci 0))]
def F60r4 : RL := [oo 11 (ms 1),
 oo 12 (bi .gtr (.s 11) (ci 0))]
def F60r5 : RL := [oo 13 (ms 1),
 oo 14 (ms 5),
 oo 15 (ms 6),
 oo 16 (.iad 1 (.s 14) (.s 15)),
 oo 17 (ld 16),
 oo 18 (bi .sub (.s 13) (.s 17)),
 oo 1 (ms 18)]
def F60r6 : RL := [oo 19 (ms 6),
 oo 20 (bi .add (.s 19) (ci 1)),
 oo 6 (ms 20)]
def F60r7 : RL := [oo 21 (ms 6),
 oo 4 (ms 21)]
def F60 : AFn := ⟨22, [.tmp 4],
  sr F60r0
  (sr F60r1
  (sr F60r2
  (sr F60r3
  (.seq (.block 0 (
    .loop (
      .seq (sr F60r4
      (cd 12
        (.skip)
        (.exit 0)))
      (.block 1 (
        sr F60r5
        (rg F60r6))))))
  (sr F60r7
  (.ret))))))⟩
theorem F60_ok : cFunc Tryd.prog 60 = some F60 := by kernel_rfl
def F61r0 : RL := [oo 3 (.box 3 (.s 1)),
 oo 4 (.mov (ci 0))]
def F61r1 : RL := [oo 7 (ms 0),
 oo 8 (.nilc (.s 7)),
 oo 9 (fd 0 8),
 oo 10 (fd 6 9),
 oo 11 (ld 10),
 oo 12 (bi .add (.s 11) (ci 1)),
 oo 13 (.nilc (.s 7)),
 oo 14 (fd 0 13),
 oo 15 (fd 6 14),
 ow (.store 1 (.s 15) (.s 12))]
def F61r2 : RL := [oo 16 (fd 0 3),
 oo 17 (ld 16),
 oo 18 (bi .eql (.s 17) (ci 1)),
 oo 19 (ms 18),
 on 20 (fd 0 3) 19,
 on 21 (ld 20) 19,
 on 22 (bi .eql (.s 21) (ci 2)) 19,
 oo 23 (.pick (.s 19) cT (.s 22)),
 oo 5 (ms 23)]
def F61r3 : RL := [oo 25 (fd 0 3),
 oo 26 (ld 25),
 oo 27 (bi .lss (.s 26) (ci 1)),
 oo 28 (ms 27),
 on 29 (fd 0 3) 28,
 on 30 (ld 29) 28,
 on 31 (bi .gtr (.s 30) (ci 5)) 28,
 oo 32 (.pick (.s 28) cT (.s 31)),
 oo 24 (ms 32)]
def F61r4 : RL := [oo 4 (.mov (ci 7))]
def F61r5 : RL := [oo 34 (fd 2 3),
 oo 35 (ld 34),
 oo 36 (bi .neq (.s 35) (.c (zs))),
 oo 37 (ms 36),
 ot 38 (fd 0 3) 37,
 ot 39 (ld 38) 37,
 ot 40 (bi .neq (.s 39) (ci 2)) 37,
 oo 41 (.pick (.s 37) (.s 40) cF),
 oo 33 (ms 41)]
def F61r6 : RL := [oo 42 (ms 5),
 oo 43 (ms 42),
 ot 44 (fd 1 3) 43,
 ot 45 (ld 44) 43,
 ot 46 (bi .neq (.s 45) (ci 0)) 43,
 oo 47 (.pick (.s 43) (.s 46) cF),
 oo 33 (ms 47)]
def F61r7 : RL := [oo 4 (.mov (ci 1))]
def F61r8 : RL := [oo 49 (fd 0 3),
 oo 50 (ld 49),
 oo 51 (bi .eql (.s 50) (ci 1)),
 oo 48 (ms 51)]
def F61r9 : RL := [oo 52 (ms 0),
 oo 53 (cl 94 [.s 52, ci 1, .c (zs)]),
 oo 4 (ms 53)]
def F61r10 : RL := [oo 55 (fd 0 3),
 oo 56 (ld 55),
 oo 57 (bi .eql (.s 56) (ci 2)),
 oo 54 (ms 57)]
def F61r11 : RL := [oo 58 (ms 0),
 oo 59 (fd 2 3),
 oo 60 (ld 59),
 oo 61 (cl 94 [.s 58, ci 2, .s 60]),
 oo 4 (ms 61)]
def F61r12 : RL := [oo 63 (fd 1 3),
 oo 64 (ld 63),
 oo 65 (bi .lss (.s 64) (ci 0)),
 oo 66 (ms 65),
 on 67 (fd 1 3) 66,
 on 68 (ld 67) 66,
 on 69 (ms 0) 66,
 on 70 (.nilc (.s 69)) 66,
 on 71 (fd 0 70) 66,
 on 72 (fd 5 71) 66,
 on 73 (ld 72) 66,
 on 74 (.len false (.s 73)) 66,
 on 75 (bi .geq (.s 68) (.s 74)) 66,
 oo 76 (.pick (.s 66) cT (.s 75)),
 oo 62 (ms 76)]
def F61r13 : RL := [oo 4 (.mov (ci 3))]
def F61r14 : RL := [oo 77 (ms 0),
 oo 78 (.nilc (.s 77)),
 oo 79 (fd 0 78),
 oo 80 (fd 5 79),
 oo 81 (ld 80),
 oo 82 (fd 1 3),
 oo 83 (ld 82),
 oo 84 (.iad 6 (.s 81) (.s 83)),
 oo 85 (lq 6 84),
 oo 6 (.new [zi 0, zi 0, zi 0, zi 0, zi 0, zs]),
 ow (.store 6 (.s 6) (.s 85))]
def F61r15 : RL := [oo 86 (fd 0 3),
 oo 87 (ld 86),
 oo 88 (bi .eql (.s 87) (ci 5))]
def F61r16 : RL := [oo 89 (ms 0),
 oo 90 (lq 6 6),
 oo 91 (.bsl 6 1 [zi 0, zi 0, zi 0, zi 0, zi 0, zs] [(0, .s 90)]),
 oo 92 (cl 95 [.s 89, .s 91]),
 oo 4 (ms 92)]
def F61r17 : RL := [oo 93 (ms 0),
 oo 94 (ms 0),
 oo 95 (.nilc (.s 94)),
 oo 96 (fd 0 95),
 oo 97 (fd 5 96),
 oo 98 (ld 97),
 oo 99 (fd 1 3),
 oo 100 (ld 99),
 oo 101 (fd 1 3),
 oo 102 (ld 101),
 oo 103 (bi .add (.s 102) (ci 1)),
 oo 104 (cl 96 [.s 98, .s 100, .s 103]),
 oo 105 (.nilc (.s 93)),
 oo 106 (fd 0 105),
 oo 107 (fd 5 106),
 ow (.store 1 (.s 107) (.s 104))]
def F61r18 : RL := [oo 108 (fd 0 3),
 oo 109 (ld 108),
 oo 110 (bi .eql (.s 109) (ci 4))]
def F61r19 : RL := [oo 4 (.mov (ci 0))]
def F61r20 : RL := [oo 111 (ms 0),
 oo 112 (lq 6 6),
 oo 113 (cl 97 [.s 111, .s 112]),
 oo 4 (ms 113)]
def F61 : AFn := ⟨114, [.tmp 4],
  sr F61r0
  (sr F61r1
  (sr F61r2
  (.seq (.block 0 (
    sr F61r3
    (cd 24
      (sr F61r4
      (.ret))
      (.seq (sr F61r5
      (cd 33
        (.skip)
        (rg F61r6)))
      (cd 33
        (sr F61r7
        (.ret))
        (sr F61r8
        (cd 48
          (sr F61r9
          (.ret))
          (sr F61r10
          (cd 54
            (sr F61r11
            (.ret))
            (.seq (.reg F61r12 (some [[], [0], [1, 0], [2, 1, 0], [3, 2, 1, 0], [4, 3, 2, 1, 0], [3, 2, 1, 0], [6, 3, 2, 1, 0], [7, 3, 6, 2, 1, 0], [8, 3, 7, 6, 2, 1, 0], [9, 3, 8, 7, 6, 2, 1, 0], [10, 3, 9, 8, 7, 6, 2, 1, 0], [5, 11, 3, 4, 2, 1, 0, 10, 9, 8, 7, 6], [3, 12, 2, 1, 0, 5, 11, 4, 10, 9, 8, 7, 6], [13, 3, 12, 2, 1, 0, 5, 11, 4, 10, 9, 8, 7, 6]]))
            (cd 62
              (sr F61r13
              (.ret))
              (.skip))))))))))))
  (.seq (.reg F61r14 (some [[], [0], [1, 0], [2, 1, 0], [3, 2, 1, 0], [], [5], [4, 6, 3, 2, 1, 0, 5], [7, 4, 6, 3, 2, 1, 0, 5], [], [9, 8, 0, 1, 2, 3, 4, 5, 6, 7]]))
  (.seq (sr F61r15
  (cd 88
    (sr F61r16
    (.ret))
    (.skip)))
  (.seq (.reg F61r17 (some [[], [], [1], [2, 1], [3, 2, 1], [4, 3, 2, 1], [], [6], [], [8], [9, 8], [5, 7, 10, 4, 3, 2, 1, 6, 9, 8], [0, 1, 2, 3, 4, 5, 6, 7, 8, 9, 10, 11], [12, 0, 1, 2, 3, 4, 5, 6, 7, 8, 9, 10, 11], [13, 0, 1, 2, 3, 4, 5, 6, 7, 8, 9, 10, 11, 12], [14, 11, 0, 1, 2, 3, 4, 5, 6, 7, 8, 9, 10, 13, 12]]))
  (.seq (sr F61r18
  (cd 110
    (sr F61r19
    (.ret))
    (.skip)))
  (sr F61r20
  (.ret)))))))))⟩
theorem F61_ok : cFunc Tryd.prog 61 = some F61 := by kernel_rfl
theorem F61_call : callable Tryd.prog 61 = true := by kernel_rfl
def F66r0 : RL := [oo 1 (.box 2 (.s 0)),
 oo 2 (.mov (ci 0))]
def F66r1 : RL := [oo 3 (fd 0 1),
 oo 4 (ld 3),
 oo 5 (bi .lss (.s 4) (ci 0)),
 oo 6 (ms 5),
 on 7 (fd 0 1) 6,
 on 8 (ld 7) 6,
 on 9 (bi .gtr (.s 8) (ci 1000000)) 6,
 oo 10 (.pick (.s 6) cT (.s 9)),
 oo 11 (ms 10),
 on 12 (fd 1 1) 11,
 on 13 (ld 12) 11,
 on 14 (cl 102 [.s 13]) 11,
 on 15 (.un .not (.s 14)) 11,
 oo 16 (.pick (.s 11) cT (.s 15))]
def F66r2 : RL := [oo 2 (.mov (ci 3))]
def F66r3 : RL := [oo 2 (.mov (ci 0))]
def F66 : AFn := ⟨17, [.tmp 2],
  sr F66r0
  (.seq (sr F66r1
  (cd 16
    (sr F66r2
    (.ret))
    (.skip)))
  (sr F66r3
  (.ret)))⟩
theorem F66_ok : cFunc Tryd.prog 66 = some F66 := by kernel_rfl
theorem F66_call : callable Tryd.prog 66 = true := by kernel_rfl
def F67r0 : RL := [oo 2 (.box 2 (.s 0)),
 oo 3 (.box 8 (.s 1)),
 oo 4 (.mov (ci 0))]
def F67r1 : RL := [oo 7 (fd 0 2),
 oo 8 (ld 7),
 oo 9 (fd 1 2),
 oo 10 (ld 9),
 oo 11 (cl 35 [.s 8, .s 10]),
 oo 5 (ms 11)]
def F67r2 : RL := [oo 12 (ms 5),
 oo 13 (bi .neq (.s 12) (ci 0))]
def F67r3 : RL := [oo 14 (ms 5),
 oo 4 (ms 14)]
def F67r4 : RL := [oo 16 (fd 0 3),
 oo 17 (ld 16),
 oo 18 (cl 103 [.s 17, ci 0, ci 30]),
 oo 19 (.un .not (.s 18)),
 oo 15 (ms 19)]
def F67r5 : RL := [oo 4 (.mov (ci 3))]
def F67r6 : RL := [oo 21 (fd 1 3),
 oo 22 (ld 21),
 oo 23 (cl 103 [.s 22, ci 1, ci 2]),
 oo 24 (.un .not (.s 23)),
 oo 20 (ms 24)]
def F67r7 : RL := [oo 25 (fd 2 3),
 oo 26 (ld 25),
 oo 27 (cl 103 [.s 26, ci 1, ci 3]),
 oo 28 (.un .not (.s 27)),
 oo 20 (ms 28)]
def F67r8 : RL := [oo 4 (.mov (ci 7))]
def F67r9 : RL := [oo 30 (fd 3 3),
 oo 31 (ld 30),
 oo 32 (.len true (.s 31)),
 oo 33 (bi .gtr (.s 32) (ci 64)),
 oo 29 (ms 33)]
def F67r10 : RL := [oo 4 (.mov (ci 2))]
def F67r11 : RL := [oo 35 (fd 1 3),
 oo 36 (ld 35),
 oo 37 (bi .eql (.s 36) (ci 1)),
 oo 38 (ms 37),
 ot 39 (fd 3 3) 38,
 ot 40 (ld 39) 38,
 ot 41 (bi .neq (.s 40) (.c (zs))) 38,
 oo 42 (.pick (.s 38) (.s 41) cF),
 oo 34 (ms 42)]
def F67r12 : RL := [oo 4 (.mov (ci 1))]
def F67r13 : RL := [oo 43 (fd 4 3),
 oo 44 (lq 3 43),
 oo 45 (cl 46 [.s 44]),
 oo 6 (ms 45)]
def F67r14 : RL := [oo 46 (ms 6),
 oo 47 (bi .eql (.s 46) (ci 0)),
 oo 48 (ms 47),
 ot 49 (fd 7 3) 48,
 ot 50 (ld 49) 48,
 ot 51 (cl 78 [.s 50]) 48,
 ot 52 (fd 0 2) 48,
 ot 53 (ld 52) 48,
 ot 54 (.len false (.s 53)) 48,
 ot 55 (bi .gtr (.s 51) (.s 54)) 48,
 oo 56 (.pick (.s 48) (.s 55) cF)]
def F67r15 : RL := [oo 6 (.mov (ci 3))]
def F67r16 : RL := [oo 57 (ms 6),
 oo 4 (ms 57)]
def F67 : AFn := ⟨58, [.tmp 4],
  sr F67r0
  (.seq (sr F67r1
  (sr F67r2
  (cd 13
    (sr F67r3
    (.ret))
    (.skip))))
  (.seq (.block 0 (
    sr F67r4
    (cd 15
      (sr F67r5
      (.ret))
      (.seq (sr F67r6
      (cd 20
        (.skip)
        (rg F67r7)))
      (cd 20
        (sr F67r8
        (.ret))
        (sr F67r9
        (cd 29
          (sr F67r10
          (.ret))
          (sr F67r11
          (cd 34
            (sr F67r12
            (.ret))
            (.skip))))))))))
  (sr F67r13
  (.seq (.seq (.reg F67r14 (some [[], [0], [1, 0], [2, 1, 0], [3, 2, 1, 0], [4, 2, 3, 1, 0], [2, 1, 0], [6, 2, 1, 0], [7, 2, 6, 1, 0], [5, 8, 2, 4, 3, 1, 0, 7, 6], [2, 9, 1, 0, 5, 8, 4, 3, 7, 6]]))
  (cd 56
    (rg F67r15)
    (.skip)))
  (sr F67r16
  (.ret))))))⟩
theorem F67_ok : cFunc Tryd.prog 67 = some F67 := by kernel_rfl
theorem F67_call : callable Tryd.prog 67 = true := by kernel_rfl
def F68r0 : RL := [oo 3 (.box 2 (.s 0)),
 oo 4 (.box 8 (.s 1)),
 oo 6 (.mov cF)]
def F68r1 : RL := [oo 7 (fd 0 3),
 oo 8 (ld 7),
 oo 9 (bi .lss (.s 8) (ci 1)),
 oo 10 (ms 9),
 on 11 (fd 0 3) 10,
 on 12 (ld 11) 10,
 on 13 (ms 2) 10,
 on 14 (bi .gtr (.s 12) (.s 13)) 10,
 oo 15 (.pick (.s 10) cT (.s 14))]
def F68r2 : RL := [oo 6 (.mov cF)]
def F68r3 : RL := [oo 16 (fd 2 4),
 oo 17 (ld 16),
 oo 18 (bi .neq (.s 17) (ci 3))]
def F68r4 : RL := [oo 19 (fd 1 3),
 oo 20 (ld 19),
 oo 21 (bi .eql (.s 20) (ci 0)),
 oo 6 (ms 21)]
def F68r5 : RL := [oo 22 (fd 1 3),
 oo 23 (ld 22),
 oo 24 (fd 0 3),
 oo 25 (ld 24),
 oo 26 (bi .geq (.s 23) (.s 25)),
 oo 27 (ms 26),
 ot 28 (fd 1 3) 27,
 ot 29 (ld 28) 27,
 ot 30 (ms 2) 27,
 ot 31 (bi .leq (.s 29) (.s 30)) 27,
 oo 32 (.pick (.s 27) (.s 31) cF),
 oo 6 (ms 32)]
def F68 : AFn := ⟨33, [.tmp 6],
  sr F68r0
  (.seq (sr F68r1
  (cd 15
    (sr F68r2
    (.ret))
    (.skip)))
  (.seq (sr F68r3
  (cd 18
    (sr F68r4
    (.ret))
    (.skip)))
  (sr F68r5
  (.ret))))⟩
theorem F68_ok : cFunc Tryd.prog 68 = some F68 := by kernel_rfl
theorem F68_call : callable Tryd.prog 68 = true := by kernel_rfl
def F69r0 : RL := [oo 1 (.box 6 (.s 0)),
 oo 2 (.mov (ci 0))]
def F69r1 : RL := [oo 5 (fd 0 1),
 oo 6 (ld 5),
 oo 7 (cl 104 [.s 6]),
 oo 8 (.un .not (.s 7)),
 oo 4 (ms 8)]
def F69r2 : RL := [oo 2 (.mov (ci 7))]
def F69r3 : RL := [oo 10 (fd 1 1),
 oo 11 (ld 10),
 oo 12 (bi .lss (.s 11) (ci 0)),
 oo 13 (ms 12),
 on 14 (fd 1 1) 13,
 on 15 (ld 14) 13,
 on 16 (bi .geq (.s 15) (ci 31)) 13,
 oo 17 (.pick (.s 13) cT (.s 16)),
 oo 9 (ms 17)]
def F69r4 : RL := [oo 18 (fd 2 1),
 oo 19 (ld 18),
 oo 20 (bi .lss (.s 19) (ci 0)),
 oo 21 (ms 20),
 on 22 (fd 2 1) 21,
 on 23 (ld 22) 21,
 on 24 (bi .geq (.s 23) (ci 12)) 21,
 oo 25 (.pick (.s 21) cT (.s 24)),
 oo 9 (ms 25)]
def F69r5 : RL := [oo 2 (.mov (ci 3))]
def F69r6 : RL := [oo 26 (fd 3 1),
 oo 27 (lq 3 26),
 oo 28 (cl 46 [.s 27]),
 oo 3 (ms 28)]
def F69r7 : RL := [oo 29 (ms 3),
 oo 30 (bi .eql (.s 29) (ci 0)),
 oo 31 (ms 30),
 ot 32 (fd 0 1) 31,
 ot 33 (ld 32) 31,
 ot 34 (cl 105 [.s 33]) 31,
 ot 35 (.un .not (.s 34)) 31,
 oo 36 (.pick (.s 31) (.s 35) cF),
 oo 37 (ms 36),
 ot 38 (fd 3 1) 37,
 ot 39 (lq 3 38) 37,
 ot 40 (.agg [zi 0, zi 0, zs] []) 37,
 ot 41 (.eqs true 3 [(0, .int), (1, .int), (2, .str)] (.s 39) (.s 40)) 37,
 oo 42 (.pick (.s 37) (.s 41) cF)]
def F69r8 : RL := [oo 3 (.mov (ci 1))]
def F69r9 : RL := [oo 43 (ms 3),
 oo 2 (ms 43)]
def F69 : AFn := ⟨44, [.tmp 2],
  sr F69r0
  (.seq (.block 0 (
    sr F69r1
    (cd 4
      (sr F69r2
      (.ret))
      (.seq (sr F69r3
      (cd 9
        (.skip)
        (rg F69r4)))
      (cd 9
        (sr F69r5
        (.ret))
        (.skip))))))
  (sr F69r6
  (.seq (sr F69r7
  (cd 42
    (rg F69r8)
    (.skip)))
  (sr F69r9
  (.ret)))))⟩
theorem F69_ok : cFunc Tryd.prog 69 = some F69 := by kernel_rfl
theorem F69_call : callable Tryd.prog 69 = true := by kernel_rfl
def F72r0 : RL := [oo 2 (.mov (.c .emp))]
def F72r1 : RL := [oo 3 (ms 0),
 oo 4 (.isn .sl false (.s 3))]
def F72r2 : RL := [oo 2 (.mov (.c .emp))]
def F72r3 : RL := [oo 5 (.bsl 3 0 [zi 0, zi 0, zs] []),
 oo 6 (ms 0),
 oo 7 (.app 3 32 (.s 5) (.s 6)),
 oo 2 (ms 7)]
def F72 : AFn := ⟨8, [.tmp 2],
  sr F72r0
  (.seq (sr F72r1
  (cd 4
    (sr F72r2
    (.ret))
    (.skip)))
  (sr F72r3
  (.ret)))⟩
theorem F72_ok : cFunc Tryd.prog 72 = some F72 := by kernel_rfl
theorem F72_call : callable Tryd.prog 72 = true := by kernel_rfl
def F73r0 : RL := [oo 2 (.mov (.c .emp))]
def F73r1 : RL := [oo 3 (ms 0),
 oo 4 (.isn .sl false (.s 3))]
def F73r2 : RL := [oo 2 (.mov (.c .emp))]
def F73r3 : RL := [oo 5 (.bsl 8 0 [zi 0, zi 0, zi 0, zs, zi 0, zi 0, zs, .v (.int .u64 0)] []),
 oo 6 (ms 0),
 oo 7 (.app 8 80 (.s 5) (.s 6)),
 oo 2 (ms 7)]
def F73 : AFn := ⟨8, [.tmp 2],
  sr F73r0
  (.seq (sr F73r1
  (cd 4
    (sr F73r2
    (.ret))
    (.skip)))
  (sr F73r3
  (.ret)))⟩
theorem F73_ok : cFunc Tryd.prog 73 = some F73 := by kernel_rfl
theorem F73_call : callable Tryd.prog 73 = true := by kernel_rfl
def F74r0 : RL := [oo 2 (.mov (.c .emp))]
def F74r1 : RL := [oo 3 (ms 0),
 oo 4 (.isn .sl false (.s 3))]
def F74r2 : RL := [oo 2 (.mov (.c .emp))]
def F74r3 : RL := [oo 5 (.bsl 2 0 [zi 0, zi 0] []),
 oo 6 (ms 0),
 oo 7 (.app 2 16 (.s 5) (.s 6)),
 oo 2 (ms 7)]
def F74 : AFn := ⟨8, [.tmp 2],
  sr F74r0
  (.seq (sr F74r1
  (cd 4
    (sr F74r2
    (.ret))
    (.skip)))
  (sr F74r3
  (.ret)))⟩
theorem F74_ok : cFunc Tryd.prog 74 = some F74 := by kernel_rfl
theorem F74_call : callable Tryd.prog 74 = true := by kernel_rfl
def F75r0 : RL := [oo 2 (.mov (.c .emp))]
def F75r1 : RL := [oo 3 (ms 0),
 oo 4 (.isn .sl false (.s 3))]
def F75r2 : RL := [oo 2 (.mov (.c .emp))]
def F75r3 : RL := [oo 5 (.bsl 6 0 [zi 0, zi 0, zi 0, zi 0, zi 0, zs] []),
 oo 6 (ms 0),
 oo 7 (.app 6 56 (.s 5) (.s 6)),
 oo 2 (ms 7)]
def F75 : AFn := ⟨8, [.tmp 2],
  sr F75r0
  (.seq (sr F75r1
  (cd 4
    (sr F75r2
    (.ret))
    (.skip)))
  (sr F75r3
  (.ret)))⟩
theorem F75_ok : cFunc Tryd.prog 75 = some F75 := by kernel_rfl
theorem F75_call : callable Tryd.prog 75 = true := by kernel_rfl
def F76r0 : RL := [oo 2 (.mov (ci 0))]
def F76r1 : RL := [oo 3 (.mov (ci 0))]
def F76r2 : RL := [oo 6 (ms 0),
 oo 7 (.len false (.s 6)),
 oo 8 (.mov (ci 0))]
def F76r3 : RL := [oo 9 (bi .lss (.s 8) (.s 7))]
def F76r4 : RL := [oo 10 (.iad 1 (.s 6) (.s 8)),
 oo 11 (ld 10),
 oo 5 (ms 11)]
def F76r5 : RL := [oo 12 (ms 5),
 oo 13 (ms 3),
 oo 14 (bi .neq (.s 12) (.s 13))]
def F76r6 : RL := [oo 15 (ms 5),
 oo 2 (ms 15)]
def F76r7 : RL := [oo 16 (bi .add (.s 8) (ci 1)),
 oo 8 (ms 16)]
def F76r8 : RL := [oo 17 (ms 3),
 oo 2 (ms 17)]
def F76 : AFn := ⟨18, [.tmp 2],
  sr F76r0
  (sr F76r1
  (.seq (sr F76r2
  (.block 0 (
    .loop (
      sr F76r3
      (.seq (cd 9
        (.skip)
        (.exit 0))
      (.seq (.block 1 (
        sr F76r4
        (sr F76r5
        (cd 14
          (sr F76r6
          (.ret))
          (.skip)))))
      (rg F76r7)))))))
  (sr F76r8
  (.ret))))⟩
theorem F76_ok : cFunc Tryd.prog 76 = some F76 := by kernel_rfl
theorem F76_call : callable Tryd.prog 76 = true := by kernel_rfl
def F77r0 : RL := [oo 4 (.mov (ci 0))]
def F77r1 : RL := [oo 7 (ms 0),
 oo 8 (cl 106 [.s 7]),
 oo 5 (ms 8)]
def F77r2 : RL := [oo 9 (ms 1),
 oo 10 (cl 106 [.s 9]),
 oo 6 (ms 10)]
def F77r3 : RL := [oo 11 (ms 5)]
def F77r4 : RL := [oo 12 (ms 6)]
def F77r5 : RL := [oo 4 (.mov (ci 0))]
def F77r6 : RL := [oo 4 (.mov (ci (-1)))]
def F77r7 : RL := [oo 13 (ms 6)]
def F77r8 : RL := [oo 4 (.mov (ci 1))]
def F77r9 : RL := [oo 14 (ms 0),
 oo 15 (ms 1),
 oo 16 (bi .lss (.s 14) (.s 15))]
def F77r10 : RL := [oo 4 (.mov (ci (-1)))]
def F77r11 : RL := [oo 17 (ms 0),
 oo 18 (ms 1),
 oo 19 (bi .gtr (.s 17) (.s 18))]
def F77r12 : RL := [oo 4 (.mov (ci 1))]
def F77r13 : RL := [oo 4 (.mov (ci 0))]
def F77 : AFn := ⟨20, [.tmp 4],
  sr F77r0
  (sr F77r1
  (sr F77r2
  (.seq (sr F77r3
  (cd 11
    (.seq (sr F77r4
    (cd 12
      (sr F77r5
      (.ret))
      (.skip)))
    (sr F77r6
    (.ret)))
    (.skip)))
  (.seq (sr F77r7
  (cd 13
    (sr F77r8
    (.ret))
    (.skip)))
  (.seq (sr F77r9
  (cd 16
    (sr F77r10
    (.ret))
    (.skip)))
  (.seq (sr F77r11
  (cd 19
    (sr F77r12
    (.ret))
    (.skip)))
  (sr F77r13
  (.ret))))))))⟩
theorem F77_ok : cFunc Tryd.prog 77 = some F77 := by kernel_rfl
theorem F77_call : callable Tryd.prog 77 = true := by kernel_rfl
def F78r0 : RL := [oo 2 (.mov (ci 0))]
def F78r1 : RL := [oo 3 (ms 0),
 oo 4 (bi .geq (.s 3) (.c (.v (.int .u64 4294967296))))]
def F78r2 : RL := [oo 5 (ms 0),
 oo 6 (bi .shr (.s 5) (.c (.v (.int .u64 32)))),
 oo 0 (ms 6)]
def F78r3 : RL := [oo 2 (.mov (ci 32))]
def F78r4 : RL := [oo 7 (ms 0),
 oo 8 (bi .geq (.s 7) (.c (.v (.int .u64 65536))))]
def F78r5 : RL := [oo 9 (ms 0),
 oo 10 (bi .shr (.s 9) (.c (.v (.int .u64 16)))),
 oo 0 (ms 10)]
def F78r6 : RL := [oo 11 (ms 2),
 oo 12 (bi .add (.s 11) (ci 16)),
 oo 2 (ms 12)]
def F78r7 : RL := [oo 13 (ms 0),
 oo 14 (bi .geq (.s 13) (.c (.v (.int .u64 256))))]
def F78r8 : RL := [oo 15 (ms 0),
 oo 16 (bi .shr (.s 15) (.c (.v (.int .u64 8)))),
 oo 0 (ms 16)]
def F78r9 : RL := [oo 17 (ms 2),
 oo 18 (bi .add (.s 17) (ci 8)),
 oo 2 (ms 18)]
def F78r10 : RL := [oo 19 (ms 2),
 oo 20 (ms 0),
 oo 21 (.conv .u8 (.s 20)),
 oo 22 (.six (.c (.v (.string ⟨#[0, 1, 2, 2, 3, 3, 3, 3, 4, 4, 4, 4, 4, 4, 4, 4, 5, 5, 5, 5, 5, 5, 5, 5, 5, 5, 5, 5, 5, 5, 5, 5, 6, 6, 6, 6, 6, 6, 6, 6, 6, 6, 6, 6, 6, 6, 6, 6, 6, 6, 6, 6, 6, 6, 6, 6, 6, 6, 6, 6, 6, 6, 6, 6, 7, 7, 7, 7, 7, 7, 7, 7, 7, 7, 7, 7, 7, 7, 7, 7, 7, 7, 7, 7, 7, 7, 7, 7, 7, 7, 7, 7, 7, 7, 7, 7, 7, 7, 7, 7, 7, 7, 7, 7, 7, 7, 7, 7, 7, 7, 7, 7, 7, 7, 7, 7, 7, 7, 7, 7, 7, 7, 7, 7, 7, 7, 7, 7, 8, 8, 8, 8, 8, 8, 8, 8, 8, 8, 8, 8, 8, 8, 8, 8, 8, 8, 8, 8, 8, 8, 8, 8, 8, 8, 8, 8, 8, 8, 8, 8, 8, 8, 8, 8, 8, 8, 8, 8, 8, 8, 8, 8, 8, 8, 8, 8, 8, 8, 8, 8, 8, 8, 8, 8, 8, 8, 8, 8, 8, 8, 8, 8, 8, 8, 8, 8, 8, 8, 8, 8, 8, 8, 8, 8, 8, 8, 8, 8, 8, 8, 8, 8, 8, 8, 8, 8, 8, 8, 8, 8, 8, 8, 8, 8, 8, 8, 8, 8, 8, 8, 8, 8, 8, 8, 8, 8, 8, 8, 8, 8, 8, 8, 8, 8, 8, 8, 8, 8, 8, 8, 8, 8, 8, 8, 8, 8]⟩))) (.s 21)),
 oo 23 (.conv .i64 (.s 22)),
 oo 24 (bi .add (.s 19) (.s 23)),
 oo 2 (ms 24)]
def F78 : AFn := ⟨25, [.tmp 2],
  sr F78r0
  (.seq (sr F78r1
  (cd 4
    (sr F78r2
    (rg F78r3))
    (.skip)))
  (.seq (sr F78r4
  (cd 8
    (sr F78r5
    (rg F78r6))
    (.skip)))
  (.seq (sr F78r7
  (cd 14
    (sr F78r8
    (rg F78r9))
    (.skip)))
  (sr F78r10
  (.ret)))))⟩
theorem F78_ok : cFunc Tryd.prog 78 = some F78 := by kernel_rfl
theorem F78_call : callable Tryd.prog 78 = true := by kernel_rfl
def F79r0 : RL := [oo 2 (.mov (ci 0))]
def F79r1 : RL := [oo 3 (ms 0),
 oo 4 (bi .eql (.s 3) (.c (.v (.int .u64 0))))]
def F79r2 : RL := [oo 2 (.mov (ci 64))]
def F79r3 : RL := [oo 5 (ms 0),
 oo 6 (ms 0),
 oo 7 (.un .neg (.s 6)),
 oo 8 (bi .and (.s 5) (.s 7)),
 oo 9 (bi .mul (.s 8) (.c (.v (.int .u64 285870213051353865)))),
 oo 10 (bi .shr (.s 9) (.c (.v (.int .u64 58)))),
 oo 11 (.iap 1 64 (.c (.pim [.v (.int .u8 0), .v (.int .u8 1), .v (.int .u8 56), .v (.int .u8 2), .v (.int .u8 57), .v (.int .u8 49), .v (.int .u8 28), .v (.int .u8 3), .v (.int .u8 61), .v (.int .u8 58), .v (.int .u8 42), .v (.int .u8 50), .v (.int .u8 38), .v (.int .u8 29), .v (.int .u8 17), .v (.int .u8 4), .v (.int .u8 62), .v (.int .u8 47), .v (.int .u8 59), .v (.int .u8 36), .v (.int .u8 45), .v (.int .u8 43), .v (.int .u8 51), .v (.int .u8 22), .v (.int .u8 53), .v (.int .u8 39), .v (.int .u8 33), .v (.int .u8 30), .v (.int .u8 24), .v (.int .u8 18), .v (.int .u8 12), .v (.int .u8 5), .v (.int .u8 63), .v (.int .u8 55), .v (.int .u8 48), .v (.int .u8 27), .v (.int .u8 60), .v (.int .u8 41), .v (.int .u8 37), .v (.int .u8 16), .v (.int .u8 46), .v (.int .u8 35), .v (.int .u8 44), .v (.int .u8 21), .v (.int .u8 52), .v (.int .u8 32), .v (.int .u8 23), .v (.int .u8 11), .v (.int .u8 54), .v (.int .u8 26), .v (.int .u8 40), .v (.int .u8 15), .v (.int .u8 34), .v (.int .u8 20), .v (.int .u8 31), .v (.int .u8 10), .v (.int .u8 25), .v (.int .u8 14), .v (.int .u8 19), .v (.int .u8 9), .v (.int .u8 13), .v (.int .u8 8), .v (.int .u8 7), .v (.int .u8 6)] 0)) (.s 10)),
 oo 12 (ld 11),
 oo 13 (.conv .i64 (.s 12)),
 oo 2 (ms 13)]
def F79 : AFn := ⟨14, [.tmp 2],
  sr F79r0
  (.seq (sr F79r1
  (cd 4
    (sr F79r2
    (.ret))
    (.skip)))
  (sr F79r3
  (.ret)))⟩
theorem F79_ok : cFunc Tryd.prog 79 = some F79 := by kernel_rfl
theorem F79_call : callable Tryd.prog 79 = true := by kernel_rfl
def F92r0 : RL := [oo 5 (ms 0),
 oo 6 (.len false (.s 5)),
 oo 4 (ms 6)]
def F92r1 : RL := [oo 7 (ms 0),
 oo 8 (ms 4),
 oo 9 (ms 4),
 oo 10 (.conv .u64 (.s 9)),
 oo 11 (cl 118 [.s 10]),
 oo 12 (ms 1),
 oo 13 (cl 117 [.s 7, ci 0, .s 8, .s 11, .s 12])]
def F92 : AFn := ⟨14, [],
  sr F92r0
  (rg F92r1)⟩
theorem F92_ok : cFunc Tryd.prog 92 = some F92 := by kernel_rfl
def F93r0 : RL := [oo 4 (.mov (ci 0))]
def F93r1 : RL := [oo 5 (ms 1),
 oo 6 (ms 0),
 oo 7 (bi .sub (.s 5) (.s 6)),
 oo 4 (ms 7)]
def F93 : AFn := ⟨8, [.tmp 4],
  sr F93r0
  (sr F93r1
  (.ret))⟩
theorem F93_ok : cFunc Tryd.prog 93 = some F93 := by kernel_rfl
def F94r0 : RL := [oo 6 (.mov (ci 0))]
def F94r1 : RL := [oo 10 (ms 0),
 oo 11 (.nilc (.s 10)),
 oo 12 (fd 0 11),
 oo 13 (fd 3 12),
 oo 14 (ld 13),
 oo 15 (.len false (.s 14)),
 oo 16 (bi .eql (.s 15) (ci 31))]
def F94r2 : RL := [oo 6 (.mov (ci 2))]
def F94r3 : RL := [oo 18 (ms 0),
 oo 19 (.nilc (.s 18)),
 oo 20 (fd 0 19),
 oo 21 (fd 0 20),
 oo 22 (lq 2 21),
 oo 23 (ms 0),
 oo 24 (.nilc (.s 23)),
 oo 25 (fd 0 24),
 oo 26 (fd 3 25),
 oo 27 (ld 26),
 oo 28 (.len false (.s 27)),
 oo 29 (ms 1),
 oo 30 (ms 2),
 oo 31 (cl 119 [.s 22, .s 28, .s 29, .s 30]),
 oo 17 (ms 31),
 oo 32 (.ext 0 (.s 17)),
 oo 33 (.ext 1 (.s 17)),
 oo 34 (.ext 2 (.s 17)),
 oo 7 (.new [zi 0, zi 0, zi 0, zs, zi 0, zi 0, zs, .v (.int .u64 0)]),
 ow (.store 8 (.s 7) (.s 32)),
 oo 8 (ms 33),
 oo 9 (ms 34)]
def F94r4 : RL := [oo 35 (ms 9),
 oo 36 (bi .neq (.s 35) (ci 0))]
def F94r5 : RL := [oo 37 (ms 9),
 oo 6 (ms 37)]
def F94r6 : RL := [oo 38 (ms 0),
 oo 39 (ms 0),
 oo 40 (.nilc (.s 39)),
 oo 41 (fd 0 40),
 oo 42 (fd 3 41),
 oo 43 (ld 42),
 oo 44 (lq 8 7),
 oo 45 (.bsl 8 1 [zi 0, zi 0, zi 0, zs, zi 0, zi 0, zs, .v (.int .u64 0)] [(0, .s 44)]),
 oo 46 (.app 8 80 (.s 43) (.s 45)),
 oo 47 (.nilc (.s 38)),
 oo 48 (fd 0 47),
 oo 49 (fd 3 48),
 ow (.store 1 (.s 49) (.s 46))]
def F94r7 : RL := [oo 50 (ms 0),
 oo 51 (ms 0),
 oo 52 (.nilc (.s 51)),
 oo 53 (fd 0 52),
 oo 54 (fd 4 53),
 oo 55 (ld 54),
 oo 56 (ms 0),
 oo 57 (.nilc (.s 56)),
 oo 58 (fd 0 57),
 oo 59 (fd 6 58),
 oo 60 (ld 59),
 oo 61 (.agg [zi 0, zi 0] [(0, (1, .s 60))]),
 oo 62 (.bsl 2 1 [zi 0, zi 0] [(0, .s 61)]),
 oo 63 (.app 2 16 (.s 55) (.s 62)),
 oo 64 (.nilc (.s 50)),
 oo 65 (fd 0 64),
 oo 66 (fd 4 65),
 ow (.store 1 (.s 66) (.s 63))]
def F94r8 : RL := [oo 67 (ms 0),
 oo 68 (ms 8),
 oo 69 (cl 95 [.s 67, .s 68]),
 oo 6 (ms 69)]
def F94 : AFn := ⟨70, [.tmp 6],
  sr F94r0
  (.seq (sr F94r1
  (cd 16
    (sr F94r2
    (.ret))
    (.skip)))
  (.seq (.reg F94r3 (some [[], [0], [1, 0], [2, 1, 0], [3, 2, 1, 0], [], [5], [6, 5], [7, 6, 5], [8, 7, 6, 5], [9, 8, 7, 6, 5], [], [], [4, 10, 11, 12, 3, 2, 1, 0, 9, 8, 7, 6, 5], [13, 4, 10, 11, 12, 3, 2, 1, 0, 9, 8, 7, 6, 5], [14, 13, 4, 10, 11, 12, 3, 2, 1, 0, 9, 8, 7, 6, 5], [14, 13, 4, 10, 11, 12, 3, 2, 1, 0, 9, 8, 7, 6, 5], [14, 13, 4, 10, 11, 12, 3, 2, 1, 0, 9, 8, 7, 6, 5], [], [18, 15, 13, 0, 1, 2, 3, 4, 5, 6, 7, 8, 9, 10, 11, 12, 14], [16, 19, 0, 1, 2, 3, 4, 5, 6, 7, 8, 9, 10, 11, 12, 13, 14, 15, 18], [17, 20, 0, 1, 2, 3, 4, 5, 6, 7, 8, 9, 10, 11, 12, 13, 14, 15, 16, 18, 19]]))
  (.seq (sr F94r4
  (cd 36
    (sr F94r5
    (.ret))
    (.skip)))
  (.seq (.reg F94r6 (some [[], [], [1], [2, 1], [3, 2, 1], [4, 3, 2, 1], [], [6], [5, 7, 4, 3, 2, 1, 6], [0, 1, 2, 3, 4, 5, 6, 7, 8], [9, 0, 1, 2, 3, 4, 5, 6, 7, 8], [10, 0, 1, 2, 3, 4, 5, 6, 7, 8, 9], [11, 8, 0, 1, 2, 3, 4, 5, 6, 7, 10, 9]]))
  (.seq (.reg F94r7 (some [[], [], [1], [2, 1], [3, 2, 1], [4, 3, 2, 1], [], [6], [7, 6], [8, 7, 6], [9, 8, 7, 6], [10, 9, 8, 7, 6], [11, 10, 9, 8, 7, 6], [5, 12, 4, 3, 2, 1, 11, 10, 9, 8, 7, 6], [0, 1, 2, 3, 4, 5, 6, 7, 8, 9, 10, 11, 12, 13], [14, 0, 1, 2, 3, 4, 5, 6, 7, 8, 9, 10, 11, 12, 13], [15, 0, 1, 2, 3, 4, 5, 6, 7, 8, 9, 10, 11, 12, 13, 14], [16, 13, 0, 1, 2, 3, 4, 5, 6, 7, 8, 9, 10, 11, 12, 15, 14]]))
  (sr F94r8
  (.ret)))))))⟩
theorem F94_ok : cFunc Tryd.prog 94 = some F94 := by kernel_rfl
theorem F94_call : callable Tryd.prog 94 = true := by kernel_rfl
def F95r0 : RL := [oo 4 (.mov (ci 0))]
def F95r1 : RL := [oo 5 (ms 0),
 oo 6 (ms 0),
 oo 7 (.nilc (.s 6)),
 oo 8 (fd 0 7),
 oo 9 (fd 5 8),
 oo 10 (ld 9),
 oo 11 (ms 1),
 oo 12 (.app 6 56 (.s 10) (.s 11)),
 oo 13 (.nilc (.s 5)),
 oo 14 (fd 0 13),
 oo 15 (fd 5 14),
 ow (.store 1 (.s 15) (.s 12))]
def F95r2 : RL := [oo 16 (ms 0),
 oo 17 (.nilc (.s 16)),
 oo 18 (fd 0 17),
 oo 19 (fd 5 18),
 oo 20 (ld 19),
 oo 21 (.len false (.s 20)),
 oo 22 (bi .gtr (.s 21) (ci 200))]
def F95r3 : RL := [oo 4 (.mov (ci 2))]
def F95r4 : RL := [oo 4 (.mov (ci 0))]
def F95 : AFn := ⟨23, [.tmp 4],
  sr F95r0
  (sr F95r1
  (.seq (sr F95r2
  (cd 22
    (sr F95r3
    (.ret))
    (.skip)))
  (sr F95r4
  (.ret))))⟩
theorem F95_ok : cFunc Tryd.prog 95 = some F95 := by kernel_rfl
theorem F95_call : callable Tryd.prog 95 = true := by kernel_rfl
def F96r0 : RL := [oo 6 (.mov (.c .emp))]
def F96r1 : RL := [oo 8 (ms 0),
 oo 9 (ms 1),
 oo 10 (ms 2),
 oo 11 (ms 0),
 oo 12 (.len false (.s 11)),
 oo 13 (.slc 6 (.s 8) (some (.s 9)) (some (.s 10)) (some (.s 12)))]
def F96r2 : RL := [oo 14 (ms 1),
 oo 15 (ms 2),
 oo 16 (bi .eql (.s 14) (.s 15))]
def F96r3 : RL := [oo 17 (ms 0),
 oo 6 (ms 17)]
def F96r4 : RL := [oo 18 (ms 0),
 oo 19 (.len false (.s 18)),
 oo 7 (ms 19)]
def F96r5 : RL := [oo 20 (ms 0),
 oo 21 (ms 1),
 oo 22 (.slc 6 (.s 20) none (some (.s 21)) none),
 oo 23 (ms 0),
 oo 24 (ms 2),
 oo 25 (.slc 6 (.s 23) (some (.s 24)) none none),
 oo 26 (.app 6 56 (.s 22) (.s 25)),
 oo 0 (ms 26)]
def F96r6 : RL := [oo 27 (ms 0),
 oo 28 (ms 0),
 oo 29 (.len false (.s 28)),
 oo 30 (ms 7),
 oo 31 (.slc 6 (.s 27) (some (.s 29)) (some (.s 30)) none),
 ow (.clr [zi 0, zi 0, zi 0, zi 0, zi 0, zs] (.s 31))]
def F96r7 : RL := [oo 32 (ms 0),
 oo 6 (ms 32)]
def F96 : AFn := ⟨33, [.tmp 6],
  sr F96r0
  (sr F96r1
  (.seq (sr F96r2
  (cd 16
    (sr F96r3
    (.ret))
    (.skip)))
  (sr F96r4
  (.seq (.reg F96r5 (some [[], [], [0, 1], [], [], [3, 4], [2, 5, 0, 1, 3, 4], [6, 0, 1, 2, 3, 4, 5]]))
  (sr F96r6
  (sr F96r7
  (.ret)))))))⟩
theorem F96_ok : cFunc Tryd.prog 96 = some F96 := by kernel_rfl
theorem F96_call : callable Tryd.prog 96 = true := by kernel_rfl
def F97r0 : RL := [oo 3 (.box 6 (.s 1)),
 oo 4 (.mov (ci 0))]
def F97r1 : RL := [oo 5 (.mov (.c .emp))]
def F97r2 : RL := [oo 8 (fd 0 3),
 oo 9 (ld 8)]
def F97r3 : RL := [oo 66 (bi .eql (.s 9) (ci 1)),
 oo 65 (ms 66)]
def F97r4 : RL := [oo 67 (bi .eql (.s 9) (ci 3)),
 oo 65 (ms 67)]
def F97r5 : RL := [oo 69 (ms 0),
 oo 70 (.nilc (.s 69)),
 oo 71 (fd 0 70),
 oo 72 (fd 2 71),
 oo 73 (ld 72),
 oo 74 (fd 2 3),
 oo 75 (ld 74),
 oo 76 (ms 0),
 oo 77 (.nilc (.s 76)),
 oo 78 (fd 0 77),
 oo 79 (fd 2 78),
 oo 80 (ld 79),
 oo 81 (fd 2 3),
 oo 82 (ld 81),
 oo 83 (.iad 3 (.s 80) (.s 82)),
 oo 84 (lq 3 83),
 oo 85 (lq 6 3),
 oo 86 (cl 120 [.s 84, .s 85]),
 oo 68 (ms 86),
 oo 87 (.ext 0 (.s 68)),
 oo 88 (.ext 1 (.s 68)),
 oo 89 (.ext 2 (.s 68)),
 oo 90 (.iad 3 (.s 73) (.s 75)),
 ow (.store 3 (.s 90) (.s 87)),
 oo 5 (ms 88)]
def F97r6 : RL := [oo 10 (ms 0),
 oo 11 (.nilc (.s 10)),
 oo 12 (fd 0 11),
 oo 13 (fd 3 12),
 oo 14 (ld 13),
 oo 15 (fd 1 3),
 oo 16 (ld 15),
 oo 17 (.iad 8 (.s 14) (.s 16)),
 oo 6 (ms 17)]
def F97r7 : RL := [oo 18 (ms 6),
 oo 19 (.nilc (.s 18)),
 oo 20 (fd 2 19),
 oo 21 (ld 20),
 oo 7 (ms 21)]
def F97r8 : RL := [oo 23 (ms 6),
 oo 24 (ms 0),
 oo 25 (.nilc (.s 24)),
 oo 26 (fd 0 25),
 oo 27 (fd 0 26),
 oo 28 (lq 2 27),
 oo 29 (ms 6),
 oo 30 (.nilc (.s 29)),
 oo 31 (lq 8 30),
 oo 32 (lq 6 3),
 oo 33 (cl 121 [.s 28, .s 31, .s 32]),
 oo 22 (ms 33),
 oo 34 (.ext 0 (.s 22)),
 oo 35 (.ext 1 (.s 22)),
 oo 36 (.ext 2 (.s 22)),
 oo 37 (.nilc (.s 23)),
 ow (.store 8 (.s 37) (.s 34)),
 oo 5 (ms 35)]
def F97r9 : RL := [oo 38 (ms 6),
 oo 39 (.nilc (.s 38)),
 oo 40 (fd 2 39),
 oo 41 (ld 40),
 oo 42 (bi .eql (.s 41) (ci 3)),
 oo 43 (ms 42),
 ot 44 (ms 7) 43,
 ot 45 (ms 6) 43,
 ot 46 (.nilc (.s 45)) 43,
 ot 47 (fd 2 46) 43,
 ot 48 (ld 47) 43,
 ot 49 (bi .neq (.s 44) (.s 48)) 43,
 oo 50 (.pick (.s 43) (.s 49) cF)]
def F97r10 : RL := [oo 51 (ms 0),
 oo 52 (.nilc (.s 51)),
 oo 53 (fd 0 52),
 oo 54 (fd 4 53),
 oo 55 (ld 54),
 oo 56 (fd 1 3),
 oo 57 (ld 56),
 oo 58 (ms 0),
 oo 59 (.nilc (.s 58)),
 oo 60 (fd 0 59),
 oo 61 (fd 6 60),
 oo 62 (ld 61),
 oo 63 (.iad 2 (.s 55) (.s 57)),
 oo 64 (fd 1 63),
 ow (.store 1 (.s 64) (.s 62))]
def F97r11 : RL := [oo 91 (ms 0),
 oo 92 (ms 5),
 oo 93 (cl 95 [.s 91, .s 92]),
 oo 4 (ms 93)]
def F97 : AFn := ⟨94, [.tmp 4],
  sr F97r0
  (sr F97r1
  (.seq (sr F97r2
  (.block 0 (
    .seq (sr F97r3
    (cd 65
      (.skip)
      (rg F97r4)))
    (cd 65
      (.reg F97r5 (some [[], [0], [1, 0], [2, 1, 0], [3, 2, 1, 0], [], [5], [], [7], [8, 7], [9, 8, 7], [10, 9, 8, 7], [], [12], [11, 13, 10, 9, 8, 7, 12], [14, 11, 13, 10, 9, 8, 7, 12], [], [15, 16, 14, 11, 13, 10, 9, 8, 7, 12], [17, 15, 16, 14, 11, 13, 10, 9, 8, 7, 12], [18, 17, 15, 16, 14, 11, 13, 10, 9, 8, 7, 12], [18, 17, 15, 16, 14, 11, 13, 10, 9, 8, 7, 12], [18, 17, 15, 16, 14, 11, 13, 10, 9, 8, 7, 12], [4, 6, 0, 1, 2, 3, 5, 7, 8, 9, 10, 11, 12, 13, 14, 15, 16, 17, 18, 19], [22, 19, 17, 0, 1, 2, 3, 4, 5, 6, 7, 8, 9, 10, 11, 12, 13, 14, 15, 16, 18], [20, 23, 0, 1, 2, 3, 4, 5, 6, 7, 8, 9, 10, 11, 12, 13, 14, 15, 16, 17, 18, 19, 22]]))
      (.seq (.reg F97r6 (some [[], [0], [1, 0], [2, 1, 0], [3, 2, 1, 0], [], [5], [4, 6, 3, 2, 1, 0, 5], [7, 0, 1, 2, 3, 4, 5, 6]]))
      (sr F97r7
      (.seq (.reg F97r8 (some [[], [], [1], [2, 1], [3, 2, 1], [4, 3, 2, 1], [], [6], [7, 6], [], [5, 8, 9, 4, 3, 2, 1, 7, 6], [10, 5, 8, 9, 4, 3, 2, 1, 7, 6], [11, 10, 5, 8, 9, 4, 3, 2, 1, 7, 6], [11, 10, 5, 8, 9, 4, 3, 2, 1, 7, 6], [11, 10, 5, 8, 9, 4, 3, 2, 1, 7, 6], [0, 1, 2, 3, 4, 5, 6, 7, 8, 9, 10, 11, 12], [15, 12, 10, 0, 1, 2, 3, 4, 5, 6, 7, 8, 9, 11], [13, 16, 0, 1, 2, 3, 4, 5, 6, 7, 8, 9, 10, 11, 12, 15]]))
      (sr F97r9
      (cd 50
        (.reg F97r10 (some [[], [0], [1, 0], [2, 1, 0], [3, 2, 1, 0], [], [5], [], [7], [8, 7], [9, 8, 7], [10, 9, 8, 7], [4, 6, 0, 1, 2, 3, 5, 7, 8, 9, 10, 11], [12, 0, 1, 2, 3, 4, 5, 6, 7, 8, 9, 10, 11], [13, 11, 0, 1, 2, 3, 4, 5, 6, 7, 8, 9, 10, 12]]))
        (.skip))))))))))
  (sr F97r11
  (.ret))))⟩
theorem F97_ok : cFunc Tryd.prog 97 = some F97 := by kernel_rfl
theorem F97_call : callable Tryd.prog 97 = true := by kernel_rfl
def F102r0 : RL := [oo 2 (.mov cF)]
def F102r1 : RL := [oo 3 (ms 0),
 oo 4 (bi .geq (.s 3) (ci 0)),
 oo 5 (ms 4),
 ot 6 (ms 0) 5,
 ot 7 (bi .leq (.s 6) (ci 31)) 5,
 oo 8 (.pick (.s 5) (.s 7) cF),
 oo 2 (ms 8)]
def F102 : AFn := ⟨9, [.tmp 2],
  sr F102r0
  (sr F102r1
  (.ret))⟩
theorem F102_ok : cFunc Tryd.prog 102 = some F102 := by kernel_rfl
theorem F102_call : callable Tryd.prog 102 = true := by kernel_rfl
def F103r0 : RL := [oo 6 (.mov cF)]
def F103r1 : RL := [oo 7 (ms 0),
 oo 8 (ms 1),
 oo 9 (bi .geq (.s 7) (.s 8)),
 oo 10 (ms 9),
 ot 11 (ms 0) 10,
 ot 12 (ms 2) 10,
 ot 13 (bi .leq (.s 11) (.s 12)) 10,
 oo 14 (.pick (.s 10) (.s 13) cF),
 oo 6 (ms 14)]
def F103 : AFn := ⟨15, [.tmp 6],
  sr F103r0
  (sr F103r1
  (.ret))⟩
theorem F103_ok : cFunc Tryd.prog 103 = some F103 := by kernel_rfl
theorem F103_call : callable Tryd.prog 103 = true := by kernel_rfl
def F104r0 : RL := [oo 2 (.mov cF)]
def F104r1 : RL := [oo 3 (ms 0),
 oo 4 (bi .geq (.s 3) (ci 1)),
 oo 5 (ms 4),
 ot 6 (ms 0) 5,
 ot 7 (bi .leq (.s 6) (ci 4)) 5,
 oo 8 (.pick (.s 5) (.s 7) cF),
 oo 2 (ms 8)]
def F104 : AFn := ⟨9, [.tmp 2],
  sr F104r0
  (sr F104r1
  (.ret))⟩
theorem F104_ok : cFunc Tryd.prog 104 = some F104 := by kernel_rfl
theorem F104_call : callable Tryd.prog 104 = true := by kernel_rfl
def F105r0 : RL := [oo 2 (.mov cF)]
def F105r1 : RL := [oo 3 (ms 0),
 oo 4 (bi .eql (.s 3) (ci 2)),
 oo 5 (ms 4),
 on 6 (ms 0) 5,
 on 7 (bi .eql (.s 6) (ci 3)) 5,
 oo 8 (.pick (.s 5) cT (.s 7)),
 oo 2 (ms 8)]
def F105 : AFn := ⟨9, [.tmp 2],
  sr F105r0
  (sr F105r1
  (.ret))⟩
theorem F105_ok : cFunc Tryd.prog 105 = some F105 := by kernel_rfl
theorem F105_call : callable Tryd.prog 105 = true := by kernel_rfl
def F106r0 : RL := [oo 2 (.mov cF)]
def F106r1 : RL := [oo 3 (ms 0),
 oo 4 (ms 0),
 oo 5 (bi .neq (.s 3) (.s 4)),
 oo 2 (ms 5)]
def F106 : AFn := ⟨6, [.tmp 2],
  sr F106r0
  (sr F106r1
  (.ret))⟩
theorem F106_ok : cFunc Tryd.prog 106 = some F106 := by kernel_rfl
theorem F106_call : callable Tryd.prog 106 = true := by kernel_rfl
def F117r0 : RL := [oo 10 (.mov cT)]
def F117r1 : RL := [oo 11 (.mov cT)]
def F117r2 : RL := [oo 21 (ms 2),
 oo 22 (ms 1),
 oo 23 (bi .sub (.s 21) (.s 22)),
 oo 12 (ms 23)]
def F117r3 : RL := [oo 24 (ms 12),
 oo 25 (bi .leq (.s 24) (ci 12))]
def F117r4 : RL := [oo 26 (ms 0),
 oo 27 (ms 1),
 oo 28 (ms 2),
 oo 29 (ms 4),
 oo 30 (cl 128 [.s 26, .s 27, .s 28, .s 29])]
def F117r5 : RL := [oo 31 (ms 3),
 oo 32 (bi .eql (.s 31) (ci 0))]
def F117r6 : RL := [oo 33 (ms 0),
 oo 34 (ms 1),
 oo 35 (ms 2),
 oo 36 (ms 4),
 oo 37 (cl 129 [.s 33, .s 34, .s 35, .s 36])]
def F117r7 : RL := [oo 38 (ms 10),
 oo 39 (.un .not (.s 38))]
def F117r8 : RL := [oo 40 (ms 0),
 oo 41 (ms 1),
 oo 42 (ms 2),
 oo 43 (ms 4),
 oo 44 (cl 130 [.s 40, .s 41, .s 42, .s 43])]
def F117r9 : RL := [oo 45 (ms 3),
 oo 46 (bi .sub (.s 45) (ci 1)),
 oo 3 (ms 46)]
def F117r10 : RL := [oo 48 (ms 0),
 oo 49 (ms 1),
 oo 50 (ms 2),
 oo 51 (ms 4),
 oo 52 (cl 131 [.s 48, .s 49, .s 50, .s 51]),
 oo 47 (ms 52),
 oo 53 (.ext 0 (.s 47)),
 oo 54 (.ext 1 (.s 47)),
 oo 13 (ms 53),
 oo 14 (ms 54)]
def F117r11 : RL := [oo 55 (ms 14),
 oo 56 (bi .eql (.s 55) (ci 2))]
def F117r12 : RL := [oo 57 (ms 0),
 oo 58 (ms 1),
 oo 59 (ms 2),
 oo 60 (ms 4),
 oo 61 (cl 132 [.s 57, .s 58, .s 59, .s 60])]
def F117r13 : RL := [oo 62 (ms 2),
 oo 63 (bi .sub (.s 62) (ci 1)),
 oo 64 (ms 13),
 oo 65 (ms 1),
 oo 66 (bi .sub (.s 64) (.s 65)),
 oo 67 (bi .sub (.s 63) (.s 66)),
 oo 13 (ms 67)]
def F117r14 : RL := [oo 14 (.mov (ci 1))]
def F117r15 : RL := [oo 68 (ms 10),
 oo 69 (ms 68),
 ot 70 (ms 11) 69,
 oo 71 (.pick (.s 69) (.s 70) cF),
 oo 72 (ms 71),
 ot 73 (ms 14) 72,
 ot 74 (bi .eql (.s 73) (ci 1)) 72,
 oo 75 (.pick (.s 72) (.s 74) cF)]
def F117r16 : RL := [oo 76 (ms 0),
 oo 77 (ms 1),
 oo 78 (ms 2),
 oo 79 (ms 4),
 oo 80 (cl 133 [.s 76, .s 77, .s 78, .s 79])]
def F117r17 : RL := [oo 81 (ms 1),
 oo 82 (bi .gtr (.s 81) (ci 0)),
 oo 83 (ms 82),
 ot 84 (ms 4) 83,
 ot 85 (ms 0) 83,
 ot 86 (ms 1) 83,
 ot 87 (bi .sub (.s 86) (ci 1)) 83,
 ot 88 (.iad 1 (.s 85) (.s 87)) 83,
 ot 89 (ld 88) 83,
 ot 90 (ms 0) 83,
 ot 91 (ms 13) 83,
 ot 92 (.iad 1 (.s 90) (.s 91)) 83,
 ot 93 (ld 92) 83,
 ot 94 (.call (.s 84) [.s 89, .s 93]) 83,
 ot 95 (bi .lss (.s 94) (ci 0)) 83,
 ot 96 (.un .not (.s 95)) 83,
 oo 97 (.pick (.s 83) (.s 96) cF)]
def F117r18 : RL := [oo 98 (ms 0),
 oo 99 (ms 1),
 oo 100 (ms 2),
 oo 101 (ms 13),
 oo 102 (ms 4),
 oo 103 (cl 134 [.s 98, .s 99, .s 100, .s 101, .s 102]),
 oo 15 (ms 103)]
def F117r19 : RL := [oo 104 (ms 15),
 oo 1 (ms 104)]
def F117r20 : RL := [oo 106 (ms 0),
 oo 107 (ms 1),
 oo 108 (ms 2),
 oo 109 (ms 13),
 oo 110 (ms 4),
 oo 111 (cl 135 [.s 106, .s 107, .s 108, .s 109, .s 110]),
 oo 105 (ms 111),
 oo 112 (.ext 0 (.s 105)),
 oo 113 (.ext 1 (.s 105)),
 oo 16 (ms 112),
 oo 17 (ms 113)]
def F117r21 : RL := [oo 114 (ms 17),
 oo 11 (ms 114)]
def F117r22 : RL := [oo 115 (ms 16),
 oo 116 (ms 1),
 oo 117 (bi .sub (.s 115) (.s 116)),
 oo 118 (ms 2),
 oo 119 (ms 16),
 oo 120 (bi .sub (.s 118) (.s 119)),
 oo 18 (ms 117),
 oo 19 (ms 120)]
def F117r23 : RL := [oo 121 (ms 12),
 oo 122 (bi .quo (.s 121) (ci 8)),
 oo 20 (ms 122)]
def F117r24 : RL := [oo 123 (ms 18),
 oo 124 (ms 19),
 oo 125 (bi .lss (.s 123) (.s 124))]
def F117r25 : RL := [oo 126 (ms 18),
 oo 127 (ms 20),
 oo 128 (bi .geq (.s 126) (.s 127)),
 oo 10 (ms 128)]
def F117r26 : RL := [oo 129 (ms 0),
 oo 130 (ms 1),
 oo 131 (ms 16),
 oo 132 (ms 3),
 oo 133 (ms 4),
 oo 134 (cl 117 [.s 129, .s 130, .s 131, .s 132, .s 133])]
def F117r27 : RL := [oo 135 (ms 16),
 oo 136 (bi .add (.s 135) (ci 1)),
 oo 1 (ms 136)]
def F117r28 : RL := [oo 137 (ms 19),
 oo 138 (ms 20),
 oo 139 (bi .geq (.s 137) (.s 138)),
 oo 10 (ms 139)]
def F117r29 : RL := [oo 140 (ms 0),
 oo 141 (ms 16),
 oo 142 (bi .add (.s 141) (ci 1)),
 oo 143 (ms 2),
 oo 144 (ms 3),
 oo 145 (ms 4),
 oo 146 (cl 117 [.s 140, .s 142, .s 143, .s 144, .s 145])]
def F117r30 : RL := [oo 147 (ms 16),
 oo 2 (ms 147)]
def F117 : AFn := ⟨148, [],
  sr F117r0
  (sr F117r1
  (.block 0 (
    .loop (
      .block 1 (
        sr F117r2
        (.seq (sr F117r3
        (cd 25
          (sr F117r4
          (.ret))
          (.skip)))
        (.seq (sr F117r5
        (cd 32
          (sr F117r6
          (.ret))
          (.skip)))
        (.seq (sr F117r7
        (cd 39
          (sr F117r8
          (rg F117r9))
          (.skip)))
        (sr F117r10
        (.seq (sr F117r11
        (cd 56
          (sr F117r12
          (sr F117r13
          (rg F117r14)))
          (.skip)))
        (.seq (sr F117r15
        (cd 75
          (sr F117r16
          (cd 80
            (.ret)
            (.skip)))
          (.skip)))
        (.seq (.seq (.reg F117r17 (some [[], [0], [1, 0], [2, 1, 0], [2, 1, 0], [2, 1, 0], [5, 2, 1, 0], [4, 6, 2, 1, 0, 5], [7, 2, 4, 6, 1, 0, 5], [2, 1, 0], [2, 1, 0], [9, 10, 2, 1, 0], [11, 2, 9, 10, 1, 0], [3, 8, 12, 2, 1, 0, 7, 4, 6, 5, 11, 9, 10], [13, 2, 3, 8, 12, 1, 0, 7, 4, 6, 5, 11, 9, 10], [14, 2, 13, 3, 8, 12, 1, 0, 7, 4, 6, 5, 11, 9, 10], [2, 15, 1, 0, 14, 13, 3, 8, 12, 7, 4, 6, 5, 11, 9, 10]]))
        (cd 97
          (sr F117r18
          (sr F117r19
          (.exit 1)))
          (.skip)))
        (sr F117r20
        (sr F117r21
        (sr F117r22
        (sr F117r23
        (sr F117r24
        (cd 125
          (sr F117r25
          (sr F117r26
          (rg F117r27)))
          (sr F117r28
          (sr F117r29
          (rg F117r30)))))))))))))))))))))⟩
theorem F117_ok : cFunc Tryd.prog 117 = some F117 := by kernel_rfl
def F118r0 : RL := [oo 2 (.mov (ci 0))]
def F118r1 : RL := [oo 3 (ms 0),
 oo 4 (.conv .u32 (.s 3)),
 oo 5 (cl 136 [.s 4]),
 oo 2 (ms 5)]
def F118r2 : RL := [oo 6 (ms 0),
 oo 7 (cl 78 [.s 6]),
 oo 2 (ms 7)]
def F118 : AFn := ⟨8, [.tmp 2],
  sr F118r0
  (.seq (.cond cF
    (sr F118r1
    (.ret))
    (.skip))
  (sr F118r2
  (.ret)))⟩
theorem F118_ok : cFunc Tryd.prog 118 = some F118 := by kernel_rfl
def F119r0 : RL := [oo 4 (.box 2 (.s 0)),
 oo 8 (.new [zi 0, zi 0, zi 0, zs, zi 0, zi 0, zs, .v (.int .u64 0)]),
 oo 9 (.mov (.c .emp)),
 oo 10 (.mov (ci 0))]
def F119r1 : RL := [oo 13 (ms 1),
 oo 14 (ms 2),
 oo 15 (ms 3),
 oo 16 (.agg [zi 0, zi 0, zi 0, zs, zi 0, zi 0, zs, .v (.int .u64 0)] [(0, (1, .s 13)), (1, (1, .s 14)), (2, (1, ci 1)), (3, (1, .s 15))]),
 oo 11 (.new [zi 0, zi 0, zi 0, zs, zi 0, zi 0, zs, .v (.int .u64 0)]),
 ow (.store 8 (.s 11) (.s 16))]
def F119r2 : RL := [oo 17 (lq 2 4),
 oo 18 (lq 8 11),
 oo 19 (cl 67 [.s 17, .s 18]),
 oo 12 (ms 19)]
def F119r3 : RL := [oo 20 (ms 12),
 oo 21 (bi .neq (.s 20) (ci 0))]
def F119r4 : RL := [oo 22 (.agg [zi 0, zi 0, zi 0, zs, zi 0, zi 0, zs, .v (.int .u64 0)] []),
 oo 23 (ms 12),
 ow (.store 8 (.s 8) (.s 22)),
 oo 9 (.mov (.c .emp)),
 oo 10 (ms 23)]
def F119r5 : RL := [oo 24 (lq 8 11),
 oo 25 (lq 2 4),
 oo 26 (ms 1),
 oo 27 (.agg [zi 0, zi 0, zi 0, zi 0, zi 0, zs] [(0, (1, ci 1)), (1, (1, .s 26))]),
 oo 28 (cl 137 [.s 25, .s 27]),
 ow (.store 8 (.s 8) (.s 24)),
 oo 9 (ms 28),
 oo 10 (.mov (ci 0))]
def F119 : AFn := ⟨29, [.cell 8 (some 8), .tmp 9, .tmp 10],
  sr F119r0
  (sr F119r1
  (.seq (sr F119r2
  (sr F119r3
  (cd 21
    (sr F119r4
    (.ret))
    (.skip))))
  (.seq (.reg F119r5 (some [[], [], [], [2], [1, 3, 2], [0, 4, 1, 3, 2], [4, 5, 0, 1, 2, 3], [6, 0, 1, 2, 3, 4, 5]]))
  (.ret))))⟩
theorem F119_ok : cFunc Tryd.prog 119 = some F119 := by kernel_rfl
theorem F119_call : callable Tryd.prog 119 = true := by kernel_rfl
def F120r0 : RL := [oo 2 (.box 3 (.s 0)),
 oo 3 (.box 6 (.s 1)),
 oo 4 (.new [zi 0, zi 0, zs]),
 oo 5 (.mov (.c .emp)),
 oo 6 (.mov (ci 0))]
def F120r1 : RL := [oo 8 (lq 3 2),
 oo 9 (cl 46 [.s 8]),
 oo 7 (ms 9)]
def F120r2 : RL := [oo 10 (ms 7),
 oo 11 (bi .eql (.s 10) (ci 0))]
def F120r3 : RL := [oo 12 (lq 6 3),
 oo 13 (cl 69 [.s 12]),
 oo 7 (ms 13)]
def F120r4 : RL := [oo 14 (ms 7),
 oo 15 (bi .neq (.s 14) (ci 0))]
def F120r5 : RL := [oo 16 (.agg [zi 0, zi 0, zs] []),
 oo 17 (ms 7),
 ow (.store 3 (.s 4) (.s 16)),
 oo 5 (.mov (.c .emp)),
 oo 6 (ms 17)]
def F120r6 : RL := [oo 18 (fd 0 3),
 oo 19 (ld 18)]
def F120r7 : RL := [oo 21 (bi .eql (.s 19) (ci 1)),
 oo 20 (ms 21)]
def F120r8 : RL := [oo 22 (lq 3 2),
 oo 23 (fd 1 3),
 oo 24 (ld 23),
 oo 25 (fd 2 3),
 oo 26 (ld 25),
 oo 27 (lq 3 2),
 oo 28 (.agg [zi 0, zi 0, zi 0, zi 0, zi 0, zs] [(0, (1, ci 2)), (1, (1, .s 24)), (2, (1, .s 26)), (3, (3, .s 27))]),
 oo 29 (.bsl 6 1 [zi 0, zi 0, zi 0, zi 0, zi 0, zs] [(0, .s 28)]),
 ow (.store 3 (.s 4) (.s 22)),
 oo 5 (ms 29),
 oo 6 (.mov (ci 0))]
def F120r9 : RL := [oo 31 (bi .eql (.s 19) (ci 3)),
 oo 30 (ms 31)]
def F120r10 : RL := [oo 32 (lq 3 2),
 oo 33 (fd 3 3),
 oo 34 (lq 3 33),
 oo 35 (cl 138 [.s 32, .s 34]),
 oo 36 (fd 1 3),
 oo 37 (ld 36),
 oo 38 (fd 2 3),
 oo 39 (ld 38),
 oo 40 (.agg [zi 0, zi 0, zi 0, zi 0, zi 0, zs] [(0, (1, ci 4)), (1, (1, .s 37)), (2, (1, .s 39))]),
 oo 41 (.bsl 6 1 [zi 0, zi 0, zi 0, zi 0, zi 0, zs] [(0, .s 40)]),
 ow (.store 3 (.s 4) (.s 35)),
 oo 5 (ms 41),
 oo 6 (.mov (ci 0))]
def F120r11 : RL := [oo 42 (lq 3 2),
 ow (.store 3 (.s 4) (.s 42)),
 oo 5 (.mov (.c .emp)),
 oo 6 (.mov (ci 0))]
def F120 : AFn := ⟨43, [.cell 4 (some 3), .tmp 5, .tmp 6],
  sr F120r0
  (sr F120r1
  (.seq (sr F120r2
  (cd 11
    (rg F120r3)
    (.skip)))
  (.seq (sr F120r4
  (cd 15
    (sr F120r5
    (.ret))
    (.skip)))
  (.seq (sr F120r6
  (.block 0 (
    sr F120r7
    (cd 20
      (.seq (.reg F120r8 (some [[], [], [1], [], [3], [], [2, 4, 5, 1, 3], [6, 2, 4, 5, 1, 3], [0], [7, 8, 0, 1, 2, 3, 4, 5, 6], [9, 0, 1, 2, 3, 4, 5, 6, 7, 8]]))
      (.ret))
      (sr F120r9
      (cd 30
        (.seq (.reg F120r10 (some [[], [], [1], [0, 2, 1], [], [4], [], [6], [5, 7, 4, 6], [8, 5, 7, 4, 6], [3, 0, 1, 2], [9, 10, 0, 1, 2, 3, 4, 5, 6, 7, 8], [11, 0, 1, 2, 3, 4, 5, 6, 7, 8, 9, 10]]))
        (.ret))
        (.skip)))))))
  (sr F120r11
  (.ret))))))⟩
theorem F120_ok : cFunc Tryd.prog 120 = some F120 := by kernel_rfl
theorem F120_call : callable Tryd.prog 120 = true := by kernel_rfl
def F121r0 : RL := [oo 3 (.box 2 (.s 0)),
 oo 4 (.box 8 (.s 1)),
 oo 5 (.box 6 (.s 2)),
 oo 6 (.new [zi 0, zi 0, zi 0, zs, zi 0, zi 0, zs, .v (.int .u64 0)]),
 oo 7 (.mov (.c .emp)),
 oo 8 (.mov (ci 0))]
def F121r1 : RL := [oo 13 (lq 2 3),
 oo 14 (lq 8 4),
 oo 15 (cl 67 [.s 13, .s 14]),
 oo 9 (ms 15)]
def F121r2 : RL := [oo 16 (ms 9),
 oo 17 (bi .eql (.s 16) (ci 0))]
def F121r3 : RL := [oo 18 (lq 6 5),
 oo 19 (cl 69 [.s 18]),
 oo 9 (ms 19)]
def F121r4 : RL := [oo 20 (ms 9),
 oo 21 (bi .neq (.s 20) (ci 0))]
def F121r5 : RL := [oo 22 (.agg [zi 0, zi 0, zi 0, zs, zi 0, zi 0, zs, .v (.int .u64 0)] []),
 oo 23 (ms 9),
 ow (.store 8 (.s 6) (.s 22)),
 oo 7 (.mov (.c .emp)),
 oo 8 (ms 23)]
def F121r6 : RL := [oo 24 (lq 8 4),
 oo 25 (lq 2 3),
 oo 26 (.agg [zi 0, zi 0, zi 0, zs, zi 0, zi 0, zs, .v (.int .u64 0), .emp, zi 0] [(0, (8, .s 24)), (8, (2, .s 25))]),
 oo 27 (.box 10 (.s 26)),
 oo 10 (ms 27)]
def F121r7 : RL := [oo 29 (ms 10),
 oo 30 (lq 6 5),
 oo 31 (cl 139 [.s 29, .s 30]),
 oo 28 (ms 31),
 oo 32 (.ext 0 (.s 28)),
 oo 33 (.ext 1 (.s 28)),
 oo 11 (ms 32),
 oo 12 (ms 33)]
def F121r8 : RL := [oo 34 (ms 12),
 oo 35 (.un .not (.s 34))]
def F121r9 : RL := [oo 36 (lq 8 4),
 ow (.store 8 (.s 6) (.s 36)),
 oo 7 (.mov (.c .emp)),
 oo 8 (.mov (ci 0))]
def F121r10 : RL := [oo 37 (ms 10),
 oo 38 (.nilc (.s 37)),
 oo 39 (fd 0 38),
 oo 40 (lq 8 39),
 oo 41 (ms 11),
 ow (.store 8 (.s 6) (.s 40)),
 oo 7 (ms 41),
 oo 8 (.mov (ci 0))]
def F121 : AFn := ⟨42, [.cell 6 (some 8), .tmp 7, .tmp 8],
  sr F121r0
  (sr F121r1
  (.seq (sr F121r2
  (cd 17
    (rg F121r3)
    (.skip)))
  (.seq (sr F121r4
  (cd 21
    (sr F121r5
    (.ret))
    (.skip)))
  (sr F121r6
  (sr F121r7
  (.seq (sr F121r8
  (cd 35
    (sr F121r9
    (.ret))
    (.skip)))
  (sr F121r10
  (.ret))))))))⟩
theorem F121_ok : cFunc Tryd.prog 121 = some F121 := by kernel_rfl
theorem F121_call : callable Tryd.prog 121 = true := by kernel_rfl
def F128r0 : RL := [oo 10 (ms 1),
 oo 11 (bi .add (.s 10) (ci 1)),
 oo 8 (ms 11)]
def F128r1 : RL := [oo 12 (ms 8),
 oo 13 (ms 2),
 oo 14 (bi .lss (.s 12) (.s 13))]
def F128r2 : RL := [oo 17 (ms 8),
 oo 9 (ms 17)]
def F128r3 : RL := [oo 18 (ms 9),
 oo 19 (ms 1),
 oo 20 (bi .gtr (.s 18) (.s 19)),
 oo 21 (ms 20),
 ot 22 (ms 3) 21,
 ot 23 (ms 0) 21,
 ot 24 (ms 9) 21,
 ot 25 (.iad 1 (.s 23) (.s 24)) 21,
 ot 26 (ld 25) 21,
 ot 27 (ms 0) 21,
 ot 28 (ms 9) 21,
 ot 29 (bi .sub (.s 28) (ci 1)) 21,
 ot 30 (.iad 1 (.s 27) (.s 29)) 21,
 ot 31 (ld 30) 21,
 ot 32 (.call (.s 22) [.s 26, .s 31]) 21,
 ot 33 (bi .lss (.s 32) (ci 0)) 21,
 oo 34 (.pick (.s 21) (.s 33) cF)]
def F128r4 : RL := [oo 37 (ms 0),
 oo 38 (ms 9),
 oo 39 (ms 0),
 oo 40 (ms 9),
 oo 41 (bi .sub (.s 40) (ci 1)),
 oo 42 (ms 0),
 oo 43 (ms 9),
 oo 44 (bi .sub (.s 43) (ci 1)),
 oo 45 (.iad 1 (.s 42) (.s 44)),
 oo 46 (ld 45),
 oo 47 (ms 0),
 oo 48 (ms 9),
 oo 49 (.iad 1 (.s 47) (.s 48)),
 oo 50 (ld 49),
 oo 51 (.iad 1 (.s 37) (.s 38)),
 ow (.store 1 (.s 51) (.s 46)),
 oo 52 (.iad 1 (.s 39) (.s 41)),
 ow (.store 1 (.s 52) (.s 50))]
def F128r5 : RL := [oo 35 (ms 9),
 oo 36 (bi .sub (.s 35) (ci 1)),
 oo 9 (ms 36)]
def F128r6 : RL := [oo 15 (ms 8),
 oo 16 (bi .add (.s 15) (ci 1)),
 oo 8 (ms 16)]
def F128 : AFn := ⟨53, [],
  sr F128r0
  (.block 0 (
    .loop (
      .seq (sr F128r1
      (cd 14
        (.skip)
        (.exit 0)))
      (.seq (.block 1 (
        sr F128r2
        (.block 2 (
          .loop (
            .seq (.seq (.reg F128r3 (some [[], [], [0, 1], [2, 0, 1], [3, 2, 0, 1], [3, 2, 0, 1], [3, 2, 0, 1], [5, 6, 3, 2, 0, 1], [7, 3, 5, 6, 2, 0, 1], [3, 2, 0, 1], [3, 2, 0, 1], [10, 3, 2, 0, 1], [9, 11, 3, 2, 0, 1, 10], [12, 3, 9, 11, 2, 0, 1, 10], [4, 8, 13, 3, 2, 0, 1, 7, 5, 6, 12, 9, 11, 10], [14, 3, 4, 8, 13, 2, 0, 1, 7, 5, 6, 12, 9, 11, 10], [3, 15, 2, 0, 1, 14, 4, 8, 13, 7, 5, 6, 12, 9, 11, 10]]))
            (cd 34
              (.skip)
              (.exit 2)))
            (.seq (.block 3 (
              .reg F128r4 (some [[], [], [], [], [3], [], [], [6], [5, 7, 6], [8, 5, 7, 6], [], [], [10, 11], [12, 10, 11], [0, 1, 5, 6, 7, 8, 9, 13, 12, 10, 11], [14, 9, 0, 1, 5, 6, 7, 8, 13, 12, 10, 11], [2, 4, 0, 1, 3, 5, 6, 7, 8, 9, 10, 11, 12, 13, 14, 15], [16, 13, 15, 0, 1, 2, 3, 4, 5, 6, 7, 8, 9, 10, 11, 12, 14]])))
            (rg F128r5)))))))
      (rg F128r6)))))⟩
theorem F128_ok : cFunc Tryd.prog 128 = some F128 := by kernel_rfl
def F137r0 : RL := [oo 2 (.box 2 (.s 0)),
 oo 3 (.box 6 (.s 1)),
 oo 4 (.mov (.c .emp))]
def F137r1 : RL := [oo 5 (.mov (.c .emp))]
def F137r2 : RL := [oo 7 (fd 0 2),
 oo 8 (ld 7),
 oo 9 (.len false (.s 8)),
 oo 10 (.mov (ci 0))]
def F137r3 : RL := [oo 11 (bi .lss (.s 10) (.s 9))]
def F137r4 : RL := [oo 12 (ms 10),
 oo 6 (ms 12)]
def F137r5 : RL := [oo 13 (ms 6),
 oo 14 (fd 2 3),
 ow (.store 1 (.s 14) (.s 13))]
def F137r6 : RL := [oo 15 (ms 5),
 oo 16 (lq 6 3),
 oo 17 (.bsl 6 1 [zi 0, zi 0, zi 0, zi 0, zi 0, zs] [(0, .s 16)]),
 oo 18 (.app 6 56 (.s 15) (.s 17)),
 oo 5 (ms 18)]
def F137r7 : RL := [oo 19 (bi .add (.s 10) (ci 1)),
 oo 10 (ms 19)]
def F137r8 : RL := [oo 20 (ms 5),
 oo 4 (ms 20)]
def F137 : AFn := ⟨21, [.tmp 4],
  sr F137r0
  (sr F137r1
  (.seq (sr F137r2
  (.block 0 (
    .loop (
      sr F137r3
      (.seq (cd 11
        (.skip)
        (.exit 0))
      (.seq (.block 1 (
        sr F137r4
        (sr F137r5
        (rg F137r6))))
      (rg F137r7)))))))
  (sr F137r8
  (.ret))))⟩
theorem F137_ok : cFunc Tryd.prog 137 = some F137 := by kernel_rfl
theorem F137_call : callable Tryd.prog 137 = true := by kernel_rfl
def F138r0 : RL := [oo 2 (.box 3 (.s 0)),
 oo 3 (.box 3 (.s 1)),
 oo 4 (.new [zi 0, zi 0, zs])]
def F138r1 : RL := [oo 5 (fd 0 2),
 oo 6 (lq 2 5),
 oo 7 (fd 0 3),
 oo 8 (lq 2 7),
 oo 9 (cl 23 [.s 6, .s 8])]
def F138r2 : RL := [oo 10 (lq 3 3),
 ow (.store 3 (.s 4) (.s 10))]
def F138r3 : RL := [oo 11 (lq 3 2),
 ow (.store 3 (.s 4) (.s 11))]
def F138 : AFn := ⟨12, [.cell 4 (some 3)],
  sr F138r0
  (.seq (sr F138r1
  (cd 9
    (sr F138r2
    (.ret))
    (.skip)))
  (sr F138r3
  (.ret)))⟩
theorem F138_ok : cFunc Tryd.prog 138 = some F138 := by kernel_rfl
theorem F138_call : callable Tryd.prog 138 = true := by kernel_rfl
def F139r0 : RL := [oo 3 (.box 6 (.s 1)),
 oo 4 (.mov (.c .emp)),
 oo 5 (.mov cF)]
def F139r1 : RL := [oo 10 (fd 2 3),
 oo 11 (ld 10),
 oo 12 (bi .shl (.c (.v (.int .u64 1))) (.s 11)),
 oo 6 (ms 12)]
def F139r2 : RL := [oo 13 (.mkm),
 ow (.mup .int (.s 13) (ci 1) (ci 2)),
 ow (.mup .int (.s 13) (ci 2) (ci 4)),
 oo 14 (ms 13),
 oo 7 (ms 14)]
def F139r3 : RL := [oo 15 (fd 1 3),
 oo 16 (ld 15),
 oo 17 (ms 0),
 oo 18 (.nilc (.s 17)),
 oo 19 (fd 0 18),
 oo 20 (fd 0 19),
 oo 21 (ld 20),
 oo 22 (bi .neq (.s 16) (.s 21)),
 oo 23 (ms 22),
 on 24 (fd 0 3) 23,
 on 25 (ld 24) 23,
 on 26 (ms 7) 23,
 on 27 (ms 0) 23,
 on 28 (.nilc (.s 27)) 23,
 on 29 (fd 0 28) 23,
 on 30 (fd 2 29) 23,
 on 31 (ld 30) 23,
 on 32 (.mlk .int (zi 0) (.s 26) (.s 31)) 23,
 on 33 (bi .neq (.s 25) (.s 32)) 23,
 oo 34 (.pick (.s 23) cT (.s 33)),
 oo 35 (ms 34),
 on 36 (fd 2 3) 35,
 on 37 (ld 36) 35,
 on 38 (ms 0) 35,
 on 39 (.nilc (.s 38)) 35,
 on 40 (fd 8 39) 35,
 on 41 (fd 0 40) 35,
 on 42 (ld 41) 35,
 on 43 (.len false (.s 42)) 35,
 on 44 (bi .geq (.s 37) (.s 43)) 35,
 oo 45 (.pick (.s 35) cT (.s 44)),
 oo 46 (ms 45),
 on 47 (ms 0) 46,
 on 48 (.nilc (.s 47)) 46,
 on 49 (fd 0 48) 46,
 on 50 (fd 7 49) 46,
 on 51 (ld 50) 46,
 on 52 (ms 6) 46,
 on 53 (bi .and (.s 51) (.s 52)) 46,
 on 54 (bi .neq (.s 53) (.c (.v (.int .u64 0)))) 46,
 oo 55 (.pick (.s 46) cT (.s 54))]
def F139r4 : RL := [oo 4 (.mov (.c .emp)),
 oo 5 (.mov cF)]
def F139r5 : RL := [oo 56 (ms 0),
 oo 57 (.nilc (.s 56)),
 oo 58 (fd 0 57),
 oo 59 (fd 7 58),
 oo 60 (ld 59),
 oo 61 (ms 6),
 oo 62 (bi .or (.s 60) (.s 61)),
 oo 63 (.nilc (.s 56)),
 oo 64 (fd 0 63),
 oo 65 (fd 7 64),
 ow (.store 1 (.s 65) (.s 62))]
def F139r6 : RL := [oo 66 (ms 0),
 oo 67 (.nilc (.s 66)),
 oo 68 (fd 0 67),
 oo 69 (fd 2 68),
 oo 70 (ld 69),
 oo 71 (bi .eql (.s 70) (ci 1))]
def F139r7 : RL := [oo 72 (ms 0),
 oo 73 (ms 0),
 oo 74 (.nilc (.s 73)),
 oo 75 (fd 0 74),
 oo 76 (fd 4 75),
 oo 77 (lq 3 76),
 oo 78 (fd 3 3),
 oo 79 (lq 3 78),
 oo 80 (cl 138 [.s 77, .s 79]),
 oo 81 (.nilc (.s 72)),
 oo 82 (fd 0 81),
 oo 83 (fd 4 82),
 ow (.store 3 (.s 83) (.s 80))]
def F139r8 : RL := [oo 85 (ms 0),
 oo 86 (.nilc (.s 85)),
 oo 87 (fd 8 86),
 oo 88 (fd 0 87),
 oo 89 (ld 88),
 oo 90 (ms 0),
 oo 91 (.nilc (.s 90)),
 oo 92 (fd 8 91),
 oo 93 (fd 1 92),
 oo 94 (ld 93),
 oo 95 (ms 0),
 oo 96 (.nilc (.s 95)),
 oo 97 (fd 0 96),
 oo 98 (fd 7 97),
 oo 99 (ld 98),
 oo 100 (cl 24 [.s 89, .s 94, .s 99]),
 oo 84 (ms 100),
 oo 101 (.ext 0 (.s 84)),
 oo 102 (.ext 1 (.s 84)),
 oo 8 (ms 101),
 oo 9 (ms 102)]
def F139r9 : RL := [oo 103 (ms 8),
 oo 104 (.un .not (.s 103))]
def F139r10 : RL := [oo 4 (.mov (.c .emp)),
 oo 5 (.mov cT)]
def F139r11 : RL := [oo 105 (ms 0),
 oo 106 (.nilc (.s 105)),
 oo 107 (fd 0 106),
 oo 108 (fd 2 107),
 oo 109 (ld 108),
 oo 110 (bi .eql (.s 109) (ci 2))]
def F139r12 : RL := [oo 111 (ms 0),
 oo 112 (.nilc (.s 111)),
 oo 113 (fd 0 112),
 oo 114 (fd 2 113),
 ow (.store 1 (.s 114) (ci 3))]
def F139r13 : RL := [oo 4 (.mov (.c .emp)),
 oo 5 (.mov cT)]
def F139r14 : RL := [oo 115 (ms 0),
 oo 116 (cl 149 [.s 115]),
 oo 117 (.un .not (.s 116))]
def F139r15 : RL := [oo 4 (.mov (.c .emp)),
 oo 5 (.mov cF)]
def F139r16 : RL := [oo 118 (ms 0),
 oo 119 (ms 0),
 oo 120 (.nilc (.s 118)),
 oo 121 (fd 0 120),
 oo 122 (fd 2 121),
 ow (.store 1 (.s 122) (ci 2)),
 oo 123 (.nilc (.s 119)),
 oo 124 (fd 0 123),
 oo 125 (fd 7 124),
 ow (.store 1 (.s 125) (.c (.v (.int .u64 0))))]
def F139r17 : RL := [oo 126 (ms 0),
 oo 127 (.nilc (.s 126)),
 oo 128 (fd 8 127),
 oo 129 (lq 2 128),
 oo 130 (ms 0),
 oo 131 (.nilc (.s 130)),
 oo 132 (fd 0 131),
 oo 133 (fd 0 132),
 oo 134 (ld 133),
 oo 135 (ms 0),
 oo 136 (.nilc (.s 135)),
 oo 137 (fd 0 136),
 oo 138 (fd 4 137),
 oo 139 (lq 3 138),
 oo 140 (.agg [zi 0, zi 0, zi 0, zi 0, zi 0, zs] [(0, (1, ci 3)), (1, (1, .s 134)), (3, (3, .s 139))]),
 oo 141 (cl 137 [.s 129, .s 140]),
 oo 4 (ms 141),
 oo 5 (.mov cT)]
def F139 : AFn := ⟨142, [.tmp 4, .tmp 5],
  sr F139r0
  (sr F139r1
  (sr F139r2
  (.seq (.seq (.reg F139r3 (some [[], [0], [], [2], [3, 2], [4, 3, 2], [5, 4, 3, 2], [1, 6, 0, 5, 4, 3, 2], [7, 1, 6, 0, 5, 4, 3, 2], [8, 7, 1, 6, 0, 5, 4, 3, 2], [9, 8, 7, 1, 6, 0, 5, 4, 3, 2], [8, 7, 1, 6, 0, 5, 4, 3, 2], [8, 7, 1, 6, 0, 5, 4, 3, 2], [12, 8, 7, 1, 6, 0, 5, 4, 3, 2], [13, 8, 12, 7, 1, 6, 0, 5, 4, 3, 2], [14, 8, 13, 12, 7, 1, 6, 0, 5, 4, 3, 2], [15, 8, 14, 13, 12, 7, 1, 6, 0, 5, 4, 3, 2], [11, 16, 8, 7, 1, 6, 0, 5, 4, 3, 2, 15, 14, 13, 12], [10, 17, 8, 9, 7, 1, 6, 0, 5, 4, 3, 2, 11, 16, 15, 14, 13, 12], [8, 18, 7, 1, 6, 0, 5, 4, 3, 2, 10, 17, 9, 11, 16, 15, 14, 13, 12], [19, 8, 18, 7, 1, 6, 0, 5, 4, 3, 2, 10, 17, 9, 11, 16, 15, 14, 13, 12], [20, 19, 8, 18, 7, 1, 6, 0, 5, 4, 3, 2, 10, 17, 9, 11, 16, 15, 14, 13, 12], [21, 20, 19, 8, 18, 7, 1, 6, 0, 5, 4, 3, 2, 10, 17, 9, 11, 16, 15, 14, 13, 12], [20, 19, 8, 18, 7, 1, 6, 0, 5, 4, 3, 2, 10, 17, 9, 11, 16, 15, 14, 13, 12], [23, 20, 19, 8, 18, 7, 1, 6, 0, 5, 4, 3, 2, 10, 17, 9, 11, 16, 15, 14, 13, 12], [24, 20, 23, 19, 8, 18, 7, 1, 6, 0, 5, 4, 3, 2, 10, 17, 9, 11, 16, 15, 14, 13, 12], [25, 20, 24, 23, 19, 8, 18, 7, 1, 6, 0, 5, 4, 3, 2, 10, 17, 9, 11, 16, 15, 14, 13, 12], [26, 20, 25, 24, 23, 19, 8, 18, 7, 1, 6, 0, 5, 4, 3, 2, 10, 17, 9, 11, 16, 15, 14, 13, 12], [27, 20, 26, 25, 24, 23, 19, 8, 18, 7, 1, 6, 0, 5, 4, 3, 2, 10, 17, 9, 11, 16, 15, 14, 13, 12], [22, 28, 20, 21, 19, 8, 18, 7, 1, 6, 0, 5, 4, 3, 2, 10, 17, 9, 11, 16, 15, 14, 13, 12, 27, 26, 25, 24, 23], [20, 29, 19, 8, 18, 7, 1, 6, 0, 5, 4, 3, 2, 10, 17, 9, 11, 16, 15, 14, 13, 12, 22, 28, 21, 27, 26, 25, 24, 23], [30, 20, 29, 19, 8, 18, 7, 1, 6, 0, 5, 4, 3, 2, 10, 17, 9, 11, 16, 15, 14, 13, 12, 22, 28, 21, 27, 26, 25, 24, 23], [31, 30, 20, 29, 19, 8, 18, 7, 1, 6, 0, 5, 4, 3, 2, 10, 17, 9, 11, 16, 15, 14, 13, 12, 22, 28, 21, 27, 26, 25, 24, 23], [32, 31, 30, 20, 29, 19, 8, 18, 7, 1, 6, 0, 5, 4, 3, 2, 10, 17, 9, 11, 16, 15, 14, 13, 12, 22, 28, 21, 27, 26, 25, 24, 23], [33, 31, 32, 30, 20, 29, 19, 8, 18, 7, 1, 6, 0, 5, 4, 3, 2, 10, 17, 9, 11, 16, 15, 14, 13, 12, 22, 28, 21, 27, 26, 25, 24, 23], [34, 31, 33, 32, 30, 20, 29, 19, 8, 18, 7, 1, 6, 0, 5, 4, 3, 2, 10, 17, 9, 11, 16, 15, 14, 13, 12, 22, 28, 21, 27, 26, 25, 24, 23], [35, 31, 34, 33, 32, 30, 20, 29, 19, 8, 18, 7, 1, 6, 0, 5, 4, 3, 2, 10, 17, 9, 11, 16, 15, 14, 13, 12, 22, 28, 21, 27, 26, 25, 24, 23], [31, 30, 20, 29, 19, 8, 18, 7, 1, 6, 0, 5, 4, 3, 2, 10, 17, 9, 11, 16, 15, 14, 13, 12, 22, 28, 21, 27, 26, 25, 24, 23], [36, 37, 31, 35, 34, 33, 32, 30, 20, 29, 19, 8, 18, 7, 1, 6, 0, 5, 4, 3, 2, 10, 17, 9, 11, 16, 15, 14, 13, 12, 22, 28, 21, 27, 26, 25, 24, 23], [38, 31, 36, 37, 35, 34, 33, 32, 30, 20, 29, 19, 8, 18, 7, 1, 6, 0, 5, 4, 3, 2, 10, 17, 9, 11, 16, 15, 14, 13, 12, 22, 28, 21, 27, 26, 25, 24, 23], [31, 39, 30, 20, 29, 19, 8, 18, 7, 1, 6, 0, 5, 4, 3, 2, 10, 17, 9, 11, 16, 15, 14, 13, 12, 22, 28, 21, 27, 26, 25, 24, 23, 38, 36, 37, 35, 34, 33, 32]]))
  (cd 55
    (sr F139r4
    (.ret))
    (.skip)))
  (sr F139r5
  (.seq (sr F139r6
  (cd 71
    (.reg F139r7 (some [[], [], [1], [2, 1], [3, 2, 1], [4, 3, 2, 1], [], [6], [5, 7, 4, 3, 2, 1, 6], [0, 1, 2, 3, 4, 5, 6, 7, 8], [9, 0, 1, 2, 3, 4, 5, 6, 7, 8], [10, 0, 1, 2, 3, 4, 5, 6, 7, 8, 9], [11, 8, 0, 1, 2, 3, 4, 5, 6, 7, 10, 9]]))
    (.skip)))
  (.seq (.seq (.reg F139r8 (some [[], [0], [1, 0], [2, 1, 0], [3, 2, 1, 0], [], [5], [6, 5], [7, 6, 5], [8, 7, 6, 5], [], [10], [11, 10], [12, 11, 10], [13, 12, 11, 10], [4, 9, 14, 3, 2, 1, 0, 8, 7, 6, 5, 13, 12, 11, 10], [15, 4, 9, 14, 3, 2, 1, 0, 8, 7, 6, 5, 13, 12, 11, 10], [16, 15, 4, 9, 14, 3, 2, 1, 0, 8, 7, 6, 5, 13, 12, 11, 10], [16, 15, 4, 9, 14, 3, 2, 1, 0, 8, 7, 6, 5, 13, 12, 11, 10], [17, 15, 0, 1, 2, 3, 4, 5, 6, 7, 8, 9, 10, 11, 12, 13, 14, 16], [18, 19, 0, 1, 2, 3, 4, 5, 6, 7, 8, 9, 10, 11, 12, 13, 14, 15, 16, 17]]))
  (sr F139r9
  (cd 104
    (sr F139r10
    (.ret))
    (.skip))))
  (.seq (sr F139r11
  (cd 110
    (sr F139r12
    (sr F139r13
    (.ret)))
    (.skip)))
  (.seq (sr F139r14
  (cd 117
    (sr F139r15
    (.ret))
    (.skip)))
  (sr F139r16
  (.seq (.reg F139r17 (some [[], [0], [1, 0], [2, 1, 0], [], [4], [5, 4], [6, 5, 4], [7, 6, 5, 4], [], [9], [10, 9], [11, 10, 9], [12, 11, 10, 9], [8, 13, 7, 6, 5, 4, 12, 11, 10, 9], [3, 14, 2, 1, 0, 8, 13, 7, 6, 5, 4, 12, 11, 10, 9], [15, 0, 1, 2, 3, 4, 5, 6, 7, 8, 9, 10, 11, 12, 13, 14], [16, 0, 1, 2, 3, 4, 5, 6, 7, 8, 9, 10, 11, 12, 13, 14, 15]]))
  (.ret)))))))))))⟩
theorem F139_ok : cFunc Tryd.prog 139 = some F139 := by kernel_rfl
theorem F139_call : callable Tryd.prog 139 = true := by kernel_rfl
def F149r0 : RL := [oo 2 (.mov cF)]
def F149r1 : RL := [oo 5 (ms 0),
 oo 6 (.nilc (.s 5)),
 oo 7 (fd 0 6),
 oo 8 (fd 1 7),
 oo 9 (ld 8),
 oo 10 (bi .eql (.s 9) (ci 1))]
def F149r2 : RL := [oo 2 (.mov cT)]
def F149r3 : RL := [oo 12 (ms 0),
 oo 13 (.nilc (.s 12)),
 oo 14 (fd 0 13),
 oo 15 (fd 4 14),
 oo 16 (fd 0 15),
 oo 17 (lq 2 16),
 oo 18 (.bsl 2 1 [zi 0, zi 0] [(0, .s 17)]),
 oo 19 (ms 0),
 oo 20 (.nilc (.s 19)),
 oo 21 (fd 0 20),
 oo 22 (fd 0 21),
 oo 23 (ld 22),
 oo 24 (cl 151 [.s 18, .s 23]),
 oo 11 (ms 24),
 oo 25 (.ext 0 (.s 11)),
 oo 26 (.ext 1 (.s 11)),
 oo 3 (.new [zi 0, zi 0]),
 ow (.store 2 (.s 3) (.s 25)),
 oo 4 (ms 26)]
def F149r4 : RL := [oo 27 (ms 0),
 oo 28 (lq 2 3),
 oo 29 (ms 0),
 oo 30 (.nilc (.s 29)),
 oo 31 (fd 0 30),
 oo 32 (fd 3 31),
 oo 33 (ld 32),
 oo 34 (.agg [zi 0, zi 0, zs] [(0, (2, .s 28)), (2, (1, .s 33))]),
 oo 35 (.nilc (.s 27)),
 oo 36 (fd 0 35),
 oo 37 (fd 4 36),
 ow (.store 3 (.s 37) (.s 34))]
def F149r5 : RL := [oo 38 (ms 4),
 oo 39 (bi .eql (.s 38) (ci 0)),
 oo 2 (ms 39)]
def F149 : AFn := ⟨40, [.tmp 2],
  sr F149r0
  (.seq (sr F149r1
  (cd 10
    (sr F149r2
    (.ret))
    (.skip)))
  (.seq (.reg F149r3 (some [[], [0], [1, 0], [2, 1, 0], [3, 2, 1, 0], [4, 3, 2, 1, 0], [5, 4, 3, 2, 1, 0], [], [7], [8, 7], [9, 8, 7], [10, 9, 8, 7], [6, 11, 5, 4, 3, 2, 1, 0, 10, 9, 8, 7], [12, 6, 11, 5, 4, 3, 2, 1, 0, 10, 9, 8, 7], [13, 12, 6, 11, 5, 4, 3, 2, 1, 0, 10, 9, 8, 7], [13, 12, 6, 11, 5, 4, 3, 2, 1, 0, 10, 9, 8, 7], [], [16, 14, 12, 0, 1, 2, 3, 4, 5, 6, 7, 8, 9, 10, 11, 13], [15, 17, 0, 1, 2, 3, 4, 5, 6, 7, 8, 9, 10, 11, 12, 13, 14, 16]]))
  (.seq (.reg F149r4 (some [[], [], [], [2], [3, 2], [4, 3, 2], [5, 4, 3, 2], [1, 6, 5, 4, 3, 2], [0, 1, 2, 3, 4, 5, 6, 7], [8, 0, 1, 2, 3, 4, 5, 6, 7], [9, 0, 1, 2, 3, 4, 5, 6, 7, 8], [10, 7, 0, 1, 2, 3, 4, 5, 6, 9, 8]]))
  (sr F149r5
  (.ret)))))⟩
theorem F149_ok : cFunc Tryd.prog 149 = some F149 := by kernel_rfl
theorem F149_call : callable Tryd.prog 149 = true := by kernel_rfl
def F151r0 : RL := [oo 4 (.new [zi 0, zi 0]),
 oo 5 (.mov (ci 0))]
def F151r1 : RL := [oo 9 (ms 0),
 oo 10 (cl 152 [.s 9]),
 oo 8 (ms 10),
 oo 11 (.ext 0 (.s 8)),
 oo 12 (.ext 1 (.s 8)),
 oo 6 (.new [zi 0, zi 0]),
 ow (.store 2 (.s 6) (.s 11)),
 oo 7 (ms 12)]
def F151r2 : RL := [oo 13 (ms 7),
 oo 14 (bi .eql (.s 13) (ci 0)),
 oo 15 (ms 14),
 ot 16 (ms 1) 15,
 ot 17 (cl 102 [.s 16]) 15,
 ot 18 (.un .not (.s 17)) 15,
 ot 19 (ms 18) 15,
 on 20 (fd 0 6) 19,
 on 21 (ld 20) 19,
 on 22 (bi .eql (.s 21) (ci 1000000)) 19,
 ot 23 (.pick (.s 19) cT (.s 22)) 15,
 oo 24 (.pick (.s 15) (.s 23) cF)]
def F151r3 : RL := [oo 7 (.mov (ci 3))]
def F151r4 : RL := [oo 25 (ms 7),
 oo 26 (bi .neq (.s 25) (ci 0))]
def F151r5 : RL := [oo 27 (.agg [zi 0, zi 0] []),
 oo 28 (ms 7),
 ow (.store 2 (.s 4) (.s 27)),
 oo 5 (ms 28)]
def F151r6 : RL := [oo 29 (fd 0 6),
 oo 30 (ld 29),
 oo 31 (bi .add (.s 30) (ci 1)),
 oo 32 (ms 1),
 oo 33 (.agg [zi 0, zi 0] [(0, (1, .s 31)), (1, (1, .s 32))]),
 ow (.store 2 (.s 4) (.s 33)),
 oo 5 (.mov (ci 0))]
def F151 : AFn := ⟨34, [.cell 4 (some 2), .tmp 5],
  sr F151r0
  (sr F151r1
  (.seq (sr F151r2
  (cd 24
    (rg F151r3)
    (.skip)))
  (.seq (sr F151r4
  (cd 26
    (sr F151r5
    (.ret))
    (.skip)))
  (sr F151r6
  (.ret)))))⟩
theorem F151_ok : cFunc Tryd.prog 151 = some F151 := by kernel_rfl
theorem F151_call : callable Tryd.prog 151 = true := by kernel_rfl
def F152r0 : RL := [oo 2 (.new [zi 0, zi 0]),
 oo 3 (.mov (ci 0))]
def F152r1 : RL := [oo 7 (ms 0),
 oo 8 (.len false (.s 7)),
 oo 9 (bi .gtr (.s 8) (ci 64))]
def F152r2 : RL := [oo 10 (.agg [zi 0, zi 0] []),
 ow (.store 2 (.s 2) (.s 10)),
 oo 3 (.mov (ci 2))]
def F152r3 : RL := [oo 11 (ms 0),
 oo 12 (.len false (.s 11)),
 oo 13 (.mov (ci 0))]
def F152r4 : RL := [oo 14 (bi .lss (.s 13) (.s 12))]
def F152r5 : RL := [oo 15 (.iad 2 (.s 11) (.s 13)),
 oo 16 (lq 2 15),
 oo 5 (.new [zi 0, zi 0]),
 ow (.store 2 (.s 5) (.s 16))]
def F152r6 : RL := [oo 17 (lq 2 5),
 oo 18 (cl 66 [.s 17]),
 oo 6 (ms 18)]
def F152r7 : RL := [oo 19 (ms 6),
 oo 20 (bi .neq (.s 19) (ci 0))]
def F152r8 : RL := [oo 21 (.agg [zi 0, zi 0] []),
 oo 22 (ms 6),
 ow (.store 2 (.s 2) (.s 21)),
 oo 3 (ms 22)]
def F152r9 : RL := [oo 23 (bi .add (.s 13) (ci 1)),
 oo 13 (ms 23)]
def F152r10 : RL := [oo 24 (.agg [zi 0, zi 0] []),
 oo 25 (.bsl 2 1 [zi 0, zi 0] [(0, .s 24)]),
 oo 26 (ms 0),
 oo 27 (.app 2 16 (.s 25) (.s 26)),
 oo 28 (cl 153 [.s 27, .c (.fn 53 [])]),
 ow (.store 2 (.s 2) (.s 28)),
 oo 3 (.mov (ci 0))]
def F152 : AFn := ⟨29, [.cell 2 (some 2), .tmp 3],
  sr F152r0
  (.seq (sr F152r1
  (cd 9
    (sr F152r2
    (.ret))
    (.skip)))
  (.seq (sr F152r3
  (.block 0 (
    .loop (
      sr F152r4
      (.seq (cd 14
        (.skip)
        (.exit 0))
      (.seq (.block 1 (
        sr F152r5
        (sr F152r6
        (sr F152r7
        (cd 20
          (sr F152r8
          (.ret))
          (.skip))))))
      (rg F152r9)))))))
  (sr F152r10
  (.ret))))⟩
theorem F152_ok : cFunc Tryd.prog 152 = some F152 := by kernel_rfl
theorem F152_call : callable Tryd.prog 152 = true := by kernel_rfl
def F153r0 : RL := [oo 4 (.new [zi 0, zi 0])]
def F153r1 : RL := [oo 7 (ms 0),
 oo 8 (.len false (.s 7)),
 oo 9 (bi .lss (.s 8) (ci 1))]
def F153r2 : RL := [oo 10 (.bad),
 ow (.bad)]
def F153r3 : RL := [oo 11 (ms 0),
 oo 12 (.iad 2 (.s 11) (ci 0)),
 oo 13 (lq 2 12),
 oo 5 (.new [zi 0, zi 0]),
 ow (.store 2 (.s 5) (.s 13))]
def F153r4 : RL := [oo 6 (.mov (ci 1))]
def F153r5 : RL := [oo 14 (ms 6),
 oo 15 (ms 0),
 oo 16 (.len false (.s 15)),
 oo 17 (bi .lss (.s 14) (.s 16))]
def F153r6 : RL := [oo 20 (ms 1),
 oo 21 (ms 0),
 oo 22 (ms 6),
 oo 23 (.iad 2 (.s 21) (.s 22)),
 oo 24 (lq 2 23),
 oo 25 (lq 2 5),
 oo 26 (.call (.s 20) [.s 24, .s 25]),
 oo 27 (bi .gtr (.s 26) (ci 0))]
def F153r7 : RL := [oo 28 (ms 0),
 oo 29 (ms 6),
 oo 30 (.iad 2 (.s 28) (.s 29)),
 oo 31 (lq 2 30),
 ow (.store 2 (.s 5) (.s 31))]
def F153r8 : RL := [oo 18 (ms 6),
 oo 19 (bi .add (.s 18) (ci 1)),
 oo 6 (ms 19)]
def F153r9 : RL := [oo 32 (lq 2 5),
 ow (.store 2 (.s 4) (.s 32))]
def F153 : AFn := ⟨33, [.cell 4 (some 2)],
  sr F153r0
  (.seq (sr F153r1
  (cd 9
    (rg F153r2)
    (.skip)))
  (sr F153r3
  (.seq (sr F153r4
  (.block 0 (
    .loop (
      .seq (sr F153r5
      (cd 17
        (.skip)
        (.exit 0)))
      (.seq (.block 1 (
        .seq (.reg F153r6 (some [[], [], [], [1, 2], [3, 1, 2], [], [0, 4, 5, 3, 1, 2], [6, 0, 4, 5, 3, 1, 2]]))
        (cd 27
          (rg F153r7)
          (.skip))))
      (rg F153r8))))))
  (sr F153r9
  (.ret)))))⟩
theorem F153_ok : cFunc Tryd.prog 153 = some F153 := by kernel_rfl
theorem F153_call : callable Tryd.prog 153 = true := by kernel_rfl
open Go.RowKit
section
variable {P : Program} {n k k0 : Nat} {x : L3} {K : L3 → Prop} {Q : Ex → L3 → Prop} {R : List AOper} {dep : List (List Nat)} {rs : List Rec} {hs : List (Option Nat)} {b : AC}
theorem owl (c : Nat) (live : List Nat) (x' : L3) (hr : EL P n k0 b x' Q) (h : (runN n c (R.drop k) x).map (L3.keep live) = some x' := by kernel_rfl) (he : (R.drop (k + c)).isEmpty = true := by kernel_rfl) : OW P n k0 (R.drop k) x fun y => EL P n k0 b y Q := OW.last c live h he hr
theorem srl (c : Nat) (live : List Nat) (x' : L3) (hr : EL P n k0 b x' Q) (h : (runN n c (R.drop 0) x).map (L3.keep live) = some x' := by kernel_rfl) (he : (R.drop (0 + c)).isEmpty = true := by kernel_rfl) : EL P n k0 (.seq (.reg R none) b) x Q := EL.sreg (OW.last c live h he hr)
theorem owr (c : Nat) (x' : L3) (hr : OW P n k0 (R.drop (k + c)) x' K) (h : runN n c (R.drop k) x = some x' := by kernel_rfl) : OW P n k0 (R.drop k) x K := OW.run c h hr
theorem srr (c : Nat) (x' : L3) (hr : OW P n k0 (R.drop (0 + c)) x' fun y => EL P n k0 b y Q) (h : runN n c (R.drop 0) x = some x' := by kernel_rfl) : EL P n k0 (.seq (.reg R none) b) x Q := EL.sreg (OW.run c h hr)
theorem owe (c : Nat) (x' : L3) (hr : K x') (h : runN n c (R.drop k) x = some x' := by kernel_rfl) (he : (R.drop (k + c)).isEmpty = true := by kernel_rfl) : OW P n k0 (R.drop k) x K := OW.end c h he hr
theorem roe (c : Nat) (x' : L3) (hr : Q .normal x') (h : runN n c (R.drop 0) x = some x' := by kernel_rfl) (he : (R.drop (0 + c)).isEmpty = true := by kernel_rfl) : EL P n k0 (.reg R none) x Q := EL.reg0 (OW.end c h he hr)
theorem dwr (c : Nat) (x' : L3) (hr : DW P n dep (R.drop (k + c)) x' (rs ++ recN c (R.drop k) x) K) (h : runN n c (R.drop k) x = some x' := by kernel_rfl) : DW P n dep (R.drop k) x rs K := DW.run c h hr
theorem dwl (c : Nat) (live : List Nat) (x' : L3) (hr : EL P n k0 b x' Q) (h : (runN n c (R.drop k) x).map (L3.keep live) = some x' := by kernel_rfl) (he : ((R.drop (k + c)).isEmpty && idsOK (rs ++ recN c (R.drop k) x) dep) = true := by kernel_rfl) : DW P n dep (R.drop k) x rs fun y => EL P n k0 b y Q := DW.last c live h he hr
theorem sdr (c : Nat) (x' : L3) (hr : DW P n dep (R.drop (0 + c)) x' ([] ++ recN c (R.drop 0) x) fun y => EL P n k0 b y Q) (h : runN n c (R.drop 0) x = some x' := by kernel_rfl) : EL P n k0 (.seq (.reg R (some dep)) b) x Q := EL.sdraw (DW.run c h hr)
theorem dwe (c : Nat) (x' : L3) (hr : K x') (h : runN n c (R.drop k) x = some x' := by kernel_rfl) (he : ((R.drop (k + c)).isEmpty && idsOK (rs ++ recN c (R.drop k) x) dep) = true := by kernel_rfl) : DW P n dep (R.drop k) x rs K := DW.end c h he hr
theorem cnT {a : Arg} {y z : AC} (h : EL P n k0 y x Q) (hb : argσ (slot x.t) a = .v (.bool true) := by kernel_rfl) : EL P n k0 (.cond a y z) x Q := EL.condT hb h
theorem cnF {a : Arg} {y z : AC} (h : EL P n k0 z x Q) (hb : argσ (slot x.t) a = .v (.bool false) := by kernel_rfl) : EL P n k0 (.cond a y z) x Q := EL.condF hb h
theorem rtr {f : L3 → Prop} (h : Q .ret x) : EL P n k0 .ret x (Ex.thenL f Q) := EL.ret (tR h)
theorem skn {f : L3 → Prop} (h : f x) : EL P n k0 .skip x (Ex.thenL f Q) := EL.skip (tN h)
theorem pq {α : Type} {m : List (Option Bk)} {id : Nat} (sz : Nat) (f : α → List AV) (xs : List α) (h : look m id = some ⟨sz, xs.map f⟩ := by kernel_rfl) (hp : ∀ y, (f y).all AV.pu1 = true := by intro y; kernel_rfl) : PuE m id := pu sz f xs h hp
end
open Go.RowKit
abbrev ut (i : Nat) : Src0 := .old i true
theorem bqT {α : Type} [BEq α] [LawfulBEq α] {a b : α} (h : (a == b) = true) : a = b := eq_of_beq h
theorem bqF {α : Type} [BEq α] [LawfulBEq α] {a b : α} (h : (a == b) = false) : ¬ a = b := fun e => by subst e; simp at h
theorem bnT {α : Type} [BEq α] [LawfulBEq α] {a b : α} (h : (a != b) = true) : ¬ a = b := fun e => by subst e; simp at h
theorem bnF {α : Type} [BEq α] [LawfulBEq α] {a b : α} (h : (a != b) = false) : a = b := by simpa using h
theorem fne {n k0 : Nat} {x : L3} {res : List ARes} {r : AV} {m' : List (Option Bk)} (live : List Nat) (src : List Src0) (y : L3) (hp : PuS x.m src) (h : normL k0 live src [] x = some y := by kernel_rfl) (hr : (resR (slot y.t) res).run (look y.m) = some r := by kernel_rfl) (hm : y.m = m' := by rfl) :
    (Ex.ret = .normal ∨ Ex.ret = .ret) ∧ ∃ y : L3, x.s.Le k0 n y.s ∧ (resR (slot y.t) res).run (look y.m) = some r ∧ y.m = m' := ⟨.inr rfl, y, norm_le h hp, hr, hm⟩
section
variable {x : L3} {res : List ARes} {r' : AV}
theorem rqe (r : AV) (he : r = r') (h : ((resR (slot x.t) res).bind snapR).run (look x.m) = some r := by kernel_rfl) : (Ex.ret = .normal ∨ Ex.ret = .ret) ∧ ∃ q, ((resR (slot x.t) res).bind snapR).run (look x.m) = some q ∧ Ale q r' := ⟨.inr rfl, r, h, Ale.of_eq he⟩
theorem rqa (r : AV) {b : AV} (ha : Ale r b) (he : b = r') (h : ((resR (slot x.t) res).bind snapR).run (look x.m) = some r := by kernel_rfl) : (Ex.ret = .normal ∨ Ex.ret = .ret) ∧ ∃ q, ((resR (slot x.t) res).bind snapR).run (look x.m) = some q ∧ Ale q r' := ⟨.inr rfl, r, h, Ale.trans ha (Ale.of_eq he)⟩
theorem rqs (r r0 : AV) (h : (snapR r0).run (look x.m) = some r) (he : r = r') (h0 : (resR (slot x.t) res).run (look x.m) = some r0 := by kernel_rfl) : (Ex.ret = .normal ∨ Ex.ret = .ret) ∧ ∃ q, ((resR (slot x.t) res).bind snapR).run (look x.m) = some q ∧ Ale q r' := ⟨.inr rfl, r, run_snap h0 h, Ale.of_eq he⟩
end
theorem fnw {P : Program} {f : FuncId} {F : AFn} (hF : cFunc P f = some F) {as_ : List AV} {r : AV} (h : EL P F.n 0 F.code (start as_) fun e x => (e = .normal ∨ e = .ret) ∧ ∃ r', ((resR (slot x.t) F.res).bind snapR).run (look x.m) = some r' ∧ Ale r' r) (hl : as_.length ≤ F.n := by exact of_decide_eq_true (by kernel_rfl)) : Fn P f as_ r := fW hF hl h
section
variable {P : Program} {n k k0 : Nat} {x : L3} {K : L3 → Prop} {R : List AOper}
theorem owg {f : FuncId} {bs : List AV} {r : AV} (ar : List AV) (x' : L3) (hf : Fn P f bs r) (hr : OW P n k0 (R.drop (k + 1)) x' K) (hc : callable P f = true := by kernel_rfl) (hl : Nat.blt k R.length = true := by kernel_rfl) (h : opE (opD R k) x = .call f ar := by kernel_rfl) (hs : (snapAs ar).run (look x.m) = some bs := by kernel_rfl)
    (hx : (bif dstOK n (opD R k).dst && upsOK x.m.length (callUps ar r) then some (⟨setA x.t (opD R k).dst r, mput x.m (callUps ar r)⟩ : L3) else none) = some x' := by kernel_rfl) : OW P n k0 (R.drop k) x K := OW.fn hl h hc hf hs hx hr
theorem dwg {dep : List (List Nat)} {rs : List Rec} {f : FuncId} {bs : List AV} {r : AV} (ar : List AV) (x' : L3) (hf : Fn P f bs r) (hr : DW P n dep (R.drop (k + 1)) x' (rs ++ [⟨(opD R k).dst, r, callUps ar r, accCall (opD R k).ao ar x, x.m.length⟩]) K) (hc : callable P f = true := by kernel_rfl) (hl : Nat.blt k R.length = true := by kernel_rfl) (h : opE (opD R k) x = .call f ar := by kernel_rfl) (hs : (snapAs ar).run (look x.m) = some bs := by kernel_rfl)
    (hx : (bif dstOK n (opD R k).dst && upsOK x.m.length (callUps ar r) then some (⟨setA x.t (opD R k).dst r, mput x.m (callUps ar r)⟩ : L3) else none) = some x' := by kernel_rfl) : DW P n dep (R.drop k) x rs K := DW.fn hl h hc hf hs hx hr
theorem owj {f : FuncId} (ar : List AV) (r : AV) (m' : List (Option Bk)) (x' : L3) (hf : Fi P f ar (look x.m) x.m.length r (look m') m'.length) (hr : OW P n k0 (R.drop (k + 1)) x' K) (hc : callable P f = true := by kernel_rfl) (hl : Nat.blt k R.length = true := by kernel_rfl) (h : opE (opD R k) x = .call f ar := by kernel_rfl)
    (hx : (bif dstOK n (opD R k).dst then some (⟨setA x.t (opD R k).dst r, m'⟩ : L3) else none) = some x' := by kernel_rfl) : OW P n k0 (R.drop k) x K := OW.fi hl h hc hf hx hr
theorem ow2 {v : AV} {u : List (Nat × Option Bk)} {acc : List Nat} (x' : L3) (h : opE (opD R k) x = .done v u acc) (hr : OW P n k0 (R.drop (k + 1)) x' K) (hl : Nat.blt k R.length = true := by kernel_rfl) (hx : (bif dstOK n (opD R k).dst && upsOK x.m.length u then some (⟨setA x.t (opD R k).dst v, mput x.m u⟩ : L3) else none) = some x' := by kernel_rfl) : OW P n k0 (R.drop k) x K := OW.ope hl h hx hr
theorem dw2 {dep : List (List Nat)} {rs : List Rec} {v : AV} {u : List (Nat × Option Bk)} {acc : List Nat} (x' : L3) (h : opE (opD R k) x = .done v u acc) (hr : DW P n dep (R.drop (k + 1)) x' (rs ++ [⟨(opD R k).dst, v, u, acc, x.m.length⟩]) K) (hl : Nat.blt k R.length = true := by kernel_rfl) (hx : (bif dstOK n (opD R k).dst && upsOK x.m.length u then some (⟨setA x.t (opD R k).dst v, mput x.m u⟩ : L3) else none) = some x' := by kernel_rfl) : DW P n dep (R.drop k) x rs K := DW.ope hl h hx hr
end
section
variable {o : AOper} {x : L3}
theorem oln {α : Type} (f : α → List AV) (xs : List α) (a : Arg) (sz : Nat) (ho : o.ao = .len false a := by kernel_rfl) (hg : guardA (slot x.t) o.guard = some true := by kernel_rfl) (ha : argσ (slot x.t) a = .lst sz (xs.map f) ∨ argσ (slot x.t) a = .tls sz (xs.map f) := by exact .inl rfl) : opE o x = .done (VI xs.length) [] [] := opE_len f xs a sz ho hg ha
theorem oid {α : Type} (f : α → List AV) (xs : List α) (a i : Arg) (sz : Nat) (q : IntKind) (m : Int) (y : α) (h0 : 0 ≤ m) (hy : xs[m.toNat]? = some y) (ho : o.ao = .iad sz a i := by kernel_rfl) (hg : guardA (slot x.t) o.guard = some true := by kernel_rfl) (ha : argσ (slot x.t) a = .lst sz (xs.map f) ∨ argσ (slot x.t) a = .tls sz (xs.map f) := by exact .inl rfl) (hi : argσ (slot x.t) i = .v (.int q m) := by rfl) : opE o x = .done (.pim (f y) 0) [] [] := opE_iad f xs a i sz q m y ho hg ha hi h0 hy
theorem oap {α : Type} (f : α → List AV) (xs ys : List α) (s a : Arg) (sz by_ id : Nat) (w : AV) {acc : List Nat} (hw : Src f sz (look x.m) w ys acc) (hb : (xs.length + ys.length) * by_ ≤ 140737488355328) (ho : o.ao = .app sz by_ s a := by kernel_rfl) (hg : guardA (slot x.t) o.guard = some true := by kernel_rfl) (hs : argσ (slot x.t) s = .own id sz 0 xs.length := by rfl) (hB : look x.m id = some ⟨sz, xs.map f⟩ := by kernel_rfl) (ha : argσ (slot x.t) a = w := by rfl) :
    opE o x = .done (.own x.m.length sz 0 (xs ++ ys).length) [(id, none), (x.m.length, some ⟨sz, (xs ++ ys).map f⟩)] (acc ++ [id]) := opE_appO f xs ys s a sz by_ id w acc ho hg hs hB ha hw hb
end
theorem aT {a : List AV} {b : List AV} {r s : List AV} (h : AleL a b) (t : AleL r s) : AleL (.agg a :: r) (.agg b :: s) := .cons (Ale.agg h) t
def tz (n : Nat) : Nat := if n = 0 then 64 else if n % 2 = 1 then 0 else tz (n / 2) + 1
termination_by n
decreasing_by omega
theorem tz_odd {n : Nat} (h : n % 2 = 1) : tz n = 0 := by
  rw [tz, if_neg (by omega), if_pos h]
theorem tz_even {n : Nat} (h0 : n ≠ 0) (h : n % 2 = 0) : tz n = tz (n / 2) + 1 := by
  rw [tz, if_neg h0, if_neg (by omega)]
theorem land_two (a b i k : Nat) (hi : i < 2) (hk : k < 2) : (2 * a + i) &&& (2 * b + k) = 2 * (a &&& b) + (i &&& k) := by
  apply Nat.eq_of_testBit_eq
  intro j
  have hik : i &&& k < 2 := Nat.lt_of_le_of_lt Nat.and_le_left hi
  cases j with
  | zero =>
    rw [Nat.testBit_and, Nat.testBit_zero, Nat.testBit_zero, Nat.testBit_zero]
    have : i = 0 ∨ i = 1 := by omega
    have : k = 0 ∨ k = 1 := by omega
    rcases ‹i = 0 ∨ i = 1› with rfl | rfl <;> rcases ‹k = 0 ∨ k = 1› with rfl | rfl <;> simp <;> omega
  | succ j =>
    rw [Nat.testBit_and, Nat.testBit_succ, Nat.testBit_succ, Nat.testBit_succ, show (2 * a + i) / 2 = a by omega, show (2 * b + k) / 2 = b by omega, show (2 * (a &&& b) + (i &&& k)) / 2 = (a &&& b) by omega, Nat.testBit_and]
theorem compl_land : ∀ (v y : Nat), y < 2 ^ v → y &&& (2 ^ v - 1 - y) = 0
  | 0, y, h => by have : y = 0 := by simpa using h
                  subst this; simp
  | v + 1, y, h => by
    have hp : 2 ^ (v + 1) = 2 * 2 ^ v := by rw [Nat.pow_succ]; omega
    have ih := compl_land v (y / 2) (by omega)
    have e1 : y = 2 * (y / 2) + y % 2 := by omega
    have e2 : 2 ^ (v + 1) - 1 - y = 2 * (2 ^ v - 1 - y / 2) + (1 - y % 2) := by omega
    rw [e2]
    conv => lhs; lhs; rw [e1]
    rw [land_two _ _ _ _ (by omega) (by omega), ih]
    have : y % 2 = 0 ∨ y % 2 = 1 := by omega
    rcases this with h | h <;> rw [h] <;> rfl
theorem neg_land : ∀ (v x : Nat), 0 < x → x < 2 ^ v → x &&& (2 ^ v - x) = 2 ^ tz x
  | 0, x, h, h2 => by simp at h2; omega
  | v + 1, x, h, h2 => by
    have hp : 2 ^ (v + 1) = 2 * 2 ^ v := by rw [Nat.pow_succ]; omega
    by_cases ho : x % 2 = 1
    · have e1 : x = 2 * (x / 2) + 1 := by omega
      have e2 : 2 ^ (v + 1) - x = 2 * (2 ^ v - 1 - x / 2) + 1 := by omega
      rw [tz_odd ho, e2]
      conv => lhs; lhs; rw [e1]
      rw [land_two _ _ _ _ (by omega) (by omega), compl_land v (x / 2) (by omega)]; rfl
    · have he : x % 2 = 0 := by omega
      have e1 : x = 2 * (x / 2) + 0 := by omega
      have e2 : 2 ^ (v + 1) - x = 2 * (2 ^ v - x / 2) + 0 := by omega
      rw [tz_even (by omega) he, e2, Nat.pow_succ]
      conv => lhs; lhs; rw [e1]
      rw [land_two _ _ _ _ (by omega) (by omega), neg_land v (x / 2) (by omega) (by omega)]
      simp; omega
theorem pred_odd {x : Nat} (h : x % 2 = 1) : x &&& (x - 1) = 2 * (x / 2) := by
  have e1 : x = 2 * (x / 2) + 1 := by omega
  have e2 : x - 1 = 2 * (x / 2) + 0 := by omega
  rw [e2]
  conv => lhs; lhs; rw [e1]
  rw [land_two _ _ _ _ (by omega) (by omega), Nat.and_self]; rfl
theorem pred_even {x : Nat} (h0 : x ≠ 0) (h : x % 2 = 0) : x &&& (x - 1) = 2 * ((x / 2) &&& (x / 2 - 1)) := by
  have e1 : x = 2 * (x / 2) + 0 := by omega
  have e2 : x - 1 = 2 * (x / 2 - 1) + 1 := by omega
  rw [e2]
  conv => lhs; lhs; rw [e1]
  rw [land_two _ _ _ _ (by omega) (by omega)]; simp
theorem pred_lt {x : Nat} (h0 : x ≠ 0) : x &&& (x - 1) < x := Nat.lt_of_le_of_lt Nat.and_le_right (by omega)
theorem tz_lt : ∀ (v x : Nat), x ≠ 0 → x < 2 ^ v → tz x < v
  | 0, x, h, h2 => by simp at h2; omega
  | v + 1, x, h, h2 => by
    have hp : 2 ^ (v + 1) = 2 * 2 ^ v := by rw [Nat.pow_succ]; omega
    by_cases ho : x % 2 = 1
    · rw [tz_odd ho]; omega
    · rw [tz_even h (by omega)]
      have := tz_lt v (x / 2) (by omega) (by omega); omega
def bsum : List Int → Nat → Int
  | [], _ => 0
  | w :: ws, x => (if x % 2 = 1 then w else 0) + bsum ws (x / 2)
theorem bsum_zero : ∀ ws : List Int, bsum ws 0 = 0
  | [] => rfl
  | w :: ws => by simp [bsum, bsum_zero ws]
theorem bsum_low : ∀ (ws : List Int) (x : Nat), x ≠ 0 → x < 2 ^ ws.length → ∃ w, ws[tz x]? = some w ∧ bsum ws x = w + bsum ws (x &&& (x - 1))
  | [], x, h, h2 => by simp at h2; omega
  | w :: ws, x, h, h2 => by
    have hp : 2 ^ (ws.length + 1) = 2 * 2 ^ ws.length := by rw [Nat.pow_succ]; omega
    rw [List.length_cons] at h2
    by_cases ho : x % 2 = 1
    · refine ⟨w, by rw [tz_odd ho]; rfl, ?_⟩
      rw [pred_odd ho]
      simp only [bsum, ho, if_true]
      rw [if_neg (by omega), show 2 * (x / 2) / 2 = x / 2 by omega]; omega
    · have he : x % 2 = 0 := by omega
      obtain ⟨w', k1, k2⟩ := bsum_low ws (x / 2) (by omega) (by omega)
      refine ⟨w', by rw [tz_even h he]; simpa using k1, ?_⟩
      rw [pred_even h he]
      simp only [bsum]
      rw [if_neg ho, if_neg (by omega), k2, show 2 * (x / 2 &&& (x / 2 - 1)) / 2 = (x / 2 &&& (x / 2 - 1)) by omega]; omega
open Go.RowKit
section
variable {o : AOper} {x : L3}
theorem six_ex {s : ByteArray} {m : Int} (h : 0 ≤ m ∧ m < s.size) : ∃ b, s[Int.toNat m]? = some b := by
  have : Int.toNat m < s.size := by omega
  exact ⟨_, getElem?_pos s (Int.toNat m) this⟩
theorem opE_six (s : ByteArray) (a i : Arg) (q : IntKind) (m : Int) (b : UInt8) (ho : o.ao = .six a i) (hg : guardA (slot x.t) o.guard = some true) (ha : argσ (slot x.t) a = .v (.string s)) (hi : argσ (slot x.t) i = .v (.int q m)) (h0 : 0 ≤ m) (hb : s[Int.toNat m]? = some b) :
    opE o x = .done (.v (.int .u8 b.toNat)) [] [] := by
  have hs : (AO.six a i).sem x.m.length (argσ (slot x.t)) = .opt (s[Int.toNat m]?.map fun b => .done (.v (.int .u8 b.toNat)) []) := by simp [AO.sem, ha, hi, natOf, h0]
  exact opE_sem _ (acc := []) (see := []) ho hg (by rw [hs]; simp [RM.run, hb, RM.opt]) (by rw [hs]; simp [RM.acc, hb, RM.opt]) (by rw [hs]; simp [RM.see, hb, RM.opt])
theorem opE_iapP (sz ln : Nat) (a i : Arg) (cs : List AV) (off : Nat) (q : IntKind) (m : Int) (ho : o.ao = .iap sz ln a i) (hg : guardA (slot x.t) o.guard = some true) (ha : argσ (slot x.t) a = .pim cs off) (hi : argσ (slot x.t) i = .v (.int q m)) (h0 : 0 ≤ m ∧ m < ln) : opE o x = .done (.pim cs (off + Int.toNat m * sz)) [] [] := by
  have hs : (AO.iap sz ln a i).sem x.m.length (argσ (slot x.t)) = .ret (.done (.pim cs (off + Int.toNat m * sz)) []) := by simp [AO.sem, ha, hi, h0]
  exact opE_sem _ (acc := []) (see := []) ho hg (by rw [hs]; simp [RM.run]) (by rw [hs]; simp [RM.acc]) (by rw [hs]; simp [RM.see])
theorem opE_ldP (mm : Option Nat) (a : Arg) (cs : List AV) (off : Nat) (v : AV) (ho : o.ao = .load mm a) (hg : guardA (slot x.t) o.guard = some true) (ha : argσ (slot x.t) a = .pim cs off) (hv : getCells cs off mm = some v) : opE o x = .done v [] [] := by
  have hs : (AO.load mm a).sem x.m.length (argσ (slot x.t)) = .opt ((getCells cs off mm).map fun a => .done a []) := by simp [AO.sem, ha]
  exact opE_sem _ (acc := []) (see := []) ho hg (by rw [hs]; simp [RM.run, hv, RM.opt]) (by rw [hs]; simp [RM.acc, hv, RM.opt]) (by rw [hs]; simp [RM.see, hv, RM.opt])
end
def len8 (m : Nat) : Nat := if m = 0 then 0 else Nat.log2 m + 1
def l8s : ByteArray := ⟨#[0, 1, 2, 2, 3, 3, 3, 3, 4, 4, 4, 4, 4, 4, 4, 4, 5, 5, 5, 5, 5, 5, 5, 5, 5, 5, 5, 5, 5, 5, 5, 5, 6, 6, 6, 6, 6, 6, 6, 6, 6, 6, 6, 6, 6, 6, 6, 6, 6, 6, 6, 6, 6, 6, 6, 6, 6, 6, 6, 6, 6, 6, 6, 6, 7, 7, 7, 7, 7, 7, 7, 7, 7, 7, 7, 7, 7, 7, 7, 7, 7, 7, 7, 7, 7, 7, 7, 7, 7, 7, 7, 7, 7, 7, 7, 7, 7, 7, 7, 7, 7, 7, 7, 7, 7, 7, 7, 7, 7, 7, 7, 7, 7, 7, 7, 7, 7, 7, 7, 7, 7, 7, 7, 7, 7, 7, 7, 7, 8, 8, 8, 8, 8, 8, 8, 8, 8, 8, 8, 8, 8, 8, 8, 8, 8, 8, 8, 8, 8, 8, 8, 8, 8, 8, 8, 8, 8, 8, 8, 8, 8, 8, 8, 8, 8, 8, 8, 8, 8, 8, 8, 8, 8, 8, 8, 8, 8, 8, 8, 8, 8, 8, 8, 8, 8, 8, 8, 8, 8, 8, 8, 8, 8, 8, 8, 8, 8, 8, 8, 8, 8, 8, 8, 8, 8, 8, 8, 8, 8, 8, 8, 8, 8, 8, 8, 8, 8, 8, 8, 8, 8, 8, 8, 8, 8, 8, 8, 8, 8, 8, 8, 8, 8, 8, 8, 8, 8, 8, 8, 8, 8, 8, 8, 8, 8, 8, 8, 8, 8, 8, 8, 8, 8, 8, 8, 8]⟩
set_option maxRecDepth 100000 in
theorem l8_all : ((List.range 256).all fun m => (l8s.data[m]?.map UInt8.toNat) == some (len8 m)) = true := by kernel_rfl
theorem l8_get {m : Nat} (h : m < 256) {b : UInt8} (hb : l8s[m]? = some b) : b.toNat = len8 m := by
  have h1 := List.all_eq_true.1 l8_all m (List.mem_range.2 h)
  have h2 : l8s.data[m]? = some b := by
    have hs : m < l8s.size := by
      by_cases hh : m < l8s.size
      · exact hh
      · rw [getElem?_neg l8s m hh] at hb; simp at hb
    rw [getElem?_pos l8s m hs] at hb
    rw [Array.getElem?_eq_getElem (by exact hs)]
    exact hb
  rw [h2] at h1
  simpa using h1
def len64 (n : Nat) : Nat := if n = 0 then 0 else Nat.log2 n + 1
theorem len64_gt {n k : Nat} : k < len64 n ↔ 2 ^ k ≤ n := by
  unfold len64
  by_cases h : n = 0
  · subst h; simp
  · rw [if_neg h, Nat.lt_succ_iff, Nat.le_log2 h]
theorem len64_shift {n k : Nat} (h : 2 ^ k ≤ n) : len64 n = len64 (n / 2 ^ k) + k := by
  have hp := Nat.two_pow_pos k
  have h0 : n ≠ 0 := by omega
  have h1 : n / 2 ^ k ≠ 0 := by have := Nat.div_pos h hp; omega
  have e : ∀ j, j < len64 n ↔ j < len64 (n / 2 ^ k) + k := fun j => by
    rw [len64_gt]
    by_cases hj : j < k
    · have := Nat.pow_le_pow_right (n := 2) (by omega) (Nat.le_of_lt hj)
      constructor <;> intro _ <;> omega
    · obtain ⟨i, rfl⟩ : ∃ i, j = i + k := ⟨j - k, by omega⟩
      rw [Nat.add_lt_add_iff_right, len64_gt, Nat.le_div_iff_mul_le hp, Nat.pow_add]
  have a := e (len64 n)
  have b := e (len64 (n / 2 ^ k) + k)
  omega
theorem gl_ld {i : Nat} (h : i < glZ.length) : getCells glC (0 + i * 1) none = some (.v (.int .u8 (glZ.getD i 0))) := by
  rw [Nat.zero_add, Nat.mul_one]; exact glT_get h
set_option maxRecDepth 100000 in
theorem gl_all : ((List.range 64).all fun k => decide ((IntKind.u64.wrap (((2 ^ k : Nat) : Int) * 285870213051353865)).fdiv (2 ^ (min 58 IntKind.u64.bits)) < 64) && decide (0 ≤ (IntKind.u64.wrap (((2 ^ k : Nat) : Int) * 285870213051353865)).fdiv (2 ^ (min 58 IntKind.u64.bits))) && glZ.getD (Int.toNat ((IntKind.u64.wrap (((2 ^ k : Nat) : Int) * 285870213051353865)).fdiv (2 ^ (min 58 IntKind.u64.bits)))) 0 == (k : Int)) = true := by kernel_rfl
theorem gl_at {k : Nat} (h : k < 64) : (0 ≤ (IntKind.u64.wrap (((2 ^ k : Nat) : Int) * 285870213051353865)).fdiv (2 ^ (min 58 IntKind.u64.bits)) ∧ (IntKind.u64.wrap (((2 ^ k : Nat) : Int) * 285870213051353865)).fdiv (2 ^ (min 58 IntKind.u64.bits)) < 64) ∧ glZ.getD (Int.toNat ((IntKind.u64.wrap (((2 ^ k : Nat) : Int) * 285870213051353865)).fdiv (2 ^ (min 58 IntKind.u64.bits)))) 0 = (k : Int) := by
  have h1 := List.all_eq_true.1 gl_all k (List.mem_range.2 h)
  simp only [Bool.and_eq_true, decide_eq_true_eq, beq_iff_eq] at h1
  exact ⟨⟨h1.1.2, h1.1.1⟩, h1.2⟩
theorem neg_bits {x : Nat} (h0 : x ≠ 0) (h : x < 18446744073709551616) : bits .and .u64 (x : Int) (IntKind.u64.wrap (0 - (x : Int))) = ((2 ^ tz x : Nat) : Int) := by
  have e : IntKind.u64.wrap (0 - (x : Int)) = ((18446744073709551616 - x : Nat) : Int) := by rw [IntKind.wrap_u64]; omega
  rw [e, bits_and_u64_nat x _ h (by omega)]
  have := neg_land 64 x (by omega) (by simpa using h)
  rw [show (2 : Nat) ^ 64 = 18446744073709551616 by decide] at this
  rw [this]
def lsum : List Int → Int
  | [] => 0
  | a :: r => a + lsum r
theorem lsum_append : ∀ (a b : List Int), lsum (a ++ b) = lsum a + lsum b
  | [], b => by simp [lsum]
  | x :: a, b => by simp only [List.cons_append, lsum, lsum_append a b]; omega
theorem lsum_perm {a b : List Int} (h : a.Perm b) : lsum a = lsum b := by
  induction h with
  | nil => rfl
  | cons x _ ih => simp only [lsum, ih]
  | swap x y l => simp only [lsum]; omega
  | trans _ _ h1 h2 => exact h1.trans h2
def insR (x : Int) : List Int → List Int
  | [] => [x]
  | a :: r => if a < x then a :: insR x r else x :: a :: r
def srtGo : List Int → List Int → List Int
  | acc, [] => acc
  | acc, x :: r => srtGo (insR x acc) r
def srtD (ws : List Int) : List Int := (srtGo [] ws).reverse
theorem insR_perm (x : Int) : ∀ l, (insR x l).Perm (x :: l)
  | [] => .refl _
  | a :: r => by
    unfold insR
    split
    · exact ((insR_perm x r).cons a).trans (List.Perm.swap x a r)
    · exact .refl _
theorem srtGo_perm : ∀ (ws acc : List Int), (srtGo acc ws).Perm (acc ++ ws)
  | [], acc => by simp [srtGo]
  | x :: r, acc => by
    refine (srtGo_perm r (insR x acc)).trans ?_
    refine ((insR_perm x acc).append_right r).trans ?_
    rw [List.cons_append]
    exact List.perm_middle.symm
theorem srtD_perm (ws : List Int) : (srtD ws).Perm ws := (List.reverse_perm _).trans (by simpa using srtGo_perm ws [])
theorem srtD_len (ws : List Int) : (srtD ws).length = ws.length := (srtD_perm ws).length_eq
theorem insR_sorted (x : Int) : ∀ {l : List Int}, l.Pairwise (· ≤ ·) → (insR x l).Pairwise (· ≤ ·)
  | [], _ => by simp [insR]
  | a :: r, h => by
    unfold insR
    rw [List.pairwise_cons] at h
    split
    · rw [List.pairwise_cons]
      refine ⟨fun b hb => ?_, insR_sorted x h.2⟩
      rcases List.mem_cons.1 ((insR_perm x r).mem_iff.1 hb) with rfl | hb
      · omega
      · exact h.1 b hb
    · rw [List.pairwise_cons]
      refine ⟨fun b hb => ?_, by rw [List.pairwise_cons]; exact h⟩
      rcases List.mem_cons.1 hb with rfl | hb
      · omega
      · have := h.1 b hb; omega
theorem srtGo_sorted : ∀ (ws acc : List Int), acc.Pairwise (· ≤ ·) → (srtGo acc ws).Pairwise (· ≤ ·)
  | [], _, h => h
  | x :: r, acc, h => srtGo_sorted r _ (insR_sorted x h)
theorem srtD_sorted (ws : List Int) : (srtD ws).Pairwise (· ≥ ·) := by
  unfold srtD; rw [List.pairwise_reverse]; exact srtGo_sorted ws [] .nil
def hvG : List Int → Int → Nat
  | [], _ => 0
  | a :: r, n => if n ≤ 0 then 0 else hvG r (n - a) + 1
def heavyP (ws : List Int) (need : Int) : Nat := hvG (srtD ws) need
theorem hvG_le : ∀ (l : List Int) (n : Int), hvG l n ≤ l.length
  | [], _ => by simp [hvG]
  | a :: r, n => by
    unfold hvG; split
    · simp
    · have := hvG_le r (n - a); simp only [List.length_cons]; omega
theorem hvG_less : ∀ (l : List Int) (n : Int) (m : Nat), m < hvG l n → lsum (l.take m) < n
  | [], _, _, h => by simp [hvG] at h
  | a :: r, n, m, h => by
    unfold hvG at h; split at h
    · omega
    · cases m with
      | zero => simp [lsum]; omega
      | succ m =>
        have := hvG_less r (n - a) m (by omega)
        simp only [List.take_succ_cons, lsum]; omega
theorem take_head : ∀ (r : List Int) (a : Int) (m : Nat), (∀ b, b ∈ r → b ≤ a) → 0 ≤ a → r.Pairwise (· ≥ ·) → lsum (r.take (m + 1)) ≤ a + lsum (r.take m)
  | [], a, m, _, h0, _ => by simp [lsum]; exact h0
  | b :: r, a, 0, h, h0, _ => by simp [lsum]; exact h b (by simp)
  | b :: r, a, m + 1, h, h0, hp => by
    rw [List.pairwise_cons] at hp
    have ih := take_head r a m (fun c hc => h c (List.mem_cons_of_mem _ hc)) h0 hp.2
    simp only [List.take_succ_cons, lsum] at ih ⊢
    omega
theorem sub_top {l d : List Int} (h : l.Sublist d) (hp : d.Pairwise (· ≥ ·)) (h0 : ∀ w, w ∈ d → 0 ≤ w) : lsum l ≤ lsum (d.take l.length) := by
  induction h with
  | slnil => simp
  | @cons l d a h ih =>
    rw [List.pairwise_cons] at hp
    have ih := ih hp.2 fun w hw => h0 w (List.mem_cons_of_mem _ hw)
    cases hl : l.length with
    | zero => have := List.length_eq_zero_iff.1 hl; subst this; simp [lsum]
    | succ m =>
      rw [hl] at ih
      have := take_head d a m hp.1 (h0 a (by simp)) hp.2
      simp only [List.take_succ_cons, lsum]; omega
  | @cons_cons l d a h ih =>
    rw [List.pairwise_cons] at hp
    have ih := ih hp.2 fun w hw => h0 w (List.mem_cons_of_mem _ hw)
    simp only [List.length_cons, List.take_succ_cons, lsum]; omega
def sel : List Int → Nat → List Int
  | [], _ => []
  | w :: ws, x => if x % 2 = 1 then w :: sel ws (x / 2) else sel ws (x / 2)
theorem sel_sum : ∀ (ws : List Int) (x : Nat), lsum (sel ws x) = bsum ws x
  | [], _ => rfl
  | w :: ws, x => by
    unfold sel bsum
    split
    · simp only [lsum, sel_sum ws]
    · simp only [sel_sum ws]; omega
theorem sel_sub : ∀ (ws : List Int) (x : Nat), (sel ws x).Sublist ws
  | [], _ => .slnil
  | w :: ws, x => by
    unfold sel; split
    · exact (sel_sub ws _).cons_cons w
    · exact (sel_sub ws _).cons w
def bsize : Nat → Nat → Nat
  | 0, _ => 0
  | n + 1, x => x % 2 + bsize n (x / 2)
theorem sel_len : ∀ (ws : List Int) (x : Nat), (sel ws x).length = bsize ws.length x
  | [], _ => rfl
  | w :: ws, x => by
    unfold sel bsize
    have : x % 2 = 0 ∨ x % 2 = 1 := by omega
    rcases this with h | h <;> simp [h, sel_len ws] <;> omega
theorem heavy_min {ws : List Int} {need : Int} {x : Nat} (h0 : ∀ w, w ∈ ws → 0 ≤ w) (h : need ≤ bsum ws x) : heavyP ws need ≤ bsize ws.length x := by
  by_cases hh : heavyP ws need ≤ bsize ws.length x
  · exact hh
  · exfalso
    obtain ⟨l, h1, h2⟩ := List.exists_perm_sublist (sel_sub ws x) (srtD_perm ws).symm
    have h3 := sub_top h2 (srtD_sorted ws) fun w hw => h0 w ((srtD_perm ws).mem_iff.1 hw)
    rw [lsum_perm h1, sel_sum, h1.length_eq, sel_len] at h3
    have h4 := hvG_less (srtD ws) need (bsize ws.length x) (by unfold heavyP at hh; omega)
    omega
end Go.Proofs.YtpagdlhlfmenmaaDoor
