/- The state put in order: blocks renamed or forgotten, slots in a given order. No condition. -/
import Derived.Test.YtgepadjkegfokaaDoorPAvSide
set_option linter.unusedSimpArgs false
set_option linter.unusedVariables false
namespace Go.Proofs.YtgepadjkegfokaaDoor
set_option linter.unusedSimpArgs false
set_option linter.unusedVariables false
open Go.RowKit
/-- Where a block comes from: an old one, or an empty list. -/
inductive Src0 where
  | old (id : Nat) (raw : Bool)
  | new (sz : Nat)
def newOf : List Src0 → Nat → Nat → Option Nat
  | [], _, _ => none
  | .old i _ :: r, j, id => bif Nat.beq i id then some j else newOf r (j + 1) id
  | .new _ :: r, j, id => newOf r (j + 1) id
def ren (ρ : Nat → Option Nat) : Nat → AV → AV
  | 0, _ => .dead
  | d + 1, .agg cs => .agg (cs.map (ren ρ d))
  | d + 1, .tup cs => .tup (cs.map (ren ρ d))
  | d + 1, .fn f cs => .fn f (cs.map (ren ρ d))
  | d + 1, .bf f cs => .bf f (cs.map (ren ρ d))
  | d + 1, .yld r cs => .yld r (cs.map (ren ρ d))
  | _ + 1, .ref id sz i o => match ρ id with
    | some j => .ref j sz i o
    | none => .dead
  | _ + 1, .own id sz off n => match ρ id with
    | some j => .own j sz off n
    | none => .dead
  | _ + 1, .mp id => match ρ id with
    | some j => .mp j
    | none => .dead
  | _ + 1, a => a
def renB (ρ : Nat → Option Nat) (B : Bk) : Bk := ⟨B.sz, B.els.map fun cs => cs.map (ren ρ 3)⟩
def rhoOf (m : List (Option Bk)) (src : List Src0) (id : Nat) : Option Nat := bif (look m id).isSome then newOf src 0 id else none
def renS (ρ : Nat → Option Nat) (src : List Src0) (es : List (Nat × Nat)) (j : Nat) (a : AV) : AV :=
  match a, es.lookup j with
  | .emp, some i => match src[i]? with
    | some (.new sz) => .own i sz 0 0
    | _ => .emp
  | a, _ => ren ρ 4 a
def blkOf (m : List (Option Bk)) (src : List Src0) : Src0 → Option Bk
  | .old i raw => (look m i).map fun B => bif raw then B else renB (rhoOf m src) B
  | .new sz => some ⟨sz, []⟩
def srcOK (k0 : Nat) (src : List Src0) : Bool :=
  (List.range src.length).all (fun i => match src[i]? with
    | some (.old id _) => match newOf src 0 id with
      | some j => Nat.beq j i
      | none => false
    | some (.new sz) => Nat.ble 1 sz
    | _ => true) && (List.range k0).all fun i => match src[i]? with
    | some (.old id _) => Nat.beq id i
    | _ => false
/-- The slots wanted, in this order; the blocks wanted, in this order. -/
def normL (k0 : Nat) (live : List Nat) (src : List Src0) (es : List (Nat × Nat)) (x : L3) : Option L3 :=
  bif srcOK k0 src then some ⟨live.map fun j => (j, renS (rhoOf x.m src) src es j (slot x.t j)), src.map (blkOf x.m src)⟩ else none
def lnOf (ln : Nat → Nat) : Option Src0 → Nat
  | some (.old id _) => ln id
  | _ => 0
def locOf (loc : Nat → Option Nat) : Option Src0 → Option Nat
  | some (.old id _) => loc id
  | _ => none
theorem emp_inv {E : Env} {v : Value} (h : Rep E v .emp) : ∃ A, v = .slice A 0 0 := by
  cases h with
  | emp => exact ⟨_, rfl⟩
theorem newOf_src : ∀ (src : List Src0) (k id j : Nat), newOf src k id = some j → k ≤ j ∧ ∃ raw, src[j - k]? = some (.old id raw)
  | [], k, id, j, h => by simp [newOf] at h
  | .old i raw :: r, k, id, j, h => by
    simp only [newOf] at h
    cases hb : Nat.beq i id with
    | true =>
      rw [hb] at h
      simp only [cond_true, Option.some.injEq] at h
      subst h
      have := Nat.eq_of_beq_eq_true hb
      subst this
      exact ⟨by omega, raw, by simp⟩
    | false =>
      rw [hb, cond_false] at h
      obtain ⟨h1, h2⟩ := newOf_src r (k + 1) id j h
      refine ⟨by omega, ?_⟩
      rw [show j - k = (j - (k + 1)) + 1 by omega, List.getElem?_cons_succ]
      exact h2
  | .new _ :: r, k, id, j, h => by
    simp only [newOf] at h
    obtain ⟨h1, h2⟩ := newOf_src r (k + 1) id j h
    refine ⟨by omega, ?_⟩
    rw [show j - k = (j - (k + 1)) + 1 by omega, List.getElem?_cons_succ]
    exact h2
theorem slot_map (G : Nat → AV) : ∀ (live : List Nat) (i : Nat), slot (live.map fun j => (j, G j)) i = G i ∨ slot (live.map fun j => (j, G j)) i = .dead
  | [], i => .inr rfl
  | j :: r, i => by
    simp only [List.map_cons, slot]
    cases hb : Nat.beq i j with
    | true =>
      have := Nat.eq_of_beq_eq_true hb
      subst this
      exact .inl rfl
    | false => exact slot_map G r i
theorem look_map (m : List (Option Bk)) (src : List Src0) (i : Nat) : look (src.map (blkOf m src)) i = (src[i]?).bind (blkOf m src) := by
  unfold look
  rw [List.getElem?_map]
  cases src[i]? <;> simp
section
variable {E E' : Env} {ρ : Nat → Option Nat}
theorem ren_rep (hI : E'.I = E.I) (hw : E'.w = E.w) (hg : ∀ l, E.rg l → E'.rg l) (hρ : ∀ id j, ρ id = some j → E'.kn j ∧ ¬ E'.dead j ∧ E'.loc j = E.loc id ∧ ¬ E.dead id ∧ E'.ln j = E.ln id) : ∀ (d : Nat) {v : Value} {a : AV}, Rep E v a → Rep E' v (ren ρ d a) := by
  have hp : ∀ {v : Value} {a : AV}, Rep E v a → Pu a → Rep E' v a := fun h hp => h.pure (fun b hb => ⟨by rw [hI]; exact hb, fun o => by rw [hw]⟩) hp
  intro d
  induction d with
  | zero => intro v a h; exact .dead
  | succ d ih =>
    have ihm : ∀ {vs : Array Value} {cs : List AV}, vs.size = cs.length → (∀ (i : Nat) v c, vs[i]? = some v → cs[i]? = some c → Rep E v c) → vs.size = (cs.map (ren ρ d)).length ∧ ∀ (i : Nat) v c, vs[i]? = some v → (cs.map (ren ρ d))[i]? = some c → Rep E' v c := by
      intro vs cs hl h
      refine ⟨by simpa using hl, fun i v c hv hc => ?_⟩
      rw [List.getElem?_map, Option.map_eq_some_iff] at hc
      obtain ⟨c0, hc0, rfl⟩ := hc
      exact ih (h i v c0 hv hc0)
    intro v a h
    cases a with
    | v x => exact hp h .v
    | agg cs => cases h with | agg hl hh => obtain ⟨q1, q2⟩ := ihm hl hh; exact .agg q1 q2
    | tup cs => cases h with | tup hl hh => obtain ⟨q1, q2⟩ := ihm hl hh; exact .tup q1 q2
    | fn f cs => cases h with | fn hl hh => obtain ⟨q1, q2⟩ := ihm hl hh; exact .fn q1 q2
    | bf f cs => cases h with | bf hl hh => obtain ⟨q1, q2⟩ := ihm hl hh; exact .bf q1 q2
    | yld r cs => cases h with | yld h1 h2 h3 hl hh => obtain ⟨q1, q2⟩ := ihm hl hh; exact .yld (hg _ h1) (by rw [hI]; exact h2) (by rw [hw]; exact h3) q1 q2
    | lst sz els => exact hp h .lst
    | tls sz els => exact hp h .tls
    | emp => exact hp h .emp
    | pim cs o => exact hp h .pim
    | anyb => exact hp h .anyb
    | dead => exact .dead
    | ref id sz i o =>
      simp only [ren]
      cases hr : ρ id with
      | none => exact .dead
      | some j =>
        obtain ⟨r1, r2, r3, r4, r5⟩ := hρ id j hr
        cases h with
        | ref hi hd hb hq => exact .ref r1 r2 (r3.trans hb) hq
        | staleR hi hd ho => exact absurd hd r4
    | own id sz off n =>
      simp only [ren]
      cases hr : ρ id with
      | none => exact .dead
      | some j =>
        obtain ⟨r1, r2, r3, r4, r5⟩ := hρ id j hr
        cases h with
        | own hi hd hb hq hs hm hl hc hln => exact .own r1 r2 (r3.trans hb) hq (by rw [hw]; exact hs) hm hl hc (by rw [r5]; exact hln)
        | own0 hi hd hb hln => exact .own0 r1 r2 (r3.trans hb) (r5.trans hln)
        | staleO hi hd ho => exact absurd hd r4
    | mp id =>
      simp only [ren]
      cases hr : ρ id with
      | none => exact .dead
      | some j =>
        obtain ⟨r1, r2, r3, r4, r5⟩ := hρ id j hr
        cases h with
        | mp hi hd hb => exact .mp r1 r2 (r3.trans hb)
        | staleP hi hd ho => exact absurd hd r4
end
/-- The blocks that are taken as they are name no own block. -/
def PuS (m : List (Option Bk)) : List Src0 → Prop
  | [] => True
  | .old id true :: r => (∃ (α : Type) (f : α → List AV) (xs : List α) (sz : Nat), look m id = some ⟨sz, xs.map f⟩ ∧ ∀ y, (f y).all AV.pu1 = true) ∧ PuS m r
  | _ :: r => PuS m r
abbrev PuE (m : List (Option Bk)) (id : Nat) : Prop := ∃ (α : Type) (f : α → List AV) (xs : List α) (sz : Nat), look m id = some ⟨sz, xs.map f⟩ ∧ ∀ y, (f y).all AV.pu1 = true
theorem pu {α : Type} {m : List (Option Bk)} {id : Nat} (sz : Nat) (f : α → List AV) (xs : List α) (h : look m id = some ⟨sz, xs.map f⟩) (hp : ∀ y, (f y).all AV.pu1 = true) : PuE m id := ⟨α, f, xs, sz, h, hp⟩
theorem PuS.get {m : List (Option Bk)} : ∀ {src : List Src0}, PuS m src → ∀ (i id : Nat), src[i]? = some (.old id true) → ∀ B, look m id = some B → ∀ cs, cs ∈ B.els → ∀ c, c ∈ cs → Pu c
  | [], _, i, id, h, B, hB, cs, hcs, c, hc => by simp at h
  | .new _ :: r, hp, i, id, h, B, hB, cs, hcs, c, hc => by
    cases i with
    | zero => simp at h
    | succ i => exact PuS.get (src := r) hp i id (by simpa using h) B hB cs hcs c hc
  | .old _ false :: r, hp, i, id, h, B, hB, cs, hcs, c, hc => by
    cases i with
    | zero => simp at h
    | succ i => exact PuS.get (src := r) hp i id (by simpa using h) B hB cs hcs c hc
  | .old _ true :: r, hp, i, id, h, B, hB, cs, hcs, c, hc => by
    cases i with
    | zero =>
      simp only [List.getElem?_cons_zero, Option.some.injEq, Src0.old.injEq, and_true] at h
      subst h
      obtain ⟨⟨α, f, xs, sz, h1, h2⟩, _⟩ := hp
      rw [h1] at hB
      simp only [Option.some.injEq] at hB
      subst hB
      simp only [List.mem_map] at hcs
      obtain ⟨y, _, rfl⟩ := hcs
      have := h2 y
      simp only [List.all_eq_true] at this
      exact AV.pu1_pu (this c hc)
    | succ i => exact PuS.get (src := r) hp.2 i id (by simpa using h) B hB cs hcs c hc
theorem Mk.same {E E' : Env} (hI : E'.I = E.I) (hw : E'.w = E.w) {lo : Nat} {ds : List Deferred} (h : Mk E lo ds) : Mk E' lo ds := by
  induction h with
  | nil => exact .nil
  | cons h1 hD hh hne t ih => exact .cons (by rw [hI]; exact h1) hD (by rw [hw]; exact hh) hne ih
theorem norm_le {n k0 : Nat} {live : List Nat} {src : List Src0} {es : List (Nat × Nat)} {x y : L3} (h : normL k0 live src es x = some y) (hpu : PuS x.m src) : x.s.Le k0 n y.s := by
  have hp := hpu.get
  unfold normL at h
  cases hok : srcOK k0 src with
  | false => rw [hok] at h; simp at h
  | true =>
  rw [hok, cond_true, Option.some.injEq] at h
  subst h
  simp only [srcOK, Bool.and_eq_true, List.all_eq_true, List.mem_range] at hok
  obtain ⟨ok1, ok2⟩ := hok
  have inj : ∀ i id raw, src[i]? = some (.old id raw) → newOf src 0 id = some i := by
    intro i id raw hi
    have hlt : i < src.length := (List.getElem?_eq_some_iff.1 hi).1
    have := ok1 i hlt
    rw [hi] at this
    simp only at this
    cases hn : newOf src 0 id with
    | none => rw [hn] at this; simp at this
    | some j => rw [hn] at this; simp only at this; rw [Nat.eq_of_beq_eq_true this]
  have low : ∀ i, i < k0 → ∃ raw, src[i]? = some (.old i raw) := by
    intro i hi
    have := ok2 i hi
    cases hs : src[i]? with
    | none => rw [hs] at this; simp at this
    | some q =>
      cases q with
      | old id raw => rw [hs] at this; simp only at this; exact ⟨raw, by rw [Nat.eq_of_beq_eq_true this]⟩
      | new sz => rw [hs] at this; simp at this
  intro E0 J base w0 a w hk hr
  obtain ⟨E, rfl, hle, hs, hm, hkn, hmk⟩ := hr.ex
  let E' : Env := { w := E.w, kn := fun i => i < src.length, loc := fun i => locOf E.loc (src[i]?), dead := fun i => look (src.map (blkOf x.m src)) i = none, I := E.I, ln := fun i => lnOf E.ln (src[i]?), rg := E.rg }
  have hlive : ∀ id, look x.m id ≠ none → E.kn id ∧ ¬ E.dead id := fun id hid => by
    obtain ⟨B, hB⟩ := Option.ne_none_iff_exists'.1 hid
    exact (hm.live id).2 ⟨B, hB⟩
  have hρ : ∀ id j, rhoOf x.m src id = some j → E'.kn j ∧ ¬ E'.dead j ∧ E'.loc j = E.loc id ∧ ¬ E.dead id ∧ E'.ln j = E.ln id := by
    intro id j hj
    unfold rhoOf at hj
    cases hB : look x.m id with
    | none => rw [hB] at hj; simp at hj
    | some B =>
      rw [hB] at hj
      simp only [Option.isSome_some, cond_true] at hj
      obtain ⟨_, raw, h2⟩ := newOf_src src 0 id j hj
      simp only [Nat.sub_zero] at h2
      refine ⟨(List.getElem?_eq_some_iff.1 h2).1, ?_, ?_, (hlive id (by rw [hB]; simp)).2, by show lnOf E.ln (src[j]?) = _; rw [h2]; rfl⟩
      · show ¬ look _ j = none
        rw [look_map, h2]; simp [blkOf, hB]
      · show locOf E.loc (src[j]?) = _
        rw [h2]; rfl
  have hR : ∀ (d : Nat) {v : Value} {a : AV}, Rep E v a → Rep E' v (ren (rhoOf x.m src) d a) := ren_rep (E := E) (E' := E') rfl rfl (fun _ h => h) hρ
  have hget : ∀ i B', look (src.map (blkOf x.m src)) i = some B' → (∃ id raw B, src[i]? = some (.old id raw) ∧ look x.m id = some B ∧ B' = (bif raw then B else renB (rhoOf x.m src) B) ∧ E'.loc i = E.loc id) ∨ (∃ sz, src[i]? = some (.new sz) ∧ B' = ⟨sz, []⟩ ∧ E'.loc i = none) := by
    intro i B' hB'
    rw [look_map] at hB'
    cases hsi : src[i]? with
    | none => rw [hsi] at hB'; simp at hB'
    | some q =>
      rw [hsi] at hB'
      cases q with
      | old id raw =>
        simp only [Option.bind_some, blkOf, Option.map_eq_some_iff] at hB'
        obtain ⟨B, hB, rfl⟩ := hB'
        refine .inl ⟨id, raw, B, rfl, hB, rfl, ?_⟩
        show locOf E.loc (src[i]?) = _
        rw [hsi]; rfl
      | new sz =>
        simp only [Option.bind_some, blkOf, Option.some.injEq] at hB'
        subst hB'
        refine .inr ⟨sz, rfl, rfl, ?_⟩
        show locOf E.loc (src[i]?) = _
        rw [hsi]; rfl
  have hM : MemAt E' J base (look (src.map (blkOf x.m src))) := by
    refine ⟨fun i => ?_, fun i B' hB' => ?_, fun i i' b B1 B2 h1 h2 h3 h4 => ?_, fun i b B' hB' hl => ?_, hm.low, hm.size, fun i B' hB' hzz => ?_, hm.rgb⟩
    · show (i < src.length ∧ ¬ look _ i = none) ↔ _
      constructor
      · rintro ⟨_, h2⟩
        exact Option.ne_none_iff_exists'.1 h2
      · rintro ⟨B, hB⟩
        refine ⟨?_, by rw [hB]; simp⟩
        rw [look_map] at hB
        cases hsi : src[i]? with
        | none => rw [hsi] at hB; simp at hB
        | some q => exact (List.getElem?_eq_some_iff.1 hsi).1
    · rcases hget i B' hB' with ⟨id, raw, B, e1, e2, hBB, e4⟩ | ⟨sz, e1, rfl, e3⟩
      · rw [e4]
        have := hm.at_ id B e2
        have hsz : B'.sz = B.sz ∧ B'.els.length = B.els.length := by subst hBB; cases raw <;> simp [renB]
        have hel : ∀ (i : Nat) cs', B'.els[i]? = some cs' → ∃ cs, B.els[i]? = some cs ∧ cs'.length = cs.length ∧ ∀ (j : Nat) c', cs'[j]? = some c' → ∃ c, cs[j]? = some c ∧ ∀ u, Rep E u c → Rep E' u c' := by
          subst hBB
          cases raw with
          | true =>
            intro i' cs hi
            refine ⟨cs, hi, rfl, fun j c hj => ⟨c, hj, fun u hu => ?_⟩⟩
            exact Rep.pure (E := E) (E' := E') (fun b hb => ⟨hb, fun _ => rfl⟩) hu (hp i id e1 B e2 cs (List.mem_of_getElem? hi) c (List.mem_of_getElem? hj))
          | false =>
            intro i' cs' hi
            simp only [cond_false, renB, List.getElem?_map, Option.map_eq_some_iff] at hi
            obtain ⟨cs, hcs, rfl⟩ := hi
            refine ⟨cs, hcs, by simp, fun j c' hj => ?_⟩
            rw [List.getElem?_map, Option.map_eq_some_iff] at hj
            obtain ⟨c, hc, rfl⟩ := hj
            exact ⟨c, hc, fun u hu => hR 3 hu⟩
        cases hl : E.loc id with
        | none =>
          rw [hl] at this
          show B'.els = []
          have h0 : B.els = [] := this
          have := hsz.2
          rw [h0] at this
          exact List.eq_nil_of_length_eq_zero this
        | some b =>
          rw [hl] at this
          obtain ⟨q1, ⟨hz, arr, t, q2, q3, q4⟩ | ⟨hz, ent, clock, q2, q3, q4⟩⟩ := this
          · refine .ofCells ⟨q1, arr, t, q2, by rw [hsz.1, hsz.2]; exact q3, fun i cs' hi => ?_⟩ (by rw [hsz.1]; exact hz)
            obtain ⟨cs, hcs, hlen, hcell⟩ := hel i cs' hi
            obtain ⟨p1, p2⟩ := q4 i cs hcs
            refine ⟨by rw [hlen, hsz.1]; exact p1, fun j c' hj => ?_⟩
            obtain ⟨c, hc, hrep⟩ := hcell j c' hj
            obtain ⟨u, u1, u2, u3⟩ := p2 j c hc
            exact ⟨u, by rw [hsz.1]; exact u1, u2, hrep u u3⟩
          · refine .ofMap ⟨q1, ent, clock, q2, by rw [hsz.2]; exact q3, fun i' e cs' he hi => ?_⟩ (by rw [hsz.1]; exact hz)
            subst hBB
            cases raw with
            | true =>
              obtain ⟨y, k1, k2, k3⟩ := q4 i' e cs' he hi
              refine ⟨y, k1, k2, Rep.pure (E := E) (E' := E') (fun b hb => ⟨hb, fun _ => rfl⟩) k3 (hp i id e1 B e2 cs' (List.mem_of_getElem? hi) y (by rw [k1]; simp))⟩
            | false =>
              simp only [cond_false, renB, List.getElem?_map, Option.map_eq_some_iff] at hi
              obtain ⟨cs, hcs, rfl⟩ := hi
              obtain ⟨y, rfl, k2, k3⟩ := q4 i' e cs he hcs
              exact ⟨ren (rhoOf x.m src) 3 y, rfl, k2, hR 3 k3⟩
      · rw [e3]; rfl
    · rcases hget i B1 h1 with ⟨id, raw, B, e1, e2, _, e4⟩ | ⟨sz, _, _, e3⟩
      · rcases hget i' B2 h2 with ⟨id', raw', B', f1, f2, _, f4⟩ | ⟨sz, _, _, f3⟩
        · rw [e4] at h3; rw [f4] at h4
          have := hm.apart id id' b B B' e2 f2 h3 h4
          subst this
          have a1 := inj i id raw e1
          have a2 := inj i' id raw' f1
          rw [a1] at a2
          exact Option.some.inj a2
        · rw [f3] at h4; simp at h4
      · rw [e3] at h3; simp at h3
    · rcases hget i B' hB' with ⟨id, raw, B, e1, e2, _, e4⟩ | ⟨sz, _, _, e3⟩
      · rw [e4] at hl; exact hm.out id b B e2 hl
      · rw [e3] at hl; simp at hl
    · show _ = lnOf E.ln (src[i]?)
      rcases hget i B' hB' with ⟨id, raw, B, e1, e2, e3, e4⟩ | ⟨sz, e1, e2, e3⟩
      · rw [e1]; show _ = E.ln id
        rw [← hm.len id B e2 (by subst e3; cases raw <;> simpa [renB] using hzz), e3]; cases raw <;> simp [renB]
      · rw [e1, e2]; rfl
  have hE0 : E0.Le E' := by
    have locE : ∀ id, E0.kn id → E'.loc id = E.loc id := fun id hid => by
      show locOf E.loc (src[id]?) = _
      obtain ⟨raw, hl⟩ := low id (hk id hid)
      rw [hl]; rfl
    have deadE : ∀ id, E0.kn id → E.dead id → E'.dead id := fun id hid hd => by
      show look _ id = none
      obtain ⟨raw, hl⟩ := low id (hk id hid)
      rw [look_map, hl]
      cases hB : look x.m id with
      | none => simp [blkOf, hB]
      | some B => exact absurd hd (hlive id (by rw [hB]; simp)).2
    refine ⟨fun id hid => (low id (hk id hid)).elim fun _ hl => (List.getElem?_eq_some_iff.1 hl).1, hle.imm, fun id hid hd => deadE id hid (hle.dead id hid hd), fun id hid hd => ?_, fun id b hid hd hb => ?_, fun id hid hd => ?_, hle.rg⟩
    · rcases hle.loc id hid hd with h | h
      · exact .inl (deadE id hid h)
      · exact .inr ((locE id hid).trans h)
    · rcases hle.shape id b hid hd hb with h | h
      · exact .inl (deadE id hid h)
      · exact .inr h
    · rcases hle.ln id hid hd with h | h
      · exact .inl (deadE id hid h)
      · refine .inr (Eq.trans ?_ h)
        show lnOf E.ln (src[id]?) = _
        obtain ⟨raw, hl⟩ := low id (hk id hid)
        rw [hl]; rfl
  have hmk' : Mk E' w0.heap.size a.defers := Mk.same (E := E) (E' := E') rfl rfl hmk
  refine ⟨⟨E', rfl, hE0, fun t => ?_, hM, fun id hid => ?_, hmk'⟩, hr.size, hr.below, hr.gl⟩
  · show Rep E' _ (slot (live.map fun j => (j, renS (rhoOf x.m src) src es j (slot x.t j))) t)
    rcases slot_map (fun j => renS (rhoOf x.m src) src es j (slot x.t j)) live t with h | h
    · rw [h]
      have ht := hs t
      have ht' : Rep E (a.tmps.getD t undef) (slot x.t t) := ht
      have hdef : Rep E' (a.tmps.getD t undef) (ren (rhoOf x.m src) 4 (slot x.t t)) := hR 4 ht'
      unfold renS
      split
      · rename_i i he hl
        rw [he] at ht'
        split
        · rename_i sz hsz
          obtain ⟨A, hA⟩ := emp_inv ht'
          rw [hA]
          have hB' : look (src.map (blkOf x.m src)) i = some ⟨sz, []⟩ := by rw [look_map, hsz]; rfl
          have hz : sz ≠ 0 := by
            have := ok1 i (List.getElem?_eq_some_iff.1 hsz).1
            rw [hsz] at this
            have := Nat.le_of_ble_eq_true this
            omega
          refine .own0 (List.getElem?_eq_some_iff.1 hsz).1 (by show ¬ look _ i = none; rw [hB']; simp) ?_ ?_
          · show locOf E.loc (src[i]?) = _
            rw [hsz]; rfl
          · show lnOf E.ln (src[i]?) = _
            rw [hsz]; rfl
        · obtain ⟨A, hA⟩ := emp_inv ht'
          rw [hA]
          exact .emp
      · exact hdef
    · rw [h]; exact .dead
  · show id < (src.map _).length
    rw [List.length_map]; exact hid
section
variable {P : Program} {n k0 : Nat} {x : L3} {Q : Ex → L3 → Prop}
/-- A loop whose state is put in order at each round's end. -/
theorem EL.loopN {a : AC} (I : Nat → L3 → Prop) {m : Nat} {y : L3} (live : List Nat) (src : List Src0) (es : List (Nat × Nat)) (hn : normL k0 live src es x = some y) (hpu : PuS x.m src) (h0 : I m y)
    (round : ∀ m x, I m x → EL P n k0 a x (Ex.thenL (fun x' => ∃ m', m' < m ∧ ∃ y, x'.s.Le k0 n y.s ∧ I m' y) Q)) : EL P n k0 (.loop a) x Q :=
  EL.loop (fun m x => ∃ y, x.s.Le k0 n y.s ∧ I m y) (m := m) ⟨y, norm_le hn hpu, h0⟩ fun m x ⟨y, h1, h2⟩ => EL.weak h1 (round m y h2)
theorem round_end {I : Nat → L3 → Prop} {m m' : Nat} {y : L3} {live : List Nat} {src : List Src0} {es : List (Nat × Nat)} (hn : normL k0 live src es x = some y) (hpu : PuS x.m src) (hm : m' < m) (hI : I m' y) : ∃ m', m' < m ∧ ∃ y, x.s.Le k0 n y.s ∧ I m' y := ⟨m', hm, y, norm_le hn hpu, hI⟩
end
section
variable {g : Nat → Option Bk}
theorem run_bind_some {α β : Type} {f : α → RM β} {m : RM α} {a : α} {b : β} (h : m.run g = some a) (h2 : (f a).run g = some b) : (m.bind f).run g = some b := by rw [(run_bind m h).1]; exact h2
theorem snap1_map {α : Type} (f : α → List AV) (xs : List α) {id sz n : Nat} (hB : g id = some ⟨sz, xs.map f⟩) (hp : ∀ y, (f y).all AV.pu1 = true) (hn : n = xs.length) : (snap1 (.own id sz 0 n)).run g = some (.lst sz (xs.map f)) := by
  subst hn
  have hc : (content sz (.own id sz 0 xs.length)).run g = some (xs.map f) := by
    simp [content, RM.run, hB]
    exact List.take_of_length_le (by simp)
  have : (snap1 (.own id sz 0 xs.length)) = (content sz (.own id sz 0 xs.length)).bind fun els => if (els.all fun cs => cs.all AV.pu1) = true then .ret (.lst sz els) else .fail := rfl
  rw [this]
  refine run_bind_some hc ?_
  have hall : ((xs.map f).all fun cs => cs.all AV.pu1) = true := by simpa using fun y _ => hp y
  rw [if_pos hall]; rfl
theorem snapA_map {α : Type} (f : α → List AV) (xs : List α) {id sz n : Nat} (hB : g id = some ⟨sz, xs.map f⟩) (hp : ∀ y, (f y).all AV.pu1 = true) (hn : n = xs.length) : (snapA (.own id sz 0 n)).run g = some (.lst sz (xs.map f)) := snap1_map f xs hB hp hn
theorem drop_get {α : Type} {xs : List α} {j : Nat} {a : α} (h : xs[j]? = some a) : xs.drop j = a :: xs.drop (j + 1) := by
  obtain ⟨hj, rfl⟩ := List.getElem?_eq_some_iff.1 h
  exact List.drop_eq_getElem_cons hj
end
/-- Whatever is the one is the other. -/
def Ale (a b : AV) : Prop := ∀ (E : Env) (v : Value), Rep E v a → Rep E v b
theorem Ale.refl {a : AV} : Ale a a := fun _ _ h => h
theorem Ale.of_eq {a b : AV} (h : a = b) : Ale a b := h ▸ Ale.refl
theorem Ale.trans {a b c : AV} (h : Ale a b) (k : Ale b c) : Ale a c := fun E v r => k E v (h E v r)
theorem Ale.emp {sz : Nat} : Ale .emp (.lst sz []) := fun E v h => by
  obtain ⟨A, rfl⟩ := emp_inv h
  exact .lst0 (by omega)
theorem tls_inv {E : Env} {v : Value} {sz : Nat} {els : List (List AV)} (h : Rep E v (.tls sz els)) : Rep E v (.lst sz els) := by
  cases h with
  | tls h => exact h
theorem Ale.tls {sz : Nat} {els : List (List AV)} : Ale (.tls sz els) (.lst sz els) := fun E v h => tls_inv h
inductive AleL : List AV → List AV → Prop
  | nil : AleL [] []
  | cons {a b : AV} {r s : List AV} (h : Ale a b) (t : AleL r s) : AleL (a :: r) (b :: s)
theorem AleL.get {r s : List AV} (h : AleL r s) : r.length = s.length ∧ ∀ (i : Nat) b, s[i]? = some b → ∃ a, r[i]? = some a ∧ Ale a b := by
  induction h with
  | nil => exact ⟨rfl, fun i b h => by simp at h⟩
  | cons h t ih =>
    refine ⟨by simp [ih.1], fun i b hb => ?_⟩
    cases i with
    | zero => simp only [List.getElem?_cons_zero, Option.some.injEq] at hb; subst hb; exact ⟨_, by simp, h⟩
    | succ i => exact ih.2 i b (by simpa using hb)
theorem Ale.tup {r s : List AV} (h : AleL r s) : Ale (.tup r) (.tup s) := fun E v hv => by
  cases hv with
  | tup hl hh => exact .tup (hl.trans h.get.1) fun i u c hu hc => let ⟨a, ha, hab⟩ := h.get.2 i c hc; hab _ _ (hh i u a hu ha)
theorem Ale.agg {r s : List AV} (h : AleL r s) : Ale (.agg r) (.agg s) := fun E v hv => by
  cases hv with
  | agg hl hh => exact .agg (hl.trans h.get.1) fun i u c hu hc => let ⟨a, ha, hab⟩ := h.get.2 i c hc; hab _ _ (hh i u a hu ha)
theorem Fn.args {P : Program} {f : FuncId} {as as' : List AV} {r : AV} (h : Fn P f as r) (ha : AleL as' as) : Fn P f as' r := fun w J vs hJ hG hrc =>
  h w J vs hJ hG ⟨hrc.1.trans ha.get.1, fun i u c hu hc => let ⟨a, h1, h2⟩ := ha.get.2 i c hc; h2 _ _ (hrc.2 i u a hu h1)⟩
theorem Fn.weak {P : Program} {f : FuncId} {as : List AV} {r r' : AV} (h : Fn P f as r) (hr : Ale r r') : Fn P f as r' := fun w J vs hJ hG hrc =>
  (h w J vs hJ hG hrc).mono fun e w' ⟨v, h1, h2, h3⟩ => ⟨v, h1, hr _ _ h2, h3⟩
theorem fn_ofW {P : Program} {f : FuncId} {F : AFn} (hF : cFunc P f = some F) {as : List AV} (hl : as.length ≤ F.n) {r : AV}
    (h : EW P F.n 0 F.code ⟨σ0 as, fun _ => none, 0⟩ fun x s' => (x = .normal ∨ x = .ret) ∧ ∃ r', ((resR s'.σ F.res).bind snapR).run s'.g = some r' ∧ Ale r' r) : Fn P f as r := by
  intro w J vs hJ hG hrc
  obtain ⟨fn, c, h1, h2, h3, h4, h5⟩ := cFunc_inv hF
  have hm : MemAt (E0 w J) J w.heap.size (fun _ => none) := ⟨fun id => by simp [E0], fun id B hg => by simp at hg, fun id id' b B B' hg => by simp at hg, fun id b B hg => by simp at hg, fun b hb => ⟨hJ b hb, .inl hb⟩, Nat.le_refl _, fun id B hg => by simp at hg, fun _ h => h.elim⟩
  refine calls_marks h1 h2 (wpIn_mono (h none c (E0 w J) J w.heap.size w _ w (fun _ => rfl) h4 (fun id hid => hid.elim) ⟨⟨E0 w J, rfl, Env.Le.refl _, start_rep hrc _, hm, fun id hid => hid.elim, .nil⟩, ?_, Below.refl _ _, hG⟩) ?_)
  · simp only [Array.size_append, Array.size_replicate, hrc.1]; omega
  · rintro e a' w' ⟨x, s', ⟨hx, r', hr, hale⟩, rfl, hrel⟩
    obtain ⟨E1, rfl, hle, hs1, hM1, hk, hmk⟩ := hrel.ex
    refine ⟨by rcases hx with rfl | rfl <;> simp [Ex.up], marks_leave _ E1 hmk fun E' hS => ?_⟩
    have hM := hS.mem hM1
    have hs := fun t => hS.rep (hs1 t)
    obtain ⟨r0, hr1, hr2⟩ := bind_run hr
    obtain ⟨v, e1, e2⟩ := res_run hM hs h3 hr1
    have hI : ∀ ids b, Handed E' s'.g ids b → J b ∨ (w.heap.size ≤ b ∧ b < E'.w.heap.size) := by
      intro ids b hb
      rcases hb with hb | ⟨id, B, _, hg, hl⟩
      · have := hM.low b hb
        rcases this.2 with h | h
        · exact .inl h
        · exact .inr ⟨h, this.1⟩
      · have := hM.at_ id B hg
        rw [hl] at this
        exact .inr this.lt
    have hrep : Rep (Proofs.YtgepadjkegfokaaDoor.E0 E'.w fun b => J b ∨ (w.heap.size ≤ b ∧ b < E'.w.heap.size)) v r := by
      refine hale _ _ ?_
      cases r0 with
      | tup us =>
        simp only [snapR] at hr2
        obtain ⟨l, m1, m2⟩ := bind_run hr2
        simp only [RM.run, Option.some.injEq] at m2; subst m2
        obtain ⟨k1, k2⟩ := snapAs_rep hM _ m1 (hI _)
        cases e2 with
        | tup hl h =>
          refine .tup (by rw [k1]; exact hl) fun i v c hv hc => ?_
          have hi : i < us.length := by rw [← k1]; exact (List.getElem?_eq_some_iff.1 hc).1
          exact k2 i v us[i] c (h i v _ hv (List.getElem?_eq_getElem hi)) (List.getElem?_eq_getElem hi) hc
      | _ => exact snapA_rep hM _ e2 hr2 (hI _)
    exact ⟨v, e1, v, rfl, hrep, hS.below (Nat.le_refl _) hrel.below⟩
theorem fn_walkW {P : Program} {f : FuncId} {F : AFn} (hF : cFunc P f = some F) {as : List AV} (hl : as.length ≤ F.n) {r : AV}
    (h : EL P F.n 0 F.code (start as) fun e x => (e = .normal ∨ e = .ret) ∧ ∃ r', ((resR (slot x.t) F.res).bind snapR).run (look x.m) = some r' ∧ Ale r' r) : Fn P f as r := by
  refine fn_ofW hF hl (EW.weak (start_le as _ _) (EW.conseq h ?_))
  rintro e s ⟨x', rfl, h1, h2⟩
  exact ⟨h1, h2⟩
theorem run_snap {x : L3} {res : List ARes} {r0 r' : AV} (h0 : (resR (slot x.t) res).run (look x.m) = some r0) (h : (snapR r0).run (look x.m) = some r') : ((resR (slot x.t) res).bind snapR).run (look x.m) = some r' := run_bind_some h0 h
/-- An inline function, its end put in order. -/
theorem fi_ofW {P : Program} {f : FuncId} {F : AFn} (hF : cFunc P f = some F) {as : List AV} (hl : as.length ≤ F.n) {g g' : Nat → Option Bk} {k k' : Nat} {r : AV}
    (h : EW P F.n k F.code ⟨σ0 as, g, k⟩ fun x s' => (x = .normal ∨ x = .ret) ∧ ∃ y : S3, s'.Le k F.n y ∧ (resR y.σ F.res).run y.g = some r ∧ y.g = g' ∧ y.k = k') : Fi P f as g k r g' k' := by
  intro E J base vs hG hm hkn hrc
  obtain ⟨fn, c, h1, h2, h3, h4, h5⟩ := cFunc_inv hF
  refine calls_marks h1 h2 (wpIn_mono (h none c E J base E.w _ E.w (fun _ => rfl) h4 hkn ⟨⟨E, rfl, Env.Le.refl E, start_rep hrc _, hm, hkn, .nil⟩, ?_, Below.refl _ _, hG⟩) ?_)
  · simp only [Array.size_append, Array.size_replicate, hrc.1]; omega
  · rintro e a' w' ⟨x, s', ⟨hx, y, hy, hr, rfl, rfl⟩, rfl, hrel0⟩
    have hrel := hy E J base E.w a' w' hkn hrel0
    obtain ⟨E', rfl, hle, hs, hM, hk, hmk⟩ := hrel.ex
    refine ⟨by rcases hx with rfl | rfl <;> simp [Ex.up], marks_leave _ E' hmk fun E2 hS => ?_⟩
    have hM2 := hS.mem hM
    obtain ⟨v, e1, e2⟩ := res_run hM2 (fun t => hS.rep (hs t)) h3 hr
    exact ⟨v, e1, v, E2, rfl, rfl, hS.le hle fun b hb => (hm.low b hb).1, e2, hM2, hS.below hm.size hrel.below, fun id hid => hk id (by rw [← hS.eqs.1]; exact hid)⟩
theorem fi_walkW {P : Program} {f : FuncId} {F : AFn} (hF : cFunc P f = some F) {as : List AV} (hl : as.length ≤ F.n) {r : AV} {m m' : List (Option Bk)}
    (h : EL P F.n m.length F.code ⟨startT 0 as, m⟩ fun e x => (e = .normal ∨ e = .ret) ∧ ∃ y : L3, x.s.Le m.length F.n y.s ∧ (resR (slot y.t) F.res).run (look y.m) = some r ∧ y.m = m') : Fi P f as (look m) m.length r (look m') m'.length := by
  refine fi_ofW hF hl (EW.weak (start_le as _ _) (EW.conseq h ?_))
  rintro e s ⟨x', rfl, h1, y, h2, h3, rfl⟩
  exact ⟨h1, y.s, h2, h3, rfl, rfl⟩
section
variable {P : Program} {n k0 : Nat} {x : L3} {K : L3 → Prop} {R : List AOper} {k : Nat}
end
section
variable {o : AOper} {x : L3}
end
theorem strEq_iff {a b : ByteArray} : strEq a b = true ↔ a = b := by
  unfold strEq
  rw [beq_iff_eq]
  constructor
  · intro h
    have : a.data = b.data := by rw [← Array.toList_inj]; exact h
    cases a; cases b; simp_all
  · intro h; rw [h]
end Go.Proofs.YtgepadjkegfokaaDoor
