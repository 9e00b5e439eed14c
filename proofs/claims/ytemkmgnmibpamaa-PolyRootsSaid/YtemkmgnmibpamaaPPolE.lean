/- Polynomials over the field of 256 elements: what meets values. No condition. -/
import Derived.Test.YtemkmgnmibpamaaPAvSide
import Derived.Test.YtemkmgnmibpamaaRows
import Derived.WalkKit
set_option linter.unusedSimpArgs false
set_option linter.unusedVariables false
set_option maxRecDepth 100000
namespace Go.Proofs.Ytemkmgnmibpamaa
open Go.RowKit
inductive Src0 where
  | old (id : Nat) (raw : Bool)
  | new (sz : Nat)
def newOf : List Src0 → Nat → Nat → Option Nat
  | [], _, _ => none
  | .old i _ :: r, j, id => bif Nat.beq i id then some j else newOf r (j + 1) id
  | .new _ :: r, j, id => newOf r (j + 1) id
def ren (ρ : Nat → Option Nat) : Nat → AV → AV
  | 0, _ => .dead
  | d + 1, .agg cs => .agg (cs.map (ren ρ d))
  | d + 1, .tup cs => .tup (cs.map (ren ρ d))
  | d + 1, .fn f cs => .fn f (cs.map (ren ρ d))
  | d + 1, .bf f cs => .bf f (cs.map (ren ρ d))
  | d + 1, .yld r cs => .yld r (cs.map (ren ρ d))
  | _ + 1, .ref id sz i o => match ρ id with
    | some j => .ref j sz i o
    | none => .dead
  | _ + 1, .own id sz off n => match ρ id with
    | some j => .own j sz off n
    | none => .dead
  | _ + 1, .mp id => match ρ id with
    | some j => .mp j
    | none => .dead
  | _ + 1, a => a
def renB (ρ : Nat → Option Nat) (B : Bk) : Bk := ⟨B.sz, B.els.map fun cs => cs.map (ren ρ 3)⟩
def rhoOf (m : List (Option Bk)) (src : List Src0) (id : Nat) : Option Nat := bif (look m id).isSome then newOf src 0 id else none
def renS (ρ : Nat → Option Nat) (src : List Src0) (es : List (Nat × Nat)) (j : Nat) (a : AV) : AV :=
  match a, es.lookup j with
  | .emp, some i => match src[i]? with
    | some (.new sz) => .own i sz 0 0
    | _ => .emp
  | a, _ => ren ρ 4 a
def blkOf (m : List (Option Bk)) (src : List Src0) : Src0 → Option Bk
  | .old i raw => (look m i).map fun B => bif raw then B else renB (rhoOf m src) B
  | .new sz => some ⟨sz, []⟩
def srcOK (k0 : Nat) (src : List Src0) : Bool :=
  (List.range src.length).all (fun i => match src[i]? with
    | some (.old id _) => match newOf src 0 id with
      | some j => Nat.beq j i
      | none => false
    | some (.new sz) => Nat.ble 1 sz
    | _ => true) && (List.range k0).all fun i => match src[i]? with
    | some (.old id _) => Nat.beq id i
    | _ => false
def normL (k0 : Nat) (live : List Nat) (src : List Src0) (es : List (Nat × Nat)) (x : L3) : Option L3 :=
  bif srcOK k0 src then some ⟨live.map fun j => (j, renS (rhoOf x.m src) src es j (slot x.t j)), src.map (blkOf x.m src)⟩ else none
def lnOf (ln : Nat → Nat) : Option Src0 → Nat
  | some (.old id _) => ln id
  | _ => 0
def locOf (loc : Nat → Option Nat) : Option Src0 → Option Nat
  | some (.old id _) => loc id
  | _ => none
theorem emp_inv {E : Env} {v : Value} (h : Rep E v .emp) : ∃ A, v = .slice A 0 0 := by
  cases h with
  | emp => exact ⟨_, rfl⟩
theorem newOf_src : ∀ (src : List Src0) (k id j : Nat), newOf src k id = some j → k ≤ j ∧ ∃ raw, src[j - k]? = some (.old id raw)
  | [], k, id, j, h => by simp [newOf] at h
  | .old i raw :: r, k, id, j, h => by
    simp only [newOf] at h
    cases hb : Nat.beq i id with
    | true =>
      rw [hb] at h
      simp only [cond_true, Option.some.injEq] at h
      subst h
      have := Nat.eq_of_beq_eq_true hb
      subst this
      exact ⟨by omega, raw, by simp⟩
    | false =>
      rw [hb, cond_false] at h
      obtain ⟨h1, h2⟩ := newOf_src r (k + 1) id j h
      refine ⟨by omega, ?_⟩
      rw [show j - k = (j - (k + 1)) + 1 by omega, List.getElem?_cons_succ]
      exact h2
  | .new _ :: r, k, id, j, h => by
    simp only [newOf] at h
    obtain ⟨h1, h2⟩ := newOf_src r (k + 1) id j h
    refine ⟨by omega, ?_⟩
    rw [show j - k = (j - (k + 1)) + 1 by omega, List.getElem?_cons_succ]
    exact h2
theorem slot_map (G : Nat → AV) : ∀ (live : List Nat) (i : Nat), slot (live.map fun j => (j, G j)) i = G i ∨ slot (live.map fun j => (j, G j)) i = .dead
  | [], i => .inr rfl
  | j :: r, i => by
    simp only [List.map_cons, slot]
    cases hb : Nat.beq i j with
    | true =>
      have := Nat.eq_of_beq_eq_true hb
      subst this
      exact .inl rfl
    | false => exact slot_map G r i
theorem look_map (m : List (Option Bk)) (src : List Src0) (i : Nat) : look (src.map (blkOf m src)) i = (src[i]?).bind (blkOf m src) := by
  unfold look
  rw [List.getElem?_map]
  cases src[i]? <;> simp
section
variable {E E' : Env} {ρ : Nat → Option Nat}
theorem ren_rep (hI : E'.I = E.I) (hw : E'.w = E.w) (hg : ∀ l, E.rg l → E'.rg l) (hρ : ∀ id j, ρ id = some j → E'.kn j ∧ ¬ E'.dead j ∧ E'.loc j = E.loc id ∧ ¬ E.dead id ∧ E'.ln j = E.ln id) : ∀ (d : Nat) {v : Value} {a : AV}, Rep E v a → Rep E' v (ren ρ d a) := by
  have hp : ∀ {v : Value} {a : AV}, Rep E v a → Pu a → Rep E' v a := fun h hp => h.pure (fun b hb => ⟨by rw [hI]; exact hb, fun o => by rw [hw]⟩) hp
  intro d
  induction d with
  | zero => intro v a h; exact .dead
  | succ d ih =>
    have ihm : ∀ {vs : Array Value} {cs : List AV}, vs.size = cs.length → (∀ (i : Nat) v c, vs[i]? = some v → cs[i]? = some c → Rep E v c) → vs.size = (cs.map (ren ρ d)).length ∧ ∀ (i : Nat) v c, vs[i]? = some v → (cs.map (ren ρ d))[i]? = some c → Rep E' v c := by
      intro vs cs hl h
      refine ⟨by simpa using hl, fun i v c hv hc => ?_⟩
      rw [List.getElem?_map, Option.map_eq_some_iff] at hc
      obtain ⟨c0, hc0, rfl⟩ := hc
      exact ih (h i v c0 hv hc0)
    intro v a h
    cases a with
    | v x => exact hp h .v
    | agg cs => cases h with | agg hl hh => obtain ⟨q1, q2⟩ := ihm hl hh; exact .agg q1 q2
    | tup cs => cases h with | tup hl hh => obtain ⟨q1, q2⟩ := ihm hl hh; exact .tup q1 q2
    | fn f cs => cases h with | fn hl hh => obtain ⟨q1, q2⟩ := ihm hl hh; exact .fn q1 q2
    | bf f cs => cases h with | bf hl hh => obtain ⟨q1, q2⟩ := ihm hl hh; exact .bf q1 q2
    | yld r cs => cases h with | yld h1 h2 h3 hl hh => obtain ⟨q1, q2⟩ := ihm hl hh; exact .yld (hg _ h1) (by rw [hI]; exact h2) (by rw [hw]; exact h3) q1 q2
    | lst sz els => exact hp h .lst
    | tls sz els => exact hp h .tls
    | emp => exact hp h .emp
    | pim cs o => exact hp h .pim
    | anyb => exact hp h .anyb
    | dead => exact .dead
    | ref id sz i o =>
      simp only [ren]
      cases hr : ρ id with
      | none => exact .dead
      | some j =>
        obtain ⟨r1, r2, r3, r4, r5⟩ := hρ id j hr
        cases h with
        | ref hi hd hb hq => exact .ref r1 r2 (r3.trans hb) hq
        | staleR hi hd ho => exact absurd hd r4
    | own id sz off n =>
      simp only [ren]
      cases hr : ρ id with
      | none => exact .dead
      | some j =>
        obtain ⟨r1, r2, r3, r4, r5⟩ := hρ id j hr
        cases h with
        | own hi hd hb hq hs hm hl hc hln => exact .own r1 r2 (r3.trans hb) hq (by rw [hw]; exact hs) hm hl hc (by rw [r5]; exact hln)
        | own0 hi hd hb hln => exact .own0 r1 r2 (r3.trans hb) (r5.trans hln)
        | staleO hi hd ho => exact absurd hd r4
    | mp id =>
      simp only [ren]
      cases hr : ρ id with
      | none => exact .dead
      | some j =>
        obtain ⟨r1, r2, r3, r4, r5⟩ := hρ id j hr
        cases h with
        | mp hi hd hb => exact .mp r1 r2 (r3.trans hb)
        | staleP hi hd ho => exact absurd hd r4
end
def PuS (m : List (Option Bk)) : List Src0 → Prop
  | [] => True
  | .old id true :: r => (∃ (α : Type) (f : α → List AV) (xs : List α) (sz : Nat), look m id = some ⟨sz, xs.map f⟩ ∧ ∀ y, (f y).all AV.pu1 = true) ∧ PuS m r
  | _ :: r => PuS m r
abbrev PuE (m : List (Option Bk)) (id : Nat) : Prop := ∃ (α : Type) (f : α → List AV) (xs : List α) (sz : Nat), look m id = some ⟨sz, xs.map f⟩ ∧ ∀ y, (f y).all AV.pu1 = true
theorem pu {α : Type} {m : List (Option Bk)} {id : Nat} (sz : Nat) (f : α → List AV) (xs : List α) (h : look m id = some ⟨sz, xs.map f⟩) (hp : ∀ y, (f y).all AV.pu1 = true) : PuE m id := ⟨α, f, xs, sz, h, hp⟩
theorem PuS.get {m : List (Option Bk)} : ∀ {src : List Src0}, PuS m src → ∀ (i id : Nat), src[i]? = some (.old id true) → ∀ B, look m id = some B → ∀ cs, cs ∈ B.els → ∀ c, c ∈ cs → Pu c
  | [], _, i, id, h, B, hB, cs, hcs, c, hc => by simp at h
  | .new _ :: r, hp, i, id, h, B, hB, cs, hcs, c, hc => by
    cases i with
    | zero => simp at h
    | succ i => exact PuS.get (src := r) hp i id (by simpa using h) B hB cs hcs c hc
  | .old _ false :: r, hp, i, id, h, B, hB, cs, hcs, c, hc => by
    cases i with
    | zero => simp at h
    | succ i => exact PuS.get (src := r) hp i id (by simpa using h) B hB cs hcs c hc
  | .old _ true :: r, hp, i, id, h, B, hB, cs, hcs, c, hc => by
    cases i with
    | zero =>
      simp only [List.getElem?_cons_zero, Option.some.injEq, Src0.old.injEq, and_true] at h
      subst h
      obtain ⟨⟨α, f, xs, sz, h1, h2⟩, _⟩ := hp
      rw [h1] at hB
      simp only [Option.some.injEq] at hB
      subst hB
      simp only [List.mem_map] at hcs
      obtain ⟨y, _, rfl⟩ := hcs
      have := h2 y
      simp only [List.all_eq_true] at this
      exact AV.pu1_pu (this c hc)
    | succ i => exact PuS.get (src := r) hp.2 i id (by simpa using h) B hB cs hcs c hc
theorem Mk.same {E E' : Env} (hI : E'.I = E.I) (hw : E'.w = E.w) {lo : Nat} {ds : List Deferred} (h : Mk E lo ds) : Mk E' lo ds := by
  induction h with
  | nil => exact .nil
  | cons h1 hD hh hne t ih => exact .cons (by rw [hI]; exact h1) hD (by rw [hw]; exact hh) hne ih
theorem norm_le {n k0 : Nat} {live : List Nat} {src : List Src0} {es : List (Nat × Nat)} {x y : L3} (h : normL k0 live src es x = some y) (hpu : PuS x.m src) : x.s.Le k0 n y.s := by
  have hp := hpu.get
  unfold normL at h
  cases hok : srcOK k0 src with
  | false => rw [hok] at h; simp at h
  | true =>
  rw [hok, cond_true, Option.some.injEq] at h
  subst h
  simp only [srcOK, Bool.and_eq_true, List.all_eq_true, List.mem_range] at hok
  obtain ⟨ok1, ok2⟩ := hok
  have inj : ∀ i id raw, src[i]? = some (.old id raw) → newOf src 0 id = some i := by
    intro i id raw hi
    have hlt : i < src.length := (List.getElem?_eq_some_iff.1 hi).1
    have := ok1 i hlt
    rw [hi] at this
    simp only at this
    cases hn : newOf src 0 id with
    | none => rw [hn] at this; simp at this
    | some j => rw [hn] at this; simp only at this; rw [Nat.eq_of_beq_eq_true this]
  have low : ∀ i, i < k0 → ∃ raw, src[i]? = some (.old i raw) := by
    intro i hi
    have := ok2 i hi
    cases hs : src[i]? with
    | none => rw [hs] at this; simp at this
    | some q =>
      cases q with
      | old id raw => rw [hs] at this; simp only at this; exact ⟨raw, by rw [Nat.eq_of_beq_eq_true this]⟩
      | new sz => rw [hs] at this; simp at this
  intro E0 J base w0 a w hk hr
  obtain ⟨E, rfl, hle, hs, hm, hkn, hmk⟩ := hr.ex
  let E' : Env := { w := E.w, kn := fun i => i < src.length, loc := fun i => locOf E.loc (src[i]?), dead := fun i => look (src.map (blkOf x.m src)) i = none, I := E.I, ln := fun i => lnOf E.ln (src[i]?), rg := E.rg }
  have hlive : ∀ id, look x.m id ≠ none → E.kn id ∧ ¬ E.dead id := fun id hid => by
    obtain ⟨B, hB⟩ := Option.ne_none_iff_exists'.1 hid
    exact (hm.live id).2 ⟨B, hB⟩
  have hρ : ∀ id j, rhoOf x.m src id = some j → E'.kn j ∧ ¬ E'.dead j ∧ E'.loc j = E.loc id ∧ ¬ E.dead id ∧ E'.ln j = E.ln id := by
    intro id j hj
    unfold rhoOf at hj
    cases hB : look x.m id with
    | none => rw [hB] at hj; simp at hj
    | some B =>
      rw [hB] at hj
      simp only [Option.isSome_some, cond_true] at hj
      obtain ⟨_, raw, h2⟩ := newOf_src src 0 id j hj
      simp only [Nat.sub_zero] at h2
      refine ⟨(List.getElem?_eq_some_iff.1 h2).1, ?_, ?_, (hlive id (by rw [hB]; simp)).2, by show lnOf E.ln (src[j]?) = _; rw [h2]; rfl⟩
      · show ¬ look _ j = none
        rw [look_map, h2]; simp [blkOf, hB]
      · show locOf E.loc (src[j]?) = _
        rw [h2]; rfl
  have hR : ∀ (d : Nat) {v : Value} {a : AV}, Rep E v a → Rep E' v (ren (rhoOf x.m src) d a) := ren_rep (E := E) (E' := E') rfl rfl (fun _ h => h) hρ
  have hget : ∀ i B', look (src.map (blkOf x.m src)) i = some B' → (∃ id raw B, src[i]? = some (.old id raw) ∧ look x.m id = some B ∧ B' = (bif raw then B else renB (rhoOf x.m src) B) ∧ E'.loc i = E.loc id) ∨ (∃ sz, src[i]? = some (.new sz) ∧ B' = ⟨sz, []⟩ ∧ E'.loc i = none) := by
    intro i B' hB'
    rw [look_map] at hB'
    cases hsi : src[i]? with
    | none => rw [hsi] at hB'; simp at hB'
    | some q =>
      rw [hsi] at hB'
      cases q with
      | old id raw =>
        simp only [Option.bind_some, blkOf, Option.map_eq_some_iff] at hB'
        obtain ⟨B, hB, rfl⟩ := hB'
        refine .inl ⟨id, raw, B, rfl, hB, rfl, ?_⟩
        show locOf E.loc (src[i]?) = _
        rw [hsi]; rfl
      | new sz =>
        simp only [Option.bind_some, blkOf, Option.some.injEq] at hB'
        subst hB'
        refine .inr ⟨sz, rfl, rfl, ?_⟩
        show locOf E.loc (src[i]?) = _
        rw [hsi]; rfl
  have hM : MemAt E' J base (look (src.map (blkOf x.m src))) := by
    refine ⟨fun i => ?_, fun i B' hB' => ?_, fun i i' b B1 B2 h1 h2 h3 h4 => ?_, fun i b B' hB' hl => ?_, hm.low, hm.size, fun i B' hB' hzz => ?_, hm.rgb⟩
    · show (i < src.length ∧ ¬ look _ i = none) ↔ _
      constructor
      · rintro ⟨_, h2⟩
        exact Option.ne_none_iff_exists'.1 h2
      · rintro ⟨B, hB⟩
        refine ⟨?_, by rw [hB]; simp⟩
        rw [look_map] at hB
        cases hsi : src[i]? with
        | none => rw [hsi] at hB; simp at hB
        | some q => exact (List.getElem?_eq_some_iff.1 hsi).1
    · rcases hget i B' hB' with ⟨id, raw, B, e1, e2, hBB, e4⟩ | ⟨sz, e1, rfl, e3⟩
      · rw [e4]
        have := hm.at_ id B e2
        have hsz : B'.sz = B.sz ∧ B'.els.length = B.els.length := by subst hBB; cases raw <;> simp [renB]
        have hel : ∀ (i : Nat) cs', B'.els[i]? = some cs' → ∃ cs, B.els[i]? = some cs ∧ cs'.length = cs.length ∧ ∀ (j : Nat) c', cs'[j]? = some c' → ∃ c, cs[j]? = some c ∧ ∀ u, Rep E u c → Rep E' u c' := by
          subst hBB
          cases raw with
          | true =>
            intro i' cs hi
            refine ⟨cs, hi, rfl, fun j c hj => ⟨c, hj, fun u hu => ?_⟩⟩
            exact Rep.pure (E := E) (E' := E') (fun b hb => ⟨hb, fun _ => rfl⟩) hu (hp i id e1 B e2 cs (List.mem_of_getElem? hi) c (List.mem_of_getElem? hj))
          | false =>
            intro i' cs' hi
            simp only [cond_false, renB, List.getElem?_map, Option.map_eq_some_iff] at hi
            obtain ⟨cs, hcs, rfl⟩ := hi
            refine ⟨cs, hcs, by simp, fun j c' hj => ?_⟩
            rw [List.getElem?_map, Option.map_eq_some_iff] at hj
            obtain ⟨c, hc, rfl⟩ := hj
            exact ⟨c, hc, fun u hu => hR 3 hu⟩
        cases hl : E.loc id with
        | none =>
          rw [hl] at this
          show B'.els = []
          have h0 : B.els = [] := this
          have := hsz.2
          rw [h0] at this
          exact List.eq_nil_of_length_eq_zero this
        | some b =>
          rw [hl] at this
          obtain ⟨q1, ⟨hz, arr, t, q2, q3, q4⟩ | ⟨hz, ent, clock, q2, q3, q4⟩⟩ := this
          · refine .ofCells ⟨q1, arr, t, q2, by rw [hsz.1, hsz.2]; exact q3, fun i cs' hi => ?_⟩ (by rw [hsz.1]; exact hz)
            obtain ⟨cs, hcs, hlen, hcell⟩ := hel i cs' hi
            obtain ⟨p1, p2⟩ := q4 i cs hcs
            refine ⟨by rw [hlen, hsz.1]; exact p1, fun j c' hj => ?_⟩
            obtain ⟨c, hc, hrep⟩ := hcell j c' hj
            obtain ⟨u, u1, u2, u3⟩ := p2 j c hc
            exact ⟨u, by rw [hsz.1]; exact u1, u2, hrep u u3⟩
          · refine .ofMap ⟨q1, ent, clock, q2, by rw [hsz.2]; exact q3, fun i' e cs' he hi => ?_⟩ (by rw [hsz.1]; exact hz)
            subst hBB
            cases raw with
            | true =>
              obtain ⟨y, k1, k2, k3⟩ := q4 i' e cs' he hi
              refine ⟨y, k1, k2, Rep.pure (E := E) (E' := E') (fun b hb => ⟨hb, fun _ => rfl⟩) k3 (hp i id e1 B e2 cs' (List.mem_of_getElem? hi) y (by rw [k1]; simp))⟩
            | false =>
              simp only [cond_false, renB, List.getElem?_map, Option.map_eq_some_iff] at hi
              obtain ⟨cs, hcs, rfl⟩ := hi
              obtain ⟨y, rfl, k2, k3⟩ := q4 i' e cs he hcs
              exact ⟨ren (rhoOf x.m src) 3 y, rfl, k2, hR 3 k3⟩
      · rw [e3]; rfl
    · rcases hget i B1 h1 with ⟨id, raw, B, e1, e2, _, e4⟩ | ⟨sz, _, _, e3⟩
      · rcases hget i' B2 h2 with ⟨id', raw', B', f1, f2, _, f4⟩ | ⟨sz, _, _, f3⟩
        · rw [e4] at h3; rw [f4] at h4
          have := hm.apart id id' b B B' e2 f2 h3 h4
          subst this
          have a1 := inj i id raw e1
          have a2 := inj i' id raw' f1
          rw [a1] at a2
          exact Option.some.inj a2
        · rw [f3] at h4; simp at h4
      · rw [e3] at h3; simp at h3
    · rcases hget i B' hB' with ⟨id, raw, B, e1, e2, _, e4⟩ | ⟨sz, _, _, e3⟩
      · rw [e4] at hl; exact hm.out id b B e2 hl
      · rw [e3] at hl; simp at hl
    · show _ = lnOf E.ln (src[i]?)
      rcases hget i B' hB' with ⟨id, raw, B, e1, e2, e3, e4⟩ | ⟨sz, e1, e2, e3⟩
      · rw [e1]; show _ = E.ln id
        rw [← hm.len id B e2 (by subst e3; cases raw <;> simpa [renB] using hzz), e3]; cases raw <;> simp [renB]
      · rw [e1, e2]; rfl
  have hE0 : E0.Le E' := by
    have locE : ∀ id, E0.kn id → E'.loc id = E.loc id := fun id hid => by
      show locOf E.loc (src[id]?) = _
      obtain ⟨raw, hl⟩ := low id (hk id hid)
      rw [hl]; rfl
    have deadE : ∀ id, E0.kn id → E.dead id → E'.dead id := fun id hid hd => by
      show look _ id = none
      obtain ⟨raw, hl⟩ := low id (hk id hid)
      rw [look_map, hl]
      cases hB : look x.m id with
      | none => simp [blkOf, hB]
      | some B => exact absurd hd (hlive id (by rw [hB]; simp)).2
    refine ⟨fun id hid => (low id (hk id hid)).elim fun _ hl => (List.getElem?_eq_some_iff.1 hl).1, hle.imm, fun id hid hd => deadE id hid (hle.dead id hid hd), fun id hid hd => ?_, fun id b hid hd hb => ?_, fun id hid hd => ?_, hle.rg⟩
    · rcases hle.loc id hid hd with h | h
      · exact .inl (deadE id hid h)
      · exact .inr ((locE id hid).trans h)
    · rcases hle.shape id b hid hd hb with h | h
      · exact .inl (deadE id hid h)
      · exact .inr h
    · rcases hle.ln id hid hd with h | h
      · exact .inl (deadE id hid h)
      · refine .inr (Eq.trans ?_ h)
        show lnOf E.ln (src[id]?) = _
        obtain ⟨raw, hl⟩ := low id (hk id hid)
        rw [hl]; rfl
  have hmk' : Mk E' w0.heap.size a.defers := Mk.same (E := E) (E' := E') rfl rfl hmk
  refine ⟨⟨E', rfl, hE0, fun t => ?_, hM, fun id hid => ?_, hmk'⟩, hr.size, hr.below, hr.gl⟩
  · show Rep E' _ (slot (live.map fun j => (j, renS (rhoOf x.m src) src es j (slot x.t j))) t)
    rcases slot_map (fun j => renS (rhoOf x.m src) src es j (slot x.t j)) live t with h | h
    · rw [h]
      have ht := hs t
      have ht' : Rep E (a.tmps.getD t undef) (slot x.t t) := ht
      have hdef : Rep E' (a.tmps.getD t undef) (ren (rhoOf x.m src) 4 (slot x.t t)) := hR 4 ht'
      unfold renS
      split
      · rename_i i he hl
        rw [he] at ht'
        split
        · rename_i sz hsz
          obtain ⟨A, hA⟩ := emp_inv ht'
          rw [hA]
          have hB' : look (src.map (blkOf x.m src)) i = some ⟨sz, []⟩ := by rw [look_map, hsz]; rfl
          have hz : sz ≠ 0 := by
            have := ok1 i (List.getElem?_eq_some_iff.1 hsz).1
            rw [hsz] at this
            have := Nat.le_of_ble_eq_true this
            omega
          refine .own0 (List.getElem?_eq_some_iff.1 hsz).1 (by show ¬ look _ i = none; rw [hB']; simp) ?_ ?_
          · show locOf E.loc (src[i]?) = _
            rw [hsz]; rfl
          · show lnOf E.ln (src[i]?) = _
            rw [hsz]; rfl
        · obtain ⟨A, hA⟩ := emp_inv ht'
          rw [hA]
          exact .emp
      · exact hdef
    · rw [h]; exact .dead
  · show id < (src.map _).length
    rw [List.length_map]; exact hid
section
variable {P : Program} {n k0 : Nat} {x : L3} {Q : Ex → L3 → Prop}
theorem EL.norm {ac : AC} {y : L3} (live : List Nat) (src : List Src0) (es : List (Nat × Nat)) (h : normL k0 live src es x = some y) (hpu : PuS x.m src) (hy : EL P n k0 ac y Q) : EL P n k0 ac x Q := EL.weak (norm_le h hpu) hy
theorem EL.loopN {a : AC} (I : Nat → L3 → Prop) {m : Nat} {y : L3} (live : List Nat) (src : List Src0) (es : List (Nat × Nat)) (hn : normL k0 live src es x = some y) (hpu : PuS x.m src) (h0 : I m y)
    (round : ∀ m x, I m x → EL P n k0 a x (Ex.thenL (fun x' => ∃ m', m' < m ∧ ∃ y, x'.s.Le k0 n y.s ∧ I m' y) Q)) : EL P n k0 (.loop a) x Q :=
  EL.loop (fun m x => ∃ y, x.s.Le k0 n y.s ∧ I m y) (m := m) ⟨y, norm_le hn hpu, h0⟩ fun m x ⟨y, h1, h2⟩ => EL.weak h1 (round m y h2)
theorem rE {I : Nat → L3 → Prop} {m m' : Nat} {y : L3} {live : List Nat} {src : List Src0} {es : List (Nat × Nat)} (hn : normL k0 live src es x = some y) (hpu : PuS x.m src) (hm : m' < m) (hI : I m' y) : ∃ m', m' < m ∧ ∃ y, x.s.Le k0 n y.s ∧ I m' y := ⟨m', hm, y, norm_le hn hpu, hI⟩
end
section
variable {g : Nat → Option Bk}
end
def Ale (a b : AV) : Prop := ∀ (E : Env) (v : Value), Rep E v a → Rep E v b
theorem Ale.refl {a : AV} : Ale a a := fun _ _ h => h
theorem Ale.of_eq {a b : AV} (h : a = b) : Ale a b := h ▸ Ale.refl
theorem Ale.trans {a b c : AV} (h : Ale a b) (k : Ale b c) : Ale a c := fun E v r => k E v (h E v r)
theorem Ale.emp {sz : Nat} : Ale .emp (.lst sz []) := fun E v h => by
  obtain ⟨A, rfl⟩ := emp_inv h
  exact .lst0 (by omega)
inductive AleL : List AV → List AV → Prop
  | nil : AleL [] []
  | cons {a b : AV} {r s : List AV} (h : Ale a b) (t : AleL r s) : AleL (a :: r) (b :: s)
theorem AleL.get {r s : List AV} (h : AleL r s) : r.length = s.length ∧ ∀ (i : Nat) b, s[i]? = some b → ∃ a, r[i]? = some a ∧ Ale a b := by
  induction h with
  | nil => exact ⟨rfl, fun i b h => by simp at h⟩
  | cons h t ih =>
    refine ⟨by simp [ih.1], fun i b hb => ?_⟩
    cases i with
    | zero => simp only [List.getElem?_cons_zero, Option.some.injEq] at hb; subst hb; exact ⟨_, by simp, h⟩
    | succ i => exact ih.2 i b (by simpa using hb)
theorem Ale.tup {r s : List AV} (h : AleL r s) : Ale (.tup r) (.tup s) := fun E v hv => by
  cases hv with
  | tup hl hh => exact .tup (hl.trans h.get.1) fun i u c hu hc => let ⟨a, ha, hab⟩ := h.get.2 i c hc; hab _ _ (hh i u a hu ha)
theorem Ale.agg {r s : List AV} (h : AleL r s) : Ale (.agg r) (.agg s) := fun E v hv => by
  cases hv with
  | agg hl hh => exact .agg (hl.trans h.get.1) fun i u c hu hc => let ⟨a, ha, hab⟩ := h.get.2 i c hc; hab _ _ (hh i u a hu ha)
theorem Fn.args {P : Program} {f : FuncId} {as_ as' : List AV} {r : AV} (h : Fn P f as_ r) (ha : AleL as' as_) : Fn P f as' r := fun w J vs hJ hG hrc =>
  h w J vs hJ hG ⟨hrc.1.trans ha.get.1, fun i u c hu hc => let ⟨a, h1, h2⟩ := ha.get.2 i c hc; h2 _ _ (hrc.2 i u a hu h1)⟩
theorem fn_ofW {P : Program} {f : FuncId} {F : AFn} (hF : cFunc P f = some F) {as_ : List AV} (hl : as_.length ≤ F.n) {r : AV}
    (h : EW P F.n 0 F.code ⟨σ0 as_, fun _ => none, 0⟩ fun x s' => (x = .normal ∨ x = .ret) ∧ ∃ r', ((resR s'.σ F.res).bind snapR).run s'.g = some r' ∧ Ale r' r) : Fn P f as_ r := by
  intro w J vs hJ hG hrc
  obtain ⟨fn, c, h1, h2, h3, h4, h5⟩ := cFunc_inv hF
  have hm : MemAt (E0 w J) J w.heap.size (fun _ => none) := ⟨fun id => by simp [E0], fun id B hg => by simp at hg, fun id id' b B B' hg => by simp at hg, fun id b B hg => by simp at hg, fun b hb => ⟨hJ b hb, .inl hb⟩, Nat.le_refl _, fun id B hg => by simp at hg, fun _ h => h.elim⟩
  refine calls_marks h1 h2 (wpIn_mono (h none c (E0 w J) J w.heap.size w _ w (fun _ => rfl) h4 (fun id hid => hid.elim) ⟨⟨E0 w J, rfl, Env.Le.refl _, start_rep hrc _, hm, fun id hid => hid.elim, .nil⟩, ?_, Below.refl _ _, hG⟩) ?_)
  · simp only [Array.size_append, Array.size_replicate, hrc.1]; omega
  · rintro e a' w' ⟨x, s', ⟨hx, r', hr, hale⟩, rfl, hrel⟩
    obtain ⟨E1, rfl, hle, hs1, hM1, hk, hmk⟩ := hrel.ex
    refine ⟨by rcases hx with rfl | rfl <;> simp [Ex.up], marks_leave _ E1 hmk fun E' hS => ?_⟩
    have hM := hS.mem hM1
    have hs := fun t => hS.rep (hs1 t)
    obtain ⟨r0, hr1, hr2⟩ := bind_run hr
    obtain ⟨v, e1, e2⟩ := res_run hM hs h3 hr1
    have hI : ∀ ids b, Handed E' s'.g ids b → J b ∨ (w.heap.size ≤ b ∧ b < E'.w.heap.size) := by
      intro ids b hb
      rcases hb with hb | ⟨id, B, _, hg, hl⟩
      · have := hM.low b hb
        rcases this.2 with h | h
        · exact .inl h
        · exact .inr ⟨h, this.1⟩
      · have := hM.at_ id B hg
        rw [hl] at this
        exact .inr this.lt
    have hrep : Rep (Proofs.Ytemkmgnmibpamaa.E0 E'.w fun b => J b ∨ (w.heap.size ≤ b ∧ b < E'.w.heap.size)) v r := by
      refine hale _ _ ?_
      cases r0 with
      | tup us =>
        simp only [snapR] at hr2
        obtain ⟨l, m1, m2⟩ := bind_run hr2
        simp only [RM.run, Option.some.injEq] at m2; subst m2
        obtain ⟨k1, k2⟩ := snapAs_rep hM _ m1 (hI _)
        cases e2 with
        | tup hl h =>
          refine .tup (by rw [k1]; exact hl) fun i v c hv hc => ?_
          have hi : i < us.length := by rw [← k1]; exact (List.getElem?_eq_some_iff.1 hc).1
          exact k2 i v us[i] c (h i v _ hv (List.getElem?_eq_getElem hi)) (List.getElem?_eq_getElem hi) hc
      | _ => exact snapA_rep hM _ e2 hr2 (hI _)
    exact ⟨v, e1, v, rfl, hrep, hS.below (Nat.le_refl _) hrel.below⟩
theorem fW {P : Program} {f : FuncId} {F : AFn} (hF : cFunc P f = some F) {as_ : List AV} (hl : as_.length ≤ F.n) {r : AV}
    (h : EL P F.n 0 F.code (start as_) fun e x => (e = .normal ∨ e = .ret) ∧ ∃ r', ((resR (slot x.t) F.res).bind snapR).run (look x.m) = some r' ∧ Ale r' r) : Fn P f as_ r := by
  refine fn_ofW hF hl (EW.weak (start_le as_ _ _) (EW.conseq h ?_))
  rintro e s ⟨x', rfl, h1, h2⟩
  exact ⟨h1, h2⟩
theorem fi_ofW {P : Program} {f : FuncId} {F : AFn} (hF : cFunc P f = some F) {as_ : List AV} (hl : as_.length ≤ F.n) {g g' : Nat → Option Bk} {k k' : Nat} {r : AV}
    (h : EW P F.n k F.code ⟨σ0 as_, g, k⟩ fun x s' => (x = .normal ∨ x = .ret) ∧ ∃ y : S3, s'.Le k F.n y ∧ (resR y.σ F.res).run y.g = some r ∧ y.g = g' ∧ y.k = k') : Fi P f as_ g k r g' k' := by
  intro E J base vs hG hm hkn hrc
  obtain ⟨fn, c, h1, h2, h3, h4, h5⟩ := cFunc_inv hF
  refine calls_marks h1 h2 (wpIn_mono (h none c E J base E.w _ E.w (fun _ => rfl) h4 hkn ⟨⟨E, rfl, Env.Le.refl E, start_rep hrc _, hm, hkn, .nil⟩, ?_, Below.refl _ _, hG⟩) ?_)
  · simp only [Array.size_append, Array.size_replicate, hrc.1]; omega
  · rintro e a' w' ⟨x, s', ⟨hx, y, hy, hr, rfl, rfl⟩, rfl, hrel0⟩
    have hrel := hy E J base E.w a' w' hkn hrel0
    obtain ⟨E', rfl, hle, hs, hM, hk, hmk⟩ := hrel.ex
    refine ⟨by rcases hx with rfl | rfl <;> simp [Ex.up], marks_leave _ E' hmk fun E2 hS => ?_⟩
    have hM2 := hS.mem hM
    obtain ⟨v, e1, e2⟩ := res_run hM2 (fun t => hS.rep (hs t)) h3 hr
    exact ⟨v, e1, v, E2, rfl, rfl, hS.le hle fun b hb => (hm.low b hb).1, e2, hM2, hS.below hm.size hrel.below, fun id hid => hk id (by rw [← hS.eqs.1]; exact hid)⟩
theorem fV {P : Program} {f : FuncId} {F : AFn} (hF : cFunc P f = some F) {as_ : List AV} (hl : as_.length ≤ F.n) {r : AV} {m m' : List (Option Bk)}
    (h : EL P F.n m.length F.code ⟨startT 0 as_, m⟩ fun e x => (e = .normal ∨ e = .ret) ∧ ∃ y : L3, x.s.Le m.length F.n y.s ∧ (resR (slot y.t) F.res).run (look y.m) = some r ∧ y.m = m') : Fi P f as_ (look m) m.length r (look m') m'.length := by
  refine fi_ofW hF hl (EW.weak (start_le as_ _ _) (EW.conseq h ?_))
  rintro e s ⟨x', rfl, h1, y, h2, h3, rfl⟩
  exact ⟨h1, y.s, h2, h3, rfl, rfl⟩
theorem fo_of {P : Program} {f : FuncId} {as_ : List AV} {sz : Nat} {els : List (List AV)} (h : Fi P f as_ (look []) 0 (.own 0 sz 0 els.length) (look [some ⟨sz, els⟩]) 1) : Fo P f as_ sz els := by
  intro w J vs hJ hG hrc
  have hm : MemAt (E0 w J) J w.heap.size (look []) := ⟨fun id => by simp [E0, look], fun id B hg => by simp [look] at hg, fun id id' b B B' hg => by simp [look] at hg, fun id b B hg => by simp [look] at hg, fun b hb => ⟨hJ b hb, .inl hb⟩, Nat.le_refl _, fun id B hg => by simp [look] at hg, fun _ h => h.elim⟩
  refine (h (E0 w J) J w.heap.size vs hG hm (fun id hid => hid.elim) hrc).mono ?_
  rintro e w' ⟨v, E', he, hw, hle, hr, hM, hb, hk⟩
  have hg : look [some (⟨sz, els⟩ : Bk)] 0 = some ⟨sz, els⟩ := rfl
  obtain ⟨k1, k2⟩ := (hM.live 0).2 ⟨_, hg⟩
  exact ⟨v, E', he, hw, hb, hr, k1, k2, hM.at_ 0 _ hg, (hM.len 0 _ hg (hr.own_sz k2)).symm⟩
section
variable {P : Program} {n k0 : Nat} {x : L3} {K : L3 → Prop} {R : List AOper} {k : Nat}
end
section
variable {o : AOper} {x : L3}
end
open Go.RowKit
def Del1 (sz : Nat) : List AOper := [⟨some 8, .mov (.s 0), none⟩, ⟨some 9, .mov (.s 1), none⟩, ⟨some 10, .mov (.s 2), none⟩, ⟨some 11, .mov (.s 0), none⟩, ⟨some 12, .len false (.s 11), none⟩, ⟨some 13, .slc sz (.s 8) (some (.s 9)) (some (.s 10)) (some (.s 12)), none⟩]
def Del2 : List AOper := [⟨some 14, .mov (.s 1), none⟩, ⟨some 15, .mov (.s 2), none⟩, ⟨some 16, .bin false .eql (.s 14) (.s 15), none⟩]
def Del3 : List AOper := [⟨some 17, .mov (.s 0), none⟩, ⟨some 6, .mov (.s 17), none⟩]
def Del4 : List AOper := [⟨some 18, .mov (.s 0), none⟩, ⟨some 19, .len false (.s 18), none⟩, ⟨some 7, .mov (.s 19), none⟩]
def Del5 (sz by_ : Nat) : List AOper := [⟨some 20, .mov (.s 0), none⟩, ⟨some 21, .mov (.s 1), none⟩, ⟨some 22, .slc sz (.s 20) none (some (.s 21)) none, none⟩, ⟨some 23, .mov (.s 0), none⟩, ⟨some 24, .mov (.s 2), none⟩, ⟨some 25, .slc sz (.s 23) (some (.s 24)) none none, none⟩, ⟨some 26, .app sz by_ (.s 22) (.s 25), none⟩, ⟨some 0, .mov (.s 26), none⟩]
def Del6 (sz : Nat) (zs : List AV) : List AOper := [⟨some 27, .mov (.s 0), none⟩, ⟨some 28, .mov (.s 0), none⟩, ⟨some 29, .len false (.s 28), none⟩, ⟨some 30, .mov (.s 7), none⟩, ⟨some 31, .slc sz (.s 27) (some (.s 29)) (some (.s 30)) none, none⟩, ⟨none, .clr zs (.s 31), none⟩]
def Del7 : List AOper := [⟨some 32, .mov (.s 0), none⟩, ⟨some 6, .mov (.s 32), none⟩]
def DelDep : List (List Nat) := [[], [], [0, 1], [], [], [3, 4], [2, 5, 0, 1, 3, 4], [6, 0, 1, 2, 3, 4, 5]]
def DelF (sz by_ : Nat) (zs : List AV) : AFn := ⟨33, [.tmp 6],
  .seq (.reg [⟨some 6, .mov (.c .emp), none⟩] none)
  (.seq (.reg (Del1 sz) none)
  (.seq (.seq (.reg Del2 none)
  (.cond (.s 16)
    (.seq (.reg Del3 none)
    (.ret))
    (.skip)))
  (.seq (.reg Del4 none)
  (.seq (.reg (Del5 sz by_) (some DelDep))
  (.seq (.reg (Del6 sz zs) none)
  (.seq (.reg Del7 none)
  (.ret)))))))⟩
def delM (m : List (Option Bk)) (id : Nat) (B : Bk) : List (Option Bk) := m.set id none ++ [none, some B]
theorem trunc_le {n k0 : Nat} {x : L3} {id sz c t0 : Nat} {els : List (List AV)} (hB : look x.m id = some ⟨sz, els⟩) (hc : c ≤ els.length) (hs : slot x.t t0 = .own id sz 0 c) {y : L3} (hy : y.t = [(t0, .own x.m.length sz 0 c)]) (hm : y.m = x.m.set id none ++ [some ⟨sz, els.take c⟩]) : x.s.Le k0 n y.s := by
  intro E0 J base w0 a w hk hr
  obtain ⟨E, rfl, hle, hsl, hmm, hkn, hmk⟩ := hr.ex
  have hid : id < x.m.length := by
    rcases Nat.lt_or_ge id x.m.length with h | h
    · exact h
    · unfold look at hB; rw [List.getElem?_eq_none h] at hB; simp at hB
  have hf : ¬ E.kn x.m.length := fun hh => Nat.lt_irrefl _ (hkn _ hh)
  have hz0 : sz ≠ 0 := (show Rep E (a.tmps.getD t0 undef) (.own id sz 0 c) by rw [← hs]; exact hsl t0).own_sz ((hmm.live id).2 ⟨_, hB⟩).2
  obtain ⟨E', hw, hE, hM, k1, k2, k3, k4, k5⟩ := hmm.move hf id ⟨sz, els⟩ ⟨sz, els.take c⟩ hB E.w (fun _ _ => rfl) rfl (fun _ _ => rfl) (fun E' hE hw => by
    have := (hmm.at_ id _ hB)
    cases hl : E.loc id with
    | none =>
      rw [hl] at this
      have h0 : els = [] := this
      show els.take c = []
      rw [h0]; simp
    | some b =>
      rw [hl] at this
      obtain ⟨q1, arr, t, q2, q3, q4⟩ := this.cells hz0
      refine .ofCells ⟨q1, arr, t, by rw [hw]; exact q2, ?_, fun i cs hi => ?_⟩ hz0
      · refine Nat.le_trans (Nat.mul_le_mul_right _ ?_) q3
        simp only [List.length_take]; omega
      · have hi' : els[i]? = some cs := by
          simp only [List.getElem?_take] at hi
          split at hi
          · exact hi
          · simp at hi
        refine ⟨(q4 i cs hi').1, fun j x hj => ?_⟩
        obtain ⟨u, u1, u2, u3⟩ := (q4 i cs hi').2 j x hj
        exact ⟨u, u1, u2, u3.step hE⟩)
  have hg : gput (look x.m) [(id, none), (x.m.length, some ⟨sz, els.take c⟩)] = look y.m := by
    rw [hm]
    have e1 := look_put x.m id none (by omega)
    rw [if_pos hid] at e1
    have e2 := look_put (x.m.set id none) x.m.length (some ⟨sz, els.take c⟩) (by simp)
    rw [if_neg (by simp)] at e2
    rw [e2, e1]
    rfl
  have hM := hg ▸ (show MemAt E' J base (gput (look x.m) [(id, none), (x.m.length, some ⟨sz, els.take c⟩)]) from hM)
  refine ⟨⟨E', hw, hle.trans hE, fun t => ?_, hM, fun j hj => ?_, hmk.step hE⟩, hr.size, hr.below, hr.gl⟩
  · show Rep E' _ (slot y.t t)
    rw [hy]
    simp only [slot]
    cases hb : Nat.beq t t0 with
    | false => exact .dead
    | true =>
      have := Nat.eq_of_beq_eq_true hb
      subst this
      have hv := hsl t
      have hv' : Rep E (a.tmps.getD t undef) (.own id sz 0 c) := by rw [← hs]; exact hv
      have hlive := (hmm.live id).2 ⟨_, hB⟩
      have hlen : c ≤ els.length := hc
      simp only [cond_true]
      obtain ⟨vv, hvv⟩ : ∃ vv, vv = a.tmps.getD t undef := ⟨_, rfl⟩
      rw [← hvv] at hv' ⊢
      cases hv' with
      | staleO hi hd => exact absurd hd hlive.2
      | own hi hd hb hq hss hm' hl hcc hln =>
        refine .own k1 k2 (k3.trans hb) hq (by rw [hw]; exact hss) hm' hl hcc (by rw [k5]; simp only [List.length_take]; omega)
      | own0 hi hd hb hln => exact .own0 k1 k2 (k3.trans hb) (by rw [k5]; simp)
  · show j < y.m.length
    rw [hm]
    simp only [List.length_append, List.length_set, List.length_cons, List.length_nil]
    rcases k4 j hj with h | h
    · have h' : j < x.m.length := hkn j h
      omega
    · omega
section
variable {o : AOper} {x : L3}
theorem optNat_nat {σ : Nat → AV} {a : Arg} {n : Nat} (h : argσ σ a = VI n) : optNat (argσ σ) (some a) = some (some n) := by
  simp only [optNat, h, natOf]
  rw [if_pos (by omega)]; simp
theorem opE_slco2 (a : Arg) (lo hi : Option Arg) (sz id off n l h : Nat) (lo' hi' : Option Nat) (B : Bk) (ho : o.ao = .slc sz a lo hi none) (hg : guardA (slot x.t) o.guard = some true) (ha : argσ (slot x.t) a = .own id sz off n) (hlo : optNat (argσ (slot x.t)) lo = some lo') (hhi : optNat (argσ (slot x.t)) hi = some hi') (hbd : bounds n lo' hi' = some (l, h)) (hB : look x.m id = some B) :
    opE o x = .done (.own id sz (off + l) (h - l)) [] [id] := by
  have hn : optNat (argσ (slot x.t)) none = some none := rfl
  have hs : (AO.slc sz a lo hi none).sem x.m.length (argσ (slot x.t)) = .lv id (.ret (.done (.own id sz (off + l) (h - l)) [])) := by simp [AO.sem, ha, hlo, hhi, hn, hbd, RM.opt]
  exact opE_sem _ (acc := []) (see := [id]) ho hg (by rw [hs]; simp [RM.run, hB]) (by rw [hs]; rfl) (by rw [hs]; rfl)
theorem opE_slco3 (a : Arg) (lo hi : Option Arg) (mx : Arg) (sz id off n l h mm : Nat) (lo' hi' : Option Nat) (B : Bk) (ho : o.ao = .slc sz a lo hi (some mx)) (hg : guardA (slot x.t) o.guard = some true) (ha : argσ (slot x.t) a = .own id sz off n) (hlo : optNat (argσ (slot x.t)) lo = some lo') (hhi : optNat (argσ (slot x.t)) hi = some hi') (hmx : optNat (argσ (slot x.t)) (some mx) = some (some mm)) (hbd : bounds n lo' hi' = some (l, h)) (hB : look x.m id = some B) (h1 : B.els.length ≤ off + mm) (h2 : h ≤ mm ∧ mm ≤ n) (h3 : mm ≠ l) (hBz : B.sz = sz := by rfl) :
    opE o x = .done (.own id sz (off + l) (h - l)) [] [id, id] := by
  have hs : (AO.slc sz a lo hi (some mx)).sem x.m.length (argσ (slot x.t)) = .lv id (.rd id fun B => if B.sz = sz ∧ B.els.length ≤ off + mm then .ret (.done (.own id sz (off + l) (h - l)) []) else .fail) := by
    simp [AO.sem, ha, hlo, hhi, hmx, hbd, RM.opt, h2, h3]
  exact opE_sem _ (acc := [id]) (see := [id]) ho hg (by rw [hs]; simp [RM.run, hB, h1, hBz]) (by rw [hs]; simp [RM.acc, hB, h1, hBz]) (by rw [hs]; simp [RM.see, hB, h1, hBz])
theorem opE_slco2h (a : Arg) (lo hi : Option Arg) (sz id off n l h : Nat) (lo' : Option Nat) (hh : Nat) (B : Bk) (ho : o.ao = .slc sz a lo hi none) (hg : guardA (slot x.t) o.guard = some true) (ha : argσ (slot x.t) a = .own id sz off n) (hlo : optNat (argσ (slot x.t)) lo = some lo') (hhi : optNat (argσ (slot x.t)) hi = some (some hh)) (hno : bounds n lo' (some hh) = none) (hB : look x.m id = some B) (hbd : bounds (B.els.length - off) lo' (some hh) = some (l, h)) (hBz : B.sz = sz := by rfl) :
    opE o x = .done (.own id sz (off + l) (h - l)) [] [id, id] := by
  have hn : optNat (argσ (slot x.t)) none = some none := rfl
  have hs : (AO.slc sz a lo hi none).sem x.m.length (argσ (slot x.t)) = .lv id (.rd id fun B => if B.sz = sz then .opt ((bounds (B.els.length - off) lo' (some hh)).map fun b => .done (.own id sz (off + b.1) (b.2 - b.1)) []) else .fail) := by simp [AO.sem, ha, hlo, hhi, hn, hno]
  exact opE_sem _ (acc := [id]) (see := [id]) ho hg (by rw [hs]; simp [RM.run, RM.opt, hB, hbd, hBz]) (by rw [hs]; simp [RM.acc, RM.opt, hB, hbd, hBz]) (by rw [hs]; simp [RM.see, RM.opt, hB, hbd, hBz])
theorem opE_appIn (s a : Arg) (sz by_ id off n : Nat) (els ys : List (List AV)) (w : AV) (acc : List Nat) (ho : o.ao = .app sz by_ s a) (hg : guardA (slot x.t) o.guard = some true) (hs : argσ (slot x.t) s = .own id sz off n) (ha : argσ (slot x.t) a = w) (c1 : (content sz w).run (look x.m) = some ys) (c2 : (content sz w).acc (look x.m) = acc) (c3 : (content sz w).see (look x.m) = [])
    (hB : look x.m id = some ⟨sz, els⟩) (hno : ¬ (off = 0 ∧ n = els.length)) (hfit : off + n + ys.length ≤ els.length) :
    opE o x = .done (.own id sz off (n + ys.length)) [(id, some ⟨sz, els.take (off + n) ++ ys ++ els.drop (off + n + ys.length)⟩), (x.m.length, none)] (acc ++ [id]) := by
  let F : List (List AV) → RM Out := fun ys => .rd id fun B => if sz = sz ∧ B.sz = sz ∧ off = 0 ∧ n = B.els.length ∧ (n + ys.length) * by_ ≤ 140737488355328 then .ret (.done (.own x.m.length sz 0 (n + ys.length)) [(id, none), (x.m.length, some ⟨sz, B.els ++ ys⟩)])
    else if sz = sz ∧ B.sz = sz ∧ off + n + ys.length ≤ B.els.length then .ret (.done (.own id sz off (n + ys.length)) [(id, some ⟨B.sz, B.els.take (off + n) ++ ys ++ B.els.drop (off + n + ys.length)⟩), (x.m.length, none)]) else .fail
  have hsem : (AO.app sz by_ s a).sem x.m.length (argσ (slot x.t)) = (content sz w).bind F := by simp [AO.sem, hs, ha, F]
  obtain ⟨r1, r2, r3⟩ := run_bind (f := F) _ c1
  have hno' : ¬ (off = 0 ∧ n = els.length ∧ (n + ys.length) * by_ ≤ 140737488355328) := fun h => hno ⟨h.1, h.2.1⟩
  have hF1 : (F ys).run (look x.m) = some (.done (.own id sz off (n + ys.length)) [(id, some ⟨sz, els.take (off + n) ++ ys ++ els.drop (off + n + ys.length)⟩), (x.m.length, none)]) := by
    simp only [F, RM.run, hB, true_and]; rw [if_neg hno', if_pos hfit]; rfl
  have hF2 : (F ys).acc (look x.m) = [id] := by
    simp only [F, RM.acc, hB, true_and]; rw [if_neg hno', if_pos hfit]; rfl
  have hF3 : (F ys).see (look x.m) = [] := by
    simp only [F, RM.see, hB, true_and]; rw [if_neg hno', if_pos hfit]; rfl
  have := opE_sem (AO.app sz by_ s a) (o := o) (x := x) (acc := acc ++ [id]) (see := []) ho hg (by rw [hsem, r1]; exact hF1) (by rw [hsem, r2, c2, hF2]) (by rw [hsem, r3, c3, hF3]; rfl)
  simpa using this
theorem opE_clr (zs : List AV) (a : Arg) (sz id off n : Nat) (els : List (List AV)) (ho : o.ao = .clr zs a) (hg : guardA (slot x.t) o.guard = some true) (hz : zs.length = sz) (ha : argσ (slot x.t) a = .own id sz off n) (hB : look x.m id = some ⟨sz, els⟩) (hfit : off + n ≤ els.length) :
    opE o x = .done (.v undef) [(id, some ⟨sz, els.take off ++ List.replicate n zs ++ els.drop (off + n)⟩)] [id] := by
  subst hz
  have hs : (AO.clr zs a).sem x.m.length (argσ (slot x.t)) = .rd id fun B => if B.sz = zs.length ∧ off + n ≤ B.els.length then .ret (.done (.v undef) [(id, some ⟨B.sz, B.els.take off ++ List.replicate n zs ++ B.els.drop (off + n)⟩)]) else .fail := by simp [AO.sem, ha]
  exact opE_sem _ (acc := [id]) (see := []) ho hg (by rw [hs]; simp [RM.run, hB, hfit]) (by rw [hs]; simp [RM.acc, hB, hfit]) (by rw [hs]; simp [RM.see, hB, hfit])
end
section
variable {P : Program} {sz by_ : Nat} {zs : List AV} {m : List (Option Bk)} {id i : Nat} {els : List (List AV)}
theorem look_lt {B : Bk} (hB : look m id = some B) : id < m.length := by
  rcases Nat.lt_or_ge id m.length with h | h
  · exact h
  · unfold look at hB; rw [List.getElem?_eq_none h] at hB; simp at hB
theorem delete_fi {f : FuncId} (hF : cFunc P f = some (DelF sz by_ zs)) (hz : zs.length = sz) (hB : look m id = some ⟨sz, els⟩) (hi : i < els.length) (hb : els.length ≤ 4611686018427387904) :
    Fi P f [.own id sz 0 els.length, VI i, VI (i + 1 : Nat)] (look m) m.length (.own (m.length + 1) sz 0 (els.length - 1)) (look (delM m id ⟨sz, els.eraseIdx i⟩)) (delM m id ⟨sz, els.eraseIdx i⟩).length := by
  have hid := look_lt hB
  have e1 : ((i : Int)).toNat = i := by omega
  have e2 : (((i + 1 : Nat) : Int)).toNat = i + 1 := by omega
  have e3 : ((els.length : Int)).toNat = els.length := by omega
  have p1 : (0 : Int) ≤ (i : Int) := by omega
  have p2 : (0 : Int) ≤ ((i + 1 : Nat) : Int) := by omega
  have p3 : (0 : Int) ≤ (els.length : Int) := by omega
  refine fV hF (by show 3 ≤ 33; omega) ?_
  refine EL.sreg ?_
  refine OW.last 1 [0, 1, 2] (x' := ⟨[(0, .own id sz 0 els.length), (1, VI i), (2, VI (i + 1 : Nat))], m⟩) (by kernel_rfl) (by kernel_rfl) ?_
  refine EL.sreg ?_
  refine OW.run 4 (x' := ⟨[(11, .own id sz 0 els.length), (10, VI (i + 1 : Nat)), (9, VI i), (8, .own id sz 0 els.length), (0, .own id sz 0 els.length), (1, VI i), (2, VI (i + 1 : Nat))], m⟩) (by kernel_rfl) ?_
  refine OW.ope (v := VI els.length) (u := []) (acc := [id]) (x' := ⟨[(12, VI els.length), (11, .own id sz 0 els.length), (10, VI (i + 1 : Nat)), (9, VI i), (8, .own id sz 0 els.length), (0, .own id sz 0 els.length), (1, VI i), (2, VI (i + 1 : Nat))], m⟩) (by kernel_rfl) (opE_sem _ (acc := []) (see := [id]) rfl rfl (by simp [opD, Del1, AO.sem, argσ, slot, RM.run, hB, goInt]) (by simp [opD, Del1, AO.sem, argσ, slot, RM.acc]) (by simp [opD, Del1, AO.sem, argσ, slot, RM.see])) (by kernel_rfl) ?_
  refine OW.ope (v := .own id sz (0 + i) (i + 1 - i)) (u := []) (acc := [id, id]) (x' := ⟨[(13, .own id sz (0 + i) (i + 1 - i)), (12, VI els.length), (11, .own id sz 0 els.length), (10, VI (i + 1 : Nat)), (9, VI i), (8, .own id sz 0 els.length), (0, .own id sz 0 els.length), (1, VI i), (2, VI (i + 1 : Nat))], m⟩) (by kernel_rfl)
    (opE_slco3 (.s 8) (some (.s 9)) (some (.s 10)) (.s 12) sz id 0 els.length i (i + 1) els.length (some i) (some (i + 1)) ⟨sz, els⟩ rfl rfl rfl (optNat_nat (by rfl)) (optNat_nat (by rfl)) (optNat_nat (by rfl)) (by simp [bounds]; omega) hB (by simp) ⟨by omega, by omega⟩ (by omega)) (by kernel_rfl) ?_
  refine OW.last 0 [0, 1, 2] (x' := ⟨[(0, .own id sz 0 els.length), (1, VI i), (2, VI (i + 1 : Nat))], m⟩) (by kernel_rfl) (by kernel_rfl) ?_
  refine EL.seq ?_
  refine EL.sreg ?_
  refine OW.last 3 [0, 1, 2, 16] (x' := ⟨[(16, .v (.bool ((i : Int) == ((i + 1 : Nat) : Int)))), (0, .own id sz 0 els.length), (1, VI i), (2, VI (i + 1 : Nat))], m⟩) (by kernel_rfl) (by kernel_rfl) ?_
  have hne : ((i : Int) == ((i + 1 : Nat) : Int)) = false := by simp; omega
  rw [hne]
  refine EL.condF (by kernel_rfl) ?_
  refine EL.skip ?_
  refine tN ?_
  refine EL.sreg ?_
  refine OW.run 1 (x' := ⟨[(18, .own id sz 0 els.length), (16, .v (.bool false)), (0, .own id sz 0 els.length), (1, VI i), (2, VI (i + 1 : Nat))], m⟩) (by kernel_rfl) ?_
  refine OW.ope (v := VI els.length) (u := []) (acc := [id]) (x' := ⟨[(19, VI els.length), (18, .own id sz 0 els.length), (16, .v (.bool false)), (0, .own id sz 0 els.length), (1, VI i), (2, VI (i + 1 : Nat))], m⟩) (by kernel_rfl) (opE_sem _ (acc := []) (see := [id]) rfl rfl (by simp [opD, Del4, AO.sem, argσ, slot, RM.run, hB, goInt]) (by simp [opD, Del4, AO.sem, argσ, slot, RM.acc]) (by simp [opD, Del4, AO.sem, argσ, slot, RM.see])) (by kernel_rfl) ?_
  refine OW.last 1 [0, 1, 2, 7] (x' := ⟨[(7, VI els.length), (0, .own id sz 0 els.length), (1, VI i), (2, VI (i + 1 : Nat))], m⟩) (by kernel_rfl) (by kernel_rfl) ?_
  refine EL.sdraw ?_
  refine DW.run 2 (x' := ⟨[(21, VI i), (20, .own id sz 0 els.length), (7, VI els.length), (0, .own id sz 0 els.length), (1, VI i), (2, VI (i + 1 : Nat))], m⟩) (by kernel_rfl) ?_
  refine DW.ope (v := .own id sz (0 + 0) (i - 0)) (u := []) (acc := [id]) (x' := ⟨[(22, .own id sz (0 + 0) (i - 0)), (21, VI i), (20, .own id sz 0 els.length), (7, VI els.length), (0, .own id sz 0 els.length), (1, VI i), (2, VI (i + 1 : Nat))], m⟩) (by kernel_rfl)
    (opE_slco2 (.s 20) none (some (.s 21)) sz id 0 els.length 0 i none (some i) ⟨sz, els⟩ rfl rfl rfl rfl (optNat_nat (by rfl)) (by simp [bounds]; omega) hB) (by kernel_rfl) ?_
  refine DW.run 2 (x' := ⟨[(24, VI (i + 1 : Nat)), (23, .own id sz 0 els.length), (22, .own id sz (0 + 0) (i - 0)), (21, VI i), (20, .own id sz 0 els.length), (7, VI els.length), (0, .own id sz 0 els.length), (1, VI i), (2, VI (i + 1 : Nat))], m⟩) (by kernel_rfl) ?_
  refine DW.ope (v := .own id sz (0 + (i + 1)) (els.length - (i + 1))) (u := []) (acc := [id]) (x' := ⟨[(25, .own id sz (0 + (i + 1)) (els.length - (i + 1))), (24, VI (i + 1 : Nat)), (23, .own id sz 0 els.length), (22, .own id sz (0 + 0) (i - 0)), (21, VI i), (20, .own id sz 0 els.length), (7, VI els.length), (0, .own id sz 0 els.length), (1, VI i), (2, VI (i + 1 : Nat))], m⟩) (by kernel_rfl)
    (opE_slco2 (.s 23) (some (.s 24)) none sz id 0 els.length (i + 1) els.length (some (i + 1)) none ⟨sz, els⟩ rfl rfl rfl (optNat_nat (by rfl)) rfl (by simp [bounds]; omega) hB) (by kernel_rfl) ?_
  obtain ⟨ys, hys⟩ : ∃ ys, ys = (els.drop (0 + (i + 1))).take (els.length - (i + 1)) := ⟨_, rfl⟩
  have hyl : ys.length = els.length - (i + 1) := by rw [hys]; simp
  obtain ⟨els2, he2⟩ : ∃ els2, els2 = els.take (0 + 0 + (i - 0)) ++ ys ++ els.drop (0 + 0 + (i - 0) + ys.length) := ⟨_, rfl⟩
  have hl2 : els2.length = els.length := by rw [he2]; simp; omega
  obtain ⟨m2, hm2⟩ : ∃ m2, m2 = m.set id (some ⟨sz, els2⟩) ++ [none] := ⟨_, rfl⟩
  have hput : mput m [(id, some ⟨sz, els2⟩), (m.length, none)] = m2 := by
    simp only [mput]
    rw [if_pos hid, if_neg (by simp), hm2]
  have hml : m2.length = m.length + 1 := by rw [hm2]; simp
  have hlk : look m2 id = some ⟨sz, els2⟩ := by
    rw [hm2]; unfold look
    rw [List.getElem?_append_left (by simpa using hid)]
    simp [hid]
  have hc1 : (content sz (.own id sz (0 + (i + 1)) (els.length - (i + 1)))).run (look m) = some ys := by
    simp only [content, RM.run, hB, true_and]; rw [if_pos (by omega), hys]; rfl
  have hc2 : (content sz (.own id sz (0 + (i + 1)) (els.length - (i + 1)))).acc (look m) = [id] := by
    simp only [content, RM.acc, hB, true_and]; rw [if_pos (by omega)]; rfl
  have hc3 : (content sz (.own id sz (0 + (i + 1)) (els.length - (i + 1)))).see (look m) = [] := by
    simp only [content, RM.see, hB, true_and]; rw [if_pos (by omega)]; rfl
  have hups : upsOK m.length [(id, some (⟨sz, els2⟩ : Bk)), (m.length, none)] = true := by
    simp only [upsOK]; rw [if_pos hid]; simp; omega
  refine DW.ope (v := .own id sz (0 + 0) (i - 0 + ys.length)) (u := [(id, some ⟨sz, els2⟩), (m.length, none)]) (acc := [id] ++ [id]) (x' := ⟨[(26, .own id sz (0 + 0) (i - 0 + ys.length)), (25, .own id sz (0 + (i + 1)) (els.length - (i + 1))), (24, VI (i + 1 : Nat)), (23, .own id sz 0 els.length), (22, .own id sz (0 + 0) (i - 0)), (21, VI i), (20, .own id sz 0 els.length), (7, VI els.length), (0, .own id sz 0 els.length), (1, VI i), (2, VI (i + 1 : Nat))], m2⟩) (by kernel_rfl)
    (by rw [he2]; exact opE_appIn (.s 22) (.s 25) sz by_ id (0 + 0) (i - 0) els ys _ [id] rfl rfl rfl rfl hc1 hc2 hc3 hB (by rintro ⟨_, h⟩; omega) (by omega)) (by
      show (bif dstOK 33 (some 26) && upsOK m.length [(id, some (⟨sz, els2⟩ : Bk)), (m.length, none)] then _ else _) = _
      rw [hups, hput]; rfl) ?_
  obtain ⟨t3, ht3⟩ : ∃ t3 : List (Nat × AV), t3 = [(0, .own id sz (0 + 0) (i - 0 + ys.length)), (2, VI (i + 1 : Nat)), (7, VI els.length)] := ⟨_, rfl⟩
  refine DW.last 1 [0, 7] (x' := ⟨[(0, .own id sz (0 + 0) (i - 0 + ys.length)), (7, VI els.length)], m2⟩) (by kernel_rfl) (by kernel_rfl) ?_
  have q1 : i - 0 + ys.length = els.length - 1 := by omega
  rw [q1]
  refine EL.sreg ?_
  refine OW.run 2 (x' := ⟨[(28, .own id sz (0 + 0) (els.length - 1)), (27, .own id sz (0 + 0) (els.length - 1)), (0, .own id sz (0 + 0) (els.length - 1)), (7, VI els.length)], m2⟩) (by kernel_rfl) ?_
  refine OW.ope (v := VI (els.length - 1 : Nat)) (u := []) (acc := [id]) (x' := ⟨[(29, VI (els.length - 1 : Nat)), (28, .own id sz (0 + 0) (els.length - 1)), (27, .own id sz (0 + 0) (els.length - 1)), (0, .own id sz (0 + 0) (els.length - 1)), (7, VI els.length)], m2⟩) (by kernel_rfl) (opE_sem _ (acc := []) (see := [id]) rfl rfl (by simp [opD, Del6, AO.sem, argσ, slot, RM.run, hlk, goInt]) (by simp [opD, Del6, AO.sem, argσ, slot, RM.acc]) (by simp [opD, Del6, AO.sem, argσ, slot, RM.see])) (by kernel_rfl) ?_
  refine OW.run 1 (x' := ⟨[(30, VI els.length), (29, VI (els.length - 1 : Nat)), (28, .own id sz (0 + 0) (els.length - 1)), (27, .own id sz (0 + 0) (els.length - 1)), (0, .own id sz (0 + 0) (els.length - 1)), (7, VI els.length)], m2⟩) (by kernel_rfl) ?_
  refine OW.ope (v := .own id sz (0 + 0 + (els.length - 1)) (els.length - (els.length - 1))) (u := []) (acc := [id, id]) (x' := ⟨[(31, .own id sz (0 + 0 + (els.length - 1)) (els.length - (els.length - 1))), (30, VI els.length), (29, VI (els.length - 1 : Nat)), (28, .own id sz (0 + 0) (els.length - 1)), (27, .own id sz (0 + 0) (els.length - 1)), (0, .own id sz (0 + 0) (els.length - 1)), (7, VI els.length)], m2⟩) (by kernel_rfl)
    (opE_slco2h (.s 27) (some (.s 29)) (some (.s 30)) sz id (0 + 0) (els.length - 1) (els.length - 1) els.length (some (els.length - 1)) els.length ⟨sz, els2⟩ rfl rfl rfl (optNat_nat (by rfl)) (optNat_nat (by rfl)) (by simp only [bounds, Option.getD_some]; rw [if_neg (by omega)]) hlk (by simp only [bounds, Option.getD_some]; rw [if_pos ⟨by omega, by show _ ≤ els2.length - (0 + 0); omega⟩])) (by kernel_rfl) ?_
  obtain ⟨els3, he3⟩ : ∃ els3, els3 = els2.take (0 + 0 + (els.length - 1)) ++ List.replicate (els.length - (els.length - 1)) zs ++ els2.drop (0 + 0 + (els.length - 1) + (els.length - (els.length - 1))) := ⟨_, rfl⟩
  have hid2 : id < m2.length := by omega
  have hput3 : mput m2 [(id, some ⟨sz, els3⟩)] = m2.set id (some ⟨sz, els3⟩) := by
    simp only [mput]; rw [if_pos hid2]
  have hups3 : upsOK m2.length [(id, some (⟨sz, els3⟩ : Bk))] = true := by simp [upsOK]; omega
  refine OW.ope (v := .v undef) (u := [(id, some ⟨sz, els3⟩)]) (acc := [id]) (x' := ⟨[(31, .own id sz (0 + 0 + (els.length - 1)) (els.length - (els.length - 1))), (30, VI els.length), (29, VI (els.length - 1 : Nat)), (28, .own id sz (0 + 0) (els.length - 1)), (27, .own id sz (0 + 0) (els.length - 1)), (0, .own id sz (0 + 0) (els.length - 1)), (7, VI els.length)], m2.set id (some ⟨sz, els3⟩)⟩) (by kernel_rfl)
    (by rw [he3]; exact opE_clr zs (.s 31) sz id (0 + 0 + (els.length - 1)) (els.length - (els.length - 1)) els2 rfl rfl hz rfl hlk (by omega)) (by
      show (bif dstOK 33 none && upsOK m2.length [(id, some (⟨sz, els3⟩ : Bk))] then _ else _) = _
      rw [hups3, hput3]; rfl) ?_
  refine OW.last 0 [0] (x' := ⟨[(0, .own id sz (0 + 0) (els.length - 1))], m2.set id (some ⟨sz, els3⟩)⟩) (by kernel_rfl) (by kernel_rfl) ?_
  refine EL.sreg ?_
  refine OW.last 2 [6] (x' := ⟨[(6, .own id sz (0 + 0) (els.length - 1))], m2.set id (some ⟨sz, els3⟩)⟩) (by kernel_rfl) (by kernel_rfl) ?_
  refine EL.ret ?_
  have hl3 : els3.length = els.length := by rw [he3]; simp; omega
  have hlk3 : look (m2.set id (some ⟨sz, els3⟩)) id = some ⟨sz, els3⟩ := by
    unfold look; simp [hid2]
  have hfin : els3.take (els.length - 1) = els.eraseIdx i := by
    have h1 : els3.take (els.length - 1) = els2.take (els.length - 1) := by
      rw [he3, List.append_assoc, List.take_append_of_le_length (by simp; omega), Nat.add_zero, Nat.zero_add, List.take_take, Nat.min_self]
    rw [h1, he2]
    have h2 : els.length - 1 = i + ys.length := by omega
    rw [h2, List.take_append_of_le_length (by simp; omega)]
    rw [List.take_of_length_le (by simp; omega)]
    rw [List.eraseIdx_eq_take_drop_succ, hys]
    congr 1
    · simp
    · rw [Nat.zero_add]
      exact List.take_of_length_le (by simp)
  refine ⟨.inr rfl, ⟨[(6, .own (m2.set id (some ⟨sz, els3⟩)).length sz 0 (els.length - 1))], (m2.set id (some ⟨sz, els3⟩)).set id none ++ [some ⟨sz, els3.take (els.length - 1)⟩]⟩, trunc_le (t0 := 6) hlk3 (by omega) rfl rfl rfl, ?_, ?_⟩
  · simp only [List.length_set, hml]; rfl
  · rw [hfin, hm2]
    simp only [delM]
    rw [List.set_set, List.set_append, if_pos (by simpa using hid), List.set_set]
    simp
theorem delete_map {f : FuncId} {α : Type} {fe : α → List AV} {xs : List α} (hF : cFunc P f = some (DelF sz by_ zs)) (hz : zs.length = sz) (hB : look m id = some ⟨sz, xs.map fe⟩) {n : Int} (h0 : 0 ≤ n) (h1 : n < xs.length) (hb : xs.length ≤ 1000000) :
    Fi P f [.own id sz 0 xs.length, VI n, VI (n + 1)] (look m) m.length (.own (m.length + 1) sz 0 (xs.eraseIdx n.toNat).length) (look (delM m id ⟨sz, (xs.eraseIdx n.toNat).map fe⟩)) (delM m id ⟨sz, (xs.eraseIdx n.toNat).map fe⟩).length := by
  have e0 : ((n.toNat : Nat) : Int) = n := by omega
  have e1 : ((n.toNat + 1 : Nat) : Int) = n + 1 := by omega
  have h := delete_fi (P := P) (f := f) (i := n.toNat) (els := xs.map fe) hF hz hB (by simp; omega) (by simp; omega)
  rw [e0, e1, List.length_map] at h
  have e2 : (xs.map fe).eraseIdx n.toNat = (xs.eraseIdx n.toNat).map fe := by
    rw [List.eraseIdx_eq_take_drop_succ, List.eraseIdx_eq_take_drop_succ, List.map_append, List.map_take, List.map_drop]
  have e3 : (xs.eraseIdx n.toNat).length = xs.length - 1 := by rw [List.length_eraseIdx, if_pos (by omega)]
  rw [e2] at h
  rw [e3]
  exact h
end
open Go.RowKit
section
variable {o : AOper} {x : L3}
end
open Go.RowKit
def isC (hs : List (Option Nat)) (i : Nat) : Bool := match hs[i]? with | some (some _) => true | _ => false
def callsOK (rs : List Rec) (hs : List (Option Nat)) (dep : List (List Nat)) : Bool :=
  (List.range rs.length).all fun j => (List.range j).all fun i => ((dep[j]?).getD []).contains i || (match rs[i]?, rs[j]? with | some x, some y => !(isC hs i && isC hs j) && ((!isC hs i || y.ups.isEmpty) && (!isC hs j || x.ups.isEmpty)) | _, _ => false)
inductive OpsF (P : Program) (n : Nat) : List AOper → (Nat → AV) → (Nat → Option Bk) → Nat → List Rec → List (Option Nat) → (Nat → AV) → (Nat → Option Bk) → Nat → Prop
  | nil {σ : Nat → AV} {g : Nat → Option Bk} {k : Nat} : OpsF P n [] σ g k [] [] σ g k
  | cons {o : AOper} {os : List AOper} {σ σ' : Nat → AV} {g g' : Nat → Option Bk} {k k1 k' : Nat} {val : AV} {ups : List (Nat × Option Bk)} {acc : List Nat} {rs : List Rec} {hs : List (Option Nat)} (h : OpRun P σ g k o val ups acc) (hk : k ≤ k1) (hu : ∀ id, id ∈ ups.map Prod.fst → id < k1)
      (hr : OpsF P n os (putσ n o.dst val σ) (gput g ups) k1 rs hs σ' g' k') : OpsF P n (o :: os) σ g k (⟨o.dst, val, ups, acc, k⟩ :: rs) (none :: hs) σ' g' k'
  | fi {o : AOper} {os : List AOper} {σ σ' : Nat → AV} {g g' : Nat → Option Bk} {k k1 k' : Nat} {r : AV} {f : FuncId} {as_ : List AV} {ups : List (Nat × Option Bk)} {rs : List Rec} {hs : List (Option Nat)} (hg : guardA σ o.guard = some true) (hal : o.ao.allocs = false) (h : (o.ao.sem k (argσ σ)).run g = some (.call f as_)) (hc : callable P f = true) (hf : Fi P f as_ g k r (gput g ups) k1) (hk : k ≤ k1) (hu : ∀ id, id ∈ ups.map Prod.fst → id < k1)
      (hr : OpsF P n os (putσ n o.dst r σ) (gput g ups) k1 rs hs σ' g' k') : OpsF P n (o :: os) σ g k (⟨o.dst, r, ups, [], k⟩ :: rs) (some k1 :: hs) σ' g' k'
def RunF (P : Program) (n : Nat) (σ : Nat → AV) (g : Nat → Option Bk) (rs : List Rec) (hs : List (Option Nat)) (i : Nat) (o : AOper) (r : Rec) : Prop :=
  (hs[i]? = some none ∧ OpRun P (σat n (upto i) rs σ) (gat (upto i) rs g) r.fr o r.val r.ups r.acc) ∨
  ∃ f as_ k1, hs[i]? = some (some k1) ∧ guardA (σat n (upto i) rs σ) o.guard = some true ∧ o.ao.allocs = false ∧ (o.ao.sem r.fr (argσ (σat n (upto i) rs σ))).run (gat (upto i) rs g) = some (.call f as_) ∧ callable P f = true ∧ Fi P f as_ (gat (upto i) rs g) r.fr r.val (gput (gat (upto i) rs g) r.ups) k1
theorem opsF_canon {P : Program} {n : Nat} {os : List AOper} {σ σ' : Nat → AV} {g g' : Nat → Option Bk} {k k' : Nat} {rs : List Rec} {hs : List (Option Nat)} (h : OpsF P n os σ g k rs hs σ' g' k') :
    (rs.length = os.length ∧ hs.length = os.length) ∧ k ≤ k' ∧ (∀ (i : Nat) o, os[i]? = some o → ∃ r, rs[i]? = some r ∧ r.dst = o.dst ∧ RunF P n σ g rs hs i o r ∧ k ≤ r.fr) ∧
      (∀ (i j : Nat) ri rj, i < j → rs[i]? = some ri → rs[j]? = some rj → (∀ id, id ∈ ri.keys → id < rj.fr) ∧ ∀ k1, hs[i]? = some (some k1) → k1 ≤ rj.fr) ∧ (∀ (i : Nat) r, rs[i]? = some r → (∀ id, id ∈ r.keys → id < k') ∧ ∀ k1, hs[i]? = some (some k1) → k1 ≤ k') ∧ σ' = σat n (fun _ => true) rs σ ∧ g' = gat (fun _ => true) rs g := by
  induction h with
  | nil => exact ⟨⟨rfl, rfl⟩, Nat.le_refl _, fun i o ho => by simp at ho, fun i j ri rj _ h => by simp at h, fun i r h => by simp at h, rfl, rfl⟩
  | @cons o os σ σ' g g' k k1 k' val ups acc rs hs h hk hu hr ih =>
    obtain ⟨⟨i1, i1'⟩, i2, i3, i4, i5, i6, i7⟩ := ih
    have e1 : ∀ i, σat n (upto (i + 1)) (⟨o.dst, val, ups, acc, k⟩ :: rs) σ = σat n (upto i) rs (putσ n o.dst val σ) := by
      intro i; funext t
      show lastW _ _ 1 rs _ = _
      rw [lastW_shift]
      unfold σat
      congr 1
      · funext j; simp [upto]
      · rw [if_pos (by simp [upto])]; exact (putσ_wσ n t ⟨o.dst, val, ups, acc, k⟩ σ).symm
    have e2 : ∀ i, gat (upto (i + 1)) (⟨o.dst, val, ups, acc, k⟩ :: rs) g = gat (upto i) rs (gput g ups) := by
      intro i; funext id
      show lastW _ _ 1 rs _ = _
      rw [lastW_shift]
      unfold gat
      congr 1
      · funext j; simp [upto]
      · rw [if_pos (by simp [upto]), gput_kv]; rfl
    refine ⟨⟨by simp [i1], by simp [i1']⟩, Nat.le_trans hk i2, fun i o' ho => ?_, fun i j ri rj hij hi hj => ?_, fun i r' hr' => ?_, ?_, ?_⟩
    · cases i with
      | zero =>
        simp only [List.getElem?_cons_zero, Option.some.injEq] at ho
        subst ho
        refine ⟨_, rfl, rfl, ?_, Nat.le_refl _⟩
        have s0 : σat n (upto 0) (⟨o.dst, val, ups, acc, k⟩ :: rs) σ = σ := by funext t; exact lastW_none _ 0 _ fun j r _ hl => by simp [upto] at hl
        have g0 : gat (upto 0) (⟨o.dst, val, ups, acc, k⟩ :: rs) g = g := by funext t; exact lastW_none _ 0 _ fun j r _ hl => by simp [upto] at hl
        unfold RunF
        rw [s0, g0]
        exact .inl ⟨rfl, h⟩
      | succ i =>
        obtain ⟨r', r1, r2, r3, r4⟩ := i3 i o' (by simpa using ho)
        refine ⟨r', by simpa using r1, r2, ?_, Nat.le_trans hk r4⟩
        unfold RunF
        rw [e1, e2, List.getElem?_cons_succ]; exact r3
    · cases j with
      | zero => omega
      | succ j =>
        simp only [List.getElem?_cons_succ] at hj
        cases i with
        | zero =>
          simp only [List.getElem?_cons_zero, Option.some.injEq] at hi
          subst hi
          have hjl : j < os.length := by rw [← i1]; exact (List.getElem?_eq_some_iff.1 hj).1
          obtain ⟨r', r1, _, _, r4⟩ := i3 j _ (List.getElem?_eq_getElem hjl)
          rw [hj] at r1
          simp only [Option.some.injEq] at r1
          subst r1
          exact ⟨fun id hid => Nat.lt_of_lt_of_le (hu id hid) r4, fun x hx => by first | (simp at hx; done) | (simp at hx; subst hx; exact r4)⟩
        | succ i => simp only [List.getElem?_cons_succ] at hi ⊢; exact i4 i j ri rj (by omega) hi hj
    · cases i with
      | zero =>
        simp only [List.getElem?_cons_zero, Option.some.injEq] at hr'
        subst hr'
        exact ⟨fun id hid => Nat.lt_of_lt_of_le (hu id hid) i2, fun x hx => by first | (simp at hx; done) | (simp at hx; subst hx; exact i2)⟩
      | succ i => simp only [List.getElem?_cons_succ] at hr' ⊢; exact i5 i r' hr'
    · rw [i6]
      funext t
      unfold σat
      simp only [lastW]
      rw [lastW_shift, if_true, putσ_wσ n t ⟨o.dst, val, ups, acc, k⟩ σ]
    · rw [i7]
      funext id
      unfold gat
      simp only [lastW]
      rw [lastW_shift, if_true, gput_kv]
      rfl
  | @fi o os σ σ' g g' k k1 k' r f as_ ups rs hs hg hal h hc hf hk hu hr ih =>
    obtain ⟨⟨i1, i1'⟩, i2, i3, i4, i5, i6, i7⟩ := ih
    have e1 : ∀ i, σat n (upto (i + 1)) (⟨o.dst, r, ups, [], k⟩ :: rs) σ = σat n (upto i) rs (putσ n o.dst r σ) := by
      intro i; funext t
      show lastW _ _ 1 rs _ = _
      rw [lastW_shift]
      unfold σat
      congr 1
      · funext j; simp [upto]
      · rw [if_pos (by simp [upto])]; exact (putσ_wσ n t ⟨o.dst, r, ups, [], k⟩ σ).symm
    have e2 : ∀ i, gat (upto (i + 1)) (⟨o.dst, r, ups, [], k⟩ :: rs) g = gat (upto i) rs (gput g ups) := by
      intro i; funext id
      show lastW _ _ 1 rs _ = _
      rw [lastW_shift]
      unfold gat
      congr 1
      · funext j; simp [upto]
      · rw [if_pos (by simp [upto]), gput_kv]; rfl
    refine ⟨⟨by simp [i1], by simp [i1']⟩, Nat.le_trans hk i2, fun i o' ho => ?_, fun i j ri rj hij hi hj => ?_, fun i r' hr' => ?_, ?_, ?_⟩
    · cases i with
      | zero =>
        simp only [List.getElem?_cons_zero, Option.some.injEq] at ho
        subst ho
        refine ⟨_, rfl, rfl, ?_, Nat.le_refl _⟩
        have s0 : σat n (upto 0) (⟨o.dst, r, ups, [], k⟩ :: rs) σ = σ := by funext t; exact lastW_none _ 0 _ fun j r _ hl => by simp [upto] at hl
        have g0 : gat (upto 0) (⟨o.dst, r, ups, [], k⟩ :: rs) g = g := by funext t; exact lastW_none _ 0 _ fun j r _ hl => by simp [upto] at hl
        unfold RunF
        rw [s0, g0]
        exact .inr ⟨f, as_, k1, rfl, hg, hal, h, hc, hf⟩
      | succ i =>
        obtain ⟨r', r1, r2, r3, r4⟩ := i3 i o' (by simpa using ho)
        refine ⟨r', by simpa using r1, r2, ?_, Nat.le_trans hk r4⟩
        unfold RunF
        rw [e1, e2, List.getElem?_cons_succ]; exact r3
    · cases j with
      | zero => omega
      | succ j =>
        simp only [List.getElem?_cons_succ] at hj
        cases i with
        | zero =>
          simp only [List.getElem?_cons_zero, Option.some.injEq] at hi
          subst hi
          have hjl : j < os.length := by rw [← i1]; exact (List.getElem?_eq_some_iff.1 hj).1
          obtain ⟨r', r1, _, _, r4⟩ := i3 j _ (List.getElem?_eq_getElem hjl)
          rw [hj] at r1
          simp only [Option.some.injEq] at r1
          subst r1
          exact ⟨fun id hid => Nat.lt_of_lt_of_le (hu id hid) r4, fun x hx => by first | (simp at hx; done) | (simp at hx; subst hx; exact r4)⟩
        | succ i => simp only [List.getElem?_cons_succ] at hi ⊢; exact i4 i j ri rj (by omega) hi hj
    · cases i with
      | zero =>
        simp only [List.getElem?_cons_zero, Option.some.injEq] at hr'
        subst hr'
        exact ⟨fun id hid => Nat.lt_of_lt_of_le (hu id hid) i2, fun x hx => by first | (simp at hx; done) | (simp at hx; subst hx; exact i2)⟩
      | succ i => simp only [List.getElem?_cons_succ] at hr' ⊢; exact i5 i r' hr'
    · rw [i6]
      funext t
      unfold σat
      simp only [lastW]
      rw [lastW_shift, if_true, putσ_wσ n t ⟨o.dst, r, ups, [], k⟩ σ]
    · rw [i7]
      funext id
      unfold gat
      simp only [lastW]
      rw [lastW_shift, if_true, gput_kv]
      rfl
section
variable {P : Program} {E0 : Env} {n : Nat} {ops : Array Oper} {J : Nat → Prop} {base : Nat} {w0 : World} {Q : Exit → Act → World → Prop} {os : List AOper} {dep : List (List Nat)} {σ σ' : Nat → AV} {g g' : Nat → Option Bk} {k k' : Nat} {rs : List Rec} {hs : List (Option Nat)}
structure DInvF (E0 : Env) (n : Nat) (ops : Array Oper) (J : Nat → Prop) (base : Nat) (w0 : World) (σ : Nat → AV) (g : Nat → Option Bk) (k : Nat) (rs : List Rec) (hs : List (Option Nat)) (listed : Array Bool) (a : Act) (w : World) : Prop where
  ex : ∃ E : Env, E.w = w ∧ E0.Le E ∧ (∀ t, Rep E (a.tmps.getD t undef) (σat n (fun j => listed.getD j false) rs σ t)) ∧ MemAt E J base (gat (fun j => listed.getD j false) rs g) ∧
    (∀ id, E.kn id → id < k ∨ ∃ j r, listed.getD j false = true ∧ rs[j]? = some r ∧ (id ∈ r.keys ∨ ∃ k1, hs[j]? = some (some k1) ∧ id < k1)) ∧ Mk E w0.heap.size a.defers
  size : a.tmps.size = n
  below : Below base w0 w
  gl : GlE E0
  lsize : listed.size = ops.size
  closed : ∀ (j : Nat) op, ops[j]? = some op → listed.getD j false = true → ∀ e, e ∈ dirOf op → listed.getD e false = true
theorem draw_soundF {rd : Option Nat} (hrec : OpsF P n os σ g k rs hs σ' g' k') (hlen : os.length = ops.size) (hops : ∀ (j : Nat) op, ops[j]? = some op → ∃ o, os[j]? = some o ∧ cOper P ops op = some o)
    (hd : depOK ops.toList dep = true) (hsl : slotsOK os dep = true) (hid : idsOK rs dep = true) (hcs : callsOK rs hs dep = true) (hQ : ∀ a w, RelS E0 J base w0 n σ' g' k' a w → Q .normal a w) :
    ∀ (fuel : Nat) (listed : Array Bool) (a : Act) (w : World), DInvF E0 n ops J base w0 σ g k rs hs listed a w → (∀ m : List Nat, (∀ j, j ∈ m → j < ops.size ∧ listed.getD j true = false) → m.Nodup → m.length ≤ fuel) → wpAnyIn (rnd rd) 0 P .any ops Q fuel listed a w := by
  obtain ⟨⟨c1, c1'⟩, c2, c3, c4, c5, c6, c7⟩ := opsF_canon hrec
  -- all are listed where none is ready
  have done : ∀ (listed : Array Bool) (a : Act) (w : World), DInvF E0 n ops J base w0 σ g k rs hs listed a w → Region.ready .any ops listed = [] → Q .normal a w := by
    intro listed a w hI hready
    have hall : ∀ j, j < ops.size → listed.getD j false = true := by
      intro j
      induction j using Nat.strongRecOn with
      | _ j ih =>
        intro hj
        cases hl : listed.getD j false with
        | true => rfl
        | false =>
          exfalso
          have hjs : j < listed.size := by rw [hI.lsize]; exact hj
          have : j ∈ Region.ready .any ops listed := by
            rw [mem_ready]
            refine ⟨by simp [hjs] at hl ⊢; exact hl, ops[j], Array.getElem?_eq_getElem hj, fun e he hb => ?_⟩
            have hdj := hd
            unfold depOK at hdj
            simp only [Bool.and_eq_true, List.all_eq_true, List.mem_range, decide_eq_true_eq] at hdj
            have hj2 := (hdj.2 j (by simpa using hj)).1
            have hopl : ops.toList[j]? = some ops[j] := by simp [hj]
            simp only [hopl, Option.map_some, Option.getD_some] at hj2
            have hlt := hj2 e.on (mem_dirOf.2 ⟨e, he, hb, rfl⟩)
            exact ih e.on hlt (by omega)
          rw [hready] at this
          simp at this
    obtain ⟨E, rfl, hle, h1, h2, h3, hmk⟩ := hI.ex
    have e6 : σat n (fun j => listed.getD j false) rs σ = σ' := by
      rw [c6]; funext t
      refine lastW_congr _ 0 _ fun j r hr hl => absurd ?_ hl
      rw [Nat.zero_add, hall j (by rw [← hlen, ← c1]; exact (List.getElem?_eq_some_iff.1 hr).1)]
    have e7 : gat (fun j => listed.getD j false) rs g = g' := by
      rw [c7]; funext t
      refine lastW_congr _ 0 _ fun j r hr hl => absurd ?_ hl
      rw [Nat.zero_add, hall j (by rw [← hlen, ← c1]; exact (List.getElem?_eq_some_iff.1 hr).1)]
    rw [e6] at h1; rw [e7] at h2
    refine hQ a E.w ⟨⟨E, rfl, hle, h1, h2, fun id hh => ?_, hmk⟩, hI.size, hI.below, hI.gl⟩
    rcases h3 id hh with h | ⟨j, r, _, hr, hk | ⟨k1, hk1, hk⟩⟩
    · exact Nat.lt_of_lt_of_le h c2
    · exact (c5 j r hr).1 id hk
    · exact Nat.lt_of_lt_of_le hk ((c5 j r hr).2 k1 hk1)
  intro fuel
  induction fuel with
  | zero =>
    intro listed a w hI hcount
    have hr : Region.ready .any ops listed = [] := by
      cases hr : Region.ready .any ops listed with
      | nil => rfl
      | cons x xs =>
        have hx : x ∈ Region.ready .any ops listed := by rw [hr]; simp
        obtain ⟨m1, o, m2, _⟩ := mem_ready.1 hx
        have := hcount [x] (fun j hj => by simp at hj; subst hj; exact ⟨(Array.getElem?_eq_some_iff.1 m2).1, m1⟩) (by simp)
        simp at this
    exact ⟨hr, done listed a w hI hr⟩
  | succ fuel ih =>
    intro listed a w hI hcount
    refine ⟨done listed a w hI, fun i hi => ?_⟩
    obtain ⟨m1, op, m2, m3⟩ := mem_ready.1 hi
    have hil : i < ops.size := (Array.getElem?_eq_some_iff.1 m2).1
    have hunl : listed.getD i false = false := by
      have : i < listed.size := by rw [hI.lsize]; exact hil
      simp [this] at m1 ⊢; exact m1
    have hdir : ∀ e, e ∈ dirOf op → listed.getD e false = true := fun e he => by
      obtain ⟨x, hx, hb, rfl⟩ := mem_dirOf.1 he
      exact m3 x hx hb
    obtain ⟨o, ho, hco⟩ := hops i op m2
    obtain ⟨r, hri, hrd, hrun, hfr⟩ := c3 i o ho
    obtain ⟨E, rfl, hle, h1, h2, h3, hmk⟩ := hI.ex
    -- whoever is listed out of turn is free of this one
    have free : ∀ j rj oj, j ≠ i → rs[j]? = some rj → os[j]? = some oj → listed.getD j false ≠ upto i j → (slotFree (if i < j then o else oj) (if i < j then oj else o) = true ∧ idFree (if i < j then r else rj) (if i < j then rj else r) = true) := by
      intro j rj oj hne hrj hoj hl
      have hjl : j < os.length := (List.getElem?_eq_some_iff.1 hoj).1
      unfold slotsOK at hsl
      unfold idsOK at hid
      simp only [List.all_eq_true, List.mem_range, Bool.or_eq_true, List.contains_iff_mem] at hsl hid
      by_cases hij : i < j
      · rw [if_pos hij, if_pos hij, if_pos hij, if_pos hij]
        have hlj : listed.getD j false = true := by
          have hu : upto i j = false := by simp [upto]; omega
          rw [hu] at hl
          simpa using hl
        have hnd : i ∉ (dep[j]?).getD [] := by
          intro hmem
          have hjo : j < ops.size := by omega
          have := dep_closed hd hI.closed j ops[j] (Array.getElem?_eq_getElem hjo) (hI.closed j _ (Array.getElem?_eq_getElem hjo) hlj) i hmem
          rw [hunl] at this; simp at this
        have s1 := (hsl j hjl i hij).resolve_left hnd
        have s2 := (hid j (by rw [c1]; exact hjl) i hij).resolve_left hnd
        rw [ho, hoj] at s1; rw [hri, hrj] at s2
        exact ⟨s1, s2⟩
      · rw [if_neg hij, if_neg hij, if_neg hij, if_neg hij]
        have hji : j < i := by omega
        have hlj : listed.getD j false = false := by
          have hu : upto i j = true := by simp [upto]; omega
          rw [hu] at hl
          simpa using hl
        have hnd : j ∉ (dep[i]?).getD [] := by
          intro hmem
          have := dep_closed hd hI.closed i op m2 hdir j hmem
          rw [hlj] at this; simp at this
        have s1 := (hsl i (by omega) j hji).resolve_left hnd
        have s2 := (hid i (by omega) j hji).resolve_left hnd
        rw [ho, hoj] at s1; rw [hri, hrj] at s2
        exact ⟨s1, s2⟩
    have getO : ∀ (j : Nat) rj, rs[j]? = some rj → ∃ oj, os[j]? = some oj ∧ rj.dst = oj.dst := fun j rj hrj => by
      have hjl : j < os.length := by rw [← c1]; exact (List.getElem?_eq_some_iff.1 hrj).1
      obtain ⟨r', q1, q2, _, _⟩ := c3 j _ (List.getElem?_eq_getElem hjl)
      rw [hrj] at q1; simp only [Option.some.injEq] at q1; subst q1
      exact ⟨_, List.getElem?_eq_getElem hjl, q2⟩
    -- a slot that it looks at is as it comes one behind the other
    have hσ : ∀ t, t ∈ o.uses → σat n (fun j => listed.getD j false) rs σ t = σat n (upto i) rs σ t := by
      intro t ht
      refine lastW_congr _ 0 _ fun j rj hrj hl => ?_
      rw [Nat.zero_add] at hl
      by_cases hne : j = i
      · subst hne; rw [hunl] at hl; simp [upto] at hl
      · obtain ⟨oj, hoj, hdj⟩ := getO j rj hrj
        have hf := (free j rj oj hne hrj hoj hl).1
        unfold wσ
        rw [if_neg]
        rintro ⟨hdt, _⟩
        rw [hdj] at hdt
        unfold slotFree at hf
        by_cases hij : i < j
        · simp only [if_pos hij, hdt, Bool.and_eq_true, Bool.not_eq_true', List.contains_eq_mem, decide_eq_false_iff_not] at hf
          exact hf.2 ht
        · simp only [if_neg hij, hdt, Bool.and_eq_true, Bool.not_eq_true', List.contains_eq_mem, decide_eq_false_iff_not] at hf
          exact hf.1.1 ht
    have hg : ∀ id, id ∈ r.acc → gat (fun j => listed.getD j false) rs g id = gat (upto i) rs g id := by
      intro id hida
      refine lastW_congr _ 0 _ fun j rj hrj hl => ?_
      rw [Nat.zero_add] at hl
      by_cases hne : j = i
      · subst hne; rw [hunl] at hl; simp [upto] at hl
      · obtain ⟨oj, hoj, hdj⟩ := getO j rj hrj
        have hf := (free j rj oj hne hrj hoj hl).2
        cases hw : wg id rj with
        | none => rfl
        | some y =>
          exfalso
          have hk : id ∈ rj.keys := kv_mem (by unfold wg at hw; rw [hw]; simp)
          unfold idFree at hf
          by_cases hij : i < j
          · simp only [if_pos hij, Bool.and_eq_true, List.all_eq_true, Bool.not_eq_true', List.contains_eq_mem, decide_eq_false_iff_not] at hf
            exact hf.2 id hk hida
          · simp only [if_neg hij, Bool.and_eq_true, List.all_eq_true, Bool.not_eq_true', List.contains_eq_mem, decide_eq_false_iff_not] at hf
            exact (hf.1 id hk).1 hida
    have isCi : ∀ {j x}, hs[j]? = some (some x) → isC hs j = true := fun h => by unfold isC; rw [h]
    have free2 : ∀ j rj, j ≠ i → rs[j]? = some rj → listed.getD j false ≠ upto i j → (isC hs i && isC hs j) = false ∧ (isC hs i = true → rj.ups = []) ∧ (isC hs j = true → r.ups = []) := by
      intro j rj hne hrj hl
      have hjl : j < rs.length := (List.getElem?_eq_some_iff.1 hrj).1
      unfold callsOK at hcs
      simp only [List.all_eq_true, List.mem_range, Bool.or_eq_true, List.contains_iff_mem] at hcs
      by_cases hij : i < j
      · have hlj : listed.getD j false = true := by
          have hu : upto i j = false := by simp [upto]; omega
          rw [hu] at hl
          simpa using hl
        have hnd : i ∉ (dep[j]?).getD [] := by
          intro hmem
          have hjo : j < ops.size := by omega
          have := dep_closed hd hI.closed j ops[j] (Array.getElem?_eq_getElem hjo) (hI.closed j _ (Array.getElem?_eq_getElem hjo) hlj) i hmem
          rw [hunl] at this; simp at this
        have s2 := (hcs j hjl i hij).resolve_left hnd
        rw [hri, hrj] at s2
        simp only [Bool.and_eq_true, Bool.or_eq_true, Bool.not_eq_true', List.isEmpty_iff] at s2
        exact ⟨s2.1, fun h => s2.2.1.resolve_left (by rw [h]; simp), fun h => s2.2.2.resolve_left (by rw [h]; simp)⟩
      · have hji : j < i := by omega
        have hlj : listed.getD j false = false := by
          have hu : upto i j = true := by simp [upto]; omega
          rw [hu] at hl
          simpa using hl
        have hnd : j ∉ (dep[i]?).getD [] := by
          intro hmem
          have := dep_closed hd hI.closed i op m2 hdir j hmem
          rw [hlj] at this; simp at this
        have s2 := (hcs i (by omega) j hji).resolve_left hnd
        rw [hri, hrj] at s2
        simp only [Bool.and_eq_true, Bool.or_eq_true, Bool.not_eq_true', List.isEmpty_iff] at s2
        exact ⟨by rw [Bool.and_comm]; exact s2.1, fun h => s2.2.2.resolve_left (by rw [h]; simp), fun h => s2.2.1.resolve_left (by rw [h]; simp)⟩
    have fin : ∀ v E', E.Le E' → Rep E' v r.val → MemAt E' J base (gput (gat (fun j => listed.getD j false) rs g) r.ups) → Below base E.w E'.w → (∀ id, E'.kn id → (E.kn id ∨ id ∈ r.keys) ∨ ∃ k1, hs[i]? = some (some k1) ∧ id < k1) → wpAnyIn (rnd rd) 0 P .any ops Q fuel (listed.setIfInBounds i true) (a.put o.dst v) E'.w := by
      intro v E' hE hv hM hB hkn
      -- it is listed now
      have hlist : ∀ j, (listed.setIfInBounds i true).getD j false = if j = 0 + i then true else listed.getD j false := by
        intro j
        rw [Nat.zero_add]
        have hils : i < listed.size := by rw [hI.lsize]; exact hil
        by_cases hji : j = i
        · subst hji; simp [hils]
        · rw [if_neg hji, getD_set_ne false (Ne.symm hji)]
      have nσ : ∀ t, σat n (fun j => (listed.setIfInBounds i true).getD j false) rs σ t = putσ n o.dst r.val (σat n (fun j => listed.getD j false) rs σ) t := by
        intro t
        rw [← hrd, putσ_wσ]
        refine lastW_ins rs 0 i _ r hri (by rw [Nat.zero_add]; exact hunl) hlist fun j rj hij hrj hlj => ?_
        rw [Nat.zero_add] at hlj
        obtain ⟨oj, hoj, hdj⟩ := getO j rj hrj
        have hf := (free j rj oj (by omega) hrj hoj (by rw [hlj]; simp [upto]; omega)).1
        unfold slotFree at hf
        simp only [if_pos hij] at hf
        by_cases hd1 : r.dst = some t
        · left
          unfold wσ
          rw [if_neg]
          rintro ⟨hdt, _⟩
          rw [hrd] at hd1
          rw [hdj] at hdt
          simp only [hd1, hdt, Bool.and_eq_true, bne_iff_ne, ne_eq] at hf
          exact hf.1.2 trivial
        · right
          unfold wσ
          rw [if_neg]
          rintro ⟨hdt, _⟩
          exact hd1 hdt
      have ng : ∀ id, gat (fun j => (listed.setIfInBounds i true).getD j false) rs g id = gput (gat (fun j => listed.getD j false) rs g) r.ups id := by
        intro id
        rw [gput_kv]
        refine lastW_ins rs 0 i _ r hri (by rw [Nat.zero_add]; exact hunl) hlist fun j rj hij hrj hlj => ?_
        rw [Nat.zero_add] at hlj
        obtain ⟨oj, hoj, hdj⟩ := getO j rj hrj
        have hf := (free j rj oj (by omega) hrj hoj (by rw [hlj]; simp [upto]; omega)).2
        unfold idFree at hf
        simp only [if_pos hij, Bool.and_eq_true, List.all_eq_true, Bool.not_eq_true', List.contains_eq_mem, decide_eq_false_iff_not] at hf
        cases hw : wg id r with
        | none => exact .inr rfl
        | some y =>
          left
          cases hw2 : wg id rj with
          | none => rfl
          | some y2 =>
            exfalso
            have k1 : id ∈ r.keys := kv_mem (by unfold wg at hw; rw [hw]; simp)
            have k2 : id ∈ rj.keys := kv_mem (by unfold wg at hw2; rw [hw2]; simp)
            exact (hf.1 id k1).2 k2
      refine ih _ _ _ ⟨⟨E', rfl, hle.trans hE, fun t => ?_, ?_, fun id hh => ?_, ?_⟩, ?_, hI.below.trans hB, hI.gl, by simpa using hI.lsize, fun j oj hoj hlj e he => ?_⟩ fun m hm hnd => ?_
      · rw [nσ t]
        have := put_rep hE h1 hv o.dst t
        rw [hI.size] at this
        exact this
      · rw [show gat (fun j => (listed.setIfInBounds i true).getD j false) rs g = gput (gat (fun j => listed.getD j false) rs g) r.ups from funext ng]
        exact hM
      · rcases hkn id hh with (h | h) | h
        · rcases h3 id h with h | ⟨j, rj, q1, q2, q3⟩
          · exact .inl h
          · exact .inr ⟨j, rj, getD_set_true q1, q2, q3⟩
        · refine .inr ⟨i, r, ?_, hri, .inl h⟩
          rw [hlist i, Nat.zero_add, if_pos rfl]
        · refine .inr ⟨i, r, ?_, hri, .inr h⟩
          rw [hlist i, Nat.zero_add, if_pos rfl]
      · rw [(put_size a o.dst v).2]; exact hmk.step hE
      · rw [(put_size a o.dst v).1]; exact hI.size
      · rw [hlist j, Nat.zero_add] at hlj
        by_cases hji : j = i
        · subst hji
          rw [m2] at hoj; simp only [Option.some.injEq] at hoj; subst hoj
          exact getD_set_true (hdir e he)
        · rw [if_neg hji] at hlj
          exact getD_set_true (hI.closed j oj hoj hlj e he)
      · have hni : i ∉ m := fun hmem => by
          have := (hm i hmem).2
          have hils : i < listed.size := by rw [hI.lsize]; exact hil
          simp [hils] at this
        have := hcount (i :: m) (fun j hj => by
          rcases List.mem_cons.1 hj with rfl | hj
          · exact ⟨hil, m1⟩
          · refine ⟨(hm j hj).1, ?_⟩
            have h5 := (hm j hj).2
            have hji : i ≠ j := fun e => hni (e ▸ hj)
            rwa [getD_set_ne true hji] at h5) (List.nodup_cons.2 ⟨hni, hnd⟩)
        simpa using this
    rcases hrun with ⟨hnone, hrun⟩ | ⟨f, as_, k1, hsome, hgd, hal, hsem, hcl, hfi⟩
    · -- a name that nobody has
      have hname : ∃ fr', ¬ E.kn fr' ∧ (r.fr ∈ r.ups.map Prod.fst → fr' = r.fr) := by
        by_cases hin : r.fr ∈ r.ups.map Prod.fst
        · refine ⟨r.fr, fun hk => ?_, fun _ => rfl⟩
          rcases h3 _ hk with h | ⟨j, rj, hlj, hrj, hkj⟩
          · omega
          · by_cases hne : j = i
            · subst hne; rw [hunl] at hlj; simp at hlj
            · rcases hkj with hkj | ⟨k1, hk1, hkj⟩
              rotate_left
              · by_cases hij : i < j
                · have := (free2 j rj hne hrj (by rw [hlj]; simp [upto]; omega)).2.2 (isCi hk1)
                  rw [this] at hin; simp at hin
                · have := (c4 j i rj r (by omega) hrj hri).2 k1 hk1
                  omega
              by_cases hij : i < j
              · obtain ⟨oj, hoj, _⟩ := getO j rj hrj
                have hf := (free j rj oj hne hrj hoj (by rw [hlj]; simp [upto]; omega)).2
                unfold idFree at hf
                simp only [if_pos hij, Bool.and_eq_true, List.all_eq_true, Bool.not_eq_true', List.contains_eq_mem, decide_eq_false_iff_not] at hf
                exact (hf.1 _ hin).2 hkj
              · have := (c4 j i rj r (by omega) hrj hri).1 _ hkj
                exact Nat.lt_irrefl _ this
        · refine ⟨k', fun hk => ?_, fun h => absurd h hin⟩
          rcases h3 _ hk with h | ⟨j, rj, hlj, hrj, hkj | ⟨k1, hk1, hkj⟩⟩
          · omega
          · exact Nat.lt_irrefl _ ((c5 j rj hrj).1 _ hkj)
          · exact Nat.lt_irrefl _ (Nat.lt_of_lt_of_le hkj ((c5 j rj hrj).2 k1 hk1))
      obtain ⟨fr', hfr1, hfr2⟩ := hname
      obtain ⟨acc', hrun'⟩ := hrun.local hσ hg hfr2
      exact step_sound (hI.gl.step hle) h1 h2 hfr1 m2 hco hrun' fun v E' hE hv hM hB hkn => fin v E' hE hv hM hB fun id h => .inl (hkn id h)
    · have hci := isCi hsome
      have gall : gat (fun j => listed.getD j false) rs g = gat (upto i) rs g := by
        funext id
        refine lastW_congr _ 0 _ fun j rj hrj hl => ?_
        rw [Nat.zero_add] at hl
        by_cases hne : j = i
        · subst hne; rw [hunl] at hl; simp [upto] at hl
        · unfold wg; rw [(free2 j rj hne hrj hl).2.1 hci]; rfl
      have hknl : ∀ id, E.kn id → id < r.fr := by
        intro id hid
        rcases h3 id hid with h | ⟨j, rj, hlj, hrj, hkj⟩
        · omega
        · by_cases hne : j = i
          · subst hne; rw [hunl] at hlj; simp at hlj
          · by_cases hij : i < j
            · have hf2 := free2 j rj hne hrj (by rw [hlj]; simp [upto]; omega)
              rcases hkj with hkj | ⟨x, hx, hkj⟩
              · unfold Rec.keys at hkj; rw [hf2.2.1 hci] at hkj; simp at hkj
              · have := hf2.1; rw [hci, isCi hx] at this; simp at this
            · rcases hkj with hkj | ⟨x, hx, hkj⟩
              · exact (c4 j i rj r (by omega) hrj hri).1 _ hkj
              · have := (c4 j i rj r (by omega) hrj hri).2 x hx; omega
      have hgd2 : guardA (σat n (fun j => listed.getD j false) rs σ) o.guard = some true := by
        rw [← hgd]
        cases hg0 : o.guard with
        | none => rfl
        | some p =>
          obtain ⟨t, w⟩ := p
          simp only [guardA, hσ t (by simp [AOper.uses, hg0])]
      have hsem2 : (o.ao.sem r.fr (argσ (σat n (fun j => listed.getD j false) rs σ))).run (gat (fun j => listed.getD j false) rs g) = some (.call f as_) := by
        rw [gall, sem_congr r.fr fun t ht => hσ t (by simp [AOper.uses, ht])]; exact hsem
      have hdd := cOper_inv hco
      have hse : ∀ e, op.semAt (rnd rd).round e = execOp e op := fun e => Oper.semAt_plain (rnd rd) _ _ (cOp_nodefer hdd.2)
      unfold wpOpIn
      simp only [m2]
      rw [guard_sound h1 hco hgd2, if_pos rfl]
      obtain ⟨vs, e1, e2⟩ := call_sound (Args.of (hI.gl.step hle) h1) hdd.2 hsem2 hcl
      unfold Oper.wpIn
      rw [hse, e1, Oper.uponIn_enter]
      have h2' := h2
      rw [gall] at h2'
      refine ⟨rnd_out, rnd_depth, calls_rnd ((hfi E J base vs (hI.gl.step hle) h2' hknl e2).mono ?_)⟩
      rintro e w' ⟨v, E', rfl, rfl, q1, q2, q3, q4, q5⟩
      have hfin := fin v E' q1 q2 (by rw [gall]; exact q3) q4 fun id h => .inr ⟨k1, hsome, q5 id h⟩
      rw [hdd.1] at hfin
      exact hfin
theorem region_drawF {id : Nat} (hmix : P.follows .mixedOrders = true) (hrec : OpsF P n os σ g k rs hs σ' g' k') (hlen : os.length = ops.size) (hops : ∀ (j : Nat) op, ops[j]? = some op → ∃ o, os[j]? = some o ∧ cOper P ops op = some o)
    (hd : depOK ops.toList dep = true) (hsl : slotsOK os dep = true) (hid : idsOK rs dep = true) (hcs : callsOK rs hs dep = true) (hQ : ∀ a w, RelS E0 J base w0 n σ' g' k' a w → Q .normal a w) {a : Act} {w : World} (hrel : RelS E0 J base w0 n σ g k a w) {rd : Option Nat} : (Code.region id ops true).wpIn (rnd rd) 0 P Q a w := by
  refine wpIn_region_any hmix ?_
  obtain ⟨E, rfl, hle, h1, h2, h3, hmk⟩ := hrel.ex
  obtain ⟨E', hw, hE, hM, _, hk, _, _⟩ := h2.drew
  have hrep : ∀ (j : Nat), (Array.replicate ops.size false).getD j false = false := by
    intro j
    rcases Nat.lt_or_ge j ops.size with h | h
    · simp [h]
    · simp [h]
  refine draw_soundF hrec hlen hops hd hsl hid hcs hQ ops.size _ a _ ⟨⟨E', hw, hle.trans hE, fun t => ?_, ?_, fun id hh => .inl (h3 id ((hk id).1 hh)), hmk.step hE⟩, hrel.size, hrel.below.drew, hrel.gl, by simp, fun j op hop hl => ?_⟩ fun m hm hnd => ?_
  · have : σat n (fun j => (Array.replicate ops.size false).getD j false) rs σ t = σ t := lastW_none _ 0 _ fun j r _ hl => by rw [hrep] at hl; simp at hl
    rw [this]; exact (h1 t).step hE
  · have : gat (fun j => (Array.replicate ops.size false).getD j false) rs g = g := by funext id; exact lastW_none _ 0 _ fun j r _ hl => by rw [hrep] at hl; simp at hl
    rw [this]; exact hM
  · rw [hrep] at hl; simp at hl
  · exact nodup_len _ _ hnd fun j hj => (hm j hj).1
inductive DrawF (P : Program) (n : Nat) (dep : List (List Nat)) : List AOper → (Nat → AV) → (Nat → Option Bk) → Nat → List Rec → List (Option Nat) → (Nat → AV) → (Nat → Option Bk) → Nat → Prop
  | nil {σ : Nat → AV} {g : Nat → Option Bk} {k : Nat} {rs : List Rec} {hs : List (Option Nat)} (hid : idsOK rs dep = true) (hcs : callsOK rs hs dep = true) : DrawF P n dep [] σ g k rs hs σ g k
  | cons {o : AOper} {os : List AOper} {σ σ' : Nat → AV} {g g' : Nat → Option Bk} {k k1 k' : Nat} {val : AV} {ups : List (Nat × Option Bk)} {acc : List Nat} {rs : List Rec} {hs : List (Option Nat)} (h : OpRun P σ g k o val ups acc) (hk : k ≤ k1) (hu : ∀ id, id ∈ ups.map Prod.fst → id < k1)
      (hr : DrawF P n dep os (putσ n o.dst val σ) (gput g ups) k1 (rs ++ [⟨o.dst, val, ups, acc, k⟩]) (hs ++ [none]) σ' g' k') : DrawF P n dep (o :: os) σ g k rs hs σ' g' k'
  | fi {o : AOper} {os : List AOper} {σ σ' : Nat → AV} {g g' : Nat → Option Bk} {k k1 k' : Nat} {r : AV} {f : FuncId} {as_ : List AV} {ups : List (Nat × Option Bk)} {rs : List Rec} {hs : List (Option Nat)} (hg : guardA σ o.guard = some true) (hal : o.ao.allocs = false) (h : (o.ao.sem k (argσ σ)).run g = some (.call f as_)) (hc : callable P f = true) (hf : Fi P f as_ g k r (gput g ups) k1) (hk : k ≤ k1) (hu : ∀ id, id ∈ ups.map Prod.fst → id < k1)
      (hr : DrawF P n dep os (putσ n o.dst r σ) (gput g ups) k1 (rs ++ [⟨o.dst, r, ups, [], k⟩]) (hs ++ [some k1]) σ' g' k') : DrawF P n dep (o :: os) σ g k rs hs σ' g' k'
theorem OpsF.snoc {o : AOper} {k1 : Nat} {val : AV} {ups : List (Nat × Option Bk)} {acc : List Nat} (h0 : OpsF P n os σ g k rs hs σ' g' k') (h : OpRun P σ' g' k' o val ups acc) (hk : k' ≤ k1) (hu : ∀ id, id ∈ ups.map Prod.fst → id < k1) : OpsF P n (os ++ [o]) σ g k (rs ++ [⟨o.dst, val, ups, acc, k'⟩]) (hs ++ [none]) (putσ n o.dst val σ') (gput g' ups) k1 := by
  induction h0 with
  | nil => exact .cons h hk hu .nil
  | cons h1 h2 h3 h4 ih => exact .cons h1 h2 h3 (ih h hk)
  | fi h1 h2 h3 h4 h5 h6 h7 h8 ih => exact .fi h1 h2 h3 h4 h5 h6 h7 (ih h hk)
theorem OpsF.snocF {o : AOper} {k1 : Nat} {r : AV} {f : FuncId} {as_ : List AV} {ups : List (Nat × Option Bk)} (h0 : OpsF P n os σ g k rs hs σ' g' k') (hg : guardA σ' o.guard = some true) (hal : o.ao.allocs = false) (h : (o.ao.sem k' (argσ σ')).run g' = some (.call f as_)) (hc : callable P f = true) (hf : Fi P f as_ g' k' r (gput g' ups) k1) (hk : k' ≤ k1) (hu : ∀ id, id ∈ ups.map Prod.fst → id < k1) :
    OpsF P n (os ++ [o]) σ g k (rs ++ [⟨o.dst, r, ups, [], k'⟩]) (hs ++ [some k1]) (putσ n o.dst r σ') (gput g' ups) k1 := by
  induction h0 with
  | nil => exact .fi hg hal h hc hf hk hu .nil
  | cons h1 h2 h3 h4 ih => exact .cons h1 h2 h3 (ih hg h hf hk)
  | fi h1 h2 h3 h4 h5 h6 h7 h8 ih => exact .fi h1 h2 h3 h4 h5 h6 h7 (ih hg h hf hk)
theorem DrawF.all {pre : List AOper} {σ0 : Nat → AV} {g0 : Nat → Option Bk} {kk : Nat} (h0 : OpsF P n pre σ0 g0 kk rs hs σ g k) (h : DrawF P n dep os σ g k rs hs σ' g' k') : ∃ rs' hs', OpsF P n (pre ++ os) σ0 g0 kk rs' hs' σ' g' k' ∧ idsOK rs' dep = true ∧ callsOK rs' hs' dep = true := by
  induction h generalizing pre with
  | nil h1 h2 => exact ⟨_, _, by rw [List.append_nil]; exact h0, h1, h2⟩
  | @cons o os σ σ' g g' k k1 k' val ups acc rs hs h hk hu hr ih =>
    have := ih (pre := pre ++ [o]) (h0.snoc h hk hu)
    rwa [List.append_assoc] at this
  | @fi o os σ σ' g g' k k1 k' r f as_ ups rs hs hg hal h hc hf hk hu hr ih =>
    have := ih (pre := pre ++ [o]) (h0.snocF hg hal h hc hf hk hu)
    rwa [List.append_assoc] at this
theorem EW.drawF {k0 : Nat} {s : S3} {Q : Ex → S3 → Prop} {s' : S3} (h : DrawF P n dep os s.σ s.g s.k [] [] s'.σ s'.g s'.k) (hq : Q .normal s') : EW P n k0 (.reg os (some dep)) s Q := by
  intro rd c E0 J base w0 a w hrd hc hk hr
  obtain ⟨id, ops, draw, rfl, h1, h2⟩ := cCode_reg hc
  rcases h2 with ⟨rfl, hh⟩ | ⟨rfl, d, hd, h3, h4, h5⟩
  · simp at hh
  · simp only [Option.some.injEq] at hd
    subst hd
    obtain ⟨k1, k2⟩ := cOpers_get h1
    obtain ⟨rs', hs', a1, a2, a3⟩ := DrawF.all .nil h
    rw [List.nil_append] at a1
    exact region_drawF h5 a1 (by rw [← k1]; simp) (fun j op hj => k2 j op (by simpa using hj)) h3 h4 a2 a3 (fun a' w' hr' => ⟨.normal, s', hq, rfl, hr'⟩) hr
end
section
variable {P : Program} {n k k0 : Nat} {x : L3} {K : L3 → Prop} {Q : Ex → L3 → Prop} {R : List AOper} {dep : List (List Nat)} {rs : List Rec} {hs : List (Option Nat)}
end
abbrev cl (f : Nat) (as_ : List Arg) : AO := .call (.c (.fn f [])) as_
abbrev cd (k : Nat) (y z : AC) : AC := .cond (.s k) y z
abbrev bi (o : BinOp) (a b : Arg) : AO := .bin false o a b
abbrev lq (n k : Nat) : AO := .load (some n) (.s k)
abbrev RL := List AOper
abbrev zi (n : Int) : AV := .v (.int .i64 n)
abbrev zs : AV := .v (.string ⟨#[]⟩)
abbrev ci (n : Int) : Arg := .c (zi n)
abbrev cT : Arg := .c (.v (.bool true))
abbrev cF : Arg := .c (.v (.bool false))
abbrev ld (k : Nat) : AO := .load none (.s k)
abbrev ms (k : Nat) : AO := .mov (.s k)
abbrev fd (a k : Nat) : AO := .fad a (.s k)
abbrev sr (R : List AOper) (b : AC) : AC := .seq (.reg R none) b
abbrev rg (R : List AOper) : AC := .reg R none
def F7r0 : RL := [oo 2 (.mov cF)]
def F7r1 : RL := [oo 9 (cl 9 []),
 oo 10 (.un .not (.s 9))]
def F7r2 : RL := [oo 2 (.mov cF)]
def F7r3 : RL := [oo 11 (ms 0),
 oo 12 (cl 13 [.s 11]),
 oo 3 (ms 12)]
def F7r4 : RL := [oo 13 (ms 3),
 oo 14 (.len false (.s 13)),
 oo 15 (bi .eql (.s 14) (ci 0)),
 oo 16 (ms 15),
 on 17 (ms 3) 16,
 on 18 (.len false (.s 17)) 16,
 on 19 (bi .gtr (.s 18) (ci 64)) 16,
 oo 20 (.pick (.s 16) cT (.s 19))]
def F7r5 : RL := [oo 2 (.mov cT)]
def F7r6 : RL := [oo 4 (.mov (ci 0))]
def F7r7 : RL := [oo 5 (.mov (ci 0))]
def F7r8 : RL := [oo 21 (ms 5),
 oo 22 (bi .lss (.s 21) (ci 256))]
def F7r9 : RL := [oo 25 (ms 3),
 oo 26 (ms 5),
 oo 27 (.conv .u8 (.s 26)),
 oo 28 (cl 16 [.s 25, .s 27]),
 oo 29 (bi .neq (.s 28) (.c (.v (.int .u8 0))))]
def F7r10 : RL := [oo 30 (ms 4),
 oo 31 (bi .add (.s 30) (ci 1)),
 oo 4 (ms 31)]
def F7r11 : RL := [oo 33 (ms 3),
 oo 34 (ms 5),
 oo 35 (.conv .u8 (.s 34)),
 oo 36 (.bsl 1 2 [.v (.int .u8 0)] [(0, .s 35), (1, .c (.v (.int .u8 1)))]),
 oo 37 (cl 14 [.s 33, .s 36]),
 oo 32 (ms 37),
 oo 38 (.ext 0 (.s 32)),
 oo 39 (.ext 1 (.s 32)),
 oo 40 (.ext 2 (.s 32)),
 oo 6 (ms 38),
 oo 7 (ms 39),
 oo 8 (ms 40)]
def F7r12 : RL := [oo 41 (ms 8),
 oo 42 (bi .neq (.s 41) (ci 0)),
 oo 43 (ms 42),
 on 44 (ms 7) 43,
 on 45 (.len false (.s 44)) 43,
 on 46 (bi .neq (.s 45) (ci 0)) 43,
 oo 47 (.pick (.s 43) cT (.s 46))]
def F7r13 : RL := [oo 2 (.mov cF)]
def F7r14 : RL := [oo 23 (ms 5),
 oo 24 (bi .add (.s 23) (ci 1)),
 oo 5 (ms 24)]
def F7r15 : RL := [oo 48 (ms 4),
 oo 49 (ms 3),
 oo 50 (.len false (.s 49)),
 oo 51 (bi .lss (.s 48) (.s 50)),
 oo 2 (ms 51)]
def F7 : AFn := ⟨52, [.tmp 2],
  sr F7r0
  (.seq (sr F7r1
  (cd 10
    (sr F7r2
    (.ret))
    (.skip)))
  (sr F7r3
  (.seq (sr F7r4
  (cd 20
    (sr F7r5
    (.ret))
    (.skip)))
  (sr F7r6
  (.seq (sr F7r7
  (.block 0 (
    .loop (
      .seq (sr F7r8
      (cd 22
        (.skip)
        (.exit 0)))
      (.seq (.block 1 (
        .seq (sr F7r9
        (cd 29
          (.exit 1)
          (.skip)))
        (sr F7r10
        (sr F7r11
        (sr F7r12
        (cd 47
          (sr F7r13
          (.ret))
          (.skip)))))))
      (rg F7r14))))))
  (sr F7r15
  (.ret)))))))⟩
theorem F7_ok : cFunc Try.prog 7 = some F7 := by kernel_rfl
theorem F7_call : callable Try.prog 7 = true := by kernel_rfl
def F9r0 : RL := [oo 0 (.mov cF)]
def F9r1 : RL := [oo 14 (.bsl 1 2 [.v (.int .u8 0)] [(0, .c (.v (.int .u8 1))), (1, .c (.v (.int .u8 1)))]),
 oo 15 (.bsl 1 3 [.v (.int .u8 0)] [(0, .c (.v (.int .u8 2))), (1, .c (.v (.int .u8 1))), (2, .c (.v (.int .u8 0)))]),
 oo 16 (cl 10 [.s 14, .s 15]),
 oo 13 (ms 16),
 oo 17 (.ext 0 (.s 13)),
 oo 18 (.ext 1 (.s 13)),
 oo 1 (ms 17),
 oo 2 (ms 18)]
def F9r2 : RL := [oo 20 (ms 1),
 oo 21 (.bsl 1 2 [.v (.int .u8 0)] [(0, .c (.v (.int .u8 2))), (1, .c (.v (.int .u8 1)))]),
 oo 22 (cl 14 [.s 20, .s 21]),
 oo 19 (ms 22),
 oo 23 (.ext 0 (.s 19)),
 oo 24 (.ext 1 (.s 19)),
 oo 25 (.ext 2 (.s 19)),
 oo 3 (ms 23),
 oo 4 (ms 24),
 oo 5 (ms 25)]
def F9r3 : RL := [oo 27 (.bsl 1 2 [.v (.int .u8 0)] [(0, .c (.v (.int .u8 0))), (1, .c (.v (.int .u8 1)))]),
 oo 28 (.bsl 1 2 [.v (.int .u8 0)] [(0, .c (.v (.int .u8 7))), (1, .c (.v (.int .u8 5)))]),
 oo 29 (cl 15 [.s 27, .s 28]),
 oo 26 (ms 29),
 oo 30 (.ext 0 (.s 26)),
 oo 31 (.ext 1 (.s 26)),
 oo 6 (ms 30),
 oo 7 (ms 31)]
def F9r4 : RL := [oo 33 (.bsl 1 2 [.v (.int .u8 0)] [(0, .c (.v (.int .u8 3))), (1, .c (.v (.int .u8 3)))]),
 oo 34 (.bsl 1 2 [.v (.int .u8 0)] [(0, .c (.v (.int .u8 1))), (1, .c (.v (.int .u8 2)))]),
 oo 35 (cl 15 [.s 33, .s 34]),
 oo 32 (ms 35),
 oo 36 (.ext 0 (.s 32)),
 oo 37 (.ext 1 (.s 32)),
 oo 8 (ms 36),
 oo 9 (ms 37)]
def F9r5 : RL := [oo 39 (ms 1),
 oo 40 (.bsl 1 1 [.v (.int .u8 0)] [(0, .c (.v (.int .u8 0)))]),
 oo 41 (cl 14 [.s 39, .s 40]),
 oo 38 (ms 41),
 oo 42 (.ext 0 (.s 38)),
 oo 43 (.ext 1 (.s 38)),
 oo 44 (.ext 2 (.s 38)),
 oo 10 (ms 42),
 oo 11 (ms 43),
 oo 12 (ms 44)]
def F9r6 : RL := [oo 45 (ms 2),
 oo 46 (bi .eql (.s 45) (ci 0)),
 oo 47 (ms 46),
 ot 48 (ms 1) 47,
 ot 49 (.bsl 1 3 [.v (.int .u8 0)] [(0, .c (.v (.int .u8 2))), (1, .c (.v (.int .u8 3))), (2, .c (.v (.int .u8 1)))]) 47,
 ot 50 (cl 12 [.s 48, .s 49]) 47,
 oo 51 (.pick (.s 47) (.s 50) cF),
 oo 52 (ms 51),
 ot 53 (ms 5) 52,
 ot 54 (bi .eql (.s 53) (ci 0)) 52,
 oo 55 (.pick (.s 52) (.s 54) cF),
 oo 56 (ms 55),
 ot 57 (ms 3) 56,
 ot 58 (.bsl 1 2 [.v (.int .u8 0)] [(0, .c (.v (.int .u8 1))), (1, .c (.v (.int .u8 1)))]) 56,
 ot 59 (cl 12 [.s 57, .s 58]) 56,
 oo 60 (.pick (.s 56) (.s 59) cF),
 oo 61 (ms 60),
 ot 62 (ms 4) 61,
 ot 63 (.len false (.s 62)) 61,
 ot 64 (bi .eql (.s 63) (ci 0)) 61,
 oo 65 (.pick (.s 61) (.s 64) cF),
 oo 66 (ms 65),
 ot 67 (ms 7) 66,
 ot 68 (bi .eql (.s 67) (ci 0)) 66,
 oo 69 (.pick (.s 66) (.s 68) cF),
 oo 70 (ms 69),
 ot 71 (ms 6) 70,
 ot 72 (.bsl 1 2 [.v (.int .u8 0)] [(0, .c (.v (.int .u8 7))), (1, .c (.v (.int .u8 2)))]) 70,
 ot 73 (cl 12 [.s 71, .s 72]) 70,
 oo 74 (.pick (.s 70) (.s 73) cF),
 oo 75 (ms 74),
 ot 76 (ms 9) 75,
 ot 77 (bi .eql (.s 76) (ci 6)) 75,
 oo 78 (.pick (.s 75) (.s 77) cF),
 oo 79 (ms 78),
 ot 80 (ms 12) 79,
 ot 81 (bi .eql (.s 80) (ci 5)) 79,
 oo 82 (.pick (.s 79) (.s 81) cF),
 oo 83 (ms 82),
 ot 84 (ms 1) 83,
 ot 85 (cl 16 [.s 84, .c (.v (.int .u8 1))]) 83,
 ot 86 (bi .eql (.s 85) (.c (.v (.int .u8 0)))) 83,
 oo 87 (.pick (.s 83) (.s 86) cF),
 oo 0 (ms 87)]
def F9 : AFn := ⟨88, [.tmp 0],
  sr F9r0
  (sr F9r1
  (sr F9r2
  (sr F9r3
  (sr F9r4
  (sr F9r5
  (sr F9r6
  (.ret)))))))⟩
theorem F9_ok : cFunc Try.prog 9 = some F9 := by kernel_rfl
theorem F9_call : callable Try.prog 9 = true := by kernel_rfl
def F10r0 : RL := [oo 4 (.mov (.c .emp)),
 oo 5 (.mov (ci 0))]
def F10r1 : RL := [oo 6 (ms 0),
 oo 7 (ms 1),
 oo 8 (.bsl 1 2 [.emp] [(0, .s 6), (1, .s 7)]),
 oo 9 (cl 20 [.s 8])]
def F10r2 : RL := [oo 4 (.mov (.c .emp)),
 oo 5 (.mov (ci 2))]
def F10r3 : RL := [oo 10 (ms 0),
 oo 11 (ms 1),
 oo 12 (cl 21 [.s 10, .s 11]),
 oo 13 (cl 13 [.s 12]),
 oo 4 (ms 13),
 oo 5 (.mov (ci 0))]
def F10 : AFn := ⟨14, [.tmp 4, .tmp 5],
  sr F10r0
  (.seq (sr F10r1
  (cd 9
    (sr F10r2
    (.ret))
    (.skip)))
  (sr F10r3
  (.ret)))⟩
theorem F10_ok : cFunc Try.prog 10 = some F10 := by kernel_rfl
theorem F10_call : callable Try.prog 10 = true := by kernel_rfl
def F12r0 : RL := [oo 4 (.mov cF)]
def F12r1 : RL := [oo 6 (ms 0),
 oo 7 (.len false (.s 6)),
 oo 8 (ms 1),
 oo 9 (.len false (.s 8)),
 oo 10 (bi .neq (.s 7) (.s 9))]
def F12r2 : RL := [oo 4 (.mov cF)]
def F12r3 : RL := [oo 5 (.mov (ci 0))]
def F12r4 : RL := [oo 11 (ms 5),
 oo 12 (ms 0),
 oo 13 (.len false (.s 12)),
 oo 14 (bi .lss (.s 11) (.s 13))]
def F12r5 : RL := [oo 17 (ms 0),
 oo 18 (ms 5),
 oo 19 (.iad 1 (.s 17) (.s 18)),
 oo 20 (ld 19),
 oo 21 (ms 1),
 oo 22 (ms 5),
 oo 23 (.iad 1 (.s 21) (.s 22)),
 oo 24 (ld 23),
 oo 25 (bi .neq (.s 20) (.s 24))]
def F12r6 : RL := [oo 4 (.mov cF)]
def F12r7 : RL := [oo 15 (ms 5),
 oo 16 (bi .add (.s 15) (ci 1)),
 oo 5 (ms 16)]
def F12r8 : RL := [oo 4 (.mov cT)]
def F12 : AFn := ⟨26, [.tmp 4],
  sr F12r0
  (.seq (sr F12r1
  (cd 10
    (sr F12r2
    (.ret))
    (.skip)))
  (.seq (sr F12r3
  (.block 0 (
    .loop (
      .seq (sr F12r4
      (cd 14
        (.skip)
        (.exit 0)))
      (.seq (.block 1 (
        .seq (.reg F12r5 (some [[], [], [0, 1], [2, 0, 1], [], [], [4, 5], [6, 4, 5], [3, 7, 2, 0, 1, 6, 4, 5]]))
        (cd 25
          (sr F12r6
          (.ret))
          (.skip))))
      (rg F12r7))))))
  (sr F12r8
  (.ret))))⟩
theorem F12_ok : cFunc Try.prog 12 = some F12 := by kernel_rfl
theorem F12_call : callable Try.prog 12 = true := by kernel_rfl
def F13r0 : RL := [oo 2 (.mov (.c .emp))]
def F13r1 : RL := [oo 4 (ms 0),
 oo 5 (.len false (.s 4)),
 oo 3 (ms 5)]
def F13r2 : RL := [oo 6 (ms 3),
 oo 7 (bi .gtr (.s 6) (ci 0)),
 oo 8 (ms 7),
 ot 9 (ms 0) 8,
 ot 10 (ms 3) 8,
 ot 11 (bi .sub (.s 10) (ci 1)) 8,
 ot 12 (.iad 1 (.s 9) (.s 11)) 8,
 ot 13 (ld 12) 8,
 ot 14 (bi .eql (.s 13) (.c (.v (.int .u8 0)))) 8,
 oo 15 (.pick (.s 8) (.s 14) cF)]
def F13r3 : RL := [oo 16 (ms 3),
 oo 17 (bi .sub (.s 16) (ci 1)),
 oo 3 (ms 17)]
def F13r4 : RL := [oo 18 (ms 0),
 oo 19 (ms 3),
 oo 20 (.slc 1 (.s 18) none (some (.s 19)) none),
 oo 21 (cl 23 [.s 20]),
 oo 2 (ms 21)]
def F13 : AFn := ⟨22, [.tmp 2],
  sr F13r0
  (sr F13r1
  (.seq (.block 0 (
    .loop (
      .seq (sr F13r2
      (cd 15
        (.skip)
        (.exit 0)))
      (.block 1 (
        rg F13r3)))))
  (sr F13r4
  (.ret))))⟩
theorem F13_ok : cFunc Try.prog 13 = some F13 := by kernel_rfl
theorem F13_call : callable Try.prog 13 = true := by kernel_rfl
def F14r0 : RL := [oo 4 (.mov (.c .emp)),
 oo 5 (.mov (.c .emp)),
 oo 6 (.mov (ci 0))]
def F14r1 : RL := [oo 9 (ms 0),
 oo 10 (ms 1),
 oo 11 (.bsl 1 2 [.emp] [(0, .s 9), (1, .s 10)]),
 oo 12 (cl 20 [.s 11])]
def F14r2 : RL := [oo 4 (.mov (.c .emp)),
 oo 5 (.mov (.c .emp)),
 oo 6 (.mov (ci 2))]
def F14r3 : RL := [oo 13 (ms 1),
 oo 14 (cl 13 [.s 13]),
 oo 1 (ms 14)]
def F14r4 : RL := [oo 15 (ms 1),
 oo 16 (.len false (.s 15)),
 oo 17 (bi .eql (.s 16) (ci 0))]
def F14r5 : RL := [oo 4 (.mov (.c .emp)),
 oo 5 (.mov (.c .emp)),
 oo 6 (.mov (ci 5))]
def F14r6 : RL := [oo 19 (ms 0),
 oo 20 (cl 13 [.s 19]),
 oo 21 (ms 1),
 oo 22 (cl 24 [.s 20, .s 21]),
 oo 18 (ms 22),
 oo 23 (.ext 0 (.s 18)),
 oo 24 (.ext 1 (.s 18)),
 oo 7 (ms 23),
 oo 8 (ms 24)]
def F14r7 : RL := [oo 25 (ms 7),
 oo 26 (ms 8),
 oo 4 (ms 25),
 oo 5 (ms 26),
 oo 6 (.mov (ci 0))]
def F14 : AFn := ⟨27, [.tmp 4, .tmp 5, .tmp 6],
  sr F14r0
  (.seq (sr F14r1
  (cd 12
    (sr F14r2
    (.ret))
    (.skip)))
  (.seq (sr F14r3
  (sr F14r4
  (cd 17
    (sr F14r5
    (.ret))
    (.skip))))
  (sr F14r6
  (sr F14r7
  (.ret)))))⟩
theorem F14_ok : cFunc Try.prog 14 = some F14 := by kernel_rfl
theorem F14_call : callable Try.prog 14 = true := by kernel_rfl
def F15r0 : RL := [oo 4 (.mov (.c .emp)),
 oo 5 (.mov (ci 0))]
def F15r1 : RL := [oo 19 (ms 0),
 oo 20 (.bsl 1 1 [.emp] [(0, .s 19)]),
 oo 21 (cl 20 [.s 20]),
 oo 18 (ms 21)]
def F15r2 : RL := [oo 4 (.mov (.c .emp)),
 oo 5 (.mov (ci 2))]
def F15r3 : RL := [oo 23 (ms 0),
 oo 24 (.len false (.s 23)),
 oo 25 (ms 1),
 oo 26 (.len false (.s 25)),
 oo 27 (bi .neq (.s 24) (.s 26)),
 oo 22 (ms 27)]
def F15r4 : RL := [oo 4 (.mov (.c .emp)),
 oo 5 (.mov (ci 1))]
def F15r5 : RL := [oo 28 (.bsl 1 1 [.v (.int .u8 0)] [(0, .c (.v (.int .u8 1)))]),
 oo 6 (ms 28)]
def F15r6 : RL := [oo 29 (ms 0),
 oo 30 (.len false (.s 29)),
 oo 31 (.mov (ci 0))]
def F15r7 : RL := [oo 32 (bi .lss (.s 31) (.s 30))]
def F15r8 : RL := [oo 33 (ms 31),
 oo 34 (.iad 1 (.s 29) (.s 31)),
 oo 35 (ld 34),
 oo 7 (ms 33),
 oo 8 (ms 35)]
def F15r9 : RL := [oo 36 (ms 0),
 oo 37 (ms 7),
 oo 38 (.slc 1 (.s 36) none (some (.s 37)) none),
 oo 39 (ms 8),
 oo 40 (cl 25 [.s 38, .s 39])]
def F15r10 : RL := [oo 4 (.mov (.c .emp)),
 oo 5 (.mov (ci 6))]
def F15r11 : RL := [oo 41 (ms 6),
 oo 42 (ms 8),
 oo 43 (.bsl 1 2 [.v (.int .u8 0)] [(0, .s 42), (1, .c (.v (.int .u8 1)))]),
 oo 44 (cl 21 [.s 41, .s 43]),
 oo 6 (ms 44)]
def F15r12 : RL := [oo 45 (bi .add (.s 31) (ci 1)),
 oo 31 (ms 45)]
def F15r13 : RL := [oo 46 (ms 0),
 oo 47 (.len false (.s 46)),
 oo 48 (.msl 1 1 [.v (.int .u8 0)] (.s 47) (.s 47)),
 oo 9 (ms 48)]
def F15r14 : RL := [oo 49 (ms 0),
 oo 50 (.len false (.s 49)),
 oo 51 (.mov (ci 0))]
def F15r15 : RL := [oo 52 (bi .lss (.s 51) (.s 50))]
def F15r16 : RL := [oo 53 (ms 51),
 oo 54 (.iad 1 (.s 49) (.s 51)),
 oo 55 (ld 54),
 oo 10 (ms 53),
 oo 11 (ms 55)]
def F15r17 : RL := [oo 57 (ms 6),
 oo 58 (ms 11),
 oo 59 (.bsl 1 2 [.v (.int .u8 0)] [(0, .s 58), (1, .c (.v (.int .u8 1)))]),
 oo 60 (cl 24 [.s 57, .s 59]),
 oo 56 (ms 60),
 oo 61 (.ext 0 (.s 56)),
 oo 62 (.ext 1 (.s 56)),
 oo 12 (ms 61),
 oo 13 (ms 62)]
def F15r18 : RL := [oo 64 (ms 1),
 oo 65 (ms 10),
 oo 66 (.iad 1 (.s 64) (.s 65)),
 oo 67 (ld 66),
 oo 68 (ms 12),
 oo 69 (ms 11),
 oo 70 (cl 16 [.s 68, .s 69]),
 oo 71 (cl 26 [.s 67, .s 70]),
 oo 63 (ms 71),
 oo 72 (.ext 0 (.s 63)),
 oo 73 (.ext 1 (.s 63)),
 oo 14 (ms 72),
 oo 15 (ms 73)]
def F15r19 : RL := [oo 74 (ms 12),
 oo 75 (.len false (.s 74)),
 oo 76 (.mov (ci 0))]
def F15r20 : RL := [oo 77 (bi .lss (.s 76) (.s 75))]
def F15r21 : RL := [oo 78 (ms 76),
 oo 79 (.iad 1 (.s 74) (.s 76)),
 oo 80 (ld 79),
 oo 16 (ms 78),
 oo 17 (ms 80)]
def F15r22 : RL := [oo 81 (ms 9),
 oo 82 (ms 16),
 oo 83 (.iad 1 (.s 81) (.s 82)),
 oo 84 (ld 83),
 oo 85 (ms 14),
 oo 86 (ms 17),
 oo 87 (cl 27 [.s 85, .s 86]),
 oo 88 (bi .xor (.s 84) (.s 87)),
 oo 89 (.iad 1 (.s 81) (.s 82)),
 ow (.store 1 (.s 89) (.s 88))]
def F15r23 : RL := [oo 90 (bi .add (.s 76) (ci 1)),
 oo 76 (ms 90)]
def F15r24 : RL := [oo 91 (bi .add (.s 51) (ci 1)),
 oo 51 (ms 91)]
def F15r25 : RL := [oo 92 (ms 9),
 oo 93 (cl 13 [.s 92]),
 oo 4 (ms 93),
 oo 5 (.mov (ci 0))]
def F15 : AFn := ⟨94, [.tmp 4, .tmp 5],
  sr F15r0
  (.seq (.block 0 (
    sr F15r1
    (cd 18
      (sr F15r2
      (.ret))
      (sr F15r3
      (cd 22
        (sr F15r4
        (.ret))
        (.skip))))))
  (sr F15r5
  (.seq (sr F15r6
  (.block 1 (
    .loop (
      sr F15r7
      (.seq (cd 32
        (.skip)
        (.exit 1))
      (.seq (.block 2 (
        sr F15r8
        (.seq (sr F15r9
        (cd 40
          (sr F15r10
          (.ret))
          (.skip)))
        (rg F15r11))))
      (rg F15r12)))))))
  (sr F15r13
  (.seq (sr F15r14
  (.block 3 (
    .loop (
      sr F15r15
      (.seq (cd 52
        (.skip)
        (.exit 3))
      (.seq (.block 4 (
        sr F15r16
        (sr F15r17
        (.seq (.reg F15r18 (some [[], [], [0, 1], [2, 0, 1], [], [], [4, 5], [3, 6, 2, 0, 1, 4, 5], [7, 3, 6, 2, 0, 1, 4, 5], [8, 7, 3, 6, 2, 0, 1, 4, 5], [8, 7, 3, 6, 2, 0, 1, 4, 5], [9, 7, 0, 1, 2, 3, 4, 5, 6, 8], [10, 11, 0, 1, 2, 3, 4, 5, 6, 7, 8, 9]]))
        (sr F15r19
        (.block 5 (
          .loop (
            sr F15r20
            (.seq (cd 77
              (.skip)
              (.exit 5))
            (.seq (.block 6 (
              sr F15r21
              (.reg F15r22 (some [[], [], [0, 1], [2, 0, 1], [], [], [4, 5], [3, 6, 2, 0, 1, 4, 5], [0, 1, 2, 3, 4, 5, 6, 7], [8, 7, 6, 0, 1, 2, 3, 4, 5]]))))
            (rg F15r23)))))))))))
      (rg F15r24)))))))
  (sr F15r25
  (.ret)))))))⟩
theorem F15_ok : cFunc Try.prog 15 = some F15 := by kernel_rfl
theorem F15_call : callable Try.prog 15 = true := by kernel_rfl
def F16r0 : RL := [oo 3 (.box 1 (.s 1)),
 oo 4 (.new [.v (.int .u8 0)])]
def F16r1 : RL := [oo 7 (ms 0),
 oo 8 (cl 28 [.s 7])]
def F16r2 : RL := [oo 6 (ms 10)]
def F16r3 : RL := [oo 11 (ld 4),
 oo 12 (ld 3),
 oo 13 (cl 27 [.s 11, .s 12]),
 oo 14 (ms 6),
 oo 15 (bi .xor (.s 13) (.s 14)),
 ow (.store 1 (.s 4) (.s 15))]
def F16r4 : RL := [oo 16 (ld 4),
 ow (.store 1 (.s 4) (.s 16))]
def F16 : AFn := ⟨17, [.cell 4 none],
  sr F16r0
  (.seq (sr F16r1
  (.block 0 (
    .rng (.s 8) [9, 10]
      (rg F16r2)
      (.block 1 (
        rg F16r3)))))
  (sr F16r4
  (.ret)))⟩
theorem F16_ok : cFunc Try.prog 16 = some F16 := by kernel_rfl
theorem F16_call : callable Try.prog 16 = true := by kernel_rfl
def F20r0 : RL := [oo 2 (.mov cF)]
def F20r1 : RL := [oo 3 (ms 0),
 oo 4 (cl 29 [.s 3, .c (.fn 30 [])]),
 oo 2 (ms 4)]
def F20 : AFn := ⟨5, [.tmp 2],
  sr F20r0
  (sr F20r1
  (.ret))⟩
theorem F20_ok : cFunc Try.prog 20 = some F20 := by kernel_rfl
theorem F20_call : callable Try.prog 20 = true := by kernel_rfl
def F21r0 : RL := [oo 4 (.mov (.c .emp))]
def F21r1 : RL := [oo 10 (ms 0),
 oo 11 (.len false (.s 10)),
 oo 12 (bi .eql (.s 11) (ci 0)),
 oo 13 (ms 12),
 on 14 (ms 1) 13,
 on 15 (.len false (.s 14)) 13,
 on 16 (bi .eql (.s 15) (ci 0)) 13,
 oo 17 (.pick (.s 13) cT (.s 16))]
def F21r2 : RL := [oo 4 (.mov (.c .emp))]
def F21r3 : RL := [oo 18 (ms 0),
 oo 19 (.len false (.s 18)),
 oo 20 (ms 1),
 oo 21 (.len false (.s 20)),
 oo 22 (bi .add (.s 19) (.s 21)),
 oo 23 (bi .sub (.s 22) (ci 1)),
 oo 24 (.msl 1 1 [.v (.int .u8 0)] (.s 23) (.s 23)),
 oo 5 (ms 24)]
def F21r4 : RL := [oo 25 (ms 0),
 oo 26 (.len false (.s 25)),
 oo 27 (.mov (ci 0))]
def F21r5 : RL := [oo 28 (bi .lss (.s 27) (.s 26))]
def F21r6 : RL := [oo 29 (ms 27),
 oo 30 (.iad 1 (.s 25) (.s 27)),
 oo 31 (ld 30),
 oo 6 (ms 29),
 oo 7 (ms 31)]
def F21r7 : RL := [oo 32 (ms 1),
 oo 33 (.len false (.s 32)),
 oo 34 (.mov (ci 0))]
def F21r8 : RL := [oo 35 (bi .lss (.s 34) (.s 33))]
def F21r9 : RL := [oo 36 (ms 34),
 oo 37 (.iad 1 (.s 32) (.s 34)),
 oo 38 (ld 37),
 oo 8 (ms 36),
 oo 9 (ms 38)]
def F21r10 : RL := [oo 39 (ms 5),
 oo 40 (ms 6),
 oo 41 (ms 8),
 oo 42 (bi .add (.s 40) (.s 41)),
 oo 43 (.iad 1 (.s 39) (.s 42)),
 oo 44 (ld 43),
 oo 45 (ms 7),
 oo 46 (ms 9),
 oo 47 (cl 27 [.s 45, .s 46]),
 oo 48 (bi .xor (.s 44) (.s 47)),
 oo 49 (.iad 1 (.s 39) (.s 42)),
 ow (.store 1 (.s 49) (.s 48))]
def F21r11 : RL := [oo 50 (bi .add (.s 34) (ci 1)),
 oo 34 (ms 50)]
def F21r12 : RL := [oo 51 (bi .add (.s 27) (ci 1)),
 oo 27 (ms 51)]
def F21r13 : RL := [oo 52 (ms 5),
 oo 4 (ms 52)]
def F21 : AFn := ⟨53, [.tmp 4],
  sr F21r0
  (.seq (sr F21r1
  (cd 17
    (sr F21r2
    (.ret))
    (.skip)))
  (sr F21r3
  (.seq (sr F21r4
  (.block 0 (
    .loop (
      sr F21r5
      (.seq (cd 28
        (.skip)
        (.exit 0))
      (.seq (.block 1 (
        sr F21r6
        (sr F21r7
        (.block 2 (
          .loop (
            sr F21r8
            (.seq (cd 35
              (.skip)
              (.exit 2))
            (.seq (.block 3 (
              sr F21r9
              (.reg F21r10 (some [[], [], [], [1, 2], [0, 3, 1, 2], [4, 0, 3, 1, 2], [], [], [6, 7], [5, 8, 4, 0, 3, 1, 2, 6, 7], [0, 3, 1, 2, 4, 5, 6, 7, 8, 9], [10, 9, 8, 0, 1, 2, 3, 4, 5, 6, 7]]))))
            (rg F21r11)))))))))
      (rg F21r12)))))))
  (sr F21r13
  (.ret)))))⟩
theorem F21_ok : cFunc Try.prog 21 = some F21 := by kernel_rfl
theorem F21_call : callable Try.prog 21 = true := by kernel_rfl
def F23r0 : RL := [oo 2 (.mov (.c .emp))]
def F23r1 : RL := [oo 3 (ms 0),
 oo 4 (.isn .sl false (.s 3))]
def F23r2 : RL := [oo 2 (.mov (.c .emp))]
def F23r3 : RL := [oo 5 (.bsl 1 0 [.v (.int .u8 0)] []),
 oo 6 (ms 0),
 oo 7 (.app 1 1 (.s 5) (.s 6)),
 oo 2 (ms 7)]
def F23 : AFn := ⟨8, [.tmp 2],
  sr F23r0
  (.seq (sr F23r1
  (cd 4
    (sr F23r2
    (.ret))
    (.skip)))
  (sr F23r3
  (.ret)))⟩
theorem F23_ok : cFunc Try.prog 23 = some F23 := by kernel_rfl
theorem F23_call : callable Try.prog 23 = true := by kernel_rfl
def F24r0 : RL := [oo 4 (.mov (.c .emp)),
 oo 5 (.mov (.c .emp))]
def F24r1 : RL := [oo 12 (ms 0),
 oo 13 (cl 23 [.s 12]),
 oo 5 (ms 13)]
def F24r2 : RL := [oo 15 (ms 1),
 oo 16 (ms 1),
 oo 17 (.len false (.s 16)),
 oo 18 (bi .sub (.s 17) (ci 1)),
 oo 19 (.iad 1 (.s 15) (.s 18)),
 oo 20 (ld 19),
 oo 21 (cl 31 [.s 20]),
 oo 14 (ms 21),
 oo 22 (.ext 0 (.s 14)),
 oo 23 (.ext 1 (.s 14)),
 oo 6 (ms 22),
 oo 7 (ms 23)]
def F24r3 : RL := [oo 24 (ms 0),
 oo 25 (.len false (.s 24)),
 oo 26 (ms 1),
 oo 27 (.len false (.s 26)),
 oo 28 (bi .sub (.s 25) (.s 27)),
 oo 29 (bi .add (.s 28) (ci 1)),
 oo 30 (.mnx true (ci 0) (.s 29)),
 oo 31 (.msl 1 1 [.v (.int .u8 0)] (.s 30) (.s 30)),
 oo 4 (ms 31)]
def F24r4 : RL := [oo 32 (ms 4),
 oo 33 (.len false (.s 32)),
 oo 34 (bi .sub (.s 33) (ci 1)),
 oo 8 (ms 34)]
def F24r5 : RL := [oo 35 (ms 8),
 oo 36 (bi .geq (.s 35) (ci 0))]
def F24r6 : RL := [oo 39 (ms 5),
 oo 40 (ms 8),
 oo 41 (ms 1),
 oo 42 (.len false (.s 41)),
 oo 43 (bi .add (.s 40) (.s 42)),
 oo 44 (bi .sub (.s 43) (ci 1)),
 oo 45 (.iad 1 (.s 39) (.s 44)),
 oo 46 (ld 45),
 oo 47 (ms 6),
 oo 48 (cl 27 [.s 46, .s 47]),
 oo 9 (ms 48)]
def F24r7 : RL := [oo 49 (ms 4),
 oo 50 (ms 8),
 oo 51 (ms 9),
 oo 52 (.iad 1 (.s 49) (.s 50)),
 ow (.store 1 (.s 52) (.s 51))]
def F24r8 : RL := [oo 53 (ms 1),
 oo 54 (.len false (.s 53)),
 oo 55 (.mov (ci 0))]
def F24r9 : RL := [oo 56 (bi .lss (.s 55) (.s 54))]
def F24r10 : RL := [oo 57 (ms 55),
 oo 58 (.iad 1 (.s 53) (.s 55)),
 oo 59 (ld 58),
 oo 10 (ms 57),
 oo 11 (ms 59)]
def F24r11 : RL := [oo 60 (ms 5),
 oo 61 (ms 8),
 oo 62 (ms 10),
 oo 63 (bi .add (.s 61) (.s 62)),
 oo 64 (.iad 1 (.s 60) (.s 63)),
 oo 65 (ld 64),
 oo 66 (ms 9),
 oo 67 (ms 11),
 oo 68 (cl 27 [.s 66, .s 67]),
 oo 69 (bi .xor (.s 65) (.s 68)),
 oo 70 (.iad 1 (.s 60) (.s 63)),
 ow (.store 1 (.s 70) (.s 69))]
def F24r12 : RL := [oo 71 (bi .add (.s 55) (ci 1)),
 oo 55 (ms 71)]
def F24r13 : RL := [oo 37 (ms 8),
 oo 38 (bi .sub (.s 37) (ci 1)),
 oo 8 (ms 38)]
def F24r14 : RL := [oo 72 (ms 4),
 oo 73 (cl 13 [.s 72]),
 oo 74 (ms 5),
 oo 75 (cl 13 [.s 74]),
 oo 4 (ms 73),
 oo 5 (ms 75)]
def F24 : AFn := ⟨76, [.tmp 4, .tmp 5],
  sr F24r0
  (sr F24r1
  (sr F24r2
  (sr F24r3
  (.seq (sr F24r4
  (.block 0 (
    .loop (
      .seq (sr F24r5
      (cd 36
        (.skip)
        (.exit 0)))
      (.seq (.block 1 (
        sr F24r6
        (sr F24r7
        (sr F24r8
        (.block 2 (
          .loop (
            sr F24r9
            (.seq (cd 56
              (.skip)
              (.exit 2))
            (.seq (.block 3 (
              sr F24r10
              (.reg F24r11 (some [[], [], [], [1, 2], [0, 3, 1, 2], [4, 0, 3, 1, 2], [], [], [6, 7], [5, 8, 4, 0, 3, 1, 2, 6, 7], [0, 3, 1, 2, 4, 5, 6, 7, 8, 9], [10, 9, 8, 0, 1, 2, 3, 4, 5, 6, 7]]))))
            (rg F24r12))))))))))
      (rg F24r13))))))
  (sr F24r14
  (.ret))))))⟩
theorem F24_ok : cFunc Try.prog 24 = some F24 := by kernel_rfl
theorem F24_call : callable Try.prog 24 = true := by kernel_rfl
def F25r0 : RL := [oo 4 (.mov cF)]
def F25r1 : RL := [oo 5 (ms 0),
 oo 6 (ms 1),
 oo 7 (cl 32 [.s 5, .s 6]),
 oo 8 (bi .geq (.s 7) (ci 0)),
 oo 4 (ms 8)]
def F25 : AFn := ⟨9, [.tmp 4],
  sr F25r0
  (sr F25r1
  (.ret))⟩
theorem F25_ok : cFunc Try.prog 25 = some F25 := by kernel_rfl
theorem F25_call : callable Try.prog 25 = true := by kernel_rfl
def F26r0 : RL := [oo 4 (.mov (.c (.v (.int .u8 0)))),
 oo 5 (.mov (ci 0))]
def F26r1 : RL := [oo 9 (ms 1),
 oo 10 (cl 31 [.s 9]),
 oo 8 (ms 10),
 oo 11 (.ext 0 (.s 8)),
 oo 12 (.ext 1 (.s 8)),
 oo 6 (ms 11),
 oo 7 (ms 12)]
def F26r2 : RL := [oo 13 (ms 7),
 oo 14 (bi .neq (.s 13) (ci 0))]
def F26r3 : RL := [oo 15 (ms 7),
 oo 4 (.mov (.c (.v (.int .u8 0)))),
 oo 5 (ms 15)]
def F26r4 : RL := [oo 16 (ms 0),
 oo 17 (ms 6),
 oo 18 (cl 27 [.s 16, .s 17]),
 oo 4 (ms 18),
 oo 5 (.mov (ci 0))]
def F26 : AFn := ⟨19, [.tmp 4, .tmp 5],
  sr F26r0
  (sr F26r1
  (.seq (sr F26r2
  (cd 14
    (sr F26r3
    (.ret))
    (.skip)))
  (sr F26r4
  (.ret))))⟩
theorem F26_ok : cFunc Try.prog 26 = some F26 := by kernel_rfl
theorem F26_call : callable Try.prog 26 = true := by kernel_rfl
theorem F27_call : callable Try.prog 27 = true := by kernel_rfl
def F28r0 : RL := [oo 1 (.box 1 (.s 0)),
 oo 2 (.mov (.c (.v .nilFunc)))]
def F28r1 : RL := [oo 3 (.mkf 33 [.s 1]),
 oo 2 (ms 3)]
def F28 : AFn := ⟨4, [.tmp 2],
  sr F28r0
  (sr F28r1
  (.ret))⟩
theorem F28_ok : cFunc Try.prog 28 = some F28 := by kernel_rfl
theorem F28_call : callable Try.prog 28 = true := by kernel_rfl
def F29r0 : RL := [oo 4 (.mov cF)]
def F29r1 : RL := [oo 5 (ms 0),
 oo 6 (ms 1),
 oo 7 (cl 34 [.s 5, .s 6]),
 oo 8 (bi .geq (.s 7) (ci 0)),
 oo 4 (ms 8)]
def F29 : AFn := ⟨9, [.tmp 4],
  sr F29r0
  (sr F29r1
  (.ret))⟩
theorem F29_ok : cFunc Try.prog 29 = some F29 := by kernel_rfl
theorem F29_call : callable Try.prog 29 = true := by kernel_rfl
def F30r0 : RL := [oo 2 (.mov cF)]
def F30r1 : RL := [oo 3 (ms 0),
 oo 4 (.len false (.s 3)),
 oo 5 (bi .gtr (.s 4) (ci 64)),
 oo 2 (ms 5)]
def F30 : AFn := ⟨6, [.tmp 2],
  sr F30r0
  (sr F30r1
  (.ret))⟩
theorem F30_ok : cFunc Try.prog 30 = some F30 := by kernel_rfl
theorem F30_call : callable Try.prog 30 = true := by kernel_rfl
theorem F31_call : callable Try.prog 31 = true := by kernel_rfl
def F32r0 : RL := [oo 4 (.mov (ci 0))]
def F32r1 : RL := [oo 6 (ms 0),
 oo 7 (.len false (.s 6)),
 oo 8 (.mov (ci 0))]
def F32r2 : RL := [oo 9 (bi .lss (.s 8) (.s 7))]
def F32r3 : RL := [oo 10 (ms 8),
 oo 5 (ms 10)]
def F32r4 : RL := [oo 11 (ms 1),
 oo 12 (ms 0),
 oo 13 (ms 5),
 oo 14 (.iad 1 (.s 12) (.s 13)),
 oo 15 (ld 14),
 oo 16 (bi .eql (.s 11) (.s 15))]
def F32r5 : RL := [oo 17 (ms 5),
 oo 4 (ms 17)]
def F32r6 : RL := [oo 18 (bi .add (.s 8) (ci 1)),
 oo 8 (ms 18)]
def F32r7 : RL := [oo 4 (.mov (ci (-1)))]
def F32 : AFn := ⟨19, [.tmp 4],
  sr F32r0
  (.seq (sr F32r1
  (.block 0 (
    .loop (
      sr F32r2
      (.seq (cd 9
        (.skip)
        (.exit 0))
      (.seq (.block 1 (
        sr F32r3
        (sr F32r4
        (cd 16
          (sr F32r5
          (.ret))
          (.skip)))))
      (rg F32r6)))))))
  (sr F32r7
  (.ret)))⟩
theorem F32_ok : cFunc Try.prog 32 = some F32 := by kernel_rfl
theorem F32_call : callable Try.prog 32 = true := by kernel_rfl
def F33r0 : RL := [oo 4 (ld 1),
 oo 5 (.len false (.s 4)),
 oo 6 (bi .sub (.s 5) (ci 1)),
 oo 3 (ms 6)]
def F33r1 : RL := [oo 7 (ms 3),
 oo 8 (bi .geq (.s 7) (ci 0))]
def F33r2 : RL := [oo 11 (ms 0),
 oo 12 (ms 3),
 oo 13 (ld 1),
 oo 14 (ms 3),
 oo 15 (.iad 1 (.s 13) (.s 14)),
 oo 16 (ld 15),
 oo 17 (.call (.s 11) [.s 12, .s 16]),
 oo 18 (.un .not (.s 17))]
def F33r3 : RL := [oo 9 (ms 3),
 oo 10 (bi .sub (.s 9) (ci 1)),
 oo 3 (ms 10)]
def F33 : AFn := ⟨19, [],
  sr F33r0
  (.block 0 (
    .loop (
      .seq (sr F33r1
      (cd 8
        (.skip)
        (.exit 0)))
      (.seq (.block 1 (
        sr F33r2
        (cd 18
          (.ret)
          (.skip))))
      (rg F33r3)))))⟩
theorem F33_ok : cFunc Try.prog 33 = some F33 := by kernel_rfl
theorem F33_call : callable Try.prog 33 = true := by kernel_rfl
def F34r0 : RL := [oo 4 (.mov (ci 0))]
def F34r1 : RL := [oo 6 (ms 0),
 oo 7 (.len false (.s 6)),
 oo 8 (.mov (ci 0))]
def F34r2 : RL := [oo 9 (bi .lss (.s 8) (.s 7))]
def F34r3 : RL := [oo 10 (ms 8),
 oo 5 (ms 10)]
def F34r4 : RL := [oo 11 (ms 1),
 oo 12 (ms 0),
 oo 13 (ms 5),
 oo 14 (.iad 1 (.s 12) (.s 13)),
 oo 15 (ld 14),
 oo 16 (.call (.s 11) [.s 15])]
def F34r5 : RL := [oo 17 (ms 5),
 oo 4 (ms 17)]
def F34r6 : RL := [oo 18 (bi .add (.s 8) (ci 1)),
 oo 8 (ms 18)]
def F34r7 : RL := [oo 4 (.mov (ci (-1)))]
def F34 : AFn := ⟨19, [.tmp 4],
  sr F34r0
  (.seq (sr F34r1
  (.block 0 (
    .loop (
      sr F34r2
      (.seq (cd 9
        (.skip)
        (.exit 0))
      (.seq (.block 1 (
        sr F34r3
        (sr F34r4
        (cd 16
          (sr F34r5
          (.ret))
          (.skip)))))
      (rg F34r6)))))))
  (sr F34r7
  (.ret)))⟩
theorem F34_ok : cFunc Try.prog 34 = some F34 := by kernel_rfl
theorem F34_call : callable Try.prog 34 = true := by kernel_rfl
open Go.RowKit
section
variable {P : Program} {n k k0 : Nat} {x : L3} {K : L3 → Prop} {Q : Ex → L3 → Prop} {R : List AOper} {dep : List (List Nat)} {rs : List Rec} {hs : List (Option Nat)} {b : AC}
theorem owl (c : Nat) (live : List Nat) (x' : L3) (hr : EL P n k0 b x' Q) (h : (runN n c (R.drop k) x).map (L3.keep live) = some x' := by kernel_rfl) (he : (R.drop (k + c)).isEmpty = true := by kernel_rfl) : OW P n k0 (R.drop k) x fun y => EL P n k0 b y Q := OW.last c live h he hr
theorem srl (c : Nat) (live : List Nat) (x' : L3) (hr : EL P n k0 b x' Q) (h : (runN n c (R.drop 0) x).map (L3.keep live) = some x' := by kernel_rfl) (he : (R.drop (0 + c)).isEmpty = true := by kernel_rfl) : EL P n k0 (.seq (.reg R none) b) x Q := EL.sreg (OW.last c live h he hr)
theorem srr (c : Nat) (x' : L3) (hr : OW P n k0 (R.drop (0 + c)) x' fun y => EL P n k0 b y Q) (h : runN n c (R.drop 0) x = some x' := by kernel_rfl) : EL P n k0 (.seq (.reg R none) b) x Q := EL.sreg (OW.run c h hr)
theorem cnF {a : Arg} {y z : AC} (h : EL P n k0 z x Q) (hb : argσ (slot x.t) a = .v (.bool false) := by kernel_rfl) : EL P n k0 (.cond a y z) x Q := EL.condF hb h
theorem rtr {f : L3 → Prop} (h : Q .ret x) : EL P n k0 .ret x (Ex.thenL f Q) := EL.ret (tR h)
theorem pq {α : Type} {m : List (Option Bk)} {id : Nat} (sz : Nat) (f : α → List AV) (xs : List α) (h : look m id = some ⟨sz, xs.map f⟩ := by kernel_rfl) (hp : ∀ y, (f y).all AV.pu1 = true := by intro y; kernel_rfl) : PuE m id := pu sz f xs h hp
end
open Go.RowKit
abbrev uf (i : Nat) : Src0 := .old i false
abbrev ut (i : Nat) : Src0 := .old i true
theorem fne {n k0 : Nat} {x : L3} {res : List ARes} {r : AV} {m' : List (Option Bk)} (live : List Nat) (src : List Src0) (y : L3) (hp : PuS x.m src) (h : normL k0 live src [] x = some y := by kernel_rfl) (hr : (resR (slot y.t) res).run (look y.m) = some r := by kernel_rfl) (hm : y.m = m' := by rfl) :
    (Ex.ret = .normal ∨ Ex.ret = .ret) ∧ ∃ y : L3, x.s.Le k0 n y.s ∧ (resR (slot y.t) res).run (look y.m) = some r ∧ y.m = m' := ⟨.inr rfl, y, norm_le h hp, hr, hm⟩
section
variable {x : L3} {res : List ARes} {r' : AV}
end
section
variable {P : Program} {n k k0 : Nat} {x : L3} {K : L3 → Prop} {R : List AOper}
theorem ow2 {v : AV} {u : List (Nat × Option Bk)} {acc : List Nat} (x' : L3) (h : opE (opD R k) x = .done v u acc) (hr : OW P n k0 (R.drop (k + 1)) x' K) (hl : Nat.blt k R.length = true := by kernel_rfl) (hx : (bif dstOK n (opD R k).dst && upsOK x.m.length u then some (⟨setA x.t (opD R k).dst v, mput x.m u⟩ : L3) else none) = some x' := by kernel_rfl) : OW P n k0 (R.drop k) x K := OW.ope hl h hx hr
end
section
variable {o : AOper} {x : L3}
theorem oap {α : Type} (f : α → List AV) (xs ys : List α) (s a : Arg) (sz by_ id : Nat) (w : AV) {acc : List Nat} (hw : Src f sz (look x.m) w ys acc) (hb : (xs.length + ys.length) * by_ ≤ 140737488355328) (ho : o.ao = .app sz by_ s a := by kernel_rfl) (hg : guardA (slot x.t) o.guard = some true := by kernel_rfl) (hs : argσ (slot x.t) s = .own id sz 0 xs.length := by rfl) (hB : look x.m id = some ⟨sz, xs.map f⟩ := by kernel_rfl) (ha : argσ (slot x.t) a = w := by rfl) :
    opE o x = .done (.own x.m.length sz 0 (xs ++ ys).length) [(id, none), (x.m.length, some ⟨sz, (xs ++ ys).map f⟩)] (acc ++ [id]) := opE_appO f xs ys s a sz by_ id w acc ho hg hs hB ha hw hb
end
theorem aT {a : List AV} {b : List AV} {r s : List AV} (h : AleL a b) (t : AleL r s) : AleL (.agg a :: r) (.agg b :: s) := .cons (Ale.agg h) t
open Go.RowKit
def ny : Nat → AV → Bool
  | 0, _ => false
  | d + 1, .agg cs => cs.all (ny d)
  | d + 1, .tup cs => cs.all (ny d)
  | d + 1, .fn _ cs => cs.all (ny d)
  | d + 1, .bf _ cs => cs.all (ny d)
  | _ + 1, .yld _ _ => false
  | _ + 1, _ => true
theorem Rep.ny {E E' : Env} (hI : ∀ b, E.I b → E'.I b ∧ ∀ o, E'.w.cell? ⟨b, o, none⟩ = E.w.cell? ⟨b, o, none⟩) (hs : ∀ b, E'.w.shape? b = E.w.shape? b) (h1 : E'.kn = E.kn) (h2 : E'.dead = E.dead) (h3 : E'.loc = E.loc) (h4 : E'.ln = E.ln) :
    ∀ (d : Nat) {v : Value} {a : AV}, Rep E v a → Ytemkmgnmibpamaa.ny d a = true → Rep E' v a := by
  intro d
  induction d with
  | zero => intro v a _ h; simp [Ytemkmgnmibpamaa.ny] at h
  | succ d ih =>
    have ihm : ∀ {vs : Array Value} {cs : List AV}, (∀ (i : Nat) v c, vs[i]? = some v → cs[i]? = some c → Rep E v c) → cs.all (Ytemkmgnmibpamaa.ny d) = true → ∀ (i : Nat) v c, vs[i]? = some v → cs[i]? = some c → Rep E' v c := by
      intro vs cs h hn i v c hv hc
      simp only [List.all_eq_true] at hn
      exact ih (h i v c hv hc) (hn c (List.mem_of_getElem? hc))
    intro v a h hn
    cases a with
    | v x => exact h.pure hI .v
    | agg cs => cases h with | agg hl hh => exact .agg hl (ihm hh hn)
    | tup cs => cases h with | tup hl hh => exact .tup hl (ihm hh hn)
    | fn f cs => cases h with | fn hl hh => exact .fn hl (ihm hh hn)
    | bf f cs => cases h with | bf hl hh => exact .bf hl (ihm hh hn)
    | yld r cs => simp [Ytemkmgnmibpamaa.ny] at hn
    | lst sz els => exact h.pure hI .lst
    | tls sz els => exact h.pure hI .tls
    | emp => exact h.pure hI .emp
    | pim cs o => exact h.pure hI .pim
    | anyb => exact h.pure hI .anyb
    | dead => exact .dead
    | ref id sz i o => cases h with
      | ref hi hd hb hq => exact .ref (by rw [h1]; exact hi) (by rw [h2]; exact hd) (by rw [h3]; exact hb) hq
      | staleR hi hd ho => exact .staleR (by rw [h1]; exact hi) (by rw [h2]; exact hd) ho
    | own id sz off n => cases h with
      | own hi hd hb hq hss hm hl hc hln => exact .own (by rw [h1]; exact hi) (by rw [h2]; exact hd) (by rw [h3]; exact hb) hq ((hs _).trans hss) hm hl hc (by rw [h4]; exact hln)
      | own0 hi hd hb hln => exact .own0 (by rw [h1]; exact hi) (by rw [h2]; exact hd) (by rw [h3]; exact hb) (by rw [h4]; exact hln)
      | staleO hi hd ho => exact .staleO (by rw [h1]; exact hi) (by rw [h2]; exact hd) ho
    | mp id => cases h with
      | mp hi hd hb => exact .mp (by rw [h1]; exact hi) (by rw [h2]; exact hd) (by rw [h3]; exact hb)
      | staleP hi hd ho => exact .staleP (by rw [h1]; exact hi) (by rw [h2]; exact hd) ho
def gny (g : Nat → Option Bk) : Prop := ∀ id B, g id = some B → ∀ cs, cs ∈ B.els → ∀ c, c ∈ cs → ny 5 c = true
def NYs : List (Option Bk) → Prop
  | [] => True
  | none :: r => NYs r
  | some B :: r => ((B.els.all fun cs => cs.all (ny 5)) = true ∨ ∃ (α : Type) (f : α → List AV) (xs : List α), B.els = xs.map f ∧ ∀ y, (f y).all (ny 5) = true) ∧ NYs r
theorem NYs.gny : ∀ {m : List (Option Bk)}, NYs m → gny (look m)
  | [], _ => fun id B hg => by simp [look] at hg
  | none :: r, h => fun id B hg => by
    cases id with
    | zero => simp [look] at hg
    | succ i => exact NYs.gny (m := r) h i B (by simpa [look] using hg)
  | some B :: r, h => fun id B' hg => by
    cases id with
    | zero =>
      simp only [look, List.getElem?_cons_zero, Option.join_some, Option.some.injEq] at hg
      subst hg
      rcases h.1 with h1 | ⟨α, f, xs, h1, h2⟩
      · intro cs hcs c hc
        simp only [List.all_eq_true] at h1
        exact h1 cs hcs c hc
      · rw [h1]
        intro cs hcs c hc
        simp only [List.mem_map] at hcs
        obtain ⟨y, _, rfl⟩ := hcs
        have := h2 y
        simp only [List.all_eq_true] at this
        exact this c hc
    | succ i => exact NYs.gny (m := r) h.2 i B' (by simpa [look] using hg)
section
variable {P : Program}
theorem MemAt.ny {E E' : Env} {J : Nat → Prop} {base : Nat} {g : Nat → Option Bk} (hm : MemAt E J base g) (hR : ∀ {v a}, Rep E v a → Ytemkmgnmibpamaa.ny 5 a = true → Rep E' v a) (hg : gny g) (hcell : (∀ (b : Nat) arr t x, E.w.heap[b]? = some (.cells arr t x) → E'.w.heap[b]? = some (.cells arr t x)) ∧ ∀ (b : Nat) o, E.w.heap[b]? = some o → (∀ r, o ≠ .loop r) → E'.w.heap[b]? = some o) (hsz : E'.w.heap.size = E.w.heap.size)
    (h1 : E'.kn = E.kn) (h2 : E'.dead = E.dead) (h3 : E'.loc = E.loc) (h4 : E'.ln = E.ln) (hI : ∀ b, E'.I b → E.I b) (hrg : ∀ l, E'.rg l → E.rg l) : MemAt E' J base g := by
  refine ⟨fun id => by rw [h1, h2]; exact hm.live id, fun id B hgi => ?_, fun id id' b B B' a1 a2 a3 a4 => hm.apart id id' b B B' a1 a2 (by rw [← h3]; exact a3) (by rw [← h3]; exact a4), fun id b B hgi hb hi => hm.out id b B hgi (by rw [← h3]; exact hb) (hI b hi), fun b hb => ⟨by rw [hsz]; exact (hm.low b (hI b hb)).1, (hm.low b (hI b hb)).2⟩, by rw [hsz]; exact hm.size, fun id B hgi => by rw [h4]; exact hm.len id B hgi, fun l hl => hm.rgb l (hrg l hl)⟩
  have := hm.at_ id B hgi
  rw [h3]
  cases hl : E.loc id with
  | none => rw [hl] at this; exact this
  | some b =>
    rw [hl] at this
    obtain ⟨q1, ⟨hz0, arr, t, q2, q3, q4⟩ | ⟨hz0, es, c, q2, q3, q4⟩⟩ := this
    · refine .ofCells ⟨q1, arr, t, hcell.1 _ _ _ _ q2, q3, fun i cs hi => ⟨(q4 i cs hi).1, fun j x hj => ?_⟩⟩ hz0
      obtain ⟨u, k1, k2, k3⟩ := (q4 i cs hi).2 j x hj
      exact ⟨u, k1, k2, hR k3 (hg id B hgi cs (List.mem_of_getElem? hi) x (List.mem_of_getElem? hj))⟩
    · refine .ofMap ⟨q1, es, c, hcell.2 _ _ q2 (fun r e => by cases e), q3, fun i e cs he hi => ?_⟩ hz0
      obtain ⟨x, rfl, x2, x3⟩ := q4 i e cs he hi
      exact ⟨x, rfl, x2, hR x3 (hg id B hgi _ (List.mem_of_getElem? hi) x (by simp))⟩
def putAs (n : Nat) : List Nat → List AV → (Nat → AV) → (Nat → AV)
  | p :: ps, a :: as_, σ => putAs n ps as_ fun t => if t = p ∧ p < n then a else σ t
  | _, _, σ => σ
theorem fold_rep {E : Env} : ∀ (ps : List Nat) (vs : List Value) (as_ : List AV) (tmps : Array Value) (σ : Nat → AV), vs.length = as_.length → (∀ (i : Nat) v c, vs[i]? = some v → as_[i]? = some c → Rep E v c) → (∀ t, Rep E (tmps.getD t undef) (σ t)) →
    ((ps.zip vs).foldl (fun (t : Array Value) (p : Nat × Value) => t.setIfInBounds p.1 p.2) tmps).size = tmps.size ∧ ∀ t, Rep E (((ps.zip vs).foldl (fun (t : Array Value) (p : Nat × Value) => t.setIfInBounds p.1 p.2) tmps).getD t undef) (putAs tmps.size ps as_ σ t)
  | [], vs, as_, tmps, σ, _, _, h => ⟨by simp, by simpa [putAs] using h⟩
  | p :: ps, [], as_, tmps, σ, hl, _, h => by
    have : as_ = [] := List.eq_nil_of_length_eq_zero (by simpa using hl.symm)
    subst this
    exact ⟨by simp, by simpa [putAs] using h⟩
  | p :: ps, v :: vs, [], tmps, σ, hl, _, h => by simp at hl
  | p :: ps, v :: vs, a :: as_, tmps, σ, hl, hr, h => by
    have ih := fold_rep ps vs as_ (tmps.setIfInBounds p v) (fun t => if t = p ∧ p < tmps.size then a else σ t) (by simpa using hl) (fun i u c hu hc => hr (i + 1) u c (by simpa using hu) (by simpa using hc)) (fun t => by
      by_cases hc : t = p ∧ p < tmps.size
      · rw [if_pos hc]
        obtain ⟨rfl, hlt⟩ := hc
        have := hr 0 v a rfl rfl
        simpa [hlt] using this
      · rw [if_neg hc]
        have e : (tmps.setIfInBounds p v).getD t undef = tmps.getD t undef := by
          simp only [Array.getD_eq_getD_getElem?, Array.getElem?_setIfInBounds]
          by_cases hpt : p = t
          · subst hpt
            have : ¬ p < tmps.size := fun hlt => hc ⟨rfl, hlt⟩
            simp [this]
          · simp [hpt]
        rw [e]; exact h t)
    rw [Array.size_setIfInBounds] at ih
    exact ih
theorem rc_get {E : Env} {vs : Array Value} {cs : List AV} (h : RC E vs cs) (t : Nat) : Rep E (vs.getD t undef) (σ0 cs t) := by
  have := start_rep h 0 t
  simpa using this
def FiB (P : Program) (kb : Nat) (f : FuncId) (as_ : List AV) (g : Nat → Option Bk) (k : Nat) (r : AV) (g' : Nat → Option Bk) (k' : Nat) : Prop :=
  ∀ (E : Env) (J : Nat → Prop) (base : Nat) (vs : Array Value), GlE E → MemAt E J base g → (∀ id, E.kn id → id < k) → RC E vs as_ →
    Calls P f vs E.w fun e w' => ∃ v E', e = .returned v ∧ E'.w = w' ∧ (E.lt kb).Le E' ∧ Rep E' v r ∧ MemAt E' J base g' ∧ Below base E.w w' ∧ ∀ id, E'.kn id → id < k'
theorem fib_of {f : FuncId} {F : AFn} (hF : cFunc P f = some F) {as_ : List AV} (hl : as_.length ≤ F.n) {g g' : Nat → Option Bk} {k k' kb : Nat} {r : AV}
    (h : EW P F.n kb F.code ⟨σ0 as_, g, k⟩ fun x s' => (x = .normal ∨ x = .ret) ∧ ∃ y : S3, s'.Le kb F.n y ∧ (resR y.σ F.res).run y.g = some r ∧ y.g = g' ∧ y.k = k') : FiB P kb f as_ g k r g' k' := by
  intro E J base vs hG hm hkn hrc
  obtain ⟨fn, c, h1, h2, h3, h4, h5⟩ := cFunc_inv hF
  refine calls_marks h1 h2 (wpIn_mono (h none c (E.lt kb) J base E.w _ E.w (fun _ => rfl) h4 (fun id hi => hi.2) ⟨⟨E, rfl, E.lt_le kb, start_rep hrc _, hm, hkn, .nil⟩, ?_, Below.refl _ _, hG⟩) ?_)
  · simp only [Array.size_append, Array.size_replicate, hrc.1]; omega
  · rintro e a' w' ⟨x, s', ⟨hx, y, hy, hr, rfl, rfl⟩, rfl, hrel0⟩
    have hrel := hy (E.lt kb) J base E.w a' w' (fun id hi => hi.2) hrel0
    obtain ⟨E', rfl, hle, hs, hM, hk, hmk⟩ := hrel.ex
    refine ⟨by rcases hx with rfl | rfl <;> simp [Ex.up], marks_leave _ E' hmk fun E2 hS => ?_⟩
    have hM2 := hS.mem hM
    obtain ⟨v, e1, e2⟩ := res_run hM2 (fun t => hS.rep (hs t)) h3 hr
    exact ⟨v, e1, v, E2, rfl, rfl, hS.le hle fun b hb => (hm.low b hb).1, e2, hM2, hS.below hm.size hrel.below, fun id hid => hk id (by rw [← hS.eqs.1]; exact hid)⟩
theorem fib_walk {f : FuncId} {F : AFn} (hF : cFunc P f = some F) {as_ : List AV} (hl : as_.length ≤ F.n) {r : AV} {m m' : List (Option Bk)} {kb : Nat}
    (h : EL P F.n kb F.code ⟨startT 0 as_, m⟩ fun e x => (e = .normal ∨ e = .ret) ∧ ∃ y : L3, x.s.Le kb F.n y.s ∧ (resR (slot y.t) F.res).run (look y.m) = some r ∧ y.m = m') : FiB P kb f as_ (look m) m.length r (look m') m'.length := by
  refine fib_of hF hl (EW.weak (start_le as_ _ _) (EW.conseq h ?_))
  rintro e s ⟨x', rfl, h1, y, h2, h3, rfl⟩
  exact ⟨h1, y.s, h2, h3, rfl, rfl⟩
theorem yd_of {r : Loop} {x y : AC} {caps as_ : List AV} {ps : List Nat} {n k kb : Nat} {g g' : Nat → Option Bk} {k' : Nat} (hx : cCode P r.assign = some x) (hy : cCode P r.body = some y) (hst : r.state = .ready) (hpe : r.pending = none) (hps : r.params = ps.toArray) (hlen : ps.length = as_.length)
    (hn : caps.length = n) (hrx : x.hasRng = false) (hry : y.hasRng = false)
    (h : EW P n kb x ⟨putAs n ps as_ (σ0 caps), g, k⟩ fun e s1 => e = .normal ∧ (∀ t, ny 5 (s1.σ t) = true) ∧ gny s1.g ∧ EW P n kb y s1 fun e s2 => e = .normal ∧ ∃ s3 : S3, s2.Le kb n s3 ∧ gny s3.g ∧ s3.g = g' ∧ s3.k = k') : Yd P kb r caps as_ g k g' k' := by
  refine ⟨by rw [hps]; simpa using hlen, fun E J base l vs hG hm hkn hrg hrc hcaps hI hh => ?_⟩
  have hlI := hm.low l hI
  have hbl : base ≤ l ∨ J l := hlI.2.symm
  have hfold := fold_rep (E := E) ps vs.toList as_ r.tmps (σ0 caps) (by simpa using hrc.1) (fun i v c hv hc => hrc.2 i v c (by simpa using hv) hc) (fun t => rc_get hcaps t)
  have hfe : (r.params.zip vs).foldl (fun t (p, v) => t.setIfInBounds p v) r.tmps = (ps.zip vs.toList).foldl (fun (t : Array Value) (p : Nat × Value) => t.setIfInBounds p.1 p.2) r.tmps := by
    rw [hps, ← Array.foldl_toList, Array.toList_zip]
  have hsz : r.tmps.size = n := hcaps.1.trans hn
  rw [hfe]
  rw [hsz] at hfold
  refine roundIn_of_wpIn (F := Fence.wide) (n := 0) trivial ?_
  have h1 := h (some l) r.assign (E.lt kb) J base E.w { tmps := (ps.zip vs.toList).foldl (fun (t : Array Value) (p : Nat × Value) => t.setIfInBounds p.1 p.2) r.tmps, defers := [] } E.w (fun hh => by rw [hrx] at hh; simp at hh) hx (fun id hi => hi.2)
    ⟨⟨E, rfl, E.lt_le kb, hfold.2, hm, hkn, .nil⟩, hfold.1, Below.refl _ _, trivial⟩
  refine wpIn_mono h1 ?_
  rintro e a1 w1 ⟨x1, s1, ⟨rfl, hny1, hgny1, hbody⟩, rfl, hrel⟩
  obtain ⟨E1, rfl, hle1, hs1, hm1, hk1, hmk1⟩ := hrel.ex
  have hh1 : E1.w.heap[l]? = some (.loop r) := (hle1.imm l hI).2.trans hh
  have hI1 : E1.I l := (hle1.imm l hI).1
  refine ⟨_, run_beginRound hh1 hst, ?_⟩
  have hlt1 := (Array.getElem?_eq_some_iff.1 hh1).1
  obtain ⟨w2, hw2⟩ : ∃ w2, w2 = E1.w.putObj l (.loop { r with state := .busy }) := ⟨_, rfl⟩
  rw [← hw2]
  have hh2 : w2.heap[l]? = some (.loop { r with state := .busy }) := by rw [hw2]; exact World.putObj_heap_same hlt1
  have hoth2 : ∀ b, b ≠ l → w2.heap[b]? = E1.w.heap[b]? := fun b hb => by rw [hw2]; exact World.putObj_heap_other hb
  obtain ⟨c1, c2, c3⟩ := noncell (.loop { r with state := .busy }) hh1 rfl rfl
  rw [← hw2] at c1 c2 c3
  let E2 : Env := { E1 with w := w2 }
  have hR2 : ∀ {v a}, Rep E1 v a → ny 5 a = true → Rep E2 v a := fun hr hn => Rep.ny (E := E1) (E' := E2) (fun b hb => ⟨hb, c1 b⟩) c2 rfl rfl rfl rfl 5 hr hn
  have hsz2 : w2.heap.size = E1.w.heap.size := by rw [hw2]; simp
  have hm2 : MemAt E2 J base s1.g := hm1.ny (E' := E2) hR2 hgny1 ⟨c3, fun b o hb ho => by
    by_cases e : b = l
    · subst e; rw [hh1] at hb; simp only [Option.some.injEq] at hb; exact absurd hb.symm (ho _)
    · exact (hoth2 b e).trans hb⟩ hsz2 rfl rfl rfl rfl (fun b hb => hb) (fun b hb => hb)
  have hmk2 : Mk E2 E.w.heap.size a1.defers := by
    have : ∀ {ds}, Mk E1 E.w.heap.size ds → Mk E2 E.w.heap.size ds := by
      intro ds hmk
      induction hmk with
      | nil => exact .nil
      | @cons D ds hI' hD hh' hne t ih =>
        refine .cons hI' hD ((hoth2 D fun e => ?_).trans hh') hne ih
        rw [e, hh1] at hh'; simp at hh'
    exact this hmk1
  have hbl := hm.rgb l hrg
  have hb2 : Below base E.w w2 := hrel.below.trans ⟨by rw [hw2]; rfl, by rw [hw2]; rfl, by rw [hw2]; rfl, by rw [hsz2]; exact Nat.le_refl _, fun k hk => hoth2 k (by omega)⟩
  have hlt0 := (Array.getElem?_eq_some_iff.1 hh).1
  obtain ⟨wb, hwb⟩ : ∃ wb, wb = E.w.putObj l (.loop { r with state := .busy }) := ⟨_, rfl⟩
  obtain ⟨b1, b2, b3⟩ := noncell (.loop { r with state := .busy }) hh rfl rfl
  rw [← hwb] at b1 b2 b3
  have hhb : wb.heap[l]? = some (.loop { r with state := .busy }) := by rw [hwb]; exact World.putObj_heap_same hlt0
  have hothb : ∀ b, b ≠ l → wb.heap[b]? = E.w.heap[b]? := fun b hb => by rw [hwb]; exact World.putObj_heap_other hb
  let Eb : Env := { E.lt kb with w := wb }
  have hleb : Eb.Le E2 := by
    refine ⟨hle1.kn, fun b hb => ⟨(hle1.imm b hb).1, ?_⟩, hle1.dead, hle1.loc, fun id b hi hd hb => ?_, hle1.ln, hle1.rg⟩
    · show w2.heap[b]? = wb.heap[b]?
      by_cases hbl : b = l
      · subst hbl; rw [hh2, hhb]
      · rw [hoth2 b hbl, hothb b hbl]; exact (hle1.imm b hb).2
    · rcases hle1.shape id b hi hd hb with k1 | k1
      · exact .inl k1
      · exact .inr ((c2 b).trans (k1.trans (b2 b).symm))
  have h2 := hbody (some l) r.body Eb J base E.w a1 w2 (fun hh => by rw [hry] at hh; simp at hh) hy (fun id hi => hi.2)
    ⟨⟨E2, rfl, hleb, fun t => hR2 (hs1 t) (hny1 t), hm2, hk1, hmk2⟩, hrel.size, hb2, trivial⟩
  refine wpIn_mono h2 ?_
  rintro e a3 w3 ⟨x2, s2, ⟨rfl, s3, hs3, hgny3, rfl, rfl⟩, rfl, hrel2⟩
  have hrel3 := hs3 Eb J base E.w a3 w3 (fun id hi => hi.2) hrel2
  obtain ⟨E3, rfl, hle3, hs3', hm3, hk3, hmk3⟩ := hrel3.ex
  have hh3 : E3.w.heap[l]? = some (.loop { r with state := .busy }) := (hle3.imm l hI).2.trans hhb
  have hlt3 := (Array.getElem?_eq_some_iff.1 hh3).1
  have hend := run_endRound (P := P) none hh3
  have hback : ({ ({ r with state := .busy } : Loop) with state := .ready, pending := none } : Loop) = r := by
    cases r; simp only at hst hpe; subst hst; subst hpe; rfl
  simp only [Option.isNone_none, if_true] at hend
  rw [hback] at hend
  obtain ⟨w4, hw4⟩ : ∃ w4, w4 = E3.w.putObj l (.loop r) := ⟨_, rfl⟩
  rw [← hw4] at hend
  obtain ⟨d1, d2, d3⟩ := noncell (.loop r) hh3 rfl rfl
  rw [← hw4] at d1 d2 d3
  have hoth4 : ∀ b, b ≠ l → w4.heap[b]? = E3.w.heap[b]? := fun b hb => by rw [hw4]; exact World.putObj_heap_other hb
  have hsz4 : w4.heap.size = E3.w.heap.size := by rw [hw4]; simp
  let E4 : Env := { E3 with w := w4 }
  have hR4 : ∀ {v a}, Rep E3 v a → ny 5 a = true → Rep E4 v a := fun hr hn => Rep.ny (E := E3) (E' := E4) (fun b hb => ⟨hb, d1 b⟩) d2 rfl rfl rfl rfl 5 hr hn
  have hm4 : MemAt E4 J base s3.g := hm3.ny (E' := E4) hR4 hgny3 ⟨d3, fun b o hb ho => by
    by_cases e : b = l
    · subst e; rw [hh3] at hb; simp only [Option.some.injEq] at hb; exact absurd hb.symm (ho _)
    · exact (hoth4 b e).trans hb⟩ hsz4 rfl rfl rfl rfl (fun b hb => hb) (fun b hb => hb)
  have hheap : ∀ b, E.I b → w4.heap[b]? = E.w.heap[b]? := fun b hb => by
    by_cases hbl : b = l
    · subst hbl; rw [hh, hw4]; exact World.putObj_heap_same hlt3
    · rw [hoth4 b hbl, (hle3.imm b hb).2]
      exact hothb b hbl
  have hle4 : (E.lt kb).Le E4 := by
    refine ⟨hle3.kn, fun b hb => ⟨(hle3.imm b hb).1, hheap b hb⟩, hle3.dead, hle3.loc, fun id b hi hd hb => ?_, hle3.ln, hle3.rg⟩
    rcases hle3.shape id b hi hd hb with k1 | k1
    · exact .inl k1
    · exact .inr ((d2 b).trans (k1.trans (b2 b)))
  have hb4 : Below base E.w w4 := hrel3.below.trans ⟨by rw [hw4]; rfl, by rw [hw4]; rfl, by rw [hw4]; rfl, by rw [hsz4]; exact Nat.le_refl _, fun k hk => hoth4 k (by omega)⟩
  exact ⟨_, w4, hend, rfl, E4, rfl, hle4, hm4, hb4, hk3⟩
theorem EW.rng {gA : Arg} {ps : List Nat} {x y : AC} {f : FuncId} {caps : List AV} {n k0 kb : Nat} {s : S3} {g' : Nat → Option Bk} {k' : Nat} {res : AV} {Q : Ex → S3 → Prop} (hkb : k0 ≤ kb) (hnb : ∀ t, nb kb 6 (s.σ t) = true) (hg : argσ s.σ gA = .fn f caps) (hc : callable P f = true) (hny : gny g')
    (h : ∀ r : Loop, cCode P r.assign = some x → cCode P r.body = some y → r.state = .ready → r.pending = none → r.params = ps.toArray → FiB P kb f (.yld r ((List.range n).map s.σ) :: caps) s.g s.k res g' k') (hq : Q .normal ⟨s.σ, g', k'⟩) : EW P n k0 (.rng gA ps x y) s Q := by
  intro rd c E0 J base w0 a w hrd hcc hk hr
  obtain rfl := hrd rfl
  obtain ⟨go, psA, ca, cb, rfl, hgo, hx, hy, hpsA⟩ : ∃ go psA ca cb, c = .rangeFunc go psA ca cb ∧ cArg go = some gA ∧ cCode P ca = some x ∧ cCode P cb = some y ∧ psA.toList = ps := by
    cases c with
    | rangeFunc go psA ca cb =>
      simp only [cCode] at hcc
      split at hcc
      · rename_i h1 h2 h3
        simp only [Option.some.injEq, AC.rng.injEq] at hcc
        obtain ⟨rfl, rfl, rfl, rfl⟩ := hcc
        exact ⟨go, psA, ca, cb, rfl, h1, h2, h3, rfl⟩
      · simp at hcc
    | _ =>
      exfalso
      simp only [cCode] at hcc
      repeat' (first | (simp at hcc; done) | split at hcc)
  obtain ⟨E, rfl, hle, hs, hm, hkn, hmk⟩ := hr.ex
  have hgv := Args.of (hr.gl.step hle) hs go gA hgo
  rw [hg] at hgv
  obtain ⟨vv, hvv⟩ : ∃ vv, vv = a.eval go := ⟨_, rfl⟩
  rw [← hvv] at hgv
  cases hgv with
  | @fn _ lb _ hlb hrb =>
  refine wpIn_rangeFunc ?_
  intro fn hfn
  obtain ⟨rec, hrec⟩ : ∃ rec : Loop, rec = { state := .ready, pending := none, fn, tmps := a.tmps, params := psA, assign := ca, body := cb, defers := E.w.heap.size } := ⟨_, rfl⟩
  obtain ⟨W1, hW1⟩ : ∃ W1, (E.w.alloc (.deferred (some []))).alloc (.loop rec) = W1 := ⟨_, rfl⟩
  have hL1 : W1.heap[E.w.heap.size + 1]? = some (.loop rec) := by
    rw [← hW1]; have := World.alloc_heap_new (E.w.alloc (.deferred (some []))) (.loop rec); rwa [World.size_alloc] at this
  have hK1 : W1.heap[E.w.heap.size]? = some (.deferred (some [])) := by
    rw [← hW1]; exact (Below.heap_alloc _ _ _ (by simp)).trans (World.alloc_heap_new E.w _)
  have hold : ∀ b, b < E.w.heap.size → W1.heap[b]? = E.w.heap[b]? := fun b hb => by
    rw [← hW1]; exact (Below.heap_alloc _ _ _ (by simp; omega)).trans (Below.heap_alloc _ _ _ hb)
  have hsz1 : W1.heap.size = E.w.heap.size + 2 := by rw [← hW1]; simp
  have hb1 : Below base E.w W1 := by
    rw [← hW1]; exact ((Below.refl _ E.w).alloc hm.size _).alloc (by have := hm.size; simp; omega) _
  have hown : ∀ id b B, s.g id = some B → E.loc id = some b → b < E.w.heap.size := fun id b B hgi hb => by
    have := hm.at_ id B hgi; rw [hb] at this; exact this.lt.2
  let E1 : Env := { E with w := W1, I := fun b => E.I b ∨ b = E.w.heap.size ∨ b = E.w.heap.size + 1, rg := fun l => E.rg l ∨ l = E.w.heap.size + 1 }
  have hE1 : E.Le E1 := by
    refine ⟨fun _ h => h, fun b hb => ⟨.inl hb, hold b (hm.low b hb).1⟩, fun _ _ h => h, fun _ _ _ => .inr rfl, fun id b hi hd hb => .inr ?_, fun _ _ _ => .inr rfl, fun _ h => .inl h⟩
    obtain ⟨B, hB⟩ := (hm.live id).1 ⟨hi, hd⟩
    show W1.shape? b = _
    simp only [World.shape?, hold b (hown id b B hB hb)]
  have hm1 : MemAt E1 J base s.g := by
    refine ⟨hm.live, fun id B hgi => (hm.at_ id B hgi).keep hE1 fun b hb => hold b (hown id b B hgi hb), hm.apart, fun id b B hgi hb hi => ?_, fun b hb => ?_, by show base ≤ W1.heap.size; have := hm.size; omega, hm.len, fun l hl => ?_⟩
    · have := hown id b B hgi hb
      rcases hi with hi | hi | hi
      · exact hm.out id b B hgi hb hi
      · omega
      · omega
    · show b < W1.heap.size ∧ _
      have := hm.size
      rcases hb with hb | hb | hb
      · have := hm.low b hb; exact ⟨by omega, this.2⟩
      · exact ⟨by omega, .inr (by omega)⟩
      · exact ⟨by omega, .inr (by omega)⟩
    · have := hm.size
      rcases hl with hl | hl
      · exact hm.rgb l hl
      · omega
  have hcall := h rec (by rw [hrec]; exact hx) (by rw [hrec]; exact hy) (by rw [hrec]) (by rw [hrec]) (by rw [hrec]; simp [← hpsA])
  have htm : a.tmps.size = n := hr.size
  have hrc : RC E1 (#[.func (.yield (E.w.heap.size + 1)) #[] #[]] ++ lb) (.yld rec ((List.range n).map s.σ) :: caps) := by
    refine ⟨by simp [hlb]; omega, fun j u c hu hc => ?_⟩
    cases j with
    | zero =>
      rw [Array.getElem?_append_left (by simp)] at hu
      simp at hu hc; subst hu; subst hc
      refine .yld (.inr rfl) (.inr (.inr rfl)) hL1 (by rw [hrec]; simp [htm]) fun i v c hv hc => ?_
      rw [hrec] at hv
      have hi : i < n := by rw [← htm]; exact (Array.getElem?_eq_some_iff.1 hv).1
      rw [List.getElem?_map, List.getElem?_range hi] at hc
      simp only [Option.map_some, Option.some.injEq] at hc
      subst hc
      have := (hs i).step hE1
      simp only at hv
      simpa [Array.getD_eq_getD_getElem?, hv] using this
    | succ j =>
      rw [Array.getElem?_append_right (by simp)] at hu
      simp at hu hc
      exact (hrb j u c hu hc).step hE1
  refine ⟨E.w.heap.size + 1, [{ target := .collected E.w.heap.size, args := #[] }], W1, { target := .fn (.func f) lb, args := #[.func (.yield (E.w.heap.size + 1)) #[] #[]] }, W1, f,
    #[.func (.yield (E.w.heap.size + 1)) #[] #[]] ++ lb, W1, ?_, ?_, fun _ _ => trivial, ?_, rnd_depth, ?_⟩
  · rw [← hW1, hrec]; exact run_enterLoop_outer _ _ _ _ _
  · simp only [resolve, ← hvv]
    simp [Deferred.ofValue]
    rfl
  · simp only [invoke]
    exact callFunc_run hc _ _
  · refine calls_rnd ((hcall E1 J base _ trivial hm1 hkn hrc).mono ?_)
    rintro e w' ⟨v, E2, rfl, rfl, hle2, _, hm2, hb2, hk2⟩
    have hl2 : E2.w.heap[E.w.heap.size + 1]? = some (.loop rec) := (hle2.imm _ (.inr (.inr rfl))).2.trans hL1
    have hd2 : E2.w.heap[E.w.heap.size]? = some (.deferred (some [])) := (hle2.imm _ (.inr (.inl rfl))).2.trans hK1
    have hend := run_endLoop (P := P) hl2 (by rw [hrec]; simp)
    obtain ⟨w4, hw4⟩ : ∃ w4, w4 = E2.w.putObj (E.w.heap.size + 1) (.loop { rec with state := .exhausted }) := ⟨_, rfl⟩
    rw [← hw4] at hend
    refine ⟨_, w4, hend, ?_⟩
    rw [show rec.pending = none by rw [hrec]]
    obtain ⟨d1, d2, d3⟩ := noncell (.loop { rec with state := .exhausted }) hl2 rfl rfl
    rw [← hw4] at d1 d2 d3
    have hoth4 : ∀ b, b ≠ E.w.heap.size + 1 → w4.heap[b]? = E2.w.heap[b]? := fun b hb => by rw [hw4]; exact World.putObj_heap_other hb
    have hsz4 : w4.heap.size = E2.w.heap.size := by rw [hw4]; simp
    let E3 : Env := { E2 with w := w4 }
    have hR : ∀ {v a}, Rep E2 v a → ny 5 a = true → Rep E3 v a := fun hr hn => Rep.ny (E := E2) (E' := E3) (fun b hb => ⟨hb, d1 b⟩) d2 rfl rfl rfl rfl 5 hr hn
    have hm3 : MemAt E3 J base g' := hm2.ny (E' := E3) hR hny ⟨d3, fun b o hb ho => by
      by_cases e : b = E.w.heap.size + 1
      · subst e; rw [hl2] at hb; simp only [Option.some.injEq] at hb; exact absurd hb.symm (ho _)
      · exact (hoth4 b e).trans hb⟩ hsz4 rfl rfl rfl rfl (fun b hb => hb) (fun b hb => hb)
    have hle3 : (E.lt kb).Le E3 := by
      refine ⟨fun id hi => hle2.kn id hi, fun b hb => ⟨(hle2.imm b (.inl hb)).1, ?_⟩, fun id hi hd => hle2.dead id hi hd, fun id hi hd => hle2.loc id hi hd, fun id b hi hd hb => ?_, fun id hi hd => hle2.ln id hi hd, fun l hl => hle2.rg l (.inl hl)⟩
      · have := (hm.low b hb).1
        exact (hoth4 b (by omega)).trans ((hle2.imm b (.inl hb)).2.trans (hold b this))
      · rcases hle2.shape id b hi hd hb with k1 | k1
        · exact .inl k1
        · exact .inr ((d2 b).trans (k1.trans ((hE1.shape id b hi.1 hd hb).resolve_left hd)))
    have hb4 : Below base E2.w w4 := ⟨by rw [hw4]; rfl, by rw [hw4]; rfl, by rw [hw4]; rfl, by rw [hsz4]; exact Nat.le_refl _, fun k hk => hoth4 k (by have := hm.size; omega)⟩
    refine ⟨.normal, ⟨s.σ, g', k'⟩, hq, rfl, ⟨⟨E3, rfl, hle.cut (fun id hi => Nat.lt_of_lt_of_le (hk id hi) hkb) hle3, fun t => (hs t).stepB hle3 6 (hnb t), hm3, hk2, ?_⟩, hr.size, hr.below.trans (hb1.trans (hb2.trans hb4)), hr.gl⟩⟩
    refine Mk.cons (hle2.imm _ (.inr (.inl rfl))).1 hr.below.size ((hoth4 _ (by omega)).trans hd2) (fun d hd e => ?_) (Mk.step' (E := E) hle3.imm hmk)
    have := hmk.lt d hd _ e
    omega
def putYs : List Nat → List AV → List (Nat × AV) → List (Nat × AV)
  | p :: ps, a :: as_, t => putYs ps as_ (setA t (some p) a)
  | _, _, t => t
theorem putYs_slot {n : Nat} : ∀ (ps : List Nat) (as_ : List AV) (t : List (Nat × AV)) (σ : Nat → AV), (ps.all fun p => Nat.blt p n) = true → (∀ i, slot t i = σ i ∨ slot t i = .dead) → ∀ i, slot (putYs ps as_ t) i = putAs n ps as_ σ i ∨ slot (putYs ps as_ t) i = .dead
  | [], as_, t, σ, _, h, i => by simpa [putYs, putAs] using h i
  | p :: ps, [], t, σ, _, h, i => by simpa [putYs, putAs] using h i
  | p :: ps, a :: as_, t, σ, hp, h, i => by
    simp only [List.all_cons, Bool.and_eq_true] at hp
    refine putYs_slot ps as_ (setA t (some p) a) (fun t => if t = p ∧ p < n then a else σ t) hp.2 (fun j => ?_) i
    rw [setA_slot (n := n) t (some p) hp.1 a]
    unfold putσ
    have hpn : p < n := Nat.le_of_ble_eq_true hp.1
    by_cases hj : j = p
    · subst hj
      left
      rw [if_pos ⟨rfl, hpn⟩, if_pos ⟨rfl, hpn⟩]
    · rw [if_neg (fun hc => hj (Option.some.inj hc.1).symm), if_neg (fun hc => hj hc.1)]
      exact h j
theorem slot_ny {d : Nat} : ∀ (t : List (Nat × AV)), (t.all fun p => ny (d + 1) p.2) = true → ∀ i, ny (d + 1) (slot t i) = true
  | [], _, i => rfl
  | (j, v) :: r, h, i => by
    simp only [List.all_cons, Bool.and_eq_true] at h
    simp only [slot]
    cases Nat.beq i j with
    | true => exact h.1
    | false => exact slot_ny r h.2 i
theorem yd_walk {r : Loop} {x y : AC} {caps as_ : List AV} {ps : List Nat} {n kb : Nat} {m m' : List (Option Bk)} (hx : cCode P r.assign = some x) (hy : cCode P r.body = some y) (hst : r.state = .ready) (hpe : r.pending = none) (hps : r.params = ps.toArray)
    (hok : (Nat.beq ps.length as_.length && (Nat.beq caps.length n && ((ps.all fun p => Nat.blt p n) && (!x.hasRng && !y.hasRng)))) = true)
    (h : EL P n kb x ⟨putYs ps as_ (startT 0 caps), m⟩ fun e x1 => e = .normal ∧ (x1.t.all fun p => ny 5 p.2) = true ∧ NYs x1.m ∧ EL P n kb y x1 fun e x2 => e = .normal ∧ ∃ z : L3, x2.s.Le kb n z.s ∧ NYs z.m ∧ z.m = m') : Yd P kb r caps as_ (look m) m.length (look m') m'.length := by
  simp only [Bool.and_eq_true, Bool.not_eq_true'] at hok
  obtain ⟨h1, h2, h3, h4, h5⟩ := hok
  refine yd_of hx hy hst hpe hps (Nat.eq_of_beq_eq_true h1) (Nat.eq_of_beq_eq_true h2) h4 h5 ?_
  refine EW.weak (s' := (⟨putYs ps as_ (startT 0 caps), m⟩ : L3).s) (S3.le_slots (fun t => ?_) rfl rfl) (EW.conseq h ?_)
  · have := putYs_slot (n := n) ps as_ (startT 0 caps) (σ0 caps) h3 (fun i => ?_) t
    · rcases this with h | h
      · exact .inl h
      · exact .inr (.inl h)
    · rw [startT_slot, if_pos (Nat.zero_le _), Nat.sub_zero]
      unfold σ0
      cases caps[i]? with
      | none => exact .inr rfl
      | some a => exact .inl rfl
  · rintro e s ⟨x1, rfl, rfl, hn1, hn2, hb⟩
    refine ⟨rfl, slot_ny x1.t hn1, hn2.gny, EW.conseq hb ?_⟩
    rintro e s ⟨x2, rfl, rfl, z, hz1, hz2, rfl⟩
    exact ⟨rfl, z.s, hz1, hz2.gny, rfl, rfl⟩
theorem slot_nb {kb d : Nat} : ∀ (t : List (Nat × AV)), (t.all fun p => nb kb (d + 1) p.2) = true → ∀ i, nb kb (d + 1) (slot t i) = true
  | [], _, i => rfl
  | (j, v) :: r, h, i => by
    simp only [List.all_cons, Bool.and_eq_true] at h
    simp only [slot]
    cases Nat.beq i j with
    | true => exact h.1
    | false => exact slot_nb r h.2 i
theorem EL.rng {gA : Arg} {ps : List Nat} {a b : AC} {f : FuncId} {caps cs : List AV} {n k0 : Nat} {x : L3} {m' : List (Option Bk)} {res : AV} {Q : Ex → L3 → Prop} (kb : Nat) (hnb : (Nat.ble k0 kb && x.t.all fun p => nb kb 6 p.2) = true) (hg : argσ (slot x.t) gA = .fn f caps) (hc : callable P f = true) (hcs : (List.range n).map (slot x.t) = cs) (hny : NYs m')
    (h : ∀ r : Loop, cCode P r.assign = some a → cCode P r.body = some b → r.state = .ready → r.pending = none → r.params = ps.toArray → FiB P kb f (.yld r cs :: caps) (look x.m) x.m.length res (look m') m'.length) (hq : Q .normal ⟨x.t, m'⟩) : EL P n k0 (.rng gA ps a b) x Q :=
  have hnb' := Bool.and_eq_true_iff.1 hnb
  EW.rng (Nat.le_of_ble_eq_true hnb'.1) (slot_nb x.t hnb'.2) hg hc hny.gny (fun r h1 h2 h3 h4 h5 => by have := h r h1 h2 h3 h4 h5; rw [← hcs] at this; exact this) ⟨⟨x.t, m'⟩, rfl, hq⟩
theorem OW.yld {n k k0 : Nat} {R : List AOper} {x : L3} {K : L3 → Prop} {a : Arg} {args : List Arg} {r : Loop} {caps aa : List AV} {m' : List (Option Bk)} {x' : L3} (hl : Nat.blt k R.length = true) (hgd : guardA (slot x.t) (opD R k).guard = some true) (ho : (opD R k).ao = .call a args) (hx : argσ (slot x.t) a = .yld r caps) (has : args.map (argσ (slot x.t)) = aa) {kb : Nat} (hnb : (Nat.ble k0 kb && x.t.all fun p => nb kb 6 p.2) = true)
    (hy : Yd P kb r caps aa (look x.m) x.m.length (look m') m'.length) (hx' : (bif dstOK n (opD R k).dst then some (⟨setA x.t (opD R k).dst (.v (.bool true)), m'⟩ : L3) else none) = some x') (hr : OW P n k0 (R.drop (k + 1)) x' K) : OW P n k0 (R.drop k) x K := by
  rw [opD_drop hl]
  cases hd : dstOK n (opD R k).dst with
  | false => rw [hd] at hx'; simp at hx'
  | true =>
    rw [hd, cond_true] at hx'
    simp only [Option.some.injEq] at hx'
    subst hx'
    obtain ⟨z, h1, h3⟩ := hr
    simp only [setA_slot _ _ hd] at h1
    subst has
    have hnb' := Bool.and_eq_true_iff.1 hnb
    exact ⟨z, .yld hgd ho hx (Nat.le_of_ble_eq_true hnb'.1) (slot_nb x.t hnb'.2) hy h1, h3⟩
end
def xt (a : UInt8) : UInt8 := if a > 127 then (a <<< 1) ^^^ 29 else a <<< 1
def gm : Nat → UInt8 → UInt8 → UInt8 → UInt8
  | 0, _, _, o => o
  | n+1, a, b, o => gm n (xt a) (b >>> 1) (if b &&& 1 = 0 then o else o ^^^ a)
def gmul (a b : UInt8) : UInt8 := gm 8 a b 0
theorem u8_xor_left_comm (a b c : UInt8) : a ^^^ (b ^^^ c) = b ^^^ (a ^^^ c) := by rw [← UInt8.xor_assoc, UInt8.xor_comm a b, UInt8.xor_assoc]
theorem u8_xor_cancel (a b : UInt8) : a ^^^ (a ^^^ b) = b := by rw [← UInt8.xor_assoc, UInt8.xor_self, UInt8.zero_xor]
theorem u8_xor_and (a b c : UInt8) : (a ^^^ b) &&& c = (a &&& c) ^^^ (b &&& c) := by
  apply UInt8.eq_of_toBitVec_eq
  simp only [UInt8.toBitVec_and, UInt8.toBitVec_xor]
  ext i
  simp only [BitVec.getElem_and, BitVec.getElem_xor]
  cases a.toBitVec[i] <;> cases b.toBitVec[i] <;> cases c.toBitVec[i] <;> rfl
theorem u8_xor_shl (a b c : UInt8) : (a ^^^ b) <<< c = (a <<< c) ^^^ (b <<< c) := by
  apply UInt8.eq_of_toBitVec_eq
  simp only [UInt8.toBitVec_shiftLeft, UInt8.toBitVec_xor]
  exact BitVec.shiftLeft_xor_distrib ..
theorem u8_xor_shr (a b c : UInt8) : (a ^^^ b) >>> c = (a >>> c) ^^^ (b >>> c) := by
  apply UInt8.eq_of_toBitVec_eq
  simp only [UInt8.toBitVec_shiftRight, UInt8.toBitVec_xor]
  exact BitVec.ushiftRight_xor_distrib ..
theorem all8 (p : UInt8 → Bool) (h : (List.range 256).all (fun n => p (UInt8.ofNat n)) = true) (a : UInt8) : p a = true := by
  rw [List.all_eq_true] at h
  have := h a.toNat (List.mem_range.2 a.toNat_lt)
  simpa using this
theorem xt_xor (a b : UInt8) : xt (a ^^^ b) = xt a ^^^ xt b := by
  have h1 : ∀ c : UInt8, xt c = (c <<< 1) ^^^ (if c &&& 128 = 0 then 0 else 29) := fun c => by
    have := all8 (fun c => xt c == (c <<< 1) ^^^ (if c &&& 128 = 0 then 0 else 29)) (by decide +kernel) c
    simpa using this
  have h3 : ∀ c : UInt8, c &&& 128 = 0 ∨ c &&& 128 = 128 := fun c => by
    have := all8 (fun c => c &&& 128 == 0 || c &&& 128 == 128) (by decide +kernel) c
    simpa using this
  rw [h1, h1 a, h1 b]
  have h2 : (a ^^^ b) &&& 128 = (a &&& 128) ^^^ (b &&& 128) := u8_xor_and ..
  have h4 : (a ^^^ b) <<< 1 = (a <<< 1) ^^^ (b <<< 1) := u8_xor_shl ..
  rw [h2, h4]
  rcases h3 a with ha | ha <;> rcases h3 b with hb | hb <;> rw [ha, hb] <;> simp [UInt8.xor_assoc, UInt8.xor_comm, u8_xor_left_comm]
theorem gm_zero (n : Nat) : ∀ a o, gm n a 0 o = o := by
  induction n with
  | zero => intros; rfl
  | succ n ih => intro a o; simp only [gm]; simpa using ih _ _
theorem xor4 (a b c d : UInt8) : (a ^^^ b) ^^^ (c ^^^ d) = (a ^^^ c) ^^^ (b ^^^ d) := by
  simp [UInt8.xor_assoc, u8_xor_left_comm]
theorem gm_add_left (n : Nat) : ∀ a a' b o o', gm n (a ^^^ a') b (o ^^^ o') = gm n a b o ^^^ gm n a' b o' := by
  induction n with
  | zero => intros; rfl
  | succ n ih =>
    intro a a' b o o'
    simp only [gm, xt_xor]
    by_cases h : b &&& 1 = 0
    · simp only [h, if_true]; exact ih ..
    · simp only [h, if_false]; rw [xor4]; exact ih ..
theorem gm_add_right (n : Nat) : ∀ a b b' o o', gm n a (b ^^^ b') (o ^^^ o') = gm n a b o ^^^ gm n a b' o' := by
  have h3 : ∀ c : UInt8, c &&& 1 = 0 ∨ c &&& 1 = 1 := fun c => by
    have := all8 (fun c => c &&& 1 == 0 || c &&& 1 == 1) (by decide +kernel) c
    simpa using this
  induction n with
  | zero => intros; rfl
  | succ n ih =>
    intro a b b' o o'
    simp only [gm]
    have h2 : (b ^^^ b') &&& 1 = (b &&& 1) ^^^ (b' &&& 1) := u8_xor_and ..
    have h4 : (b ^^^ b') >>> 1 = (b >>> 1) ^^^ (b' >>> 1) := u8_xor_shr ..
    rw [h2, h4, ← ih]
    congr 1
    rcases h3 b with hb | hb <;> rcases h3 b' with hb' | hb' <;> rw [hb, hb'] <;> simp [UInt8.xor_comm, u8_xor_left_comm, u8_xor_cancel]
theorem gm_xt (n : Nat) : ∀ a b o, gm n (xt a) b (xt o) = xt (gm n a b o) := by
  induction n with
  | zero => intros; rfl
  | succ n ih =>
    intro a b o
    simp only [gm]
    by_cases h : b &&& 1 = 0
    · simp only [h, if_true]; exact ih ..
    · simp only [h, if_false]; rw [← xt_xor]; exact ih ..
theorem gmul_add_left (a a' b : UInt8) : gmul (a ^^^ a') b = gmul a b ^^^ gmul a' b := by
  have := gm_add_left 8 a a' b 0 0; simpa [gmul] using this
theorem gmul_add (a b b' : UInt8) : gmul a (b ^^^ b') = gmul a b ^^^ gmul a b' := by
  have := gm_add_right 8 a b b' 0 0; simpa [gmul] using this
theorem gmul_xt (a b : UInt8) : gmul (xt a) b = xt (gmul a b) := gm_xt 8 a b 0
theorem gmul_zero (a : UInt8) : gmul a 0 = 0 := gm_zero 8 a 0
theorem one_gmul (a : UInt8) : gmul 1 a = a := by
  have := all8 (fun c => gmul 1 c == c) (by decide +kernel) a
  simpa using this
def xts : Nat → UInt8 → UInt8
  | 0, a => a
  | n+1, a => xt (xts n a)
theorem gmul_xts (n : Nat) (a b : UInt8) : gmul (xts n a) b = xts n (gmul a b) := by
  induction n with
  | zero => rfl
  | succ n ih => simp only [xts, gmul_xt, ih]
theorem xts_one (n : Nat) (b : UInt8) : gmul (xts n 1) b = xts n b := by rw [gmul_xts, one_gmul]
theorem byte_ind (P : UInt8 → Prop) (h0 : P 0) (hp : ∀ n, n < 8 → P (xts n 1)) (hx : ∀ a b, P a → P b → P (a ^^^ b)) (a : UInt8) : P a := by
  have hb : ∀ n, n < 8 → P (a &&& xts n 1) := fun n hn => by
    have : a &&& xts n 1 = 0 ∨ a &&& xts n 1 = xts n 1 := by
      have := all8 (fun c => (List.range 8).all fun n => c &&& xts n 1 == 0 || c &&& xts n 1 == xts n 1) (by decide +kernel) a
      rw [List.all_eq_true] at this
      simpa using this n (List.mem_range.2 hn)
    rcases this with h | h <;> rw [h]
    · exact h0
    · exact hp n hn
  have he : a = (a &&& xts 0 1) ^^^ ((a &&& xts 1 1) ^^^ ((a &&& xts 2 1) ^^^ ((a &&& xts 3 1) ^^^ ((a &&& xts 4 1) ^^^ ((a &&& xts 5 1) ^^^ ((a &&& xts 6 1) ^^^ (a &&& xts 7 1))))))) := by
    have := all8 (fun a => a == (a &&& xts 0 1) ^^^ ((a &&& xts 1 1) ^^^ ((a &&& xts 2 1) ^^^ ((a &&& xts 3 1) ^^^ ((a &&& xts 4 1) ^^^ ((a &&& xts 5 1) ^^^ ((a &&& xts 6 1) ^^^ (a &&& xts 7 1)))))))) (by decide +kernel) a
    simpa using this
  rw [he]
  refine hx _ _ (hb 0 (by omega)) (hx _ _ (hb 1 (by omega)) (hx _ _ (hb 2 (by omega)) (hx _ _ (hb 3 (by omega)) (hx _ _ (hb 4 (by omega)) (hx _ _ (hb 5 (by omega)) (hx _ _ (hb 6 (by omega)) (hb 7 (by omega))))))))
theorem gmul_two_pow (a : UInt8) (n : Nat) (hn : n < 8) : gmul a (xts n 1) = xts n a := by
  have : n = 0 ∨ n = 1 ∨ n = 2 ∨ n = 3 ∨ n = 4 ∨ n = 5 ∨ n = 6 ∨ n = 7 := by omega
  have h := all8 (fun c => (List.range 8).all fun n => gmul c (xts n 1) == xts n c) (by decide +kernel) a
  rw [List.all_eq_true] at h
  simpa using h n (List.mem_range.2 hn)
theorem zero_gmul (a : UInt8) : gmul 0 a = 0 := by
  have := gmul_add_left 0 0 a
  simpa using this
theorem gmul_comm (a b : UInt8) : gmul a b = gmul b a := by
  refine byte_ind (fun b => gmul a b = gmul b a) ?_ ?_ ?_ b
  · rw [gmul_zero, zero_gmul]
  · intro n hn; rw [gmul_two_pow a n hn, xts_one]
  · intro x y hx hy; rw [gmul_add, gmul_add_left, hx, hy]
theorem gmul_assoc (a b c : UInt8) : gmul (gmul a b) c = gmul a (gmul b c) := by
  refine byte_ind (fun c => gmul (gmul a b) c = gmul a (gmul b c)) ?_ ?_ ?_ c
  · rw [gmul_zero, gmul_zero, gmul_zero]
  · intro n hn
    rw [gmul_two_pow _ n hn, gmul_two_pow _ n hn, gmul_comm a (xts n b), gmul_xts, gmul_comm b]
  · intro x y hx hy; rw [gmul_add, gmul_add, gmul_add, hx, hy]
theorem gmul_one (a : UInt8) : gmul a 1 = a := by rw [gmul_comm, one_gmul]
def pw (n : Nat) : UInt8 := xts n 1
theorem xts_add (n m : Nat) (a : UInt8) : xts (n + m) a = xts n (xts m a) := by
  induction n with
  | zero => simp [xts]
  | succ n ih => rw [Nat.succ_add]; simp only [xts, ih]
theorem gmul_pw (i j : Nat) : gmul (pw i) (pw j) = pw (i + j) := by rw [pw, xts_one, pw, pw, xts_add]
theorem xts_255 : xts 255 1 = 1 := by decide +kernel
theorem pw_255 (n : Nat) : pw (n + 255) = pw n := by rw [pw, xts_add, xts_255, pw]
theorem pw_mod (n : Nat) : pw (n % 255) = pw n := by
  have h : ∀ k m, pw (m + 255 * k) = pw m := by
    intro k
    induction k with
    | zero => intro m; rfl
    | succ k ih => intro m; rw [show m + 255 * (k + 1) = m + 255 * k + 255 by omega, pw_255, ih]
  rw [← h (n / 255) (n % 255)]
  congr 1
  omega
theorem xt_ne (a : UInt8) (h : a ≠ 0) : xt a ≠ 0 := by
  have := all8 (fun c => c == 0 || xt c != 0) (by decide +kernel) a
  simp only [Bool.or_eq_true, beq_iff_eq, bne_iff_ne] at this
  rcases this with h' | h'
  · exact absurd h' h
  · exact h'
def pws : Nat → UInt8 → List UInt8
  | 0, _ => []
  | n+1, x => x :: pws n (xt x)
theorem pws_get (n : Nat) : ∀ (x : UInt8) (i : Nat), i < n → (pws n x)[i]? = some (xts i x) := by
  induction n with
  | zero => intro x i h; omega
  | succ n ih =>
    intro x i h
    cases i with
    | zero => rfl
    | succ i =>
      simp only [pws, List.getElem?_cons_succ]
      rw [ih _ _ (by omega)]
      have : xts (i + 1) x = xts i (xt x) := by rw [xts_add i 1 x]; rfl
      rw [this]
theorem pws_length (n : Nat) : ∀ x, (pws n x).length = n := by
  induction n with
  | zero => intro; rfl
  | succ n ih => intro x; simp [pws, ih]
theorem pws_nodup : (pws 255 1).Nodup := by decide +kernel
theorem pws_all (a : UInt8) (h : a ≠ 0) : a ∈ pws 255 1 := by
  have := all8 (fun c => c == 0 || (pws 255 1).elem c) (by decide +kernel) a
  simp only [Bool.or_eq_true, beq_iff_eq] at this
  rcases this with h' | h'
  · exact absurd h' h
  · simpa using h'
theorem pw_inj (i j : Nat) (hi : i < 255) (hj : j < 255) (h : pw i = pw j) : i = j := by
  have h1 := pws_get 255 1 i hi
  have h2 := pws_get 255 1 j hj
  have h3 : xts i 1 = xts j 1 := h
  exact (List.getElem?_inj (by rw [pws_length]; exact hi) pws_nodup).1 (by rw [h1, h2, h3])
def lgTo : Nat → UInt8 → Nat
  | 0, _ => 0
  | k+1, a => if pw k = a then k else lgTo k a
def lg (a : UInt8) : Nat := lgTo 255 a
theorem lgTo_pw (k : Nat) : ∀ i, i < k → k ≤ 255 → lgTo k (pw i) = i := by
  induction k with
  | zero => intro i h; omega
  | succ k ih =>
    intro i h hk
    simp only [lgTo]
    split
    · rename_i he; exact pw_inj _ _ (by omega) (by omega) he
    · rename_i he
      have : i ≠ k := by rintro rfl; exact he rfl
      exact ih i (by omega) (by omega)
theorem lg_pw (i : Nat) (h : i < 255) : lg (pw i) = i := lgTo_pw 255 i h (Nat.le_refl _)
theorem pw_lg (a : UInt8) (h : a ≠ 0) : pw (lg a) = a ∧ lg a < 255 := by
  obtain ⟨i, hi, he⟩ := List.getElem_of_mem (pws_all a h)
  rw [pws_length] at hi
  have h1 := pws_get 255 1 i hi
  have h2 : pw i = a := by
    rw [List.getElem?_eq_getElem (by rw [pws_length]; exact hi)] at h1
    simp only [Option.some.injEq] at h1
    rw [pw, ← h1, he]
  rw [← h2, lg_pw i hi]
  exact ⟨rfl, hi⟩
theorem lgTo_lt (k : Nat) (hk : 0 < k) (a : UInt8) : lgTo k a < k := by
  induction k with
  | zero => omega
  | succ k ih =>
    simp only [lgTo]
    split
    · omega
    · rcases Nat.eq_zero_or_pos k with rfl | h
      · simp [lgTo]
      · have := ih h; omega
theorem lg_lt (a : UInt8) : lg a < 255 := lgTo_lt 255 (by omega) a
def powI (n : Int) : UInt8 := pw (n % 255).toNat
theorem powI_add (n m : Int) : powI (n + m) = gmul (powI n) (powI m) := by
  rw [powI, powI, powI, gmul_pw, ← pw_mod (((n % 255).toNat) + _)]
  congr 1
  omega
theorem powI_lg (a : UInt8) (h : a ≠ 0) : powI (lg a) = a := by
  have := lg_lt a
  rw [powI, show ((lg a : Int) % 255).toNat = lg a by omega, (pw_lg a h).1]
def ginv (a : UInt8) : UInt8 := powI (-(lg a : Int))
theorem ginv_mul (a : UInt8) (h : a ≠ 0) : gmul (ginv a) a = 1 := by
  have h2 := powI_lg a h
  have h3 : gmul (powI (-(lg a : Int))) (powI (lg a)) = 1 := by
    rw [← powI_add, show -(lg a : Int) + lg a = 0 by omega]; rfl
  rw [h2] at h3
  exact h3
theorem gmul_ginv (a : UInt8) (h : a ≠ 0) : gmul a (ginv a) = 1 := by rw [gmul_comm, ginv_mul a h]
theorem gmul_eq_zero (a b : UInt8) : gmul a b = 0 ↔ a = 0 ∨ b = 0 := by
  constructor
  · intro h
    by_cases ha : a = 0
    · exact .inl ha
    · right
      have : gmul (ginv a) (gmul a b) = b := by rw [← gmul_assoc, ginv_mul a ha, one_gmul]
      rw [← this, h, gmul_zero]
  · rintro (rfl | rfl)
    · exact zero_gmul _
    · exact gmul_zero _
def sg : Nat → (Nat → UInt8) → UInt8
  | 0, _ => 0
  | n + 1, f => sg n f ^^^ f n
def skip (p j : Nat) : Nat := if j < p then j else j + 1
abbrev Mx := Nat → Nat → UInt8
def mm (k : Nat) (A B : Mx) : Mx := fun i j => sg k fun t => gmul (A i t) (B t j)
def pv : List UInt8 → UInt8 → UInt8
  | [], _ => 0
  | c :: r, x => c ^^^ gmul x (pv r x)
def padd : List UInt8 → List UInt8 → List UInt8
  | [], q => q
  | p, [] => p
  | a :: p, b :: q => (a ^^^ b) :: padd p q
def pscale (c : UInt8) (p : List UInt8) : List UInt8 := p.map (gmul c)
theorem pv_add : ∀ (p q : List UInt8) (x : UInt8), pv (padd p q) x = pv p x ^^^ pv q x
  | [], q, x => by simp [padd, pv]
  | a :: p, [], x => by simp [padd, pv]
  | a :: p, b :: q, x => by simp only [padd, pv, pv_add p q x, gmul_add]; exact xor4 _ _ _ _
theorem pv_scale (c : UInt8) : ∀ (p : List UInt8) (x : UInt8), pv (pscale c p) x = gmul c (pv p x)
  | [], x => by simp [pscale, pv, gmul_zero]
  | a :: p, x => by
    have ih := pv_scale c p x
    unfold pscale at ih ⊢
    simp only [List.map_cons, pv, ih, gmul_add]
    rw [← gmul_assoc, gmul_comm x c, gmul_assoc]
theorem padd_len : ∀ (p q : List UInt8), (padd p q).length = max p.length q.length
  | [], q => by simp [padd]
  | a :: p, [] => by simp [padd]
  | a :: p, b :: q => by simp only [padd, List.length_cons, padd_len p q]; omega
def sy (a : UInt8) : List UInt8 → List UInt8
  | [] => []
  | [_] => []
  | _ :: d :: r => pv (d :: r) a :: sy a (d :: r)
theorem sy_len (a : UInt8) : ∀ p : List UInt8, (sy a p).length = p.length - 1
  | [] => rfl
  | [_] => rfl
  | _ :: d :: r => by have := sy_len a (d :: r); simp only [sy, List.length_cons] at *; omega
theorem sy_is (a x : UInt8) : ∀ p : List UInt8, pv p x = gmul (x ^^^ a) (pv (sy a p) x) ^^^ pv p a
  | [] => by simp [pv, sy, gmul_zero]
  | [c] => by simp [pv, sy, gmul_zero]
  | c :: d :: r => by
    have ih := sy_is a x (d :: r)
    have e1 : pv (c :: d :: r) x = c ^^^ gmul x (pv (d :: r) x) := rfl
    have e2 : pv (c :: d :: r) a = c ^^^ gmul a (pv (d :: r) a) := rfl
    have e3 : pv (sy a (c :: d :: r)) x = pv (d :: r) a ^^^ gmul x (pv (sy a (d :: r)) x) := rfl
    rw [e1, e2, e3, ih]
    generalize pv (sy a (d :: r)) x = q
    generalize pv (d :: r) a = v
    rw [gmul_add, gmul_add, gmul_add_left x a v]
    have e4 : gmul x (gmul (x ^^^ a) q) = gmul (x ^^^ a) (gmul x q) := by rw [← gmul_assoc, gmul_comm x, gmul_assoc]
    rw [e4]
    generalize gmul (x ^^^ a) (gmul x q) = s
    generalize gmul x v = t
    generalize gmul a v = u
    -- c ^ (s ^ t) = ((t ^ u) ^ s) ^ (c ^ u)
    rw [UInt8.xor_comm s t]
    rw [show (t ^^^ u) ^^^ s ^^^ (c ^^^ u) = (t ^^^ s) ^^^ (u ^^^ (c ^^^ u)) by rw [UInt8.xor_assoc t u s, UInt8.xor_comm u s, ← UInt8.xor_assoc t s u, UInt8.xor_assoc (t ^^^ s)]]
    rw [show u ^^^ (c ^^^ u) = c by rw [UInt8.xor_comm c u, u8_xor_cancel], UInt8.xor_comm]
theorem xor_zero_iff {a b : UInt8} : a ^^^ b = 0 ↔ a = b := by
  constructor
  · intro h
    have := u8_xor_cancel a b
    rw [h, UInt8.xor_zero] at this; exact this
  · rintro rfl; exact UInt8.xor_self
theorem sy_zero (a : UInt8) : ∀ p : List UInt8, (∀ c, c ∈ sy a p → c = 0) → pv p a = 0 → ∀ c, c ∈ p → c = 0
  | [], _, _, c, h => by simp at h
  | [b], _, h, c, hc => by
    simp at hc; subst hc
    simpa [pv, gmul_zero] using h
  | b :: d :: r, hs, h, c, hc => by
    have h1 : pv (d :: r) a = 0 := hs _ (by simp [sy])
    have ih := sy_zero a (d :: r) (fun x hx => hs x (by simp only [sy, List.mem_cons]; exact .inr hx)) h1
    have e : pv (b :: d :: r) a = b ^^^ gmul a (pv (d :: r) a) := rfl
    rw [e, h1, gmul_zero, UInt8.xor_zero] at h
    rcases List.mem_cons.1 hc with rfl | hc
    · exact h
    · exact ih c hc
theorem roots_coef : ∀ (xs p : List UInt8), p.length ≤ xs.length → xs.Nodup → (∀ x, x ∈ xs → pv p x = 0) → ∀ c, c ∈ p → c = 0
  | [], p, hl, _, _, c, hc => by
    have : p = [] := List.eq_nil_of_length_eq_zero (by simpa using hl)
    subst this; simp at hc
  | a :: xs, p, hl, hn, hr, c, hc => by
    have ha := hr a (by simp)
    refine sy_zero a p (roots_coef xs (sy a p) (by rw [sy_len]; simp at hl; omega) (List.nodup_cons.1 hn).2 fun b hb => ?_) ha c hc
    have h1 := sy_is a b p
    rw [hr b (by simp [hb]), ha, UInt8.xor_zero] at h1
    rcases (gmul_eq_zero _ _).1 h1.symm with h2 | h2
    · have : b = a := xor_zero_iff.1 h2
      subst this; exact absurd hb (List.nodup_cons.1 hn).1
    · exact h2
def Trimmed (p : List UInt8) : Prop := ∀ c, p.getLast? = some c → c ≠ 0
theorem padd_zero : ∀ {p q : List UInt8}, Trimmed p → Trimmed q → (∀ c, c ∈ padd p q → c = 0) → p = q
  | [], [], _, _, _ => rfl
  | [], b :: q, _, hq, h => by
    exfalso
    have : padd [] (b :: q) = b :: q := rfl
    rw [this] at h
    have hl := List.getLast?_eq_some_getLast (l := b :: q) (by simp)
    exact hq _ hl (h _ (List.getLast_mem _))
  | a :: p, [], hp, _, h => by
    exfalso
    have : padd (a :: p) [] = a :: p := rfl
    rw [this] at h
    have hl := List.getLast?_eq_some_getLast (l := a :: p) (by simp)
    exact hp _ hl (h _ (List.getLast_mem _))
  | a :: p, b :: q, hp, hq, h => by
    simp only [padd, List.mem_cons] at h
    have hab : a = b := xor_zero_iff.1 (h _ (.inl rfl))
    have tail : ∀ {x : UInt8} {l : List UInt8}, Trimmed (x :: l) → Trimmed l := fun {x l} ht c hc => by
      cases l with
      | nil => simp at hc
      | cons y r => exact ht c (by rw [List.getLast?_cons_cons]; exact hc)
    rw [hab, padd_zero (tail hp) (tail hq) fun c hc => h c (.inr hc)]
def bytes : List UInt8 := (List.range 256).map UInt8.ofNat
theorem told {p q xs : List UInt8} (hp : Trimmed p) (hq : Trimmed q) (lp : p.length ≤ xs.length) (lq : q.length ≤ xs.length) (hn : xs.Nodup) (h : ∀ x, x ∈ xs → pv p x = pv q x) : p = q :=
  padd_zero hp hq (roots_coef xs (padd p q) (by rw [padd_len]; omega) hn fun x hx => by rw [pv_add, h x hx, UInt8.xor_self])
def trimP (p : List UInt8) : List UInt8 := (p.reverse.dropWhile (· == 0)).reverse
theorem trimP_snoc (p : List UInt8) (c : UInt8) : trimP (p ++ [c]) = if c = 0 then trimP p else p ++ [c] := by
  unfold trimP
  rw [List.reverse_append, List.reverse_singleton, List.singleton_append, List.dropWhile_cons]
  by_cases h : c = 0
  · subst h; simp
  · rw [if_neg (by simpa using h), if_neg h]; simp
theorem pv_snoc0 : ∀ (p : List UInt8) (x : UInt8), pv (p ++ [0]) x = pv p x
  | [], x => by simp [pv, gmul_zero]
  | c :: p, x => by simp only [List.cons_append, pv, pv_snoc0 p x]
theorem rev_ind {P : List UInt8 → Prop} (h0 : P []) (h1 : ∀ p c, P p → P (p ++ [c])) (p : List UInt8) : P p := by
  have : ∀ q : List UInt8, P q.reverse := fun q => by
    induction q with
    | nil => exact h0
    | cons c q ih => rw [List.reverse_cons]; exact h1 _ c ih
  have := this p.reverse; rwa [List.reverse_reverse] at this
theorem trimP_ok (p : List UInt8) : Trimmed (trimP p) ∧ (trimP p).length ≤ p.length ∧ ∀ x, pv (trimP p) x = pv p x := by
  refine rev_ind (P := fun p => Trimmed (trimP p) ∧ (trimP p).length ≤ p.length ∧ ∀ x, pv (trimP p) x = pv p x) ⟨fun c h => by simp [trimP] at h, by simp [trimP], fun x => rfl⟩ (fun p c ⟨h1, h2, h3⟩ => ?_) p
  rw [trimP_snoc]
  by_cases h : c = 0
  · rw [if_pos h]
    refine ⟨h1, by simp; omega, fun x => ?_⟩
    subst h; rw [pv_snoc0, h3]
  · rw [if_neg h]
    refine ⟨fun d hd => ?_, Nat.le_refl _, fun _ => rfl⟩
    rw [List.getLast?_append] at hd
    simp at hd; subst hd; exact h
theorem trimP_id {p : List UInt8} (h : Trimmed p) : trimP p = p := by
  refine rev_ind (P := fun p => Trimmed p → trimP p = p) (fun _ => rfl) (fun p c _ h => ?_) p h
  rw [trimP_snoc, if_neg (h c (by simp))]
def pmul : List UInt8 → List UInt8 → List UInt8
  | [], _ => []
  | c :: p, q => padd (pscale c q) (0 :: pmul p q)
theorem pmul_len : ∀ (p q : List UInt8), p ≠ [] → q ≠ [] → (pmul p q).length + 1 = p.length + q.length
  | [], q, h, _ => absurd rfl h
  | [c], q, _, hq => by
    cases q with
    | nil => exact absurd rfl hq
    | cons b q => simp [pmul, padd_len, pscale]; omega
  | c :: d :: p, q, _, hq => by
    have ih := pmul_len (d :: p) q (by simp) hq
    show (padd (pscale c q) (0 :: pmul (d :: p) q)).length + 1 = _
    rw [padd_len]
    simp only [pscale, List.length_map, List.length_cons] at *
    omega
theorem few_roots {p xs : List UInt8} (hp : Trimmed p) (h0 : p ≠ []) (hn : xs.Nodup) (h : ∀ x, x ∈ xs → pv p x = 0) : xs.length < p.length := by
  refine Nat.not_le.1 fun hl => ?_
  have hz := roots_coef xs p hl hn h
  have hlast := List.getLast?_eq_some_getLast h0
  exact hp _ hlast (hz _ (List.getLast_mem h0))
end Go.Proofs.Ytemkmgnmibpamaa
