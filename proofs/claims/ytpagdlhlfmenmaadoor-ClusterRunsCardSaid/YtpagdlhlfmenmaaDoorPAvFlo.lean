/- Regions that draw their order, where a call upon the own memory stands free of operations that only compute or look. No condition. -/
import Derived.Test.YtpagdlhlfmenmaaDoorPAvSide
set_option linter.unusedSimpArgs false
set_option linter.unusedVariables false
set_option maxRecDepth 100000
namespace Go.Proofs.YtpagdlhlfmenmaaDoor
open Go.RowKit
inductive Src0 where
  | old (id : Nat) (raw : Bool)
  | new (sz : Nat)
def newOf : List Src0 → Nat → Nat → Option Nat
  | [], _, _ => none
  | .old i _ :: r, j, id => bif Nat.beq i id then some j else newOf r (j + 1) id
  | .new _ :: r, j, id => newOf r (j + 1) id
def ren (ρ : Nat → Option Nat) : Nat → AV → AV
  | 0, _ => .dead
  | d + 1, .agg cs => .agg (cs.map (ren ρ d))
  | d + 1, .tup cs => .tup (cs.map (ren ρ d))
  | d + 1, .fn f cs => .fn f (cs.map (ren ρ d))
  | d + 1, .bf f cs => .bf f (cs.map (ren ρ d))
  | d + 1, .yld r cs => .yld r (cs.map (ren ρ d))
  | _ + 1, .ref id sz i o => match ρ id with
    | some j => .ref j sz i o
    | none => .dead
  | _ + 1, .own id sz off n => match ρ id with
    | some j => .own j sz off n
    | none => .dead
  | _ + 1, .mp id => match ρ id with
    | some j => .mp j
    | none => .dead
  | _ + 1, a => a
def renB (ρ : Nat → Option Nat) (B : Bk) : Bk := ⟨B.sz, B.els.map fun cs => cs.map (ren ρ 3)⟩
def rhoOf (m : List (Option Bk)) (src : List Src0) (id : Nat) : Option Nat := bif (look m id).isSome then newOf src 0 id else none
def renS (ρ : Nat → Option Nat) (src : List Src0) (es : List (Nat × Nat)) (j : Nat) (a : AV) : AV :=
  match a, es.lookup j with
  | .emp, some i => match src[i]? with
    | some (.new sz) => .own i sz 0 0
    | _ => .emp
  | a, _ => ren ρ 4 a
def blkOf (m : List (Option Bk)) (src : List Src0) : Src0 → Option Bk
  | .old i raw => (look m i).map fun B => bif raw then B else renB (rhoOf m src) B
  | .new sz => some ⟨sz, []⟩
def srcOK (k0 : Nat) (src : List Src0) : Bool :=
  (List.range src.length).all (fun i => match src[i]? with
    | some (.old id _) => match newOf src 0 id with
      | some j => Nat.beq j i
      | none => false
    | some (.new sz) => Nat.ble 1 sz
    | _ => true) && (List.range k0).all fun i => match src[i]? with
    | some (.old id _) => Nat.beq id i
    | _ => false
def normL (k0 : Nat) (live : List Nat) (src : List Src0) (es : List (Nat × Nat)) (x : L3) : Option L3 :=
  bif srcOK k0 src then some ⟨live.map fun j => (j, renS (rhoOf x.m src) src es j (slot x.t j)), src.map (blkOf x.m src)⟩ else none
def lnOf (ln : Nat → Nat) : Option Src0 → Nat
  | some (.old id _) => ln id
  | _ => 0
def locOf (loc : Nat → Option Nat) : Option Src0 → Option Nat
  | some (.old id _) => loc id
  | _ => none
theorem emp_inv {E : Env} {v : Value} (h : Rep E v .emp) : ∃ A, v = .slice A 0 0 := by
  cases h with
  | emp => exact ⟨_, rfl⟩
theorem newOf_src : ∀ (src : List Src0) (k id j : Nat), newOf src k id = some j → k ≤ j ∧ ∃ raw, src[j - k]? = some (.old id raw)
  | [], k, id, j, h => by simp [newOf] at h
  | .old i raw :: r, k, id, j, h => by
    simp only [newOf] at h
    cases hb : Nat.beq i id with
    | true =>
      rw [hb] at h
      simp only [cond_true, Option.some.injEq] at h
      subst h
      have := Nat.eq_of_beq_eq_true hb
      subst this
      exact ⟨by omega, raw, by simp⟩
    | false =>
      rw [hb, cond_false] at h
      obtain ⟨h1, h2⟩ := newOf_src r (k + 1) id j h
      refine ⟨by omega, ?_⟩
      rw [show j - k = (j - (k + 1)) + 1 by omega, List.getElem?_cons_succ]
      exact h2
  | .new _ :: r, k, id, j, h => by
    simp only [newOf] at h
    obtain ⟨h1, h2⟩ := newOf_src r (k + 1) id j h
    refine ⟨by omega, ?_⟩
    rw [show j - k = (j - (k + 1)) + 1 by omega, List.getElem?_cons_succ]
    exact h2
theorem slot_map (G : Nat → AV) : ∀ (live : List Nat) (i : Nat), slot (live.map fun j => (j, G j)) i = G i ∨ slot (live.map fun j => (j, G j)) i = .dead
  | [], i => .inr rfl
  | j :: r, i => by
    simp only [List.map_cons, slot]
    cases hb : Nat.beq i j with
    | true =>
      have := Nat.eq_of_beq_eq_true hb
      subst this
      exact .inl rfl
    | false => exact slot_map G r i
theorem look_map (m : List (Option Bk)) (src : List Src0) (i : Nat) : look (src.map (blkOf m src)) i = (src[i]?).bind (blkOf m src) := by
  unfold look
  rw [List.getElem?_map]
  cases src[i]? <;> simp
section
variable {E E' : Env} {ρ : Nat → Option Nat}
theorem ren_rep (hI : E'.I = E.I) (hw : E'.w = E.w) (hg : ∀ l, E.rg l → E'.rg l) (hρ : ∀ id j, ρ id = some j → E'.kn j ∧ ¬ E'.dead j ∧ E'.loc j = E.loc id ∧ ¬ E.dead id ∧ E'.ln j = E.ln id) : ∀ (d : Nat) {v : Value} {a : AV}, Rep E v a → Rep E' v (ren ρ d a) := by
  have hp : ∀ {v : Value} {a : AV}, Rep E v a → Pu a → Rep E' v a := fun h hp => h.pure (fun b hb => ⟨by rw [hI]; exact hb, fun o => by rw [hw]⟩) hp
  intro d
  induction d with
  | zero => intro v a h; exact .dead
  | succ d ih =>
    have ihm : ∀ {vs : Array Value} {cs : List AV}, vs.size = cs.length → (∀ (i : Nat) v c, vs[i]? = some v → cs[i]? = some c → Rep E v c) → vs.size = (cs.map (ren ρ d)).length ∧ ∀ (i : Nat) v c, vs[i]? = some v → (cs.map (ren ρ d))[i]? = some c → Rep E' v c := by
      intro vs cs hl h
      refine ⟨by simpa using hl, fun i v c hv hc => ?_⟩
      rw [List.getElem?_map, Option.map_eq_some_iff] at hc
      obtain ⟨c0, hc0, rfl⟩ := hc
      exact ih (h i v c0 hv hc0)
    intro v a h
    cases a with
    | v x => exact hp h .v
    | agg cs => cases h with | agg hl hh => obtain ⟨q1, q2⟩ := ihm hl hh; exact .agg q1 q2
    | tup cs => cases h with | tup hl hh => obtain ⟨q1, q2⟩ := ihm hl hh; exact .tup q1 q2
    | fn f cs => cases h with | fn hl hh => obtain ⟨q1, q2⟩ := ihm hl hh; exact .fn q1 q2
    | bf f cs => cases h with | bf hl hh => obtain ⟨q1, q2⟩ := ihm hl hh; exact .bf q1 q2
    | yld r cs => cases h with | yld h1 h2 h3 hl hh => obtain ⟨q1, q2⟩ := ihm hl hh; exact .yld (hg _ h1) (by rw [hI]; exact h2) (by rw [hw]; exact h3) q1 q2
    | lst sz els => exact hp h .lst
    | tls sz els => exact hp h .tls
    | emp => exact hp h .emp
    | pim cs o => exact hp h .pim
    | anyb => exact hp h .anyb
    | dead => exact .dead
    | ref id sz i o =>
      simp only [ren]
      cases hr : ρ id with
      | none => exact .dead
      | some j =>
        obtain ⟨r1, r2, r3, r4, r5⟩ := hρ id j hr
        cases h with
        | ref hi hd hb hq => exact .ref r1 r2 (r3.trans hb) hq
        | staleR hi hd ho => exact absurd hd r4
    | own id sz off n =>
      simp only [ren]
      cases hr : ρ id with
      | none => exact .dead
      | some j =>
        obtain ⟨r1, r2, r3, r4, r5⟩ := hρ id j hr
        cases h with
        | own hi hd hb hq hs hm hl hc hln => exact .own r1 r2 (r3.trans hb) hq (by rw [hw]; exact hs) hm hl hc (by rw [r5]; exact hln)
        | own0 hi hd hb hln => exact .own0 r1 r2 (r3.trans hb) (r5.trans hln)
        | staleO hi hd ho => exact absurd hd r4
    | mp id =>
      simp only [ren]
      cases hr : ρ id with
      | none => exact .dead
      | some j =>
        obtain ⟨r1, r2, r3, r4, r5⟩ := hρ id j hr
        cases h with
        | mp hi hd hb => exact .mp r1 r2 (r3.trans hb)
        | staleP hi hd ho => exact absurd hd r4
end
def PuS (m : List (Option Bk)) : List Src0 → Prop
  | [] => True
  | .old id true :: r => (∃ (α : Type) (f : α → List AV) (xs : List α) (sz : Nat), look m id = some ⟨sz, xs.map f⟩ ∧ ∀ y, (f y).all AV.pu1 = true) ∧ PuS m r
  | _ :: r => PuS m r
abbrev PuE (m : List (Option Bk)) (id : Nat) : Prop := ∃ (α : Type) (f : α → List AV) (xs : List α) (sz : Nat), look m id = some ⟨sz, xs.map f⟩ ∧ ∀ y, (f y).all AV.pu1 = true
theorem pu {α : Type} {m : List (Option Bk)} {id : Nat} (sz : Nat) (f : α → List AV) (xs : List α) (h : look m id = some ⟨sz, xs.map f⟩) (hp : ∀ y, (f y).all AV.pu1 = true) : PuE m id := ⟨α, f, xs, sz, h, hp⟩
theorem PuS.get {m : List (Option Bk)} : ∀ {src : List Src0}, PuS m src → ∀ (i id : Nat), src[i]? = some (.old id true) → ∀ B, look m id = some B → ∀ cs, cs ∈ B.els → ∀ c, c ∈ cs → Pu c
  | [], _, i, id, h, B, hB, cs, hcs, c, hc => by simp at h
  | .new _ :: r, hp, i, id, h, B, hB, cs, hcs, c, hc => by
    cases i with
    | zero => simp at h
    | succ i => exact PuS.get (src := r) hp i id (by simpa using h) B hB cs hcs c hc
  | .old _ false :: r, hp, i, id, h, B, hB, cs, hcs, c, hc => by
    cases i with
    | zero => simp at h
    | succ i => exact PuS.get (src := r) hp i id (by simpa using h) B hB cs hcs c hc
  | .old _ true :: r, hp, i, id, h, B, hB, cs, hcs, c, hc => by
    cases i with
    | zero =>
      simp only [List.getElem?_cons_zero, Option.some.injEq, Src0.old.injEq, and_true] at h
      subst h
      obtain ⟨⟨α, f, xs, sz, h1, h2⟩, _⟩ := hp
      rw [h1] at hB
      simp only [Option.some.injEq] at hB
      subst hB
      simp only [List.mem_map] at hcs
      obtain ⟨y, _, rfl⟩ := hcs
      have := h2 y
      simp only [List.all_eq_true] at this
      exact AV.pu1_pu (this c hc)
    | succ i => exact PuS.get (src := r) hp.2 i id (by simpa using h) B hB cs hcs c hc
theorem Mk.same {E E' : Env} (hI : E'.I = E.I) (hw : E'.w = E.w) {lo : Nat} {ds : List Deferred} (h : Mk E lo ds) : Mk E' lo ds := by
  induction h with
  | nil => exact .nil
  | cons h1 hD hh hne t ih => exact .cons (by rw [hI]; exact h1) hD (by rw [hw]; exact hh) hne ih
theorem norm_le {n k0 : Nat} {live : List Nat} {src : List Src0} {es : List (Nat × Nat)} {x y : L3} (h : normL k0 live src es x = some y) (hpu : PuS x.m src) : x.s.Le k0 n y.s := by
  have hp := hpu.get
  unfold normL at h
  cases hok : srcOK k0 src with
  | false => rw [hok] at h; simp at h
  | true =>
  rw [hok, cond_true, Option.some.injEq] at h
  subst h
  simp only [srcOK, Bool.and_eq_true, List.all_eq_true, List.mem_range] at hok
  obtain ⟨ok1, ok2⟩ := hok
  have inj : ∀ i id raw, src[i]? = some (.old id raw) → newOf src 0 id = some i := by
    intro i id raw hi
    have hlt : i < src.length := (List.getElem?_eq_some_iff.1 hi).1
    have := ok1 i hlt
    rw [hi] at this
    simp only at this
    cases hn : newOf src 0 id with
    | none => rw [hn] at this; simp at this
    | some j => rw [hn] at this; simp only at this; rw [Nat.eq_of_beq_eq_true this]
  have low : ∀ i, i < k0 → ∃ raw, src[i]? = some (.old i raw) := by
    intro i hi
    have := ok2 i hi
    cases hs : src[i]? with
    | none => rw [hs] at this; simp at this
    | some q =>
      cases q with
      | old id raw => rw [hs] at this; simp only at this; exact ⟨raw, by rw [Nat.eq_of_beq_eq_true this]⟩
      | new sz => rw [hs] at this; simp at this
  intro E0 J base w0 a w hk hr
  obtain ⟨E, rfl, hle, hs, hm, hkn, hmk⟩ := hr.ex
  let E' : Env := { w := E.w, kn := fun i => i < src.length, loc := fun i => locOf E.loc (src[i]?), dead := fun i => look (src.map (blkOf x.m src)) i = none, I := E.I, ln := fun i => lnOf E.ln (src[i]?), rg := E.rg }
  have hlive : ∀ id, look x.m id ≠ none → E.kn id ∧ ¬ E.dead id := fun id hid => by
    obtain ⟨B, hB⟩ := Option.ne_none_iff_exists'.1 hid
    exact (hm.live id).2 ⟨B, hB⟩
  have hρ : ∀ id j, rhoOf x.m src id = some j → E'.kn j ∧ ¬ E'.dead j ∧ E'.loc j = E.loc id ∧ ¬ E.dead id ∧ E'.ln j = E.ln id := by
    intro id j hj
    unfold rhoOf at hj
    cases hB : look x.m id with
    | none => rw [hB] at hj; simp at hj
    | some B =>
      rw [hB] at hj
      simp only [Option.isSome_some, cond_true] at hj
      obtain ⟨_, raw, h2⟩ := newOf_src src 0 id j hj
      simp only [Nat.sub_zero] at h2
      refine ⟨(List.getElem?_eq_some_iff.1 h2).1, ?_, ?_, (hlive id (by rw [hB]; simp)).2, by show lnOf E.ln (src[j]?) = _; rw [h2]; rfl⟩
      · show ¬ look _ j = none
        rw [look_map, h2]; simp [blkOf, hB]
      · show locOf E.loc (src[j]?) = _
        rw [h2]; rfl
  have hR : ∀ (d : Nat) {v : Value} {a : AV}, Rep E v a → Rep E' v (ren (rhoOf x.m src) d a) := ren_rep (E := E) (E' := E') rfl rfl (fun _ h => h) hρ
  have hget : ∀ i B', look (src.map (blkOf x.m src)) i = some B' → (∃ id raw B, src[i]? = some (.old id raw) ∧ look x.m id = some B ∧ B' = (bif raw then B else renB (rhoOf x.m src) B) ∧ E'.loc i = E.loc id) ∨ (∃ sz, src[i]? = some (.new sz) ∧ B' = ⟨sz, []⟩ ∧ E'.loc i = none) := by
    intro i B' hB'
    rw [look_map] at hB'
    cases hsi : src[i]? with
    | none => rw [hsi] at hB'; simp at hB'
    | some q =>
      rw [hsi] at hB'
      cases q with
      | old id raw =>
        simp only [Option.bind_some, blkOf, Option.map_eq_some_iff] at hB'
        obtain ⟨B, hB, rfl⟩ := hB'
        refine .inl ⟨id, raw, B, rfl, hB, rfl, ?_⟩
        show locOf E.loc (src[i]?) = _
        rw [hsi]; rfl
      | new sz =>
        simp only [Option.bind_some, blkOf, Option.some.injEq] at hB'
        subst hB'
        refine .inr ⟨sz, rfl, rfl, ?_⟩
        show locOf E.loc (src[i]?) = _
        rw [hsi]; rfl
  have hM : MemAt E' J base (look (src.map (blkOf x.m src))) := by
    refine ⟨fun i => ?_, fun i B' hB' => ?_, fun i i' b B1 B2 h1 h2 h3 h4 => ?_, fun i b B' hB' hl => ?_, hm.low, hm.size, fun i B' hB' hzz => ?_, hm.rgb⟩
    · show (i < src.length ∧ ¬ look _ i = none) ↔ _
      constructor
      · rintro ⟨_, h2⟩
        exact Option.ne_none_iff_exists'.1 h2
      · rintro ⟨B, hB⟩
        refine ⟨?_, by rw [hB]; simp⟩
        rw [look_map] at hB
        cases hsi : src[i]? with
        | none => rw [hsi] at hB; simp at hB
        | some q => exact (List.getElem?_eq_some_iff.1 hsi).1
    · rcases hget i B' hB' with ⟨id, raw, B, e1, e2, hBB, e4⟩ | ⟨sz, e1, rfl, e3⟩
      · rw [e4]
        have := hm.at_ id B e2
        have hsz : B'.sz = B.sz ∧ B'.els.length = B.els.length := by subst hBB; cases raw <;> simp [renB]
        have hel : ∀ (i : Nat) cs', B'.els[i]? = some cs' → ∃ cs, B.els[i]? = some cs ∧ cs'.length = cs.length ∧ ∀ (j : Nat) c', cs'[j]? = some c' → ∃ c, cs[j]? = some c ∧ ∀ u, Rep E u c → Rep E' u c' := by
          subst hBB
          cases raw with
          | true =>
            intro i' cs hi
            refine ⟨cs, hi, rfl, fun j c hj => ⟨c, hj, fun u hu => ?_⟩⟩
            exact Rep.pure (E := E) (E' := E') (fun b hb => ⟨hb, fun _ => rfl⟩) hu (hp i id e1 B e2 cs (List.mem_of_getElem? hi) c (List.mem_of_getElem? hj))
          | false =>
            intro i' cs' hi
            simp only [cond_false, renB, List.getElem?_map, Option.map_eq_some_iff] at hi
            obtain ⟨cs, hcs, rfl⟩ := hi
            refine ⟨cs, hcs, by simp, fun j c' hj => ?_⟩
            rw [List.getElem?_map, Option.map_eq_some_iff] at hj
            obtain ⟨c, hc, rfl⟩ := hj
            exact ⟨c, hc, fun u hu => hR 3 hu⟩
        cases hl : E.loc id with
        | none =>
          rw [hl] at this
          show B'.els = []
          have h0 : B.els = [] := this
          have := hsz.2
          rw [h0] at this
          exact List.eq_nil_of_length_eq_zero this
        | some b =>
          rw [hl] at this
          obtain ⟨q1, ⟨hz, arr, t, q2, q3, q4⟩ | ⟨hz, ent, clock, q2, q3, q4⟩⟩ := this
          · refine .ofCells ⟨q1, arr, t, q2, by rw [hsz.1, hsz.2]; exact q3, fun i cs' hi => ?_⟩ (by rw [hsz.1]; exact hz)
            obtain ⟨cs, hcs, hlen, hcell⟩ := hel i cs' hi
            obtain ⟨p1, p2⟩ := q4 i cs hcs
            refine ⟨by rw [hlen, hsz.1]; exact p1, fun j c' hj => ?_⟩
            obtain ⟨c, hc, hrep⟩ := hcell j c' hj
            obtain ⟨u, u1, u2, u3⟩ := p2 j c hc
            exact ⟨u, by rw [hsz.1]; exact u1, u2, hrep u u3⟩
          · refine .ofMap ⟨q1, ent, clock, q2, by rw [hsz.2]; exact q3, fun i' e cs' he hi => ?_⟩ (by rw [hsz.1]; exact hz)
            subst hBB
            cases raw with
            | true =>
              obtain ⟨y, k1, k2, k3⟩ := q4 i' e cs' he hi
              refine ⟨y, k1, k2, Rep.pure (E := E) (E' := E') (fun b hb => ⟨hb, fun _ => rfl⟩) k3 (hp i id e1 B e2 cs' (List.mem_of_getElem? hi) y (by rw [k1]; simp))⟩
            | false =>
              simp only [cond_false, renB, List.getElem?_map, Option.map_eq_some_iff] at hi
              obtain ⟨cs, hcs, rfl⟩ := hi
              obtain ⟨y, rfl, k2, k3⟩ := q4 i' e cs he hcs
              exact ⟨ren (rhoOf x.m src) 3 y, rfl, k2, hR 3 k3⟩
      · rw [e3]; rfl
    · rcases hget i B1 h1 with ⟨id, raw, B, e1, e2, _, e4⟩ | ⟨sz, _, _, e3⟩
      · rcases hget i' B2 h2 with ⟨id', raw', B', f1, f2, _, f4⟩ | ⟨sz, _, _, f3⟩
        · rw [e4] at h3; rw [f4] at h4
          have := hm.apart id id' b B B' e2 f2 h3 h4
          subst this
          have a1 := inj i id raw e1
          have a2 := inj i' id raw' f1
          rw [a1] at a2
          exact Option.some.inj a2
        · rw [f3] at h4; simp at h4
      · rw [e3] at h3; simp at h3
    · rcases hget i B' hB' with ⟨id, raw, B, e1, e2, _, e4⟩ | ⟨sz, _, _, e3⟩
      · rw [e4] at hl; exact hm.out id b B e2 hl
      · rw [e3] at hl; simp at hl
    · show _ = lnOf E.ln (src[i]?)
      rcases hget i B' hB' with ⟨id, raw, B, e1, e2, e3, e4⟩ | ⟨sz, e1, e2, e3⟩
      · rw [e1]; show _ = E.ln id
        rw [← hm.len id B e2 (by subst e3; cases raw <;> simpa [renB] using hzz), e3]; cases raw <;> simp [renB]
      · rw [e1, e2]; rfl
  have hE0 : E0.Le E' := by
    have locE : ∀ id, E0.kn id → E'.loc id = E.loc id := fun id hid => by
      show locOf E.loc (src[id]?) = _
      obtain ⟨raw, hl⟩ := low id (hk id hid)
      rw [hl]; rfl
    have deadE : ∀ id, E0.kn id → E.dead id → E'.dead id := fun id hid hd => by
      show look _ id = none
      obtain ⟨raw, hl⟩ := low id (hk id hid)
      rw [look_map, hl]
      cases hB : look x.m id with
      | none => simp [blkOf, hB]
      | some B => exact absurd hd (hlive id (by rw [hB]; simp)).2
    refine ⟨fun id hid => (low id (hk id hid)).elim fun _ hl => (List.getElem?_eq_some_iff.1 hl).1, hle.imm, fun id hid hd => deadE id hid (hle.dead id hid hd), fun id hid hd => ?_, fun id b hid hd hb => ?_, fun id hid hd => ?_, hle.rg⟩
    · rcases hle.loc id hid hd with h | h
      · exact .inl (deadE id hid h)
      · exact .inr ((locE id hid).trans h)
    · rcases hle.shape id b hid hd hb with h | h
      · exact .inl (deadE id hid h)
      · exact .inr h
    · rcases hle.ln id hid hd with h | h
      · exact .inl (deadE id hid h)
      · refine .inr (Eq.trans ?_ h)
        show lnOf E.ln (src[id]?) = _
        obtain ⟨raw, hl⟩ := low id (hk id hid)
        rw [hl]; rfl
  have hmk' : Mk E' w0.heap.size a.defers := Mk.same (E := E) (E' := E') rfl rfl hmk
  refine ⟨⟨E', rfl, hE0, fun t => ?_, hM, fun id hid => ?_, hmk'⟩, hr.size, hr.below, hr.gl⟩
  · show Rep E' _ (slot (live.map fun j => (j, renS (rhoOf x.m src) src es j (slot x.t j))) t)
    rcases slot_map (fun j => renS (rhoOf x.m src) src es j (slot x.t j)) live t with h | h
    · rw [h]
      have ht := hs t
      have ht' : Rep E (a.tmps.getD t undef) (slot x.t t) := ht
      have hdef : Rep E' (a.tmps.getD t undef) (ren (rhoOf x.m src) 4 (slot x.t t)) := hR 4 ht'
      unfold renS
      split
      · rename_i i he hl
        rw [he] at ht'
        split
        · rename_i sz hsz
          obtain ⟨A, hA⟩ := emp_inv ht'
          rw [hA]
          have hB' : look (src.map (blkOf x.m src)) i = some ⟨sz, []⟩ := by rw [look_map, hsz]; rfl
          have hz : sz ≠ 0 := by
            have := ok1 i (List.getElem?_eq_some_iff.1 hsz).1
            rw [hsz] at this
            have := Nat.le_of_ble_eq_true this
            omega
          refine .own0 (List.getElem?_eq_some_iff.1 hsz).1 (by show ¬ look _ i = none; rw [hB']; simp) ?_ ?_
          · show locOf E.loc (src[i]?) = _
            rw [hsz]; rfl
          · show lnOf E.ln (src[i]?) = _
            rw [hsz]; rfl
        · obtain ⟨A, hA⟩ := emp_inv ht'
          rw [hA]
          exact .emp
      · exact hdef
    · rw [h]; exact .dead
  · show id < (src.map _).length
    rw [List.length_map]; exact hid
section
variable {P : Program} {n k0 : Nat} {x : L3} {Q : Ex → L3 → Prop}
end
section
variable {g : Nat → Option Bk}
theorem run_bind_some {α β : Type} {f : α → RM β} {m : RM α} {a : α} {b : β} (h : m.run g = some a) (h2 : (f a).run g = some b) : (m.bind f).run g = some b := by rw [(run_bind m h).1]; exact h2
theorem snap1_map {α : Type} (f : α → List AV) (xs : List α) {id sz n : Nat} (hB : g id = some ⟨sz, xs.map f⟩) (hp : ∀ y, (f y).all AV.pu1 = true) (hn : n = xs.length) : (snap1 (.own id sz 0 n)).run g = some (.lst sz (xs.map f)) := by
  subst hn
  have hc : (content sz (.own id sz 0 xs.length)).run g = some (xs.map f) := by
    simp [content, RM.run, hB]
    exact List.take_of_length_le (by simp)
  have : (snap1 (.own id sz 0 xs.length)) = (content sz (.own id sz 0 xs.length)).bind fun els => if (els.all fun cs => cs.all AV.pu1) = true then .ret (.lst sz els) else .fail := rfl
  rw [this]
  refine run_bind_some hc ?_
  have hall : ((xs.map f).all fun cs => cs.all AV.pu1) = true := by simpa using fun y _ => hp y
  rw [if_pos hall]; rfl
theorem snapA_map {α : Type} (f : α → List AV) (xs : List α) {id sz n : Nat} (hB : g id = some ⟨sz, xs.map f⟩) (hp : ∀ y, (f y).all AV.pu1 = true) (hn : n = xs.length) : (snapA (.own id sz 0 n)).run g = some (.lst sz (xs.map f)) := snap1_map f xs hB hp hn
end
def Ale (a b : AV) : Prop := ∀ (E : Env) (v : Value), Rep E v a → Rep E v b
theorem Ale.refl {a : AV} : Ale a a := fun _ _ h => h
theorem Ale.of_eq {a b : AV} (h : a = b) : Ale a b := h ▸ Ale.refl
theorem Ale.trans {a b c : AV} (h : Ale a b) (k : Ale b c) : Ale a c := fun E v r => k E v (h E v r)
theorem Ale.emp {sz : Nat} : Ale .emp (.lst sz []) := fun E v h => by
  obtain ⟨A, rfl⟩ := emp_inv h
  exact .lst0 (by omega)
inductive AleL : List AV → List AV → Prop
  | nil : AleL [] []
  | cons {a b : AV} {r s : List AV} (h : Ale a b) (t : AleL r s) : AleL (a :: r) (b :: s)
theorem AleL.get {r s : List AV} (h : AleL r s) : r.length = s.length ∧ ∀ (i : Nat) b, s[i]? = some b → ∃ a, r[i]? = some a ∧ Ale a b := by
  induction h with
  | nil => exact ⟨rfl, fun i b h => by simp at h⟩
  | cons h t ih =>
    refine ⟨by simp [ih.1], fun i b hb => ?_⟩
    cases i with
    | zero => simp only [List.getElem?_cons_zero, Option.some.injEq] at hb; subst hb; exact ⟨_, by simp, h⟩
    | succ i => exact ih.2 i b (by simpa using hb)
theorem Ale.tup {r s : List AV} (h : AleL r s) : Ale (.tup r) (.tup s) := fun E v hv => by
  cases hv with
  | tup hl hh => exact .tup (hl.trans h.get.1) fun i u c hu hc => let ⟨a, ha, hab⟩ := h.get.2 i c hc; hab _ _ (hh i u a hu ha)
theorem Ale.agg {r s : List AV} (h : AleL r s) : Ale (.agg r) (.agg s) := fun E v hv => by
  cases hv with
  | agg hl hh => exact .agg (hl.trans h.get.1) fun i u c hu hc => let ⟨a, ha, hab⟩ := h.get.2 i c hc; hab _ _ (hh i u a hu ha)
theorem Fn.args {P : Program} {f : FuncId} {as_ as' : List AV} {r : AV} (h : Fn P f as_ r) (ha : AleL as' as_) : Fn P f as' r := fun w J vs hJ hG hrc =>
  h w J vs hJ hG ⟨hrc.1.trans ha.get.1, fun i u c hu hc => let ⟨a, h1, h2⟩ := ha.get.2 i c hc; h2 _ _ (hrc.2 i u a hu h1)⟩
theorem fn_ofW {P : Program} {f : FuncId} {F : AFn} (hF : cFunc P f = some F) {as_ : List AV} (hl : as_.length ≤ F.n) {r : AV}
    (h : EW P F.n 0 F.code ⟨σ0 as_, fun _ => none, 0⟩ fun x s' => (x = .normal ∨ x = .ret) ∧ ∃ r', ((resR s'.σ F.res).bind snapR).run s'.g = some r' ∧ Ale r' r) : Fn P f as_ r := by
  intro w J vs hJ hG hrc
  obtain ⟨fn, c, h1, h2, h3, h4, h5⟩ := cFunc_inv hF
  have hm : MemAt (E0 w J) J w.heap.size (fun _ => none) := ⟨fun id => by simp [E0], fun id B hg => by simp at hg, fun id id' b B B' hg => by simp at hg, fun id b B hg => by simp at hg, fun b hb => ⟨hJ b hb, .inl hb⟩, Nat.le_refl _, fun id B hg => by simp at hg, fun _ h => h.elim⟩
  refine calls_marks h1 h2 (wpIn_mono (h none c (E0 w J) J w.heap.size w _ w (fun _ => rfl) h4 (fun id hid => hid.elim) ⟨⟨E0 w J, rfl, Env.Le.refl _, start_rep hrc _, hm, fun id hid => hid.elim, .nil⟩, ?_, Below.refl _ _, hG⟩) ?_)
  · simp only [Array.size_append, Array.size_replicate, hrc.1]; omega
  · rintro e a' w' ⟨x, s', ⟨hx, r', hr, hale⟩, rfl, hrel⟩
    obtain ⟨E1, rfl, hle, hs1, hM1, hk, hmk⟩ := hrel.ex
    refine ⟨by rcases hx with rfl | rfl <;> simp [Ex.up], marks_leave _ E1 hmk fun E' hS => ?_⟩
    have hM := hS.mem hM1
    have hs := fun t => hS.rep (hs1 t)
    obtain ⟨r0, hr1, hr2⟩ := bind_run hr
    obtain ⟨v, e1, e2⟩ := res_run hM hs h3 hr1
    have hI : ∀ ids b, Handed E' s'.g ids b → J b ∨ (w.heap.size ≤ b ∧ b < E'.w.heap.size) := by
      intro ids b hb
      rcases hb with hb | ⟨id, B, _, hg, hl⟩
      · have := hM.low b hb
        rcases this.2 with h | h
        · exact .inl h
        · exact .inr ⟨h, this.1⟩
      · have := hM.at_ id B hg
        rw [hl] at this
        exact .inr this.lt
    have hrep : Rep (Proofs.YtpagdlhlfmenmaaDoor.E0 E'.w fun b => J b ∨ (w.heap.size ≤ b ∧ b < E'.w.heap.size)) v r := by
      refine hale _ _ ?_
      cases r0 with
      | tup us =>
        simp only [snapR] at hr2
        obtain ⟨l, m1, m2⟩ := bind_run hr2
        simp only [RM.run, Option.some.injEq] at m2; subst m2
        obtain ⟨k1, k2⟩ := snapAs_rep hM _ m1 (hI _)
        cases e2 with
        | tup hl h =>
          refine .tup (by rw [k1]; exact hl) fun i v c hv hc => ?_
          have hi : i < us.length := by rw [← k1]; exact (List.getElem?_eq_some_iff.1 hc).1
          exact k2 i v us[i] c (h i v _ hv (List.getElem?_eq_getElem hi)) (List.getElem?_eq_getElem hi) hc
      | _ => exact snapA_rep hM _ e2 hr2 (hI _)
    exact ⟨v, e1, v, rfl, hrep, hS.below (Nat.le_refl _) hrel.below⟩
theorem fW {P : Program} {f : FuncId} {F : AFn} (hF : cFunc P f = some F) {as_ : List AV} (hl : as_.length ≤ F.n) {r : AV}
    (h : EL P F.n 0 F.code (start as_) fun e x => (e = .normal ∨ e = .ret) ∧ ∃ r', ((resR (slot x.t) F.res).bind snapR).run (look x.m) = some r' ∧ Ale r' r) : Fn P f as_ r := by
  refine fn_ofW hF hl (EW.weak (start_le as_ _ _) (EW.conseq h ?_))
  rintro e s ⟨x', rfl, h1, h2⟩
  exact ⟨h1, h2⟩
theorem run_snap {x : L3} {res : List ARes} {r0 r' : AV} (h0 : (resR (slot x.t) res).run (look x.m) = some r0) (h : (snapR r0).run (look x.m) = some r') : ((resR (slot x.t) res).bind snapR).run (look x.m) = some r' := run_bind_some h0 h
theorem fi_ofW {P : Program} {f : FuncId} {F : AFn} (hF : cFunc P f = some F) {as_ : List AV} (hl : as_.length ≤ F.n) {g g' : Nat → Option Bk} {k k' : Nat} {r : AV}
    (h : EW P F.n k F.code ⟨σ0 as_, g, k⟩ fun x s' => (x = .normal ∨ x = .ret) ∧ ∃ y : S3, s'.Le k F.n y ∧ (resR y.σ F.res).run y.g = some r ∧ y.g = g' ∧ y.k = k') : Fi P f as_ g k r g' k' := by
  intro E J base vs hG hm hkn hrc
  obtain ⟨fn, c, h1, h2, h3, h4, h5⟩ := cFunc_inv hF
  refine calls_marks h1 h2 (wpIn_mono (h none c E J base E.w _ E.w (fun _ => rfl) h4 hkn ⟨⟨E, rfl, Env.Le.refl E, start_rep hrc _, hm, hkn, .nil⟩, ?_, Below.refl _ _, hG⟩) ?_)
  · simp only [Array.size_append, Array.size_replicate, hrc.1]; omega
  · rintro e a' w' ⟨x, s', ⟨hx, y, hy, hr, rfl, rfl⟩, rfl, hrel0⟩
    have hrel := hy E J base E.w a' w' hkn hrel0
    obtain ⟨E', rfl, hle, hs, hM, hk, hmk⟩ := hrel.ex
    refine ⟨by rcases hx with rfl | rfl <;> simp [Ex.up], marks_leave _ E' hmk fun E2 hS => ?_⟩
    have hM2 := hS.mem hM
    obtain ⟨v, e1, e2⟩ := res_run hM2 (fun t => hS.rep (hs t)) h3 hr
    exact ⟨v, e1, v, E2, rfl, rfl, hS.le hle fun b hb => (hm.low b hb).1, e2, hM2, hS.below hm.size hrel.below, fun id hid => hk id (by rw [← hS.eqs.1]; exact hid)⟩
theorem fV {P : Program} {f : FuncId} {F : AFn} (hF : cFunc P f = some F) {as_ : List AV} (hl : as_.length ≤ F.n) {r : AV} {m m' : List (Option Bk)}
    (h : EL P F.n m.length F.code ⟨startT 0 as_, m⟩ fun e x => (e = .normal ∨ e = .ret) ∧ ∃ y : L3, x.s.Le m.length F.n y.s ∧ (resR (slot y.t) F.res).run (look y.m) = some r ∧ y.m = m') : Fi P f as_ (look m) m.length r (look m') m'.length := by
  refine fi_ofW hF hl (EW.weak (start_le as_ _ _) (EW.conseq h ?_))
  rintro e s ⟨x', rfl, h1, y, h2, h3, rfl⟩
  exact ⟨h1, y.s, h2, h3, rfl, rfl⟩
theorem fo_of {P : Program} {f : FuncId} {as_ : List AV} {sz : Nat} {els : List (List AV)} (h : Fi P f as_ (look []) 0 (.own 0 sz 0 els.length) (look [some ⟨sz, els⟩]) 1) : Fo P f as_ sz els := by
  intro w J vs hJ hG hrc
  have hm : MemAt (E0 w J) J w.heap.size (look []) := ⟨fun id => by simp [E0, look], fun id B hg => by simp [look] at hg, fun id id' b B B' hg => by simp [look] at hg, fun id b B hg => by simp [look] at hg, fun b hb => ⟨hJ b hb, .inl hb⟩, Nat.le_refl _, fun id B hg => by simp [look] at hg, fun _ h => h.elim⟩
  refine (h (E0 w J) J w.heap.size vs hG hm (fun id hid => hid.elim) hrc).mono ?_
  rintro e w' ⟨v, E', he, hw, hle, hr, hM, hb, hk⟩
  have hg : look [some (⟨sz, els⟩ : Bk)] 0 = some ⟨sz, els⟩ := rfl
  obtain ⟨k1, k2⟩ := (hM.live 0).2 ⟨_, hg⟩
  exact ⟨v, E', he, hw, hb, hr, k1, k2, hM.at_ 0 _ hg, (hM.len 0 _ hg (hr.own_sz k2)).symm⟩
section
variable {P : Program} {n k0 : Nat} {x : L3} {K : L3 → Prop} {R : List AOper} {k : Nat}
end
section
variable {o : AOper} {x : L3}
end
theorem strEq_iff {a b : ByteArray} : strEq a b = true ↔ a = b := by
  unfold strEq
  rw [beq_iff_eq]
  constructor
  · intro h
    have : a.data = b.data := by rw [← Array.toList_inj]; exact h
    cases a; cases b; simp_all
  · intro h; rw [h]
theorem rem64 {x c : Int} (h : 0 ≤ x) : x.tmod c = x % c := Int.tmod_eq_emod_of_nonneg h
open Go.RowKit
def Del1 (sz : Nat) : List AOper := [⟨some 8, .mov (.s 0), none⟩, ⟨some 9, .mov (.s 1), none⟩, ⟨some 10, .mov (.s 2), none⟩, ⟨some 11, .mov (.s 0), none⟩, ⟨some 12, .len false (.s 11), none⟩, ⟨some 13, .slc sz (.s 8) (some (.s 9)) (some (.s 10)) (some (.s 12)), none⟩]
def Del2 : List AOper := [⟨some 14, .mov (.s 1), none⟩, ⟨some 15, .mov (.s 2), none⟩, ⟨some 16, .bin false .eql (.s 14) (.s 15), none⟩]
def Del3 : List AOper := [⟨some 17, .mov (.s 0), none⟩, ⟨some 6, .mov (.s 17), none⟩]
def Del4 : List AOper := [⟨some 18, .mov (.s 0), none⟩, ⟨some 19, .len false (.s 18), none⟩, ⟨some 7, .mov (.s 19), none⟩]
def Del5 (sz by_ : Nat) : List AOper := [⟨some 20, .mov (.s 0), none⟩, ⟨some 21, .mov (.s 1), none⟩, ⟨some 22, .slc sz (.s 20) none (some (.s 21)) none, none⟩, ⟨some 23, .mov (.s 0), none⟩, ⟨some 24, .mov (.s 2), none⟩, ⟨some 25, .slc sz (.s 23) (some (.s 24)) none none, none⟩, ⟨some 26, .app sz by_ (.s 22) (.s 25), none⟩, ⟨some 0, .mov (.s 26), none⟩]
def Del6 (sz : Nat) (zs : List AV) : List AOper := [⟨some 27, .mov (.s 0), none⟩, ⟨some 28, .mov (.s 0), none⟩, ⟨some 29, .len false (.s 28), none⟩, ⟨some 30, .mov (.s 7), none⟩, ⟨some 31, .slc sz (.s 27) (some (.s 29)) (some (.s 30)) none, none⟩, ⟨none, .clr zs (.s 31), none⟩]
def Del7 : List AOper := [⟨some 32, .mov (.s 0), none⟩, ⟨some 6, .mov (.s 32), none⟩]
def DelDep : List (List Nat) := [[], [], [0, 1], [], [], [3, 4], [2, 5, 0, 1, 3, 4], [6, 0, 1, 2, 3, 4, 5]]
def DelF (sz by_ : Nat) (zs : List AV) : AFn := ⟨33, [.tmp 6],
  .seq (.reg [⟨some 6, .mov (.c .emp), none⟩] none)
  (.seq (.reg (Del1 sz) none)
  (.seq (.seq (.reg Del2 none)
  (.cond (.s 16)
    (.seq (.reg Del3 none)
    (.ret))
    (.skip)))
  (.seq (.reg Del4 none)
  (.seq (.reg (Del5 sz by_) (some DelDep))
  (.seq (.reg (Del6 sz zs) none)
  (.seq (.reg Del7 none)
  (.ret)))))))⟩
def delM (m : List (Option Bk)) (id : Nat) (B : Bk) : List (Option Bk) := m.set id none ++ [none, some B]
theorem trunc_le {n k0 : Nat} {x : L3} {id sz c t0 : Nat} {els : List (List AV)} (hB : look x.m id = some ⟨sz, els⟩) (hc : c ≤ els.length) (hs : slot x.t t0 = .own id sz 0 c) {y : L3} (hy : y.t = [(t0, .own x.m.length sz 0 c)]) (hm : y.m = x.m.set id none ++ [some ⟨sz, els.take c⟩]) : x.s.Le k0 n y.s := by
  intro E0 J base w0 a w hk hr
  obtain ⟨E, rfl, hle, hsl, hmm, hkn, hmk⟩ := hr.ex
  have hid : id < x.m.length := by
    rcases Nat.lt_or_ge id x.m.length with h | h
    · exact h
    · unfold look at hB; rw [List.getElem?_eq_none h] at hB; simp at hB
  have hf : ¬ E.kn x.m.length := fun hh => Nat.lt_irrefl _ (hkn _ hh)
  have hz0 : sz ≠ 0 := (show Rep E (a.tmps.getD t0 undef) (.own id sz 0 c) by rw [← hs]; exact hsl t0).own_sz ((hmm.live id).2 ⟨_, hB⟩).2
  obtain ⟨E', hw, hE, hM, k1, k2, k3, k4, k5⟩ := hmm.move hf id ⟨sz, els⟩ ⟨sz, els.take c⟩ hB E.w (fun _ _ => rfl) rfl (fun _ _ => rfl) (fun E' hE hw => by
    have := (hmm.at_ id _ hB)
    cases hl : E.loc id with
    | none =>
      rw [hl] at this
      have h0 : els = [] := this
      show els.take c = []
      rw [h0]; simp
    | some b =>
      rw [hl] at this
      obtain ⟨q1, arr, t, q2, q3, q4⟩ := this.cells hz0
      refine .ofCells ⟨q1, arr, t, by rw [hw]; exact q2, ?_, fun i cs hi => ?_⟩ hz0
      · refine Nat.le_trans (Nat.mul_le_mul_right _ ?_) q3
        simp only [List.length_take]; omega
      · have hi' : els[i]? = some cs := by
          simp only [List.getElem?_take] at hi
          split at hi
          · exact hi
          · simp at hi
        refine ⟨(q4 i cs hi').1, fun j x hj => ?_⟩
        obtain ⟨u, u1, u2, u3⟩ := (q4 i cs hi').2 j x hj
        exact ⟨u, u1, u2, u3.step hE⟩)
  have hg : gput (look x.m) [(id, none), (x.m.length, some ⟨sz, els.take c⟩)] = look y.m := by
    rw [hm]
    have e1 := look_put x.m id none (by omega)
    rw [if_pos hid] at e1
    have e2 := look_put (x.m.set id none) x.m.length (some ⟨sz, els.take c⟩) (by simp)
    rw [if_neg (by simp)] at e2
    rw [e2, e1]
    rfl
  have hM := hg ▸ (show MemAt E' J base (gput (look x.m) [(id, none), (x.m.length, some ⟨sz, els.take c⟩)]) from hM)
  refine ⟨⟨E', hw, hle.trans hE, fun t => ?_, hM, fun j hj => ?_, hmk.step hE⟩, hr.size, hr.below, hr.gl⟩
  · show Rep E' _ (slot y.t t)
    rw [hy]
    simp only [slot]
    cases hb : Nat.beq t t0 with
    | false => exact .dead
    | true =>
      have := Nat.eq_of_beq_eq_true hb
      subst this
      have hv := hsl t
      have hv' : Rep E (a.tmps.getD t undef) (.own id sz 0 c) := by rw [← hs]; exact hv
      have hlive := (hmm.live id).2 ⟨_, hB⟩
      have hlen : c ≤ els.length := hc
      simp only [cond_true]
      obtain ⟨vv, hvv⟩ : ∃ vv, vv = a.tmps.getD t undef := ⟨_, rfl⟩
      rw [← hvv] at hv' ⊢
      cases hv' with
      | staleO hi hd => exact absurd hd hlive.2
      | own hi hd hb hq hss hm' hl hcc hln =>
        refine .own k1 k2 (k3.trans hb) hq (by rw [hw]; exact hss) hm' hl hcc (by rw [k5]; simp only [List.length_take]; omega)
      | own0 hi hd hb hln => exact .own0 k1 k2 (k3.trans hb) (by rw [k5]; simp)
  · show j < y.m.length
    rw [hm]
    simp only [List.length_append, List.length_set, List.length_cons, List.length_nil]
    rcases k4 j hj with h | h
    · have h' : j < x.m.length := hkn j h
      omega
    · omega
section
variable {o : AOper} {x : L3}
theorem optNat_nat {σ : Nat → AV} {a : Arg} {n : Nat} (h : argσ σ a = VI n) : optNat (argσ σ) (some a) = some (some n) := by
  simp only [optNat, h, natOf]
  rw [if_pos (by omega)]; simp
theorem opE_slco2 (a : Arg) (lo hi : Option Arg) (sz id off n l h : Nat) (lo' hi' : Option Nat) (B : Bk) (ho : o.ao = .slc sz a lo hi none) (hg : guardA (slot x.t) o.guard = some true) (ha : argσ (slot x.t) a = .own id sz off n) (hlo : optNat (argσ (slot x.t)) lo = some lo') (hhi : optNat (argσ (slot x.t)) hi = some hi') (hbd : bounds n lo' hi' = some (l, h)) (hB : look x.m id = some B) :
    opE o x = .done (.own id sz (off + l) (h - l)) [] [id] := by
  have hn : optNat (argσ (slot x.t)) none = some none := rfl
  have hs : (AO.slc sz a lo hi none).sem x.m.length (argσ (slot x.t)) = .lv id (.ret (.done (.own id sz (off + l) (h - l)) [])) := by simp [AO.sem, ha, hlo, hhi, hn, hbd, RM.opt]
  exact opE_sem _ (acc := []) (see := [id]) ho hg (by rw [hs]; simp [RM.run, hB]) (by rw [hs]; rfl) (by rw [hs]; rfl)
theorem opE_slco3 (a : Arg) (lo hi : Option Arg) (mx : Arg) (sz id off n l h mm : Nat) (lo' hi' : Option Nat) (B : Bk) (ho : o.ao = .slc sz a lo hi (some mx)) (hg : guardA (slot x.t) o.guard = some true) (ha : argσ (slot x.t) a = .own id sz off n) (hlo : optNat (argσ (slot x.t)) lo = some lo') (hhi : optNat (argσ (slot x.t)) hi = some hi') (hmx : optNat (argσ (slot x.t)) (some mx) = some (some mm)) (hbd : bounds n lo' hi' = some (l, h)) (hB : look x.m id = some B) (h1 : B.els.length ≤ off + mm) (h2 : h ≤ mm ∧ mm ≤ n) (h3 : mm ≠ l) (hBz : B.sz = sz := by rfl) :
    opE o x = .done (.own id sz (off + l) (h - l)) [] [id, id] := by
  have hs : (AO.slc sz a lo hi (some mx)).sem x.m.length (argσ (slot x.t)) = .lv id (.rd id fun B => if B.sz = sz ∧ B.els.length ≤ off + mm then .ret (.done (.own id sz (off + l) (h - l)) []) else .fail) := by
    simp [AO.sem, ha, hlo, hhi, hmx, hbd, RM.opt, h2, h3]
  exact opE_sem _ (acc := [id]) (see := [id]) ho hg (by rw [hs]; simp [RM.run, hB, h1, hBz]) (by rw [hs]; simp [RM.acc, hB, h1, hBz]) (by rw [hs]; simp [RM.see, hB, h1, hBz])
theorem opE_slco2h (a : Arg) (lo hi : Option Arg) (sz id off n l h : Nat) (lo' : Option Nat) (hh : Nat) (B : Bk) (ho : o.ao = .slc sz a lo hi none) (hg : guardA (slot x.t) o.guard = some true) (ha : argσ (slot x.t) a = .own id sz off n) (hlo : optNat (argσ (slot x.t)) lo = some lo') (hhi : optNat (argσ (slot x.t)) hi = some (some hh)) (hno : bounds n lo' (some hh) = none) (hB : look x.m id = some B) (hbd : bounds (B.els.length - off) lo' (some hh) = some (l, h)) (hBz : B.sz = sz := by rfl) :
    opE o x = .done (.own id sz (off + l) (h - l)) [] [id, id] := by
  have hn : optNat (argσ (slot x.t)) none = some none := rfl
  have hs : (AO.slc sz a lo hi none).sem x.m.length (argσ (slot x.t)) = .lv id (.rd id fun B => if B.sz = sz then .opt ((bounds (B.els.length - off) lo' (some hh)).map fun b => .done (.own id sz (off + b.1) (b.2 - b.1)) []) else .fail) := by simp [AO.sem, ha, hlo, hhi, hn, hno]
  exact opE_sem _ (acc := [id]) (see := [id]) ho hg (by rw [hs]; simp [RM.run, RM.opt, hB, hbd, hBz]) (by rw [hs]; simp [RM.acc, RM.opt, hB, hbd, hBz]) (by rw [hs]; simp [RM.see, RM.opt, hB, hbd, hBz])
theorem opE_appIn (s a : Arg) (sz by_ id off n : Nat) (els ys : List (List AV)) (w : AV) (acc : List Nat) (ho : o.ao = .app sz by_ s a) (hg : guardA (slot x.t) o.guard = some true) (hs : argσ (slot x.t) s = .own id sz off n) (ha : argσ (slot x.t) a = w) (c1 : (content sz w).run (look x.m) = some ys) (c2 : (content sz w).acc (look x.m) = acc) (c3 : (content sz w).see (look x.m) = [])
    (hB : look x.m id = some ⟨sz, els⟩) (hno : ¬ (off = 0 ∧ n = els.length)) (hfit : off + n + ys.length ≤ els.length) :
    opE o x = .done (.own id sz off (n + ys.length)) [(id, some ⟨sz, els.take (off + n) ++ ys ++ els.drop (off + n + ys.length)⟩), (x.m.length, none)] (acc ++ [id]) := by
  let F : List (List AV) → RM Out := fun ys => .rd id fun B => if sz = sz ∧ B.sz = sz ∧ off = 0 ∧ n = B.els.length ∧ (n + ys.length) * by_ ≤ 140737488355328 then .ret (.done (.own x.m.length sz 0 (n + ys.length)) [(id, none), (x.m.length, some ⟨sz, B.els ++ ys⟩)])
    else if sz = sz ∧ B.sz = sz ∧ off + n + ys.length ≤ B.els.length then .ret (.done (.own id sz off (n + ys.length)) [(id, some ⟨B.sz, B.els.take (off + n) ++ ys ++ B.els.drop (off + n + ys.length)⟩), (x.m.length, none)]) else .fail
  have hsem : (AO.app sz by_ s a).sem x.m.length (argσ (slot x.t)) = (content sz w).bind F := by simp [AO.sem, hs, ha, F]
  obtain ⟨r1, r2, r3⟩ := run_bind (f := F) _ c1
  have hno' : ¬ (off = 0 ∧ n = els.length ∧ (n + ys.length) * by_ ≤ 140737488355328) := fun h => hno ⟨h.1, h.2.1⟩
  have hF1 : (F ys).run (look x.m) = some (.done (.own id sz off (n + ys.length)) [(id, some ⟨sz, els.take (off + n) ++ ys ++ els.drop (off + n + ys.length)⟩), (x.m.length, none)]) := by
    simp only [F, RM.run, hB, true_and]; rw [if_neg hno', if_pos hfit]; rfl
  have hF2 : (F ys).acc (look x.m) = [id] := by
    simp only [F, RM.acc, hB, true_and]; rw [if_neg hno', if_pos hfit]; rfl
  have hF3 : (F ys).see (look x.m) = [] := by
    simp only [F, RM.see, hB, true_and]; rw [if_neg hno', if_pos hfit]; rfl
  have := opE_sem (AO.app sz by_ s a) (o := o) (x := x) (acc := acc ++ [id]) (see := []) ho hg (by rw [hsem, r1]; exact hF1) (by rw [hsem, r2, c2, hF2]) (by rw [hsem, r3, c3, hF3]; rfl)
  simpa using this
theorem opE_clr (zs : List AV) (a : Arg) (sz id off n : Nat) (els : List (List AV)) (ho : o.ao = .clr zs a) (hg : guardA (slot x.t) o.guard = some true) (hz : zs.length = sz) (ha : argσ (slot x.t) a = .own id sz off n) (hB : look x.m id = some ⟨sz, els⟩) (hfit : off + n ≤ els.length) :
    opE o x = .done (.v undef) [(id, some ⟨sz, els.take off ++ List.replicate n zs ++ els.drop (off + n)⟩)] [id] := by
  subst hz
  have hs : (AO.clr zs a).sem x.m.length (argσ (slot x.t)) = .rd id fun B => if B.sz = zs.length ∧ off + n ≤ B.els.length then .ret (.done (.v undef) [(id, some ⟨B.sz, B.els.take off ++ List.replicate n zs ++ B.els.drop (off + n)⟩)]) else .fail := by simp [AO.sem, ha]
  exact opE_sem _ (acc := [id]) (see := []) ho hg (by rw [hs]; simp [RM.run, hB, hfit]) (by rw [hs]; simp [RM.acc, hB, hfit]) (by rw [hs]; simp [RM.see, hB, hfit])
end
section
variable {P : Program} {sz by_ : Nat} {zs : List AV} {m : List (Option Bk)} {id i : Nat} {els : List (List AV)}
theorem look_lt {B : Bk} (hB : look m id = some B) : id < m.length := by
  rcases Nat.lt_or_ge id m.length with h | h
  · exact h
  · unfold look at hB; rw [List.getElem?_eq_none h] at hB; simp at hB
theorem delete_fi {f : FuncId} (hF : cFunc P f = some (DelF sz by_ zs)) (hz : zs.length = sz) (hB : look m id = some ⟨sz, els⟩) (hi : i < els.length) (hb : els.length ≤ 4611686018427387904) :
    Fi P f [.own id sz 0 els.length, VI i, VI (i + 1 : Nat)] (look m) m.length (.own (m.length + 1) sz 0 (els.length - 1)) (look (delM m id ⟨sz, els.eraseIdx i⟩)) (delM m id ⟨sz, els.eraseIdx i⟩).length := by
  have hid := look_lt hB
  have e1 : ((i : Int)).toNat = i := by omega
  have e2 : (((i + 1 : Nat) : Int)).toNat = i + 1 := by omega
  have e3 : ((els.length : Int)).toNat = els.length := by omega
  have p1 : (0 : Int) ≤ (i : Int) := by omega
  have p2 : (0 : Int) ≤ ((i + 1 : Nat) : Int) := by omega
  have p3 : (0 : Int) ≤ (els.length : Int) := by omega
  refine fV hF (by show 3 ≤ 33; omega) ?_
  refine EL.sreg ?_
  refine OW.last 1 [0, 1, 2] (x' := ⟨[(0, .own id sz 0 els.length), (1, VI i), (2, VI (i + 1 : Nat))], m⟩) (by kernel_rfl) (by kernel_rfl) ?_
  refine EL.sreg ?_
  refine OW.run 4 (x' := ⟨[(11, .own id sz 0 els.length), (10, VI (i + 1 : Nat)), (9, VI i), (8, .own id sz 0 els.length), (0, .own id sz 0 els.length), (1, VI i), (2, VI (i + 1 : Nat))], m⟩) (by kernel_rfl) ?_
  refine OW.ope (v := VI els.length) (u := []) (acc := [id]) (x' := ⟨[(12, VI els.length), (11, .own id sz 0 els.length), (10, VI (i + 1 : Nat)), (9, VI i), (8, .own id sz 0 els.length), (0, .own id sz 0 els.length), (1, VI i), (2, VI (i + 1 : Nat))], m⟩) (by kernel_rfl) (opE_sem _ (acc := []) (see := [id]) rfl rfl (by simp [opD, Del1, AO.sem, argσ, slot, RM.run, hB, goInt]) (by simp [opD, Del1, AO.sem, argσ, slot, RM.acc]) (by simp [opD, Del1, AO.sem, argσ, slot, RM.see])) (by kernel_rfl) ?_
  refine OW.ope (v := .own id sz (0 + i) (i + 1 - i)) (u := []) (acc := [id, id]) (x' := ⟨[(13, .own id sz (0 + i) (i + 1 - i)), (12, VI els.length), (11, .own id sz 0 els.length), (10, VI (i + 1 : Nat)), (9, VI i), (8, .own id sz 0 els.length), (0, .own id sz 0 els.length), (1, VI i), (2, VI (i + 1 : Nat))], m⟩) (by kernel_rfl)
    (opE_slco3 (.s 8) (some (.s 9)) (some (.s 10)) (.s 12) sz id 0 els.length i (i + 1) els.length (some i) (some (i + 1)) ⟨sz, els⟩ rfl rfl rfl (optNat_nat (by rfl)) (optNat_nat (by rfl)) (optNat_nat (by rfl)) (by simp [bounds]; omega) hB (by simp) ⟨by omega, by omega⟩ (by omega)) (by kernel_rfl) ?_
  refine OW.last 0 [0, 1, 2] (x' := ⟨[(0, .own id sz 0 els.length), (1, VI i), (2, VI (i + 1 : Nat))], m⟩) (by kernel_rfl) (by kernel_rfl) ?_
  refine EL.seq ?_
  refine EL.sreg ?_
  refine OW.last 3 [0, 1, 2, 16] (x' := ⟨[(16, .v (.bool ((i : Int) == ((i + 1 : Nat) : Int)))), (0, .own id sz 0 els.length), (1, VI i), (2, VI (i + 1 : Nat))], m⟩) (by kernel_rfl) (by kernel_rfl) ?_
  have hne : ((i : Int) == ((i + 1 : Nat) : Int)) = false := by simp; omega
  rw [hne]
  refine EL.condF (by kernel_rfl) ?_
  refine EL.skip ?_
  refine tN ?_
  refine EL.sreg ?_
  refine OW.run 1 (x' := ⟨[(18, .own id sz 0 els.length), (16, .v (.bool false)), (0, .own id sz 0 els.length), (1, VI i), (2, VI (i + 1 : Nat))], m⟩) (by kernel_rfl) ?_
  refine OW.ope (v := VI els.length) (u := []) (acc := [id]) (x' := ⟨[(19, VI els.length), (18, .own id sz 0 els.length), (16, .v (.bool false)), (0, .own id sz 0 els.length), (1, VI i), (2, VI (i + 1 : Nat))], m⟩) (by kernel_rfl) (opE_sem _ (acc := []) (see := [id]) rfl rfl (by simp [opD, Del4, AO.sem, argσ, slot, RM.run, hB, goInt]) (by simp [opD, Del4, AO.sem, argσ, slot, RM.acc]) (by simp [opD, Del4, AO.sem, argσ, slot, RM.see])) (by kernel_rfl) ?_
  refine OW.last 1 [0, 1, 2, 7] (x' := ⟨[(7, VI els.length), (0, .own id sz 0 els.length), (1, VI i), (2, VI (i + 1 : Nat))], m⟩) (by kernel_rfl) (by kernel_rfl) ?_
  refine EL.sdraw ?_
  refine DW.run 2 (x' := ⟨[(21, VI i), (20, .own id sz 0 els.length), (7, VI els.length), (0, .own id sz 0 els.length), (1, VI i), (2, VI (i + 1 : Nat))], m⟩) (by kernel_rfl) ?_
  refine DW.ope (v := .own id sz (0 + 0) (i - 0)) (u := []) (acc := [id]) (x' := ⟨[(22, .own id sz (0 + 0) (i - 0)), (21, VI i), (20, .own id sz 0 els.length), (7, VI els.length), (0, .own id sz 0 els.length), (1, VI i), (2, VI (i + 1 : Nat))], m⟩) (by kernel_rfl)
    (opE_slco2 (.s 20) none (some (.s 21)) sz id 0 els.length 0 i none (some i) ⟨sz, els⟩ rfl rfl rfl rfl (optNat_nat (by rfl)) (by simp [bounds]; omega) hB) (by kernel_rfl) ?_
  refine DW.run 2 (x' := ⟨[(24, VI (i + 1 : Nat)), (23, .own id sz 0 els.length), (22, .own id sz (0 + 0) (i - 0)), (21, VI i), (20, .own id sz 0 els.length), (7, VI els.length), (0, .own id sz 0 els.length), (1, VI i), (2, VI (i + 1 : Nat))], m⟩) (by kernel_rfl) ?_
  refine DW.ope (v := .own id sz (0 + (i + 1)) (els.length - (i + 1))) (u := []) (acc := [id]) (x' := ⟨[(25, .own id sz (0 + (i + 1)) (els.length - (i + 1))), (24, VI (i + 1 : Nat)), (23, .own id sz 0 els.length), (22, .own id sz (0 + 0) (i - 0)), (21, VI i), (20, .own id sz 0 els.length), (7, VI els.length), (0, .own id sz 0 els.length), (1, VI i), (2, VI (i + 1 : Nat))], m⟩) (by kernel_rfl)
    (opE_slco2 (.s 23) (some (.s 24)) none sz id 0 els.length (i + 1) els.length (some (i + 1)) none ⟨sz, els⟩ rfl rfl rfl (optNat_nat (by rfl)) rfl (by simp [bounds]; omega) hB) (by kernel_rfl) ?_
  obtain ⟨ys, hys⟩ : ∃ ys, ys = (els.drop (0 + (i + 1))).take (els.length - (i + 1)) := ⟨_, rfl⟩
  have hyl : ys.length = els.length - (i + 1) := by rw [hys]; simp
  obtain ⟨els2, he2⟩ : ∃ els2, els2 = els.take (0 + 0 + (i - 0)) ++ ys ++ els.drop (0 + 0 + (i - 0) + ys.length) := ⟨_, rfl⟩
  have hl2 : els2.length = els.length := by rw [he2]; simp; omega
  obtain ⟨m2, hm2⟩ : ∃ m2, m2 = m.set id (some ⟨sz, els2⟩) ++ [none] := ⟨_, rfl⟩
  have hput : mput m [(id, some ⟨sz, els2⟩), (m.length, none)] = m2 := by
    simp only [mput]
    rw [if_pos hid, if_neg (by simp), hm2]
  have hml : m2.length = m.length + 1 := by rw [hm2]; simp
  have hlk : look m2 id = some ⟨sz, els2⟩ := by
    rw [hm2]; unfold look
    rw [List.getElem?_append_left (by simpa using hid)]
    simp [hid]
  have hc1 : (content sz (.own id sz (0 + (i + 1)) (els.length - (i + 1)))).run (look m) = some ys := by
    simp only [content, RM.run, hB, true_and]; rw [if_pos (by omega), hys]; rfl
  have hc2 : (content sz (.own id sz (0 + (i + 1)) (els.length - (i + 1)))).acc (look m) = [id] := by
    simp only [content, RM.acc, hB, true_and]; rw [if_pos (by omega)]; rfl
  have hc3 : (content sz (.own id sz (0 + (i + 1)) (els.length - (i + 1)))).see (look m) = [] := by
    simp only [content, RM.see, hB, true_and]; rw [if_pos (by omega)]; rfl
  have hups : upsOK m.length [(id, some (⟨sz, els2⟩ : Bk)), (m.length, none)] = true := by
    simp only [upsOK]; rw [if_pos hid]; simp; omega
  refine DW.ope (v := .own id sz (0 + 0) (i - 0 + ys.length)) (u := [(id, some ⟨sz, els2⟩), (m.length, none)]) (acc := [id] ++ [id]) (x' := ⟨[(26, .own id sz (0 + 0) (i - 0 + ys.length)), (25, .own id sz (0 + (i + 1)) (els.length - (i + 1))), (24, VI (i + 1 : Nat)), (23, .own id sz 0 els.length), (22, .own id sz (0 + 0) (i - 0)), (21, VI i), (20, .own id sz 0 els.length), (7, VI els.length), (0, .own id sz 0 els.length), (1, VI i), (2, VI (i + 1 : Nat))], m2⟩) (by kernel_rfl)
    (by rw [he2]; exact opE_appIn (.s 22) (.s 25) sz by_ id (0 + 0) (i - 0) els ys _ [id] rfl rfl rfl rfl hc1 hc2 hc3 hB (by rintro ⟨_, h⟩; omega) (by omega)) (by
      show (bif dstOK 33 (some 26) && upsOK m.length [(id, some (⟨sz, els2⟩ : Bk)), (m.length, none)] then _ else _) = _
      rw [hups, hput]; rfl) ?_
  obtain ⟨t3, ht3⟩ : ∃ t3 : List (Nat × AV), t3 = [(0, .own id sz (0 + 0) (i - 0 + ys.length)), (2, VI (i + 1 : Nat)), (7, VI els.length)] := ⟨_, rfl⟩
  refine DW.last 1 [0, 7] (x' := ⟨[(0, .own id sz (0 + 0) (i - 0 + ys.length)), (7, VI els.length)], m2⟩) (by kernel_rfl) (by kernel_rfl) ?_
  have q1 : i - 0 + ys.length = els.length - 1 := by omega
  rw [q1]
  refine EL.sreg ?_
  refine OW.run 2 (x' := ⟨[(28, .own id sz (0 + 0) (els.length - 1)), (27, .own id sz (0 + 0) (els.length - 1)), (0, .own id sz (0 + 0) (els.length - 1)), (7, VI els.length)], m2⟩) (by kernel_rfl) ?_
  refine OW.ope (v := VI (els.length - 1 : Nat)) (u := []) (acc := [id]) (x' := ⟨[(29, VI (els.length - 1 : Nat)), (28, .own id sz (0 + 0) (els.length - 1)), (27, .own id sz (0 + 0) (els.length - 1)), (0, .own id sz (0 + 0) (els.length - 1)), (7, VI els.length)], m2⟩) (by kernel_rfl) (opE_sem _ (acc := []) (see := [id]) rfl rfl (by simp [opD, Del6, AO.sem, argσ, slot, RM.run, hlk, goInt]) (by simp [opD, Del6, AO.sem, argσ, slot, RM.acc]) (by simp [opD, Del6, AO.sem, argσ, slot, RM.see])) (by kernel_rfl) ?_
  refine OW.run 1 (x' := ⟨[(30, VI els.length), (29, VI (els.length - 1 : Nat)), (28, .own id sz (0 + 0) (els.length - 1)), (27, .own id sz (0 + 0) (els.length - 1)), (0, .own id sz (0 + 0) (els.length - 1)), (7, VI els.length)], m2⟩) (by kernel_rfl) ?_
  refine OW.ope (v := .own id sz (0 + 0 + (els.length - 1)) (els.length - (els.length - 1))) (u := []) (acc := [id, id]) (x' := ⟨[(31, .own id sz (0 + 0 + (els.length - 1)) (els.length - (els.length - 1))), (30, VI els.length), (29, VI (els.length - 1 : Nat)), (28, .own id sz (0 + 0) (els.length - 1)), (27, .own id sz (0 + 0) (els.length - 1)), (0, .own id sz (0 + 0) (els.length - 1)), (7, VI els.length)], m2⟩) (by kernel_rfl)
    (opE_slco2h (.s 27) (some (.s 29)) (some (.s 30)) sz id (0 + 0) (els.length - 1) (els.length - 1) els.length (some (els.length - 1)) els.length ⟨sz, els2⟩ rfl rfl rfl (optNat_nat (by rfl)) (optNat_nat (by rfl)) (by simp only [bounds, Option.getD_some]; rw [if_neg (by omega)]) hlk (by simp only [bounds, Option.getD_some]; rw [if_pos ⟨by omega, by show _ ≤ els2.length - (0 + 0); omega⟩])) (by kernel_rfl) ?_
  obtain ⟨els3, he3⟩ : ∃ els3, els3 = els2.take (0 + 0 + (els.length - 1)) ++ List.replicate (els.length - (els.length - 1)) zs ++ els2.drop (0 + 0 + (els.length - 1) + (els.length - (els.length - 1))) := ⟨_, rfl⟩
  have hid2 : id < m2.length := by omega
  have hput3 : mput m2 [(id, some ⟨sz, els3⟩)] = m2.set id (some ⟨sz, els3⟩) := by
    simp only [mput]; rw [if_pos hid2]
  have hups3 : upsOK m2.length [(id, some (⟨sz, els3⟩ : Bk))] = true := by simp [upsOK]; omega
  refine OW.ope (v := .v undef) (u := [(id, some ⟨sz, els3⟩)]) (acc := [id]) (x' := ⟨[(31, .own id sz (0 + 0 + (els.length - 1)) (els.length - (els.length - 1))), (30, VI els.length), (29, VI (els.length - 1 : Nat)), (28, .own id sz (0 + 0) (els.length - 1)), (27, .own id sz (0 + 0) (els.length - 1)), (0, .own id sz (0 + 0) (els.length - 1)), (7, VI els.length)], m2.set id (some ⟨sz, els3⟩)⟩) (by kernel_rfl)
    (by rw [he3]; exact opE_clr zs (.s 31) sz id (0 + 0 + (els.length - 1)) (els.length - (els.length - 1)) els2 rfl rfl hz rfl hlk (by omega)) (by
      show (bif dstOK 33 none && upsOK m2.length [(id, some (⟨sz, els3⟩ : Bk))] then _ else _) = _
      rw [hups3, hput3]; rfl) ?_
  refine OW.last 0 [0] (x' := ⟨[(0, .own id sz (0 + 0) (els.length - 1))], m2.set id (some ⟨sz, els3⟩)⟩) (by kernel_rfl) (by kernel_rfl) ?_
  refine EL.sreg ?_
  refine OW.last 2 [6] (x' := ⟨[(6, .own id sz (0 + 0) (els.length - 1))], m2.set id (some ⟨sz, els3⟩)⟩) (by kernel_rfl) (by kernel_rfl) ?_
  refine EL.ret ?_
  have hl3 : els3.length = els.length := by rw [he3]; simp; omega
  have hlk3 : look (m2.set id (some ⟨sz, els3⟩)) id = some ⟨sz, els3⟩ := by
    unfold look; simp [hid2]
  have hfin : els3.take (els.length - 1) = els.eraseIdx i := by
    have h1 : els3.take (els.length - 1) = els2.take (els.length - 1) := by
      rw [he3, List.append_assoc, List.take_append_of_le_length (by simp; omega), Nat.add_zero, Nat.zero_add, List.take_take, Nat.min_self]
    rw [h1, he2]
    have h2 : els.length - 1 = i + ys.length := by omega
    rw [h2, List.take_append_of_le_length (by simp; omega)]
    rw [List.take_of_length_le (by simp; omega)]
    rw [List.eraseIdx_eq_take_drop_succ, hys]
    congr 1
    · simp
    · rw [Nat.zero_add]
      exact List.take_of_length_le (by simp)
  refine ⟨.inr rfl, ⟨[(6, .own (m2.set id (some ⟨sz, els3⟩)).length sz 0 (els.length - 1))], (m2.set id (some ⟨sz, els3⟩)).set id none ++ [some ⟨sz, els3.take (els.length - 1)⟩]⟩, trunc_le (t0 := 6) hlk3 (by omega) rfl rfl rfl, ?_, ?_⟩
  · simp only [List.length_set, hml]; rfl
  · rw [hfin, hm2]
    simp only [delM]
    rw [List.set_set, List.set_append, if_pos (by simpa using hid), List.set_set]
    simp
theorem delete_map {f : FuncId} {α : Type} {fe : α → List AV} {xs : List α} (hF : cFunc P f = some (DelF sz by_ zs)) (hz : zs.length = sz) (hB : look m id = some ⟨sz, xs.map fe⟩) {n : Int} (h0 : 0 ≤ n) (h1 : n < xs.length) (hb : xs.length ≤ 1000000) :
    Fi P f [.own id sz 0 xs.length, VI n, VI (n + 1)] (look m) m.length (.own (m.length + 1) sz 0 (xs.eraseIdx n.toNat).length) (look (delM m id ⟨sz, (xs.eraseIdx n.toNat).map fe⟩)) (delM m id ⟨sz, (xs.eraseIdx n.toNat).map fe⟩).length := by
  have e0 : ((n.toNat : Nat) : Int) = n := by omega
  have e1 : ((n.toNat + 1 : Nat) : Int) = n + 1 := by omega
  have h := delete_fi (P := P) (f := f) (i := n.toNat) (els := xs.map fe) hF hz hB (by simp; omega) (by simp; omega)
  rw [e0, e1, List.length_map] at h
  have e2 : (xs.map fe).eraseIdx n.toNat = (xs.eraseIdx n.toNat).map fe := by
    rw [List.eraseIdx_eq_take_drop_succ, List.eraseIdx_eq_take_drop_succ, List.map_append, List.map_take, List.map_drop]
  have e3 : (xs.eraseIdx n.toNat).length = xs.length - 1 := by rw [List.length_eraseIdx, if_pos (by omega)]
  rw [e2] at h
  rw [e3]
  exact h
end
open Go.RowKit
section
variable {o : AOper} {x : L3}
end
open Go.RowKit
def isC (hs : List (Option Nat)) (i : Nat) : Bool := match hs[i]? with | some (some _) => true | _ => false
def callsOK (rs : List Rec) (hs : List (Option Nat)) (dep : List (List Nat)) : Bool :=
  (List.range rs.length).all fun j => (List.range j).all fun i => ((dep[j]?).getD []).contains i || (match rs[i]?, rs[j]? with | some x, some y => !(isC hs i && isC hs j) && ((!isC hs i || y.ups.isEmpty) && (!isC hs j || x.ups.isEmpty)) | _, _ => false)
inductive OpsF (P : Program) (n : Nat) : List AOper → (Nat → AV) → (Nat → Option Bk) → Nat → List Rec → List (Option Nat) → (Nat → AV) → (Nat → Option Bk) → Nat → Prop
  | nil {σ : Nat → AV} {g : Nat → Option Bk} {k : Nat} : OpsF P n [] σ g k [] [] σ g k
  | cons {o : AOper} {os : List AOper} {σ σ' : Nat → AV} {g g' : Nat → Option Bk} {k k1 k' : Nat} {val : AV} {ups : List (Nat × Option Bk)} {acc : List Nat} {rs : List Rec} {hs : List (Option Nat)} (h : OpRun P σ g k o val ups acc) (hk : k ≤ k1) (hu : ∀ id, id ∈ ups.map Prod.fst → id < k1)
      (hr : OpsF P n os (putσ n o.dst val σ) (gput g ups) k1 rs hs σ' g' k') : OpsF P n (o :: os) σ g k (⟨o.dst, val, ups, acc, k⟩ :: rs) (none :: hs) σ' g' k'
  | fi {o : AOper} {os : List AOper} {σ σ' : Nat → AV} {g g' : Nat → Option Bk} {k k1 k' : Nat} {r : AV} {f : FuncId} {as_ : List AV} {ups : List (Nat × Option Bk)} {rs : List Rec} {hs : List (Option Nat)} (hg : guardA σ o.guard = some true) (hal : o.ao.allocs = false) (h : (o.ao.sem k (argσ σ)).run g = some (.call f as_)) (hc : callable P f = true) (hf : Fi P f as_ g k r (gput g ups) k1) (hk : k ≤ k1) (hu : ∀ id, id ∈ ups.map Prod.fst → id < k1)
      (hr : OpsF P n os (putσ n o.dst r σ) (gput g ups) k1 rs hs σ' g' k') : OpsF P n (o :: os) σ g k (⟨o.dst, r, ups, [], k⟩ :: rs) (some k1 :: hs) σ' g' k'
def RunF (P : Program) (n : Nat) (σ : Nat → AV) (g : Nat → Option Bk) (rs : List Rec) (hs : List (Option Nat)) (i : Nat) (o : AOper) (r : Rec) : Prop :=
  (hs[i]? = some none ∧ OpRun P (σat n (upto i) rs σ) (gat (upto i) rs g) r.fr o r.val r.ups r.acc) ∨
  ∃ f as_ k1, hs[i]? = some (some k1) ∧ guardA (σat n (upto i) rs σ) o.guard = some true ∧ o.ao.allocs = false ∧ (o.ao.sem r.fr (argσ (σat n (upto i) rs σ))).run (gat (upto i) rs g) = some (.call f as_) ∧ callable P f = true ∧ Fi P f as_ (gat (upto i) rs g) r.fr r.val (gput (gat (upto i) rs g) r.ups) k1
theorem opsF_canon {P : Program} {n : Nat} {os : List AOper} {σ σ' : Nat → AV} {g g' : Nat → Option Bk} {k k' : Nat} {rs : List Rec} {hs : List (Option Nat)} (h : OpsF P n os σ g k rs hs σ' g' k') :
    (rs.length = os.length ∧ hs.length = os.length) ∧ k ≤ k' ∧ (∀ (i : Nat) o, os[i]? = some o → ∃ r, rs[i]? = some r ∧ r.dst = o.dst ∧ RunF P n σ g rs hs i o r ∧ k ≤ r.fr) ∧
      (∀ (i j : Nat) ri rj, i < j → rs[i]? = some ri → rs[j]? = some rj → (∀ id, id ∈ ri.keys → id < rj.fr) ∧ ∀ k1, hs[i]? = some (some k1) → k1 ≤ rj.fr) ∧ (∀ (i : Nat) r, rs[i]? = some r → (∀ id, id ∈ r.keys → id < k') ∧ ∀ k1, hs[i]? = some (some k1) → k1 ≤ k') ∧ σ' = σat n (fun _ => true) rs σ ∧ g' = gat (fun _ => true) rs g := by
  induction h with
  | nil => exact ⟨⟨rfl, rfl⟩, Nat.le_refl _, fun i o ho => by simp at ho, fun i j ri rj _ h => by simp at h, fun i r h => by simp at h, rfl, rfl⟩
  | @cons o os σ σ' g g' k k1 k' val ups acc rs hs h hk hu hr ih =>
    obtain ⟨⟨i1, i1'⟩, i2, i3, i4, i5, i6, i7⟩ := ih
    have e1 : ∀ i, σat n (upto (i + 1)) (⟨o.dst, val, ups, acc, k⟩ :: rs) σ = σat n (upto i) rs (putσ n o.dst val σ) := by
      intro i; funext t
      show lastW _ _ 1 rs _ = _
      rw [lastW_shift]
      unfold σat
      congr 1
      · funext j; simp [upto]
      · rw [if_pos (by simp [upto])]; exact (putσ_wσ n t ⟨o.dst, val, ups, acc, k⟩ σ).symm
    have e2 : ∀ i, gat (upto (i + 1)) (⟨o.dst, val, ups, acc, k⟩ :: rs) g = gat (upto i) rs (gput g ups) := by
      intro i; funext id
      show lastW _ _ 1 rs _ = _
      rw [lastW_shift]
      unfold gat
      congr 1
      · funext j; simp [upto]
      · rw [if_pos (by simp [upto]), gput_kv]; rfl
    refine ⟨⟨by simp [i1], by simp [i1']⟩, Nat.le_trans hk i2, fun i o' ho => ?_, fun i j ri rj hij hi hj => ?_, fun i r' hr' => ?_, ?_, ?_⟩
    · cases i with
      | zero =>
        simp only [List.getElem?_cons_zero, Option.some.injEq] at ho
        subst ho
        refine ⟨_, rfl, rfl, ?_, Nat.le_refl _⟩
        have s0 : σat n (upto 0) (⟨o.dst, val, ups, acc, k⟩ :: rs) σ = σ := by funext t; exact lastW_none _ 0 _ fun j r _ hl => by simp [upto] at hl
        have g0 : gat (upto 0) (⟨o.dst, val, ups, acc, k⟩ :: rs) g = g := by funext t; exact lastW_none _ 0 _ fun j r _ hl => by simp [upto] at hl
        unfold RunF
        rw [s0, g0]
        exact .inl ⟨rfl, h⟩
      | succ i =>
        obtain ⟨r', r1, r2, r3, r4⟩ := i3 i o' (by simpa using ho)
        refine ⟨r', by simpa using r1, r2, ?_, Nat.le_trans hk r4⟩
        unfold RunF
        rw [e1, e2, List.getElem?_cons_succ]; exact r3
    · cases j with
      | zero => omega
      | succ j =>
        simp only [List.getElem?_cons_succ] at hj
        cases i with
        | zero =>
          simp only [List.getElem?_cons_zero, Option.some.injEq] at hi
          subst hi
          have hjl : j < os.length := by rw [← i1]; exact (List.getElem?_eq_some_iff.1 hj).1
          obtain ⟨r', r1, _, _, r4⟩ := i3 j _ (List.getElem?_eq_getElem hjl)
          rw [hj] at r1
          simp only [Option.some.injEq] at r1
          subst r1
          exact ⟨fun id hid => Nat.lt_of_lt_of_le (hu id hid) r4, fun x hx => by first | (simp at hx; done) | (simp at hx; subst hx; exact r4)⟩
        | succ i => simp only [List.getElem?_cons_succ] at hi ⊢; exact i4 i j ri rj (by omega) hi hj
    · cases i with
      | zero =>
        simp only [List.getElem?_cons_zero, Option.some.injEq] at hr'
        subst hr'
        exact ⟨fun id hid => Nat.lt_of_lt_of_le (hu id hid) i2, fun x hx => by first | (simp at hx; done) | (simp at hx; subst hx; exact i2)⟩
      | succ i => simp only [List.getElem?_cons_succ] at hr' ⊢; exact i5 i r' hr'
    · rw [i6]
      funext t
      unfold σat
      simp only [lastW]
      rw [lastW_shift, if_true, putσ_wσ n t ⟨o.dst, val, ups, acc, k⟩ σ]
    · rw [i7]
      funext id
      unfold gat
      simp only [lastW]
      rw [lastW_shift, if_true, gput_kv]
      rfl
  | @fi o os σ σ' g g' k k1 k' r f as_ ups rs hs hg hal h hc hf hk hu hr ih =>
    obtain ⟨⟨i1, i1'⟩, i2, i3, i4, i5, i6, i7⟩ := ih
    have e1 : ∀ i, σat n (upto (i + 1)) (⟨o.dst, r, ups, [], k⟩ :: rs) σ = σat n (upto i) rs (putσ n o.dst r σ) := by
      intro i; funext t
      show lastW _ _ 1 rs _ = _
      rw [lastW_shift]
      unfold σat
      congr 1
      · funext j; simp [upto]
      · rw [if_pos (by simp [upto])]; exact (putσ_wσ n t ⟨o.dst, r, ups, [], k⟩ σ).symm
    have e2 : ∀ i, gat (upto (i + 1)) (⟨o.dst, r, ups, [], k⟩ :: rs) g = gat (upto i) rs (gput g ups) := by
      intro i; funext id
      show lastW _ _ 1 rs _ = _
      rw [lastW_shift]
      unfold gat
      congr 1
      · funext j; simp [upto]
      · rw [if_pos (by simp [upto]), gput_kv]; rfl
    refine ⟨⟨by simp [i1], by simp [i1']⟩, Nat.le_trans hk i2, fun i o' ho => ?_, fun i j ri rj hij hi hj => ?_, fun i r' hr' => ?_, ?_, ?_⟩
    · cases i with
      | zero =>
        simp only [List.getElem?_cons_zero, Option.some.injEq] at ho
        subst ho
        refine ⟨_, rfl, rfl, ?_, Nat.le_refl _⟩
        have s0 : σat n (upto 0) (⟨o.dst, r, ups, [], k⟩ :: rs) σ = σ := by funext t; exact lastW_none _ 0 _ fun j r _ hl => by simp [upto] at hl
        have g0 : gat (upto 0) (⟨o.dst, r, ups, [], k⟩ :: rs) g = g := by funext t; exact lastW_none _ 0 _ fun j r _ hl => by simp [upto] at hl
        unfold RunF
        rw [s0, g0]
        exact .inr ⟨f, as_, k1, rfl, hg, hal, h, hc, hf⟩
      | succ i =>
        obtain ⟨r', r1, r2, r3, r4⟩ := i3 i o' (by simpa using ho)
        refine ⟨r', by simpa using r1, r2, ?_, Nat.le_trans hk r4⟩
        unfold RunF
        rw [e1, e2, List.getElem?_cons_succ]; exact r3
    · cases j with
      | zero => omega
      | succ j =>
        simp only [List.getElem?_cons_succ] at hj
        cases i with
        | zero =>
          simp only [List.getElem?_cons_zero, Option.some.injEq] at hi
          subst hi
          have hjl : j < os.length := by rw [← i1]; exact (List.getElem?_eq_some_iff.1 hj).1
          obtain ⟨r', r1, _, _, r4⟩ := i3 j _ (List.getElem?_eq_getElem hjl)
          rw [hj] at r1
          simp only [Option.some.injEq] at r1
          subst r1
          exact ⟨fun id hid => Nat.lt_of_lt_of_le (hu id hid) r4, fun x hx => by first | (simp at hx; done) | (simp at hx; subst hx; exact r4)⟩
        | succ i => simp only [List.getElem?_cons_succ] at hi ⊢; exact i4 i j ri rj (by omega) hi hj
    · cases i with
      | zero =>
        simp only [List.getElem?_cons_zero, Option.some.injEq] at hr'
        subst hr'
        exact ⟨fun id hid => Nat.lt_of_lt_of_le (hu id hid) i2, fun x hx => by first | (simp at hx; done) | (simp at hx; subst hx; exact i2)⟩
      | succ i => simp only [List.getElem?_cons_succ] at hr' ⊢; exact i5 i r' hr'
    · rw [i6]
      funext t
      unfold σat
      simp only [lastW]
      rw [lastW_shift, if_true, putσ_wσ n t ⟨o.dst, r, ups, [], k⟩ σ]
    · rw [i7]
      funext id
      unfold gat
      simp only [lastW]
      rw [lastW_shift, if_true, gput_kv]
      rfl
section
variable {P : Program} {E0 : Env} {n : Nat} {ops : Array Oper} {J : Nat → Prop} {base : Nat} {w0 : World} {Q : Exit → Act → World → Prop} {os : List AOper} {dep : List (List Nat)} {σ σ' : Nat → AV} {g g' : Nat → Option Bk} {k k' : Nat} {rs : List Rec} {hs : List (Option Nat)}
structure DInvF (E0 : Env) (n : Nat) (ops : Array Oper) (J : Nat → Prop) (base : Nat) (w0 : World) (σ : Nat → AV) (g : Nat → Option Bk) (k : Nat) (rs : List Rec) (hs : List (Option Nat)) (listed : Array Bool) (a : Act) (w : World) : Prop where
  ex : ∃ E : Env, E.w = w ∧ E0.Le E ∧ (∀ t, Rep E (a.tmps.getD t undef) (σat n (fun j => listed.getD j false) rs σ t)) ∧ MemAt E J base (gat (fun j => listed.getD j false) rs g) ∧
    (∀ id, E.kn id → id < k ∨ ∃ j r, listed.getD j false = true ∧ rs[j]? = some r ∧ (id ∈ r.keys ∨ ∃ k1, hs[j]? = some (some k1) ∧ id < k1)) ∧ Mk E w0.heap.size a.defers
  size : a.tmps.size = n
  below : Below base w0 w
  gl : GlE E0
  lsize : listed.size = ops.size
  closed : ∀ (j : Nat) op, ops[j]? = some op → listed.getD j false = true → ∀ e, e ∈ dirOf op → listed.getD e false = true
theorem draw_soundF {rd : Option Nat} (hrec : OpsF P n os σ g k rs hs σ' g' k') (hlen : os.length = ops.size) (hops : ∀ (j : Nat) op, ops[j]? = some op → ∃ o, os[j]? = some o ∧ cOper P ops op = some o)
    (hd : depOK ops.toList dep = true) (hsl : slotsOK os dep = true) (hid : idsOK rs dep = true) (hcs : callsOK rs hs dep = true) (hQ : ∀ a w, RelS E0 J base w0 n σ' g' k' a w → Q .normal a w) :
    ∀ (fuel : Nat) (listed : Array Bool) (a : Act) (w : World), DInvF E0 n ops J base w0 σ g k rs hs listed a w → (∀ m : List Nat, (∀ j, j ∈ m → j < ops.size ∧ listed.getD j true = false) → m.Nodup → m.length ≤ fuel) → wpAnyIn (rnd rd) 0 P .any ops Q fuel listed a w := by
  obtain ⟨⟨c1, c1'⟩, c2, c3, c4, c5, c6, c7⟩ := opsF_canon hrec
  -- all are listed where none is ready
  have done : ∀ (listed : Array Bool) (a : Act) (w : World), DInvF E0 n ops J base w0 σ g k rs hs listed a w → Region.ready .any ops listed = [] → Q .normal a w := by
    intro listed a w hI hready
    have hall : ∀ j, j < ops.size → listed.getD j false = true := by
      intro j
      induction j using Nat.strongRecOn with
      | _ j ih =>
        intro hj
        cases hl : listed.getD j false with
        | true => rfl
        | false =>
          exfalso
          have hjs : j < listed.size := by rw [hI.lsize]; exact hj
          have : j ∈ Region.ready .any ops listed := by
            rw [mem_ready]
            refine ⟨by simp [hjs] at hl ⊢; exact hl, ops[j], Array.getElem?_eq_getElem hj, fun e he hb => ?_⟩
            have hdj := hd
            unfold depOK at hdj
            simp only [Bool.and_eq_true, List.all_eq_true, List.mem_range, decide_eq_true_eq] at hdj
            have hj2 := (hdj.2 j (by simpa using hj)).1
            have hopl : ops.toList[j]? = some ops[j] := by simp [hj]
            simp only [hopl, Option.map_some, Option.getD_some] at hj2
            have hlt := hj2 e.on (mem_dirOf.2 ⟨e, he, hb, rfl⟩)
            exact ih e.on hlt (by omega)
          rw [hready] at this
          simp at this
    obtain ⟨E, rfl, hle, h1, h2, h3, hmk⟩ := hI.ex
    have e6 : σat n (fun j => listed.getD j false) rs σ = σ' := by
      rw [c6]; funext t
      refine lastW_congr _ 0 _ fun j r hr hl => absurd ?_ hl
      rw [Nat.zero_add, hall j (by rw [← hlen, ← c1]; exact (List.getElem?_eq_some_iff.1 hr).1)]
    have e7 : gat (fun j => listed.getD j false) rs g = g' := by
      rw [c7]; funext t
      refine lastW_congr _ 0 _ fun j r hr hl => absurd ?_ hl
      rw [Nat.zero_add, hall j (by rw [← hlen, ← c1]; exact (List.getElem?_eq_some_iff.1 hr).1)]
    rw [e6] at h1; rw [e7] at h2
    refine hQ a E.w ⟨⟨E, rfl, hle, h1, h2, fun id hh => ?_, hmk⟩, hI.size, hI.below, hI.gl⟩
    rcases h3 id hh with h | ⟨j, r, _, hr, hk | ⟨k1, hk1, hk⟩⟩
    · exact Nat.lt_of_lt_of_le h c2
    · exact (c5 j r hr).1 id hk
    · exact Nat.lt_of_lt_of_le hk ((c5 j r hr).2 k1 hk1)
  intro fuel
  induction fuel with
  | zero =>
    intro listed a w hI hcount
    have hr : Region.ready .any ops listed = [] := by
      cases hr : Region.ready .any ops listed with
      | nil => rfl
      | cons x xs =>
        have hx : x ∈ Region.ready .any ops listed := by rw [hr]; simp
        obtain ⟨m1, o, m2, _⟩ := mem_ready.1 hx
        have := hcount [x] (fun j hj => by simp at hj; subst hj; exact ⟨(Array.getElem?_eq_some_iff.1 m2).1, m1⟩) (by simp)
        simp at this
    exact ⟨hr, done listed a w hI hr⟩
  | succ fuel ih =>
    intro listed a w hI hcount
    refine ⟨done listed a w hI, fun i hi => ?_⟩
    obtain ⟨m1, op, m2, m3⟩ := mem_ready.1 hi
    have hil : i < ops.size := (Array.getElem?_eq_some_iff.1 m2).1
    have hunl : listed.getD i false = false := by
      have : i < listed.size := by rw [hI.lsize]; exact hil
      simp [this] at m1 ⊢; exact m1
    have hdir : ∀ e, e ∈ dirOf op → listed.getD e false = true := fun e he => by
      obtain ⟨x, hx, hb, rfl⟩ := mem_dirOf.1 he
      exact m3 x hx hb
    obtain ⟨o, ho, hco⟩ := hops i op m2
    obtain ⟨r, hri, hrd, hrun, hfr⟩ := c3 i o ho
    obtain ⟨E, rfl, hle, h1, h2, h3, hmk⟩ := hI.ex
    -- whoever is listed out of turn is free of this one
    have free : ∀ j rj oj, j ≠ i → rs[j]? = some rj → os[j]? = some oj → listed.getD j false ≠ upto i j → (slotFree (if i < j then o else oj) (if i < j then oj else o) = true ∧ idFree (if i < j then r else rj) (if i < j then rj else r) = true) := by
      intro j rj oj hne hrj hoj hl
      have hjl : j < os.length := (List.getElem?_eq_some_iff.1 hoj).1
      unfold slotsOK at hsl
      unfold idsOK at hid
      simp only [List.all_eq_true, List.mem_range, Bool.or_eq_true, List.contains_iff_mem] at hsl hid
      by_cases hij : i < j
      · rw [if_pos hij, if_pos hij, if_pos hij, if_pos hij]
        have hlj : listed.getD j false = true := by
          have hu : upto i j = false := by simp [upto]; omega
          rw [hu] at hl
          simpa using hl
        have hnd : i ∉ (dep[j]?).getD [] := by
          intro hmem
          have hjo : j < ops.size := by omega
          have := dep_closed hd hI.closed j ops[j] (Array.getElem?_eq_getElem hjo) (hI.closed j _ (Array.getElem?_eq_getElem hjo) hlj) i hmem
          rw [hunl] at this; simp at this
        have s1 := (hsl j hjl i hij).resolve_left hnd
        have s2 := (hid j (by rw [c1]; exact hjl) i hij).resolve_left hnd
        rw [ho, hoj] at s1; rw [hri, hrj] at s2
        exact ⟨s1, s2⟩
      · rw [if_neg hij, if_neg hij, if_neg hij, if_neg hij]
        have hji : j < i := by omega
        have hlj : listed.getD j false = false := by
          have hu : upto i j = true := by simp [upto]; omega
          rw [hu] at hl
          simpa using hl
        have hnd : j ∉ (dep[i]?).getD [] := by
          intro hmem
          have := dep_closed hd hI.closed i op m2 hdir j hmem
          rw [hlj] at this; simp at this
        have s1 := (hsl i (by omega) j hji).resolve_left hnd
        have s2 := (hid i (by omega) j hji).resolve_left hnd
        rw [ho, hoj] at s1; rw [hri, hrj] at s2
        exact ⟨s1, s2⟩
    have getO : ∀ (j : Nat) rj, rs[j]? = some rj → ∃ oj, os[j]? = some oj ∧ rj.dst = oj.dst := fun j rj hrj => by
      have hjl : j < os.length := by rw [← c1]; exact (List.getElem?_eq_some_iff.1 hrj).1
      obtain ⟨r', q1, q2, _, _⟩ := c3 j _ (List.getElem?_eq_getElem hjl)
      rw [hrj] at q1; simp only [Option.some.injEq] at q1; subst q1
      exact ⟨_, List.getElem?_eq_getElem hjl, q2⟩
    -- a slot that it looks at is as it comes one behind the other
    have hσ : ∀ t, t ∈ o.uses → σat n (fun j => listed.getD j false) rs σ t = σat n (upto i) rs σ t := by
      intro t ht
      refine lastW_congr _ 0 _ fun j rj hrj hl => ?_
      rw [Nat.zero_add] at hl
      by_cases hne : j = i
      · subst hne; rw [hunl] at hl; simp [upto] at hl
      · obtain ⟨oj, hoj, hdj⟩ := getO j rj hrj
        have hf := (free j rj oj hne hrj hoj hl).1
        unfold wσ
        rw [if_neg]
        rintro ⟨hdt, _⟩
        rw [hdj] at hdt
        unfold slotFree at hf
        by_cases hij : i < j
        · simp only [if_pos hij, hdt, Bool.and_eq_true, Bool.not_eq_true', List.contains_eq_mem, decide_eq_false_iff_not] at hf
          exact hf.2 ht
        · simp only [if_neg hij, hdt, Bool.and_eq_true, Bool.not_eq_true', List.contains_eq_mem, decide_eq_false_iff_not] at hf
          exact hf.1.1 ht
    have hg : ∀ id, id ∈ r.acc → gat (fun j => listed.getD j false) rs g id = gat (upto i) rs g id := by
      intro id hida
      refine lastW_congr _ 0 _ fun j rj hrj hl => ?_
      rw [Nat.zero_add] at hl
      by_cases hne : j = i
      · subst hne; rw [hunl] at hl; simp [upto] at hl
      · obtain ⟨oj, hoj, hdj⟩ := getO j rj hrj
        have hf := (free j rj oj hne hrj hoj hl).2
        cases hw : wg id rj with
        | none => rfl
        | some y =>
          exfalso
          have hk : id ∈ rj.keys := kv_mem (by unfold wg at hw; rw [hw]; simp)
          unfold idFree at hf
          by_cases hij : i < j
          · simp only [if_pos hij, Bool.and_eq_true, List.all_eq_true, Bool.not_eq_true', List.contains_eq_mem, decide_eq_false_iff_not] at hf
            exact hf.2 id hk hida
          · simp only [if_neg hij, Bool.and_eq_true, List.all_eq_true, Bool.not_eq_true', List.contains_eq_mem, decide_eq_false_iff_not] at hf
            exact (hf.1 id hk).1 hida
    have isCi : ∀ {j x}, hs[j]? = some (some x) → isC hs j = true := fun h => by unfold isC; rw [h]
    have free2 : ∀ j rj, j ≠ i → rs[j]? = some rj → listed.getD j false ≠ upto i j → (isC hs i && isC hs j) = false ∧ (isC hs i = true → rj.ups = []) ∧ (isC hs j = true → r.ups = []) := by
      intro j rj hne hrj hl
      have hjl : j < rs.length := (List.getElem?_eq_some_iff.1 hrj).1
      unfold callsOK at hcs
      simp only [List.all_eq_true, List.mem_range, Bool.or_eq_true, List.contains_iff_mem] at hcs
      by_cases hij : i < j
      · have hlj : listed.getD j false = true := by
          have hu : upto i j = false := by simp [upto]; omega
          rw [hu] at hl
          simpa using hl
        have hnd : i ∉ (dep[j]?).getD [] := by
          intro hmem
          have hjo : j < ops.size := by omega
          have := dep_closed hd hI.closed j ops[j] (Array.getElem?_eq_getElem hjo) (hI.closed j _ (Array.getElem?_eq_getElem hjo) hlj) i hmem
          rw [hunl] at this; simp at this
        have s2 := (hcs j hjl i hij).resolve_left hnd
        rw [hri, hrj] at s2
        simp only [Bool.and_eq_true, Bool.or_eq_true, Bool.not_eq_true', List.isEmpty_iff] at s2
        exact ⟨s2.1, fun h => s2.2.1.resolve_left (by rw [h]; simp), fun h => s2.2.2.resolve_left (by rw [h]; simp)⟩
      · have hji : j < i := by omega
        have hlj : listed.getD j false = false := by
          have hu : upto i j = true := by simp [upto]; omega
          rw [hu] at hl
          simpa using hl
        have hnd : j ∉ (dep[i]?).getD [] := by
          intro hmem
          have := dep_closed hd hI.closed i op m2 hdir j hmem
          rw [hlj] at this; simp at this
        have s2 := (hcs i (by omega) j hji).resolve_left hnd
        rw [hri, hrj] at s2
        simp only [Bool.and_eq_true, Bool.or_eq_true, Bool.not_eq_true', List.isEmpty_iff] at s2
        exact ⟨by rw [Bool.and_comm]; exact s2.1, fun h => s2.2.2.resolve_left (by rw [h]; simp), fun h => s2.2.1.resolve_left (by rw [h]; simp)⟩
    have fin : ∀ v E', E.Le E' → Rep E' v r.val → MemAt E' J base (gput (gat (fun j => listed.getD j false) rs g) r.ups) → Below base E.w E'.w → (∀ id, E'.kn id → (E.kn id ∨ id ∈ r.keys) ∨ ∃ k1, hs[i]? = some (some k1) ∧ id < k1) → wpAnyIn (rnd rd) 0 P .any ops Q fuel (listed.setIfInBounds i true) (a.put o.dst v) E'.w := by
      intro v E' hE hv hM hB hkn
      -- it is listed now
      have hlist : ∀ j, (listed.setIfInBounds i true).getD j false = if j = 0 + i then true else listed.getD j false := by
        intro j
        rw [Nat.zero_add]
        have hils : i < listed.size := by rw [hI.lsize]; exact hil
        by_cases hji : j = i
        · subst hji; simp [hils]
        · rw [if_neg hji, getD_set_ne false (Ne.symm hji)]
      have nσ : ∀ t, σat n (fun j => (listed.setIfInBounds i true).getD j false) rs σ t = putσ n o.dst r.val (σat n (fun j => listed.getD j false) rs σ) t := by
        intro t
        rw [← hrd, putσ_wσ]
        refine lastW_ins rs 0 i _ r hri (by rw [Nat.zero_add]; exact hunl) hlist fun j rj hij hrj hlj => ?_
        rw [Nat.zero_add] at hlj
        obtain ⟨oj, hoj, hdj⟩ := getO j rj hrj
        have hf := (free j rj oj (by omega) hrj hoj (by rw [hlj]; simp [upto]; omega)).1
        unfold slotFree at hf
        simp only [if_pos hij] at hf
        by_cases hd1 : r.dst = some t
        · left
          unfold wσ
          rw [if_neg]
          rintro ⟨hdt, _⟩
          rw [hrd] at hd1
          rw [hdj] at hdt
          simp only [hd1, hdt, Bool.and_eq_true, bne_iff_ne, ne_eq] at hf
          exact hf.1.2 trivial
        · right
          unfold wσ
          rw [if_neg]
          rintro ⟨hdt, _⟩
          exact hd1 hdt
      have ng : ∀ id, gat (fun j => (listed.setIfInBounds i true).getD j false) rs g id = gput (gat (fun j => listed.getD j false) rs g) r.ups id := by
        intro id
        rw [gput_kv]
        refine lastW_ins rs 0 i _ r hri (by rw [Nat.zero_add]; exact hunl) hlist fun j rj hij hrj hlj => ?_
        rw [Nat.zero_add] at hlj
        obtain ⟨oj, hoj, hdj⟩ := getO j rj hrj
        have hf := (free j rj oj (by omega) hrj hoj (by rw [hlj]; simp [upto]; omega)).2
        unfold idFree at hf
        simp only [if_pos hij, Bool.and_eq_true, List.all_eq_true, Bool.not_eq_true', List.contains_eq_mem, decide_eq_false_iff_not] at hf
        cases hw : wg id r with
        | none => exact .inr rfl
        | some y =>
          left
          cases hw2 : wg id rj with
          | none => rfl
          | some y2 =>
            exfalso
            have k1 : id ∈ r.keys := kv_mem (by unfold wg at hw; rw [hw]; simp)
            have k2 : id ∈ rj.keys := kv_mem (by unfold wg at hw2; rw [hw2]; simp)
            exact (hf.1 id k1).2 k2
      refine ih _ _ _ ⟨⟨E', rfl, hle.trans hE, fun t => ?_, ?_, fun id hh => ?_, ?_⟩, ?_, hI.below.trans hB, hI.gl, by simpa using hI.lsize, fun j oj hoj hlj e he => ?_⟩ fun m hm hnd => ?_
      · rw [nσ t]
        have := put_rep hE h1 hv o.dst t
        rw [hI.size] at this
        exact this
      · rw [show gat (fun j => (listed.setIfInBounds i true).getD j false) rs g = gput (gat (fun j => listed.getD j false) rs g) r.ups from funext ng]
        exact hM
      · rcases hkn id hh with (h | h) | h
        · rcases h3 id h with h | ⟨j, rj, q1, q2, q3⟩
          · exact .inl h
          · exact .inr ⟨j, rj, getD_set_true q1, q2, q3⟩
        · refine .inr ⟨i, r, ?_, hri, .inl h⟩
          rw [hlist i, Nat.zero_add, if_pos rfl]
        · refine .inr ⟨i, r, ?_, hri, .inr h⟩
          rw [hlist i, Nat.zero_add, if_pos rfl]
      · rw [(put_size a o.dst v).2]; exact hmk.step hE
      · rw [(put_size a o.dst v).1]; exact hI.size
      · rw [hlist j, Nat.zero_add] at hlj
        by_cases hji : j = i
        · subst hji
          rw [m2] at hoj; simp only [Option.some.injEq] at hoj; subst hoj
          exact getD_set_true (hdir e he)
        · rw [if_neg hji] at hlj
          exact getD_set_true (hI.closed j oj hoj hlj e he)
      · have hni : i ∉ m := fun hmem => by
          have := (hm i hmem).2
          have hils : i < listed.size := by rw [hI.lsize]; exact hil
          simp [hils] at this
        have := hcount (i :: m) (fun j hj => by
          rcases List.mem_cons.1 hj with rfl | hj
          · exact ⟨hil, m1⟩
          · refine ⟨(hm j hj).1, ?_⟩
            have h5 := (hm j hj).2
            have hji : i ≠ j := fun e => hni (e ▸ hj)
            rwa [getD_set_ne true hji] at h5) (List.nodup_cons.2 ⟨hni, hnd⟩)
        simpa using this
    rcases hrun with ⟨hnone, hrun⟩ | ⟨f, as_, k1, hsome, hgd, hal, hsem, hcl, hfi⟩
    · -- a name that nobody has
      have hname : ∃ fr', ¬ E.kn fr' ∧ (r.fr ∈ r.ups.map Prod.fst → fr' = r.fr) := by
        by_cases hin : r.fr ∈ r.ups.map Prod.fst
        · refine ⟨r.fr, fun hk => ?_, fun _ => rfl⟩
          rcases h3 _ hk with h | ⟨j, rj, hlj, hrj, hkj⟩
          · omega
          · by_cases hne : j = i
            · subst hne; rw [hunl] at hlj; simp at hlj
            · rcases hkj with hkj | ⟨k1, hk1, hkj⟩
              rotate_left
              · by_cases hij : i < j
                · have := (free2 j rj hne hrj (by rw [hlj]; simp [upto]; omega)).2.2 (isCi hk1)
                  rw [this] at hin; simp at hin
                · have := (c4 j i rj r (by omega) hrj hri).2 k1 hk1
                  omega
              by_cases hij : i < j
              · obtain ⟨oj, hoj, _⟩ := getO j rj hrj
                have hf := (free j rj oj hne hrj hoj (by rw [hlj]; simp [upto]; omega)).2
                unfold idFree at hf
                simp only [if_pos hij, Bool.and_eq_true, List.all_eq_true, Bool.not_eq_true', List.contains_eq_mem, decide_eq_false_iff_not] at hf
                exact (hf.1 _ hin).2 hkj
              · have := (c4 j i rj r (by omega) hrj hri).1 _ hkj
                exact Nat.lt_irrefl _ this
        · refine ⟨k', fun hk => ?_, fun h => absurd h hin⟩
          rcases h3 _ hk with h | ⟨j, rj, hlj, hrj, hkj | ⟨k1, hk1, hkj⟩⟩
          · omega
          · exact Nat.lt_irrefl _ ((c5 j rj hrj).1 _ hkj)
          · exact Nat.lt_irrefl _ (Nat.lt_of_lt_of_le hkj ((c5 j rj hrj).2 k1 hk1))
      obtain ⟨fr', hfr1, hfr2⟩ := hname
      obtain ⟨acc', hrun'⟩ := hrun.local hσ hg hfr2
      exact step_sound (hI.gl.step hle) h1 h2 hfr1 m2 hco hrun' fun v E' hE hv hM hB hkn => fin v E' hE hv hM hB fun id h => .inl (hkn id h)
    · have hci := isCi hsome
      have gall : gat (fun j => listed.getD j false) rs g = gat (upto i) rs g := by
        funext id
        refine lastW_congr _ 0 _ fun j rj hrj hl => ?_
        rw [Nat.zero_add] at hl
        by_cases hne : j = i
        · subst hne; rw [hunl] at hl; simp [upto] at hl
        · unfold wg; rw [(free2 j rj hne hrj hl).2.1 hci]; rfl
      have hknl : ∀ id, E.kn id → id < r.fr := by
        intro id hid
        rcases h3 id hid with h | ⟨j, rj, hlj, hrj, hkj⟩
        · omega
        · by_cases hne : j = i
          · subst hne; rw [hunl] at hlj; simp at hlj
          · by_cases hij : i < j
            · have hf2 := free2 j rj hne hrj (by rw [hlj]; simp [upto]; omega)
              rcases hkj with hkj | ⟨x, hx, hkj⟩
              · unfold Rec.keys at hkj; rw [hf2.2.1 hci] at hkj; simp at hkj
              · have := hf2.1; rw [hci, isCi hx] at this; simp at this
            · rcases hkj with hkj | ⟨x, hx, hkj⟩
              · exact (c4 j i rj r (by omega) hrj hri).1 _ hkj
              · have := (c4 j i rj r (by omega) hrj hri).2 x hx; omega
      have hgd2 : guardA (σat n (fun j => listed.getD j false) rs σ) o.guard = some true := by
        rw [← hgd]
        cases hg0 : o.guard with
        | none => rfl
        | some p =>
          obtain ⟨t, w⟩ := p
          simp only [guardA, hσ t (by simp [AOper.uses, hg0])]
      have hsem2 : (o.ao.sem r.fr (argσ (σat n (fun j => listed.getD j false) rs σ))).run (gat (fun j => listed.getD j false) rs g) = some (.call f as_) := by
        rw [gall, sem_congr r.fr fun t ht => hσ t (by simp [AOper.uses, ht])]; exact hsem
      have hdd := cOper_inv hco
      have hse : ∀ e, op.semAt (rnd rd).round e = execOp e op := fun e => Oper.semAt_plain (rnd rd) _ _ (cOp_nodefer hdd.2)
      unfold wpOpIn
      simp only [m2]
      rw [guard_sound h1 hco hgd2, if_pos rfl]
      obtain ⟨vs, e1, e2⟩ := call_sound (Args.of (hI.gl.step hle) h1) hdd.2 hsem2 hcl
      unfold Oper.wpIn
      rw [hse, e1, Oper.uponIn_enter]
      have h2' := h2
      rw [gall] at h2'
      refine ⟨rnd_out, rnd_depth, calls_rnd ((hfi E J base vs (hI.gl.step hle) h2' hknl e2).mono ?_)⟩
      rintro e w' ⟨v, E', rfl, rfl, q1, q2, q3, q4, q5⟩
      have hfin := fin v E' q1 q2 (by rw [gall]; exact q3) q4 fun id h => .inr ⟨k1, hsome, q5 id h⟩
      rw [hdd.1] at hfin
      exact hfin
theorem region_drawF {id : Nat} (hmix : P.follows .mixedOrders = true) (hrec : OpsF P n os σ g k rs hs σ' g' k') (hlen : os.length = ops.size) (hops : ∀ (j : Nat) op, ops[j]? = some op → ∃ o, os[j]? = some o ∧ cOper P ops op = some o)
    (hd : depOK ops.toList dep = true) (hsl : slotsOK os dep = true) (hid : idsOK rs dep = true) (hcs : callsOK rs hs dep = true) (hQ : ∀ a w, RelS E0 J base w0 n σ' g' k' a w → Q .normal a w) {a : Act} {w : World} (hrel : RelS E0 J base w0 n σ g k a w) {rd : Option Nat} : (Code.region id ops true).wpIn (rnd rd) 0 P Q a w := by
  refine wpIn_region_any hmix ?_
  obtain ⟨E, rfl, hle, h1, h2, h3, hmk⟩ := hrel.ex
  obtain ⟨E', hw, hE, hM, _, hk, _, _⟩ := h2.drew
  have hrep : ∀ (j : Nat), (Array.replicate ops.size false).getD j false = false := by
    intro j
    rcases Nat.lt_or_ge j ops.size with h | h
    · simp [h]
    · simp [h]
  refine draw_soundF hrec hlen hops hd hsl hid hcs hQ ops.size _ a _ ⟨⟨E', hw, hle.trans hE, fun t => ?_, ?_, fun id hh => .inl (h3 id ((hk id).1 hh)), hmk.step hE⟩, hrel.size, hrel.below.drew, hrel.gl, by simp, fun j op hop hl => ?_⟩ fun m hm hnd => ?_
  · have : σat n (fun j => (Array.replicate ops.size false).getD j false) rs σ t = σ t := lastW_none _ 0 _ fun j r _ hl => by rw [hrep] at hl; simp at hl
    rw [this]; exact (h1 t).step hE
  · have : gat (fun j => (Array.replicate ops.size false).getD j false) rs g = g := by funext id; exact lastW_none _ 0 _ fun j r _ hl => by rw [hrep] at hl; simp at hl
    rw [this]; exact hM
  · rw [hrep] at hl; simp at hl
  · exact nodup_len _ _ hnd fun j hj => (hm j hj).1
inductive DrawF (P : Program) (n : Nat) (dep : List (List Nat)) : List AOper → (Nat → AV) → (Nat → Option Bk) → Nat → List Rec → List (Option Nat) → (Nat → AV) → (Nat → Option Bk) → Nat → Prop
  | nil {σ : Nat → AV} {g : Nat → Option Bk} {k : Nat} {rs : List Rec} {hs : List (Option Nat)} (hid : idsOK rs dep = true) (hcs : callsOK rs hs dep = true) : DrawF P n dep [] σ g k rs hs σ g k
  | cons {o : AOper} {os : List AOper} {σ σ' : Nat → AV} {g g' : Nat → Option Bk} {k k1 k' : Nat} {val : AV} {ups : List (Nat × Option Bk)} {acc : List Nat} {rs : List Rec} {hs : List (Option Nat)} (h : OpRun P σ g k o val ups acc) (hk : k ≤ k1) (hu : ∀ id, id ∈ ups.map Prod.fst → id < k1)
      (hr : DrawF P n dep os (putσ n o.dst val σ) (gput g ups) k1 (rs ++ [⟨o.dst, val, ups, acc, k⟩]) (hs ++ [none]) σ' g' k') : DrawF P n dep (o :: os) σ g k rs hs σ' g' k'
  | fi {o : AOper} {os : List AOper} {σ σ' : Nat → AV} {g g' : Nat → Option Bk} {k k1 k' : Nat} {r : AV} {f : FuncId} {as_ : List AV} {ups : List (Nat × Option Bk)} {rs : List Rec} {hs : List (Option Nat)} (hg : guardA σ o.guard = some true) (hal : o.ao.allocs = false) (h : (o.ao.sem k (argσ σ)).run g = some (.call f as_)) (hc : callable P f = true) (hf : Fi P f as_ g k r (gput g ups) k1) (hk : k ≤ k1) (hu : ∀ id, id ∈ ups.map Prod.fst → id < k1)
      (hr : DrawF P n dep os (putσ n o.dst r σ) (gput g ups) k1 (rs ++ [⟨o.dst, r, ups, [], k⟩]) (hs ++ [some k1]) σ' g' k') : DrawF P n dep (o :: os) σ g k rs hs σ' g' k'
theorem OpsF.snoc {o : AOper} {k1 : Nat} {val : AV} {ups : List (Nat × Option Bk)} {acc : List Nat} (h0 : OpsF P n os σ g k rs hs σ' g' k') (h : OpRun P σ' g' k' o val ups acc) (hk : k' ≤ k1) (hu : ∀ id, id ∈ ups.map Prod.fst → id < k1) : OpsF P n (os ++ [o]) σ g k (rs ++ [⟨o.dst, val, ups, acc, k'⟩]) (hs ++ [none]) (putσ n o.dst val σ') (gput g' ups) k1 := by
  induction h0 with
  | nil => exact .cons h hk hu .nil
  | cons h1 h2 h3 h4 ih => exact .cons h1 h2 h3 (ih h hk)
  | fi h1 h2 h3 h4 h5 h6 h7 h8 ih => exact .fi h1 h2 h3 h4 h5 h6 h7 (ih h hk)
theorem OpsF.snocF {o : AOper} {k1 : Nat} {r : AV} {f : FuncId} {as_ : List AV} {ups : List (Nat × Option Bk)} (h0 : OpsF P n os σ g k rs hs σ' g' k') (hg : guardA σ' o.guard = some true) (hal : o.ao.allocs = false) (h : (o.ao.sem k' (argσ σ')).run g' = some (.call f as_)) (hc : callable P f = true) (hf : Fi P f as_ g' k' r (gput g' ups) k1) (hk : k' ≤ k1) (hu : ∀ id, id ∈ ups.map Prod.fst → id < k1) :
    OpsF P n (os ++ [o]) σ g k (rs ++ [⟨o.dst, r, ups, [], k'⟩]) (hs ++ [some k1]) (putσ n o.dst r σ') (gput g' ups) k1 := by
  induction h0 with
  | nil => exact .fi hg hal h hc hf hk hu .nil
  | cons h1 h2 h3 h4 ih => exact .cons h1 h2 h3 (ih hg h hf hk)
  | fi h1 h2 h3 h4 h5 h6 h7 h8 ih => exact .fi h1 h2 h3 h4 h5 h6 h7 (ih hg h hf hk)
theorem DrawF.all {pre : List AOper} {σ0 : Nat → AV} {g0 : Nat → Option Bk} {kk : Nat} (h0 : OpsF P n pre σ0 g0 kk rs hs σ g k) (h : DrawF P n dep os σ g k rs hs σ' g' k') : ∃ rs' hs', OpsF P n (pre ++ os) σ0 g0 kk rs' hs' σ' g' k' ∧ idsOK rs' dep = true ∧ callsOK rs' hs' dep = true := by
  induction h generalizing pre with
  | nil h1 h2 => exact ⟨_, _, by rw [List.append_nil]; exact h0, h1, h2⟩
  | @cons o os σ σ' g g' k k1 k' val ups acc rs hs h hk hu hr ih =>
    have := ih (pre := pre ++ [o]) (h0.snoc h hk hu)
    rwa [List.append_assoc] at this
  | @fi o os σ σ' g g' k k1 k' r f as_ ups rs hs hg hal h hc hf hk hu hr ih =>
    have := ih (pre := pre ++ [o]) (h0.snocF hg hal h hc hf hk hu)
    rwa [List.append_assoc] at this
theorem EW.drawF {k0 : Nat} {s : S3} {Q : Ex → S3 → Prop} {s' : S3} (h : DrawF P n dep os s.σ s.g s.k [] [] s'.σ s'.g s'.k) (hq : Q .normal s') : EW P n k0 (.reg os (some dep)) s Q := by
  intro rd c E0 J base w0 a w hrd hc hk hr
  obtain ⟨id, ops, draw, rfl, h1, h2⟩ := cCode_reg hc
  rcases h2 with ⟨rfl, hh⟩ | ⟨rfl, d, hd, h3, h4, h5⟩
  · simp at hh
  · simp only [Option.some.injEq] at hd
    subst hd
    obtain ⟨k1, k2⟩ := cOpers_get h1
    obtain ⟨rs', hs', a1, a2, a3⟩ := DrawF.all .nil h
    rw [List.nil_append] at a1
    exact region_drawF h5 a1 (by rw [← k1]; simp) (fun j op hj => k2 j op (by simpa using hj)) h3 h4 a2 a3 (fun a' w' hr' => ⟨.normal, s', hq, rfl, hr'⟩) hr
end
section
variable {P : Program} {n k k0 : Nat} {x : L3} {K : L3 → Prop} {Q : Ex → L3 → Prop} {R : List AOper} {dep : List (List Nat)} {rs : List Rec} {hs : List (Option Nat)}
end
end Go.Proofs.YtpagdlhlfmenmaaDoor
