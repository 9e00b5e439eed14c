/- Shorter forms still. No condition. -/
import Derived.Test.YtfjkncmcpeacjaaPAvSide
import Derived.Test.YtfjkncmcpeacjaaRows
set_option linter.unusedSimpArgs false
set_option linter.unusedVariables false
set_option maxRecDepth 100000
namespace Go.Proofs.Ytfjkncmcpeacjaa
open Go.RowKit
inductive Src0 where
  | old (id : Nat) (raw : Bool)
  | new (sz : Nat)
def newOf : List Src0 → Nat → Nat → Option Nat
  | [], _, _ => none
  | .old i _ :: r, j, id => bif Nat.beq i id then some j else newOf r (j + 1) id
  | .new _ :: r, j, id => newOf r (j + 1) id
def ren (ρ : Nat → Option Nat) : Nat → AV → AV
  | 0, _ => .dead
  | d + 1, .agg cs => .agg (cs.map (ren ρ d))
  | d + 1, .tup cs => .tup (cs.map (ren ρ d))
  | d + 1, .fn f cs => .fn f (cs.map (ren ρ d))
  | d + 1, .bf f cs => .bf f (cs.map (ren ρ d))
  | d + 1, .yld r cs => .yld r (cs.map (ren ρ d))
  | _ + 1, .ref id sz i o => match ρ id with
    | some j => .ref j sz i o
    | none => .dead
  | _ + 1, .own id sz off n => match ρ id with
    | some j => .own j sz off n
    | none => .dead
  | _ + 1, .mp id => match ρ id with
    | some j => .mp j
    | none => .dead
  | _ + 1, a => a
def renB (ρ : Nat → Option Nat) (B : Bk) : Bk := ⟨B.sz, B.els.map fun cs => cs.map (ren ρ 3)⟩
def rhoOf (m : List (Option Bk)) (src : List Src0) (id : Nat) : Option Nat := bif (look m id).isSome then newOf src 0 id else none
def renS (ρ : Nat → Option Nat) (src : List Src0) (es : List (Nat × Nat)) (j : Nat) (a : AV) : AV :=
  match a, es.lookup j with
  | .emp, some i => match src[i]? with
    | some (.new sz) => .own i sz 0 0
    | _ => .emp
  | a, _ => ren ρ 4 a
def blkOf (m : List (Option Bk)) (src : List Src0) : Src0 → Option Bk
  | .old i raw => (look m i).map fun B => bif raw then B else renB (rhoOf m src) B
  | .new sz => some ⟨sz, []⟩
def srcOK (k0 : Nat) (src : List Src0) : Bool :=
  (List.range src.length).all (fun i => match src[i]? with
    | some (.old id _) => match newOf src 0 id with
      | some j => Nat.beq j i
      | none => false
    | some (.new sz) => Nat.ble 1 sz
    | _ => true) && (List.range k0).all fun i => match src[i]? with
    | some (.old id _) => Nat.beq id i
    | _ => false
def normL (k0 : Nat) (live : List Nat) (src : List Src0) (es : List (Nat × Nat)) (x : L3) : Option L3 :=
  bif srcOK k0 src then some ⟨live.map fun j => (j, renS (rhoOf x.m src) src es j (slot x.t j)), src.map (blkOf x.m src)⟩ else none
def lnOf (ln : Nat → Nat) : Option Src0 → Nat
  | some (.old id _) => ln id
  | _ => 0
def locOf (loc : Nat → Option Nat) : Option Src0 → Option Nat
  | some (.old id _) => loc id
  | _ => none
theorem emp_inv {E : Env} {v : Value} (h : Rep E v .emp) : ∃ A, v = .slice A 0 0 := by
  cases h with
  | emp => exact ⟨_, rfl⟩
theorem newOf_src : ∀ (src : List Src0) (k id j : Nat), newOf src k id = some j → k ≤ j ∧ ∃ raw, src[j - k]? = some (.old id raw)
  | [], k, id, j, h => by simp [newOf] at h
  | .old i raw :: r, k, id, j, h => by
    simp only [newOf] at h
    cases hb : Nat.beq i id with
    | true =>
      rw [hb] at h
      simp only [cond_true, Option.some.injEq] at h
      subst h
      have := Nat.eq_of_beq_eq_true hb
      subst this
      exact ⟨by omega, raw, by simp⟩
    | false =>
      rw [hb, cond_false] at h
      obtain ⟨h1, h2⟩ := newOf_src r (k + 1) id j h
      refine ⟨by omega, ?_⟩
      rw [show j - k = (j - (k + 1)) + 1 by omega, List.getElem?_cons_succ]
      exact h2
  | .new _ :: r, k, id, j, h => by
    simp only [newOf] at h
    obtain ⟨h1, h2⟩ := newOf_src r (k + 1) id j h
    refine ⟨by omega, ?_⟩
    rw [show j - k = (j - (k + 1)) + 1 by omega, List.getElem?_cons_succ]
    exact h2
theorem slot_map (G : Nat → AV) : ∀ (live : List Nat) (i : Nat), slot (live.map fun j => (j, G j)) i = G i ∨ slot (live.map fun j => (j, G j)) i = .dead
  | [], i => .inr rfl
  | j :: r, i => by
    simp only [List.map_cons, slot]
    cases hb : Nat.beq i j with
    | true =>
      have := Nat.eq_of_beq_eq_true hb
      subst this
      exact .inl rfl
    | false => exact slot_map G r i
theorem look_map (m : List (Option Bk)) (src : List Src0) (i : Nat) : look (src.map (blkOf m src)) i = (src[i]?).bind (blkOf m src) := by
  unfold look
  rw [List.getElem?_map]
  cases src[i]? <;> simp
section
variable {E E' : Env} {ρ : Nat → Option Nat}
theorem ren_rep (hI : E'.I = E.I) (hw : E'.w = E.w) (hg : ∀ l, E.rg l → E'.rg l) (hρ : ∀ id j, ρ id = some j → E'.kn j ∧ ¬ E'.dead j ∧ E'.loc j = E.loc id ∧ ¬ E.dead id ∧ E'.ln j = E.ln id) : ∀ (d : Nat) {v : Value} {a : AV}, Rep E v a → Rep E' v (ren ρ d a) := by
  have hp : ∀ {v : Value} {a : AV}, Rep E v a → Pu a → Rep E' v a := fun h hp => h.pure (fun b hb => ⟨by rw [hI]; exact hb, fun o => by rw [hw]⟩) hp
  intro d
  induction d with
  | zero => intro v a h; exact .dead
  | succ d ih =>
    have ihm : ∀ {vs : Array Value} {cs : List AV}, vs.size = cs.length → (∀ (i : Nat) v c, vs[i]? = some v → cs[i]? = some c → Rep E v c) → vs.size = (cs.map (ren ρ d)).length ∧ ∀ (i : Nat) v c, vs[i]? = some v → (cs.map (ren ρ d))[i]? = some c → Rep E' v c := by
      intro vs cs hl h
      refine ⟨by simpa using hl, fun i v c hv hc => ?_⟩
      rw [List.getElem?_map, Option.map_eq_some_iff] at hc
      obtain ⟨c0, hc0, rfl⟩ := hc
      exact ih (h i v c0 hv hc0)
    intro v a h
    cases a with
    | v x => exact hp h .v
    | agg cs => cases h with | agg hl hh => obtain ⟨q1, q2⟩ := ihm hl hh; exact .agg q1 q2
    | tup cs => cases h with | tup hl hh => obtain ⟨q1, q2⟩ := ihm hl hh; exact .tup q1 q2
    | fn f cs => cases h with | fn hl hh => obtain ⟨q1, q2⟩ := ihm hl hh; exact .fn q1 q2
    | bf f cs => cases h with | bf hl hh => obtain ⟨q1, q2⟩ := ihm hl hh; exact .bf q1 q2
    | yld r cs => cases h with | yld h1 h2 h3 hl hh => obtain ⟨q1, q2⟩ := ihm hl hh; exact .yld (hg _ h1) (by rw [hI]; exact h2) (by rw [hw]; exact h3) q1 q2
    | lst sz els => exact hp h .lst
    | tls sz els => exact hp h .tls
    | emp => exact hp h .emp
    | pim cs o => exact hp h .pim
    | anyb => exact hp h .anyb
    | dead => exact .dead
    | ref id sz i o =>
      simp only [ren]
      cases hr : ρ id with
      | none => exact .dead
      | some j =>
        obtain ⟨r1, r2, r3, r4, r5⟩ := hρ id j hr
        cases h with
        | ref hi hd hb hq => exact .ref r1 r2 (r3.trans hb) hq
        | staleR hi hd ho => exact absurd hd r4
    | own id sz off n =>
      simp only [ren]
      cases hr : ρ id with
      | none => exact .dead
      | some j =>
        obtain ⟨r1, r2, r3, r4, r5⟩ := hρ id j hr
        cases h with
        | own hi hd hb hq hs hm hl hc hln => exact .own r1 r2 (r3.trans hb) hq (by rw [hw]; exact hs) hm hl hc (by rw [r5]; exact hln)
        | own0 hi hd hb hln => exact .own0 r1 r2 (r3.trans hb) (r5.trans hln)
        | staleO hi hd ho => exact absurd hd r4
    | mp id =>
      simp only [ren]
      cases hr : ρ id with
      | none => exact .dead
      | some j =>
        obtain ⟨r1, r2, r3, r4, r5⟩ := hρ id j hr
        cases h with
        | mp hi hd hb => exact .mp r1 r2 (r3.trans hb)
        | staleP hi hd ho => exact absurd hd r4
end
def PuS (m : List (Option Bk)) : List Src0 → Prop
  | [] => True
  | .old id true :: r => (∃ (α : Type) (f : α → List AV) (xs : List α) (sz : Nat), look m id = some ⟨sz, xs.map f⟩ ∧ ∀ y, (f y).all AV.pu1 = true) ∧ PuS m r
  | _ :: r => PuS m r
abbrev PuE (m : List (Option Bk)) (id : Nat) : Prop := ∃ (α : Type) (f : α → List AV) (xs : List α) (sz : Nat), look m id = some ⟨sz, xs.map f⟩ ∧ ∀ y, (f y).all AV.pu1 = true
theorem pu {α : Type} {m : List (Option Bk)} {id : Nat} (sz : Nat) (f : α → List AV) (xs : List α) (h : look m id = some ⟨sz, xs.map f⟩) (hp : ∀ y, (f y).all AV.pu1 = true) : PuE m id := ⟨α, f, xs, sz, h, hp⟩
theorem PuS.get {m : List (Option Bk)} : ∀ {src : List Src0}, PuS m src → ∀ (i id : Nat), src[i]? = some (.old id true) → ∀ B, look m id = some B → ∀ cs, cs ∈ B.els → ∀ c, c ∈ cs → Pu c
  | [], _, i, id, h, B, hB, cs, hcs, c, hc => by simp at h
  | .new _ :: r, hp, i, id, h, B, hB, cs, hcs, c, hc => by
    cases i with
    | zero => simp at h
    | succ i => exact PuS.get (src := r) hp i id (by simpa using h) B hB cs hcs c hc
  | .old _ false :: r, hp, i, id, h, B, hB, cs, hcs, c, hc => by
    cases i with
    | zero => simp at h
    | succ i => exact PuS.get (src := r) hp i id (by simpa using h) B hB cs hcs c hc
  | .old _ true :: r, hp, i, id, h, B, hB, cs, hcs, c, hc => by
    cases i with
    | zero =>
      simp only [List.getElem?_cons_zero, Option.some.injEq, Src0.old.injEq, and_true] at h
      subst h
      obtain ⟨⟨α, f, xs, sz, h1, h2⟩, _⟩ := hp
      rw [h1] at hB
      simp only [Option.some.injEq] at hB
      subst hB
      simp only [List.mem_map] at hcs
      obtain ⟨y, _, rfl⟩ := hcs
      have := h2 y
      simp only [List.all_eq_true] at this
      exact AV.pu1_pu (this c hc)
    | succ i => exact PuS.get (src := r) hp.2 i id (by simpa using h) B hB cs hcs c hc
theorem Mk.same {E E' : Env} (hI : E'.I = E.I) (hw : E'.w = E.w) {lo : Nat} {ds : List Deferred} (h : Mk E lo ds) : Mk E' lo ds := by
  induction h with
  | nil => exact .nil
  | cons h1 hD hh hne t ih => exact .cons (by rw [hI]; exact h1) hD (by rw [hw]; exact hh) hne ih
theorem norm_le {n k0 : Nat} {live : List Nat} {src : List Src0} {es : List (Nat × Nat)} {x y : L3} (h : normL k0 live src es x = some y) (hpu : PuS x.m src) : x.s.Le k0 n y.s := by
  have hp := hpu.get
  unfold normL at h
  cases hok : srcOK k0 src with
  | false => rw [hok] at h; simp at h
  | true =>
  rw [hok, cond_true, Option.some.injEq] at h
  subst h
  simp only [srcOK, Bool.and_eq_true, List.all_eq_true, List.mem_range] at hok
  obtain ⟨ok1, ok2⟩ := hok
  have inj : ∀ i id raw, src[i]? = some (.old id raw) → newOf src 0 id = some i := by
    intro i id raw hi
    have hlt : i < src.length := (List.getElem?_eq_some_iff.1 hi).1
    have := ok1 i hlt
    rw [hi] at this
    simp only at this
    cases hn : newOf src 0 id with
    | none => rw [hn] at this; simp at this
    | some j => rw [hn] at this; simp only at this; rw [Nat.eq_of_beq_eq_true this]
  have low : ∀ i, i < k0 → ∃ raw, src[i]? = some (.old i raw) := by
    intro i hi
    have := ok2 i hi
    cases hs : src[i]? with
    | none => rw [hs] at this; simp at this
    | some q =>
      cases q with
      | old id raw => rw [hs] at this; simp only at this; exact ⟨raw, by rw [Nat.eq_of_beq_eq_true this]⟩
      | new sz => rw [hs] at this; simp at this
  intro E0 J base w0 a w hk hr
  obtain ⟨E, rfl, hle, hs, hm, hkn, hmk⟩ := hr.ex
  let E' : Env := { w := E.w, kn := fun i => i < src.length, loc := fun i => locOf E.loc (src[i]?), dead := fun i => look (src.map (blkOf x.m src)) i = none, I := E.I, ln := fun i => lnOf E.ln (src[i]?), rg := E.rg }
  have hlive : ∀ id, look x.m id ≠ none → E.kn id ∧ ¬ E.dead id := fun id hid => by
    obtain ⟨B, hB⟩ := Option.ne_none_iff_exists'.1 hid
    exact (hm.live id).2 ⟨B, hB⟩
  have hρ : ∀ id j, rhoOf x.m src id = some j → E'.kn j ∧ ¬ E'.dead j ∧ E'.loc j = E.loc id ∧ ¬ E.dead id ∧ E'.ln j = E.ln id := by
    intro id j hj
    unfold rhoOf at hj
    cases hB : look x.m id with
    | none => rw [hB] at hj; simp at hj
    | some B =>
      rw [hB] at hj
      simp only [Option.isSome_some, cond_true] at hj
      obtain ⟨_, raw, h2⟩ := newOf_src src 0 id j hj
      simp only [Nat.sub_zero] at h2
      refine ⟨(List.getElem?_eq_some_iff.1 h2).1, ?_, ?_, (hlive id (by rw [hB]; simp)).2, by show lnOf E.ln (src[j]?) = _; rw [h2]; rfl⟩
      · show ¬ look _ j = none
        rw [look_map, h2]; simp [blkOf, hB]
      · show locOf E.loc (src[j]?) = _
        rw [h2]; rfl
  have hR : ∀ (d : Nat) {v : Value} {a : AV}, Rep E v a → Rep E' v (ren (rhoOf x.m src) d a) := ren_rep (E := E) (E' := E') rfl rfl (fun _ h => h) hρ
  have hget : ∀ i B', look (src.map (blkOf x.m src)) i = some B' → (∃ id raw B, src[i]? = some (.old id raw) ∧ look x.m id = some B ∧ B' = (bif raw then B else renB (rhoOf x.m src) B) ∧ E'.loc i = E.loc id) ∨ (∃ sz, src[i]? = some (.new sz) ∧ B' = ⟨sz, []⟩ ∧ E'.loc i = none) := by
    intro i B' hB'
    rw [look_map] at hB'
    cases hsi : src[i]? with
    | none => rw [hsi] at hB'; simp at hB'
    | some q =>
      rw [hsi] at hB'
      cases q with
      | old id raw =>
        simp only [Option.bind_some, blkOf, Option.map_eq_some_iff] at hB'
        obtain ⟨B, hB, rfl⟩ := hB'
        refine .inl ⟨id, raw, B, rfl, hB, rfl, ?_⟩
        show locOf E.loc (src[i]?) = _
        rw [hsi]; rfl
      | new sz =>
        simp only [Option.bind_some, blkOf, Option.some.injEq] at hB'
        subst hB'
        refine .inr ⟨sz, rfl, rfl, ?_⟩
        show locOf E.loc (src[i]?) = _
        rw [hsi]; rfl
  have hM : MemAt E' J base (look (src.map (blkOf x.m src))) := by
    refine ⟨fun i => ?_, fun i B' hB' => ?_, fun i i' b B1 B2 h1 h2 h3 h4 => ?_, fun i b B' hB' hl => ?_, hm.low, hm.size, fun i B' hB' hzz => ?_, hm.rgb⟩
    · show (i < src.length ∧ ¬ look _ i = none) ↔ _
      constructor
      · rintro ⟨_, h2⟩
        exact Option.ne_none_iff_exists'.1 h2
      · rintro ⟨B, hB⟩
        refine ⟨?_, by rw [hB]; simp⟩
        rw [look_map] at hB
        cases hsi : src[i]? with
        | none => rw [hsi] at hB; simp at hB
        | some q => exact (List.getElem?_eq_some_iff.1 hsi).1
    · rcases hget i B' hB' with ⟨id, raw, B, e1, e2, hBB, e4⟩ | ⟨sz, e1, rfl, e3⟩
      · rw [e4]
        have := hm.at_ id B e2
        have hsz : B'.sz = B.sz ∧ B'.els.length = B.els.length := by subst hBB; cases raw <;> simp [renB]
        have hel : ∀ (i : Nat) cs', B'.els[i]? = some cs' → ∃ cs, B.els[i]? = some cs ∧ cs'.length = cs.length ∧ ∀ (j : Nat) c', cs'[j]? = some c' → ∃ c, cs[j]? = some c ∧ ∀ u, Rep E u c → Rep E' u c' := by
          subst hBB
          cases raw with
          | true =>
            intro i' cs hi
            refine ⟨cs, hi, rfl, fun j c hj => ⟨c, hj, fun u hu => ?_⟩⟩
            exact Rep.pure (E := E) (E' := E') (fun b hb => ⟨hb, fun _ => rfl⟩) hu (hp i id e1 B e2 cs (List.mem_of_getElem? hi) c (List.mem_of_getElem? hj))
          | false =>
            intro i' cs' hi
            simp only [cond_false, renB, List.getElem?_map, Option.map_eq_some_iff] at hi
            obtain ⟨cs, hcs, rfl⟩ := hi
            refine ⟨cs, hcs, by simp, fun j c' hj => ?_⟩
            rw [List.getElem?_map, Option.map_eq_some_iff] at hj
            obtain ⟨c, hc, rfl⟩ := hj
            exact ⟨c, hc, fun u hu => hR 3 hu⟩
        cases hl : E.loc id with
        | none =>
          rw [hl] at this
          show B'.els = []
          have h0 : B.els = [] := this
          have := hsz.2
          rw [h0] at this
          exact List.eq_nil_of_length_eq_zero this
        | some b =>
          rw [hl] at this
          obtain ⟨q1, ⟨hz, arr, t, q2, q3, q4⟩ | ⟨hz, ent, clock, q2, q3, q4⟩⟩ := this
          · refine .ofCells ⟨q1, arr, t, q2, by rw [hsz.1, hsz.2]; exact q3, fun i cs' hi => ?_⟩ (by rw [hsz.1]; exact hz)
            obtain ⟨cs, hcs, hlen, hcell⟩ := hel i cs' hi
            obtain ⟨p1, p2⟩ := q4 i cs hcs
            refine ⟨by rw [hlen, hsz.1]; exact p1, fun j c' hj => ?_⟩
            obtain ⟨c, hc, hrep⟩ := hcell j c' hj
            obtain ⟨u, u1, u2, u3⟩ := p2 j c hc
            exact ⟨u, by rw [hsz.1]; exact u1, u2, hrep u u3⟩
          · refine .ofMap ⟨q1, ent, clock, q2, by rw [hsz.2]; exact q3, fun i' e cs' he hi => ?_⟩ (by rw [hsz.1]; exact hz)
            subst hBB
            cases raw with
            | true =>
              obtain ⟨y, k1, k2, k3⟩ := q4 i' e cs' he hi
              refine ⟨y, k1, k2, Rep.pure (E := E) (E' := E') (fun b hb => ⟨hb, fun _ => rfl⟩) k3 (hp i id e1 B e2 cs' (List.mem_of_getElem? hi) y (by rw [k1]; simp))⟩
            | false =>
              simp only [cond_false, renB, List.getElem?_map, Option.map_eq_some_iff] at hi
              obtain ⟨cs, hcs, rfl⟩ := hi
              obtain ⟨y, rfl, k2, k3⟩ := q4 i' e cs he hcs
              exact ⟨ren (rhoOf x.m src) 3 y, rfl, k2, hR 3 k3⟩
      · rw [e3]; rfl
    · rcases hget i B1 h1 with ⟨id, raw, B, e1, e2, _, e4⟩ | ⟨sz, _, _, e3⟩
      · rcases hget i' B2 h2 with ⟨id', raw', B', f1, f2, _, f4⟩ | ⟨sz, _, _, f3⟩
        · rw [e4] at h3; rw [f4] at h4
          have := hm.apart id id' b B B' e2 f2 h3 h4
          subst this
          have a1 := inj i id raw e1
          have a2 := inj i' id raw' f1
          rw [a1] at a2
          exact Option.some.inj a2
        · rw [f3] at h4; simp at h4
      · rw [e3] at h3; simp at h3
    · rcases hget i B' hB' with ⟨id, raw, B, e1, e2, _, e4⟩ | ⟨sz, _, _, e3⟩
      · rw [e4] at hl; exact hm.out id b B e2 hl
      · rw [e3] at hl; simp at hl
    · show _ = lnOf E.ln (src[i]?)
      rcases hget i B' hB' with ⟨id, raw, B, e1, e2, e3, e4⟩ | ⟨sz, e1, e2, e3⟩
      · rw [e1]; show _ = E.ln id
        rw [← hm.len id B e2 (by subst e3; cases raw <;> simpa [renB] using hzz), e3]; cases raw <;> simp [renB]
      · rw [e1, e2]; rfl
  have hE0 : E0.Le E' := by
    have locE : ∀ id, E0.kn id → E'.loc id = E.loc id := fun id hid => by
      show locOf E.loc (src[id]?) = _
      obtain ⟨raw, hl⟩ := low id (hk id hid)
      rw [hl]; rfl
    have deadE : ∀ id, E0.kn id → E.dead id → E'.dead id := fun id hid hd => by
      show look _ id = none
      obtain ⟨raw, hl⟩ := low id (hk id hid)
      rw [look_map, hl]
      cases hB : look x.m id with
      | none => simp [blkOf, hB]
      | some B => exact absurd hd (hlive id (by rw [hB]; simp)).2
    refine ⟨fun id hid => (low id (hk id hid)).elim fun _ hl => (List.getElem?_eq_some_iff.1 hl).1, hle.imm, fun id hid hd => deadE id hid (hle.dead id hid hd), fun id hid hd => ?_, fun id b hid hd hb => ?_, fun id hid hd => ?_, hle.rg⟩
    · rcases hle.loc id hid hd with h | h
      · exact .inl (deadE id hid h)
      · exact .inr ((locE id hid).trans h)
    · rcases hle.shape id b hid hd hb with h | h
      · exact .inl (deadE id hid h)
      · exact .inr h
    · rcases hle.ln id hid hd with h | h
      · exact .inl (deadE id hid h)
      · refine .inr (Eq.trans ?_ h)
        show lnOf E.ln (src[id]?) = _
        obtain ⟨raw, hl⟩ := low id (hk id hid)
        rw [hl]; rfl
  have hmk' : Mk E' w0.heap.size a.defers := Mk.same (E := E) (E' := E') rfl rfl hmk
  refine ⟨⟨E', rfl, hE0, fun t => ?_, hM, fun id hid => ?_, hmk'⟩, hr.size, hr.below, hr.gl⟩
  · show Rep E' _ (slot (live.map fun j => (j, renS (rhoOf x.m src) src es j (slot x.t j))) t)
    rcases slot_map (fun j => renS (rhoOf x.m src) src es j (slot x.t j)) live t with h | h
    · rw [h]
      have ht := hs t
      have ht' : Rep E (a.tmps.getD t undef) (slot x.t t) := ht
      have hdef : Rep E' (a.tmps.getD t undef) (ren (rhoOf x.m src) 4 (slot x.t t)) := hR 4 ht'
      unfold renS
      split
      · rename_i i he hl
        rw [he] at ht'
        split
        · rename_i sz hsz
          obtain ⟨A, hA⟩ := emp_inv ht'
          rw [hA]
          have hB' : look (src.map (blkOf x.m src)) i = some ⟨sz, []⟩ := by rw [look_map, hsz]; rfl
          have hz : sz ≠ 0 := by
            have := ok1 i (List.getElem?_eq_some_iff.1 hsz).1
            rw [hsz] at this
            have := Nat.le_of_ble_eq_true this
            omega
          refine .own0 (List.getElem?_eq_some_iff.1 hsz).1 (by show ¬ look _ i = none; rw [hB']; simp) ?_ ?_
          · show locOf E.loc (src[i]?) = _
            rw [hsz]; rfl
          · show lnOf E.ln (src[i]?) = _
            rw [hsz]; rfl
        · obtain ⟨A, hA⟩ := emp_inv ht'
          rw [hA]
          exact .emp
      · exact hdef
    · rw [h]; exact .dead
  · show id < (src.map _).length
    rw [List.length_map]; exact hid
section
variable {P : Program} {n k0 : Nat} {x : L3} {Q : Ex → L3 → Prop}
end
section
variable {g : Nat → Option Bk}
end
def Ale (a b : AV) : Prop := ∀ (E : Env) (v : Value), Rep E v a → Rep E v b
theorem Ale.refl {a : AV} : Ale a a := fun _ _ h => h
theorem Ale.of_eq {a b : AV} (h : a = b) : Ale a b := h ▸ Ale.refl
theorem Ale.trans {a b c : AV} (h : Ale a b) (k : Ale b c) : Ale a c := fun E v r => k E v (h E v r)
theorem Ale.emp {sz : Nat} : Ale .emp (.lst sz []) := fun E v h => by
  obtain ⟨A, rfl⟩ := emp_inv h
  exact .lst0 (by omega)
inductive AleL : List AV → List AV → Prop
  | nil : AleL [] []
  | cons {a b : AV} {r s : List AV} (h : Ale a b) (t : AleL r s) : AleL (a :: r) (b :: s)
theorem AleL.get {r s : List AV} (h : AleL r s) : r.length = s.length ∧ ∀ (i : Nat) b, s[i]? = some b → ∃ a, r[i]? = some a ∧ Ale a b := by
  induction h with
  | nil => exact ⟨rfl, fun i b h => by simp at h⟩
  | cons h t ih =>
    refine ⟨by simp [ih.1], fun i b hb => ?_⟩
    cases i with
    | zero => simp only [List.getElem?_cons_zero, Option.some.injEq] at hb; subst hb; exact ⟨_, by simp, h⟩
    | succ i => exact ih.2 i b (by simpa using hb)
theorem Ale.tup {r s : List AV} (h : AleL r s) : Ale (.tup r) (.tup s) := fun E v hv => by
  cases hv with
  | tup hl hh => exact .tup (hl.trans h.get.1) fun i u c hu hc => let ⟨a, ha, hab⟩ := h.get.2 i c hc; hab _ _ (hh i u a hu ha)
theorem Ale.agg {r s : List AV} (h : AleL r s) : Ale (.agg r) (.agg s) := fun E v hv => by
  cases hv with
  | agg hl hh => exact .agg (hl.trans h.get.1) fun i u c hu hc => let ⟨a, ha, hab⟩ := h.get.2 i c hc; hab _ _ (hh i u a hu ha)
theorem Fn.args {P : Program} {f : FuncId} {as_ as' : List AV} {r : AV} (h : Fn P f as_ r) (ha : AleL as' as_) : Fn P f as' r := fun w J vs hJ hG hrc =>
  h w J vs hJ hG ⟨hrc.1.trans ha.get.1, fun i u c hu hc => let ⟨a, h1, h2⟩ := ha.get.2 i c hc; h2 _ _ (hrc.2 i u a hu h1)⟩
theorem fn_ofW {P : Program} {f : FuncId} {F : AFn} (hF : cFunc P f = some F) {as_ : List AV} (hl : as_.length ≤ F.n) {r : AV}
    (h : EW P F.n 0 F.code ⟨σ0 as_, fun _ => none, 0⟩ fun x s' => (x = .normal ∨ x = .ret) ∧ ∃ r', ((resR s'.σ F.res).bind snapR).run s'.g = some r' ∧ Ale r' r) : Fn P f as_ r := by
  intro w J vs hJ hG hrc
  obtain ⟨fn, c, h1, h2, h3, h4, h5⟩ := cFunc_inv hF
  have hm : MemAt (E0 w J) J w.heap.size (fun _ => none) := ⟨fun id => by simp [E0], fun id B hg => by simp at hg, fun id id' b B B' hg => by simp at hg, fun id b B hg => by simp at hg, fun b hb => ⟨hJ b hb, .inl hb⟩, Nat.le_refl _, fun id B hg => by simp at hg, fun _ h => h.elim⟩
  refine calls_marks h1 h2 (wpIn_mono (h none c (E0 w J) J w.heap.size w _ w (fun _ => rfl) h4 (fun id hid => hid.elim) ⟨⟨E0 w J, rfl, Env.Le.refl _, start_rep hrc _, hm, fun id hid => hid.elim, .nil⟩, ?_, Below.refl _ _, hG⟩) ?_)
  · simp only [Array.size_append, Array.size_replicate, hrc.1]; omega
  · rintro e a' w' ⟨x, s', ⟨hx, r', hr, hale⟩, rfl, hrel⟩
    obtain ⟨E1, rfl, hle, hs1, hM1, hk, hmk⟩ := hrel.ex
    refine ⟨by rcases hx with rfl | rfl <;> simp [Ex.up], marks_leave _ E1 hmk fun E' hS => ?_⟩
    have hM := hS.mem hM1
    have hs := fun t => hS.rep (hs1 t)
    obtain ⟨r0, hr1, hr2⟩ := bind_run hr
    obtain ⟨v, e1, e2⟩ := res_run hM hs h3 hr1
    have hI : ∀ ids b, Handed E' s'.g ids b → J b ∨ (w.heap.size ≤ b ∧ b < E'.w.heap.size) := by
      intro ids b hb
      rcases hb with hb | ⟨id, B, _, hg, hl⟩
      · have := hM.low b hb
        rcases this.2 with h | h
        · exact .inl h
        · exact .inr ⟨h, this.1⟩
      · have := hM.at_ id B hg
        rw [hl] at this
        exact .inr this.lt
    have hrep : Rep (Proofs.Ytfjkncmcpeacjaa.E0 E'.w fun b => J b ∨ (w.heap.size ≤ b ∧ b < E'.w.heap.size)) v r := by
      refine hale _ _ ?_
      cases r0 with
      | tup us =>
        simp only [snapR] at hr2
        obtain ⟨l, m1, m2⟩ := bind_run hr2
        simp only [RM.run, Option.some.injEq] at m2; subst m2
        obtain ⟨k1, k2⟩ := snapAs_rep hM _ m1 (hI _)
        cases e2 with
        | tup hl h =>
          refine .tup (by rw [k1]; exact hl) fun i v c hv hc => ?_
          have hi : i < us.length := by rw [← k1]; exact (List.getElem?_eq_some_iff.1 hc).1
          exact k2 i v us[i] c (h i v _ hv (List.getElem?_eq_getElem hi)) (List.getElem?_eq_getElem hi) hc
      | _ => exact snapA_rep hM _ e2 hr2 (hI _)
    exact ⟨v, e1, v, rfl, hrep, hS.below (Nat.le_refl _) hrel.below⟩
theorem fi_ofW {P : Program} {f : FuncId} {F : AFn} (hF : cFunc P f = some F) {as_ : List AV} (hl : as_.length ≤ F.n) {g g' : Nat → Option Bk} {k k' : Nat} {r : AV}
    (h : EW P F.n k F.code ⟨σ0 as_, g, k⟩ fun x s' => (x = .normal ∨ x = .ret) ∧ ∃ y : S3, s'.Le k F.n y ∧ (resR y.σ F.res).run y.g = some r ∧ y.g = g' ∧ y.k = k') : Fi P f as_ g k r g' k' := by
  intro E J base vs hG hm hkn hrc
  obtain ⟨fn, c, h1, h2, h3, h4, h5⟩ := cFunc_inv hF
  refine calls_marks h1 h2 (wpIn_mono (h none c E J base E.w _ E.w (fun _ => rfl) h4 hkn ⟨⟨E, rfl, Env.Le.refl E, start_rep hrc _, hm, hkn, .nil⟩, ?_, Below.refl _ _, hG⟩) ?_)
  · simp only [Array.size_append, Array.size_replicate, hrc.1]; omega
  · rintro e a' w' ⟨x, s', ⟨hx, y, hy, hr, rfl, rfl⟩, rfl, hrel0⟩
    have hrel := hy E J base E.w a' w' hkn hrel0
    obtain ⟨E', rfl, hle, hs, hM, hk, hmk⟩ := hrel.ex
    refine ⟨by rcases hx with rfl | rfl <;> simp [Ex.up], marks_leave _ E' hmk fun E2 hS => ?_⟩
    have hM2 := hS.mem hM
    obtain ⟨v, e1, e2⟩ := res_run hM2 (fun t => hS.rep (hs t)) h3 hr
    exact ⟨v, e1, v, E2, rfl, rfl, hS.le hle fun b hb => (hm.low b hb).1, e2, hM2, hS.below hm.size hrel.below, fun id hid => hk id (by rw [← hS.eqs.1]; exact hid)⟩
theorem fV {P : Program} {f : FuncId} {F : AFn} (hF : cFunc P f = some F) {as_ : List AV} (hl : as_.length ≤ F.n) {r : AV} {m m' : List (Option Bk)}
    (h : EL P F.n m.length F.code ⟨startT 0 as_, m⟩ fun e x => (e = .normal ∨ e = .ret) ∧ ∃ y : L3, x.s.Le m.length F.n y.s ∧ (resR (slot y.t) F.res).run (look y.m) = some r ∧ y.m = m') : Fi P f as_ (look m) m.length r (look m') m'.length := by
  refine fi_ofW hF hl (EW.weak (start_le as_ _ _) (EW.conseq h ?_))
  rintro e s ⟨x', rfl, h1, y, h2, h3, rfl⟩
  exact ⟨h1, y.s, h2, h3, rfl, rfl⟩
theorem fo_of {P : Program} {f : FuncId} {as_ : List AV} {sz : Nat} {els : List (List AV)} (h : Fi P f as_ (look []) 0 (.own 0 sz 0 els.length) (look [some ⟨sz, els⟩]) 1) : Fo P f as_ sz els := by
  intro w J vs hJ hG hrc
  have hm : MemAt (E0 w J) J w.heap.size (look []) := ⟨fun id => by simp [E0, look], fun id B hg => by simp [look] at hg, fun id id' b B B' hg => by simp [look] at hg, fun id b B hg => by simp [look] at hg, fun b hb => ⟨hJ b hb, .inl hb⟩, Nat.le_refl _, fun id B hg => by simp [look] at hg, fun _ h => h.elim⟩
  refine (h (E0 w J) J w.heap.size vs hG hm (fun id hid => hid.elim) hrc).mono ?_
  rintro e w' ⟨v, E', he, hw, hle, hr, hM, hb, hk⟩
  have hg : look [some (⟨sz, els⟩ : Bk)] 0 = some ⟨sz, els⟩ := rfl
  obtain ⟨k1, k2⟩ := (hM.live 0).2 ⟨_, hg⟩
  exact ⟨v, E', he, hw, hb, hr, k1, k2, hM.at_ 0 _ hg, (hM.len 0 _ hg (hr.own_sz k2)).symm⟩
section
variable {P : Program} {n k0 : Nat} {x : L3} {K : L3 → Prop} {R : List AOper} {k : Nat}
end
section
variable {o : AOper} {x : L3}
end
open Go.RowKit
def Del1 (sz : Nat) : List AOper := [⟨some 8, .mov (.s 0), none⟩, ⟨some 9, .mov (.s 1), none⟩, ⟨some 10, .mov (.s 2), none⟩, ⟨some 11, .mov (.s 0), none⟩, ⟨some 12, .len false (.s 11), none⟩, ⟨some 13, .slc sz (.s 8) (some (.s 9)) (some (.s 10)) (some (.s 12)), none⟩]
def Del2 : List AOper := [⟨some 14, .mov (.s 1), none⟩, ⟨some 15, .mov (.s 2), none⟩, ⟨some 16, .bin false .eql (.s 14) (.s 15), none⟩]
def Del3 : List AOper := [⟨some 17, .mov (.s 0), none⟩, ⟨some 6, .mov (.s 17), none⟩]
def Del4 : List AOper := [⟨some 18, .mov (.s 0), none⟩, ⟨some 19, .len false (.s 18), none⟩, ⟨some 7, .mov (.s 19), none⟩]
def Del5 (sz by_ : Nat) : List AOper := [⟨some 20, .mov (.s 0), none⟩, ⟨some 21, .mov (.s 1), none⟩, ⟨some 22, .slc sz (.s 20) none (some (.s 21)) none, none⟩, ⟨some 23, .mov (.s 0), none⟩, ⟨some 24, .mov (.s 2), none⟩, ⟨some 25, .slc sz (.s 23) (some (.s 24)) none none, none⟩, ⟨some 26, .app sz by_ (.s 22) (.s 25), none⟩, ⟨some 0, .mov (.s 26), none⟩]
def Del6 (sz : Nat) (zs : List AV) : List AOper := [⟨some 27, .mov (.s 0), none⟩, ⟨some 28, .mov (.s 0), none⟩, ⟨some 29, .len false (.s 28), none⟩, ⟨some 30, .mov (.s 7), none⟩, ⟨some 31, .slc sz (.s 27) (some (.s 29)) (some (.s 30)) none, none⟩, ⟨none, .clr zs (.s 31), none⟩]
def Del7 : List AOper := [⟨some 32, .mov (.s 0), none⟩, ⟨some 6, .mov (.s 32), none⟩]
def DelDep : List (List Nat) := [[], [], [0, 1], [], [], [3, 4], [2, 5, 0, 1, 3, 4], [6, 0, 1, 2, 3, 4, 5]]
def DelF (sz by_ : Nat) (zs : List AV) : AFn := ⟨33, [.tmp 6],
  .seq (.reg [⟨some 6, .mov (.c .emp), none⟩] none)
  (.seq (.reg (Del1 sz) none)
  (.seq (.seq (.reg Del2 none)
  (.cond (.s 16)
    (.seq (.reg Del3 none)
    (.ret))
    (.skip)))
  (.seq (.reg Del4 none)
  (.seq (.reg (Del5 sz by_) (some DelDep))
  (.seq (.reg (Del6 sz zs) none)
  (.seq (.reg Del7 none)
  (.ret)))))))⟩
def delM (m : List (Option Bk)) (id : Nat) (B : Bk) : List (Option Bk) := m.set id none ++ [none, some B]
theorem trunc_le {n k0 : Nat} {x : L3} {id sz c t0 : Nat} {els : List (List AV)} (hB : look x.m id = some ⟨sz, els⟩) (hc : c ≤ els.length) (hs : slot x.t t0 = .own id sz 0 c) {y : L3} (hy : y.t = [(t0, .own x.m.length sz 0 c)]) (hm : y.m = x.m.set id none ++ [some ⟨sz, els.take c⟩]) : x.s.Le k0 n y.s := by
  intro E0 J base w0 a w hk hr
  obtain ⟨E, rfl, hle, hsl, hmm, hkn, hmk⟩ := hr.ex
  have hid : id < x.m.length := by
    rcases Nat.lt_or_ge id x.m.length with h | h
    · exact h
    · unfold look at hB; rw [List.getElem?_eq_none h] at hB; simp at hB
  have hf : ¬ E.kn x.m.length := fun hh => Nat.lt_irrefl _ (hkn _ hh)
  have hz0 : sz ≠ 0 := (show Rep E (a.tmps.getD t0 undef) (.own id sz 0 c) by rw [← hs]; exact hsl t0).own_sz ((hmm.live id).2 ⟨_, hB⟩).2
  obtain ⟨E', hw, hE, hM, k1, k2, k3, k4, k5⟩ := hmm.move hf id ⟨sz, els⟩ ⟨sz, els.take c⟩ hB E.w (fun _ _ => rfl) rfl (fun _ _ => rfl) (fun E' hE hw => by
    have := (hmm.at_ id _ hB)
    cases hl : E.loc id with
    | none =>
      rw [hl] at this
      have h0 : els = [] := this
      show els.take c = []
      rw [h0]; simp
    | some b =>
      rw [hl] at this
      obtain ⟨q1, arr, t, q2, q3, q4⟩ := this.cells hz0
      refine .ofCells ⟨q1, arr, t, by rw [hw]; exact q2, ?_, fun i cs hi => ?_⟩ hz0
      · refine Nat.le_trans (Nat.mul_le_mul_right _ ?_) q3
        simp only [List.length_take]; omega
      · have hi' : els[i]? = some cs := by
          simp only [List.getElem?_take] at hi
          split at hi
          · exact hi
          · simp at hi
        refine ⟨(q4 i cs hi').1, fun j x hj => ?_⟩
        obtain ⟨u, u1, u2, u3⟩ := (q4 i cs hi').2 j x hj
        exact ⟨u, u1, u2, u3.step hE⟩)
  have hg : gput (look x.m) [(id, none), (x.m.length, some ⟨sz, els.take c⟩)] = look y.m := by
    rw [hm]
    have e1 := look_put x.m id none (by omega)
    rw [if_pos hid] at e1
    have e2 := look_put (x.m.set id none) x.m.length (some ⟨sz, els.take c⟩) (by simp)
    rw [if_neg (by simp)] at e2
    rw [e2, e1]
    rfl
  have hM := hg ▸ (show MemAt E' J base (gput (look x.m) [(id, none), (x.m.length, some ⟨sz, els.take c⟩)]) from hM)
  refine ⟨⟨E', hw, hle.trans hE, fun t => ?_, hM, fun j hj => ?_, hmk.step hE⟩, hr.size, hr.below, hr.gl⟩
  · show Rep E' _ (slot y.t t)
    rw [hy]
    simp only [slot]
    cases hb : Nat.beq t t0 with
    | false => exact .dead
    | true =>
      have := Nat.eq_of_beq_eq_true hb
      subst this
      have hv := hsl t
      have hv' : Rep E (a.tmps.getD t undef) (.own id sz 0 c) := by rw [← hs]; exact hv
      have hlive := (hmm.live id).2 ⟨_, hB⟩
      have hlen : c ≤ els.length := hc
      simp only [cond_true]
      obtain ⟨vv, hvv⟩ : ∃ vv, vv = a.tmps.getD t undef := ⟨_, rfl⟩
      rw [← hvv] at hv' ⊢
      cases hv' with
      | staleO hi hd => exact absurd hd hlive.2
      | own hi hd hb hq hss hm' hl hcc hln =>
        refine .own k1 k2 (k3.trans hb) hq (by rw [hw]; exact hss) hm' hl hcc (by rw [k5]; simp only [List.length_take]; omega)
      | own0 hi hd hb hln => exact .own0 k1 k2 (k3.trans hb) (by rw [k5]; simp)
  · show j < y.m.length
    rw [hm]
    simp only [List.length_append, List.length_set, List.length_cons, List.length_nil]
    rcases k4 j hj with h | h
    · have h' : j < x.m.length := hkn j h
      omega
    · omega
section
variable {o : AOper} {x : L3}
theorem optNat_nat {σ : Nat → AV} {a : Arg} {n : Nat} (h : argσ σ a = VI n) : optNat (argσ σ) (some a) = some (some n) := by
  simp only [optNat, h, natOf]
  rw [if_pos (by omega)]; simp
theorem opE_slco2 (a : Arg) (lo hi : Option Arg) (sz id off n l h : Nat) (lo' hi' : Option Nat) (B : Bk) (ho : o.ao = .slc sz a lo hi none) (hg : guardA (slot x.t) o.guard = some true) (ha : argσ (slot x.t) a = .own id sz off n) (hlo : optNat (argσ (slot x.t)) lo = some lo') (hhi : optNat (argσ (slot x.t)) hi = some hi') (hbd : bounds n lo' hi' = some (l, h)) (hB : look x.m id = some B) :
    opE o x = .done (.own id sz (off + l) (h - l)) [] [id] := by
  have hn : optNat (argσ (slot x.t)) none = some none := rfl
  have hs : (AO.slc sz a lo hi none).sem x.m.length (argσ (slot x.t)) = .lv id (.ret (.done (.own id sz (off + l) (h - l)) [])) := by simp [AO.sem, ha, hlo, hhi, hn, hbd, RM.opt]
  exact opE_sem _ (acc := []) (see := [id]) ho hg (by rw [hs]; simp [RM.run, hB]) (by rw [hs]; rfl) (by rw [hs]; rfl)
theorem opE_slco3 (a : Arg) (lo hi : Option Arg) (mx : Arg) (sz id off n l h mm : Nat) (lo' hi' : Option Nat) (B : Bk) (ho : o.ao = .slc sz a lo hi (some mx)) (hg : guardA (slot x.t) o.guard = some true) (ha : argσ (slot x.t) a = .own id sz off n) (hlo : optNat (argσ (slot x.t)) lo = some lo') (hhi : optNat (argσ (slot x.t)) hi = some hi') (hmx : optNat (argσ (slot x.t)) (some mx) = some (some mm)) (hbd : bounds n lo' hi' = some (l, h)) (hB : look x.m id = some B) (h1 : B.els.length ≤ off + mm) (h2 : h ≤ mm ∧ mm ≤ n) (h3 : mm ≠ l) (hBz : B.sz = sz := by rfl) :
    opE o x = .done (.own id sz (off + l) (h - l)) [] [id, id] := by
  have hs : (AO.slc sz a lo hi (some mx)).sem x.m.length (argσ (slot x.t)) = .lv id (.rd id fun B => if B.sz = sz ∧ B.els.length ≤ off + mm then .ret (.done (.own id sz (off + l) (h - l)) []) else .fail) := by
    simp [AO.sem, ha, hlo, hhi, hmx, hbd, RM.opt, h2, h3]
  exact opE_sem _ (acc := [id]) (see := [id]) ho hg (by rw [hs]; simp [RM.run, hB, h1, hBz]) (by rw [hs]; simp [RM.acc, hB, h1, hBz]) (by rw [hs]; simp [RM.see, hB, h1, hBz])
theorem opE_slco2h (a : Arg) (lo hi : Option Arg) (sz id off n l h : Nat) (lo' : Option Nat) (hh : Nat) (B : Bk) (ho : o.ao = .slc sz a lo hi none) (hg : guardA (slot x.t) o.guard = some true) (ha : argσ (slot x.t) a = .own id sz off n) (hlo : optNat (argσ (slot x.t)) lo = some lo') (hhi : optNat (argσ (slot x.t)) hi = some (some hh)) (hno : bounds n lo' (some hh) = none) (hB : look x.m id = some B) (hbd : bounds (B.els.length - off) lo' (some hh) = some (l, h)) (hBz : B.sz = sz := by rfl) :
    opE o x = .done (.own id sz (off + l) (h - l)) [] [id, id] := by
  have hn : optNat (argσ (slot x.t)) none = some none := rfl
  have hs : (AO.slc sz a lo hi none).sem x.m.length (argσ (slot x.t)) = .lv id (.rd id fun B => if B.sz = sz then .opt ((bounds (B.els.length - off) lo' (some hh)).map fun b => .done (.own id sz (off + b.1) (b.2 - b.1)) []) else .fail) := by simp [AO.sem, ha, hlo, hhi, hn, hno]
  exact opE_sem _ (acc := [id]) (see := [id]) ho hg (by rw [hs]; simp [RM.run, RM.opt, hB, hbd, hBz]) (by rw [hs]; simp [RM.acc, RM.opt, hB, hbd, hBz]) (by rw [hs]; simp [RM.see, RM.opt, hB, hbd, hBz])
theorem opE_appIn (s a : Arg) (sz by_ id off n : Nat) (els ys : List (List AV)) (w : AV) (acc : List Nat) (ho : o.ao = .app sz by_ s a) (hg : guardA (slot x.t) o.guard = some true) (hs : argσ (slot x.t) s = .own id sz off n) (ha : argσ (slot x.t) a = w) (c1 : (content sz w).run (look x.m) = some ys) (c2 : (content sz w).acc (look x.m) = acc) (c3 : (content sz w).see (look x.m) = [])
    (hB : look x.m id = some ⟨sz, els⟩) (hno : ¬ (off = 0 ∧ n = els.length)) (hfit : off + n + ys.length ≤ els.length) :
    opE o x = .done (.own id sz off (n + ys.length)) [(id, some ⟨sz, els.take (off + n) ++ ys ++ els.drop (off + n + ys.length)⟩), (x.m.length, none)] (acc ++ [id]) := by
  let F : List (List AV) → RM Out := fun ys => .rd id fun B => if sz = sz ∧ B.sz = sz ∧ off = 0 ∧ n = B.els.length ∧ (n + ys.length) * by_ ≤ 140737488355328 then .ret (.done (.own x.m.length sz 0 (n + ys.length)) [(id, none), (x.m.length, some ⟨sz, B.els ++ ys⟩)])
    else if sz = sz ∧ B.sz = sz ∧ off + n + ys.length ≤ B.els.length then .ret (.done (.own id sz off (n + ys.length)) [(id, some ⟨B.sz, B.els.take (off + n) ++ ys ++ B.els.drop (off + n + ys.length)⟩), (x.m.length, none)]) else .fail
  have hsem : (AO.app sz by_ s a).sem x.m.length (argσ (slot x.t)) = (content sz w).bind F := by simp [AO.sem, hs, ha, F]
  obtain ⟨r1, r2, r3⟩ := run_bind (f := F) _ c1
  have hno' : ¬ (off = 0 ∧ n = els.length ∧ (n + ys.length) * by_ ≤ 140737488355328) := fun h => hno ⟨h.1, h.2.1⟩
  have hF1 : (F ys).run (look x.m) = some (.done (.own id sz off (n + ys.length)) [(id, some ⟨sz, els.take (off + n) ++ ys ++ els.drop (off + n + ys.length)⟩), (x.m.length, none)]) := by
    simp only [F, RM.run, hB, true_and]; rw [if_neg hno', if_pos hfit]; rfl
  have hF2 : (F ys).acc (look x.m) = [id] := by
    simp only [F, RM.acc, hB, true_and]; rw [if_neg hno', if_pos hfit]; rfl
  have hF3 : (F ys).see (look x.m) = [] := by
    simp only [F, RM.see, hB, true_and]; rw [if_neg hno', if_pos hfit]; rfl
  have := opE_sem (AO.app sz by_ s a) (o := o) (x := x) (acc := acc ++ [id]) (see := []) ho hg (by rw [hsem, r1]; exact hF1) (by rw [hsem, r2, c2, hF2]) (by rw [hsem, r3, c3, hF3]; rfl)
  simpa using this
theorem opE_clr (zs : List AV) (a : Arg) (sz id off n : Nat) (els : List (List AV)) (ho : o.ao = .clr zs a) (hg : guardA (slot x.t) o.guard = some true) (hz : zs.length = sz) (ha : argσ (slot x.t) a = .own id sz off n) (hB : look x.m id = some ⟨sz, els⟩) (hfit : off + n ≤ els.length) :
    opE o x = .done (.v undef) [(id, some ⟨sz, els.take off ++ List.replicate n zs ++ els.drop (off + n)⟩)] [id] := by
  subst hz
  have hs : (AO.clr zs a).sem x.m.length (argσ (slot x.t)) = .rd id fun B => if B.sz = zs.length ∧ off + n ≤ B.els.length then .ret (.done (.v undef) [(id, some ⟨B.sz, B.els.take off ++ List.replicate n zs ++ B.els.drop (off + n)⟩)]) else .fail := by simp [AO.sem, ha]
  exact opE_sem _ (acc := [id]) (see := []) ho hg (by rw [hs]; simp [RM.run, hB, hfit]) (by rw [hs]; simp [RM.acc, hB, hfit]) (by rw [hs]; simp [RM.see, hB, hfit])
end
section
variable {P : Program} {sz by_ : Nat} {zs : List AV} {m : List (Option Bk)} {id i : Nat} {els : List (List AV)}
theorem look_lt {B : Bk} (hB : look m id = some B) : id < m.length := by
  rcases Nat.lt_or_ge id m.length with h | h
  · exact h
  · unfold look at hB; rw [List.getElem?_eq_none h] at hB; simp at hB
theorem delete_fi {f : FuncId} (hF : cFunc P f = some (DelF sz by_ zs)) (hz : zs.length = sz) (hB : look m id = some ⟨sz, els⟩) (hi : i < els.length) (hb : els.length ≤ 4611686018427387904) :
    Fi P f [.own id sz 0 els.length, VI i, VI (i + 1 : Nat)] (look m) m.length (.own (m.length + 1) sz 0 (els.length - 1)) (look (delM m id ⟨sz, els.eraseIdx i⟩)) (delM m id ⟨sz, els.eraseIdx i⟩).length := by
  have hid := look_lt hB
  have e1 : ((i : Int)).toNat = i := by omega
  have e2 : (((i + 1 : Nat) : Int)).toNat = i + 1 := by omega
  have e3 : ((els.length : Int)).toNat = els.length := by omega
  have p1 : (0 : Int) ≤ (i : Int) := by omega
  have p2 : (0 : Int) ≤ ((i + 1 : Nat) : Int) := by omega
  have p3 : (0 : Int) ≤ (els.length : Int) := by omega
  refine fV hF (by show 3 ≤ 33; omega) ?_
  refine EL.sreg ?_
  refine OW.last 1 [0, 1, 2] (x' := ⟨[(0, .own id sz 0 els.length), (1, VI i), (2, VI (i + 1 : Nat))], m⟩) (by kernel_rfl) (by kernel_rfl) ?_
  refine EL.sreg ?_
  refine OW.run 4 (x' := ⟨[(11, .own id sz 0 els.length), (10, VI (i + 1 : Nat)), (9, VI i), (8, .own id sz 0 els.length), (0, .own id sz 0 els.length), (1, VI i), (2, VI (i + 1 : Nat))], m⟩) (by kernel_rfl) ?_
  refine OW.ope (v := VI els.length) (u := []) (acc := [id]) (x' := ⟨[(12, VI els.length), (11, .own id sz 0 els.length), (10, VI (i + 1 : Nat)), (9, VI i), (8, .own id sz 0 els.length), (0, .own id sz 0 els.length), (1, VI i), (2, VI (i + 1 : Nat))], m⟩) (by kernel_rfl) (opE_sem _ (acc := []) (see := [id]) rfl rfl (by simp [opD, Del1, AO.sem, argσ, slot, RM.run, hB, goInt]) (by simp [opD, Del1, AO.sem, argσ, slot, RM.acc]) (by simp [opD, Del1, AO.sem, argσ, slot, RM.see])) (by kernel_rfl) ?_
  refine OW.ope (v := .own id sz (0 + i) (i + 1 - i)) (u := []) (acc := [id, id]) (x' := ⟨[(13, .own id sz (0 + i) (i + 1 - i)), (12, VI els.length), (11, .own id sz 0 els.length), (10, VI (i + 1 : Nat)), (9, VI i), (8, .own id sz 0 els.length), (0, .own id sz 0 els.length), (1, VI i), (2, VI (i + 1 : Nat))], m⟩) (by kernel_rfl)
    (opE_slco3 (.s 8) (some (.s 9)) (some (.s 10)) (.s 12) sz id 0 els.length i (i + 1) els.length (some i) (some (i + 1)) ⟨sz, els⟩ rfl rfl rfl (optNat_nat (by rfl)) (optNat_nat (by rfl)) (optNat_nat (by rfl)) (by simp [bounds]; omega) hB (by simp) ⟨by omega, by omega⟩ (by omega)) (by kernel_rfl) ?_
  refine OW.last 0 [0, 1, 2] (x' := ⟨[(0, .own id sz 0 els.length), (1, VI i), (2, VI (i + 1 : Nat))], m⟩) (by kernel_rfl) (by kernel_rfl) ?_
  refine EL.seq ?_
  refine EL.sreg ?_
  refine OW.last 3 [0, 1, 2, 16] (x' := ⟨[(16, .v (.bool ((i : Int) == ((i + 1 : Nat) : Int)))), (0, .own id sz 0 els.length), (1, VI i), (2, VI (i + 1 : Nat))], m⟩) (by kernel_rfl) (by kernel_rfl) ?_
  have hne : ((i : Int) == ((i + 1 : Nat) : Int)) = false := by simp; omega
  rw [hne]
  refine EL.condF (by kernel_rfl) ?_
  refine EL.skip ?_
  refine tN ?_
  refine EL.sreg ?_
  refine OW.run 1 (x' := ⟨[(18, .own id sz 0 els.length), (16, .v (.bool false)), (0, .own id sz 0 els.length), (1, VI i), (2, VI (i + 1 : Nat))], m⟩) (by kernel_rfl) ?_
  refine OW.ope (v := VI els.length) (u := []) (acc := [id]) (x' := ⟨[(19, VI els.length), (18, .own id sz 0 els.length), (16, .v (.bool false)), (0, .own id sz 0 els.length), (1, VI i), (2, VI (i + 1 : Nat))], m⟩) (by kernel_rfl) (opE_sem _ (acc := []) (see := [id]) rfl rfl (by simp [opD, Del4, AO.sem, argσ, slot, RM.run, hB, goInt]) (by simp [opD, Del4, AO.sem, argσ, slot, RM.acc]) (by simp [opD, Del4, AO.sem, argσ, slot, RM.see])) (by kernel_rfl) ?_
  refine OW.last 1 [0, 1, 2, 7] (x' := ⟨[(7, VI els.length), (0, .own id sz 0 els.length), (1, VI i), (2, VI (i + 1 : Nat))], m⟩) (by kernel_rfl) (by kernel_rfl) ?_
  refine EL.sdraw ?_
  refine DW.run 2 (x' := ⟨[(21, VI i), (20, .own id sz 0 els.length), (7, VI els.length), (0, .own id sz 0 els.length), (1, VI i), (2, VI (i + 1 : Nat))], m⟩) (by kernel_rfl) ?_
  refine DW.ope (v := .own id sz (0 + 0) (i - 0)) (u := []) (acc := [id]) (x' := ⟨[(22, .own id sz (0 + 0) (i - 0)), (21, VI i), (20, .own id sz 0 els.length), (7, VI els.length), (0, .own id sz 0 els.length), (1, VI i), (2, VI (i + 1 : Nat))], m⟩) (by kernel_rfl)
    (opE_slco2 (.s 20) none (some (.s 21)) sz id 0 els.length 0 i none (some i) ⟨sz, els⟩ rfl rfl rfl rfl (optNat_nat (by rfl)) (by simp [bounds]; omega) hB) (by kernel_rfl) ?_
  refine DW.run 2 (x' := ⟨[(24, VI (i + 1 : Nat)), (23, .own id sz 0 els.length), (22, .own id sz (0 + 0) (i - 0)), (21, VI i), (20, .own id sz 0 els.length), (7, VI els.length), (0, .own id sz 0 els.length), (1, VI i), (2, VI (i + 1 : Nat))], m⟩) (by kernel_rfl) ?_
  refine DW.ope (v := .own id sz (0 + (i + 1)) (els.length - (i + 1))) (u := []) (acc := [id]) (x' := ⟨[(25, .own id sz (0 + (i + 1)) (els.length - (i + 1))), (24, VI (i + 1 : Nat)), (23, .own id sz 0 els.length), (22, .own id sz (0 + 0) (i - 0)), (21, VI i), (20, .own id sz 0 els.length), (7, VI els.length), (0, .own id sz 0 els.length), (1, VI i), (2, VI (i + 1 : Nat))], m⟩) (by kernel_rfl)
    (opE_slco2 (.s 23) (some (.s 24)) none sz id 0 els.length (i + 1) els.length (some (i + 1)) none ⟨sz, els⟩ rfl rfl rfl (optNat_nat (by rfl)) rfl (by simp [bounds]; omega) hB) (by kernel_rfl) ?_
  obtain ⟨ys, hys⟩ : ∃ ys, ys = (els.drop (0 + (i + 1))).take (els.length - (i + 1)) := ⟨_, rfl⟩
  have hyl : ys.length = els.length - (i + 1) := by rw [hys]; simp
  obtain ⟨els2, he2⟩ : ∃ els2, els2 = els.take (0 + 0 + (i - 0)) ++ ys ++ els.drop (0 + 0 + (i - 0) + ys.length) := ⟨_, rfl⟩
  have hl2 : els2.length = els.length := by rw [he2]; simp; omega
  obtain ⟨m2, hm2⟩ : ∃ m2, m2 = m.set id (some ⟨sz, els2⟩) ++ [none] := ⟨_, rfl⟩
  have hput : mput m [(id, some ⟨sz, els2⟩), (m.length, none)] = m2 := by
    simp only [mput]
    rw [if_pos hid, if_neg (by simp), hm2]
  have hml : m2.length = m.length + 1 := by rw [hm2]; simp
  have hlk : look m2 id = some ⟨sz, els2⟩ := by
    rw [hm2]; unfold look
    rw [List.getElem?_append_left (by simpa using hid)]
    simp [hid]
  have hc1 : (content sz (.own id sz (0 + (i + 1)) (els.length - (i + 1)))).run (look m) = some ys := by
    simp only [content, RM.run, hB, true_and]; rw [if_pos (by omega), hys]; rfl
  have hc2 : (content sz (.own id sz (0 + (i + 1)) (els.length - (i + 1)))).acc (look m) = [id] := by
    simp only [content, RM.acc, hB, true_and]; rw [if_pos (by omega)]; rfl
  have hc3 : (content sz (.own id sz (0 + (i + 1)) (els.length - (i + 1)))).see (look m) = [] := by
    simp only [content, RM.see, hB, true_and]; rw [if_pos (by omega)]; rfl
  have hups : upsOK m.length [(id, some (⟨sz, els2⟩ : Bk)), (m.length, none)] = true := by
    simp only [upsOK]; rw [if_pos hid]; simp; omega
  refine DW.ope (v := .own id sz (0 + 0) (i - 0 + ys.length)) (u := [(id, some ⟨sz, els2⟩), (m.length, none)]) (acc := [id] ++ [id]) (x' := ⟨[(26, .own id sz (0 + 0) (i - 0 + ys.length)), (25, .own id sz (0 + (i + 1)) (els.length - (i + 1))), (24, VI (i + 1 : Nat)), (23, .own id sz 0 els.length), (22, .own id sz (0 + 0) (i - 0)), (21, VI i), (20, .own id sz 0 els.length), (7, VI els.length), (0, .own id sz 0 els.length), (1, VI i), (2, VI (i + 1 : Nat))], m2⟩) (by kernel_rfl)
    (by rw [he2]; exact opE_appIn (.s 22) (.s 25) sz by_ id (0 + 0) (i - 0) els ys _ [id] rfl rfl rfl rfl hc1 hc2 hc3 hB (by rintro ⟨_, h⟩; omega) (by omega)) (by
      show (bif dstOK 33 (some 26) && upsOK m.length [(id, some (⟨sz, els2⟩ : Bk)), (m.length, none)] then _ else _) = _
      rw [hups, hput]; rfl) ?_
  obtain ⟨t3, ht3⟩ : ∃ t3 : List (Nat × AV), t3 = [(0, .own id sz (0 + 0) (i - 0 + ys.length)), (2, VI (i + 1 : Nat)), (7, VI els.length)] := ⟨_, rfl⟩
  refine DW.last 1 [0, 7] (x' := ⟨[(0, .own id sz (0 + 0) (i - 0 + ys.length)), (7, VI els.length)], m2⟩) (by kernel_rfl) (by kernel_rfl) ?_
  have q1 : i - 0 + ys.length = els.length - 1 := by omega
  rw [q1]
  refine EL.sreg ?_
  refine OW.run 2 (x' := ⟨[(28, .own id sz (0 + 0) (els.length - 1)), (27, .own id sz (0 + 0) (els.length - 1)), (0, .own id sz (0 + 0) (els.length - 1)), (7, VI els.length)], m2⟩) (by kernel_rfl) ?_
  refine OW.ope (v := VI (els.length - 1 : Nat)) (u := []) (acc := [id]) (x' := ⟨[(29, VI (els.length - 1 : Nat)), (28, .own id sz (0 + 0) (els.length - 1)), (27, .own id sz (0 + 0) (els.length - 1)), (0, .own id sz (0 + 0) (els.length - 1)), (7, VI els.length)], m2⟩) (by kernel_rfl) (opE_sem _ (acc := []) (see := [id]) rfl rfl (by simp [opD, Del6, AO.sem, argσ, slot, RM.run, hlk, goInt]) (by simp [opD, Del6, AO.sem, argσ, slot, RM.acc]) (by simp [opD, Del6, AO.sem, argσ, slot, RM.see])) (by kernel_rfl) ?_
  refine OW.run 1 (x' := ⟨[(30, VI els.length), (29, VI (els.length - 1 : Nat)), (28, .own id sz (0 + 0) (els.length - 1)), (27, .own id sz (0 + 0) (els.length - 1)), (0, .own id sz (0 + 0) (els.length - 1)), (7, VI els.length)], m2⟩) (by kernel_rfl) ?_
  refine OW.ope (v := .own id sz (0 + 0 + (els.length - 1)) (els.length - (els.length - 1))) (u := []) (acc := [id, id]) (x' := ⟨[(31, .own id sz (0 + 0 + (els.length - 1)) (els.length - (els.length - 1))), (30, VI els.length), (29, VI (els.length - 1 : Nat)), (28, .own id sz (0 + 0) (els.length - 1)), (27, .own id sz (0 + 0) (els.length - 1)), (0, .own id sz (0 + 0) (els.length - 1)), (7, VI els.length)], m2⟩) (by kernel_rfl)
    (opE_slco2h (.s 27) (some (.s 29)) (some (.s 30)) sz id (0 + 0) (els.length - 1) (els.length - 1) els.length (some (els.length - 1)) els.length ⟨sz, els2⟩ rfl rfl rfl (optNat_nat (by rfl)) (optNat_nat (by rfl)) (by simp only [bounds, Option.getD_some]; rw [if_neg (by omega)]) hlk (by simp only [bounds, Option.getD_some]; rw [if_pos ⟨by omega, by show _ ≤ els2.length - (0 + 0); omega⟩])) (by kernel_rfl) ?_
  obtain ⟨els3, he3⟩ : ∃ els3, els3 = els2.take (0 + 0 + (els.length - 1)) ++ List.replicate (els.length - (els.length - 1)) zs ++ els2.drop (0 + 0 + (els.length - 1) + (els.length - (els.length - 1))) := ⟨_, rfl⟩
  have hid2 : id < m2.length := by omega
  have hput3 : mput m2 [(id, some ⟨sz, els3⟩)] = m2.set id (some ⟨sz, els3⟩) := by
    simp only [mput]; rw [if_pos hid2]
  have hups3 : upsOK m2.length [(id, some (⟨sz, els3⟩ : Bk))] = true := by simp [upsOK]; omega
  refine OW.ope (v := .v undef) (u := [(id, some ⟨sz, els3⟩)]) (acc := [id]) (x' := ⟨[(31, .own id sz (0 + 0 + (els.length - 1)) (els.length - (els.length - 1))), (30, VI els.length), (29, VI (els.length - 1 : Nat)), (28, .own id sz (0 + 0) (els.length - 1)), (27, .own id sz (0 + 0) (els.length - 1)), (0, .own id sz (0 + 0) (els.length - 1)), (7, VI els.length)], m2.set id (some ⟨sz, els3⟩)⟩) (by kernel_rfl)
    (by rw [he3]; exact opE_clr zs (.s 31) sz id (0 + 0 + (els.length - 1)) (els.length - (els.length - 1)) els2 rfl rfl hz rfl hlk (by omega)) (by
      show (bif dstOK 33 none && upsOK m2.length [(id, some (⟨sz, els3⟩ : Bk))] then _ else _) = _
      rw [hups3, hput3]; rfl) ?_
  refine OW.last 0 [0] (x' := ⟨[(0, .own id sz (0 + 0) (els.length - 1))], m2.set id (some ⟨sz, els3⟩)⟩) (by kernel_rfl) (by kernel_rfl) ?_
  refine EL.sreg ?_
  refine OW.last 2 [6] (x' := ⟨[(6, .own id sz (0 + 0) (els.length - 1))], m2.set id (some ⟨sz, els3⟩)⟩) (by kernel_rfl) (by kernel_rfl) ?_
  refine EL.ret ?_
  have hl3 : els3.length = els.length := by rw [he3]; simp; omega
  have hlk3 : look (m2.set id (some ⟨sz, els3⟩)) id = some ⟨sz, els3⟩ := by
    unfold look; simp [hid2]
  have hfin : els3.take (els.length - 1) = els.eraseIdx i := by
    have h1 : els3.take (els.length - 1) = els2.take (els.length - 1) := by
      rw [he3, List.append_assoc, List.take_append_of_le_length (by simp; omega), Nat.add_zero, Nat.zero_add, List.take_take, Nat.min_self]
    rw [h1, he2]
    have h2 : els.length - 1 = i + ys.length := by omega
    rw [h2, List.take_append_of_le_length (by simp; omega)]
    rw [List.take_of_length_le (by simp; omega)]
    rw [List.eraseIdx_eq_take_drop_succ, hys]
    congr 1
    · simp
    · rw [Nat.zero_add]
      exact List.take_of_length_le (by simp)
  refine ⟨.inr rfl, ⟨[(6, .own (m2.set id (some ⟨sz, els3⟩)).length sz 0 (els.length - 1))], (m2.set id (some ⟨sz, els3⟩)).set id none ++ [some ⟨sz, els3.take (els.length - 1)⟩]⟩, trunc_le (t0 := 6) hlk3 (by omega) rfl rfl rfl, ?_, ?_⟩
  · simp only [List.length_set, hml]; rfl
  · rw [hfin, hm2]
    simp only [delM]
    rw [List.set_set, List.set_append, if_pos (by simpa using hid), List.set_set]
    simp
theorem delete_map {f : FuncId} {α : Type} {fe : α → List AV} {xs : List α} (hF : cFunc P f = some (DelF sz by_ zs)) (hz : zs.length = sz) (hB : look m id = some ⟨sz, xs.map fe⟩) {n : Int} (h0 : 0 ≤ n) (h1 : n < xs.length) (hb : xs.length ≤ 1000000) :
    Fi P f [.own id sz 0 xs.length, VI n, VI (n + 1)] (look m) m.length (.own (m.length + 1) sz 0 (xs.eraseIdx n.toNat).length) (look (delM m id ⟨sz, (xs.eraseIdx n.toNat).map fe⟩)) (delM m id ⟨sz, (xs.eraseIdx n.toNat).map fe⟩).length := by
  have e0 : ((n.toNat : Nat) : Int) = n := by omega
  have e1 : ((n.toNat + 1 : Nat) : Int) = n + 1 := by omega
  have h := delete_fi (P := P) (f := f) (i := n.toNat) (els := xs.map fe) hF hz hB (by simp; omega) (by simp; omega)
  rw [e0, e1, List.length_map] at h
  have e2 : (xs.map fe).eraseIdx n.toNat = (xs.eraseIdx n.toNat).map fe := by
    rw [List.eraseIdx_eq_take_drop_succ, List.eraseIdx_eq_take_drop_succ, List.map_append, List.map_take, List.map_drop]
  have e3 : (xs.eraseIdx n.toNat).length = xs.length - 1 := by rw [List.length_eraseIdx, if_pos (by omega)]
  rw [e2] at h
  rw [e3]
  exact h
end
open Go.RowKit
section
variable {o : AOper} {x : L3}
end
open Go.RowKit
def isC (hs : List (Option Nat)) (i : Nat) : Bool := match hs[i]? with | some (some _) => true | _ => false
def callsOK (rs : List Rec) (hs : List (Option Nat)) (dep : List (List Nat)) : Bool :=
  (List.range rs.length).all fun j => (List.range j).all fun i => ((dep[j]?).getD []).contains i || (match rs[i]?, rs[j]? with | some x, some y => !(isC hs i && isC hs j) && ((!isC hs i || y.ups.isEmpty) && (!isC hs j || x.ups.isEmpty)) | _, _ => false)
inductive OpsF (P : Program) (n : Nat) : List AOper → (Nat → AV) → (Nat → Option Bk) → Nat → List Rec → List (Option Nat) → (Nat → AV) → (Nat → Option Bk) → Nat → Prop
  | nil {σ : Nat → AV} {g : Nat → Option Bk} {k : Nat} : OpsF P n [] σ g k [] [] σ g k
  | cons {o : AOper} {os : List AOper} {σ σ' : Nat → AV} {g g' : Nat → Option Bk} {k k1 k' : Nat} {val : AV} {ups : List (Nat × Option Bk)} {acc : List Nat} {rs : List Rec} {hs : List (Option Nat)} (h : OpRun P σ g k o val ups acc) (hk : k ≤ k1) (hu : ∀ id, id ∈ ups.map Prod.fst → id < k1)
      (hr : OpsF P n os (putσ n o.dst val σ) (gput g ups) k1 rs hs σ' g' k') : OpsF P n (o :: os) σ g k (⟨o.dst, val, ups, acc, k⟩ :: rs) (none :: hs) σ' g' k'
  | fi {o : AOper} {os : List AOper} {σ σ' : Nat → AV} {g g' : Nat → Option Bk} {k k1 k' : Nat} {r : AV} {f : FuncId} {as_ : List AV} {ups : List (Nat × Option Bk)} {rs : List Rec} {hs : List (Option Nat)} (hg : guardA σ o.guard = some true) (hal : o.ao.allocs = false) (h : (o.ao.sem k (argσ σ)).run g = some (.call f as_)) (hc : callable P f = true) (hf : Fi P f as_ g k r (gput g ups) k1) (hk : k ≤ k1) (hu : ∀ id, id ∈ ups.map Prod.fst → id < k1)
      (hr : OpsF P n os (putσ n o.dst r σ) (gput g ups) k1 rs hs σ' g' k') : OpsF P n (o :: os) σ g k (⟨o.dst, r, ups, [], k⟩ :: rs) (some k1 :: hs) σ' g' k'
def RunF (P : Program) (n : Nat) (σ : Nat → AV) (g : Nat → Option Bk) (rs : List Rec) (hs : List (Option Nat)) (i : Nat) (o : AOper) (r : Rec) : Prop :=
  (hs[i]? = some none ∧ OpRun P (σat n (upto i) rs σ) (gat (upto i) rs g) r.fr o r.val r.ups r.acc) ∨
  ∃ f as_ k1, hs[i]? = some (some k1) ∧ guardA (σat n (upto i) rs σ) o.guard = some true ∧ o.ao.allocs = false ∧ (o.ao.sem r.fr (argσ (σat n (upto i) rs σ))).run (gat (upto i) rs g) = some (.call f as_) ∧ callable P f = true ∧ Fi P f as_ (gat (upto i) rs g) r.fr r.val (gput (gat (upto i) rs g) r.ups) k1
theorem opsF_canon {P : Program} {n : Nat} {os : List AOper} {σ σ' : Nat → AV} {g g' : Nat → Option Bk} {k k' : Nat} {rs : List Rec} {hs : List (Option Nat)} (h : OpsF P n os σ g k rs hs σ' g' k') :
    (rs.length = os.length ∧ hs.length = os.length) ∧ k ≤ k' ∧ (∀ (i : Nat) o, os[i]? = some o → ∃ r, rs[i]? = some r ∧ r.dst = o.dst ∧ RunF P n σ g rs hs i o r ∧ k ≤ r.fr) ∧
      (∀ (i j : Nat) ri rj, i < j → rs[i]? = some ri → rs[j]? = some rj → (∀ id, id ∈ ri.keys → id < rj.fr) ∧ ∀ k1, hs[i]? = some (some k1) → k1 ≤ rj.fr) ∧ (∀ (i : Nat) r, rs[i]? = some r → (∀ id, id ∈ r.keys → id < k') ∧ ∀ k1, hs[i]? = some (some k1) → k1 ≤ k') ∧ σ' = σat n (fun _ => true) rs σ ∧ g' = gat (fun _ => true) rs g := by
  induction h with
  | nil => exact ⟨⟨rfl, rfl⟩, Nat.le_refl _, fun i o ho => by simp at ho, fun i j ri rj _ h => by simp at h, fun i r h => by simp at h, rfl, rfl⟩
  | @cons o os σ σ' g g' k k1 k' val ups acc rs hs h hk hu hr ih =>
    obtain ⟨⟨i1, i1'⟩, i2, i3, i4, i5, i6, i7⟩ := ih
    have e1 : ∀ i, σat n (upto (i + 1)) (⟨o.dst, val, ups, acc, k⟩ :: rs) σ = σat n (upto i) rs (putσ n o.dst val σ) := by
      intro i; funext t
      show lastW _ _ 1 rs _ = _
      rw [lastW_shift]
      unfold σat
      congr 1
      · funext j; simp [upto]
      · rw [if_pos (by simp [upto])]; exact (putσ_wσ n t ⟨o.dst, val, ups, acc, k⟩ σ).symm
    have e2 : ∀ i, gat (upto (i + 1)) (⟨o.dst, val, ups, acc, k⟩ :: rs) g = gat (upto i) rs (gput g ups) := by
      intro i; funext id
      show lastW _ _ 1 rs _ = _
      rw [lastW_shift]
      unfold gat
      congr 1
      · funext j; simp [upto]
      · rw [if_pos (by simp [upto]), gput_kv]; rfl
    refine ⟨⟨by simp [i1], by simp [i1']⟩, Nat.le_trans hk i2, fun i o' ho => ?_, fun i j ri rj hij hi hj => ?_, fun i r' hr' => ?_, ?_, ?_⟩
    · cases i with
      | zero =>
        simp only [List.getElem?_cons_zero, Option.some.injEq] at ho
        subst ho
        refine ⟨_, rfl, rfl, ?_, Nat.le_refl _⟩
        have s0 : σat n (upto 0) (⟨o.dst, val, ups, acc, k⟩ :: rs) σ = σ := by funext t; exact lastW_none _ 0 _ fun j r _ hl => by simp [upto] at hl
        have g0 : gat (upto 0) (⟨o.dst, val, ups, acc, k⟩ :: rs) g = g := by funext t; exact lastW_none _ 0 _ fun j r _ hl => by simp [upto] at hl
        unfold RunF
        rw [s0, g0]
        exact .inl ⟨rfl, h⟩
      | succ i =>
        obtain ⟨r', r1, r2, r3, r4⟩ := i3 i o' (by simpa using ho)
        refine ⟨r', by simpa using r1, r2, ?_, Nat.le_trans hk r4⟩
        unfold RunF
        rw [e1, e2, List.getElem?_cons_succ]; exact r3
    · cases j with
      | zero => omega
      | succ j =>
        simp only [List.getElem?_cons_succ] at hj
        cases i with
        | zero =>
          simp only [List.getElem?_cons_zero, Option.some.injEq] at hi
          subst hi
          have hjl : j < os.length := by rw [← i1]; exact (List.getElem?_eq_some_iff.1 hj).1
          obtain ⟨r', r1, _, _, r4⟩ := i3 j _ (List.getElem?_eq_getElem hjl)
          rw [hj] at r1
          simp only [Option.some.injEq] at r1
          subst r1
          exact ⟨fun id hid => Nat.lt_of_lt_of_le (hu id hid) r4, fun x hx => by first | (simp at hx; done) | (simp at hx; subst hx; exact r4)⟩
        | succ i => simp only [List.getElem?_cons_succ] at hi ⊢; exact i4 i j ri rj (by omega) hi hj
    · cases i with
      | zero =>
        simp only [List.getElem?_cons_zero, Option.some.injEq] at hr'
        subst hr'
        exact ⟨fun id hid => Nat.lt_of_lt_of_le (hu id hid) i2, fun x hx => by first | (simp at hx; done) | (simp at hx; subst hx; exact i2)⟩
      | succ i => simp only [List.getElem?_cons_succ] at hr' ⊢; exact i5 i r' hr'
    · rw [i6]
      funext t
      unfold σat
      simp only [lastW]
      rw [lastW_shift, if_true, putσ_wσ n t ⟨o.dst, val, ups, acc, k⟩ σ]
    · rw [i7]
      funext id
      unfold gat
      simp only [lastW]
      rw [lastW_shift, if_true, gput_kv]
      rfl
  | @fi o os σ σ' g g' k k1 k' r f as_ ups rs hs hg hal h hc hf hk hu hr ih =>
    obtain ⟨⟨i1, i1'⟩, i2, i3, i4, i5, i6, i7⟩ := ih
    have e1 : ∀ i, σat n (upto (i + 1)) (⟨o.dst, r, ups, [], k⟩ :: rs) σ = σat n (upto i) rs (putσ n o.dst r σ) := by
      intro i; funext t
      show lastW _ _ 1 rs _ = _
      rw [lastW_shift]
      unfold σat
      congr 1
      · funext j; simp [upto]
      · rw [if_pos (by simp [upto])]; exact (putσ_wσ n t ⟨o.dst, r, ups, [], k⟩ σ).symm
    have e2 : ∀ i, gat (upto (i + 1)) (⟨o.dst, r, ups, [], k⟩ :: rs) g = gat (upto i) rs (gput g ups) := by
      intro i; funext id
      show lastW _ _ 1 rs _ = _
      rw [lastW_shift]
      unfold gat
      congr 1
      · funext j; simp [upto]
      · rw [if_pos (by simp [upto]), gput_kv]; rfl
    refine ⟨⟨by simp [i1], by simp [i1']⟩, Nat.le_trans hk i2, fun i o' ho => ?_, fun i j ri rj hij hi hj => ?_, fun i r' hr' => ?_, ?_, ?_⟩
    · cases i with
      | zero =>
        simp only [List.getElem?_cons_zero, Option.some.injEq] at ho
        subst ho
        refine ⟨_, rfl, rfl, ?_, Nat.le_refl _⟩
        have s0 : σat n (upto 0) (⟨o.dst, r, ups, [], k⟩ :: rs) σ = σ := by funext t; exact lastW_none _ 0 _ fun j r _ hl => by simp [upto] at hl
        have g0 : gat (upto 0) (⟨o.dst, r, ups, [], k⟩ :: rs) g = g := by funext t; exact lastW_none _ 0 _ fun j r _ hl => by simp [upto] at hl
        unfold RunF
        rw [s0, g0]
        exact .inr ⟨f, as_, k1, rfl, hg, hal, h, hc, hf⟩
      | succ i =>
        obtain ⟨r', r1, r2, r3, r4⟩ := i3 i o' (by simpa using ho)
        refine ⟨r', by simpa using r1, r2, ?_, Nat.le_trans hk r4⟩
        unfold RunF
        rw [e1, e2, List.getElem?_cons_succ]; exact r3
    · cases j with
      | zero => omega
      | succ j =>
        simp only [List.getElem?_cons_succ] at hj
        cases i with
        | zero =>
          simp only [List.getElem?_cons_zero, Option.some.injEq] at hi
          subst hi
          have hjl : j < os.length := by rw [← i1]; exact (List.getElem?_eq_some_iff.1 hj).1
          obtain ⟨r', r1, _, _, r4⟩ := i3 j _ (List.getElem?_eq_getElem hjl)
          rw [hj] at r1
          simp only [Option.some.injEq] at r1
          subst r1
          exact ⟨fun id hid => Nat.lt_of_lt_of_le (hu id hid) r4, fun x hx => by first | (simp at hx; done) | (simp at hx; subst hx; exact r4)⟩
        | succ i => simp only [List.getElem?_cons_succ] at hi ⊢; exact i4 i j ri rj (by omega) hi hj
    · cases i with
      | zero =>
        simp only [List.getElem?_cons_zero, Option.some.injEq] at hr'
        subst hr'
        exact ⟨fun id hid => Nat.lt_of_lt_of_le (hu id hid) i2, fun x hx => by first | (simp at hx; done) | (simp at hx; subst hx; exact i2)⟩
      | succ i => simp only [List.getElem?_cons_succ] at hr' ⊢; exact i5 i r' hr'
    · rw [i6]
      funext t
      unfold σat
      simp only [lastW]
      rw [lastW_shift, if_true, putσ_wσ n t ⟨o.dst, r, ups, [], k⟩ σ]
    · rw [i7]
      funext id
      unfold gat
      simp only [lastW]
      rw [lastW_shift, if_true, gput_kv]
      rfl
section
variable {P : Program} {E0 : Env} {n : Nat} {ops : Array Oper} {J : Nat → Prop} {base : Nat} {w0 : World} {Q : Exit → Act → World → Prop} {os : List AOper} {dep : List (List Nat)} {σ σ' : Nat → AV} {g g' : Nat → Option Bk} {k k' : Nat} {rs : List Rec} {hs : List (Option Nat)}
structure DInvF (E0 : Env) (n : Nat) (ops : Array Oper) (J : Nat → Prop) (base : Nat) (w0 : World) (σ : Nat → AV) (g : Nat → Option Bk) (k : Nat) (rs : List Rec) (hs : List (Option Nat)) (listed : Array Bool) (a : Act) (w : World) : Prop where
  ex : ∃ E : Env, E.w = w ∧ E0.Le E ∧ (∀ t, Rep E (a.tmps.getD t undef) (σat n (fun j => listed.getD j false) rs σ t)) ∧ MemAt E J base (gat (fun j => listed.getD j false) rs g) ∧
    (∀ id, E.kn id → id < k ∨ ∃ j r, listed.getD j false = true ∧ rs[j]? = some r ∧ (id ∈ r.keys ∨ ∃ k1, hs[j]? = some (some k1) ∧ id < k1)) ∧ Mk E w0.heap.size a.defers
  size : a.tmps.size = n
  below : Below base w0 w
  gl : GlE E0
  lsize : listed.size = ops.size
  closed : ∀ (j : Nat) op, ops[j]? = some op → listed.getD j false = true → ∀ e, e ∈ dirOf op → listed.getD e false = true
theorem draw_soundF {rd : Option Nat} (hrec : OpsF P n os σ g k rs hs σ' g' k') (hlen : os.length = ops.size) (hops : ∀ (j : Nat) op, ops[j]? = some op → ∃ o, os[j]? = some o ∧ cOper P ops op = some o)
    (hd : depOK ops.toList dep = true) (hsl : slotsOK os dep = true) (hid : idsOK rs dep = true) (hcs : callsOK rs hs dep = true) (hQ : ∀ a w, RelS E0 J base w0 n σ' g' k' a w → Q .normal a w) :
    ∀ (fuel : Nat) (listed : Array Bool) (a : Act) (w : World), DInvF E0 n ops J base w0 σ g k rs hs listed a w → (∀ m : List Nat, (∀ j, j ∈ m → j < ops.size ∧ listed.getD j true = false) → m.Nodup → m.length ≤ fuel) → wpAnyIn (rnd rd) 0 P .any ops Q fuel listed a w := by
  obtain ⟨⟨c1, c1'⟩, c2, c3, c4, c5, c6, c7⟩ := opsF_canon hrec
  -- all are listed where none is ready
  have done : ∀ (listed : Array Bool) (a : Act) (w : World), DInvF E0 n ops J base w0 σ g k rs hs listed a w → Region.ready .any ops listed = [] → Q .normal a w := by
    intro listed a w hI hready
    have hall : ∀ j, j < ops.size → listed.getD j false = true := by
      intro j
      induction j using Nat.strongRecOn with
      | _ j ih =>
        intro hj
        cases hl : listed.getD j false with
        | true => rfl
        | false =>
          exfalso
          have hjs : j < listed.size := by rw [hI.lsize]; exact hj
          have : j ∈ Region.ready .any ops listed := by
            rw [mem_ready]
            refine ⟨by simp [hjs] at hl ⊢; exact hl, ops[j], Array.getElem?_eq_getElem hj, fun e he hb => ?_⟩
            have hdj := hd
            unfold depOK at hdj
            simp only [Bool.and_eq_true, List.all_eq_true, List.mem_range, decide_eq_true_eq] at hdj
            have hj2 := (hdj.2 j (by simpa using hj)).1
            have hopl : ops.toList[j]? = some ops[j] := by simp [hj]
            simp only [hopl, Option.map_some, Option.getD_some] at hj2
            have hlt := hj2 e.on (mem_dirOf.2 ⟨e, he, hb, rfl⟩)
            exact ih e.on hlt (by omega)
          rw [hready] at this
          simp at this
    obtain ⟨E, rfl, hle, h1, h2, h3, hmk⟩ := hI.ex
    have e6 : σat n (fun j => listed.getD j false) rs σ = σ' := by
      rw [c6]; funext t
      refine lastW_congr _ 0 _ fun j r hr hl => absurd ?_ hl
      rw [Nat.zero_add, hall j (by rw [← hlen, ← c1]; exact (List.getElem?_eq_some_iff.1 hr).1)]
    have e7 : gat (fun j => listed.getD j false) rs g = g' := by
      rw [c7]; funext t
      refine lastW_congr _ 0 _ fun j r hr hl => absurd ?_ hl
      rw [Nat.zero_add, hall j (by rw [← hlen, ← c1]; exact (List.getElem?_eq_some_iff.1 hr).1)]
    rw [e6] at h1; rw [e7] at h2
    refine hQ a E.w ⟨⟨E, rfl, hle, h1, h2, fun id hh => ?_, hmk⟩, hI.size, hI.below, hI.gl⟩
    rcases h3 id hh with h | ⟨j, r, _, hr, hk | ⟨k1, hk1, hk⟩⟩
    · exact Nat.lt_of_lt_of_le h c2
    · exact (c5 j r hr).1 id hk
    · exact Nat.lt_of_lt_of_le hk ((c5 j r hr).2 k1 hk1)
  intro fuel
  induction fuel with
  | zero =>
    intro listed a w hI hcount
    have hr : Region.ready .any ops listed = [] := by
      cases hr : Region.ready .any ops listed with
      | nil => rfl
      | cons x xs =>
        have hx : x ∈ Region.ready .any ops listed := by rw [hr]; simp
        obtain ⟨m1, o, m2, _⟩ := mem_ready.1 hx
        have := hcount [x] (fun j hj => by simp at hj; subst hj; exact ⟨(Array.getElem?_eq_some_iff.1 m2).1, m1⟩) (by simp)
        simp at this
    exact ⟨hr, done listed a w hI hr⟩
  | succ fuel ih =>
    intro listed a w hI hcount
    refine ⟨done listed a w hI, fun i hi => ?_⟩
    obtain ⟨m1, op, m2, m3⟩ := mem_ready.1 hi
    have hil : i < ops.size := (Array.getElem?_eq_some_iff.1 m2).1
    have hunl : listed.getD i false = false := by
      have : i < listed.size := by rw [hI.lsize]; exact hil
      simp [this] at m1 ⊢; exact m1
    have hdir : ∀ e, e ∈ dirOf op → listed.getD e false = true := fun e he => by
      obtain ⟨x, hx, hb, rfl⟩ := mem_dirOf.1 he
      exact m3 x hx hb
    obtain ⟨o, ho, hco⟩ := hops i op m2
    obtain ⟨r, hri, hrd, hrun, hfr⟩ := c3 i o ho
    obtain ⟨E, rfl, hle, h1, h2, h3, hmk⟩ := hI.ex
    -- whoever is listed out of turn is free of this one
    have free : ∀ j rj oj, j ≠ i → rs[j]? = some rj → os[j]? = some oj → listed.getD j false ≠ upto i j → (slotFree (if i < j then o else oj) (if i < j then oj else o) = true ∧ idFree (if i < j then r else rj) (if i < j then rj else r) = true) := by
      intro j rj oj hne hrj hoj hl
      have hjl : j < os.length := (List.getElem?_eq_some_iff.1 hoj).1
      unfold slotsOK at hsl
      unfold idsOK at hid
      simp only [List.all_eq_true, List.mem_range, Bool.or_eq_true, List.contains_iff_mem] at hsl hid
      by_cases hij : i < j
      · rw [if_pos hij, if_pos hij, if_pos hij, if_pos hij]
        have hlj : listed.getD j false = true := by
          have hu : upto i j = false := by simp [upto]; omega
          rw [hu] at hl
          simpa using hl
        have hnd : i ∉ (dep[j]?).getD [] := by
          intro hmem
          have hjo : j < ops.size := by omega
          have := dep_closed hd hI.closed j ops[j] (Array.getElem?_eq_getElem hjo) (hI.closed j _ (Array.getElem?_eq_getElem hjo) hlj) i hmem
          rw [hunl] at this; simp at this
        have s1 := (hsl j hjl i hij).resolve_left hnd
        have s2 := (hid j (by rw [c1]; exact hjl) i hij).resolve_left hnd
        rw [ho, hoj] at s1; rw [hri, hrj] at s2
        exact ⟨s1, s2⟩
      · rw [if_neg hij, if_neg hij, if_neg hij, if_neg hij]
        have hji : j < i := by omega
        have hlj : listed.getD j false = false := by
          have hu : upto i j = true := by simp [upto]; omega
          rw [hu] at hl
          simpa using hl
        have hnd : j ∉ (dep[i]?).getD [] := by
          intro hmem
          have := dep_closed hd hI.closed i op m2 hdir j hmem
          rw [hlj] at this; simp at this
        have s1 := (hsl i (by omega) j hji).resolve_left hnd
        have s2 := (hid i (by omega) j hji).resolve_left hnd
        rw [ho, hoj] at s1; rw [hri, hrj] at s2
        exact ⟨s1, s2⟩
    have getO : ∀ (j : Nat) rj, rs[j]? = some rj → ∃ oj, os[j]? = some oj ∧ rj.dst = oj.dst := fun j rj hrj => by
      have hjl : j < os.length := by rw [← c1]; exact (List.getElem?_eq_some_iff.1 hrj).1
      obtain ⟨r', q1, q2, _, _⟩ := c3 j _ (List.getElem?_eq_getElem hjl)
      rw [hrj] at q1; simp only [Option.some.injEq] at q1; subst q1
      exact ⟨_, List.getElem?_eq_getElem hjl, q2⟩
    -- a slot that it looks at is as it comes one behind the other
    have hσ : ∀ t, t ∈ o.uses → σat n (fun j => listed.getD j false) rs σ t = σat n (upto i) rs σ t := by
      intro t ht
      refine lastW_congr _ 0 _ fun j rj hrj hl => ?_
      rw [Nat.zero_add] at hl
      by_cases hne : j = i
      · subst hne; rw [hunl] at hl; simp [upto] at hl
      · obtain ⟨oj, hoj, hdj⟩ := getO j rj hrj
        have hf := (free j rj oj hne hrj hoj hl).1
        unfold wσ
        rw [if_neg]
        rintro ⟨hdt, _⟩
        rw [hdj] at hdt
        unfold slotFree at hf
        by_cases hij : i < j
        · simp only [if_pos hij, hdt, Bool.and_eq_true, Bool.not_eq_true', List.contains_eq_mem, decide_eq_false_iff_not] at hf
          exact hf.2 ht
        · simp only [if_neg hij, hdt, Bool.and_eq_true, Bool.not_eq_true', List.contains_eq_mem, decide_eq_false_iff_not] at hf
          exact hf.1.1 ht
    have hg : ∀ id, id ∈ r.acc → gat (fun j => listed.getD j false) rs g id = gat (upto i) rs g id := by
      intro id hida
      refine lastW_congr _ 0 _ fun j rj hrj hl => ?_
      rw [Nat.zero_add] at hl
      by_cases hne : j = i
      · subst hne; rw [hunl] at hl; simp [upto] at hl
      · obtain ⟨oj, hoj, hdj⟩ := getO j rj hrj
        have hf := (free j rj oj hne hrj hoj hl).2
        cases hw : wg id rj with
        | none => rfl
        | some y =>
          exfalso
          have hk : id ∈ rj.keys := kv_mem (by unfold wg at hw; rw [hw]; simp)
          unfold idFree at hf
          by_cases hij : i < j
          · simp only [if_pos hij, Bool.and_eq_true, List.all_eq_true, Bool.not_eq_true', List.contains_eq_mem, decide_eq_false_iff_not] at hf
            exact hf.2 id hk hida
          · simp only [if_neg hij, Bool.and_eq_true, List.all_eq_true, Bool.not_eq_true', List.contains_eq_mem, decide_eq_false_iff_not] at hf
            exact (hf.1 id hk).1 hida
    have isCi : ∀ {j x}, hs[j]? = some (some x) → isC hs j = true := fun h => by unfold isC; rw [h]
    have free2 : ∀ j rj, j ≠ i → rs[j]? = some rj → listed.getD j false ≠ upto i j → (isC hs i && isC hs j) = false ∧ (isC hs i = true → rj.ups = []) ∧ (isC hs j = true → r.ups = []) := by
      intro j rj hne hrj hl
      have hjl : j < rs.length := (List.getElem?_eq_some_iff.1 hrj).1
      unfold callsOK at hcs
      simp only [List.all_eq_true, List.mem_range, Bool.or_eq_true, List.contains_iff_mem] at hcs
      by_cases hij : i < j
      · have hlj : listed.getD j false = true := by
          have hu : upto i j = false := by simp [upto]; omega
          rw [hu] at hl
          simpa using hl
        have hnd : i ∉ (dep[j]?).getD [] := by
          intro hmem
          have hjo : j < ops.size := by omega
          have := dep_closed hd hI.closed j ops[j] (Array.getElem?_eq_getElem hjo) (hI.closed j _ (Array.getElem?_eq_getElem hjo) hlj) i hmem
          rw [hunl] at this; simp at this
        have s2 := (hcs j hjl i hij).resolve_left hnd
        rw [hri, hrj] at s2
        simp only [Bool.and_eq_true, Bool.or_eq_true, Bool.not_eq_true', List.isEmpty_iff] at s2
        exact ⟨s2.1, fun h => s2.2.1.resolve_left (by rw [h]; simp), fun h => s2.2.2.resolve_left (by rw [h]; simp)⟩
      · have hji : j < i := by omega
        have hlj : listed.getD j false = false := by
          have hu : upto i j = true := by simp [upto]; omega
          rw [hu] at hl
          simpa using hl
        have hnd : j ∉ (dep[i]?).getD [] := by
          intro hmem
          have := dep_closed hd hI.closed i op m2 hdir j hmem
          rw [hlj] at this; simp at this
        have s2 := (hcs i (by omega) j hji).resolve_left hnd
        rw [hri, hrj] at s2
        simp only [Bool.and_eq_true, Bool.or_eq_true, Bool.not_eq_true', List.isEmpty_iff] at s2
        exact ⟨by rw [Bool.and_comm]; exact s2.1, fun h => s2.2.2.resolve_left (by rw [h]; simp), fun h => s2.2.1.resolve_left (by rw [h]; simp)⟩
    have fin : ∀ v E', E.Le E' → Rep E' v r.val → MemAt E' J base (gput (gat (fun j => listed.getD j false) rs g) r.ups) → Below base E.w E'.w → (∀ id, E'.kn id → (E.kn id ∨ id ∈ r.keys) ∨ ∃ k1, hs[i]? = some (some k1) ∧ id < k1) → wpAnyIn (rnd rd) 0 P .any ops Q fuel (listed.setIfInBounds i true) (a.put o.dst v) E'.w := by
      intro v E' hE hv hM hB hkn
      -- it is listed now
      have hlist : ∀ j, (listed.setIfInBounds i true).getD j false = if j = 0 + i then true else listed.getD j false := by
        intro j
        rw [Nat.zero_add]
        have hils : i < listed.size := by rw [hI.lsize]; exact hil
        by_cases hji : j = i
        · subst hji; simp [hils]
        · rw [if_neg hji, getD_set_ne false (Ne.symm hji)]
      have nσ : ∀ t, σat n (fun j => (listed.setIfInBounds i true).getD j false) rs σ t = putσ n o.dst r.val (σat n (fun j => listed.getD j false) rs σ) t := by
        intro t
        rw [← hrd, putσ_wσ]
        refine lastW_ins rs 0 i _ r hri (by rw [Nat.zero_add]; exact hunl) hlist fun j rj hij hrj hlj => ?_
        rw [Nat.zero_add] at hlj
        obtain ⟨oj, hoj, hdj⟩ := getO j rj hrj
        have hf := (free j rj oj (by omega) hrj hoj (by rw [hlj]; simp [upto]; omega)).1
        unfold slotFree at hf
        simp only [if_pos hij] at hf
        by_cases hd1 : r.dst = some t
        · left
          unfold wσ
          rw [if_neg]
          rintro ⟨hdt, _⟩
          rw [hrd] at hd1
          rw [hdj] at hdt
          simp only [hd1, hdt, Bool.and_eq_true, bne_iff_ne, ne_eq] at hf
          exact hf.1.2 trivial
        · right
          unfold wσ
          rw [if_neg]
          rintro ⟨hdt, _⟩
          exact hd1 hdt
      have ng : ∀ id, gat (fun j => (listed.setIfInBounds i true).getD j false) rs g id = gput (gat (fun j => listed.getD j false) rs g) r.ups id := by
        intro id
        rw [gput_kv]
        refine lastW_ins rs 0 i _ r hri (by rw [Nat.zero_add]; exact hunl) hlist fun j rj hij hrj hlj => ?_
        rw [Nat.zero_add] at hlj
        obtain ⟨oj, hoj, hdj⟩ := getO j rj hrj
        have hf := (free j rj oj (by omega) hrj hoj (by rw [hlj]; simp [upto]; omega)).2
        unfold idFree at hf
        simp only [if_pos hij, Bool.and_eq_true, List.all_eq_true, Bool.not_eq_true', List.contains_eq_mem, decide_eq_false_iff_not] at hf
        cases hw : wg id r with
        | none => exact .inr rfl
        | some y =>
          left
          cases hw2 : wg id rj with
          | none => rfl
          | some y2 =>
            exfalso
            have k1 : id ∈ r.keys := kv_mem (by unfold wg at hw; rw [hw]; simp)
            have k2 : id ∈ rj.keys := kv_mem (by unfold wg at hw2; rw [hw2]; simp)
            exact (hf.1 id k1).2 k2
      refine ih _ _ _ ⟨⟨E', rfl, hle.trans hE, fun t => ?_, ?_, fun id hh => ?_, ?_⟩, ?_, hI.below.trans hB, hI.gl, by simpa using hI.lsize, fun j oj hoj hlj e he => ?_⟩ fun m hm hnd => ?_
      · rw [nσ t]
        have := put_rep hE h1 hv o.dst t
        rw [hI.size] at this
        exact this
      · rw [show gat (fun j => (listed.setIfInBounds i true).getD j false) rs g = gput (gat (fun j => listed.getD j false) rs g) r.ups from funext ng]
        exact hM
      · rcases hkn id hh with (h | h) | h
        · rcases h3 id h with h | ⟨j, rj, q1, q2, q3⟩
          · exact .inl h
          · exact .inr ⟨j, rj, getD_set_true q1, q2, q3⟩
        · refine .inr ⟨i, r, ?_, hri, .inl h⟩
          rw [hlist i, Nat.zero_add, if_pos rfl]
        · refine .inr ⟨i, r, ?_, hri, .inr h⟩
          rw [hlist i, Nat.zero_add, if_pos rfl]
      · rw [(put_size a o.dst v).2]; exact hmk.step hE
      · rw [(put_size a o.dst v).1]; exact hI.size
      · rw [hlist j, Nat.zero_add] at hlj
        by_cases hji : j = i
        · subst hji
          rw [m2] at hoj; simp only [Option.some.injEq] at hoj; subst hoj
          exact getD_set_true (hdir e he)
        · rw [if_neg hji] at hlj
          exact getD_set_true (hI.closed j oj hoj hlj e he)
      · have hni : i ∉ m := fun hmem => by
          have := (hm i hmem).2
          have hils : i < listed.size := by rw [hI.lsize]; exact hil
          simp [hils] at this
        have := hcount (i :: m) (fun j hj => by
          rcases List.mem_cons.1 hj with rfl | hj
          · exact ⟨hil, m1⟩
          · refine ⟨(hm j hj).1, ?_⟩
            have h5 := (hm j hj).2
            have hji : i ≠ j := fun e => hni (e ▸ hj)
            rwa [getD_set_ne true hji] at h5) (List.nodup_cons.2 ⟨hni, hnd⟩)
        simpa using this
    rcases hrun with ⟨hnone, hrun⟩ | ⟨f, as_, k1, hsome, hgd, hal, hsem, hcl, hfi⟩
    · -- a name that nobody has
      have hname : ∃ fr', ¬ E.kn fr' ∧ (r.fr ∈ r.ups.map Prod.fst → fr' = r.fr) := by
        by_cases hin : r.fr ∈ r.ups.map Prod.fst
        · refine ⟨r.fr, fun hk => ?_, fun _ => rfl⟩
          rcases h3 _ hk with h | ⟨j, rj, hlj, hrj, hkj⟩
          · omega
          · by_cases hne : j = i
            · subst hne; rw [hunl] at hlj; simp at hlj
            · rcases hkj with hkj | ⟨k1, hk1, hkj⟩
              rotate_left
              · by_cases hij : i < j
                · have := (free2 j rj hne hrj (by rw [hlj]; simp [upto]; omega)).2.2 (isCi hk1)
                  rw [this] at hin; simp at hin
                · have := (c4 j i rj r (by omega) hrj hri).2 k1 hk1
                  omega
              by_cases hij : i < j
              · obtain ⟨oj, hoj, _⟩ := getO j rj hrj
                have hf := (free j rj oj hne hrj hoj (by rw [hlj]; simp [upto]; omega)).2
                unfold idFree at hf
                simp only [if_pos hij, Bool.and_eq_true, List.all_eq_true, Bool.not_eq_true', List.contains_eq_mem, decide_eq_false_iff_not] at hf
                exact (hf.1 _ hin).2 hkj
              · have := (c4 j i rj r (by omega) hrj hri).1 _ hkj
                exact Nat.lt_irrefl _ this
        · refine ⟨k', fun hk => ?_, fun h => absurd h hin⟩
          rcases h3 _ hk with h | ⟨j, rj, hlj, hrj, hkj | ⟨k1, hk1, hkj⟩⟩
          · omega
          · exact Nat.lt_irrefl _ ((c5 j rj hrj).1 _ hkj)
          · exact Nat.lt_irrefl _ (Nat.lt_of_lt_of_le hkj ((c5 j rj hrj).2 k1 hk1))
      obtain ⟨fr', hfr1, hfr2⟩ := hname
      obtain ⟨acc', hrun'⟩ := hrun.local hσ hg hfr2
      exact step_sound (hI.gl.step hle) h1 h2 hfr1 m2 hco hrun' fun v E' hE hv hM hB hkn => fin v E' hE hv hM hB fun id h => .inl (hkn id h)
    · have hci := isCi hsome
      have gall : gat (fun j => listed.getD j false) rs g = gat (upto i) rs g := by
        funext id
        refine lastW_congr _ 0 _ fun j rj hrj hl => ?_
        rw [Nat.zero_add] at hl
        by_cases hne : j = i
        · subst hne; rw [hunl] at hl; simp [upto] at hl
        · unfold wg; rw [(free2 j rj hne hrj hl).2.1 hci]; rfl
      have hknl : ∀ id, E.kn id → id < r.fr := by
        intro id hid
        rcases h3 id hid with h | ⟨j, rj, hlj, hrj, hkj⟩
        · omega
        · by_cases hne : j = i
          · subst hne; rw [hunl] at hlj; simp at hlj
          · by_cases hij : i < j
            · have hf2 := free2 j rj hne hrj (by rw [hlj]; simp [upto]; omega)
              rcases hkj with hkj | ⟨x, hx, hkj⟩
              · unfold Rec.keys at hkj; rw [hf2.2.1 hci] at hkj; simp at hkj
              · have := hf2.1; rw [hci, isCi hx] at this; simp at this
            · rcases hkj with hkj | ⟨x, hx, hkj⟩
              · exact (c4 j i rj r (by omega) hrj hri).1 _ hkj
              · have := (c4 j i rj r (by omega) hrj hri).2 x hx; omega
      have hgd2 : guardA (σat n (fun j => listed.getD j false) rs σ) o.guard = some true := by
        rw [← hgd]
        cases hg0 : o.guard with
        | none => rfl
        | some p =>
          obtain ⟨t, w⟩ := p
          simp only [guardA, hσ t (by simp [AOper.uses, hg0])]
      have hsem2 : (o.ao.sem r.fr (argσ (σat n (fun j => listed.getD j false) rs σ))).run (gat (fun j => listed.getD j false) rs g) = some (.call f as_) := by
        rw [gall, sem_congr r.fr fun t ht => hσ t (by simp [AOper.uses, ht])]; exact hsem
      have hdd := cOper_inv hco
      have hse : ∀ e, op.semAt (rnd rd).round e = execOp e op := fun e => Oper.semAt_plain (rnd rd) _ _ (cOp_nodefer hdd.2)
      unfold wpOpIn
      simp only [m2]
      rw [guard_sound h1 hco hgd2, if_pos rfl]
      obtain ⟨vs, e1, e2⟩ := call_sound (Args.of (hI.gl.step hle) h1) hdd.2 hsem2 hcl
      unfold Oper.wpIn
      rw [hse, e1, Oper.uponIn_enter]
      have h2' := h2
      rw [gall] at h2'
      refine ⟨rnd_out, rnd_depth, calls_rnd ((hfi E J base vs (hI.gl.step hle) h2' hknl e2).mono ?_)⟩
      rintro e w' ⟨v, E', rfl, rfl, q1, q2, q3, q4, q5⟩
      have hfin := fin v E' q1 q2 (by rw [gall]; exact q3) q4 fun id h => .inr ⟨k1, hsome, q5 id h⟩
      rw [hdd.1] at hfin
      exact hfin
theorem region_drawF {id : Nat} (hmix : P.follows .mixedOrders = true) (hrec : OpsF P n os σ g k rs hs σ' g' k') (hlen : os.length = ops.size) (hops : ∀ (j : Nat) op, ops[j]? = some op → ∃ o, os[j]? = some o ∧ cOper P ops op = some o)
    (hd : depOK ops.toList dep = true) (hsl : slotsOK os dep = true) (hid : idsOK rs dep = true) (hcs : callsOK rs hs dep = true) (hQ : ∀ a w, RelS E0 J base w0 n σ' g' k' a w → Q .normal a w) {a : Act} {w : World} (hrel : RelS E0 J base w0 n σ g k a w) {rd : Option Nat} : (Code.region id ops true).wpIn (rnd rd) 0 P Q a w := by
  refine wpIn_region_any hmix ?_
  obtain ⟨E, rfl, hle, h1, h2, h3, hmk⟩ := hrel.ex
  obtain ⟨E', hw, hE, hM, _, hk, _, _⟩ := h2.drew
  have hrep : ∀ (j : Nat), (Array.replicate ops.size false).getD j false = false := by
    intro j
    rcases Nat.lt_or_ge j ops.size with h | h
    · simp [h]
    · simp [h]
  refine draw_soundF hrec hlen hops hd hsl hid hcs hQ ops.size _ a _ ⟨⟨E', hw, hle.trans hE, fun t => ?_, ?_, fun id hh => .inl (h3 id ((hk id).1 hh)), hmk.step hE⟩, hrel.size, hrel.below.drew, hrel.gl, by simp, fun j op hop hl => ?_⟩ fun m hm hnd => ?_
  · have : σat n (fun j => (Array.replicate ops.size false).getD j false) rs σ t = σ t := lastW_none _ 0 _ fun j r _ hl => by rw [hrep] at hl; simp at hl
    rw [this]; exact (h1 t).step hE
  · have : gat (fun j => (Array.replicate ops.size false).getD j false) rs g = g := by funext id; exact lastW_none _ 0 _ fun j r _ hl => by rw [hrep] at hl; simp at hl
    rw [this]; exact hM
  · rw [hrep] at hl; simp at hl
  · exact nodup_len _ _ hnd fun j hj => (hm j hj).1
inductive DrawF (P : Program) (n : Nat) (dep : List (List Nat)) : List AOper → (Nat → AV) → (Nat → Option Bk) → Nat → List Rec → List (Option Nat) → (Nat → AV) → (Nat → Option Bk) → Nat → Prop
  | nil {σ : Nat → AV} {g : Nat → Option Bk} {k : Nat} {rs : List Rec} {hs : List (Option Nat)} (hid : idsOK rs dep = true) (hcs : callsOK rs hs dep = true) : DrawF P n dep [] σ g k rs hs σ g k
  | cons {o : AOper} {os : List AOper} {σ σ' : Nat → AV} {g g' : Nat → Option Bk} {k k1 k' : Nat} {val : AV} {ups : List (Nat × Option Bk)} {acc : List Nat} {rs : List Rec} {hs : List (Option Nat)} (h : OpRun P σ g k o val ups acc) (hk : k ≤ k1) (hu : ∀ id, id ∈ ups.map Prod.fst → id < k1)
      (hr : DrawF P n dep os (putσ n o.dst val σ) (gput g ups) k1 (rs ++ [⟨o.dst, val, ups, acc, k⟩]) (hs ++ [none]) σ' g' k') : DrawF P n dep (o :: os) σ g k rs hs σ' g' k'
  | fi {o : AOper} {os : List AOper} {σ σ' : Nat → AV} {g g' : Nat → Option Bk} {k k1 k' : Nat} {r : AV} {f : FuncId} {as_ : List AV} {ups : List (Nat × Option Bk)} {rs : List Rec} {hs : List (Option Nat)} (hg : guardA σ o.guard = some true) (hal : o.ao.allocs = false) (h : (o.ao.sem k (argσ σ)).run g = some (.call f as_)) (hc : callable P f = true) (hf : Fi P f as_ g k r (gput g ups) k1) (hk : k ≤ k1) (hu : ∀ id, id ∈ ups.map Prod.fst → id < k1)
      (hr : DrawF P n dep os (putσ n o.dst r σ) (gput g ups) k1 (rs ++ [⟨o.dst, r, ups, [], k⟩]) (hs ++ [some k1]) σ' g' k') : DrawF P n dep (o :: os) σ g k rs hs σ' g' k'
theorem OpsF.snoc {o : AOper} {k1 : Nat} {val : AV} {ups : List (Nat × Option Bk)} {acc : List Nat} (h0 : OpsF P n os σ g k rs hs σ' g' k') (h : OpRun P σ' g' k' o val ups acc) (hk : k' ≤ k1) (hu : ∀ id, id ∈ ups.map Prod.fst → id < k1) : OpsF P n (os ++ [o]) σ g k (rs ++ [⟨o.dst, val, ups, acc, k'⟩]) (hs ++ [none]) (putσ n o.dst val σ') (gput g' ups) k1 := by
  induction h0 with
  | nil => exact .cons h hk hu .nil
  | cons h1 h2 h3 h4 ih => exact .cons h1 h2 h3 (ih h hk)
  | fi h1 h2 h3 h4 h5 h6 h7 h8 ih => exact .fi h1 h2 h3 h4 h5 h6 h7 (ih h hk)
theorem OpsF.snocF {o : AOper} {k1 : Nat} {r : AV} {f : FuncId} {as_ : List AV} {ups : List (Nat × Option Bk)} (h0 : OpsF P n os σ g k rs hs σ' g' k') (hg : guardA σ' o.guard = some true) (hal : o.ao.allocs = false) (h : (o.ao.sem k' (argσ σ')).run g' = some (.call f as_)) (hc : callable P f = true) (hf : Fi P f as_ g' k' r (gput g' ups) k1) (hk : k' ≤ k1) (hu : ∀ id, id ∈ ups.map Prod.fst → id < k1) :
    OpsF P n (os ++ [o]) σ g k (rs ++ [⟨o.dst, r, ups, [], k'⟩]) (hs ++ [some k1]) (putσ n o.dst r σ') (gput g' ups) k1 := by
  induction h0 with
  | nil => exact .fi hg hal h hc hf hk hu .nil
  | cons h1 h2 h3 h4 ih => exact .cons h1 h2 h3 (ih hg h hf hk)
  | fi h1 h2 h3 h4 h5 h6 h7 h8 ih => exact .fi h1 h2 h3 h4 h5 h6 h7 (ih hg h hf hk)
theorem DrawF.all {pre : List AOper} {σ0 : Nat → AV} {g0 : Nat → Option Bk} {kk : Nat} (h0 : OpsF P n pre σ0 g0 kk rs hs σ g k) (h : DrawF P n dep os σ g k rs hs σ' g' k') : ∃ rs' hs', OpsF P n (pre ++ os) σ0 g0 kk rs' hs' σ' g' k' ∧ idsOK rs' dep = true ∧ callsOK rs' hs' dep = true := by
  induction h generalizing pre with
  | nil h1 h2 => exact ⟨_, _, by rw [List.append_nil]; exact h0, h1, h2⟩
  | @cons o os σ σ' g g' k k1 k' val ups acc rs hs h hk hu hr ih =>
    have := ih (pre := pre ++ [o]) (h0.snoc h hk hu)
    rwa [List.append_assoc] at this
  | @fi o os σ σ' g g' k k1 k' r f as_ ups rs hs hg hal h hc hf hk hu hr ih =>
    have := ih (pre := pre ++ [o]) (h0.snocF hg hal h hc hf hk hu)
    rwa [List.append_assoc] at this
theorem EW.drawF {k0 : Nat} {s : S3} {Q : Ex → S3 → Prop} {s' : S3} (h : DrawF P n dep os s.σ s.g s.k [] [] s'.σ s'.g s'.k) (hq : Q .normal s') : EW P n k0 (.reg os (some dep)) s Q := by
  intro rd c E0 J base w0 a w hrd hc hk hr
  obtain ⟨id, ops, draw, rfl, h1, h2⟩ := cCode_reg hc
  rcases h2 with ⟨rfl, hh⟩ | ⟨rfl, d, hd, h3, h4, h5⟩
  · simp at hh
  · simp only [Option.some.injEq] at hd
    subst hd
    obtain ⟨k1, k2⟩ := cOpers_get h1
    obtain ⟨rs', hs', a1, a2, a3⟩ := DrawF.all .nil h
    rw [List.nil_append] at a1
    exact region_drawF h5 a1 (by rw [← k1]; simp) (fun j op hj => k2 j op (by simpa using hj)) h3 h4 a2 a3 (fun a' w' hr' => ⟨.normal, s', hq, rfl, hr'⟩) hr
end
section
variable {P : Program} {n k k0 : Nat} {x : L3} {K : L3 → Prop} {Q : Ex → L3 → Prop} {R : List AOper} {dep : List (List Nat)} {rs : List Rec} {hs : List (Option Nat)}
end
abbrev cl (f : Nat) (as_ : List Arg) : AO := .call (.c (.fn f [])) as_
abbrev cd (k : Nat) (y z : AC) : AC := .cond (.s k) y z
abbrev bi (o : BinOp) (a b : Arg) : AO := .bin false o a b
abbrev lq (n k : Nat) : AO := .load (some n) (.s k)
abbrev RL := List AOper
abbrev zi (n : Int) : AV := .v (.int .i64 n)
abbrev zs : AV := .v (.string ⟨#[]⟩)
abbrev ci (n : Int) : Arg := .c (zi n)
abbrev cT : Arg := .c (.v (.bool true))
abbrev cF : Arg := .c (.v (.bool false))
abbrev ld (k : Nat) : AO := .load none (.s k)
abbrev ms (k : Nat) : AO := .mov (.s k)
abbrev fd (a k : Nat) : AO := .fad a (.s k)
abbrev sr (R : List AOper) (b : AC) : AC := .seq (.reg R none) b
abbrev rg (R : List AOper) : AC := .reg R none
def F6r0 : RL := [oo 4 (.box 2 (.s 0)),
 oo 8 (.mov cF)]
def F6r1 : RL := [oo 25 (lq 2 4),
 oo 26 (cl 18 [.s 25]),
 oo 24 (ms 26),
 oo 27 (.ext 0 (.s 24)),
 oo 28 (.ext 1 (.s 24)),
 oo 9 (.new [.emp, .emp]),
 ow (.store 2 (.s 9) (.s 27)),
 oo 10 (ms 28)]
def F6r2 : RL := [oo 29 (cl 14 []),
 oo 30 (.un .not (.s 29))]
def F6r3 : RL := [oo 8 (.mov cF)]
def F6r4 : RL := [oo 31 (ms 10),
 oo 32 (bi .neq (.s 31) (ci 0)),
 oo 33 (ms 32),
 on 34 (ms 1) 33,
 on 35 (.len false (.s 34)) 33,
 on 36 (bi .gtr (.s 35) (ci 64)) 33,
 oo 37 (.pick (.s 33) cT (.s 36))]
def F6r5 : RL := [oo 38 (ms 10),
 oo 39 (bi .eql (.s 38) (ci 0)),
 oo 40 (ms 39),
 on 41 (lq 2 9) 40,
 on 42 (.agg [.emp, .emp] []) 40,
 on 43 (cl 13 [.s 41, .s 42]) 40,
 oo 44 (.pick (.s 40) cT (.s 43)),
 oo 8 (ms 44)]
def F6r6 : RL := [oo 45 (fd 1 9),
 oo 46 (ld 45),
 oo 47 (.len false (.s 46)),
 oo 48 (bi .sub (.s 47) (ci 1)),
 oo 11 (ms 48)]
def F6r7 : RL := [oo 49 (lq 2 9),
 oo 12 (.new [.emp, .emp]),
 ow (.store 2 (.s 12) (.s 49))]
def F6r8 : RL := [oo 13 (.mov (ci 0))]
def F6r9 : RL := [oo 50 (ms 13),
 oo 51 (ms 1),
 oo 52 (.len false (.s 51)),
 oo 53 (bi .lss (.s 50) (.s 52))]
def F6r10 : RL := [oo 57 (lq 2 12),
 oo 58 (ms 1),
 oo 59 (ms 13),
 oo 60 (.iad 1 (.s 58) (.s 59)),
 oo 61 (ld 60),
 oo 62 (ms 2),
 oo 63 (cl 17 [.s 57, .s 61, .s 62]),
 oo 56 (ms 63),
 oo 64 (.ext 0 (.s 56)),
 oo 65 (.ext 1 (.s 56)),
 oo 14 (.new [.emp, .emp]),
 ow (.store 2 (.s 14) (.s 64)),
 oo 15 (ms 65)]
def F6r11 : RL := [oo 66 (ms 15),
 oo 67 (bi .eql (.s 66) (ci 0))]
def F6r12 : RL := [oo 68 (lq 2 14),
 ow (.store 2 (.s 12) (.s 68))]
def F6r13 : RL := [oo 54 (ms 13),
 oo 55 (bi .add (.s 54) (ci 1)),
 oo 13 (ms 55)]
def F6r14 : RL := [oo 70 (lq 2 4),
 oo 71 (ms 3),
 oo 72 (cl 11 [.s 70, ci 0, .s 71]),
 oo 69 (ms 72),
 oo 73 (.ext 0 (.s 69)),
 oo 74 (.ext 1 (.s 69)),
 oo 16 (ms 73),
 oo 17 (ms 74)]
def F6r15 : RL := [oo 76 (lq 2 12),
 oo 77 (ms 11),
 oo 78 (ms 3),
 oo 79 (cl 11 [.s 76, .s 77, .s 78]),
 oo 75 (ms 79),
 oo 80 (.ext 0 (.s 75)),
 oo 81 (.ext 1 (.s 75)),
 oo 18 (ms 80),
 oo 19 (ms 81)]
def F6r16 : RL := [oo 83 (lq 2 12),
 oo 84 (ms 11),
 oo 85 (cl 20 [.s 83, .s 84]),
 oo 82 (ms 85),
 oo 86 (.ext 0 (.s 82)),
 oo 87 (.ext 1 (.s 82)),
 oo 20 (.new [.emp, .emp]),
 ow (.store 2 (.s 20) (.s 86)),
 oo 21 (ms 87)]
def F6r17 : RL := [oo 89 (lq 2 20),
 oo 90 (ms 3),
 oo 91 (cl 11 [.s 89, ci 0, .s 90]),
 oo 88 (ms 91),
 oo 92 (.ext 0 (.s 88)),
 oo 93 (.ext 1 (.s 88)),
 oo 22 (ms 92),
 oo 23 (ms 93)]
def F6r18 : RL := [oo 94 (ms 17),
 oo 95 (ms 19),
 oo 96 (bi .eql (.s 94) (.s 95)),
 oo 97 (ms 96),
 ot 98 (ms 16) 97,
 ot 99 (ms 18) 97,
 ot 100 (bi .eql (.s 98) (.s 99)) 97,
 oo 101 (.pick (.s 97) (.s 100) cF),
 oo 102 (ms 101),
 ot 103 (ms 21) 102,
 ot 104 (bi .eql (.s 103) (ci 0)) 102,
 oo 105 (.pick (.s 102) (.s 104) cF),
 oo 106 (ms 105),
 ot 107 (ms 23) 106,
 ot 108 (ms 17) 106,
 ot 109 (bi .eql (.s 107) (.s 108)) 106,
 oo 110 (.pick (.s 106) (.s 109) cF),
 oo 111 (ms 110),
 ot 112 (ms 22) 111,
 ot 113 (ms 16) 111,
 ot 114 (bi .eql (.s 112) (.s 113)) 111,
 oo 115 (.pick (.s 111) (.s 114) cF),
 oo 8 (ms 115)]
def F6 : AFn := ⟨116, [.tmp 8],
  sr F6r0
  (sr F6r1
  (.seq (sr F6r2
  (cd 30
    (sr F6r3
    (.ret))
    (.skip)))
  (.seq (sr F6r4
  (cd 37
    (sr F6r5
    (.ret))
    (.skip)))
  (sr F6r6
  (sr F6r7
  (.seq (sr F6r8
  (.block 0 (
    .loop (
      .seq (sr F6r9
      (cd 53
        (.skip)
        (.exit 0)))
      (.seq (.block 1 (
        .seq (.reg F6r10 (some [[], [], [], [1, 2], [3, 1, 2], [], [0, 4, 5, 3, 1, 2], [6, 0, 4, 5, 3, 1, 2], [7, 6, 0, 4, 5, 3, 1, 2], [7, 6, 0, 4, 5, 3, 1, 2], [], [10, 8, 6, 0, 1, 2, 3, 4, 5, 7], [9, 11, 0, 1, 2, 3, 4, 5, 6, 7, 8, 10]]))
        (sr F6r11
        (cd 67
          (rg F6r12)
          (.skip)))))
      (rg F6r13))))))
  (sr F6r14
  (sr F6r15
  (sr F6r16
  (sr F6r17
  (sr F6r18
  (.ret))))))))))))⟩
theorem F6_ok : cFunc Try.prog 6 = some F6 := by kernel_rfl
theorem F6_call : callable Try.prog 6 = true := by kernel_rfl
def F10r0 : RL := [oo 2 (.new [.emp, .emp]),
 oo 3 (.mov (ci 0))]
def F10r1 : RL := [oo 4 (ms 0),
 oo 5 (bi .lss (.s 4) (ci 1)),
 oo 6 (ms 5),
 on 7 (ms 0) 6,
 on 8 (bi .gtr (.s 7) (ci 32)) 6,
 oo 9 (.pick (.s 6) cT (.s 8))]
def F10r2 : RL := [oo 10 (.agg [.emp, .emp] []),
 ow (.store 2 (.s 2) (.s 10)),
 oo 3 (.mov (ci 3))]
def F10r3 : RL := [oo 11 (ms 0),
 oo 12 (.agg [zs, zi 0] [(1, (1, .s 11))]),
 oo 13 (.bsl 2 1 [zs, zi 0] [(0, .s 12)]),
 oo 14 (ms 0),
 oo 15 (.msl 1 8 [zi 0] (.s 14) (.s 14)),
 oo 16 (.bsl 1 1 [.emp] [(0, .s 15)]),
 oo 17 (.agg [.emp, .emp] [(0, (1, .s 13)), (1, (1, .s 16))]),
 ow (.store 2 (.s 2) (.s 17)),
 oo 3 (.mov (ci 0))]
def F10 : AFn := ⟨18, [.cell 2 (some 2), .tmp 3],
  sr F10r0
  (.seq (sr F10r1
  (cd 9
    (sr F10r2
    (.ret))
    (.skip)))
  (sr F10r3
  (.ret)))⟩
theorem F10_ok : cFunc Try.prog 10 = some F10 := by kernel_rfl
theorem F10_call : callable Try.prog 10 = true := by kernel_rfl
def F11r0 : RL := [oo 3 (.box 2 (.s 0)),
 oo 4 (.box 1 (.s 1)),
 oo 5 (.box 1 (.s 2)),
 oo 6 (.mov (.c (zs))),
 oo 7 (.mov (ci 0))]
def F11r1 : RL := [oo 9 (lq 2 3),
 oo 10 (.mkf 26 [.s 3, .s 4, .s 5]),
 oo 11 (cl 25 [.s 9, .s 10]),
 oo 8 (ms 11)]
def F11r2 : RL := [oo 12 (ms 8),
 oo 13 (bi .neq (.s 12) (ci 0))]
def F11r3 : RL := [oo 14 (ms 8),
 oo 6 (.mov (.c (zs))),
 oo 7 (ms 14)]
def F11r4 : RL := [oo 15 (fd 0 3),
 oo 16 (ld 15),
 oo 17 (fd 1 3),
 oo 18 (ld 17),
 oo 19 (ld 4),
 oo 20 (.iad 1 (.s 18) (.s 19)),
 oo 21 (ld 20),
 oo 22 (ld 5),
 oo 23 (.iad 1 (.s 21) (.s 22)),
 oo 24 (ld 23),
 oo 25 (.iad 2 (.s 16) (.s 24)),
 oo 26 (fd 0 25),
 oo 27 (ld 26),
 oo 6 (ms 27),
 oo 7 (.mov (ci 0))]
def F11 : AFn := ⟨28, [.tmp 6, .tmp 7],
  sr F11r0
  (.seq (sr F11r1
  (sr F11r2
  (cd 13
    (sr F11r3
    (.ret))
    (.skip))))
  (.seq (.reg F11r4 (some [[], [0], [], [2], [], [3, 4, 2], [5, 3, 4, 2], [], [6, 7, 5, 3, 4, 2], [8, 6, 7, 5, 3, 4, 2], [1, 9, 0, 8, 6, 7, 5, 3, 4, 2], [10, 1, 9, 0, 8, 6, 7, 5, 3, 4, 2], [11, 10, 1, 9, 0, 8, 6, 7, 5, 3, 4, 2], [12, 0, 1, 2, 3, 4, 5, 6, 7, 8, 9, 10, 11], [13, 0, 1, 2, 3, 4, 5, 6, 7, 8, 9, 10, 11, 12]]))
  (.ret)))⟩
theorem F11_ok : cFunc Try.prog 11 = some F11 := by kernel_rfl
theorem F11_call : callable Try.prog 11 = true := by kernel_rfl
def F13r0 : RL := [oo 2 (.box 2 (.s 0)),
 oo 3 (.box 2 (.s 1)),
 oo 4 (.mov cF)]
def F13r1 : RL := [oo 7 (fd 0 2),
 oo 8 (ld 7),
 oo 9 (.len false (.s 8)),
 oo 10 (fd 0 3),
 oo 11 (ld 10),
 oo 12 (.len false (.s 11)),
 oo 13 (bi .neq (.s 9) (.s 12)),
 oo 14 (ms 13),
 on 15 (fd 1 2) 14,
 on 16 (ld 15) 14,
 on 17 (.len false (.s 16)) 14,
 on 18 (fd 1 3) 14,
 on 19 (ld 18) 14,
 on 20 (.len false (.s 19)) 14,
 on 21 (bi .neq (.s 17) (.s 20)) 14,
 oo 22 (.pick (.s 14) cT (.s 21))]
def F13r2 : RL := [oo 4 (.mov cF)]
def F13r3 : RL := [oo 5 (.mov (ci 0))]
def F13r4 : RL := [oo 23 (ms 5),
 oo 24 (fd 0 2),
 oo 25 (ld 24),
 oo 26 (.len false (.s 25)),
 oo 27 (bi .lss (.s 23) (.s 26))]
def F13r5 : RL := [oo 30 (fd 0 2),
 oo 31 (ld 30),
 oo 32 (ms 5),
 oo 33 (.iad 2 (.s 31) (.s 32)),
 oo 34 (lq 2 33),
 oo 35 (fd 0 3),
 oo 36 (ld 35),
 oo 37 (ms 5),
 oo 38 (.iad 2 (.s 36) (.s 37)),
 oo 39 (lq 2 38),
 oo 40 (.eqs true 2 [(0, .str), (1, .int)] (.s 34) (.s 39))]
def F13r6 : RL := [oo 4 (.mov cF)]
def F13r7 : RL := [oo 28 (ms 5),
 oo 29 (bi .add (.s 28) (ci 1)),
 oo 5 (ms 29)]
def F13r8 : RL := [oo 6 (.mov (ci 0))]
def F13r9 : RL := [oo 41 (ms 6),
 oo 42 (fd 1 2),
 oo 43 (ld 42),
 oo 44 (.len false (.s 43)),
 oo 45 (bi .lss (.s 41) (.s 44))]
def F13r10 : RL := [oo 48 (fd 1 2),
 oo 49 (ld 48),
 oo 50 (ms 6),
 oo 51 (.iad 1 (.s 49) (.s 50)),
 oo 52 (ld 51),
 oo 53 (fd 1 3),
 oo 54 (ld 53),
 oo 55 (ms 6),
 oo 56 (.iad 1 (.s 54) (.s 55)),
 oo 57 (ld 56),
 oo 58 (cl 29 [.s 52, .s 57]),
 oo 59 (.un .not (.s 58))]
def F13r11 : RL := [oo 4 (.mov cF)]
def F13r12 : RL := [oo 46 (ms 6),
 oo 47 (bi .add (.s 46) (ci 1)),
 oo 6 (ms 47)]
def F13r13 : RL := [oo 4 (.mov cT)]
def F13 : AFn := ⟨60, [.tmp 4],
  sr F13r0
  (.seq (sr F13r1
  (cd 22
    (sr F13r2
    (.ret))
    (.skip)))
  (.seq (sr F13r3
  (.block 0 (
    .loop (
      .seq (sr F13r4
      (cd 27
        (.skip)
        (.exit 0)))
      (.seq (.block 1 (
        .seq (.reg F13r5 (some [[], [0], [], [1, 2, 0], [3, 1, 2, 0], [], [5], [], [6, 7, 5], [8, 6, 7, 5], [4, 9, 3, 1, 2, 0, 8, 6, 7, 5]]))
        (cd 40
          (sr F13r6
          (.ret))
          (.skip))))
      (rg F13r7))))))
  (.seq (sr F13r8
  (.block 2 (
    .loop (
      .seq (sr F13r9
      (cd 45
        (.skip)
        (.exit 2)))
      (.seq (.block 3 (
        .seq (.reg F13r10 (some [[], [0], [], [1, 2, 0], [3, 1, 2, 0], [], [5], [], [6, 7, 5], [8, 6, 7, 5], [4, 9, 3, 1, 2, 0, 8, 6, 7, 5], [10, 4, 9, 3, 1, 2, 0, 8, 6, 7, 5]]))
        (cd 59
          (sr F13r11
          (.ret))
          (.skip))))
      (rg F13r12))))))
  (sr F13r13
  (.ret)))))⟩
theorem F13_ok : cFunc Try.prog 13 = some F13 := by kernel_rfl
theorem F13_call : callable Try.prog 13 = true := by kernel_rfl
def F14r0 : RL := [oo 0 (.mov cF)]
def F14r1 : RL := [oo 22 (cl 10 [ci 2]),
 oo 21 (ms 22),
 oo 23 (.ext 0 (.s 21)),
 oo 24 (.ext 1 (.s 21)),
 oo 1 (.new [.emp, .emp]),
 ow (.store 2 (.s 1) (.s 23)),
 oo 2 (ms 24)]
def F14r2 : RL := [oo 26 (lq 2 1),
 oo 27 (cl 17 [.s 26, ci 1, .c (.v (.string ⟨#[111, 108, 100]⟩))]),
 oo 25 (ms 27),
 oo 28 (.ext 0 (.s 25)),
 oo 29 (.ext 1 (.s 25)),
 oo 3 (.new [.emp, .emp]),
 ow (.store 2 (.s 3) (.s 28)),
 oo 4 (ms 29)]
def F14r3 : RL := [oo 31 (lq 2 3),
 oo 32 (cl 18 [.s 31]),
 oo 30 (ms 32),
 oo 33 (.ext 0 (.s 30)),
 oo 34 (.ext 1 (.s 30)),
 oo 5 (.new [.emp, .emp]),
 ow (.store 2 (.s 5) (.s 33)),
 oo 6 (ms 34)]
def F14r4 : RL := [oo 36 (lq 2 5),
 oo 37 (cl 17 [.s 36, ci 1, .c (.v (.string ⟨#[110, 101, 119]⟩))]),
 oo 35 (ms 37),
 oo 38 (.ext 0 (.s 35)),
 oo 39 (.ext 1 (.s 35)),
 oo 7 (.new [.emp, .emp]),
 ow (.store 2 (.s 7) (.s 38)),
 oo 8 (ms 39)]
def F14r5 : RL := [oo 41 (lq 2 7),
 oo 42 (cl 11 [.s 41, ci 1, ci 1]),
 oo 40 (ms 42),
 oo 43 (.ext 0 (.s 40)),
 oo 44 (.ext 1 (.s 40)),
 oo 9 (ms 43),
 oo 10 (ms 44)]
def F14r6 : RL := [oo 46 (lq 2 7),
 oo 47 (cl 11 [.s 46, ci 0, ci 1]),
 oo 45 (ms 47),
 oo 48 (.ext 0 (.s 45)),
 oo 49 (.ext 1 (.s 45)),
 oo 11 (ms 48),
 oo 12 (ms 49)]
def F14r7 : RL := [oo 51 (lq 2 7),
 oo 52 (cl 20 [.s 51, ci 1]),
 oo 50 (ms 52),
 oo 53 (.ext 0 (.s 50)),
 oo 54 (.ext 1 (.s 50)),
 oo 13 (.new [.emp, .emp]),
 ow (.store 2 (.s 13) (.s 53)),
 oo 14 (ms 54)]
def F14r8 : RL := [oo 56 (lq 2 13),
 oo 57 (cl 11 [.s 56, ci 0, ci 1]),
 oo 55 (ms 57),
 oo 58 (.ext 0 (.s 55)),
 oo 59 (.ext 1 (.s 55)),
 oo 15 (ms 58),
 oo 16 (ms 59)]
def F14r9 : RL := [oo 61 (lq 2 7),
 oo 62 (cl 19 [.s 61, ci 1]),
 oo 60 (ms 62),
 oo 63 (.ext 0 (.s 60)),
 oo 64 (.ext 1 (.s 60)),
 oo 17 (.new [.emp, .emp]),
 ow (.store 2 (.s 17) (.s 63)),
 oo 18 (ms 64)]
def F14r10 : RL := [oo 66 (lq 2 7),
 oo 67 (cl 19 [.s 66, ci 0]),
 oo 65 (ms 67),
 oo 68 (.ext 0 (.s 65)),
 oo 69 (.ext 1 (.s 65)),
 oo 19 (.new [.emp, .emp]),
 ow (.store 2 (.s 19) (.s 68)),
 oo 20 (ms 69)]
def F14r11 : RL := [oo 70 (ms 2),
 oo 71 (bi .eql (.s 70) (ci 0)),
 oo 72 (ms 71),
 ot 73 (ms 4) 72,
 ot 74 (bi .eql (.s 73) (ci 0)) 72,
 oo 75 (.pick (.s 72) (.s 74) cF),
 oo 76 (ms 75),
 ot 77 (ms 6) 76,
 ot 78 (bi .eql (.s 77) (ci 0)) 76,
 oo 79 (.pick (.s 76) (.s 78) cF),
 oo 80 (ms 79),
 ot 81 (ms 8) 80,
 ot 82 (bi .eql (.s 81) (ci 0)) 80,
 oo 83 (.pick (.s 80) (.s 82) cF),
 oo 84 (ms 83),
 ot 85 (ms 9) 84,
 ot 86 (bi .eql (.s 85) (.c (.v (.string ⟨#[111, 108, 100]⟩)))) 84,
 oo 87 (.pick (.s 84) (.s 86) cF),
 oo 88 (ms 87),
 ot 89 (ms 10) 88,
 ot 90 (bi .eql (.s 89) (ci 0)) 88,
 oo 91 (.pick (.s 88) (.s 90) cF),
 oo 92 (ms 91),
 ot 93 (ms 11) 92,
 ot 94 (bi .eql (.s 93) (.c (.v (.string ⟨#[110, 101, 119]⟩)))) 92,
 oo 95 (.pick (.s 92) (.s 94) cF),
 oo 96 (ms 95),
 ot 97 (ms 12) 96,
 ot 98 (bi .eql (.s 97) (ci 0)) 96,
 oo 99 (.pick (.s 96) (.s 98) cF),
 oo 100 (ms 99),
 ot 101 (ms 14) 100,
 ot 102 (bi .eql (.s 101) (ci 0)) 100,
 oo 103 (.pick (.s 100) (.s 102) cF),
 oo 104 (ms 103),
 ot 105 (ms 15) 104,
 ot 106 (bi .eql (.s 105) (.c (.v (.string ⟨#[111, 108, 100]⟩)))) 104,
 oo 107 (.pick (.s 104) (.s 106) cF),
 oo 108 (ms 107),
 ot 109 (ms 16) 108,
 ot 110 (bi .eql (.s 109) (ci 0)) 108,
 oo 111 (.pick (.s 108) (.s 110) cF),
 oo 112 (ms 111),
 ot 113 (ms 18) 112,
 ot 114 (bi .eql (.s 113) (ci 0)) 112,
 oo 115 (.pick (.s 112) (.s 114) cF),
 oo 116 (ms 115),
 ot 117 (fd 1 17) 116,
 ot 118 (ld 117) 116,
 ot 119 (.len false (.s 118)) 116,
 ot 120 (bi .eql (.s 119) (ci 1)) 116,
 oo 121 (.pick (.s 116) (.s 120) cF),
 oo 122 (ms 121),
 ot 123 (ms 20) 122,
 ot 124 (bi .eql (.s 123) (ci 3)) 122,
 oo 125 (.pick (.s 122) (.s 124) cF),
 oo 126 (ms 125),
 ot 127 (lq 2 13) 126,
 ot 128 (cl 15 [.s 127]) 126,
 ot 129 (bi .eql (.s 128) (ci 0)) 126,
 oo 130 (.pick (.s 126) (.s 129) cF),
 oo 0 (ms 130)]
def F14 : AFn := ⟨131, [.tmp 0],
  sr F14r0
  (sr F14r1
  (sr F14r2
  (sr F14r3
  (sr F14r4
  (sr F14r5
  (sr F14r6
  (sr F14r7
  (sr F14r8
  (sr F14r9
  (sr F14r10
  (sr F14r11
  (.ret))))))))))))⟩
theorem F14_ok : cFunc Try.prog 14 = some F14 := by kernel_rfl
theorem F14_call : callable Try.prog 14 = true := by kernel_rfl
def F15r0 : RL := [oo 1 (.box 2 (.s 0)),
 oo 2 (.mov (ci 0))]
def F15r1 : RL := [oo 11 (fd 0 1),
 oo 12 (ld 11),
 oo 13 (.len false (.s 12)),
 oo 14 (bi .gtr (.s 13) (ci 200)),
 oo 10 (ms 14)]
def F15r2 : RL := [oo 15 (fd 1 1),
 oo 16 (ld 15),
 oo 17 (.len false (.s 16)),
 oo 18 (bi .gtr (.s 17) (ci 12)),
 oo 10 (ms 18)]
def F15r3 : RL := [oo 2 (.mov (ci 2))]
def F15r4 : RL := [oo 20 (fd 1 1),
 oo 21 (ld 20),
 oo 22 (.len false (.s 21)),
 oo 23 (bi .eql (.s 22) (ci 0)),
 oo 19 (ms 23)]
def F15r5 : RL := [oo 24 (fd 1 1),
 oo 25 (ld 24),
 oo 26 (.iad 1 (.s 25) (ci 0)),
 oo 27 (ld 26),
 oo 28 (.len false (.s 27)),
 oo 29 (bi .eql (.s 28) (ci 0)),
 oo 19 (ms 29)]
def F15r6 : RL := [oo 2 (.mov (ci 8))]
def F15r7 : RL := [oo 31 (fd 1 1),
 oo 32 (ld 31),
 oo 33 (.mkf 31 [.s 1]),
 oo 34 (cl 30 [.s 32, .s 33]),
 oo 30 (ms 34)]
def F15r8 : RL := [oo 2 (.mov (ci 1))]
def F15r9 : RL := [oo 36 (fd 1 1),
 oo 37 (ld 36),
 oo 38 (.iad 1 (.s 37) (ci 0)),
 oo 39 (ld 38),
 oo 40 (.len false (.s 39)),
 oo 41 (bi .gtr (.s 40) (ci 32)),
 oo 35 (ms 41)]
def F15r10 : RL := [oo 2 (.mov (ci 2))]
def F15r11 : RL := [oo 42 (fd 0 1),
 oo 43 (ld 42),
 oo 44 (.len false (.s 43)),
 oo 45 (.msl 1 8 [zi 0] (.s 44) (.s 44)),
 oo 3 (ms 45)]
def F15r12 : RL := [oo 46 (fd 1 1),
 oo 47 (ld 46),
 oo 48 (.len false (.s 47)),
 oo 49 (.mov (ci 0))]
def F15r13 : RL := [oo 50 (bi .lss (.s 49) (.s 48))]
def F15r14 : RL := [oo 51 (.iad 1 (.s 47) (.s 49)),
 oo 52 (ld 51),
 oo 5 (ms 52)]
def F15r15 : RL := [oo 53 (ms 5),
 oo 54 (.len false (.s 53)),
 oo 55 (.mov (ci 0))]
def F15r16 : RL := [oo 56 (bi .lss (.s 55) (.s 54))]
def F15r17 : RL := [oo 57 (.iad 1 (.s 53) (.s 55)),
 oo 58 (ld 57),
 oo 7 (ms 58)]
def F15r18 : RL := [oo 59 (ms 7),
 oo 60 (bi .lss (.s 59) (ci 0)),
 oo 61 (ms 60),
 on 62 (ms 7) 61,
 on 63 (ms 3) 61,
 on 64 (.len false (.s 63)) 61,
 on 65 (bi .geq (.s 62) (.s 64)) 61,
 oo 66 (.pick (.s 61) cT (.s 65))]
def F15r19 : RL := [oo 2 (.mov (ci 3))]
def F15r20 : RL := [oo 67 (ms 3),
 oo 68 (ms 7),
 oo 69 (.iad 1 (.s 67) (.s 68)),
 oo 70 (ld 69),
 oo 71 (bi .add (.s 70) (ci 1)),
 oo 72 (.iad 1 (.s 67) (.s 68)),
 ow (.store 1 (.s 72) (.s 71))]
def F15r21 : RL := [oo 73 (bi .add (.s 55) (ci 1)),
 oo 55 (ms 73)]
def F15r22 : RL := [oo 74 (bi .add (.s 49) (ci 1)),
 oo 49 (ms 74)]
def F15r23 : RL := [oo 75 (fd 0 1),
 oo 76 (ld 75),
 oo 77 (cl 32 [.s 76, .c (.fn 33 [])])]
def F15r24 : RL := [oo 2 (.mov (ci 2))]
def F15r25 : RL := [oo 78 (fd 0 1),
 oo 79 (ld 78),
 oo 80 (.len false (.s 79)),
 oo 81 (.mov (ci 0))]
def F15r26 : RL := [oo 82 (bi .lss (.s 81) (.s 80))]
def F15r27 : RL := [oo 83 (ms 81),
 oo 84 (.iad 2 (.s 79) (.s 81)),
 oo 85 (lq 2 84),
 oo 9 (.new [zs, zi 0]),
 oo 8 (ms 83),
 ow (.store 2 (.s 9) (.s 85))]
def F15r28 : RL := [oo 86 (fd 1 9),
 oo 87 (ld 86),
 oo 88 (ms 3),
 oo 89 (ms 8),
 oo 90 (.iad 1 (.s 88) (.s 89)),
 oo 91 (ld 90),
 oo 92 (bi .neq (.s 87) (.s 91)),
 oo 93 (ms 92),
 on 94 (fd 1 9) 93,
 on 95 (ld 94) 93,
 on 96 (bi .eql (.s 95) (ci 0)) 93,
 on 97 (ms 96) 93,
 ot 98 (fd 0 9) 97,
 ot 99 (ld 98) 97,
 ot 100 (bi .neq (.s 99) (.c (zs))) 97,
 on 101 (.pick (.s 97) (.s 100) cF) 93,
 oo 102 (.pick (.s 93) cT (.s 101))]
def F15r29 : RL := [oo 2 (.mov (ci 4))]
def F15r30 : RL := [oo 103 (bi .add (.s 81) (ci 1)),
 oo 81 (ms 103)]
def F15r31 : RL := [oo 2 (.mov (ci 0))]
def F15 : AFn := ⟨104, [.tmp 2],
  sr F15r0
  (.seq (.block 0 (
    .seq (sr F15r1
    (cd 10
      (.skip)
      (rg F15r2)))
    (cd 10
      (sr F15r3
      (.ret))
      (.seq (sr F15r4
      (cd 19
        (.skip)
        (rg F15r5)))
      (cd 19
        (sr F15r6
        (.ret))
        (sr F15r7
        (cd 30
          (sr F15r8
          (.ret))
          (sr F15r9
          (cd 35
            (sr F15r10
            (.ret))
            (.skip))))))))))
  (sr F15r11
  (.seq (sr F15r12
  (.block 1 (
    .loop (
      sr F15r13
      (.seq (cd 50
        (.skip)
        (.exit 1))
      (.seq (.block 2 (
        sr F15r14
        (sr F15r15
        (.block 3 (
          .loop (
            sr F15r16
            (.seq (cd 56
              (.skip)
              (.exit 3))
            (.seq (.block 4 (
              sr F15r17
              (.seq (sr F15r18
              (cd 66
                (sr F15r19
                (.ret))
                (.skip)))
              (rg F15r20))))
            (rg F15r21)))))))))
      (rg F15r22)))))))
  (.seq (sr F15r23
  (cd 77
    (sr F15r24
    (.ret))
    (.skip)))
  (.seq (sr F15r25
  (.block 5 (
    .loop (
      sr F15r26
      (.seq (cd 82
        (.skip)
        (.exit 5))
      (.seq (.block 6 (
        sr F15r27
        (.seq (.reg F15r28 (some [[], [0], [], [], [2, 3], [4, 2, 3], [1, 5, 0, 4, 2, 3], [6, 1, 5, 0, 4, 2, 3], [7, 6, 1, 5, 0, 4, 2, 3], [8, 7, 6, 1, 5, 0, 4, 2, 3], [9, 7, 8, 6, 1, 5, 0, 4, 2, 3], [10, 7, 9, 8, 6, 1, 5, 0, 4, 2, 3], [11, 10, 7, 9, 8, 6, 1, 5, 0, 4, 2, 3], [12, 11, 10, 7, 9, 8, 6, 1, 5, 0, 4, 2, 3], [13, 11, 12, 10, 7, 9, 8, 6, 1, 5, 0, 4, 2, 3], [11, 14, 7, 10, 9, 8, 6, 1, 5, 0, 4, 2, 3, 13, 12], [7, 15, 6, 1, 5, 0, 4, 2, 3, 11, 14, 10, 9, 8, 13, 12]]))
        (cd 102
          (sr F15r29
          (.ret))
          (.skip)))))
      (rg F15r30)))))))
  (sr F15r31
  (.ret)))))))⟩
theorem F15_ok : cFunc Try.prog 15 = some F15 := by kernel_rfl
theorem F15_call : callable Try.prog 15 = true := by kernel_rfl
def F17r0 : RL := [oo 3 (.box 2 (.s 0)),
 oo 4 (.box 1 (.s 1)),
 oo 6 (.new [.emp, .emp]),
 oo 7 (.mov (ci 0))]
def F17r1 : RL := [oo 11 (lq 2 3),
 oo 12 (.mkf 35 [.s 3, .s 4]),
 oo 13 (cl 25 [.s 11, .s 12]),
 oo 8 (ms 13)]
def F17r2 : RL := [oo 14 (ms 8),
 oo 15 (bi .eql (.s 14) (ci 0)),
 oo 16 (ms 15),
 ot 17 (ms 2) 16,
 ot 18 (.len true (.s 17)) 16,
 ot 19 (bi .gtr (.s 18) (ci 64)) 16,
 oo 20 (.pick (.s 16) (.s 19) cF)]
def F17r3 : RL := [oo 8 (.mov (ci 2))]
def F17r4 : RL := [oo 21 (ms 8),
 oo 22 (bi .neq (.s 21) (ci 0))]
def F17r5 : RL := [oo 23 (.agg [.emp, .emp] []),
 oo 24 (ms 8),
 ow (.store 2 (.s 6) (.s 23)),
 oo 7 (ms 24)]
def F17r6 : RL := [oo 25 (lq 2 3),
 oo 26 (cl 36 [.s 25]),
 oo 27 (.agg [.emp, .emp] [(0, (2, .s 26))]),
 oo 28 (.box 2 (.s 27)),
 oo 9 (ms 28)]
def F17r7 : RL := [oo 29 (ms 9),
 oo 30 (.nilc (.s 29)),
 oo 31 (fd 0 30),
 oo 32 (fd 1 31),
 oo 33 (ld 32),
 oo 34 (.iad 1 (.s 33) (ci 0)),
 oo 35 (ld 34),
 oo 36 (ld 4),
 oo 37 (.iad 1 (.s 35) (.s 36)),
 oo 10 (ms 37)]
def F17r8 : RL := [oo 38 (ms 9),
 oo 39 (.nilc (.s 38)),
 oo 40 (fd 0 39),
 oo 41 (fd 0 40),
 oo 42 (ld 41),
 oo 43 (ms 10),
 oo 44 (.nilc (.s 43)),
 oo 45 (ld 44),
 oo 46 (.iad 2 (.s 42) (.s 45)),
 oo 47 (fd 1 46),
 oo 48 (ld 47),
 oo 49 (bi .gtr (.s 48) (ci 1))]
def F17r9 : RL := [oo 50 (ms 9),
 oo 51 (ms 10),
 oo 52 (.nilc (.s 51)),
 oo 53 (ld 52),
 oo 54 (cl 37 [.s 50, .s 53, ci (-1)])]
def F17r10 : RL := [oo 55 (ms 10),
 oo 56 (ms 9),
 oo 57 (cl 38 [.s 56]),
 oo 58 (.nilc (.s 55)),
 ow (.store 1 (.s 58) (.s 57))]
def F17r11 : RL := [oo 59 (ms 9),
 oo 60 (ms 10),
 oo 61 (.nilc (.s 60)),
 oo 62 (ld 61),
 oo 63 (cl 37 [.s 59, .s 62, ci 1])]
def F17r12 : RL := [oo 64 (ms 9),
 oo 65 (.nilc (.s 64)),
 oo 66 (fd 0 65),
 oo 67 (fd 0 66),
 oo 68 (ld 67),
 oo 69 (ms 10),
 oo 70 (.nilc (.s 69)),
 oo 71 (ld 70),
 oo 72 (ms 2),
 oo 73 (.iad 2 (.s 68) (.s 71)),
 oo 74 (fd 0 73),
 ow (.store 1 (.s 74) (.s 72))]
def F17r13 : RL := [oo 75 (ms 9),
 oo 76 (.nilc (.s 75)),
 oo 77 (fd 0 76),
 oo 78 (fd 0 77),
 oo 79 (ld 78),
 oo 80 (.len false (.s 79)),
 oo 81 (bi .gtr (.s 80) (ci 200))]
def F17r14 : RL := [oo 82 (.agg [.emp, .emp] []),
 ow (.store 2 (.s 6) (.s 82)),
 oo 7 (.mov (ci 2))]
def F17r15 : RL := [oo 83 (ms 9),
 oo 84 (.nilc (.s 83)),
 oo 85 (fd 0 84),
 oo 86 (lq 2 85),
 ow (.store 2 (.s 6) (.s 86)),
 oo 7 (.mov (ci 0))]
def F17 : AFn := ⟨87, [.cell 6 (some 2), .tmp 7],
  sr F17r0
  (sr F17r1
  (.seq (sr F17r2
  (cd 20
    (rg F17r3)
    (.skip)))
  (.seq (sr F17r4
  (cd 22
    (sr F17r5
    (.ret))
    (.skip)))
  (sr F17r6
  (.seq (.reg F17r7 (some [[], [0], [1, 0], [2, 1, 0], [3, 2, 1, 0], [4, 3, 2, 1, 0], [5, 4, 3, 2, 1, 0], [], [6, 7, 5, 4, 3, 2, 1, 0], [8, 0, 1, 2, 3, 4, 5, 6, 7]]))
  (.seq (.seq (.reg F17r8 (some [[], [0], [1, 0], [2, 1, 0], [3, 2, 1, 0], [], [5], [6, 5], [4, 7, 3, 2, 1, 0, 6, 5], [8, 4, 7, 3, 2, 1, 0, 6, 5], [9, 8, 4, 7, 3, 2, 1, 0, 6, 5], [10, 9, 8, 4, 7, 3, 2, 1, 0, 6, 5]]))
  (cd 49
    (sr F17r9
    (sr F17r10
    (rg F17r11)))
    (.skip)))
  (.seq (.seq (.reg F17r12 (some [[], [0], [1, 0], [2, 1, 0], [3, 2, 1, 0], [], [5], [6, 5], [], [4, 7, 0, 1, 2, 3, 5, 6, 8], [9, 0, 1, 2, 3, 4, 5, 6, 7, 8], [10, 8, 0, 1, 2, 3, 4, 5, 6, 7, 9]]))
  (sr F17r13
  (cd 81
    (sr F17r14
    (.ret))
    (.skip))))
  (sr F17r15
  (.ret)))))))))⟩
theorem F17_ok : cFunc Try.prog 17 = some F17 := by kernel_rfl
theorem F17_call : callable Try.prog 17 = true := by kernel_rfl
def F18r0 : RL := [oo 1 (.box 2 (.s 0)),
 oo 2 (.new [.emp, .emp]),
 oo 3 (.mov (ci 0))]
def F18r1 : RL := [oo 6 (lq 2 1),
 oo 7 (cl 15 [.s 6]),
 oo 4 (ms 7)]
def F18r2 : RL := [oo 8 (ms 4),
 oo 9 (bi .eql (.s 8) (ci 0)),
 oo 10 (ms 9),
 ot 11 (fd 1 1) 10,
 ot 12 (ld 11) 10,
 ot 13 (.len false (.s 12)) 10,
 ot 14 (bi .eql (.s 13) (ci 12)) 10,
 oo 15 (.pick (.s 10) (.s 14) cF)]
def F18r3 : RL := [oo 4 (.mov (ci 2))]
def F18r4 : RL := [oo 16 (ms 4),
 oo 17 (bi .neq (.s 16) (ci 0))]
def F18r5 : RL := [oo 18 (.agg [.emp, .emp] []),
 oo 19 (ms 4),
 ow (.store 2 (.s 2) (.s 18)),
 oo 3 (ms 19)]
def F18r6 : RL := [oo 20 (lq 2 1),
 oo 21 (cl 36 [.s 20]),
 oo 22 (.agg [.emp, .emp] [(0, (2, .s 21))]),
 oo 23 (.box 2 (.s 22)),
 oo 5 (ms 23)]
def F18r7 : RL := [oo 24 (ms 5),
 oo 25 (ms 5),
 oo 26 (.nilc (.s 25)),
 oo 27 (fd 0 26),
 oo 28 (fd 1 27),
 oo 29 (ld 28),
 oo 30 (ms 5),
 oo 31 (.nilc (.s 30)),
 oo 32 (fd 0 31),
 oo 33 (fd 1 32),
 oo 34 (ld 33),
 oo 35 (.iad 1 (.s 34) (ci 0)),
 oo 36 (ld 35),
 oo 37 (cl 39 [.s 36]),
 oo 38 (.bsl 1 1 [.emp] [(0, .s 37)]),
 oo 39 (.app 1 24 (.s 29) (.s 38)),
 oo 40 (.nilc (.s 24)),
 oo 41 (fd 0 40),
 oo 42 (fd 1 41),
 ow (.store 1 (.s 42) (.s 39))]
def F18r8 : RL := [oo 43 (ms 5),
 oo 44 (ms 5),
 oo 45 (.nilc (.s 44)),
 oo 46 (fd 0 45),
 oo 47 (fd 1 46),
 oo 48 (ld 47),
 oo 49 (.iad 1 (.s 48) (ci 0)),
 oo 50 (ld 49),
 oo 51 (cl 40 [.s 43, .s 50, ci 1])]
def F18r9 : RL := [oo 52 (ms 5),
 oo 53 (.nilc (.s 52)),
 oo 54 (fd 0 53),
 oo 55 (lq 2 54),
 ow (.store 2 (.s 2) (.s 55)),
 oo 3 (.mov (ci 0))]
def F18 : AFn := ⟨56, [.cell 2 (some 2), .tmp 3],
  sr F18r0
  (sr F18r1
  (.seq (sr F18r2
  (cd 15
    (rg F18r3)
    (.skip)))
  (.seq (sr F18r4
  (cd 17
    (sr F18r5
    (.ret))
    (.skip)))
  (sr F18r6
  (.seq (.reg F18r7 (some [[], [], [1], [2, 1], [3, 2, 1], [4, 3, 2, 1], [], [6], [7, 6], [8, 7, 6], [9, 8, 7, 6], [10, 9, 8, 7, 6], [11, 10, 9, 8, 7, 6], [12, 11, 10, 9, 8, 7, 6], [13, 12, 11, 10, 9, 8, 7, 6], [5, 14, 13, 4, 3, 2, 1, 12, 11, 10, 9, 8, 7, 6], [0, 1, 2, 3, 4, 5, 6, 7, 8, 9, 10, 11, 12, 13, 14, 15], [16, 0, 1, 2, 3, 4, 5, 6, 7, 8, 9, 10, 11, 12, 13, 14, 15], [17, 0, 1, 2, 3, 4, 5, 6, 7, 8, 9, 10, 11, 12, 13, 14, 15, 16], [18, 15, 0, 1, 2, 3, 4, 5, 6, 7, 8, 9, 10, 11, 12, 13, 14, 17, 16]]))
  (sr F18r8
  (sr F18r9
  (.ret))))))))⟩
theorem F18_ok : cFunc Try.prog 18 = some F18 := by kernel_rfl
theorem F18_call : callable Try.prog 18 = true := by kernel_rfl
def F19r0 : RL := [oo 2 (.box 2 (.s 0)),
 oo 3 (.box 1 (.s 1)),
 oo 4 (.new [.emp, .emp]),
 oo 5 (.mov (ci 0))]
def F19r1 : RL := [oo 6 (lq 2 2),
 oo 7 (ld 3),
 oo 8 (.mkf 42 [.s 3]),
 oo 9 (cl 41 [.s 6, .s 7, .s 8]),
 oo 10 (.ext 0 (.s 9)),
 oo 11 (.ext 1 (.s 9)),
 ow (.store 2 (.s 4) (.s 10)),
 oo 5 (ms 11)]
def F19 : AFn := ⟨12, [.cell 4 (some 2), .tmp 5],
  sr F19r0
  (sr F19r1
  (.ret))⟩
theorem F19_ok : cFunc Try.prog 19 = some F19 := by kernel_rfl
theorem F19_call : callable Try.prog 19 = true := by kernel_rfl
def F20r0 : RL := [oo 2 (.box 2 (.s 0)),
 oo 3 (.box 1 (.s 1)),
 oo 4 (.new [.emp, .emp]),
 oo 5 (.mov (ci 0))]
def F20r1 : RL := [oo 6 (lq 2 2),
 oo 7 (ld 3),
 oo 8 (.mkf 44 [.s 3]),
 oo 9 (cl 41 [.s 6, .s 7, .s 8]),
 oo 10 (.ext 0 (.s 9)),
 oo 11 (.ext 1 (.s 9)),
 ow (.store 2 (.s 4) (.s 10)),
 oo 5 (ms 11)]
def F20 : AFn := ⟨12, [.cell 4 (some 2), .tmp 5],
  sr F20r0
  (sr F20r1
  (.ret))⟩
theorem F20_ok : cFunc Try.prog 20 = some F20 := by kernel_rfl
theorem F20_call : callable Try.prog 20 = true := by kernel_rfl
def F25r0 : RL := [oo 2 (.box 2 (.s 0)),
 oo 4 (.mov (ci 0))]
def F25r1 : RL := [oo 6 (lq 2 2),
 oo 7 (cl 15 [.s 6]),
 oo 5 (ms 7)]
def F25r2 : RL := [oo 8 (ms 5),
 oo 9 (bi .eql (.s 8) (ci 0)),
 oo 10 (ms 9),
 ot 11 (ms 1) 10,
 ot 12 (.call (.s 11) []) 10,
 ot 13 (.un .not (.s 12)) 10,
 oo 14 (.pick (.s 10) (.s 13) cF)]
def F25r3 : RL := [oo 5 (.mov (ci 3))]
def F25r4 : RL := [oo 15 (ms 5),
 oo 4 (ms 15)]
def F25 : AFn := ⟨16, [.tmp 4],
  sr F25r0
  (sr F25r1
  (.seq (sr F25r2
  (cd 14
    (rg F25r3)
    (.skip)))
  (sr F25r4
  (.ret))))⟩
theorem F25_ok : cFunc Try.prog 25 = some F25 := by kernel_rfl
theorem F25_call : callable Try.prog 25 = true := by kernel_rfl
def F26r0 : RL := [oo 3 (.mov cF)]
def F26r1 : RL := [oo 4 (fd 1 0),
 oo 5 (ld 4),
 oo 6 (ld 1),
 oo 7 (cl 27 [.s 5, .s 6]),
 oo 8 (ms 7),
 ot 9 (fd 1 0) 8,
 ot 10 (ld 9) 8,
 ot 11 (.iad 1 (.s 10) (ci 0)) 8,
 ot 12 (ld 11) 8,
 ot 13 (ld 2) 8,
 ot 14 (cl 28 [.s 12, .s 13]) 8,
 oo 15 (.pick (.s 8) (.s 14) cF),
 oo 3 (ms 15)]
def F26 : AFn := ⟨16, [.tmp 3],
  sr F26r0
  (.seq (.reg F26r1 (some [[], [0], [], [1, 2, 0], [3, 1, 2, 0], [4, 3, 1, 2, 0], [5, 4, 3, 1, 2, 0], [6, 4, 5, 3, 1, 2, 0], [7, 4, 6, 5, 3, 1, 2, 0], [4, 3, 1, 2, 0], [8, 9, 4, 7, 6, 5, 3, 1, 2, 0], [4, 10, 3, 1, 2, 0, 8, 9, 7, 6, 5], [11, 10, 0, 1, 2, 3, 4, 5, 6, 7, 8, 9]]))
  (.ret))⟩
theorem F26_ok : cFunc Try.prog 26 = some F26 := by kernel_rfl
theorem F26_call : callable Try.prog 26 = true := by kernel_rfl
def F27r0 : RL := [oo 4 (.mov cF)]
def F27r1 : RL := [oo 5 (ms 1),
 oo 6 (bi .geq (.s 5) (ci 0)),
 oo 7 (ms 6),
 ot 8 (ms 1) 7,
 ot 9 (ms 0) 7,
 ot 10 (.len false (.s 9)) 7,
 ot 11 (bi .lss (.s 8) (.s 10)) 7,
 oo 12 (.pick (.s 7) (.s 11) cF),
 oo 4 (ms 12)]
def F27 : AFn := ⟨13, [.tmp 4],
  sr F27r0
  (sr F27r1
  (.ret))⟩
theorem F27_ok : cFunc Try.prog 27 = some F27 := by kernel_rfl
theorem F27_call : callable Try.prog 27 = true := by kernel_rfl
def F28r0 : RL := [oo 4 (.mov cF)]
def F28r1 : RL := [oo 5 (ms 1),
 oo 6 (bi .geq (.s 5) (ci 0)),
 oo 7 (ms 6),
 ot 8 (ms 1) 7,
 ot 9 (ms 0) 7,
 ot 10 (.len false (.s 9)) 7,
 ot 11 (bi .lss (.s 8) (.s 10)) 7,
 oo 12 (.pick (.s 7) (.s 11) cF),
 oo 4 (ms 12)]
def F28 : AFn := ⟨13, [.tmp 4],
  sr F28r0
  (sr F28r1
  (.ret))⟩
theorem F28_ok : cFunc Try.prog 28 = some F28 := by kernel_rfl
theorem F28_call : callable Try.prog 28 = true := by kernel_rfl
def F29r0 : RL := [oo 4 (.mov cF)]
def F29r1 : RL := [oo 6 (ms 0),
 oo 7 (.len false (.s 6)),
 oo 8 (ms 1),
 oo 9 (.len false (.s 8)),
 oo 10 (bi .neq (.s 7) (.s 9))]
def F29r2 : RL := [oo 4 (.mov cF)]
def F29r3 : RL := [oo 5 (.mov (ci 0))]
def F29r4 : RL := [oo 11 (ms 5),
 oo 12 (ms 0),
 oo 13 (.len false (.s 12)),
 oo 14 (bi .lss (.s 11) (.s 13))]
def F29r5 : RL := [oo 17 (ms 0),
 oo 18 (ms 5),
 oo 19 (.iad 1 (.s 17) (.s 18)),
 oo 20 (ld 19),
 oo 21 (ms 1),
 oo 22 (ms 5),
 oo 23 (.iad 1 (.s 21) (.s 22)),
 oo 24 (ld 23),
 oo 25 (bi .neq (.s 20) (.s 24))]
def F29r6 : RL := [oo 4 (.mov cF)]
def F29r7 : RL := [oo 15 (ms 5),
 oo 16 (bi .add (.s 15) (ci 1)),
 oo 5 (ms 16)]
def F29r8 : RL := [oo 4 (.mov cT)]
def F29 : AFn := ⟨26, [.tmp 4],
  sr F29r0
  (.seq (sr F29r1
  (cd 10
    (sr F29r2
    (.ret))
    (.skip)))
  (.seq (sr F29r3
  (.block 0 (
    .loop (
      .seq (sr F29r4
      (cd 14
        (.skip)
        (.exit 0)))
      (.seq (.block 1 (
        .seq (.reg F29r5 (some [[], [], [0, 1], [2, 0, 1], [], [], [4, 5], [6, 4, 5], [3, 7, 2, 0, 1, 6, 4, 5]]))
        (cd 25
          (sr F29r6
          (.ret))
          (.skip))))
      (rg F29r7))))))
  (sr F29r8
  (.ret))))⟩
theorem F29_ok : cFunc Try.prog 29 = some F29 := by kernel_rfl
theorem F29_call : callable Try.prog 29 = true := by kernel_rfl
def F30r0 : RL := [oo 4 (.mov cF)]
def F30r1 : RL := [oo 5 (ms 0),
 oo 6 (ms 1),
 oo 7 (cl 46 [.s 5, .s 6]),
 oo 8 (bi .geq (.s 7) (ci 0)),
 oo 4 (ms 8)]
def F30 : AFn := ⟨9, [.tmp 4],
  sr F30r0
  (sr F30r1
  (.ret))⟩
theorem F30_ok : cFunc Try.prog 30 = some F30 := by kernel_rfl
theorem F30_call : callable Try.prog 30 = true := by kernel_rfl
def F31r0 : RL := [oo 3 (.mov cF)]
def F31r1 : RL := [oo 4 (ms 0),
 oo 5 (.len false (.s 4)),
 oo 6 (fd 1 1),
 oo 7 (ld 6),
 oo 8 (.iad 1 (.s 7) (ci 0)),
 oo 9 (ld 8),
 oo 10 (.len false (.s 9)),
 oo 11 (bi .neq (.s 5) (.s 10)),
 oo 3 (ms 11)]
def F31 : AFn := ⟨12, [.tmp 3],
  sr F31r0
  (sr F31r1
  (.ret))⟩
theorem F31_ok : cFunc Try.prog 31 = some F31 := by kernel_rfl
theorem F31_call : callable Try.prog 31 = true := by kernel_rfl
def F32r0 : RL := [oo 4 (.mov cF)]
def F32r1 : RL := [oo 5 (ms 0),
 oo 6 (ms 1),
 oo 7 (cl 47 [.s 5, .s 6]),
 oo 8 (bi .geq (.s 7) (ci 0)),
 oo 4 (ms 8)]
def F32 : AFn := ⟨9, [.tmp 4],
  sr F32r0
  (sr F32r1
  (.ret))⟩
theorem F32_ok : cFunc Try.prog 32 = some F32 := by kernel_rfl
theorem F32_call : callable Try.prog 32 = true := by kernel_rfl
def F33r0 : RL := [oo 1 (.box 2 (.s 0)),
 oo 2 (.mov cF)]
def F33r1 : RL := [oo 3 (fd 0 1),
 oo 4 (ld 3),
 oo 5 (.len true (.s 4)),
 oo 6 (bi .gtr (.s 5) (ci 64)),
 oo 2 (ms 6)]
def F33 : AFn := ⟨7, [.tmp 2],
  sr F33r0
  (sr F33r1
  (.ret))⟩
theorem F33_ok : cFunc Try.prog 33 = some F33 := by kernel_rfl
theorem F33_call : callable Try.prog 33 = true := by kernel_rfl
def F35r0 : RL := [oo 2 (.mov cF)]
def F35r1 : RL := [oo 3 (fd 1 0),
 oo 4 (ld 3),
 oo 5 (.iad 1 (.s 4) (ci 0)),
 oo 6 (ld 5),
 oo 7 (ld 1),
 oo 8 (cl 28 [.s 6, .s 7]),
 oo 2 (ms 8)]
def F35 : AFn := ⟨9, [.tmp 2],
  sr F35r0
  (.seq (.reg F35r1 (some [[], [0], [1, 0], [2, 1, 0], [], [3, 4, 2, 1, 0], [5, 0, 1, 2, 3, 4]]))
  (.ret))⟩
theorem F35_ok : cFunc Try.prog 35 = some F35 := by kernel_rfl
theorem F35_call : callable Try.prog 35 = true := by kernel_rfl
def F36r0 : RL := [oo 1 (.box 2 (.s 0)),
 oo 2 (.new [.emp, .emp])]
def F36r1 : RL := [oo 6 (fd 0 1),
 oo 7 (ld 6),
 oo 8 (cl 48 [.s 7]),
 oo 9 (fd 1 1),
 oo 10 (ld 9),
 oo 11 (.len false (.s 10)),
 oo 12 (.msl 1 24 [.emp] (.s 11) (.s 11)),
 oo 13 (.agg [.emp, .emp] [(0, (1, .s 8)), (1, (1, .s 12))]),
 oo 3 (.new [.emp, .emp]),
 ow (.store 2 (.s 3) (.s 13))]
def F36r2 : RL := [oo 14 (fd 1 1),
 oo 15 (ld 14),
 oo 16 (.len false (.s 15)),
 oo 17 (.mov (ci 0))]
def F36r3 : RL := [oo 18 (bi .lss (.s 17) (.s 16))]
def F36r4 : RL := [oo 19 (ms 17),
 oo 20 (.iad 1 (.s 15) (.s 17)),
 oo 21 (ld 20),
 oo 4 (ms 19),
 oo 5 (ms 21)]
def F36r5 : RL := [oo 22 (fd 1 3),
 oo 23 (ld 22),
 oo 24 (ms 4),
 oo 25 (ms 5),
 oo 26 (cl 39 [.s 25]),
 oo 27 (.iad 1 (.s 23) (.s 24)),
 ow (.store 1 (.s 27) (.s 26))]
def F36r6 : RL := [oo 28 (bi .add (.s 17) (ci 1)),
 oo 17 (ms 28)]
def F36r7 : RL := [oo 29 (lq 2 3),
 ow (.store 2 (.s 2) (.s 29))]
def F36 : AFn := ⟨30, [.cell 2 (some 2)],
  sr F36r0
  (.seq (.reg F36r1 (some [[], [0], [1, 0], [], [3], [4, 3], [5, 4, 3], [2, 6, 1, 0, 5, 4, 3], [], [8, 7, 2, 0, 1, 3, 4, 5, 6]]))
  (.seq (sr F36r2
  (.block 0 (
    .loop (
      sr F36r3
      (.seq (cd 18
        (.skip)
        (.exit 0))
      (.seq (.block 1 (
        sr F36r4
        (.reg F36r5 (some [[], [0], [], [], [3], [1, 2, 0, 3, 4], [5, 4, 0, 1, 2, 3]]))))
      (rg F36r6)))))))
  (sr F36r7
  (.ret))))⟩
theorem F36_ok : cFunc Try.prog 36 = some F36 := by kernel_rfl
theorem F36_call : callable Try.prog 36 = true := by kernel_rfl
def F37r0 : RL := [oo 7 (ms 0),
 oo 8 (.nilc (.s 7)),
 oo 9 (fd 0 8),
 oo 10 (fd 0 9),
 oo 11 (ld 10),
 oo 12 (ms 1),
 oo 13 (.iad 2 (.s 11) (.s 12)),
 oo 6 (ms 13)]
def F37r1 : RL := [oo 14 (ms 6),
 oo 15 (.nilc (.s 14)),
 oo 16 (fd 1 15),
 oo 17 (ld 16),
 oo 18 (ms 2),
 oo 19 (bi .add (.s 17) (.s 18)),
 oo 20 (.nilc (.s 14)),
 oo 21 (fd 1 20),
 ow (.store 1 (.s 21) (.s 19))]
def F37r2 : RL := [oo 22 (ms 6),
 oo 23 (.nilc (.s 22)),
 oo 24 (fd 1 23),
 oo 25 (ld 24),
 oo 26 (bi .eql (.s 25) (ci 0))]
def F37r3 : RL := [oo 27 (ms 6),
 oo 28 (.nilc (.s 27)),
 oo 29 (fd 0 28),
 ow (.store 1 (.s 29) (.c (zs)))]
def F37 : AFn := ⟨30, [],
  sr F37r0
  (sr F37r1
  (sr F37r2
  (cd 26
    (rg F37r3)
    (.skip))))⟩
theorem F37_ok : cFunc Try.prog 37 = some F37 := by kernel_rfl
theorem F37_call : callable Try.prog 37 = true := by kernel_rfl
def F38r0 : RL := [oo 2 (.mov (ci 0))]
def F38r1 : RL := [oo 4 (ms 0),
 oo 5 (.nilc (.s 4)),
 oo 6 (fd 0 5),
 oo 7 (fd 0 6),
 oo 8 (ld 7),
 oo 9 (cl 47 [.s 8, .c (.fn 49 [])]),
 oo 3 (ms 9)]
def F38r2 : RL := [oo 10 (ms 3),
 oo 11 (bi .lss (.s 10) (ci 0))]
def F38r3 : RL := [oo 12 (ms 0),
 oo 13 (.nilc (.s 12)),
 oo 14 (fd 0 13),
 oo 15 (fd 0 14),
 oo 16 (ld 15),
 oo 17 (.len false (.s 16)),
 oo 3 (ms 17)]
def F38r4 : RL := [oo 18 (ms 0),
 oo 19 (ms 0),
 oo 20 (.nilc (.s 19)),
 oo 21 (fd 0 20),
 oo 22 (fd 0 21),
 oo 23 (ld 22),
 oo 24 (.agg [zs, zi 0] []),
 oo 25 (.bsl 2 1 [zs, zi 0] [(0, .s 24)]),
 oo 26 (.app 2 24 (.s 23) (.s 25)),
 oo 27 (.nilc (.s 18)),
 oo 28 (fd 0 27),
 oo 29 (fd 0 28),
 ow (.store 1 (.s 29) (.s 26))]
def F38r5 : RL := [oo 30 (ms 3),
 oo 2 (ms 30)]
def F38 : AFn := ⟨31, [.tmp 2],
  sr F38r0
  (sr F38r1
  (.seq (sr F38r2
  (cd 11
    (sr F38r3
    (rg F38r4))
    (.skip)))
  (sr F38r5
  (.ret))))⟩
theorem F38_ok : cFunc Try.prog 38 = some F38 := by kernel_rfl
theorem F38_call : callable Try.prog 38 = true := by kernel_rfl
def F39r0 : RL := [oo 2 (.mov (.c .emp))]
def F39r1 : RL := [oo 3 (ms 0),
 oo 4 (.isn .sl false (.s 3))]
def F39r2 : RL := [oo 2 (.mov (.c .emp))]
def F39r3 : RL := [oo 5 (.bsl 1 0 [zi 0] []),
 oo 6 (ms 0),
 oo 7 (.app 1 8 (.s 5) (.s 6)),
 oo 2 (ms 7)]
def F39 : AFn := ⟨8, [.tmp 2],
  sr F39r0
  (.seq (sr F39r1
  (cd 4
    (sr F39r2
    (.ret))
    (.skip)))
  (sr F39r3
  (.ret)))⟩
theorem F39_ok : cFunc Try.prog 39 = some F39 := by kernel_rfl
theorem F39_call : callable Try.prog 39 = true := by kernel_rfl
def F40r0 : RL := [oo 8 (ms 1),
 oo 9 (.len false (.s 8)),
 oo 10 (.mov (ci 0))]
def F40r1 : RL := [oo 11 (bi .lss (.s 10) (.s 9))]
def F40r2 : RL := [oo 12 (.iad 1 (.s 8) (.s 10)),
 oo 13 (ld 12),
 oo 7 (ms 13)]
def F40r3 : RL := [oo 14 (ms 0),
 oo 15 (ms 7),
 oo 16 (ms 2),
 oo 17 (cl 37 [.s 14, .s 15, .s 16])]
def F40r4 : RL := [oo 18 (bi .add (.s 10) (ci 1)),
 oo 10 (ms 18)]
def F40 : AFn := ⟨19, [],
  sr F40r0
  (.block 0 (
    .loop (
      sr F40r1
      (.seq (cd 11
        (.skip)
        (.exit 0))
      (.seq (.block 1 (
        sr F40r2
        (rg F40r3)))
      (rg F40r4))))))⟩
theorem F40_ok : cFunc Try.prog 40 = some F40 := by kernel_rfl
theorem F40_call : callable Try.prog 40 = true := by kernel_rfl
def F41r0 : RL := [oo 3 (.box 2 (.s 0)),
 oo 4 (.box 1 (.s 1)),
 oo 6 (.new [.emp, .emp]),
 oo 7 (.mov (ci 0))]
def F41r1 : RL := [oo 10 (lq 2 3),
 oo 11 (.mkf 50 [.s 4, .s 3]),
 oo 12 (cl 25 [.s 10, .s 11]),
 oo 8 (ms 12)]
def F41r2 : RL := [oo 13 (ms 8),
 oo 14 (bi .neq (.s 13) (ci 0))]
def F41r3 : RL := [oo 15 (.agg [.emp, .emp] []),
 oo 16 (ms 8),
 ow (.store 2 (.s 6) (.s 15)),
 oo 7 (ms 16)]
def F41r4 : RL := [oo 17 (lq 2 3),
 oo 18 (cl 36 [.s 17]),
 oo 19 (.agg [.emp, .emp] [(0, (2, .s 18))]),
 oo 20 (.box 2 (.s 19)),
 oo 9 (ms 20)]
def F41r5 : RL := [oo 21 (ms 2),
 oo 22 (ms 9),
 oo 23 (.call (.s 21) [.s 22])]
def F41r6 : RL := [oo 24 (ms 9),
 oo 25 (.nilc (.s 24)),
 oo 26 (fd 0 25),
 oo 27 (lq 2 26),
 ow (.store 2 (.s 6) (.s 27)),
 oo 7 (.mov (ci 0))]
def F41 : AFn := ⟨28, [.cell 6 (some 2), .tmp 7],
  sr F41r0
  (.seq (sr F41r1
  (sr F41r2
  (cd 14
    (sr F41r3
    (.ret))
    (.skip))))
  (sr F41r4
  (sr F41r5
  (sr F41r6
  (.ret)))))⟩
theorem F41_ok : cFunc Try.prog 41 = some F41 := by kernel_rfl
theorem F41_call : callable Try.prog 41 = true := by kernel_rfl
def F42r0 : RL := [oo 3 (ms 0),
 oo 4 (ms 0),
 oo 5 (.nilc (.s 4)),
 oo 6 (fd 0 5),
 oo 7 (fd 1 6),
 oo 8 (ld 7),
 oo 9 (ld 1),
 oo 10 (.iad 1 (.s 8) (.s 9)),
 oo 11 (ld 10),
 oo 12 (cl 40 [.s 3, .s 11, ci (-1)])]
def F42r1 : RL := [oo 13 (ms 0),
 oo 14 (ms 0),
 oo 15 (.nilc (.s 14)),
 oo 16 (fd 0 15),
 oo 17 (fd 1 16),
 oo 18 (ld 17),
 oo 19 (ld 1),
 oo 20 (ld 1),
 oo 21 (bi .add (.s 20) (ci 1)),
 oo 22 (cl 43 [.s 18, .s 19, .s 21]),
 oo 23 (.nilc (.s 13)),
 oo 24 (fd 0 23),
 oo 25 (fd 1 24),
 ow (.store 1 (.s 25) (.s 22))]
def F42 : AFn := ⟨26, [],
  .seq (.reg F42r0 (some [[], [], [1], [2, 1], [3, 2, 1], [4, 3, 2, 1], [], [5, 6, 4, 3, 2, 1], [7, 5, 6, 4, 3, 2, 1], [0, 8, 7, 5, 6, 4, 3, 2, 1]]))
  (.reg F42r1 (some [[], [], [1], [2, 1], [3, 2, 1], [4, 3, 2, 1], [], [], [7], [5, 6, 8, 4, 3, 2, 1, 7], [0, 1, 2, 3, 4, 5, 6, 7, 8, 9], [10, 0, 1, 2, 3, 4, 5, 6, 7, 8, 9], [11, 0, 1, 2, 3, 4, 5, 6, 7, 8, 9, 10], [12, 9, 0, 1, 2, 3, 4, 5, 6, 7, 8, 11, 10]]))⟩
theorem F42_ok : cFunc Try.prog 42 = some F42 := by kernel_rfl
theorem F42_call : callable Try.prog 42 = true := by kernel_rfl
def F43r0 : RL := [oo 6 (.mov (.c .emp))]
def F43r1 : RL := [oo 8 (ms 0),
 oo 9 (ms 1),
 oo 10 (ms 2),
 oo 11 (ms 0),
 oo 12 (.len false (.s 11)),
 oo 13 (.slc 1 (.s 8) (some (.s 9)) (some (.s 10)) (some (.s 12)))]
def F43r2 : RL := [oo 14 (ms 1),
 oo 15 (ms 2),
 oo 16 (bi .eql (.s 14) (.s 15))]
def F43r3 : RL := [oo 17 (ms 0),
 oo 6 (ms 17)]
def F43r4 : RL := [oo 18 (ms 0),
 oo 19 (.len false (.s 18)),
 oo 7 (ms 19)]
def F43r5 : RL := [oo 20 (ms 0),
 oo 21 (ms 1),
 oo 22 (.slc 1 (.s 20) none (some (.s 21)) none),
 oo 23 (ms 0),
 oo 24 (ms 2),
 oo 25 (.slc 1 (.s 23) (some (.s 24)) none none),
 oo 26 (.app 1 24 (.s 22) (.s 25)),
 oo 0 (ms 26)]
def F43r6 : RL := [oo 27 (ms 0),
 oo 28 (ms 0),
 oo 29 (.len false (.s 28)),
 oo 30 (ms 7),
 oo 31 (.slc 1 (.s 27) (some (.s 29)) (some (.s 30)) none),
 ow (.clr [.emp] (.s 31))]
def F43r7 : RL := [oo 32 (ms 0),
 oo 6 (ms 32)]
def F43 : AFn := ⟨33, [.tmp 6],
  sr F43r0
  (sr F43r1
  (.seq (sr F43r2
  (cd 16
    (sr F43r3
    (.ret))
    (.skip)))
  (sr F43r4
  (.seq (.reg F43r5 (some [[], [], [0, 1], [], [], [3, 4], [2, 5, 0, 1, 3, 4], [6, 0, 1, 2, 3, 4, 5]]))
  (sr F43r6
  (sr F43r7
  (.ret)))))))⟩
theorem F43_ok : cFunc Try.prog 43 = some F43 := by kernel_rfl
theorem F43_call : callable Try.prog 43 = true := by kernel_rfl
def F44r0 : RL := [oo 3 (ms 0),
 oo 4 (ms 0),
 oo 5 (.nilc (.s 4)),
 oo 6 (fd 0 5),
 oo 7 (fd 1 6),
 oo 8 (ld 7),
 oo 9 (ld 1),
 oo 10 (.iad 1 (.s 8) (.s 9)),
 oo 11 (ld 10),
 oo 12 (cl 40 [.s 3, .s 11, ci 1])]
def F44r1 : RL := [oo 13 (ms 0),
 oo 14 (ms 0),
 oo 15 (.nilc (.s 14)),
 oo 16 (fd 0 15),
 oo 17 (fd 1 16),
 oo 18 (ld 17),
 oo 19 (.iad 1 (.s 18) (ci 0)),
 oo 20 (ld 19),
 oo 21 (cl 40 [.s 13, .s 20, ci (-1)])]
def F44r2 : RL := [oo 22 (ms 0),
 oo 23 (.nilc (.s 22)),
 oo 24 (fd 0 23),
 oo 25 (fd 1 24),
 oo 26 (ld 25),
 oo 27 (.iad 1 (.s 26) (ci 0)),
 oo 28 (ld 27),
 oo 29 (ms 0),
 oo 30 (.nilc (.s 29)),
 oo 31 (fd 0 30),
 oo 32 (fd 1 31),
 oo 33 (ld 32),
 oo 34 (ld 1),
 oo 35 (.iad 1 (.s 33) (.s 34)),
 oo 36 (ld 35),
 oo 37 (.cpy 1 (.s 28) (.s 36))]
def F44 : AFn := ⟨38, [],
  .seq (.reg F44r0 (some [[], [], [1], [2, 1], [3, 2, 1], [4, 3, 2, 1], [], [5, 6, 4, 3, 2, 1], [7, 5, 6, 4, 3, 2, 1], [0, 8, 7, 5, 6, 4, 3, 2, 1]]))
  (sr F44r1
  (.reg F44r2 (some [[], [0], [1, 0], [2, 1, 0], [3, 2, 1, 0], [4, 3, 2, 1, 0], [5, 4, 3, 2, 1, 0], [], [7], [8, 7], [9, 8, 7], [10, 9, 8, 7], [], [11, 12, 10, 9, 8, 7], [13, 11, 12, 10, 9, 8, 7], [6, 14, 5, 4, 3, 2, 1, 0, 13, 11, 12, 10, 9, 8, 7]])))⟩
theorem F44_ok : cFunc Try.prog 44 = some F44 := by kernel_rfl
theorem F44_call : callable Try.prog 44 = true := by kernel_rfl
def F46r0 : RL := [oo 4 (.mov (ci 0))]
def F46r1 : RL := [oo 6 (ms 0),
 oo 7 (.len false (.s 6)),
 oo 8 (.mov (ci 0))]
def F46r2 : RL := [oo 9 (bi .lss (.s 8) (.s 7))]
def F46r3 : RL := [oo 10 (ms 8),
 oo 5 (ms 10)]
def F46r4 : RL := [oo 11 (ms 1),
 oo 12 (ms 0),
 oo 13 (ms 5),
 oo 14 (.iad 1 (.s 12) (.s 13)),
 oo 15 (ld 14),
 oo 16 (.call (.s 11) [.s 15])]
def F46r5 : RL := [oo 17 (ms 5),
 oo 4 (ms 17)]
def F46r6 : RL := [oo 18 (bi .add (.s 8) (ci 1)),
 oo 8 (ms 18)]
def F46r7 : RL := [oo 4 (.mov (ci (-1)))]
def F46 : AFn := ⟨19, [.tmp 4],
  sr F46r0
  (.seq (sr F46r1
  (.block 0 (
    .loop (
      sr F46r2
      (.seq (cd 9
        (.skip)
        (.exit 0))
      (.seq (.block 1 (
        sr F46r3
        (sr F46r4
        (cd 16
          (sr F46r5
          (.ret))
          (.skip)))))
      (rg F46r6)))))))
  (sr F46r7
  (.ret)))⟩
theorem F46_ok : cFunc Try.prog 46 = some F46 := by kernel_rfl
theorem F46_call : callable Try.prog 46 = true := by kernel_rfl
def F47r0 : RL := [oo 4 (.mov (ci 0))]
def F47r1 : RL := [oo 6 (ms 0),
 oo 7 (.len false (.s 6)),
 oo 8 (.mov (ci 0))]
def F47r2 : RL := [oo 9 (bi .lss (.s 8) (.s 7))]
def F47r3 : RL := [oo 10 (ms 8),
 oo 5 (ms 10)]
def F47r4 : RL := [oo 11 (ms 1),
 oo 12 (ms 0),
 oo 13 (ms 5),
 oo 14 (.iad 2 (.s 12) (.s 13)),
 oo 15 (lq 2 14),
 oo 16 (.call (.s 11) [.s 15])]
def F47r5 : RL := [oo 17 (ms 5),
 oo 4 (ms 17)]
def F47r6 : RL := [oo 18 (bi .add (.s 8) (ci 1)),
 oo 8 (ms 18)]
def F47r7 : RL := [oo 4 (.mov (ci (-1)))]
def F47 : AFn := ⟨19, [.tmp 4],
  sr F47r0
  (.seq (sr F47r1
  (.block 0 (
    .loop (
      sr F47r2
      (.seq (cd 9
        (.skip)
        (.exit 0))
      (.seq (.block 1 (
        sr F47r3
        (sr F47r4
        (cd 16
          (sr F47r5
          (.ret))
          (.skip)))))
      (rg F47r6)))))))
  (sr F47r7
  (.ret)))⟩
theorem F47_ok : cFunc Try.prog 47 = some F47 := by kernel_rfl
theorem F47_call : callable Try.prog 47 = true := by kernel_rfl
def F48r0 : RL := [oo 2 (.mov (.c .emp))]
def F48r1 : RL := [oo 3 (ms 0),
 oo 4 (.isn .sl false (.s 3))]
def F48r2 : RL := [oo 2 (.mov (.c .emp))]
def F48r3 : RL := [oo 5 (.bsl 2 0 [zs, zi 0] []),
 oo 6 (ms 0),
 oo 7 (.app 2 24 (.s 5) (.s 6)),
 oo 2 (ms 7)]
def F48 : AFn := ⟨8, [.tmp 2],
  sr F48r0
  (.seq (sr F48r1
  (cd 4
    (sr F48r2
    (.ret))
    (.skip)))
  (sr F48r3
  (.ret)))⟩
theorem F48_ok : cFunc Try.prog 48 = some F48 := by kernel_rfl
theorem F48_call : callable Try.prog 48 = true := by kernel_rfl
def F49r0 : RL := [oo 1 (.box 2 (.s 0)),
 oo 2 (.mov cF)]
def F49r1 : RL := [oo 3 (fd 1 1),
 oo 4 (ld 3),
 oo 5 (bi .eql (.s 4) (ci 0)),
 oo 2 (ms 5)]
def F49 : AFn := ⟨6, [.tmp 2],
  sr F49r0
  (sr F49r1
  (.ret))⟩
theorem F49_ok : cFunc Try.prog 49 = some F49 := by kernel_rfl
theorem F49_call : callable Try.prog 49 = true := by kernel_rfl
def F50r0 : RL := [oo 2 (.mov cF)]
def F50r1 : RL := [oo 3 (ld 0),
 oo 4 (bi .gtr (.s 3) (ci 0)),
 oo 5 (ms 4),
 ot 6 (fd 1 1) 5,
 ot 7 (ld 6) 5,
 ot 8 (ld 0) 5,
 ot 9 (cl 27 [.s 7, .s 8]) 5,
 oo 10 (.pick (.s 5) (.s 9) cF),
 oo 2 (ms 10)]
def F50 : AFn := ⟨11, [.tmp 2],
  sr F50r0
  (sr F50r1
  (.ret))⟩
theorem F50_ok : cFunc Try.prog 50 = some F50 := by kernel_rfl
theorem F50_call : callable Try.prog 50 = true := by kernel_rfl
open Go.RowKit
section
variable {P : Program} {n k k0 : Nat} {x : L3} {K : L3 → Prop} {Q : Ex → L3 → Prop} {R : List AOper} {dep : List (List Nat)} {rs : List Rec} {hs : List (Option Nat)} {b : AC}
theorem owl (c : Nat) (live : List Nat) (x' : L3) (hr : EL P n k0 b x' Q) (h : (runN n c (R.drop k) x).map (L3.keep live) = some x' := by kernel_rfl) (he : (R.drop (k + c)).isEmpty = true := by kernel_rfl) : OW P n k0 (R.drop k) x fun y => EL P n k0 b y Q := OW.last c live h he hr
theorem srl (c : Nat) (live : List Nat) (x' : L3) (hr : EL P n k0 b x' Q) (h : (runN n c (R.drop 0) x).map (L3.keep live) = some x' := by kernel_rfl) (he : (R.drop (0 + c)).isEmpty = true := by kernel_rfl) : EL P n k0 (.seq (.reg R none) b) x Q := EL.sreg (OW.last c live h he hr)
theorem srr (c : Nat) (x' : L3) (hr : OW P n k0 (R.drop (0 + c)) x' fun y => EL P n k0 b y Q) (h : runN n c (R.drop 0) x = some x' := by kernel_rfl) : EL P n k0 (.seq (.reg R none) b) x Q := EL.sreg (OW.run c h hr)
theorem cnF {a : Arg} {y z : AC} (h : EL P n k0 z x Q) (hb : argσ (slot x.t) a = .v (.bool false) := by kernel_rfl) : EL P n k0 (.cond a y z) x Q := EL.condF hb h
theorem rtr {f : L3 → Prop} (h : Q .ret x) : EL P n k0 .ret x (Ex.thenL f Q) := EL.ret (tR h)
theorem pq {α : Type} {m : List (Option Bk)} {id : Nat} (sz : Nat) (f : α → List AV) (xs : List α) (h : look m id = some ⟨sz, xs.map f⟩ := by kernel_rfl) (hp : ∀ y, (f y).all AV.pu1 = true := by intro y; kernel_rfl) : PuE m id := pu sz f xs h hp
end
open Go.RowKit
abbrev ut (i : Nat) : Src0 := .old i true
theorem fne {n k0 : Nat} {x : L3} {res : List ARes} {r : AV} {m' : List (Option Bk)} (live : List Nat) (src : List Src0) (y : L3) (hp : PuS x.m src) (h : normL k0 live src [] x = some y := by kernel_rfl) (hr : (resR (slot y.t) res).run (look y.m) = some r := by kernel_rfl) (hm : y.m = m' := by rfl) :
    (Ex.ret = .normal ∨ Ex.ret = .ret) ∧ ∃ y : L3, x.s.Le k0 n y.s ∧ (resR (slot y.t) res).run (look y.m) = some r ∧ y.m = m' := ⟨.inr rfl, y, norm_le h hp, hr, hm⟩
section
variable {x : L3} {res : List ARes} {r' : AV}
end
section
variable {P : Program} {n k k0 : Nat} {x : L3} {K : L3 → Prop} {R : List AOper}
theorem ow2 {v : AV} {u : List (Nat × Option Bk)} {acc : List Nat} (x' : L3) (h : opE (opD R k) x = .done v u acc) (hr : OW P n k0 (R.drop (k + 1)) x' K) (hl : Nat.blt k R.length = true := by kernel_rfl) (hx : (bif dstOK n (opD R k).dst && upsOK x.m.length u then some (⟨setA x.t (opD R k).dst v, mput x.m u⟩ : L3) else none) = some x' := by kernel_rfl) : OW P n k0 (R.drop k) x K := OW.ope hl h hx hr
end
section
variable {o : AOper} {x : L3}
theorem oap {α : Type} (f : α → List AV) (xs ys : List α) (s a : Arg) (sz by_ id : Nat) (w : AV) {acc : List Nat} (hw : Src f sz (look x.m) w ys acc) (hb : (xs.length + ys.length) * by_ ≤ 140737488355328) (ho : o.ao = .app sz by_ s a := by kernel_rfl) (hg : guardA (slot x.t) o.guard = some true := by kernel_rfl) (hs : argσ (slot x.t) s = .own id sz 0 xs.length := by rfl) (hB : look x.m id = some ⟨sz, xs.map f⟩ := by kernel_rfl) (ha : argσ (slot x.t) a = w := by rfl) :
    opE o x = .done (.own x.m.length sz 0 (xs ++ ys).length) [(id, none), (x.m.length, some ⟨sz, (xs ++ ys).map f⟩)] (acc ++ [id]) := opE_appO f xs ys s a sz by_ id w acc ho hg hs hB ha hw hb
end
theorem aT {a : List AV} {b : List AV} {r s : List AV} (h : AleL a b) (t : AleL r s) : AleL (.agg a :: r) (.agg b :: s) := .cons (Ale.agg h) t
end Go.Proofs.Ytfjkncmcpeacjaa
