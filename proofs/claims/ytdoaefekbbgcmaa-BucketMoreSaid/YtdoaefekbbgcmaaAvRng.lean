/- Ranges over functions, upon abstract values: a round is a call upon the same own memory. No condition. -/
import Derived.Test.YtdoaefekbbgcmaaAvNorm
set_option linter.unusedSimpArgs false
set_option linter.unusedVariables false
namespace Go.Proofs.Ytdoaefekbbgcmaa
set_option linter.unusedSimpArgs false
set_option linter.unusedVariables false
open Go.RowKit

/-- It names no loop. -/
def ny : Nat → AV → Bool
  | 0, _ => false
  | d + 1, .agg cs => cs.all (ny d)
  | d + 1, .tup cs => cs.all (ny d)
  | d + 1, .fn _ cs => cs.all (ny d)
  | d + 1, .bf _ cs => cs.all (ny d)
  | _ + 1, .yld _ _ => false
  | _ + 1, _ => true
theorem Rep.ny {E E' : Env} (hI : ∀ b, E.I b → E'.I b ∧ ∀ o, E'.w.cell? ⟨b, o, none⟩ = E.w.cell? ⟨b, o, none⟩) (hs : ∀ b, E'.w.shape? b = E.w.shape? b) (h1 : E'.kn = E.kn) (h2 : E'.dead = E.dead) (h3 : E'.loc = E.loc) (h4 : E'.ln = E.ln) :
    ∀ (d : Nat) {v : Value} {a : AV}, Rep E v a → Ytdoaefekbbgcmaa.ny d a = true → Rep E' v a := by
  intro d
  induction d with
  | zero => intro v a _ h; simp [Ytdoaefekbbgcmaa.ny] at h
  | succ d ih =>
    have ihm : ∀ {vs : Array Value} {cs : List AV}, (∀ (i : Nat) v c, vs[i]? = some v → cs[i]? = some c → Rep E v c) → cs.all (Ytdoaefekbbgcmaa.ny d) = true → ∀ (i : Nat) v c, vs[i]? = some v → cs[i]? = some c → Rep E' v c := by
      intro vs cs h hn i v c hv hc
      simp only [List.all_eq_true] at hn
      exact ih (h i v c hv hc) (hn c (List.mem_of_getElem? hc))
    intro v a h hn
    cases a with
    | v x => exact h.pure hI .v
    | agg cs => cases h with | agg hl hh => exact .agg hl (ihm hh hn)
    | tup cs => cases h with | tup hl hh => exact .tup hl (ihm hh hn)
    | fn f cs => cases h with | fn hl hh => exact .fn hl (ihm hh hn)
    | bf f cs => cases h with | bf hl hh => exact .bf hl (ihm hh hn)
    | yld r cs => simp [Ytdoaefekbbgcmaa.ny] at hn
    | lst sz els => exact h.pure hI .lst
    | tls sz els => exact h.pure hI .tls
    | emp => exact h.pure hI .emp
    | pim cs o => exact h.pure hI .pim
    | anyb => exact h.pure hI .anyb
    | dead => exact .dead
    | ref id sz i o => cases h with
      | ref hi hd hb hq => exact .ref (by rw [h1]; exact hi) (by rw [h2]; exact hd) (by rw [h3]; exact hb) hq
      | staleR hi hd ho => exact .staleR (by rw [h1]; exact hi) (by rw [h2]; exact hd) ho
    | own id sz off n => cases h with
      | own hi hd hb hq hss hm hl hc hln => exact .own (by rw [h1]; exact hi) (by rw [h2]; exact hd) (by rw [h3]; exact hb) hq ((hs _).trans hss) hm hl hc (by rw [h4]; exact hln)
      | own0 hi hd hb hln => exact .own0 (by rw [h1]; exact hi) (by rw [h2]; exact hd) (by rw [h3]; exact hb) (by rw [h4]; exact hln)
      | staleO hi hd ho => exact .staleO (by rw [h1]; exact hi) (by rw [h2]; exact hd) ho
/-- The own memory names no loop. -/
def gny (g : Nat → Option Bk) : Prop := ∀ id B, g id = some B → ∀ cs, cs ∈ B.els → ∀ c, c ∈ cs → ny 5 c = true
def NYs : List (Option Bk) → Prop
  | [] => True
  | none :: r => NYs r
  | some B :: r => ((B.els.all fun cs => cs.all (ny 5)) = true ∨ ∃ (α : Type) (f : α → List AV) (xs : List α), B.els = xs.map f ∧ ∀ y, (f y).all (ny 5) = true) ∧ NYs r
theorem NYs.gny : ∀ {m : List (Option Bk)}, NYs m → gny (look m)
  | [], _ => fun id B hg => by simp [look] at hg
  | none :: r, h => fun id B hg => by
    cases id with
    | zero => simp [look] at hg
    | succ i => exact NYs.gny (m := r) h i B (by simpa [look] using hg)
  | some B :: r, h => fun id B' hg => by
    cases id with
    | zero =>
      simp only [look, List.getElem?_cons_zero, Option.join_some, Option.some.injEq] at hg
      subst hg
      rcases h.1 with h1 | ⟨α, f, xs, h1, h2⟩
      · intro cs hcs c hc
        simp only [List.all_eq_true] at h1
        exact h1 cs hcs c hc
      · rw [h1]
        intro cs hcs c hc
        simp only [List.mem_map] at hcs
        obtain ⟨y, _, rfl⟩ := hcs
        have := h2 y
        simp only [List.all_eq_true] at this
        exact this c hc
    | succ i => exact NYs.gny (m := r) h.2 i B' (by simpa [look] using hg)

section
variable {P : Program}
theorem MemAt.ny {E E' : Env} {J : Nat → Prop} {base : Nat} {g : Nat → Option Bk} (hm : MemAt E J base g) (hR : ∀ {v a}, Rep E v a → Ytdoaefekbbgcmaa.ny 5 a = true → Rep E' v a) (hg : gny g) (hcell : ∀ (b : Nat) arr t x, E.w.heap[b]? = some (.cells arr t x) → E'.w.heap[b]? = some (.cells arr t x)) (hsz : E'.w.heap.size = E.w.heap.size)
    (h1 : E'.kn = E.kn) (h2 : E'.dead = E.dead) (h3 : E'.loc = E.loc) (h4 : E'.ln = E.ln) (hI : ∀ b, E'.I b → E.I b) (hrg : ∀ l, E'.rg l → E.rg l) : MemAt E' J base g := by
  refine ⟨fun id => by rw [h1, h2]; exact hm.live id, fun id B hgi => ?_, fun id id' b B B' a1 a2 a3 a4 => hm.apart id id' b B B' a1 a2 (by rw [← h3]; exact a3) (by rw [← h3]; exact a4), fun id b B hgi hb hi => hm.out id b B hgi (by rw [← h3]; exact hb) (hI b hi), fun b hb => ⟨by rw [hsz]; exact (hm.low b (hI b hb)).1, (hm.low b (hI b hb)).2⟩, by rw [hsz]; exact hm.size, fun id B hgi => by rw [h4]; exact hm.len id B hgi, fun l hl => hm.rgb l (hrg l hl)⟩
  have := hm.at_ id B hgi
  rw [h3]
  cases hl : E.loc id with
  | none => rw [hl] at this; exact this
  | some b =>
    rw [hl] at this
    obtain ⟨q1, arr, t, q2, q3, q4⟩ := this
    refine ⟨q1, arr, t, hcell _ _ _ _ q2, q3, fun i cs hi => ⟨(q4 i cs hi).1, fun j x hj => ?_⟩⟩
    obtain ⟨u, k1, k2, k3⟩ := (q4 i cs hi).2 j x hj
    exact ⟨u, k1, k2, hR k3 (hg id B hgi cs (List.mem_of_getElem? hi) x (List.mem_of_getElem? hj))⟩

/-- The slots with a call's arguments laid in. -/
def putAs (n : Nat) : List Nat → List AV → (Nat → AV) → (Nat → AV)
  | p :: ps, a :: as, σ => putAs n ps as fun t => if t = p ∧ p < n then a else σ t
  | _, _, σ => σ
theorem fold_rep {E : Env} : ∀ (ps : List Nat) (vs : List Value) (as : List AV) (tmps : Array Value) (σ : Nat → AV), vs.length = as.length → (∀ (i : Nat) v c, vs[i]? = some v → as[i]? = some c → Rep E v c) → (∀ t, Rep E (tmps.getD t undef) (σ t)) →
    ((ps.zip vs).foldl (fun (t : Array Value) (p : Nat × Value) => t.setIfInBounds p.1 p.2) tmps).size = tmps.size ∧ ∀ t, Rep E (((ps.zip vs).foldl (fun (t : Array Value) (p : Nat × Value) => t.setIfInBounds p.1 p.2) tmps).getD t undef) (putAs tmps.size ps as σ t)
  | [], vs, as, tmps, σ, _, _, h => ⟨by simp, by simpa [putAs] using h⟩
  | p :: ps, [], as, tmps, σ, hl, _, h => by
    have : as = [] := List.eq_nil_of_length_eq_zero (by simpa using hl.symm)
    subst this
    exact ⟨by simp, by simpa [putAs] using h⟩
  | p :: ps, v :: vs, [], tmps, σ, hl, _, h => by simp at hl
  | p :: ps, v :: vs, a :: as, tmps, σ, hl, hr, h => by
    have ih := fold_rep ps vs as (tmps.setIfInBounds p v) (fun t => if t = p ∧ p < tmps.size then a else σ t) (by simpa using hl) (fun i u c hu hc => hr (i + 1) u c (by simpa using hu) (by simpa using hc)) (fun t => by
      by_cases hc : t = p ∧ p < tmps.size
      · rw [if_pos hc]
        obtain ⟨rfl, hlt⟩ := hc
        have := hr 0 v a rfl rfl
        simpa [hlt] using this
      · rw [if_neg hc]
        have e : (tmps.setIfInBounds p v).getD t undef = tmps.getD t undef := by
          simp only [Array.getD_eq_getD_getElem?, Array.getElem?_setIfInBounds]
          by_cases hpt : p = t
          · subst hpt
            have : ¬ p < tmps.size := fun hlt => hc ⟨rfl, hlt⟩
            simp [this]
          · simp [hpt]
        rw [e]; exact h t)
    rw [Array.size_setIfInBounds] at ih
    exact ih
theorem rc_get {E : Env} {vs : Array Value} {cs : List AV} (h : RC E vs cs) (t : Nat) : Rep E (vs.getD t undef) (σ0 cs t) := by
  have := start_rep h 0 t
  simpa using this

/-- The function f, called where the own memory is g, answers r and leaves g'; names from kb on may stand for something else behind it. -/
def FiB (P : Program) (kb : Nat) (f : FuncId) (as : List AV) (g : Nat → Option Bk) (k : Nat) (r : AV) (g' : Nat → Option Bk) (k' : Nat) : Prop :=
  ∀ (E : Env) (J : Nat → Prop) (base : Nat) (vs : Array Value), MemAt E J base g → (∀ id, E.kn id → id < k) → RC E vs as →
    Calls P f vs E.w fun e w' => ∃ v E', e = .returned v ∧ E'.w = w' ∧ (E.lt kb).Le E' ∧ Rep E' v r ∧ MemAt E' J base g' ∧ Below base E.w w' ∧ ∀ id, E'.kn id → id < k'
theorem fib_of {f : FuncId} {F : AFn} (hF : cFunc P f = some F) {as : List AV} (hl : as.length ≤ F.n) {g g' : Nat → Option Bk} {k k' kb : Nat} {r : AV}
    (h : EW P F.n kb F.code ⟨σ0 as, g, k⟩ fun x s' => (x = .normal ∨ x = .ret) ∧ ∃ y : S3, s'.Le kb F.n y ∧ (resR y.σ F.res).run y.g = some r ∧ y.g = g' ∧ y.k = k') : FiB P kb f as g k r g' k' := by
  intro E J base vs hm hkn hrc
  obtain ⟨fn, c, h1, h2, h3, h4, h5⟩ := cFunc_inv hF
  refine calls_marks h1 h2 (wpIn_mono (h none c (E.lt kb) J base E.w _ E.w (fun _ => rfl) h4 (fun id hi => hi.2) ⟨⟨E, rfl, E.lt_le kb, start_rep hrc _, hm, hkn, .nil⟩, ?_, Below.refl _ _⟩) ?_)
  · simp only [Array.size_append, Array.size_replicate, hrc.1]; omega
  · rintro e a' w' ⟨x, s', ⟨hx, y, hy, hr, rfl, rfl⟩, rfl, hrel0⟩
    have hrel := hy (E.lt kb) J base E.w a' w' (fun id hi => hi.2) hrel0
    obtain ⟨E', rfl, hle, hs, hM, hk, hmk⟩ := hrel.ex
    refine ⟨by rcases hx with rfl | rfl <;> simp [Ex.up], marks_leave _ E' hmk fun E2 hS => ?_⟩
    have hM2 := hS.mem hM
    obtain ⟨v, e1, e2⟩ := res_run hM2 (fun t => hS.rep (hs t)) h3 hr
    exact ⟨v, e1, v, E2, rfl, rfl, hS.le hle fun b hb => (hm.low b hb).1, e2, hM2, hS.below hm.size hrel.below, fun id hid => hk id (by rw [← hS.eqs.1]; exact hid)⟩
theorem fib_walk {f : FuncId} {F : AFn} (hF : cFunc P f = some F) {as : List AV} (hl : as.length ≤ F.n) {r : AV} {m m' : List (Option Bk)} {kb : Nat}
    (h : EL P F.n kb F.code ⟨startT 0 as, m⟩ fun e x => (e = .normal ∨ e = .ret) ∧ ∃ y : L3, x.s.Le kb F.n y.s ∧ (resR (slot y.t) F.res).run (look y.m) = some r ∧ y.m = m') : FiB P kb f as (look m) m.length r (look m') m'.length := by
  refine fib_of hF hl (EW.weak (start_le as _ _) (EW.conseq h ?_))
  rintro e s ⟨x', rfl, h1, y, h2, h3, rfl⟩
  exact ⟨h1, y.s, h2, h3, rfl, rfl⟩

/-- A round, out of the walk of its body. -/
theorem yd_of {r : Loop} {x y : AC} {caps as : List AV} {ps : List Nat} {n k kb : Nat} {g g' : Nat → Option Bk} {k' : Nat} (hx : cCode P r.assign = some x) (hy : cCode P r.body = some y) (hst : r.state = .ready) (hpe : r.pending = none) (hps : r.params = ps.toArray) (hlen : ps.length = as.length)
    (hn : caps.length = n) (hrx : x.hasRng = false) (hry : y.hasRng = false)
    (h : EW P n kb x ⟨putAs n ps as (σ0 caps), g, k⟩ fun e s1 => e = .normal ∧ (∀ t, ny 5 (s1.σ t) = true) ∧ gny s1.g ∧ EW P n kb y s1 fun e s2 => e = .normal ∧ ∃ s3 : S3, s2.Le kb n s3 ∧ gny s3.g ∧ s3.g = g' ∧ s3.k = k') : Yd P kb r caps as g k g' k' := by
  refine ⟨by rw [hps]; simpa using hlen, fun E J base l vs hm hkn hrg hrc hcaps hI hh => ?_⟩
  have hlI := hm.low l hI
  have hbl : base ≤ l ∨ J l := hlI.2.symm
  have hfold := fold_rep (E := E) ps vs.toList as r.tmps (σ0 caps) (by simpa using hrc.1) (fun i v c hv hc => hrc.2 i v c (by simpa using hv) hc) (fun t => rc_get hcaps t)
  have hfe : (r.params.zip vs).foldl (fun t (p, v) => t.setIfInBounds p v) r.tmps = (ps.zip vs.toList).foldl (fun (t : Array Value) (p : Nat × Value) => t.setIfInBounds p.1 p.2) r.tmps := by
    rw [hps, ← Array.foldl_toList, Array.toList_zip]
  have hsz : r.tmps.size = n := hcaps.1.trans hn
  rw [hfe]
  rw [hsz] at hfold
  refine roundIn_of_wpIn (F := Fence.wide) (n := 0) trivial ?_
  have h1 := h (some l) r.assign (E.lt kb) J base E.w { tmps := (ps.zip vs.toList).foldl (fun (t : Array Value) (p : Nat × Value) => t.setIfInBounds p.1 p.2) r.tmps, defers := [] } E.w (fun hh => by rw [hrx] at hh; simp at hh) hx (fun id hi => hi.2)
    ⟨⟨E, rfl, E.lt_le kb, hfold.2, hm, hkn, .nil⟩, hfold.1, Below.refl _ _⟩
  refine wpIn_mono h1 ?_
  rintro e a1 w1 ⟨x1, s1, ⟨rfl, hny1, hgny1, hbody⟩, rfl, hrel⟩
  obtain ⟨E1, rfl, hle1, hs1, hm1, hk1, hmk1⟩ := hrel.ex
  have hh1 : E1.w.heap[l]? = some (.loop r) := (hle1.imm l hI).2.trans hh
  have hI1 : E1.I l := (hle1.imm l hI).1
  refine ⟨_, run_beginRound hh1 hst, ?_⟩
  have hlt1 := (Array.getElem?_eq_some_iff.1 hh1).1
  obtain ⟨w2, hw2⟩ : ∃ w2, w2 = E1.w.putObj l (.loop { r with state := .busy }) := ⟨_, rfl⟩
  rw [← hw2]
  have hh2 : w2.heap[l]? = some (.loop { r with state := .busy }) := by rw [hw2]; exact World.putObj_heap_same hlt1
  have hoth2 : ∀ b, b ≠ l → w2.heap[b]? = E1.w.heap[b]? := fun b hb => by rw [hw2]; exact World.putObj_heap_other hb
  obtain ⟨c1, c2, c3⟩ := noncell (.loop { r with state := .busy }) hh1 rfl rfl
  rw [← hw2] at c1 c2 c3
  let E2 : Env := { E1 with w := w2 }
  have hR2 : ∀ {v a}, Rep E1 v a → ny 5 a = true → Rep E2 v a := fun hr hn => Rep.ny (E := E1) (E' := E2) (fun b hb => ⟨hb, c1 b⟩) c2 rfl rfl rfl rfl 5 hr hn
  have hsz2 : w2.heap.size = E1.w.heap.size := by rw [hw2]; simp
  have hm2 : MemAt E2 J base s1.g := hm1.ny (E' := E2) hR2 hgny1 c3 hsz2 rfl rfl rfl rfl (fun b hb => hb) (fun b hb => hb)
  have hmk2 : Mk E2 E.w.heap.size a1.defers := by
    have : ∀ {ds}, Mk E1 E.w.heap.size ds → Mk E2 E.w.heap.size ds := by
      intro ds hmk
      induction hmk with
      | nil => exact .nil
      | @cons D ds hI' hD hh' hne t ih =>
        refine .cons hI' hD ((hoth2 D fun e => ?_).trans hh') hne ih
        rw [e, hh1] at hh'; simp at hh'
    exact this hmk1
  have hbl := hm.rgb l hrg
  have hb2 : Below base E.w w2 := hrel.below.trans ⟨by rw [hw2]; rfl, by rw [hw2]; rfl, by rw [hw2]; rfl, by rw [hsz2]; exact Nat.le_refl _, fun k hk => hoth2 k (by omega)⟩
  have hlt0 := (Array.getElem?_eq_some_iff.1 hh).1
  obtain ⟨wb, hwb⟩ : ∃ wb, wb = E.w.putObj l (.loop { r with state := .busy }) := ⟨_, rfl⟩
  obtain ⟨b1, b2, b3⟩ := noncell (.loop { r with state := .busy }) hh rfl rfl
  rw [← hwb] at b1 b2 b3
  have hhb : wb.heap[l]? = some (.loop { r with state := .busy }) := by rw [hwb]; exact World.putObj_heap_same hlt0
  have hothb : ∀ b, b ≠ l → wb.heap[b]? = E.w.heap[b]? := fun b hb => by rw [hwb]; exact World.putObj_heap_other hb
  let Eb : Env := { E.lt kb with w := wb }
  have hleb : Eb.Le E2 := by
    refine ⟨hle1.kn, fun b hb => ⟨(hle1.imm b hb).1, ?_⟩, hle1.dead, hle1.loc, fun id b hi hd hb => ?_, hle1.ln, hle1.rg⟩
    · show w2.heap[b]? = wb.heap[b]?
      by_cases hbl : b = l
      · subst hbl; rw [hh2, hhb]
      · rw [hoth2 b hbl, hothb b hbl]; exact (hle1.imm b hb).2
    · rcases hle1.shape id b hi hd hb with k1 | k1
      · exact .inl k1
      · exact .inr ((c2 b).trans (k1.trans (b2 b).symm))
  have h2 := hbody (some l) r.body Eb J base E.w a1 w2 (fun hh => by rw [hry] at hh; simp at hh) hy (fun id hi => hi.2)
    ⟨⟨E2, rfl, hleb, fun t => hR2 (hs1 t) (hny1 t), hm2, hk1, hmk2⟩, hrel.size, hb2⟩
  refine wpIn_mono h2 ?_
  rintro e a3 w3 ⟨x2, s2, ⟨rfl, s3, hs3, hgny3, rfl, rfl⟩, rfl, hrel2⟩
  have hrel3 := hs3 Eb J base E.w a3 w3 (fun id hi => hi.2) hrel2
  obtain ⟨E3, rfl, hle3, hs3', hm3, hk3, hmk3⟩ := hrel3.ex
  have hh3 : E3.w.heap[l]? = some (.loop { r with state := .busy }) := (hle3.imm l hI).2.trans hhb
  have hlt3 := (Array.getElem?_eq_some_iff.1 hh3).1
  have hend := run_endRound (P := P) none hh3
  have hback : ({ ({ r with state := .busy } : Loop) with state := .ready, pending := none } : Loop) = r := by
    cases r; simp only at hst hpe; subst hst; subst hpe; rfl
  simp only [Option.isNone_none, if_true] at hend
  rw [hback] at hend
  obtain ⟨w4, hw4⟩ : ∃ w4, w4 = E3.w.putObj l (.loop r) := ⟨_, rfl⟩
  rw [← hw4] at hend
  obtain ⟨d1, d2, d3⟩ := noncell (.loop r) hh3 rfl rfl
  rw [← hw4] at d1 d2 d3
  have hoth4 : ∀ b, b ≠ l → w4.heap[b]? = E3.w.heap[b]? := fun b hb => by rw [hw4]; exact World.putObj_heap_other hb
  have hsz4 : w4.heap.size = E3.w.heap.size := by rw [hw4]; simp
  let E4 : Env := { E3 with w := w4 }
  have hR4 : ∀ {v a}, Rep E3 v a → ny 5 a = true → Rep E4 v a := fun hr hn => Rep.ny (E := E3) (E' := E4) (fun b hb => ⟨hb, d1 b⟩) d2 rfl rfl rfl rfl 5 hr hn
  have hm4 : MemAt E4 J base s3.g := hm3.ny (E' := E4) hR4 hgny3 d3 hsz4 rfl rfl rfl rfl (fun b hb => hb) (fun b hb => hb)
  have hheap : ∀ b, E.I b → w4.heap[b]? = E.w.heap[b]? := fun b hb => by
    by_cases hbl : b = l
    · subst hbl; rw [hh, hw4]; exact World.putObj_heap_same hlt3
    · rw [hoth4 b hbl, (hle3.imm b hb).2]
      exact hothb b hbl
  have hle4 : (E.lt kb).Le E4 := by
    refine ⟨hle3.kn, fun b hb => ⟨(hle3.imm b hb).1, hheap b hb⟩, hle3.dead, hle3.loc, fun id b hi hd hb => ?_, hle3.ln, hle3.rg⟩
    rcases hle3.shape id b hi hd hb with k1 | k1
    · exact .inl k1
    · exact .inr ((d2 b).trans (k1.trans (b2 b)))
  have hb4 : Below base E.w w4 := hrel3.below.trans ⟨by rw [hw4]; rfl, by rw [hw4]; rfl, by rw [hw4]; rfl, by rw [hsz4]; exact Nat.le_refl _, fun k hk => hoth4 k (by omega)⟩
  exact ⟨_, w4, hend, rfl, E4, rfl, hle4, hm4, hb4, hk3⟩

/-- The statement 'for .. := range g'. -/
theorem EW.rng {gA : Arg} {ps : List Nat} {x y : AC} {f : FuncId} {caps : List AV} {n k0 kb : Nat} {s : S3} {g' : Nat → Option Bk} {k' : Nat} {res : AV} {Q : Ex → S3 → Prop} (hkb : k0 ≤ kb) (hnb : ∀ t, nb kb 6 (s.σ t) = true) (hg : argσ s.σ gA = .fn f caps) (hc : callable P f = true) (hny : gny g')
    (h : ∀ r : Loop, cCode P r.assign = some x → cCode P r.body = some y → r.state = .ready → r.pending = none → r.params = ps.toArray → FiB P kb f (.yld r ((List.range n).map s.σ) :: caps) s.g s.k res g' k') (hq : Q .normal ⟨s.σ, g', k'⟩) : EW P n k0 (.rng gA ps x y) s Q := by
  intro rd c E0 J base w0 a w hrd hcc hk hr
  obtain rfl := hrd rfl
  obtain ⟨go, psA, ca, cb, rfl, hgo, hx, hy, hpsA⟩ : ∃ go psA ca cb, c = .rangeFunc go psA ca cb ∧ cArg go = some gA ∧ cCode P ca = some x ∧ cCode P cb = some y ∧ psA.toList = ps := by
    cases c with
    | rangeFunc go psA ca cb =>
      simp only [cCode] at hcc
      split at hcc
      · rename_i h1 h2 h3
        simp only [Option.some.injEq, AC.rng.injEq] at hcc
        obtain ⟨rfl, rfl, rfl, rfl⟩ := hcc
        exact ⟨go, psA, ca, cb, rfl, h1, h2, h3, rfl⟩
      · simp at hcc
    | _ =>
      exfalso
      simp only [cCode] at hcc
      repeat' (first | (simp at hcc; done) | split at hcc)
  obtain ⟨E, rfl, hle, hs, hm, hkn, hmk⟩ := hr.ex
  have hgv := Args.of hs go gA hgo
  rw [hg] at hgv
  obtain ⟨vv, hvv⟩ : ∃ vv, vv = a.eval go := ⟨_, rfl⟩
  rw [← hvv] at hgv
  cases hgv with
  | @fn _ lb _ hlb hrb =>
  refine wpIn_rangeFunc ?_
  intro fn hfn
  obtain ⟨rec, hrec⟩ : ∃ rec : Loop, rec = { state := .ready, pending := none, fn, tmps := a.tmps, params := psA, assign := ca, body := cb, defers := E.w.heap.size } := ⟨_, rfl⟩
  obtain ⟨W1, hW1⟩ : ∃ W1, (E.w.alloc (.deferred (some []))).alloc (.loop rec) = W1 := ⟨_, rfl⟩
  have hL1 : W1.heap[E.w.heap.size + 1]? = some (.loop rec) := by
    rw [← hW1]; have := World.alloc_heap_new (E.w.alloc (.deferred (some []))) (.loop rec); rwa [World.size_alloc] at this
  have hK1 : W1.heap[E.w.heap.size]? = some (.deferred (some [])) := by
    rw [← hW1]; exact (Below.heap_alloc _ _ _ (by simp)).trans (World.alloc_heap_new E.w _)
  have hold : ∀ b, b < E.w.heap.size → W1.heap[b]? = E.w.heap[b]? := fun b hb => by
    rw [← hW1]; exact (Below.heap_alloc _ _ _ (by simp; omega)).trans (Below.heap_alloc _ _ _ hb)
  have hsz1 : W1.heap.size = E.w.heap.size + 2 := by rw [← hW1]; simp
  have hb1 : Below base E.w W1 := by
    rw [← hW1]; exact ((Below.refl _ E.w).alloc hm.size _).alloc (by have := hm.size; simp; omega) _
  have hown : ∀ id b B, s.g id = some B → E.loc id = some b → b < E.w.heap.size := fun id b B hgi hb => by
    have := hm.at_ id B hgi; rw [hb] at this; exact this.lt.2
  let E1 : Env := { E with w := W1, I := fun b => E.I b ∨ b = E.w.heap.size ∨ b = E.w.heap.size + 1, rg := fun l => E.rg l ∨ l = E.w.heap.size + 1 }
  have hE1 : E.Le E1 := by
    refine ⟨fun _ h => h, fun b hb => ⟨.inl hb, hold b (hm.low b hb).1⟩, fun _ _ h => h, fun _ _ _ => .inr rfl, fun id b hi hd hb => .inr ?_, fun _ _ _ => .inr rfl, fun _ h => .inl h⟩
    obtain ⟨B, hB⟩ := (hm.live id).1 ⟨hi, hd⟩
    show W1.shape? b = _
    simp only [World.shape?, hold b (hown id b B hB hb)]
  have hm1 : MemAt E1 J base s.g := by
    refine ⟨hm.live, fun id B hgi => (hm.at_ id B hgi).keep hE1 fun b hb => hold b (hown id b B hgi hb), hm.apart, fun id b B hgi hb hi => ?_, fun b hb => ?_, by show base ≤ W1.heap.size; have := hm.size; omega, hm.len, fun l hl => ?_⟩
    · have := hown id b B hgi hb
      rcases hi with hi | hi | hi
      · exact hm.out id b B hgi hb hi
      · omega
      · omega
    · show b < W1.heap.size ∧ _
      have := hm.size
      rcases hb with hb | hb | hb
      · have := hm.low b hb; exact ⟨by omega, this.2⟩
      · exact ⟨by omega, .inr (by omega)⟩
      · exact ⟨by omega, .inr (by omega)⟩
    · have := hm.size
      rcases hl with hl | hl
      · exact hm.rgb l hl
      · omega
  have hcall := h rec (by rw [hrec]; exact hx) (by rw [hrec]; exact hy) (by rw [hrec]) (by rw [hrec]) (by rw [hrec]; simp [← hpsA])
  have htm : a.tmps.size = n := hr.size
  have hrc : RC E1 (#[.func (.yield (E.w.heap.size + 1)) #[] #[]] ++ lb) (.yld rec ((List.range n).map s.σ) :: caps) := by
    refine ⟨by simp [hlb]; omega, fun j u c hu hc => ?_⟩
    cases j with
    | zero =>
      rw [Array.getElem?_append_left (by simp)] at hu
      simp at hu hc; subst hu; subst hc
      refine .yld (.inr rfl) (.inr (.inr rfl)) hL1 (by rw [hrec]; simp [htm]) fun i v c hv hc => ?_
      rw [hrec] at hv
      have hi : i < n := by rw [← htm]; exact (Array.getElem?_eq_some_iff.1 hv).1
      rw [List.getElem?_map, List.getElem?_range hi] at hc
      simp only [Option.map_some, Option.some.injEq] at hc
      subst hc
      have := (hs i).step hE1
      simp only at hv
      simpa [Array.getD_eq_getD_getElem?, hv] using this
    | succ j =>
      rw [Array.getElem?_append_right (by simp)] at hu
      simp at hu hc
      exact (hrb j u c hu hc).step hE1
  refine ⟨E.w.heap.size + 1, [{ target := .collected E.w.heap.size, args := #[] }], W1, { target := .fn (.func f) lb, args := #[.func (.yield (E.w.heap.size + 1)) #[] #[]] }, W1, f,
    #[.func (.yield (E.w.heap.size + 1)) #[] #[]] ++ lb, W1, ?_, ?_, fun _ _ => trivial, ?_, rnd_depth, ?_⟩
  · rw [← hW1, hrec]; exact run_enterLoop_outer _ _ _ _ _
  · simp only [resolve, ← hvv]
    simp [Deferred.ofValue]
    rfl
  · simp only [invoke]
    exact callFunc_run hc _ _
  · refine calls_rnd ((hcall E1 J base _ hm1 hkn hrc).mono ?_)
    rintro e w' ⟨v, E2, rfl, rfl, hle2, _, hm2, hb2, hk2⟩
    have hl2 : E2.w.heap[E.w.heap.size + 1]? = some (.loop rec) := (hle2.imm _ (.inr (.inr rfl))).2.trans hL1
    have hd2 : E2.w.heap[E.w.heap.size]? = some (.deferred (some [])) := (hle2.imm _ (.inr (.inl rfl))).2.trans hK1
    have hend := run_endLoop (P := P) hl2 (by rw [hrec]; simp)
    obtain ⟨w4, hw4⟩ : ∃ w4, w4 = E2.w.putObj (E.w.heap.size + 1) (.loop { rec with state := .exhausted }) := ⟨_, rfl⟩
    rw [← hw4] at hend
    refine ⟨_, w4, hend, ?_⟩
    rw [show rec.pending = none by rw [hrec]]
    obtain ⟨d1, d2, d3⟩ := noncell (.loop { rec with state := .exhausted }) hl2 rfl rfl
    rw [← hw4] at d1 d2 d3
    have hoth4 : ∀ b, b ≠ E.w.heap.size + 1 → w4.heap[b]? = E2.w.heap[b]? := fun b hb => by rw [hw4]; exact World.putObj_heap_other hb
    have hsz4 : w4.heap.size = E2.w.heap.size := by rw [hw4]; simp
    let E3 : Env := { E2 with w := w4 }
    have hR : ∀ {v a}, Rep E2 v a → ny 5 a = true → Rep E3 v a := fun hr hn => Rep.ny (E := E2) (E' := E3) (fun b hb => ⟨hb, d1 b⟩) d2 rfl rfl rfl rfl 5 hr hn
    have hm3 : MemAt E3 J base g' := hm2.ny (E' := E3) hR hny d3 hsz4 rfl rfl rfl rfl (fun b hb => hb) (fun b hb => hb)
    have hle3 : (E.lt kb).Le E3 := by
      refine ⟨fun id hi => hle2.kn id hi, fun b hb => ⟨(hle2.imm b (.inl hb)).1, ?_⟩, fun id hi hd => hle2.dead id hi hd, fun id hi hd => hle2.loc id hi hd, fun id b hi hd hb => ?_, fun id hi hd => hle2.ln id hi hd, fun l hl => hle2.rg l (.inl hl)⟩
      · have := (hm.low b hb).1
        exact (hoth4 b (by omega)).trans ((hle2.imm b (.inl hb)).2.trans (hold b this))
      · rcases hle2.shape id b hi hd hb with k1 | k1
        · exact .inl k1
        · exact .inr ((d2 b).trans (k1.trans ((hE1.shape id b hi.1 hd hb).resolve_left hd)))
    have hb4 : Below base E2.w w4 := ⟨by rw [hw4]; rfl, by rw [hw4]; rfl, by rw [hw4]; rfl, by rw [hsz4]; exact Nat.le_refl _, fun k hk => hoth4 k (by have := hm.size; omega)⟩
    refine ⟨.normal, ⟨s.σ, g', k'⟩, hq, rfl, ⟨⟨E3, rfl, hle.cut (fun id hi => Nat.lt_of_lt_of_le (hk id hi) hkb) hle3, fun t => (hs t).stepB hle3 6 (hnb t), hm3, hk2, ?_⟩, hr.size, hr.below.trans (hb1.trans (hb2.trans hb4))⟩⟩
    refine Mk.cons (hle2.imm _ (.inr (.inl rfl))).1 hr.below.size ((hoth4 _ (by omega)).trans hd2) (fun d hd e => ?_) (Mk.step' (E := E) hle3.imm hmk)
    have := hmk.lt d hd _ e
    omega

/-! ### the same upon lists -/
def putT : List Nat → List AV → List (Nat × AV) → List (Nat × AV)
  | p :: ps, a :: as, t => putT ps as (setA t (some p) a)
  | _, _, t => t
theorem putT_slot {n : Nat} : ∀ (ps : List Nat) (as : List AV) (t : List (Nat × AV)) (σ : Nat → AV), (ps.all fun p => Nat.blt p n) = true → (∀ i, slot t i = σ i ∨ slot t i = .dead) → ∀ i, slot (putT ps as t) i = putAs n ps as σ i ∨ slot (putT ps as t) i = .dead
  | [], as, t, σ, _, h, i => by simpa [putT, putAs] using h i
  | p :: ps, [], t, σ, _, h, i => by simpa [putT, putAs] using h i
  | p :: ps, a :: as, t, σ, hp, h, i => by
    simp only [List.all_cons, Bool.and_eq_true] at hp
    refine putT_slot ps as (setA t (some p) a) (fun t => if t = p ∧ p < n then a else σ t) hp.2 (fun j => ?_) i
    rw [setA_slot (n := n) t (some p) hp.1 a]
    unfold putσ
    have hpn : p < n := Nat.le_of_ble_eq_true hp.1
    by_cases hj : j = p
    · subst hj
      left
      rw [if_pos ⟨rfl, hpn⟩, if_pos ⟨rfl, hpn⟩]
    · rw [if_neg (fun hc => hj (Option.some.inj hc.1).symm), if_neg (fun hc => hj hc.1)]
      exact h j
theorem slot_ny {d : Nat} : ∀ (t : List (Nat × AV)), (t.all fun p => ny (d + 1) p.2) = true → ∀ i, ny (d + 1) (slot t i) = true
  | [], _, i => rfl
  | (j, v) :: r, h, i => by
    simp only [List.all_cons, Bool.and_eq_true] at h
    simp only [slot]
    cases Nat.beq i j with
    | true => exact h.1
    | false => exact slot_ny r h.2 i
theorem yd_walk {r : Loop} {x y : AC} {caps as : List AV} {ps : List Nat} {n kb : Nat} {m m' : List (Option Bk)} (hx : cCode P r.assign = some x) (hy : cCode P r.body = some y) (hst : r.state = .ready) (hpe : r.pending = none) (hps : r.params = ps.toArray)
    (hok : (Nat.beq ps.length as.length && (Nat.beq caps.length n && ((ps.all fun p => Nat.blt p n) && (!x.hasRng && !y.hasRng)))) = true)
    (h : EL P n kb x ⟨putT ps as (startT 0 caps), m⟩ fun e x1 => e = .normal ∧ (x1.t.all fun p => ny 5 p.2) = true ∧ NYs x1.m ∧ EL P n kb y x1 fun e x2 => e = .normal ∧ ∃ z : L3, x2.s.Le kb n z.s ∧ NYs z.m ∧ z.m = m') : Yd P kb r caps as (look m) m.length (look m') m'.length := by
  simp only [Bool.and_eq_true, Bool.not_eq_true'] at hok
  obtain ⟨h1, h2, h3, h4, h5⟩ := hok
  refine yd_of hx hy hst hpe hps (Nat.eq_of_beq_eq_true h1) (Nat.eq_of_beq_eq_true h2) h4 h5 ?_
  refine EW.weak (s' := (⟨putT ps as (startT 0 caps), m⟩ : L3).s) (S3.le_slots (fun t => ?_) rfl rfl) (EW.conseq h ?_)
  · have := putT_slot (n := n) ps as (startT 0 caps) (σ0 caps) h3 (fun i => ?_) t
    · rcases this with h | h
      · exact .inl h
      · exact .inr (.inl h)
    · rw [startT_slot, if_pos (Nat.zero_le _), Nat.sub_zero]
      unfold σ0
      cases caps[i]? with
      | none => exact .inr rfl
      | some a => exact .inl rfl
  · rintro e s ⟨x1, rfl, rfl, hn1, hn2, hb⟩
    refine ⟨rfl, slot_ny x1.t hn1, hn2.gny, EW.conseq hb ?_⟩
    rintro e s ⟨x2, rfl, rfl, z, hz1, hz2, rfl⟩
    exact ⟨rfl, z.s, hz1, hz2.gny, rfl, rfl⟩
theorem slot_nb {kb d : Nat} : ∀ (t : List (Nat × AV)), (t.all fun p => nb kb (d + 1) p.2) = true → ∀ i, nb kb (d + 1) (slot t i) = true
  | [], _, i => rfl
  | (j, v) :: r, h, i => by
    simp only [List.all_cons, Bool.and_eq_true] at h
    simp only [slot]
    cases Nat.beq i j with
    | true => exact h.1
    | false => exact slot_nb r h.2 i
theorem EL.rng {gA : Arg} {ps : List Nat} {a b : AC} {f : FuncId} {caps cs : List AV} {n k0 : Nat} {x : L3} {m' : List (Option Bk)} {res : AV} {Q : Ex → L3 → Prop} (kb : Nat) (hnb : (Nat.ble k0 kb && x.t.all fun p => nb kb 6 p.2) = true) (hg : argσ (slot x.t) gA = .fn f caps) (hc : callable P f = true) (hcs : (List.range n).map (slot x.t) = cs) (hny : NYs m')
    (h : ∀ r : Loop, cCode P r.assign = some a → cCode P r.body = some b → r.state = .ready → r.pending = none → r.params = ps.toArray → FiB P kb f (.yld r cs :: caps) (look x.m) x.m.length res (look m') m'.length) (hq : Q .normal ⟨x.t, m'⟩) : EL P n k0 (.rng gA ps a b) x Q :=
  have hnb' := Bool.and_eq_true_iff.1 hnb
  EW.rng (Nat.le_of_ble_eq_true hnb'.1) (slot_nb x.t hnb'.2) hg hc hny.gny (fun r h1 h2 h3 h4 h5 => by have := h r h1 h2 h3 h4 h5; rw [← hcs] at this; exact this) ⟨⟨x.t, m'⟩, rfl, hq⟩
/-- A round is called. -/
theorem OW.yld {n k k0 : Nat} {R : List AOper} {x : L3} {K : L3 → Prop} {a : Arg} {args : List Arg} {r : Loop} {caps aa : List AV} {m' : List (Option Bk)} {x' : L3} (hl : Nat.blt k R.length = true) (hgd : guardA (slot x.t) (opD R k).guard = some true) (ho : (opD R k).ao = .call a args) (hx : argσ (slot x.t) a = .yld r caps) (has : args.map (argσ (slot x.t)) = aa) {kb : Nat} (hnb : (Nat.ble k0 kb && x.t.all fun p => nb kb 6 p.2) = true)
    (hy : Yd P kb r caps aa (look x.m) x.m.length (look m') m'.length) (hx' : (bif dstOK n (opD R k).dst then some (⟨setA x.t (opD R k).dst (.v (.bool true)), m'⟩ : L3) else none) = some x') (hr : OW P n k0 (R.drop (k + 1)) x' K) : OW P n k0 (R.drop k) x K := by
  rw [opD_drop hl]
  cases hd : dstOK n (opD R k).dst with
  | false => rw [hd] at hx'; simp at hx'
  | true =>
    rw [hd, cond_true] at hx'
    simp only [Option.some.injEq] at hx'
    subst hx'
    obtain ⟨z, h1, h3⟩ := hr
    simp only [setA_slot _ _ hd] at h1
    subst has
    have hnb' := Bool.and_eq_true_iff.1 hnb
    exact ⟨z, .yld hgd ho hx (Nat.le_of_ble_eq_true hnb'.1) (slot_nb x.t hnb'.2) hy h1, h3⟩
/-- The cells of a block, said less well. -/
theorem MemAt.restate {E : Env} {J : Nat → Prop} {base : Nat} {g : Nat → Option Bk} (hm : MemAt E J base g) {id : Nat} {B B' : Bk} (hB : g id = some B) (hsz : B'.sz = B.sz) (hlen : B'.els.length = B.els.length)
    (h : ∀ (i : Nat) cs', B'.els[i]? = some cs' → ∃ cs, B.els[i]? = some cs ∧ cs'.length = cs.length ∧ ∀ (j : Nat) c', cs'[j]? = some c' → ∃ c, cs[j]? = some c ∧ ∀ u, Rep E u c → Rep E u c') : MemAt E J base (gput g [(id, some B')]) := by
  have hg : ∀ k B1, gput g [(id, some B')] k = some B1 → (k = id ∧ B1 = B') ∨ (k ≠ id ∧ g k = some B1) := fun k B1 hk => by
    simp only [gput] at hk
    by_cases hki : k = id
    · rw [if_pos hki] at hk; simp only [Option.some.injEq] at hk; exact .inl ⟨hki, hk.symm⟩
    · rw [if_neg hki] at hk; exact .inr ⟨hki, hk⟩
  have old : ∀ k B1, gput g [(id, some B')] k = some B1 → ∃ B2, g k = some B2 := fun k B1 hk => by
    rcases hg k B1 hk with ⟨rfl, _⟩ | ⟨_, h⟩
    · exact ⟨B, hB⟩
    · exact ⟨B1, h⟩
  refine ⟨fun k => ?_, fun k B1 hk => ?_, fun k k' b B1 B2 h1 h2 h3 h4 => ?_, fun k b B1 hk hb hI => ?_, hm.low, hm.size, fun k B1 hk => ?_, hm.rgb⟩
  · rw [hm.live k]
    simp only [gput]
    by_cases hki : k = id
    · subst hki; simp [hB]
    · simp [hki]
  · rcases hg k B1 hk with ⟨rfl, rfl⟩ | ⟨_, h1⟩
    · have hb := hm.at_ k B hB
      cases hl : E.loc k with
      | none =>
        rw [hl] at hb
        have hb' : B.els = [] := hb
        have := hlen
        rw [hb'] at this
        exact List.eq_nil_of_length_eq_zero this
      | some b =>
        rw [hl] at hb
        obtain ⟨q1, arr, t, q2, q3, q4⟩ := hb
        refine ⟨q1, arr, t, q2, by rw [hsz, hlen]; exact q3, fun i cs' hi => ?_⟩
        obtain ⟨cs, hcs, hl', hcell⟩ := h i cs' hi
        refine ⟨by rw [hl', hsz]; exact (q4 i cs hcs).1, fun j c' hj => ?_⟩
        obtain ⟨c, hc, hrep⟩ := hcell j c' hj
        obtain ⟨u, u1, u2, u3⟩ := (q4 i cs hcs).2 j c hc
        exact ⟨u, by rw [hsz]; exact u1, u2, hrep u u3⟩
    · exact hm.at_ k B1 h1
  · obtain ⟨B3, k3⟩ := old k B1 h1
    obtain ⟨B4, k4⟩ := old k' B2 h2
    exact hm.apart k k' b B3 B4 k3 k4 h3 h4
  · obtain ⟨B3, k3⟩ := old k B1 hk
    exact hm.out k b B3 k3 hb hI
  · rcases hg k B1 hk with ⟨rfl, rfl⟩ | ⟨_, h1⟩
    · rw [hlen]; exact hm.len k B hB
    · exact hm.len k B1 h1
/-- A cell that holds an empty list: a list of its own. -/
def cellOwn (x : L3) (id i o sz : Nat) : Option L3 := match look x.m id with
  | some B => match B.els[i]? with
    | some cs => match cs[o]? with
      | some .emp => some ⟨x.t, x.m.set id (some ⟨B.sz, B.els.set i (cs.set o (.own x.m.length sz 0 0))⟩) ++ [some ⟨sz, []⟩]⟩
      | _ => none
    | none => none
  | none => none
theorem cellOwn_le {x y : L3} {id i o sz k0 n : Nat} (h : cellOwn x id i o sz = some y) : x.s.Le k0 n y.s := by
  unfold cellOwn at h
  split at h
  case h_2 => simp at h
  rename_i B hB
  split at h
  case h_2 => simp at h
  rename_i cs hcs
  split at h
  case h_2 => simp at h
  rename_i ho
  simp only [Option.some.injEq] at h
  subst h
  intro E0 J base w0 a w hk hr
  obtain ⟨E, rfl, hle, hs, hm, hkn, hmk⟩ := hr.ex
  have hid : id < x.m.length := by
    rcases Nat.lt_or_ge id x.m.length with h | h
    · exact h
    · unfold look at hB; rw [List.getElem?_eq_none h] at hB; simp at hB
  obtain ⟨E', hw, hE, hM, k1, k2, k3, k4, k5⟩ := hm.phantom (fresh := x.m.length) (fun hh => Nat.lt_irrefl _ (hkn _ hh)) sz
  have hne : id ≠ x.m.length := by omega
  have hB' : gput (look x.m) [(x.m.length, some ⟨sz, []⟩)] id = some B := by simp only [gput]; rw [if_neg hne]; exact hB
  have hM2 := hM.restate (B' := ⟨B.sz, B.els.set i (cs.set o (.own x.m.length sz 0 0))⟩) hB' rfl (by simp) (fun i' cs' hi' => by
    simp only [List.getElem?_set] at hi'
    by_cases hii : i = i'
    · subst hii
      have hil : i < B.els.length := (List.getElem?_eq_some_iff.1 hcs).1
      simp only [if_true, hil, Option.some.injEq] at hi'
      subst hi'
      refine ⟨cs, hcs, by simp, fun j c' hj => ?_⟩
      simp only [List.getElem?_set] at hj
      by_cases hoj : o = j
      · subst hoj
        have hol : o < cs.length := (List.getElem?_eq_some_iff.1 ho).1
        simp only [if_true, hol, Option.some.injEq] at hj
        subst hj
        refine ⟨.emp, ho, fun u hu => ?_⟩
        obtain ⟨A, rfl⟩ := emp_inv hu
        exact .own0 k1 k2 k3 k5
      · rw [if_neg hoj] at hj
        exact ⟨c', hj, fun u hu => hu⟩
    · rw [if_neg hii] at hi'
      exact ⟨cs', hi', rfl, fun j c' hj => ⟨c', hj, fun u hu => hu⟩⟩)
  have hg : gput (gput (look x.m) [(x.m.length, some ⟨sz, []⟩)]) [(id, some ⟨B.sz, B.els.set i (cs.set o (.own x.m.length sz 0 0))⟩)] = look (x.m.set id (some ⟨B.sz, B.els.set i (cs.set o (.own x.m.length sz 0 0))⟩) ++ [some ⟨sz, []⟩]) := by
    have e1 := look_put x.m id (some ⟨B.sz, B.els.set i (cs.set o (.own x.m.length sz 0 0))⟩) (by omega)
    rw [if_pos hid] at e1
    have e2 := look_put (x.m.set id (some ⟨B.sz, B.els.set i (cs.set o (.own x.m.length sz 0 0))⟩)) x.m.length (some ⟨sz, []⟩) (by simp)
    rw [if_neg (by simp)] at e2
    rw [e2, e1]
    funext k
    simp only [gput]
    by_cases h1 : k = id
    · subst h1; simp [hne]
    · simp [h1]
  have hM2 := hg ▸ (show MemAt E' J base (gput (gput (look x.m) [(x.m.length, some ⟨sz, []⟩)]) [(id, some ⟨B.sz, B.els.set i (cs.set o (.own x.m.length sz 0 0))⟩)]) from hM2)
  refine ⟨⟨E', hw, hle.trans hE, fun t => (hs t).step hE, hM2, fun j hj => ?_, hmk.step hE⟩, hr.size, hr.below⟩
  show j < (x.m.set id _ ++ [_]).length
  simp only [List.length_append, List.length_set, List.length_cons, List.length_nil]
  rcases k4 j hj with h | h
  · have : j < x.m.length := hkn j h
    omega
  · omega
theorem EL.cellOwn {n k0 : Nat} {x x' : L3} {ac : AC} {Q : Ex → L3 → Prop} (id i o sz : Nat) (h : Ytdoaefekbbgcmaa.cellOwn x id i o sz = some x') (hr : EL P n k0 ac x' Q) : EL P n k0 ac x Q := EL.weak (cellOwn_le h) hr
end
end Go.Proofs.Ytdoaefekbbgcmaa
