/- Functions upon abstract values: what a body computes is what a call answers. No condition. -/
import Derived.Test.YtgepadjkegfokaaDoorPAvCode
set_option linter.unusedSimpArgs false
set_option linter.unusedVariables false
namespace Go.Proofs.YtgepadjkegfokaaDoor
set_option linter.unusedSimpArgs false
set_option linter.unusedVariables false
open Go.RowKit
inductive ARes where
  | tmp (t : Nat)
  | cell (t : Nat) (m : Option Nat)
structure AFn where
  n : Nat
  res : List ARes
  code : AC
def cRes (P : Program) : List ResultVar → Option (List ARes)
  | [] => some []
  | .tmp t :: r => (cRes P r).map (.tmp t :: ·)
  | .cell a t :: r => match aggOf P t, cRes P r with
    | some m, some l => some (.cell a m :: l)
    | _, _ => none
def cFunc (P : Program) (f : FuncId) : Option AFn :=
  match P.funcs[f]? with
  | some fn => match fn.body with
    | some c => match cRes P fn.results.toList, cCode P c with
      | some res, some code => some ⟨fn.ntmps, res, code⟩
      | _, _ => none
    | none => none
  | none => none
/-- What lies at an address. -/
def loadA (m : Option Nat) : AV → RM AV
  | .pim cs o => .opt (getCells cs o m)
  | .ref id sz i o => .rd id fun B => if B.sz = sz then .opt (B.els[i]?.bind fun cs => getCells cs o m) else .fail
  | _ => .fail
def resL (σ : Nat → AV) : List ARes → RM (List AV)
  | [] => .ret []
  | .tmp t :: r => (resL σ r).bind fun l => .ret (σ t :: l)
  | .cell t m :: r => (loadA m (σ t)).bind fun a => (resL σ r).bind fun l => .ret (a :: l)
def one1 : List AV → AV
  | [a] => a
  | l => .tup l
def resR (σ : Nat → AV) (rs : List ARes) : RM AV := (resL σ rs).bind fun l => .ret (one1 l)
/-- What is handed back to one who sees no own block. -/
def snapR : AV → RM AV
  | .tup vs => (snapAs vs).bind fun l => .ret (.tup l)
  | a => snapA a
section
variable {P : Program} {E : Env} {J : Nat → Prop} {base : Nat} {g : Nat → Option Bk} {σ : Nat → AV}
theorem loadA_run (hm : MemAt E J base g) {t : TypeId} {m : Option Nat} (ht : aggOf P t = some m) {v : Value} {x a : AV} (hv : Rep E v x) (h : (loadA m x).run g = some a) : ∃ v', (do loadVar t (← asAddr v) : Sem Value).run P E.w = .ok v' E.w ∧ Rep E v' a := by
  unfold loadA at h
  split at h
  · rename_i cs o
    cases hg : getCells cs o m with
    | none => simp [hg, RM.opt, RM.run] at h
    | some a' =>
      simp [hg, RM.opt, RM.run] at h
      subst h
      cases hv with
      | pim u hb hq hu hr1 hr =>
        obtain ⟨v', hl, hr'⟩ := load_run (P := P) ht hq u hu hr hg
        exact ⟨v', by simp [asAddr, hl], hr'⟩
  · rename_i id sz i o
    simp only [RM.run] at h
    cases hgi : g id with
    | none => simp [hgi] at h
    | some B =>
      simp only [hgi] at h
      split at h
      · rename_i hsz
        cases hei : B.els[i]? with
        | none => simp [hei, RM.opt, RM.run] at h
        | some cs =>
          cases hg : getCells cs o m with
          | none => simp [hei, hg, RM.opt, RM.run] at h
          | some a' =>
            simp [hei, hg, RM.opt, RM.run] at h
            subst h
            cases hv with
            | @ref _ _ _ _ b q hi hd hb hq =>
              have hblk := hm.at_ id B hgi
              rw [hb] at hblk
              have hcell : ∀ (j : Nat) (x : AV), cs[j]? = some x → ∃ u, E.w.cell? ⟨b, i * B.sz + j, none⟩ = some u ∧ u.oneCell' = true ∧ Rep E u x := fun j x hj => hblk.cell hei hj
              obtain ⟨v', hl, hr'⟩ := load_run (P := P) (E := E) (cs := cs) ht (b := b) (off := i * sz) hq (fun j => (E.w.cell? ⟨b, i * sz + j, none⟩).getD undef)
                (fun j x hj => by obtain ⟨u, k1, _, _⟩ := hcell j x hj; rw [hsz] at k1; simp [k1])
                (fun j x hj => by obtain ⟨u, k1, _, k3⟩ := hcell j x hj; rw [hsz] at k1; simpa [k1] using k3) hg
              exact ⟨v', by simp [asAddr, hl], hr'⟩
            | staleR hi hd => exact absurd hd ((hm.live id).2 ⟨B, hgi⟩).2
      · simp [RM.run] at h
  · simp [RM.run] at h
/-- A result of a function. -/
def resV (tmps : Array Value) : ResultVar → Sem Value
  | .tmp t => pure (tmps.getD t undef)
  | .cell a t => do loadVar t (← asAddr (tmps.getD a undef))
theorem results_eq (fn : Func) (tmps : Array Value) : results fn tmps = (do
    let vs ← fn.results.mapM (resV tmps)
    pure (if h : vs.size = 1 then vs[0] else .tuple vs)) := by
  unfold results
  congr 1
theorem resL_run (hm : MemAt E J base g) {tmps : Array Value} (hs : ∀ t, Rep E (tmps.getD t undef) (σ t)) : ∀ {rs : List ResultVar} {ars : List ARes} {l : List AV}, cRes P rs = some ars → (resL σ ars).run g = some l →
    ∃ vs : List Value, (rs.mapM (resV tmps)).run P E.w = .ok vs E.w ∧ vs.length = l.length ∧ ∀ (i : Nat) v c, vs[i]? = some v → l[i]? = some c → Rep E v c
  | [], ars, l, hc, h => by
    simp only [cRes, Option.some.injEq] at hc; subst hc
    simp only [resL, RM.run, Option.some.injEq] at h; subst h
    exact ⟨[], by simp, rfl, fun i v c hv => by simp at hv⟩
  | .tmp t :: r, ars, l, hc, h => by
    simp only [cRes] at hc
    cases hr : cRes P r with
    | none => simp [hr] at hc
    | some ar =>
      simp only [hr, Option.map_some, Option.some.injEq] at hc; subst hc
      simp only [resL] at h
      obtain ⟨l', h1, h2⟩ := bind_run h
      simp only [RM.run, Option.some.injEq] at h2; subst h2
      obtain ⟨vs, k1, k2, k3⟩ := resL_run hm hs hr h1
      refine ⟨tmps.getD t undef :: vs, by rw [List.mapM_cons, Sem.run_bind, resV, Sem.run_pure, Result.andThen_ok, Sem.run_bind, k1]; rfl, by simp [k2], fun i v c hv hc => ?_⟩
      cases i with
      | zero => simp at hv hc; subst hv; subst hc; simpa using hs t
      | succ i => simp at hv hc; exact k3 i v c hv hc
  | .cell a t :: r, ars, l, hc, h => by
    simp only [cRes] at hc
    split at hc
    · rename_i m ar hm' hr
      simp only [Option.some.injEq] at hc; subst hc
      simp only [resL] at h
      obtain ⟨x, h1, h⟩ := bind_run h
      obtain ⟨l', h2, h3⟩ := bind_run h
      simp only [RM.run, Option.some.injEq] at h3; subst h3
      obtain ⟨vs, k1, k2, k3⟩ := resL_run hm hs hr h2
      obtain ⟨v', e1, e2⟩ := loadA_run (P := P) hm hm' (hs a) h1
      refine ⟨v' :: vs, ?_, by simp [k2], fun i v c hv hc => ?_⟩
      · rw [List.mapM_cons, Sem.run_bind, resV, e1, Result.andThen_ok, Sem.run_bind, k1]
        rfl
      · cases i with
        | zero => simp at hv hc; subst hv; subst hc; exact e2
        | succ i => simp at hv hc; exact k3 i v c hv hc
    · simp at hc
theorem res_run (hm : MemAt E J base g) {fn : Func} {tmps : Array Value} (hs : ∀ t, Rep E (tmps.getD t undef) (σ t)) {ars : List ARes} (hc : cRes P fn.results.toList = some ars) {r : AV} (h : (resR σ ars).run g = some r) : ∃ v, (results fn tmps).run P E.w = .ok v E.w ∧ Rep E v r := by
  obtain ⟨l, h1, h2⟩ := bind_run h
  simp only [RM.run, Option.some.injEq] at h2
  obtain ⟨vs, k1, k2, k3⟩ := resL_run hm hs hc h1
  refine ⟨if h : vs.toArray.size = 1 then vs.toArray[0] else .tuple vs.toArray, ?_, ?_⟩
  · rw [results_eq, Array.mapM_eq_mapM_toList, Sem.run_bind, Sem.run_map, k1]
    rfl
  · subst h2
    cases vs with
    | nil =>
      have : l = [] := List.eq_nil_of_length_eq_zero (by simpa using k2.symm)
      subst this
      exact .tup rfl (fun i v c hv => by simp at hv)
    | cons v vs =>
      cases vs with
      | nil =>
        obtain ⟨a, rfl⟩ : ∃ a, l = [a] := by
          cases l with
          | nil => simp at k2
          | cons a l => cases l with
            | nil => exact ⟨a, rfl⟩
            | cons => simp at k2
        simpa [one1] using k3 0 v a rfl rfl
      | cons v' vs =>
        rw [dif_neg (by simp)]
        have e : one1 l = .tup l := by
          cases l with
          | nil => rfl
          | cons a l => cases l with
            | nil => simp at k2
            | cons => rfl
        rw [e]
        exact .tup (by simpa using k2) (fun i v c hv hc => k3 i v c (by simpa using hv) hc)
end
theorem cFunc_inv {P : Program} {f : FuncId} {F : AFn} (h : cFunc P f = some F) : ∃ fn c, P.funcs[f]? = some fn ∧ fn.body = some c ∧ cRes P fn.results.toList = some F.res ∧ cCode P c = some F.code ∧ fn.ntmps = F.n := by
  unfold cFunc at h
  split at h
  · rename_i fn h1
    split at h
    · rename_i c h2
      split at h
      · rename_i res code h3 h4
        simp only [Option.some.injEq] at h; subst h
        exact ⟨fn, c, h1, h2, h3, h4, rfl⟩
      · simp at h
    · simp at h
  · simp at h
def σ0 (as : List AV) (t : Nat) : AV := (as[t]?).getD (.v undef)
theorem start_rep {E : Env} {vs : Array Value} {as : List AV} (h : RC E vs as) (m : Nat) : ∀ t, Rep E ((vs ++ Array.replicate m undef).getD t undef) (σ0 as t) := by
  intro t
  unfold σ0
  by_cases ht : t < vs.size
  · have hta : t < as.length := by rw [← h.1]; exact ht
    rw [List.getElem?_eq_getElem hta]
    simp only [Option.getD_some, Array.getD_eq_getD_getElem?]
    rw [Array.getElem?_append_left ht, Array.getElem?_eq_getElem ht]
    exact h.2 t _ _ (Array.getElem?_eq_getElem ht) (List.getElem?_eq_getElem hta)
  · rw [List.getElem?_eq_none (by rw [← h.1]; omega)]
    simp only [Option.getD_none, Array.getD_eq_getD_getElem?]
    rw [Array.getElem?_append_right (by omega)]
    have : (Array.replicate m undef)[t - vs.size]?.getD undef = undef := by
      rcases Nat.lt_or_ge (t - vs.size) m with h | h
      · simp [h]
      · simp [h]
    rw [this]
    exact .v rfl
/-- Another world, of which all that is represented says the same. -/
theorem Rep.cong {E : Env} {w' : World} (hc : ∀ b o, w'.cell? ⟨b, o, none⟩ = E.w.cell? ⟨b, o, none⟩) (hs : ∀ b, w'.shape? b = E.w.shape? b) (hl : ∀ (b : Nat) r, E.w.heap[b]? = some (.loop r) → w'.heap[b]? = some (.loop r)) {v : Value} {a : AV} (h : Rep E v a) : Rep { E with w := w' } v a := by
  induction h with
  | v h => exact .v h
  | agg hl h ih => exact .agg hl ih
  | tup hl h ih => exact .tup hl ih
  | lst0 hc => exact .lst0 hc
  | lst1 u hn hl hcc hb hz hu h1 h ih => exact .lst1 u hn hl hcc hb hz (fun i cs j x hi hj => (hc _ _).trans (hu i cs j x hi hj)) h1 ih
  | tls h ih => exact .tls ih
  | emp => exact .emp
  | pim u hb hq hu h1 h ih => exact .pim u hb hq (fun j x hj => (hc _ _).trans (hu j x hj)) h1 ih
  | ref hi hd hb hq => exact .ref hi hd hb hq
  | own hi hd hb hq hss hm hl hcc hln => exact .own hi hd hb hq ((hs _).trans hss) hm hl hcc hln
  | own0 hi hd hb hln => exact .own0 hi hd hb hln
  | staleR hi hd ho => exact .staleR hi hd ho
  | staleO hi hd ho => exact .staleO hi hd ho
  | mp hi hd hb => exact .mp hi hd hb
  | staleP hi hd ho => exact .staleP hi hd ho
  | fn hl h ih => exact .fn hl ih
  | bf hl h ih => exact .bf hl ih
  | yld hg hI hh hl' h ih => exact .yld hg hI (hl _ _ hh) hl' ih
  | anyb => exact .anyb
  | dead => exact .dead
theorem MemAt.cong {E : Env} {w' : World} {J : Nat → Prop} {base : Nat} {g : Nat → Option Bk} (hm : MemAt E J base g) (hR : ∀ {v a}, Rep E v a → Rep { E with w := w' } v a) (hcell : ∀ (b : Nat) arr t x, E.w.heap[b]? = some (.cells arr t x) → w'.heap[b]? = some (.cells arr t x)) (hmap : ∀ (b : Nat) es c, E.w.heap[b]? = some (.map es c) → w'.heap[b]? = some (.map es c)) (hsz : w'.heap.size = E.w.heap.size) : MemAt { E with w := w' } J base g := by
  refine ⟨hm.live, fun id B hg => ?_, hm.apart, hm.out, fun b hb => ⟨by show b < w'.heap.size; rw [hsz]; exact (hm.low b hb).1, (hm.low b hb).2⟩, by show base ≤ w'.heap.size; rw [hsz]; exact hm.size, hm.len, hm.rgb⟩
  have := hm.at_ id B hg
  show BlkAt { E with w := w' } base B (E.loc id)
  cases hl : E.loc id with
  | none => rw [hl] at this; exact this
  | some b =>
    rw [hl] at this
    obtain ⟨h1, ⟨hz, arr, t, h2, h3, h4⟩ | ⟨hz, es, c, h2, h3, h4⟩⟩ := this
    · refine .ofCells ⟨h1, arr, t, hcell _ _ _ _ h2, h3, fun i cs hi => ⟨(h4 i cs hi).1, fun j x hj => ?_⟩⟩ hz
      obtain ⟨u, k1, k2, k3⟩ := (h4 i cs hi).2 j x hj
      exact ⟨u, k1, k2, hR k3⟩
    · refine .ofMap ⟨h1, es, c, hmap _ _ _ h2, h3, fun i e cs he hi => ?_⟩ hz
      obtain ⟨x, k1, k2, k3⟩ := h4 i e cs he hi
      exact ⟨x, k1, k2, hR k3⟩
/-- Some blocks for calls are shut. -/
structure Shut (lo : Nat) (E E' : Env) : Prop where
  rep : ∀ {v a}, Rep E v a → Rep E' v a
  mem : ∀ {J base g}, MemAt E J base g → MemAt E' J base g
  heap : ∀ b, b < lo → E'.w.heap[b]? = E.w.heap[b]?
  size : E'.w.heap.size = E.w.heap.size
  shape : ∀ b, E'.w.shape? b = E.w.shape? b
  eqs : E'.kn = E.kn ∧ E'.dead = E.dead ∧ E'.loc = E.loc ∧ E'.ln = E.ln ∧ E'.I = E.I ∧ E'.rg = E.rg
  below : ∀ {base w0}, base ≤ lo → Below base w0 E.w → Below base w0 E'.w
theorem Shut.refl (lo : Nat) (E : Env) : Shut lo E E := ⟨fun h => h, fun h => h, fun _ _ => rfl, rfl, fun _ => rfl, ⟨rfl, rfl, rfl, rfl, rfl, rfl⟩, fun _ h => h⟩
theorem Shut.le {lo : Nat} {E0 E E' : Env} (h : Shut lo E E') (hle : E0.Le E) (hI : ∀ b, E0.I b → b < lo) : E0.Le E' := by
  obtain ⟨q1, q2, q3, q4, q5, q6⟩ := h.eqs
  refine ⟨fun id hi => by rw [q1]; exact hle.kn id hi, fun b hb => ⟨by rw [q5]; exact (hle.imm b hb).1, (h.heap b (hI b hb)).trans (hle.imm b hb).2⟩, fun id hi hd => by rw [q2]; exact hle.dead id hi hd, fun id hi hd => by rw [q2, q3]; exact hle.loc id hi hd, fun id b hi hd hb => by rw [q2, h.shape]; exact hle.shape id b hi hd hb, fun id hi hd => by rw [q2, q4]; exact hle.ln id hi hd, fun l hg => by rw [q6]; exact hle.rg l hg⟩
theorem noncell {w : World} {D : Nat} {o : Obj} (o' : Obj) (hh : w.heap[D]? = some o) (ho : o.isCells = false) (ho' : o'.isCells = false) :
    (∀ b k, (w.putObj D o').cell? ⟨b, k, none⟩ = w.cell? ⟨b, k, none⟩) ∧ (∀ b, (w.putObj D o').shape? b = w.shape? b) ∧ ∀ (b : Nat) arr t x, w.heap[b]? = some (.cells arr t x) → (w.putObj D o').heap[b]? = some (.cells arr t x) := by
  have hlt := (Array.getElem?_eq_some_iff.1 hh).1
  have hs := World.putObj_heap_same (w := w) (o := o') hlt
  refine ⟨fun b k => ?_, fun b => ?_, fun b arr t x hb => ?_⟩
  · by_cases hb : b = D
    · subst hb
      unfold World.cell?
      simp only [hs, hh]
      cases o <;> cases o' <;> simp_all [Obj.isCells]
    · exact World.cell?_of_block (w := w) (w' := w.putObj D o') (a := ⟨b, k, none⟩) (World.putObj_heap_other hb)
  · by_cases hb : b = D
    · subst hb
      unfold World.shape?
      simp only [hs, hh]
      cases o <;> cases o' <;> simp_all [Obj.isCells]
    · unfold World.shape?
      rw [World.putObj_heap_other hb]
  · by_cases hbD : b = D
    · subst hbD
      rw [hh] at hb
      simp only [Option.some.injEq] at hb
      subst hb
      simp [Obj.isCells] at ho
    · rw [World.putObj_heap_other hbD]; exact hb
theorem Shut.one {lo D : Nat} {E : Env} (hD : lo ≤ D) (hh : E.w.heap[D]? = some (.deferred (some []))) : Shut lo E { E with w := E.w.putObj D (.deferred none) } := by
  obtain ⟨c1, c2, c3⟩ := noncell (.deferred none) hh rfl rfl
  have hR : ∀ {v a}, Rep E v a → Rep { E with w := E.w.putObj D (.deferred none) } v a := fun h => Rep.cong c1 c2 (fun b r hb => by
    by_cases hbD : b = D
    · subst hbD; rw [hh] at hb; simp at hb
    · rw [World.putObj_heap_other hbD]; exact hb) h
  have hmap : ∀ (b : Nat) es c, E.w.heap[b]? = some (.map es c) → (E.w.putObj D (.deferred none)).heap[b]? = some (.map es c) := fun b es c hb => by
    by_cases hbD : b = D
    · subst hbD; rw [hh] at hb; simp at hb
    · rw [World.putObj_heap_other hbD]; exact hb
  refine ⟨hR, fun hm => hm.cong hR c3 hmap (by simp), fun b hb => World.putObj_heap_other (by omega), by simp, c2, ⟨rfl, rfl, rfl, rfl, rfl, rfl⟩, fun hlo hb => hb.trans ⟨rfl, rfl, rfl, by simp, fun k hk => World.putObj_heap_other (by omega)⟩⟩
theorem Shut.trans {lo : Nat} {E E' E'' : Env} (h : Shut lo E E') (k : Shut lo E' E'') : Shut lo E E'' := by
  obtain ⟨q1, q2, q3, q4, q5, q6⟩ := h.eqs
  obtain ⟨p1, p2, p3, p4, p5, p6⟩ := k.eqs
  exact ⟨fun hr => k.rep (h.rep hr), fun hm => k.mem (h.mem hm), fun b hb => (k.heap b hb).trans (h.heap b hb), k.size.trans h.size, fun b => (k.shape b).trans (h.shape b), ⟨p1.trans q1, p2.trans q2, p3.trans q3, p4.trans q4, p5.trans q5, p6.trans q6⟩, fun hlo hb => k.below hlo (h.below hlo hb)⟩
theorem marks_leave {P : Program} {fn : Func} {tmps : Array Value} {R : Ending → World → Prop} {lo : Nat} : ∀ (ds : List Deferred) (E : Env), Mk E lo ds →
    (∀ E', Shut lo E E' → ∃ v, (results fn tmps).run P E'.w = .ok v E'.w ∧ R (.returned v) E'.w) → LeavesInM Fence.wide 0 P fn tmps R ds .returning E.w
  | [], E, _, h => h E (Shut.refl lo E)
  | d :: ds, E, hmk, h => by
    cases hmk with
    | @cons D _ hI hD hh hne t =>
      have h1 := Shut.one hD hh
      refine ⟨by simp, .inl ⟨D, _, rfl, run_takeDeferred hh, ?_⟩⟩
      refine marks_leave ds { E with w := E.w.putObj D (.deferred none) } ?_ fun E' hS => h E' (h1.trans hS)
      clear h h1 hh
      induction t with
      | nil => exact .nil
      | @cons D' ds' hI' hD' hh' hne' t' ih =>
        have hDD : D' ≠ D := fun e => hne _ (List.mem_cons_self ..) (by rw [e])
        exact .cons hI' hD' ((World.putObj_heap_other hDD).trans hh') hne' (ih fun d hd => hne d (List.mem_cons_of_mem _ hd))
theorem calls_marks {P : Program} {f : FuncId} {fn : Func} {c : Code} {args : Array Value} {w : World} {R : Ending → World → Prop} (hf : P.funcs[f]? = some fn) (hb : fn.body = some c)
    (h : c.wpIn (rnd none) 0 P (fun e a' w' => (e = .normal ∨ e = .ret) ∧ LeavesInM Fence.wide 0 P fn a'.tmps R a'.defers .returning w') { tmps := args ++ Array.replicate (fn.ntmps - args.size) undef, defers := [] } w) : Calls P f args w R :=
  (callsIn_wide (n := 0)).1 (callsIn_of_wp_marks (F := Fence.wide) (n := 0) hf hb trivial (wpIn_mono h fun e a' w' ⟨he, hl⟩ => by
    rcases he with rfl | rfl
    · exact hl
    · exact hl) rfl)
end Go.Proofs.YtgepadjkegfokaaDoor
