/- Each operation does in memory what it says of abstract values. No condition. -/
import Derived.Test.YtgepadjkegfokaaDoorPAvOp
import Derived.Laws.CopyRow
import Derived.Laws.StructEq
import Derived.Deep.OwnRows
set_option linter.unusedSimpArgs false
set_option linter.unusedVariables false
namespace Go.Proofs.YtgepadjkegfokaaDoor
set_option linter.unusedSimpArgs false
set_option linter.unusedVariables false
open Go.RowKit
def OpOK (E : Env) (J : Nat → Prop) (base : Nat) (g : Nat → Option Bk) (r : Result Next) (val : AV) (ups : List (Nat × Option Bk)) : Prop :=
  ∃ (n : Next) (v : Value) (E' : Env), r = .ok n E'.w ∧ (n = .value v ∨ (n = .skip ∧ v = undef)) ∧ E.Le E' ∧ Rep E' v val ∧ MemAt E' J base (gput g ups) ∧ Below base E.w E'.w ∧ ∀ id, E'.kn id → E.kn id ∨ id ∈ ups.map Prod.fst
theorem pureOK {E : Env} {J : Nat → Prop} {base : Nat} {g : Nat → Option Bk} {r : Result Next} {v : Value} {val : AV} (hm : MemAt E J base g) (hr : r = .ok (.value v) E.w) (h : Rep E v val) : OpOK E J base g r val [] :=
  ⟨.value v, v, E, hr, .inl rfl, Env.Le.refl E, h, hm, Below.refl _ _, fun _ h => .inl h⟩
theorem Rep.one {E : Env} {v : Value} {a : AV} (h : Rep E v a) (ho : a.one = true) : v.oneCell' = true := by
  cases h <;> first | rfl | (simp [AV.one] at ho; done) | exact ho | assumption
theorem Rep.cells {E : Env} {v : Value} {a : AV} (h : Rep E v a) (ho : a.cells.all AV.one = true) :
    v.cells.size = a.cells.length ∧ (∀ (j : Nat) u c, v.cells[j]? = some u → a.cells[j]? = some c → Rep E u c) ∧ (∀ u, u ∈ v.cells.toList → u.oneCell' = true) := by
  have single : ∀ (v : Value) (a : AV), Rep E v a → a.cells = [a] → a.one = true → v.cells.size = a.cells.length ∧ (∀ (j : Nat) u c, v.cells[j]? = some u → a.cells[j]? = some c → Rep E u c) ∧ (∀ u, u ∈ v.cells.toList → u.oneCell' = true) := by
    intro v a h hc ho
    have h1 := h.one ho
    have hv : v.cells = #[v] := by cases v <;> first | rfl | (simp [Value.oneCell'] at h1)
    rw [hc, hv]
    refine ⟨rfl, fun j u c hu hcj => ?_, fun u hu => ?_⟩
    · cases j with
      | zero => simp at hu hcj; subst hu; subst hcj; exact h
      | succ j => simp at hcj
    · simp at hu; subst hu; exact h1
  cases h with
  | @agg vs cs hl h =>
    refine ⟨hl, fun j u c hu hc => h j u c hu hc, fun u hu => ?_⟩
    simp only [Value.cells] at hu
    obtain ⟨j, hj, rfl⟩ := List.getElem_of_mem hu
    have hj' : j < vs.size := by simpa using hj
    have hjc : j < cs.length := by omega
    have := h j vs[j] cs[j] (Array.getElem?_eq_getElem hj') (List.getElem?_eq_getElem hjc)
    have ho' : (cs[j]).one = true := by
      simp only [AV.cells, List.all_eq_true] at ho
      exact ho _ (List.getElem_mem hjc)
    simpa using this.one ho'
  | _ => exact single _ _ (by constructor <;> assumption) rfl (by simpa [AV.cells] using ho)
theorem BlkAt.cell {E : Env} {base b : Nat} {B : Bk} (h : BlkAt E base B (some b)) {i : Nat} {cs : List AV} (hi : B.els[i]? = some cs) {j : Nat} {x : AV} (hj : cs[j]? = some x) (hz : B.sz ≠ 0 := by first | assumption | omega) :
    ∃ u, E.w.cell? ⟨b, i * B.sz + j, none⟩ = some u ∧ u.oneCell' = true ∧ Rep E u x := by
  obtain ⟨_, arr, t, h2, _, h4⟩ := h.cells hz
  obtain ⟨u, k1, k2, k3⟩ := (h4 i cs hi).2 j x hj
  exact ⟨u, by rw [cell_of_row _ _ _ _ _ _ h2]; exact k1, k2, k3⟩
theorem ofConst1_rep {E : Env} {v : Value} {a : AV} (h : ofConst1 v = some a) : Rep E v a := by
  unfold ofConst1 at h
  split at h
  · simp only [Option.some.injEq] at h; subst h; exact .emp
  · split at h
    · rename_i hp; simp only [Option.some.injEq] at h; subst h; exact .v hp
    · simp at h
theorem ofConstL_rep {E : Env} : ∀ {vs : List Value} {cs : List AV}, ofConstL vs = some cs → vs.length = cs.length ∧ ∀ (i : Nat) v c, vs[i]? = some v → cs[i]? = some c → Rep E v c
  | [], cs, h => by simp only [ofConstL, Option.some.injEq] at h; subst h; exact ⟨rfl, fun i v c hv => by simp at hv⟩
  | v :: r, cs, h => by
    simp only [ofConstL] at h
    split at h
    · rename_i a l h1 h2
      simp only [Option.some.injEq] at h; subst h
      have ih := ofConstL_rep (E := E) h2
      refine ⟨by simp [ih.1], fun i u c hu hc => ?_⟩
      cases i with
      | zero => simp at hu hc; subst hu; subst hc; exact ofConst1_rep h1
      | succ i => simp at hu hc; exact ih.2 i u c hu hc
    · simp at h
theorem ofConst_rep {E : Env} {v : Value} {a : AV} (h : ofConst v = some a) : Rep E v a := by
  unfold ofConst at h
  split at h
  · rename_i cs
    cases hl : ofConstL cs.toList with
    | none => simp [hl] at h
    | some l =>
      simp only [hl, Option.map_some, Option.some.injEq] at h
      subst h
      have := ofConstL_rep (E := E) hl
      exact .agg (by simpa using this.1) (fun i v c hv hc => this.2 i v c (by simpa using hv) hc)
  · exact ofConst1_rep h
theorem func_rep {E : Env} (f : FuncId) : Rep E (.func (.func f) #[] #[]) (.fn f []) := .fn rfl (fun i v c hv => by simp at hv)
/-- What an operand is, in both. -/
def Args (E : Env) (ρv : Operand → Value) (ρ : Arg → AV) : Prop := ∀ x ax, cArg x = some ax → Rep E (ρv x) (ρ ax)
theorem Args.list {E : Env} {ρv : Operand → Value} {ρ : Arg → AV} (h : Args E ρv ρ) : ∀ {xs : List Operand} {as : List Arg}, cArgs xs = some as → xs.length = as.length ∧ ∀ (i : Nat) v c, (xs.map ρv)[i]? = some v → (as.map ρ)[i]? = some c → Rep E v c
  | [], as, he => by simp only [cArgs, Option.some.injEq] at he; subst he; exact ⟨rfl, fun i v c hv => by simp at hv⟩
  | x :: r, as, he => by
    simp only [cArgs] at he
    split at he
    · rename_i a l h1 h2
      simp only [Option.some.injEq] at he; subst he
      have ih := h.list h2
      refine ⟨by simp [ih.1], fun i u c hu hc => ?_⟩
      cases i with
      | zero => simp at hu hc; subst hu; subst hc; exact h _ _ h1
      | succ i => simp only [List.map_cons, List.getElem?_cons_succ] at hu hc; exact ih.2 i u c hu hc
    · simp at he
theorem aggOf_run {P : Program} {t : TypeId} {m : Option Nat} (h : aggOf P t = some m) (w : World) :
    (isAgg t).run P w = .ok m.isSome w ∧ ∀ n, m = some n → (sizeOf t).run P w = .ok n w := by
  unfold aggOf at h
  have key : ∀ n, szOf P t = some n → (sizeOf t).run P w = .ok n w := by
    intro n hn
    unfold szOf at hn
    cases hi : P.info? t with
    | none => simp [hi] at hn
    | some i => simp [hi] at hn; subst hn; simp [sizeOf, typeInfo, hi]
  split at h
  · rename_i fs hu
    cases hz : szOf P t with
    | none => simp [hz] at h
    | some n =>
      simp [hz] at h; subst h
      exact ⟨by simp [isAgg, run_underlying hu], fun k hk => by simp at hk; subst hk; exact key _ hz⟩
  · rename_i k e hu
    cases hz : szOf P t with
    | none => simp [hz] at h
    | some n =>
      simp [hz] at h; subst h
      exact ⟨by simp [isAgg, run_underlying hu], fun k hk => by simp at hk; subst hk; exact key _ hz⟩
  · rename_i d hn1 hn2 hu
    split at h
    · simp only [Option.some.injEq] at h; subst h
      refine ⟨?_, fun k hk => by simp at hk⟩
      cases hd : P.underlying t with
      | none => simp_all
      | some d' =>
        have : d' = d := by simp_all
        subst this
        cases d' <;> simp_all [isAgg, run_underlying hd]
    · simp at h
  · simp at h
theorem szOf_run {P : Program} {t : TypeId} {n : Nat} (h : szOf P t = some n) (w : World) : (sizeOf t).run P w = .ok n w := by
  unfold szOf at h
  cases hi : P.info? t with
  | none => simp [hi] at h
  | some i => simp [hi] at h; subst h; simp [sizeOf, typeInfo, hi]
/-- A load of cells that are known. -/
theorem load_run {P : Program} {E : Env} {t : TypeId} {m : Option Nat} (ht : aggOf P t = some m) {cs : List AV} {o b off q : Nat} (hq : q = off + o) (u : Nat → Value)
    (hu : ∀ (j : Nat) x, cs[j]? = some x → E.w.cell? ⟨b, off + j, none⟩ = some (u j)) (hr : ∀ (j : Nat) x, cs[j]? = some x → Rep E (u j) x) {a : AV} (ha : getCells cs o m = some a) :
    ∃ v, (loadVar t ⟨b, q, none⟩).run P E.w = .ok v E.w ∧ Rep E v a := by
  obtain ⟨h1, h2⟩ := aggOf_run ht E.w
  cases m with
  | none =>
    simp only [getCells] at ha
    have hc := hu o a ha
    refine ⟨u o, ?_, hr o a ha⟩
    subst hq
    simp [loadVar, h1, hc]
  | some n =>
    simp only [getCells] at ha
    split at ha
    · rename_i hle
      simp only [Option.some.injEq] at ha; subst ha; subst hq
      have hl := run_loadCells (P := P) E.w ⟨b, off + o, none⟩ n (fun j => u (o + j)) (fun j hj => by
        rw [Addr.add_lit, Nat.add_assoc]
        exact hu (o + j) cs[o + j] (List.getElem?_eq_getElem (by omega)))
      refine ⟨.agg ((List.range n).map fun j => u (o + j)).toArray, by simp [loadVar, h1, h2 n rfl, hl], .agg (by simp; omega) (fun i v c hv hc => ?_)⟩
      have hi : i < n := by
        have := (Array.getElem?_eq_some_iff.1 hv).1
        simpa using this
      have hv' : v = u (o + i) := by
        simp [hi] at hv; exact hv.symm
      have hc' : cs[o + i]? = some c := by
        rw [List.getElem?_take] at hc
        simp [hi, List.getElem?_drop] at hc
        exact hc
      subst hv'
      exact hr _ _ hc'
    · simp at ha
section
variable {P : Program} {E : Env} {J : Nat → Prop} {base : Nat} {g : Nat → Option Bk} {ρv : Operand → Value} {ρ : Arg → AV} {fresh : Nat}
theorem zerosOf_run {t : TypeId} {zs : List AV} (h : zerosOf P t = some zs) : ∃ i z, P.info? t = some i ∧ i.zero = some z ∧ i.size = zs.length ∧ z.cells.size = zs.length ∧ zs.all AV.one = true ∧
    ∀ (E : Env) (j : Nat) u c, z.cells[j]? = some u → zs[j]? = some c → Rep E u c := by
  have E0 : Env := ⟨default, fun _ => False, fun _ => none, fun _ => False, fun _ => False, fun _ => 0, fun _ => False⟩
  unfold zerosOf at h
  split at h
  · rename_i i hi
    split at h
    · rename_i z hz
      split at h
      · rename_i l hl
        split at h
        · rename_i hc
          simp only [Option.some.injEq] at h; subst h
          have h1 := ofConstL_rep (E := E0) hl
          refine ⟨i, z, hi, hz, hc.1.symm, by simpa using h1.1, hc.2, fun E j u c hu hcj => (ofConstL_rep (E := E) hl).2 j u c (by simpa using hu) hcj⟩
        · simp at h
      · simp at h
    · simp at h
  · simp at h
/-- A new block for cells that are known. -/
theorem allocOK (hm : MemAt E J base g) (hf : ¬ E.kn fresh) (arr : Array Value) (t : TypeId) (B : Bk) {r : Result Next} {v : Value} {val : AV}
    (hr : r = .ok (.value v) (E.w.alloc (.cells arr t)))
    (hB : ∀ E' : Env, E.Le E' → B.els.length * B.sz ≤ arr.size ∧ ∀ (i : Nat) cs, B.els[i]? = some cs → cs.length = B.sz ∧ ∀ (j : Nat) x, cs[j]? = some x → ∃ u, arr[i * B.sz + j]? = some u ∧ u.oneCell' = true ∧ Rep E' u x)
    (hv : ∀ E' : Env, E'.w = E.w.alloc (.cells arr t) → E'.kn fresh → ¬ E'.dead fresh → E'.loc fresh = some E.w.heap.size → E'.ln fresh = B.els.length → Rep E' v val) (hz : B.sz ≠ 0 := by first | assumption | (dsimp only; omega)) : OpOK E J base g r val [(fresh, some B)] := by
  obtain ⟨E', hw, hE, hM, k1, k2, k3, k4, k5⟩ := hm.alloc fresh hf arr t B hB hz
  refine ⟨.value v, v, E', by rw [hw]; exact hr, .inl rfl, hE, hv E' hw k1 k2 k3 k5, hM, ?_, fun id hi => ?_⟩
  · rw [hw]
    exact (Below.refl _ _).alloc hm.size _
  · rcases k4 id hi with h | h
    · exact .inl h
    · exact .inr (by simp [h])
theorem oneBlk {E : Env} {vs : Array Value} {cs : List AV} (hl : vs.size = cs.length) (h : ∀ (j : Nat) u c, vs[j]? = some u → cs[j]? = some c → Rep E u c) (h1 : ∀ u, u ∈ vs.toList → u.oneCell' = true) (E' : Env) (hE : E.Le E') :
    [cs].length * cs.length ≤ vs.size ∧ ∀ (i : Nat) ds, [cs][i]? = some ds → ds.length = cs.length ∧ ∀ (j : Nat) x, ds[j]? = some x → ∃ u, vs[i * cs.length + j]? = some u ∧ u.oneCell' = true ∧ Rep E' u x := by
  refine ⟨by simp [hl], fun i ds hi => ?_⟩
  cases i with
  | zero =>
    simp only [List.getElem?_cons_zero, Option.some.injEq] at hi
    subst hi
    refine ⟨rfl, fun j x hj => ?_⟩
    have hj' : j < vs.size := by rw [hl]; exact (List.getElem?_eq_some_iff.1 hj).1
    refine ⟨vs[j], by simp [hj'], h1 _ (by simp), (h j vs[j] x (Array.getElem?_eq_getElem hj') hj).step hE⟩
  | succ i => simp at hi
theorem newOK (hm : MemAt E J base g) (hf : ¬ E.kn fresh) {t : TypeId} {zs : List AV} (h : zerosOf P t = some zs) (hz0 : 0 < zs.length) :
    OpOK E J base g ((do pure (Next.value (← Instr.alloc t true (.tuple #[]))) : Sem Next).run P E.w) (.ref fresh zs.length 0 0) [(fresh, some ⟨zs.length, [zs]⟩)] := by
  obtain ⟨i, z, hi, hz, hs, hcs, hone, hrep⟩ := zerosOf_run h
  have h1 : ∀ u, u ∈ z.cells.toList → u.oneCell' = true := fun u hu => by
    obtain ⟨j, hj, rfl⟩ := List.getElem_of_mem hu
    have hj' : j < z.cells.size := by simpa using hj
    have := (hrep E j z.cells[j] zs[j] (Array.getElem?_eq_getElem hj') (List.getElem?_eq_getElem (by omega))).one (by simp only [List.all_eq_true] at hone; exact hone _ (List.getElem_mem _))
    simpa using this
  refine allocOK hm hf z.cells t ⟨zs.length, [zs]⟩ (v := .pointer (some ⟨E.w.heap.size, 0, none⟩)) ?_ (oneBlk hcs (hrep E) h1) (fun E' _ k1 k2 k3 _ => .ref k1 k2 k3 (by simp))
  simp [Instr.alloc, zeroValue, typeInfo, hi, hz, newVar, newRow]
theorem boxOK (hm : MemAt E J base g) (hf : ¬ E.kn fresh) {t : TypeId} {n : Nat} {v : Value} {a : AV} (hv : Rep E v a) (hn : a.cells.length = n) (ho : a.cells.all AV.one = true) (hz0 : 0 < n) :
    OpOK E J base g ((do pure (Next.value (← Instr.box t v)) : Sem Next).run P E.w) (.ref fresh n 0 0) [(fresh, some ⟨n, [a.cells]⟩)] := by
  obtain ⟨h1, h2, h3⟩ := hv.cells ho
  subst hn
  refine allocOK hm hf v.cells t ⟨a.cells.length, [a.cells]⟩ (v := .pointer (some ⟨E.w.heap.size, 0, none⟩)) ?_ (oneBlk h1 h2 h3) (fun E' _ k1 k2 k3 _ => .ref k1 k2 k3 (by simp))
  simp [Instr.box, newVar, newRow]
theorem loadOK (hm : MemAt E J base g) {t : TypeId} {m : Option Nat} (ht : aggOf P t = some m) {v : Value} {x : Arg} {val : AV} {ups : List (Nat × Option Bk)} (hv : Rep E v (ρ x))
    (h : ((AO.load m x).sem fresh ρ).run g = some (.done val ups)) : OpOK E J base g ((do pure (Next.value (← Instr.loadAt t v)) : Sem Next).run P E.w) val ups := by
  simp only [AO.sem] at h
  split at h
  · rename_i cs o hx
    rw [hx] at hv
    cases hg : getCells cs o m with
    | none => simp [hg, RM.opt, RM.run] at h
    | some a =>
      simp [hg, RM.opt, RM.run] at h
      obtain ⟨rfl, rfl⟩ := h
      cases hv with
      | pim u hb hq hu hr1 hr =>
        obtain ⟨v', hl, hr'⟩ := load_run (P := P) ht hq u hu hr hg
        exact pureOK hm (by simp [Instr.loadAt, Instr.sureAddr, hl]) hr'
  · rename_i id sz i o hx
    rw [hx] at hv
    simp only [RM.run] at h
    cases hgi : g id with
    | none => simp [hgi] at h
    | some B =>
      simp only [hgi] at h
      split at h
      · rename_i hsz
        cases hei : B.els[i]? with
        | none => simp [hei, RM.opt, RM.run] at h
        | some cs =>
          cases hg : getCells cs o m with
          | none => simp [hei, hg, RM.opt, RM.run] at h
          | some a =>
            simp [hei, hg, RM.opt, RM.run] at h
            obtain ⟨rfl, rfl⟩ := h
            cases hv with
            | @ref _ _ _ _ b q hi hd hb hq =>
              have hblk := hm.at_ id B hgi
              rw [hb] at hblk
              have hcell : ∀ (j : Nat) (x : AV), cs[j]? = some x → ∃ u, E.w.cell? ⟨b, i * B.sz + j, none⟩ = some u ∧ u.oneCell' = true ∧ Rep E u x := fun j x hj => hblk.cell hei hj
              obtain ⟨v', hl, hr'⟩ := load_run (P := P) (E := E) (cs := cs) ht (b := b) (off := i * sz) hq (fun j => (E.w.cell? ⟨b, i * sz + j, none⟩).getD undef)
                (fun j x hj => by obtain ⟨u, k1, _, _⟩ := hcell j x hj; rw [hsz] at k1; simp [k1])
                (fun j x hj => by obtain ⟨u, k1, _, k3⟩ := hcell j x hj; rw [hsz] at k1; simpa [k1] using k3) hg
              exact pureOK hm (by simp [Instr.loadAt, Instr.sureAddr, hl]) hr'
            | staleR hi hd => exact absurd hd ((hm.live id).2 ⟨B, hgi⟩).2
      · simp [RM.run] at h
  · simp [RM.run] at h
theorem putCells_get {cs ys : List AV} {o : Nat} (h : o + ys.length ≤ cs.length) (j : Nat) : (putCells cs o ys)[j]? = if j < o then cs[j]? else if j < o + ys.length then ys[j - o]? else cs[j]? := by
  unfold putCells
  rw [List.append_assoc, List.getElem?_append, List.length_take, Nat.min_eq_left (by omega)]
  by_cases h1 : j < o
  · simp [h1]
  · rw [if_neg h1, if_neg h1, List.getElem?_append]
    by_cases h2 : j < o + ys.length
    · rw [if_pos (by omega), if_pos h2]
    · rw [if_neg (by omega), if_neg h2, List.getElem?_drop]
      congr 1; omega
theorem putCells_length {cs ys : List AV} {o : Nat} (h : o + ys.length ≤ cs.length) : (putCells cs o ys).length = cs.length := by
  unfold putCells; simp; omega
theorem storeOK (hm : MemAt E J base g) {t : TypeId} {n : Nat} (ht : szOf P t = some n) {v vy : Value} {x y : Arg} {val : AV} {ups : List (Nat × Option Bk)} (hv : Rep E v (ρ x)) (hvy : Rep E vy (ρ y))
    (h : ((AO.store n x y).sem fresh ρ).run g = some (.done val ups)) : OpOK E J base g ((do (Instr.storeAt t v vy); pure Next.skip : Sem Next).run P E.w) val ups := by
  simp only [AO.sem] at h
  split at h
  · rename_i id sz i o hx
    rw [hx] at hv
    simp only [RM.run] at h
    cases hgi : g id with
    | none => simp [hgi] at h
    | some B =>
      simp only [hgi] at h
      split at h
      · rename_i hc
        obtain ⟨hsz, hn, hone, ho⟩ := hc
        cases hei : B.els[i]? with
        | none => simp [hei, RM.run] at h
        | some cs =>
          simp only [hei, RM.run, Option.some.injEq, Out.done.injEq] at h
          obtain ⟨rfl, rfl⟩ := h
          obtain ⟨c1, c2, c3⟩ := hvy.cells hone
          cases hv with
          | staleR hi hd => exact absurd hd ((hm.live id).2 ⟨B, hgi⟩).2
          | @ref _ _ _ _ b q hi hd hb hq =>
            have hblk := hm.at_ id B hgi
            rw [hb] at hblk
            obtain ⟨hbase, arr, t', ha, hlen, hcells⟩ := hblk.cells (by omega)
            have hcs := (hcells i cs hei).1
            subst hsz
            have hi' : i < B.els.length := (List.getElem?_eq_some_iff.1 hei).1
            have hfit : i * B.sz + B.sz ≤ arr.size := by
              have : (i + 1) * B.sz ≤ B.els.length * B.sz := Nat.mul_le_mul_right _ (by omega)
              rw [Nat.add_mul] at this; omega
            have hst := run_storeCells_at P b q t' vy.cells.toList 0 arr E.w ha (by simp; omega) c3
            simp only [Nat.add_zero, Array.length_toList] at hst
            obtain ⟨E', hw, hE, hM, hkn⟩ := hm.set id b B ⟨B.sz, B.els.set i (putCells cs o (ρ y).cells)⟩ hgi hb arr
              (arr.toList.take q ++ vy.cells.toList ++ arr.toList.drop (q + vy.cells.size)).toArray t' ha
              (by simp; omega) (by simp) (fun E' hE => by
                refine ⟨by simpa using hlen, fun i' ds hd' => ?_⟩
                dsimp only at hd' ⊢
                simp only [List.getElem?_set] at hd'
                have hget : ∀ k, (arr.toList.take q ++ vy.cells.toList ++ arr.toList.drop (q + vy.cells.size)).toArray[k]? = if k < q then arr[k]? else if k < q + vy.cells.size then vy.cells[k - q]? else arr[k]? := by
                  intro k
                  simp only [List.getElem?_toArray, List.append_assoc]
                  rw [List.getElem?_append, List.length_take, Nat.min_eq_left (by simp; omega)]
                  by_cases h1 : k < q
                  · simp [h1]
                  · rw [if_neg h1, if_neg h1, List.getElem?_append]
                    by_cases h2 : k < q + vy.cells.size
                    · rw [if_pos (by simp; omega), if_pos h2]; simp
                    · rw [if_neg (by simp; omega), if_neg h2, List.getElem?_drop]
                      simp; congr 1; omega
                by_cases hii : i = i'
                · subst hii
                  simp only [if_true, hi', Option.some.injEq] at hd'
                  subst hd'
                  refine ⟨by rw [putCells_length (by omega)]; exact hcs, fun j x hj => ?_⟩
                  rw [putCells_get (by omega)] at hj
                  have hjl : j < B.sz := by
                    by_cases h1 : j < o
                    · omega
                    · rw [if_neg h1] at hj
                      by_cases h2 : j < o + (ρ y).cells.length
                      · omega
                      · rw [if_neg h2] at hj
                        have := (List.getElem?_eq_some_iff.1 hj).1; omega
                  rw [hget]
                  by_cases h1 : j < o
                  · rw [if_pos h1] at hj
                    rw [if_pos (by omega)]
                    obtain ⟨u, k1, k2, k3⟩ := (hcells i cs hei).2 j x hj
                    exact ⟨u, k1, k2, k3.step hE⟩
                  · rw [if_neg h1] at hj
                    by_cases h2 : j < o + (ρ y).cells.length
                    · rw [if_pos h2] at hj
                      have hk : j - o < vy.cells.size := by omega
                      rw [if_neg (by omega), if_pos (by omega)]
                      refine ⟨vy.cells[j - o], ?_, c3 _ (by simp), (c2 (j - o) _ x (Array.getElem?_eq_getElem hk) hj).step hE⟩
                      rw [show i * B.sz + j - q = j - o by omega]
                      exact Array.getElem?_eq_getElem hk
                    · rw [if_neg h2] at hj
                      rw [if_neg (by omega), if_neg (by omega)]
                      obtain ⟨u, k1, k2, k3⟩ := (hcells i cs hei).2 j x hj
                      exact ⟨u, k1, k2, k3.step hE⟩
                · simp only [hii, if_false] at hd'
                  refine ⟨(hcells i' ds hd').1, fun j x hj => ?_⟩
                  obtain ⟨u, k1, k2, k3⟩ := (hcells i' ds hd').2 j x hj
                  have hjl : j < B.sz := by
                    have := (List.getElem?_eq_some_iff.1 hj).1
                    rw [(hcells i' ds hd').1] at this; exact this
                  rw [hget]
                  have hap : i' * B.sz + j < q ∨ q + vy.cells.size ≤ i' * B.sz + j := by
                    rcases Nat.lt_or_ge i' i with h1 | h1
                    · left
                      have : (i' + 1) * B.sz ≤ i * B.sz := Nat.mul_le_mul_right _ (by omega)
                      rw [Nat.add_mul] at this; omega
                    · right
                      have : (i + 1) * B.sz ≤ i' * B.sz := Nat.mul_le_mul_right _ (by omega)
                      rw [Nat.add_mul] at this; omega
                  refine ⟨u, ?_, k2, k3.step hE⟩
                  rcases hap with h1 | h1
                  · rw [if_pos h1]; exact k1
                  · rw [if_neg (by omega), if_neg (by omega)]; exact k1)
            have hsz2 := szOf_run ht E.w
            refine ⟨.skip, undef, E', ?_, .inr ⟨rfl, rfl⟩, hE, .v rfl, hM, ?_, fun id' h' => .inl (hkn id' h')⟩
            · rw [hw]
              simp [Instr.storeAt, Instr.sureAddr, storeVar, hsz2, c1, hn, hst]
            · rw [hw]
              refine ⟨rfl, rfl, rfl, by simp [World.setRow], fun k hk => setRow_other _ _ _ _ (by omega)⟩
      · simp [RM.run] at h
  · simp [RM.run] at h
end
end Go.Proofs.YtgepadjkegfokaaDoor
