/- Each operation does in memory what it says of abstract values: all of them. No condition. -/
import Derived.Test.YtgepadjkegfokaaDoorPAvSnd2
set_option linter.unusedSimpArgs false
set_option linter.unusedVariables false
namespace Go.Proofs.YtgepadjkegfokaaDoor
set_option linter.unusedSimpArgs false
set_option linter.unusedVariables false
open Go.RowKit
section
variable {P : Program} {E : Env} {J : Nat → Prop} {base : Nat} {g : Nat → Option Bk} {ρv : Operand → Value} {ρ : Arg → AV} {fresh : Nat}
theorem part_run {t : TypeId} {m : Option Nat} (ht : aggOf P t = some m) {vs : Array Value} {cs : List AV} (hrc : RC E vs cs) {off : Nat} {a : AV} (ha : getCells cs off m = some a) :
    ∃ v, (part t vs off).run P E.w = .ok v E.w ∧ Rep E v a := by
  obtain ⟨h1, h2⟩ := aggOf_run ht E.w
  cases m with
  | none =>
    simp only [getCells] at ha
    have hl : off < vs.size := by rw [hrc.1]; exact (List.getElem?_eq_some_iff.1 ha).1
    refine ⟨vs[off], ?_, hrc.2 off _ a (Array.getElem?_eq_getElem hl) ha⟩
    simp [part, h1, Array.getElem?_eq_getElem hl]
  | some n =>
    simp only [getCells] at ha
    split at ha
    · rename_i hle
      simp only [Option.some.injEq] at ha; subst ha
      refine ⟨.agg (vs.extract off (off + n)), by simp [part, h1, h2 n rfl], .agg (by simp [hrc.1]; omega) (fun i v c hv hc => ?_)⟩
      have hi : i < n := by
        have := (List.getElem?_eq_some_iff.1 hc).1
        simp at this; omega
      rw [List.getElem?_take, if_pos hi, List.getElem?_drop] at hc
      rw [Array.getElem?_extract] at hv
      split at hv
      · exact hrc.2 _ v c hv hc
      · simp at hv
    · simp at ha
theorem alive {id : Nat} {B : Bk} (hm : MemAt E J base g) (h : g id = some B) : ¬ E.dead id := ((hm.live id).2 ⟨B, h⟩).2
theorem lv_run {α : Type} {id : Nat} {k : RM α} {a : α} (h : (RM.lv id k).run g = some a) : ∃ B, g id = some B ∧ k.run g = some a := by
  simp only [RM.run] at h
  cases hg : g id with
  | none => simp [hg] at h
  | some B => simp only [hg] at h; exact ⟨B, rfl, h⟩
theorem lenOK (hm : MemAt E J base g) {str : Bool} {t : TypeId} (ht : if str = true then P.underlying t = some .string else ∃ e, P.underlying t = some (.slice e)) {v : Value} {x : Arg} (hv : Rep E v (ρ x)) (ty : TypeId) {val : AV} {ups : List (Nat × Option Bk)}
    (h : ((AO.len str x).sem fresh ρ).run g = some (.done val ups)) : OpOK E J base g ((do pure (Next.value (← Builtin.len_ #[t] ty #[v])) : Sem Next).run P E.w) val ups := by
  cases str with
  | true =>
    simp only [if_true] at ht
    simp only [AO.sem] at h
    split at h
    · rename_i s hx
      simp only [RM.run, Option.some.injEq, Out.done.injEq] at h
      obtain ⟨rfl, rfl⟩ := h
      rw [hx] at hv
      cases hv with
      | v hp => exact pureOK hm (v := goInt s.size) (by simp [Builtin.len_, run_underlying ht]) (.v rfl)
    · simp [RM.run] at h
  | false =>
    simp only [Bool.false_eq_true, if_false] at ht
    obtain ⟨e, hu⟩ := ht
    have slice : ∀ A n' c k, v = Value.slice A n' c → n' = k → (do pure (Next.value (← Builtin.len_ #[t] ty #[v])) : Sem Next).run P E.w = .ok (.value (goInt k)) E.w := by
      intro A n' c k hv hn
      subst hv; subst hn; simp [Builtin.len_, run_underlying hu]
    simp only [AO.sem] at h
    split at h
    · rename_i sz els hx
      simp only [RM.run, Option.some.injEq, Out.done.injEq] at h
      obtain ⟨rfl, rfl⟩ := h
      rw [hx] at hv
      cases hv with
      | lst0 hc => exact pureOK hm (slice _ _ _ _ rfl rfl) (.v rfl)
      | lst1 u hn => exact pureOK hm (slice _ _ _ _ rfl hn) (.v rfl)
    · rename_i sz els hx
      simp only [RM.run, Option.some.injEq, Out.done.injEq] at h
      obtain ⟨rfl, rfl⟩ := h
      rw [hx] at hv
      cases hv with
      | tls h' =>
        cases h' with
        | lst0 hc => exact pureOK hm (slice _ _ _ _ rfl rfl) (.v rfl)
        | lst1 u hn => exact pureOK hm (slice _ _ _ _ rfl hn) (.v rfl)
    · rename_i hx
      simp only [RM.run, Option.some.injEq, Out.done.injEq] at h
      obtain ⟨rfl, rfl⟩ := h
      rw [hx] at hv
      cases hv with
      | emp => exact pureOK hm (slice _ _ _ 0 rfl rfl) (.v rfl)
    · rename_i id sz off n hx
      obtain ⟨B, hB, h⟩ := lv_run h
      simp only [RM.run, Option.some.injEq, Out.done.injEq] at h
      obtain ⟨rfl, rfl⟩ := h
      rw [hx] at hv
      cases hv with
      | own hi hd' hb hq hs hm' hl' hc => exact pureOK hm (slice _ _ _ _ rfl rfl) (.v rfl)
      | own0 hi hd' hb => exact pureOK hm (slice _ _ _ 0 rfl rfl) (.v rfl)
      | staleO hi hd => exact absurd hd (alive hm hB)
    · simp [RM.run] at h
theorem nilcOK (hm : MemAt E J base g) {v : Value} {x : Arg} (hv : Rep E v (ρ x)) {o : Oper} {xo : Operand} (ho : o.op = .nilCheck xo) (hx : ρv xo = v) {val : AV} {ups : List (Nat × Option Bk)}
    (h : ((AO.nilc x).sem fresh ρ).run g = some (.done val ups)) : OpOK E J base g ((execOp ρv o).run P E.w) val ups := by
  have key : ∀ a, v = .pointer (some a) → (execOp ρv o).run P E.w = .ok (.value v) E.w := by
    intro a ha
    unfold execOp
    simp [ho, hx, ha]
  simp only [AO.sem] at h
  split at h
  · rename_i id sz i q hx'
    obtain ⟨B, hB, h⟩ := lv_run h
    simp only [RM.run, Option.some.injEq, Out.done.injEq] at h
    obtain ⟨rfl, rfl⟩ := h
    rw [hx'] at hv
    have hv' := hv
    cases hv with
    | ref hi hd hb hq => exact pureOK hm (key _ rfl) hv'
    | staleR hi hd => exact absurd hd (alive hm hB)
  · rename_i cs q hx'
    simp only [RM.run, Option.some.injEq, Out.done.injEq] at h
    obtain ⟨rfl, rfl⟩ := h
    rw [hx'] at hv
    have hv' := hv
    cases hv with
    | pim u hb hq hu hr1 hr => exact pureOK hm (key _ rfl) hv'
  · simp [RM.run] at h
theorem fadOK (hm : MemAt E J base g) {v : Value} {x : Arg} (hv : Rep E v (ρ x)) {s : TypeId} {fields : Array Field} {fi : Nat} {f : Field} {n : Nat} (hu : P.underlying s = some (.struct fields)) (hf : fields[fi]? = some f) (hz : szOf P f.type = some n) (hn : n ≠ 0) {val : AV} {ups : List (Nat × Option Bk)}
    (h : ((AO.fad f.offset x).sem fresh ρ).run g = some (.done val ups)) : OpOK E J base g ((do pure (Next.value (← Instr.fieldAt s v fi)) : Sem Next).run P E.w) val ups := by
  have hsz := szOf_run hz E.w
  have key : ∀ b q, v = .pointer (some ⟨b, q, none⟩) → (do pure (Next.value (← Instr.fieldAt s v fi)) : Sem Next).run P E.w = .ok (.value (.pointer (some ⟨b, q + f.offset, none⟩))) E.w := by
    intro b q ha
    subst ha
    simp [Instr.fieldAt, run_underlying hu, hf, Instr.sureAddr, fieldPlace, hsz, hn, Addr.add_lit]
  simp only [AO.sem] at h
  split at h
  · rename_i id sz i q hx'
    obtain ⟨B, hB, h⟩ := lv_run h
    simp only [RM.run, Option.some.injEq, Out.done.injEq] at h
    obtain ⟨rfl, rfl⟩ := h
    rw [hx'] at hv
    cases hv with
    | ref hi hd hb hq => exact pureOK hm (key _ _ rfl) (.ref hi hd hb (by omega))
    | staleR hi hd => exact absurd hd (alive hm hB)
  · rename_i cs q hx'
    simp only [RM.run, Option.some.injEq, Out.done.injEq] at h
    obtain ⟨rfl, rfl⟩ := h
    rw [hx'] at hv
    cases hv with
    | pim u hb hq hu' hr1 hr => exact pureOK hm (key _ _ rfl) (.pim u hb (by omega) hu' hr1 hr)
  · simp [RM.run] at h
theorem fldOK (hm : MemAt E J base g) {v : Value} {x : Arg} (hv : Rep E v (ρ x)) {s : TypeId} {fields : Array Field} {fi : Nat} {f : Field} {m : Option Nat} (hu : P.underlying s = some (.struct fields)) (hf : fields[fi]? = some f) (hz : aggOf P f.type = some m) {val : AV} {ups : List (Nat × Option Bk)}
    (h : ((AO.fld f.offset m x).sem fresh ρ).run g = some (.done val ups)) : OpOK E J base g ((do pure (Next.value (← Instr.field s v fi)) : Sem Next).run P E.w) val ups := by
  simp only [AO.sem] at h
  split at h
  · rename_i cs hx'
    rw [hx'] at hv
    cases hg : getCells cs f.offset m with
    | none => simp [hg, RM.opt, RM.run] at h
    | some a =>
      simp [hg, RM.opt, RM.run] at h
      obtain ⟨rfl, rfl⟩ := h
      cases hv with
      | agg hl hr =>
        obtain ⟨v', k1, k2⟩ := part_run (P := P) hz ⟨hl, hr⟩ hg
        exact pureOK hm (by simp [Instr.field, run_underlying hu, hf, asAgg, k1]) k2
  · simp [RM.run] at h
theorem iapOK (hm : MemAt E J base g) {v vi : Value} {x i : Arg} (hv : Rep E v (ρ x)) (hvi : Rep E vi (ρ i)) {t e : TypeId} {sz len : Nat} (hu : P.underlying t = some (.array len e)) (hz : szOf P e = some sz) {val : AV} {ups : List (Nat × Option Bk)}
    (h : ((AO.iap sz len x i).sem fresh ρ).run g = some (.done val ups)) : OpOK E J base g ((do pure (Next.value (← Instr.indexAt t v vi)) : Sem Next).run P E.w) val ups := by
  have hsz := szOf_run hz E.w
  have key : ∀ b q k (m : Int), v = .pointer (some ⟨b, q, none⟩) → vi = .int k m → 0 ≤ m → m < len → (do pure (Next.value (← Instr.indexAt t v vi)) : Sem Next).run P E.w = .ok (.value (.pointer (some ⟨b, q + m.toNat * sz, none⟩))) E.w := by
    intro b q k m hv hvi h1 h2
    subst hv; subst hvi
    simp [Instr.indexAt, asIntOf, Instr.sureAddr, run_underlying hu, h1, h2, hsz, Addr.add_lit]
  simp only [AO.sem] at h
  split at h
  · rename_i id s q o k m hx hi
    split at h
    · rename_i hc
      obtain ⟨h0, h1⟩ := hc
      obtain ⟨B, hB, h⟩ := lv_run h
      simp only [RM.run, Option.some.injEq, Out.done.injEq] at h
      obtain ⟨rfl, rfl⟩ := h
      rw [hx] at hv; rw [hi] at hvi
      cases hvi with
      | v hp => cases hv with
        | ref hi' hd hb hq => exact pureOK hm (key _ _ k m rfl rfl h0 h1) (.ref hi' hd hb (by omega))
        | staleR hi' hd => exact absurd hd (alive hm hB)
    · simp [RM.run] at h
  · rename_i cs o k m hx hi
    split at h
    · rename_i hc
      obtain ⟨h0, h1⟩ := hc
      simp only [RM.run, Option.some.injEq, Out.done.injEq] at h
      obtain ⟨rfl, rfl⟩ := h
      rw [hx] at hv; rw [hi] at hvi
      cases hvi with
      | v hp => cases hv with
        | pim u hb hq hu' h1' hr => exact pureOK hm (key _ _ k m rfl rfl h0 h1) (.pim u hb (by omega) hu' h1' hr)
    · simp [RM.run] at h
  · simp [RM.run] at h
theorem iadOK (hm : MemAt E J base g) {v vi : Value} {x i : Arg} (hv : Rep E v (ρ x)) (hvi : Rep E vi (ρ i)) {t e : TypeId} {sz : Nat} (hu : P.underlying t = some (.slice e)) (hz : szOf P e = some sz) (hpos : 0 < sz) {val : AV} {ups : List (Nat × Option Bk)}
    (h : ((AO.iad sz x i).sem fresh ρ).run g = some (.done val ups)) : OpOK E J base g ((do pure (Next.value (← Instr.indexAt t v vi)) : Sem Next).run P E.w) val ups := by
  have hsz := szOf_run hz E.w
  have key : ∀ b q n c k (m : Int), v = .slice (some ⟨b, q, none⟩) n c → vi = .int k m → 0 ≤ m → m < n → (do pure (Next.value (← Instr.indexAt t v vi)) : Sem Next).run P E.w = .ok (.value (.pointer (some ⟨b, q + m.toNat * sz, none⟩))) E.w := by
    intro b q n c k m hv hvi h1 h2
    subst hv; subst hvi
    simp [Instr.indexAt, asIntOf, run_underlying hu, h1, h2, hsz, Addr.add_lit]
  have lst : ∀ v (els : List (List AV)) (m : Int), Rep E v (.lst sz els) → (∀ b q n c, v = .slice (some ⟨b, q, none⟩) n c → (0 ≤ m ∧ m < n → (do pure (Next.value (← Instr.indexAt t v vi)) : Sem Next).run P E.w = .ok (.value (.pointer (some ⟨b, q + m.toNat * sz, none⟩))) E.w)) → 0 ≤ m → ∀ cs, els[m.toNat]? = some cs →
      OpOK E J base g ((do pure (Next.value (← Instr.indexAt t v vi)) : Sem Next).run P E.w) (.pim cs 0) [] := by
    intro v els m hr hkey h0 cs hcs
    have hlt : m.toNat < els.length := (List.getElem?_eq_some_iff.1 hcs).1
    cases hr with
    | lst0 hc => simp at hlt
    | @lst1 b off n c _ _ u hn hl hc hb hzz hu' hr1 hr' =>
      refine pureOK hm (hkey b off n c rfl ⟨h0, by omega⟩) (.pim (off := off + m.toNat * sz) (u m.toNat) hb rfl (fun j x hj => hu' _ _ _ _ hcs hj) (fun j x hj => (hr1 _ _ _ _ hcs hj).2) (fun j x hj => hr' _ _ _ _ hcs hj))
  simp only [AO.sem] at h
  split at h
  · rename_i s els k m hx hi
    split at h
    · rename_i hc
      obtain ⟨rfl, h0⟩ := hc
      rw [hx] at hv; rw [hi] at hvi
      cases hcs : els[m.toNat]? with
      | none => simp [hcs, RM.opt, RM.run] at h
      | some cs =>
        simp [hcs, RM.opt, RM.run] at h
        obtain ⟨rfl, rfl⟩ := h
        cases hvi with
        | v hp => exact lst v els m hv (fun b q n c hv' hh => key b q n c k m hv' rfl hh.1 hh.2) h0 cs hcs
    · simp [RM.run] at h
  · rename_i s els k m hx hi
    split at h
    · rename_i hc
      obtain ⟨rfl, h0⟩ := hc
      rw [hx] at hv; rw [hi] at hvi
      cases hcs : els[m.toNat]? with
      | none => simp [hcs, RM.opt, RM.run] at h
      | some cs =>
        simp [hcs, RM.opt, RM.run] at h
        obtain ⟨rfl, rfl⟩ := h
        cases hvi with
        | v hp => cases hv with
          | tls hv => exact lst _ els m hv (fun b q n c hv' hh => key b q n c k m hv' rfl hh.1 hh.2) h0 cs hcs
    · simp [RM.run] at h
  · rename_i id s off ln k m hx hi
    split at h
    · rename_i hc
      obtain ⟨rfl, h0, h1⟩ := hc
      obtain ⟨B, hB, h⟩ := lv_run h
      simp only [RM.run, Option.some.injEq, Out.done.injEq] at h
      obtain ⟨rfl, rfl⟩ := h
      rw [hx] at hv; rw [hi] at hvi
      cases hvi with
      | v hp => cases hv with
        | @own _ _ _ n c b q m' t' hi hd hb hq hs hm' hl' hc =>
          refine pureOK hm (key b q _ c k m rfl rfl h0 h1) (.ref hi hd hb ?_)
          rcases hq with hq | hq
          · rw [hq, Nat.add_mul]; omega
          · omega
        | own0 hi hd' hb => simp at h1; omega
        | staleO hi hd => exact absurd hd (alive hm hB)
    · simp [RM.run] at h
  · simp [RM.run] at h
theorem extOK (hm : MemAt E J base g) {v : Value} {x : Arg} {i : Nat} (hv : Rep E v (ρ x)) {val : AV} {ups : List (Nat × Option Bk)}
    (h : ((AO.ext i x).sem fresh ρ).run g = some (.done val ups)) : OpOK E J base g ((do pure (Next.value (← Instr.extract v i)) : Sem Next).run P E.w) val ups := by
  simp only [AO.sem] at h
  split at h
  · rename_i vs hx
    rw [hx] at hv
    cases hi : vs[i]? with
    | none => simp [hi, RM.opt, RM.run] at h
    | some a =>
      simp [hi, RM.opt, RM.run] at h
      obtain ⟨rfl, rfl⟩ := h
      cases hv with
      | @tup us _ hl hr =>
        have hlt : i < us.size := by rw [hl]; exact (List.getElem?_eq_some_iff.1 hi).1
        exact pureOK hm (by simp [Instr.extract, Array.getElem?_eq_getElem hlt]) (hr i _ a (Array.getElem?_eq_getElem hlt) hi)
  · simp [RM.run] at h
theorem natOf_rep {v : Value} {a : AV} (hv : Rep E v a) {n : Nat} (h : natOf a = some n) : ∃ k, v = .int k (n : Int) := by
  unfold natOf at h
  split at h
  · rename_i k m
    split at h
    · simp only [Option.some.injEq] at h
      subst h
      cases hv with
      | v hp => exact ⟨k, by congr 1; omega⟩
    · simp at h
  · simp at h
theorem mslOK (hm : MemAt E J base g) (hf : ¬ E.kn fresh) {t e : TypeId} {zs : List AV} {i : TypeInfo} (ht : P.underlying t = some (.slice e)) (hz : zerosOf P e = some zs) (hi : P.info? e = some i) (hpos : 0 < zs.length) (hby : 0 < i.bytes) {vl vc : Value} {l c : Arg} (hl : Rep E vl (ρ l)) (hc : Rep E vc (ρ c))
    {val : AV} {ups : List (Nat × Option Bk)} (h : ((AO.msl zs.length i.bytes zs l c).sem fresh ρ).run g = some (.done val ups)) :
    OpOK E J base g ((do pure (Next.value (← Instr.makeSlice t vl vc)) : Sem Next).run P E.w) val ups := by
  obtain ⟨i', z, hi', hzz, hs, hcs, hone, hrep⟩ := zerosOf_run hz
  obtain rfl : i = i' := by rw [hi] at hi'; simpa using hi'
  simp only [AO.sem] at h
  split at h
  · rename_i n m h1 h2
    split at h
    · rename_i hcond
      obtain ⟨hle, hb⟩ := hcond
      simp only [RM.run, Option.some.injEq, Out.done.injEq] at h
      obtain ⟨rfl, rfl⟩ := h
      obtain ⟨kl, rfl⟩ := natOf_rep hl h1
      obtain ⟨kc, rfl⟩ := natOf_rep hc h2
      have hmb : m ≤ m * i.bytes := Nat.le_mul_of_pos_right _ hby
      have hbi : (i.bytes : Int) * (m : Int) ≤ 281474976710656 := by
        have : ((i.bytes * m : Nat) : Int) ≤ 281474976710656 := by rw [Nat.mul_comm]; omega
        rwa [Int.natCast_mul] at this
      have hrun := run_make (P := P) E.w t e i z ht hi hzz kl kc n m (by omega) (by omega) hbi (by omega)
      simp only [Int.toNat_natCast] at hrun
      have hsz : (madeCells z.cells (m * i.size)).size = m * zs.length := by rw [size_madeCells, hs]
      refine allocOK hm hf (madeCells z.cells (m * i.size)) e ⟨zs.length, List.replicate n zs⟩ (v := .slice (some ⟨E.w.heap.size, 0, none⟩) n m) (by simp [hrun]) (fun E' hE => ⟨?_, fun q cs hq => ?_⟩) (fun E' hw q1 q2 q3 q4 => ?_)
      · simp only [List.length_replicate, hsz]; exact Nat.mul_le_mul_right _ hle
      · have hql : q < n := by have := (List.getElem?_eq_some_iff.1 hq).1; simpa using this
        simp [hql] at hq
        subst hq
        refine ⟨rfl, fun j x hj => ?_⟩
        have hjl : j < zs.length := (List.getElem?_eq_some_iff.1 hj).1
        have hfit : q * zs.length + zs.length ≤ m * zs.length := by
          have : (q + 1) * zs.length ≤ m * zs.length := Nat.mul_le_mul_right _ (by omega)
          rw [Nat.add_mul] at this; omega
        have hjz : j < z.cells.size := by omega
        have hmod : (q * zs.length + j) % z.cells.size = j := by rw [hcs, Nat.mul_comm, Nat.mul_add_mod]; exact Nat.mod_eq_of_lt hjl
        refine ⟨z.cells[j], ?_, ?_, (hrep E j _ x (Array.getElem?_eq_getElem hjz) hj).step hE⟩
        · dsimp only
          rw [Array.getElem?_eq_getElem (by rw [hsz]; omega)]
          simp [madeCells, hmod, hjz]
        · refine (hrep E j _ x (Array.getElem?_eq_getElem hjz) hj).one ?_
          simp only [List.all_eq_true] at hone
          have := (List.getElem?_eq_some_iff.1 hj).2
          rw [← this]; exact hone _ (List.getElem_mem _)
      · refine .own q1 q2 q3 (.inl (by simp)) (t := e) (m := (madeCells z.cells (m * i.size)).size) ?_ (by rw [hsz]; simp) hle (by omega) (by rw [q4]; simp; omega)
        rw [hw]
        unfold World.shape?
        rw [heap_alloc_new]
    · simp [RM.run] at h
  · simp [RM.run] at h
theorem optNat_rep (ha : Args E ρv ρ) {x : Option Operand} {ax : Option Arg} (hx : cOptArg x = some ax) {n : Option Nat} (h : optNat ρ ax = some n) : (x = none ∧ n = none) ∨ ∃ o m k, x = some o ∧ n = some m ∧ ρv o = .int k (m : Int) := by
  cases x with
  | none =>
    simp [cOptArg] at hx; subst hx
    simp [optNat] at h; subst h
    exact .inl ⟨rfl, rfl⟩
  | some o =>
    simp only [cOptArg] at hx
    cases hc : cArg o with
    | none => simp [hc] at hx
    | some a =>
      simp [hc] at hx; subst hx
      simp only [optNat] at h
      cases hn : natOf (ρ a) with
      | none => simp [hn] at h
      | some m =>
        simp [hn] at h; subst h
        obtain ⟨k, hk⟩ := natOf_rep (ha o a hc) hn
        exact .inr ⟨o, m, k, rfl, rfl, hk⟩
theorem bounds_run (ha : Args E ρv ρ) {isS : Bool} {ln cap : Nat} (hcap : ln ≤ cap) {lo hi mx : Option Operand} {alo ahi amx : Option Arg} (h1 : cOptArg lo = some alo) (h2 : cOptArg hi = some ahi) (h3 : cOptArg mx = some amx) {nlo nhi nmx : Option Nat} (k1 : optNat ρ alo = some nlo) (k2 : optNat ρ ahi = some nhi) (k3 : optNat ρ amx = some nmx)
    (hmh : mx.isSome = true → hi.isSome = true) {b : Nat × Nat} (hb : bounds ln nlo nhi = some b) (hmx : ∀ m, nmx = some m → b.2 ≤ m ∧ m ≤ ln) :
    (Instr.sliceBounds isS ln cap (lo.map ρv) (hi.map ρv) (mx.map ρv)).run P E.w = .ok (b.1, b.2, nmx.getD cap) E.w := by
  have sb : ∀ (k : IntKind) (n y : Nat) (code : BoundsCode), n ≤ y → (Instr.sliceBound (.int k (n : Int)) y code).run P E.w = .ok n E.w := by
    intro k n y code h
    simp [Instr.sliceBound, asIntOf, h]
  unfold bounds at hb
  split at hb
  · rename_i hc
    simp only [Option.some.injEq] at hb
    subst hb
    obtain ⟨c1, c2⟩ := hc
    simp only at hmx
    rcases optNat_rep ha h3 k3 with ⟨rfl, rfl⟩ | ⟨om, m, km, rfl, rfl, em⟩ <;> rcases optNat_rep ha h2 k2 with ⟨rfl, rfl⟩ | ⟨oh, hh, kh, rfl, rfl, eh⟩ <;> rcases optNat_rep ha h1 k1 with ⟨rfl, rfl⟩ | ⟨ol, ll, kl, rfl, rfl, el⟩
    all_goals simp only [Option.getD_none, Option.getD_some] at c1 c2 hmx ⊢
    · simp [Instr.sliceBounds]
    · simp [Instr.sliceBounds, el, sb kl ll ln _ c1]
    · simp [Instr.sliceBounds, eh, sb kh hh cap _ (by omega)]
    · simp [Instr.sliceBounds, eh, el, sb kh hh cap _ (by omega), sb kl ll hh _ c1]
    · simp at hmh
    · simp at hmh
    · have := hmx m rfl
      simp [Instr.sliceBounds, eh, em, sb km m cap _ (by omega), sb kh hh m _ (by omega)]
    · have := hmx m rfl
      simp [Instr.sliceBounds, eh, em, el, sb km m cap _ (by omega), sb kh hh m _ (by omega), sb kl ll hh _ c1]
  · simp at hb
theorem cut_rep {A : Option Addr} {n c sz : Nat} {els : List (List AV)} (hv : Rep E (.slice A n c) (.lst sz els)) {l h : Nat} (h1 : l ≤ h) (h2 : h ≤ els.length) (m : Nat) (hm1 : h ≤ m) (hm2 : m ≤ c) :
    Rep E (.slice (if m = l then A else A.map (·.add (l * sz))) (h - l) (m - l)) (.lst sz ((els.drop l).take (h - l))) := by
  by_cases h0 : h - l = 0
  · rw [h0, List.take_zero]
    cases hv with
    | lst0 hc => exact .lst0 (by omega)
    | lst1 u hn hl hc => exact .lst0 (by omega)
  · cases hv with
    | lst0 hc => simp at h2; omega
    | @lst1 b off n c _ _ u hn hl hc hb hz hu hr1 hr =>
      rw [if_neg (by omega)]
      simp only [Option.map_some, Addr.add_lit]
      refine .lst1 (fun i j => u (l + i) j) (by simp; omega) (by omega) (by omega) hb (fun i cs hi => ?_) (fun i cs j x hi hj => ?_) (fun i cs j x hi hj => ?_) (fun i cs j x hi hj => ?_)
      all_goals
        rw [List.getElem?_take] at hi
        split at hi
        · rw [List.getElem?_drop] at hi
          first
            | exact hz _ cs hi
            | (rw [show off + l * sz + i * sz + j = off + (l + i) * sz + j by rw [Nat.add_mul]; omega]; exact hu _ _ _ _ hi hj)
            | exact hr1 _ _ _ _ hi hj
            | exact hr _ _ _ _ hi hj
        · simp at hi
theorem ownCut {id s off n : Nat} {A : Option Addr} {c l h m : Nat} (hr : Rep E (.slice A n c) (.own id s off n)) (hd0 : ¬ E.dead id) (h1 : l ≤ h) (hm1 : h ≤ m) (hm2 : m ≤ c) (hlm : E.ln id ≤ off + m) : Rep E (.slice (if m = l then A else A.map (·.add (l * s))) (h - l) (m - l)) (.own id s (off + l) (h - l)) := by
  cases hr with
  | @own _ _ _ _ _ bb q mm t' hi' hd hbl hq hs hmm hl hcc hln =>
    by_cases e1 : m = l
    · rw [if_pos e1]
      refine .own hi' hd hbl (.inr (by omega)) hs (Nat.le_trans (Nat.mul_le_mul_right _ (by omega)) hmm) (by omega) (by omega) (by omega)
    · rw [if_neg e1]
      simp only [Option.map_some, Addr.add_lit]
      refine .own hi' hd hbl (.inl ?_) hs (Nat.le_trans (Nat.mul_le_mul_right _ (by omega)) hmm) (by omega) (by omega) (by omega)
      rcases hq with hq | hq
      · rw [hq, Nat.add_mul]
      · omega
  | own0 hi' hd hbl hln =>
    have hb1 : l = 0 := by omega
    have hb2 : h = 0 := by omega
    have hm0 : m = 0 := by omega
    simp only [hb1, hb2, hm0, Nat.sub_self, Nat.add_zero, if_true]
    exact .own0 hi' hd hbl hln
  | staleO hi' hd => exact absurd hd hd0
theorem slcOK (ha : Args E ρv ρ) (hm : MemAt E J base g) {t e : TypeId} {sz : Nat} (hu : P.underlying t = some (.slice e)) (hz : szOf P e = some sz) {x : Operand} {ax : Arg} (hx : cArg x = some ax) {lo hi mx : Option Operand} {alo ahi amx : Option Arg} (h1 : cOptArg lo = some alo) (h2 : cOptArg hi = some ahi) (h3 : cOptArg mx = some amx)
    (hmh : mx.isSome = true → hi.isSome = true) {val : AV} {ups : List (Nat × Option Bk)} (h : ((AO.slc sz ax alo ahi amx).sem fresh ρ).run g = some (.done val ups)) :
    OpOK E J base g ((do pure (Next.value (← Instr.sliceAt t (ρv x) (lo.map ρv) (hi.map ρv) (mx.map ρv))) : Sem Next).run P E.w) val ups := by
  have hsz := szOf_run hz E.w
  have hv := ha x ax hx
  have key : ∀ A n c l h m, ρv x = .slice A n c → (Instr.sliceBounds true n c (lo.map ρv) (hi.map ρv) (mx.map ρv)).run P E.w = .ok (l, h, m) E.w →
      (do pure (Next.value (← Instr.sliceAt t (ρv x) (lo.map ρv) (hi.map ρv) (mx.map ρv))) : Sem Next).run P E.w = .ok (.value (.slice (if m = l then A else A.map (·.add (l * sz))) (h - l) (m - l))) E.w := by
    intro A n c l h m hv hb
    rw [hv]
    simp [Instr.sliceAt, Instr.slice, run_underlying hu, hb, hsz]
  have lst : ∀ A n c els s, ρv x = .slice A n c → n = els.length → n ≤ c → Rep E (.slice A n c) (.lst s els) → s = sz → ∀ nlo nhi nmx b a, optNat ρ alo = some nlo → optNat ρ ahi = some nhi → optNat ρ amx = some nmx → bounds els.length nlo nhi = some b → cutL sz els b.1 b.2 nmx = some a →
      OpOK E J base g ((do pure (Next.value (← Instr.sliceAt t (ρv x) (lo.map ρv) (hi.map ρv) (mx.map ρv))) : Sem Next).run P E.w) a [] := by
    intro A n c els s hvx hn hnc hr hs nlo nhi nmx b a k1 k2 k3 hb hc
    subst hs; subst hn
    have hbb : b.1 ≤ b.2 ∧ b.2 ≤ els.length := by
      unfold bounds at hb
      split at hb
      · rename_i hcond; simp only [Option.some.injEq] at hb; subst hb; exact hcond
      · simp at hb
    cases nmx with
    | none =>
      simp only [cutL, Option.some.injEq] at hc; subst hc
      have hbr := bounds_run (P := P) (isS := true) ha hnc h1 h2 h3 k1 k2 k3 hmh hb (fun m hm => by simp at hm)
      exact pureOK hm (key A _ c b.1 b.2 c hvx hbr) (cut_rep hr hbb.1 hbb.2 c (by omega) (Nat.le_refl _))
    | some m =>
      simp only [cutL] at hc
      split at hc
      · rename_i hcond
        simp only [Option.some.injEq] at hc
        have hbr := bounds_run (P := P) (isS := true) ha hnc h1 h2 h3 k1 k2 k3 hmh hb (fun m' hm' => by simp at hm'; subst hm'; exact hcond)
        have hrep := cut_rep hr hbb.1 hbb.2 m hcond.1 (by omega)
        have hkey := key A _ c b.1 b.2 m hvx hbr
        by_cases e1 : m = b.1
        · rw [if_pos e1] at hc; subst hc
          refine pureOK hm hkey ?_
          rw [show b.2 - b.1 = 0 by omega, show m - b.1 = 0 by omega]
          exact .emp
        · rw [if_neg e1] at hc
          by_cases e2 : m = b.2
          · rw [if_pos e2] at hc; subst hc
            refine pureOK hm hkey ?_
            rw [e2] at hrep ⊢
            exact .tls hrep
          · rw [if_neg e2] at hc; subst hc
            exact pureOK hm hkey hrep
      · simp at hc
  simp only [AO.sem] at h
  split at h
  · rename_i nlo nhi nmx k1 k2 k3
    split at h
    · rename_i s els hx'
      rw [hx'] at hv
      split at h
      · rename_i hs
        cases hb : bounds els.length nlo nhi with
        | none => simp [hb, RM.opt, RM.run] at h
        | some b =>
          cases hc : cutL sz els b.1 b.2 nmx with
          | none => simp [hb, hc, RM.opt, RM.run] at h
          | some a =>
            simp [hb, hc, RM.opt, RM.run] at h
            obtain ⟨rfl, rfl⟩ := h
            obtain ⟨vv, hvv⟩ : ∃ vv, vv = ρv x := ⟨_, rfl⟩
            rw [← hvv] at hv
            have hv' := hv
            cases hv with
            | lst0 hcc => exact lst _ _ _ _ s hvv.symm rfl (by simp) hv' hs _ _ _ _ _ k1 k2 k3 hb hc
            | lst1 u hn hl hcc => exact lst _ _ _ _ s hvv.symm hn hl hv' hs _ _ _ _ _ k1 k2 k3 hb hc
      · simp [RM.run] at h
    · rename_i s els hx'
      rw [hx'] at hv
      split at h
      · rename_i hs
        cases hb : bounds els.length nlo nhi with
        | none => simp [hb, RM.opt, RM.run] at h
        | some b =>
          cases hc : cutL sz els b.1 b.2 nmx with
          | none => simp [hb, hc, RM.opt, RM.run] at h
          | some a =>
            simp [hb, hc, RM.opt, RM.run] at h
            obtain ⟨rfl, rfl⟩ := h
            obtain ⟨vv, hvv⟩ : ∃ vv, vv = ρv x := ⟨_, rfl⟩
            rw [← hvv] at hv
            cases hv with
            | tls hv =>
              have hv' := hv
              cases hv with
              | lst0 hcc => exact lst _ _ _ _ s hvv.symm rfl (by simp) hv' hs _ _ _ _ _ k1 k2 k3 hb hc
              | lst1 u hn hl hcc => exact lst _ _ _ _ s hvv.symm hn hl hv' hs _ _ _ _ _ k1 k2 k3 hb hc
      · simp [RM.run] at h
    · rename_i hx'
      rw [hx'] at hv
      cases hb : bounds 0 nlo nhi with
      | none => simp [hb, RM.opt, RM.run] at h
      | some b =>
        by_cases hc : nmx.getD 0 = 0
        · simp [hb, hc, RM.opt, RM.run] at h
          obtain ⟨rfl, rfl⟩ := h
          obtain ⟨vv, hvv⟩ : ∃ vv, vv = ρv x := ⟨_, rfl⟩
          rw [← hvv] at hv
          have hbb : b.1 = 0 ∧ b.2 = 0 := by
            unfold bounds at hb
            split at hb
            · rename_i hcond; simp only [Option.some.injEq] at hb; subst hb; simp only; omega
            · simp at hb
          have h0 : ∀ m, nmx = some m → m = 0 := fun m hm' => by rw [hm'] at hc; simpa using hc
          cases hv with
          | @emp A =>
            have hbr := bounds_run (P := P) (isS := true) ha (Nat.le_refl 0) h1 h2 h3 k1 k2 k3 hmh hb (fun m hm => by rw [h0 m hm, hbb.2]; exact ⟨Nat.le_refl _, Nat.le_refl _⟩)
            refine pureOK hm (key A _ _ b.1 b.2 _ hvv.symm hbr) ?_
            rw [hbb.1, hbb.2, hc]
            exact .emp
        · simp [hb, hc, RM.opt, RM.run] at h
    · rename_i id s off n hx'
      obtain ⟨B, hB, h⟩ := lv_run h
      rw [hx'] at hv
      have hs : s = sz := by
        cases nmx with
        | none => simp only at h; split at h <;> first | assumption | simp [RM.run] at h
        | some m => simp only [RM.run, hB] at h; split at h <;> first | (rename_i hc; exact hc.1) | simp [RM.run] at h
      · subst hs
        cases hb : bounds n nlo nhi with
        | none =>
          cases nmx with
          | some m => exfalso; simp [hb, hB, RM.opt, RM.run] at h
          | none =>
            cases nhi with
            | none => exfalso; simp [hb, RM.run] at h
            | some hh =>
              simp only [hb, if_true, RM.run, hB] at h
              by_cases hBz : B.sz = s
              rotate_left
              · rw [if_neg hBz] at h; simp [RM.run] at h
              rw [if_pos hBz] at h
              cases hb2 : bounds (B.els.length - off) nlo (some hh) with
              | none => simp [hb2, RM.opt, RM.run] at h
              | some b =>
                simp [hb2, RM.opt, RM.run] at h
                obtain ⟨rfl, rfl⟩ := h
                have hbb : b.1 ≤ b.2 ∧ b.2 ≤ B.els.length - off := by
                  unfold bounds at hb2
                  split at hb2
                  · rename_i hcond; simp only [Option.some.injEq] at hb2; subst hb2; exact hcond
                  · simp at hb2
                obtain ⟨vv, hvv⟩ : ∃ vv, vv = ρv x := ⟨_, rfl⟩
                rw [← hvv] at hv
                have hdd := alive hm hB
                have hlen := hm.len id B hB (by have := hv.own_sz hdd; omega)
                have hsl : ∃ A c, vv = .slice A n c ∧ n ≤ c ∧ E.ln id ≤ off + c := by
                  cases hv with
                  | own hi' hd hbl hq hs hmm hl hcc hln => exact ⟨_, _, rfl, hl, hln⟩
                  | own0 hi' hd hbl hln => exact ⟨_, _, rfl, Nat.le_refl _, by omega⟩
                  | staleO hi' hd => exact absurd hd hdd
                obtain ⟨A, c, rfl, hnc, hlc⟩ := hsl
                have hbr := bounds_run (P := P) (isS := true) (cap := c) ha (by omega) h1 h2 h3 k1 k2 k3 hmh hb2 (fun m hm => by simp at hm)
                have hhi : ∃ oh, hi = some oh := by
                  rcases optNat_rep ha h2 k2 with ⟨_, h⟩ | ⟨oh, _, _, h, _, _⟩
                  · simp at h
                  · exact ⟨oh, h⟩
                obtain ⟨oh, rfl⟩ := hhi
                have hbr' : (Instr.sliceBounds true n c (lo.map ρv) ((some oh).map ρv) (mx.map ρv)).run P E.w = .ok (b.1, b.2, c) E.w := by
                  have e : Instr.sliceBounds true n c (lo.map ρv) ((some oh).map ρv) (mx.map ρv) = Instr.sliceBounds true (B.els.length - off) c (lo.map ρv) ((some oh).map ρv) (mx.map ρv) := by
                    cases mx <;> rfl
                  rw [e]; exact hbr
                exact pureOK hm (key A _ c b.1 b.2 c hvv.symm hbr') (ownCut hv hdd hbb.1 (by omega) (Nat.le_refl _) hlc)
        | some b =>
          have hbb : b.1 ≤ b.2 ∧ b.2 ≤ n := by
            unfold bounds at hb
            split at hb
            · rename_i hcond; simp only [Option.some.injEq] at hb; subst hb; exact hcond
            · simp at hb
          obtain ⟨vv, hvv⟩ : ∃ vv, vv = ρv x := ⟨_, rfl⟩
          rw [← hvv] at hv
          have own : ∀ A c m, vv = .slice A n c → Rep E (.slice A n c) (.own id s off n) → b.2 ≤ m → m ≤ c → E.ln id ≤ off + m → Rep E (.slice (if m = b.1 then A else A.map (·.add (b.1 * s))) (b.2 - b.1) (m - b.1)) (.own id s (off + b.1) (b.2 - b.1)) := by
            intro A c m hvv' hr hm1 hm2 hlm
            cases hr with
            | @own _ _ _ _ _ bb q mm t' hi' hd hbl hq hs hmm hl hcc hln =>
              by_cases e1 : m = b.1
              · rw [if_pos e1]
                refine .own hi' hd hbl (.inr (by omega)) hs (Nat.le_trans (Nat.mul_le_mul_right _ (by omega)) hmm) (by omega) (by omega) (by omega)
              · rw [if_neg e1]
                simp only [Option.map_some, Addr.add_lit]
                refine .own hi' hd hbl (.inl ?_) hs (Nat.le_trans (Nat.mul_le_mul_right _ (by omega)) hmm) (by omega) (by omega) (by omega)
                rcases hq with hq | hq
                · rw [hq, Nat.add_mul]
                · omega
            | own0 hi' hd hbl hln =>
              have hb1 : b.1 = 0 := by omega
              have hb2 : b.2 = 0 := by omega
              have hm0 : m = 0 := by omega
              simp only [hb1, hb2, hm0, Nat.sub_self, Nat.add_zero, if_true]
              exact .own0 hi' hd hbl hln
            | staleO hi' hd => exact absurd hd (alive hm hB)
          have hsl : ∃ A c, vv = .slice A n c ∧ n ≤ c := by
            cases hv with
            | own hi' hd hbl hq hs hmm hl hcc => exact ⟨_, _, rfl, hl⟩
            | own0 hi' hd hbl => exact ⟨_, _, rfl, Nat.le_refl _⟩
            | staleO hi' hd => exact absurd hd (alive hm hB)
          obtain ⟨A, c, rfl, hnc⟩ := hsl
          cases nmx with
          | none =>
            simp [hb, RM.opt, RM.run] at h
            obtain ⟨rfl, rfl⟩ := h
            have hbr := bounds_run (P := P) (isS := true) ha hnc h1 h2 h3 k1 k2 k3 hmh hb (fun m hm => by simp at hm)
            refine pureOK hm (key A _ c b.1 b.2 c hvv.symm hbr) (own A c c rfl hv (by omega) (Nat.le_refl _) ?_)
            cases hv with
            | own hi' hd hbl hq hs hmm hl hcc hln => exact hln
            | own0 hi' hd hbl hln => omega
            | staleO hi' hd => exact absurd hd (alive hm hB)
          | some m =>
            simp only [RM.run, hB, true_and] at h
            split at h
            rotate_left
            · simp [RM.run] at h
            rename_i hlm
            simp only [hb, Option.bind_some] at h
            split at h
            · rename_i hcond
              simp [RM.opt, RM.run] at h
              obtain ⟨rfl, rfl⟩ := h
              have hbr := bounds_run (P := P) (isS := true) ha hnc h1 h2 h3 k1 k2 k3 hmh hb (fun m' hm' => by simp at hm'; subst hm'; exact hcond)
              refine pureOK hm (key A _ c b.1 b.2 m hvv.symm hbr) ?_
              by_cases e1 : m = b.1
              · rw [if_pos e1, if_pos e1]
                rw [show b.2 - b.1 = 0 by omega, show m - b.1 = 0 by omega]
                exact .emp
              · rw [if_neg e1]
                have := own A c m rfl hv hcond.1 (by omega) (by rw [← hm.len id B hB (by have := hv.own_sz (alive hm hB); omega)]; exact hlm.2)
                rw [if_neg e1] at this
                rw [if_neg e1]
                exact this
            · simp [RM.opt, RM.run] at h
    · simp [RM.run] at h
  · simp [RM.run] at h
end
end Go.Proofs.YtgepadjkegfokaaDoor
