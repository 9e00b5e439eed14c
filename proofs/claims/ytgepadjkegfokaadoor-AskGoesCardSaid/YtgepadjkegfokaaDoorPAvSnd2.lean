/- Each operation does in memory what it says of abstract values, further ones. No condition. -/
import Derived.Test.YtgepadjkegfokaaDoorPAvSound
set_option linter.unusedSimpArgs false
set_option linter.unusedVariables false
namespace Go.Proofs.YtgepadjkegfokaaDoor
set_option linter.unusedSimpArgs false
set_option linter.unusedVariables false
open Go.RowKit
section
variable {P : Program} {E : Env} {J : Nat → Prop} {base : Nat} {g : Nat → Option Bk} {ρv : Operand → Value} {ρ : Arg → AV} {fresh : Nat}
theorem eqGuard_int (op : BinOp) (t : TypeId) (x y : Operand) (k k' : IntKind) (a b : Int) (w : World) : (eqGuard op t x y (.int k a) (.int k' b)).run P w = .ok () w := by
  cases op <;> simp [eqGuard]
theorem eqGuard_str (op : BinOp) (t : TypeId) (x y : Operand) (a b : ByteArray) (w : World) : (eqGuard op t x y (.string a) (.string b)).run P w = .ok () w := by
  cases op <;> simp [eqGuard]
theorem eqGuard_bool (op : BinOp) (t : TypeId) (x y : Operand) (a b : Bool) (w : World) : (eqGuard op t x y (.bool a) (.bool b)).run P w = .ok () w := by
  cases op <;> simp [eqGuard]
theorem strEq_eq (a b : ByteArray) : strEq a b = (a.toList == b.toList) := by
  rw [ByteArray.toList_eq, ByteArray.toList_eq]; rfl
theorem binA_run {op : BinOp} {t : TypeId} {x y : Operand} {a b v : Value} (h : binA (boolT P t) op a b = some v) (w : World) :
    (do eqGuard op t x y a b; binOp op t a b : Sem Value).run P w = .ok v w ∧ plainV v = true := by
  unfold binA at h
  split at h
  · rename_i k a k' b
    have hg' := eqGuard_int (P := P) op t x y k k' a b w
    split at h
    · split at h
      · simp at h
      · rename_i h1
        simp only [Option.some.injEq] at h; subst h
        refine ⟨?_, rfl⟩
        simp [hg', binOp, Op.shift, h1]
    · split at h
      · simp at h
      · rename_i h1
        simp only [Option.some.injEq] at h; subst h
        refine ⟨?_, rfl⟩
        simp [hg', binOp, Op.shift, h1]
    · split at h
      · rename_i hk
        subst hk
        split at h <;> first
          | (simp only [Option.some.injEq] at h; subst h; exact ⟨by simp [hg', binOp, Op.intArith, Op.intBits, Op.intCmp, bits], rfl⟩)
          | (split at h
             · simp at h
             · rename_i h1; simp only [Option.some.injEq] at h; subst h; exact ⟨by simp [hg', binOp, Op.intDiv, h1], rfl⟩)
          | simp at h
      · simp at h
  · rename_i a b
    have hg' := eqGuard_str (P := P) op t x y a b w
    split at h <;> first
      | (simp only [Option.some.injEq] at h; subst h; exact ⟨by simp [hg', binOp, Op.stringOp, strEq_eq], rfl⟩)
      | (split at h
         · simp at h
         · rename_i h1; simp only [Option.some.injEq] at h; subst h; exact ⟨by simp only [Sem.run_bind, hg', Result.andThen_ok, binOp, Op.stringOp, Sem.run_ite, if_neg h1]; rfl, rfl⟩)
      | simp at h
  · rename_i a b
    have hg' := eqGuard_bool (P := P) op t x y a b w
    split at h
    · rename_i hb
      have hu : P.underlying t = some .bool := by
        unfold boolT at hb
        split at hb
        · assumption
        · simp at hb
      have he : (Op.equal t (.bool a) (.bool b)).run P w = .ok (a == b) w := run_equalIn_bool' w _ t a b hu
      split at h <;> first
        | (simp only [Option.some.injEq] at h; subst h; exact ⟨by simp [hg', binOp, he], rfl⟩)
        | simp at h
    · simp at h
  · simp at h
theorem unA_run {op : UnOp} {a v : Value} (h : unA op a = some v) (w : World) : (Op.unary op a).run P w = .ok v w ∧ plainV v = true := by
  unfold unA at h
  split at h <;> first
    | (simp only [Option.some.injEq] at h; subst h; exact ⟨by simp [Op.unary, Op.intArith, Op.intBits, bits], rfl⟩)
    | simp at h
theorem minmax_run {mx : Bool} {a b v : Value} (h : minmaxA mx a b = some v) (w : World) : plainV v = true ∧
    (mx = false → ∀ ts t, (Builtin.min_ ts t #[a, b]).run P w = .ok v w) ∧ (mx = true → ∀ ts t, (Builtin.max_ ts t #[a, b]).run P w = .ok v w) := by
  unfold minmaxA at h
  split at h
  · rename_i k a k' b
    split at h
    · rename_i hk
      subst hk
      simp only [Option.some.injEq] at h; subst h
      exact ⟨rfl, fun hm ts t => by simp [Builtin.min_, Builtin.min2, hm], fun hm ts t => by simp [Builtin.max_, Builtin.max2, hm]⟩
    · simp at h
  · simp at h
/-- Cells and what they stand for. -/
def RC (E : Env) (vs : Array Value) (cs : List AV) : Prop := vs.size = cs.length ∧ ∀ (j : Nat) u c, vs[j]? = some u → cs[j]? = some c → Rep E u c
theorem Rep.rc {v : Value} {a : AV} (h : Rep E v a) (hs : a.solid = true) : RC E v.cells a.cells := by
  cases a with
  | agg cs => cases h with | agg hl h => exact ⟨hl, h⟩
  | _ =>
    have h' := h.cells (by simpa [AV.cells, AV.solid] using hs)
    exact ⟨h'.1, h'.2.1⟩
theorem foldl_put (off : Nat) : ∀ (l : List Value) (n : Nat) (cells : Array Value), off + n + l.length ≤ cells.size →
    ((l.zipIdx n).foldl (fun cs (x : Value × Nat) => cs.setIfInBounds (off + x.2) x.1) cells).size = cells.size ∧
    ∀ k, ((l.zipIdx n).foldl (fun cs (x : Value × Nat) => cs.setIfInBounds (off + x.2) x.1) cells)[k]? = if off + n ≤ k ∧ k < off + n + l.length then l[k - (off + n)]? else cells[k]?
  | [], n, cells, _ => ⟨rfl, fun k => by simp; intro h1 h2; omega⟩
  | v :: l, n, cells, h => by
    simp only [List.length_cons] at h
    have ih := foldl_put off l (n + 1) (cells.setIfInBounds (off + n) v) (by simp; omega)
    simp only [List.zipIdx_cons, List.foldl_cons]
    refine ⟨by simpa using ih.1, fun k => ?_⟩
    rw [ih.2 k]
    by_cases h1 : off + (n + 1) ≤ k ∧ k < off + (n + 1) + l.length
    · rw [if_pos h1, if_pos (by simp; omega), show k - (off + n) = k - (off + (n + 1)) + 1 by omega, List.getElem?_cons_succ]
    · rw [if_neg h1]
      by_cases h2 : k = off + n
      · subst h2
        rw [if_pos (by simp), Array.getElem?_setIfInBounds]
        simp; omega
      · rw [if_neg (by simp; omega), Array.getElem?_setIfInBounds, if_neg (fun e => h2 e.symm)]
theorem fill_rc (ha : Args E ρv ρ) (place : Nat → Option (Nat × Nat)) : ∀ (parts : List (Nat × Operand)) (as : List (Nat × Nat × Arg)) (cells : Array Value) (cs cs' : List AV), cParts place parts = some as → RC E cells cs → fillA ρ cs as = some cs' →
    ∃ cells', Instr.fill place cells (parts.map fun (i, x) => (i, ρv x)) = some cells' ∧ RC E cells' cs'
  | [], as, cells, cs, cs', hp, hc, hf => by
    simp only [cParts, Option.some.injEq] at hp; subst hp
    simp only [fillA, Option.some.injEq] at hf; subst hf
    exact ⟨cells, rfl, hc⟩
  | (i, x) :: r, as, cells, cs, cs', hp, hc, hf => by
    simp only [cParts] at hp
    split at hp
    · rename_i p a l h1 h2 h3
      simp only [Option.some.injEq] at hp; subst hp
      simp only [fillA] at hf
      split at hf
      · rename_i hcond
        obtain ⟨c1, c2, c3⟩ := hcond
        have hrc := (ha x a h2).rc c3
        have hfp := foldl_put p.1 (ρv x).cells.toList 0 cells (by simp [hrc.1, hc.1]; omega)
        have hsz : (ρv x).cells.size = p.2 := hrc.1.trans c1
        have hnew : RC E ((ρv x).cells.zipIdx.foldl (fun cs (x : Value × Nat) => cs.setIfInBounds (p.1 + x.2) x.1) cells) (putCells cs p.1 (ρ a).cells) := by
          rw [← Array.foldl_toList, Array.toList_zipIdx]
          refine ⟨by rw [hfp.1, putCells_length (by omega)]; exact hc.1, fun j u c hu hcj => ?_⟩
          rw [hfp.2 j] at hu
          rw [putCells_get (by omega)] at hcj
          by_cases h4 : j < p.1
          · rw [if_neg (by omega)] at hu; rw [if_pos h4] at hcj
            exact hc.2 j u c hu hcj
          · rw [if_neg h4] at hcj
            by_cases h5 : j < p.1 + (ρ a).cells.length
            · rw [if_pos (by simp; omega)] at hu; rw [if_pos h5] at hcj
              simp only [Nat.add_zero, Array.getElem?_toList] at hu
              exact hrc.2 _ u c hu hcj
            · rw [if_neg (by simp; omega)] at hu; rw [if_neg h5] at hcj
              exact hc.2 j u c hu hcj
        obtain ⟨cells', k1, k2⟩ := fill_rc ha place r l _ _ cs' h3 hnew hf
        refine ⟨cells', ?_, k2⟩
        simp only [List.map_cons, Instr.fill, h1]
        rw [if_neg (by simp [hsz, hc.1]; omega)]
        exact k1
      · simp at hf
    · simp at hp
theorem aggOK (ha : Args E ρv ρ) (hm : MemAt E J base g) {t : TypeId} {parts : Array (Nat × Operand)} {zs : List AV} {as : List (Nat × Nat × Arg)} {place : Nat → Option (Nat × Nat)} (hz : zerosOf P t = some zs) (hp : cParts place parts.toList = some as)
    (hb : ∀ z i, P.info? t = some i → i.zero = some z → ∀ ps, P.built t ps = Instr.fill place z.cells ps) {val : AV} {ups : List (Nat × Option Bk)} (h : ((AO.agg zs as).sem fresh ρ).run g = some (.done val ups)) :
    OpOK E J base g ((do pure (Next.value (← Instr.build t (parts.map fun (i, x) => (i, ρv x)))) : Sem Next).run P E.w) val ups := by
  obtain ⟨i, z, hi, hzz, hs, hcs, hone, hrep⟩ := zerosOf_run hz
  simp only [AO.sem] at h
  cases hf : fillA ρ zs as with
  | none => simp [hf, RM.opt, RM.run] at h
  | some cs =>
    simp [hf, RM.opt, RM.run] at h
    obtain ⟨rfl, rfl⟩ := h
    obtain ⟨cells', k1, k2⟩ := fill_rc ha place parts.toList as z.cells zs cs hp ⟨hcs, hrep E⟩ hf
    have hbuilt : P.built t (parts.map fun (i, x) => (i, ρv x)).toList = some cells' := by
      rw [hb z i hi hzz]; simpa using k1
    refine pureOK hm (v := .agg cells') ?_ (.agg k2.1 k2.2)
    simp [run_build E.w t _ cells' hbuilt]
/-- The cells of elements, one behind the other. -/
theorem fillE_spec (ha : Args E ρv ρ) (sz : Nat) (hsz : 0 < sz) : ∀ (parts : List (Nat × Operand)) (as : List (Nat × Arg)) (cells : Array Value) (els els' : List (List AV)), cPartsE parts = some as →
    (cells.size = els.length * sz ∧ ∀ (i : Nat) cs, els[i]? = some cs → cs.length = sz ∧ ∀ (j : Nat) x, cs[j]? = some x → ∃ u, cells[i * sz + j]? = some u ∧ u.oneCell' = true ∧ Rep E u x) → fillE ρ sz els as = some els' →
    ∃ cells', Instr.fill (fun i => some (i * sz, sz)) cells (parts.map fun (i, x) => (i, ρv x)) = some cells' ∧ els'.length = els.length ∧
      (cells'.size = els'.length * sz ∧ ∀ (i : Nat) cs, els'[i]? = some cs → cs.length = sz ∧ ∀ (j : Nat) x, cs[j]? = some x → ∃ u, cells'[i * sz + j]? = some u ∧ u.oneCell' = true ∧ Rep E u x)
  | [], as, cells, els, els', hp, hc, hf => by
    simp only [cPartsE, Option.some.injEq] at hp; subst hp
    simp only [fillE, Option.some.injEq] at hf; subst hf
    exact ⟨cells, rfl, rfl, hc⟩
  | (i, x) :: r, as, cells, els, els', hp, hc, hf => by
    simp only [cPartsE] at hp
    split at hp
    · rename_i a l h2 h3
      simp only [Option.some.injEq] at hp; subst hp
      simp only [fillE] at hf
      split at hf
      · rename_i hcond
        obtain ⟨c1, c2, c3⟩ := hcond
        obtain ⟨r1, r2, r3⟩ := (ha x a h2).cells c3
        have hfit : i * sz + sz ≤ els.length * sz := by
          have : (i + 1) * sz ≤ els.length * sz := Nat.mul_le_mul_right _ (by omega)
          rw [Nat.add_mul] at this; omega
        have hfp := foldl_put (i * sz) (ρv x).cells.toList 0 cells (by simp [r1, hc.1, c1]; omega)
        obtain ⟨cells', k1, k2, k3⟩ := fillE_spec ha sz hsz r l ((ρv x).cells.zipIdx.foldl (fun cs (y : Value × Nat) => cs.setIfInBounds (i * sz + y.2) y.1) cells) (els.set i (ρ a).cells) els' h3 (by
          rw [← Array.foldl_toList, Array.toList_zipIdx]
          refine ⟨by rw [hfp.1]; simpa using hc.1, fun i' ds hd => ?_⟩
          simp only [List.getElem?_set] at hd
          by_cases hii : i = i'
          · subst hii
            simp only [if_true, c2, Option.some.injEq] at hd
            subst hd
            refine ⟨c1, fun j y hj => ?_⟩
            have hjl : j < (ρv x).cells.size := by rw [r1]; exact (List.getElem?_eq_some_iff.1 hj).1
            refine ⟨(ρv x).cells[j], ?_, r3 _ (by simp), r2 j _ y (Array.getElem?_eq_getElem hjl) hj⟩
            rw [hfp.2, if_pos (by simp; omega)]
            simp [hjl]
          · simp only [hii, if_false] at hd
            refine ⟨(hc.2 i' ds hd).1, fun j y hj => ?_⟩
            obtain ⟨u, m1, m2, m3⟩ := (hc.2 i' ds hd).2 j y hj
            have hjl : j < sz := by
              have := (List.getElem?_eq_some_iff.1 hj).1
              rw [(hc.2 i' ds hd).1] at this; exact this
            refine ⟨u, ?_, m2, m3⟩
            rw [hfp.2, if_neg]
            · exact m1
            · simp only [Array.length_toList, r1, c1]
              rcases Nat.lt_or_ge i' i with h1 | h1
              · have : (i' + 1) * sz ≤ i * sz := Nat.mul_le_mul_right _ (by omega)
                rw [Nat.add_mul] at this; omega
              · have : (i + 1) * sz ≤ i' * sz := Nat.mul_le_mul_right _ (by omega)
                rw [Nat.add_mul] at this; omega) hf
        refine ⟨cells', ?_, by simpa using k2, k3⟩
        simp only [List.map_cons, Instr.fill]
        rw [if_neg (by simp [r1, c1, hc.1]; omega)]
        exact k1
      · simp at hf
    · simp at hp
theorem bslOK (ha : Args E ρv ρ) (hm : MemAt E J base g) (hf : ¬ E.kn fresh) {t e : TypeId} {len : Nat} {parts : Array (Nat × Operand)} {zs : List AV} {as : List (Nat × Arg)} (ht : P.underlying t = some (.slice e)) (hz : zerosOf P e = some zs)
    (hl : len * zs.length ≤ 16777216) (hpos : 0 < zs.length) (hp : cPartsE parts.toList = some as) {val : AV} {ups : List (Nat × Option Bk)} (h : ((AO.bsl zs.length len zs as).sem fresh ρ).run g = some (.done val ups)) :
    OpOK E J base g ((do pure (Next.value (← Instr.buildSlice t len (parts.map fun (i, x) => (i, ρv x)))) : Sem Next).run P E.w) val ups := by
  obtain ⟨i, z, hi, hzz, hs, hcs, hone, hrep⟩ := zerosOf_run hz
  simp only [AO.sem] at h
  cases hfe : fillE ρ zs.length (List.replicate len zs) as with
  | none => simp [hfe, RM.opt, RM.run] at h
  | some els =>
    simp [hfe, RM.opt, RM.run] at h
    obtain ⟨rfl, rfl⟩ := h
    obtain ⟨cells', k1, k2, k3, k4⟩ := fillE_spec ha zs.length hpos parts.toList as ((Array.range (len * zs.length)).map (z.cells[· % z.cells.size]!)) (List.replicate len zs) els hp (by
      refine ⟨by simp, fun q cs hq => ?_⟩
      have hql : q < len := by have := (List.getElem?_eq_some_iff.1 hq).1; simpa using this
      simp [hql] at hq
      subst hq
      refine ⟨rfl, fun j x hj => ?_⟩
      have hjl : j < zs.length := (List.getElem?_eq_some_iff.1 hj).1
      have hfit : q * zs.length + zs.length ≤ len * zs.length := by
        have : (q + 1) * zs.length ≤ len * zs.length := Nat.mul_le_mul_right _ (by omega)
        rw [Nat.add_mul] at this; omega
      have hjz : j < z.cells.size := by omega
      have hmod : (q * zs.length + j) % z.cells.size = j := by rw [hcs, Nat.mul_comm, Nat.mul_add_mod]; exact Nat.mod_eq_of_lt hjl
      refine ⟨z.cells[j], ?_, ?_, hrep E j _ x (Array.getElem?_eq_getElem hjz) hj⟩
      · rw [Array.getElem?_eq_getElem (by simp; omega)]
        simp [hmod, hjz]
      · refine (hrep E j _ x (Array.getElem?_eq_getElem hjz) hj).one ?_
        simp only [List.all_eq_true] at hone
        have := (List.getElem?_eq_some_iff.1 hj).2
        rw [← this]; exact hone _ (List.getElem_mem _)) hfe
    simp only [List.length_replicate] at k2
    refine allocOK hm hf cells' e ⟨zs.length, els⟩ (v := .slice (some ⟨E.w.heap.size, 0, none⟩) len len) ?_ (fun E' hE => ⟨by rw [k3]; exact Nat.le_refl _, fun q cs hq => ⟨(k4 q cs hq).1, fun j x hj => ?_⟩⟩) (fun E' hw q1 q2 q3 q4 => ?_)
    · have hz0 : ¬ (len * zs.length > 2 ^ 24) := by omega
      by_cases h0 : len * zs.length = 0
      · have hl0 : len = 0 := by
          rcases Nat.mul_eq_zero.1 h0 with h | h
          · exact h
          · omega
        subst hl0
        have e0 : Array.range 0 = #[] := rfl
        simp only [Nat.zero_mul, e0, Array.map_empty] at k1
        simp only [Instr.buildSlice, run_underlying ht, sizeOf, typeInfo, hi, hs, newRow, Sem.run_bind, Result.andThen_ok, run_program, Sem.run_pure, bind_pure_comp, Sem.run_map, Nat.zero_mul]
        simp [e0, k1]
      · have hz1 : ¬ (16777216 < len * zs.length) := by omega
        simp [Instr.buildSlice, run_underlying ht, sizeOf, typeInfo, zeroValue, hi, hzz, hs, newRow, hz1]
        rw [if_neg h0]
        simp at k1
        simp [hi, hzz, k1]
    · obtain ⟨u, m1, m2, m3⟩ := (k4 q cs hq).2 j x hj
      exact ⟨u, m1, m2, m3.step hE⟩
    · refine .own q1 q2 q3 (.inl (by simp)) (t := e) (m := cells'.size) ?_ (by rw [k3, k2]; simp) (Nat.le_refl _) (by have := Nat.le_mul_of_pos_right len hpos; omega) (by rw [q4]; dsimp only; omega)
      rw [hw]
      unfold World.shape?
      rw [heap_alloc_new]
end
end Go.Proofs.YtgepadjkegfokaaDoor
