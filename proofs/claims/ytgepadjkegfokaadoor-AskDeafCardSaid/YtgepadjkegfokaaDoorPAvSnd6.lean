/- Every operation does in memory what it says of abstract values. No condition. -/
import Derived.Test.YtgepadjkegfokaaDoorPAvMap
set_option linter.unusedSimpArgs false
set_option linter.unusedVariables false
namespace Go.Proofs.YtgepadjkegfokaaDoor
set_option linter.unusedSimpArgs false
set_option linter.unusedVariables false
open Go.RowKit
section
variable {P : Program} {E : Env} {J : Nat → Prop} {base : Nat} {g : Nat → Option Bk} {ρv : Operand → Value} {ρ : Arg → AV} {fresh : Nat}
theorem eqA_append {cs ds : List AV} : ∀ {L M : List (Nat × LK)} {b : Bool}, eqA cs ds (L ++ M) = some b → ∃ x y, eqA cs ds L = some x ∧ eqA cs ds M = some y ∧ b = (x && y)
  | [], M, b, h => ⟨true, b, rfl, h, by simp⟩
  | (o, k) :: L, M, b, h => by
    simp only [List.cons_append, eqA] at h ⊢
    split at h
    · rename_i a c h1 h2
      split at h
      · rename_i x y h3 h4
        obtain ⟨x', y', k1, k2, k3⟩ := eqA_append h4
        simp only [Option.some.injEq] at h
        refine ⟨x && x', y', ?_, k2, by rw [← h, k3, Bool.and_assoc]⟩
        simp [h1, h2, h3, k1]
      · simp at h
    · simp at h
/-- What a part of a struct's cells is. -/
def partOf (P : Program) (t : TypeId) (vs : Array Value) (off : Nat) : Value → Prop := fun x =>
  match P.underlying t with
  | some (.struct _) => ∃ n, szOf P t = some n ∧ off + n ≤ vs.size ∧ x = .agg (vs.extract off (off + n))
  | _ => vs[off]? = some x
theorem eq_run {vs ws : Array Value} {cs ds : List AV} (h1 : RC E vs cs) (h2 : RC E ws ds) : ∀ (d : Nat) (t : TypeId) (off : Nat) (L : List (Nat × LK)) (b : Bool), leavesOf P d t off = some L → eqA cs ds L = some b → ∀ D, d ≤ D → ∀ x y, partOf P t vs off x → partOf P t ws off y →
    (Op.equalIn D t x y).run P E.w = .ok b E.w := by
  intro d
  induction d with
  | zero => intro t off L b hL; simp [leavesOf] at hL
  | succ d ih =>
    intro t off L b hL hb D hD x y hx hy
    obtain ⟨D, rfl⟩ : ∃ D', D = D' + 1 := ⟨D - 1, by omega⟩
    simp only [leavesOf] at hL
    have leaf : ∀ k, L = [(off, k)] → vs[off]? = some x → ws[off]? = some y → ∃ a c, cs[off]? = some a ∧ ds[off]? = some c ∧ eqV k a c = some b ∧ Rep E x a ∧ Rep E y c := by
      intro k hk hx hy
      subst hk
      simp only [eqA] at hb
      split at hb
      · rename_i a c e1 e2
        split at hb
        · rename_i u v e3 e4
          simp only [Option.some.injEq] at hb e4
          subst e4
          rw [Bool.and_true] at hb
          subst hb
          exact ⟨a, c, e1, e2, e3, h1.2 _ _ _ hx e1, h2.2 _ _ _ hy e2⟩
        · simp at hb
      · simp at hb
    split at hL
    · rename_i k hu
      simp only [Option.some.injEq] at hL
      simp only [partOf, hu] at hx hy
      obtain ⟨a, c, e1, e2, e3, e4, e5⟩ := leaf .int hL.symm hx hy
      unfold eqV at e3
      split at e3 <;> try (simp at e3; done)
      · rename_i k1 m1 k2 m2 _
        split at e3
        · rename_i hk; subst hk
          simp only [Option.some.injEq] at e3; subst e3
          cases e4; cases e5
          exact run_equalIn_int _ D t k1 k m1 m2 hu
        · simp at e3
      all_goals (rename_i hk; simp at hk)
    · rename_i hu
      simp only [Option.some.injEq] at hL
      simp only [partOf, hu] at hx hy
      obtain ⟨a, c, e1, e2, e3, e4, e5⟩ := leaf .str hL.symm hx hy
      unfold eqV at e3
      split at e3 <;> try (simp at e3; done)
      all_goals try (rename_i hk; simp at hk; done)
      simp only [Option.some.injEq] at e3; subst e3
      cases e4; cases e5
      rw [strEq_eq]
      exact run_equalIn_string _ D t _ _ hu
    · rename_i hu
      simp only [Option.some.injEq] at hL
      simp only [partOf, hu] at hx hy
      obtain ⟨a, c, e1, e2, e3, e4, e5⟩ := leaf .bool hL.symm hx hy
      unfold eqV at e3
      split at e3 <;> try (simp at e3; done)
      all_goals try (rename_i hk; simp at hk; done)
      simp only [Option.some.injEq] at e3; subst e3
      cases e4; cases e5
      exact run_equalIn_bool' _ D t _ _ hu
    · rename_i fs hu
      split at hL
      · simp at hL
      · rename_i hst
        split at hL
        · rename_i n hn
          simp only [partOf, hu] at hx hy
          obtain ⟨nx, hnx, hlx, rfl⟩ := hx
          obtain ⟨ny, hny, hly, rfl⟩ := hy
          obtain rfl : n = nx := by rw [hn] at hnx; simpa using hnx
          obtain rfl : n = ny := by rw [hn] at hny; simpa using hny
          have hfo : P.fieldsOf t = fs := by simp [Program.fieldsOf, hu]
          rw [run_equalIn_struct E.w D t _ _ (by rw [hfo]; exact hu) (by simpa using hst), hfo]
          clear hfo hst leaf hu
          generalize fs.toList = l at hL
          induction l generalizing L b with
          | nil =>
            simp only [leavesF, Option.some.injEq] at hL
            subst hL
            simp only [eqA, Option.some.injEq] at hb
            subst hb
            rfl
          | cons f l ihl =>
            simp only [leavesF] at hL
            split at hL
            · simp at hL
            · rename_i hname
              split at hL
              · rename_i k hk
                split at hL
                · rename_i hfit
                  split at hL
                  · rename_i La Lb ea eb
                    simp only [Option.some.injEq] at hL
                    subst hL
                    obtain ⟨xa, xb, m1, m2, rfl⟩ := eqA_append hb
                    have hp : ∀ (us : Array Value), off + n ≤ us.size → ∃ p, (part f.type (us.extract off (off + n)) f.offset).run P E.w = .ok p E.w ∧ partOf P f.type us (off + f.offset) p := by
                      intro us hus
                      have hsz := szOf_run hk E.w
                      cases hd : P.underlying f.type with
                      | none =>
                        exfalso
                        cases d with
                        | zero => simp [leavesOf] at ea
                        | succ d => simp [leavesOf, hd] at ea
                      | some desc =>
                        have scal : (isAgg f.type).run P E.w = .ok false E.w → (∀ fs', desc ≠ .struct fs') → 0 < k ∨ True → f.offset < n → ∃ p, (part f.type (us.extract off (off + n)) f.offset).run P E.w = .ok p E.w ∧ partOf P f.type us (off + f.offset) p := by
                          intro hag hne _ hlt
                          have hg : (us.extract off (off + n))[f.offset]? = us[off + f.offset]? := by
                            rw [Array.getElem?_extract]
                            simp; omega
                          have hlt2 : off + f.offset < us.size := by omega
                          refine ⟨us[off + f.offset], ?_, ?_⟩
                          · simp [part, hag, hg, Array.getElem?_eq_getElem hlt2]
                          · simp only [partOf, hd]
                            cases desc <;> first | exact Array.getElem?_eq_getElem hlt2 | exact absurd rfl (hne _)
                        cases desc with
                        | struct fs' =>
                          refine ⟨_, by simp [part, isAgg, run_underlying hd, hsz]; rfl, ?_⟩
                          simp only [partOf, hd]
                          refine ⟨k, hk, by omega, ?_⟩
                          congr 1
                          apply Array.ext_getElem?
                          intro i
                          simp only [Array.getElem?_extract]
                          by_cases hi : i < k
                          · rw [if_pos (by omega), if_pos (by omega)]
                            try rw [if_pos (by omega)]
                            try (congr 1; omega)
                          · rw [if_neg (by omega), if_neg (by omega)]
                        | int _ => exact scal (by simp [isAgg, run_underlying hd]) (fun fs' h => by cases h) (.inr trivial) hfit.2
                        | string => exact scal (by simp [isAgg, run_underlying hd]) (fun fs' h => by cases h) (.inr trivial) hfit.2
                        | bool => exact scal (by simp [isAgg, run_underlying hd]) (fun fs' h => by cases h) (.inr trivial) hfit.2
                        | _ =>
                          exfalso
                          cases d with
                          | zero => simp [leavesOf] at ea
                          | succ d => simp [leavesOf, hd] at ea
                    obtain ⟨p1, r1, q1⟩ := hp vs hlx
                    obtain ⟨p2, r2, q2⟩ := hp ws hly
                    have hrec := ih f.type (off + f.offset) La xa ea m1 D (by omega) p1 p2 q1 q2
                    have hrest := ihl Lb xb m2 eb
                    simp only [Op.eqFields]
                    rw [if_pos hname]
                    simp only [Sem.run_bind, r1, r2, hrec, Result.andThen_ok, Sem.run_ite]
                    cases xa
                    · simp
                    · simp [hrest]
                  · simp at hL
                · simp at hL
              · simp at hL
        · simp at hL
    · simp at hL
theorem eqsOK (hm : MemAt E J base g) {neg : Bool} {op : BinOp} (hop : op = if neg then .neq else .eql) {t : TypeId} {n : Nat} {L : List (Nat × LK)} {fs : Array Field} (hu : P.underlying t = some (.struct fs)) (hn : szOf P t = some n) (hg : P.eqGuardType P.depth t = false) (hL : leavesOf P 8 t 0 = some L) {vx vy : Value} {xo yo : Operand} {x y : Arg} (hvx : Rep E vx (ρ x)) (hvy : Rep E vy (ρ y))
    {val : AV} {ups : List (Nat × Option Bk)} (h : ((AO.eqs neg n L x y).sem fresh ρ).run g = some (.done val ups)) :
    OpOK E J base g ((do pure (Next.value (← (do eqGuard op t xo yo vx vy; binOp op t vx vy : Sem Value))) : Sem Next).run P E.w) val ups := by
  simp only [AO.sem] at h
  split at h
  · rename_i cs ds h1 h2
    split at h
    case isFalse => simp [RM.run] at h
    rename_i hlen
    cases hb : eqA cs ds L with
    | none => simp [hb, RM.opt, RM.run] at h
    | some b =>
      simp [hb, RM.opt, RM.run] at h
      obtain ⟨rfl, rfl⟩ := h
      have s1 : szOf P t = some cs.length := by rw [hlen.1]; exact hn
      have s2 : szOf P t = some ds.length := by rw [hlen.2]; exact hn
      rw [h1] at hvx; rw [h2] at hvy
      cases hvx with
      | @agg xs _ l1 r1 => cases hvy with
        | @agg ys _ l2 r2 =>
          have hrun := eq_run (P := P) (E := E) ⟨l1, r1⟩ ⟨l2, r2⟩ 8 t 0 L b hL hb 10000 (by omega) (.agg xs) (.agg ys) (by
            simp only [partOf, hu]; refine ⟨_, s1, by omega, ?_⟩; congr 1; rw [Nat.zero_add, ← l1]; simp) (by
            simp only [partOf, hu]; refine ⟨_, s2, by omega, ?_⟩; congr 1; rw [Nat.zero_add, ← l2]; simp)
          cases neg with
          | false =>
            simp only [Bool.false_eq_true, if_false] at hop ⊢
            subst hop
            refine pureOK hm (v := .bool b) ?_ (.v rfl)
            simp [run_eqGuard_agg E.w _ t xo yo xs ys hg, run_eql_struct, hrun]
          | true =>
            simp only [if_true] at hop ⊢
            subst hop
            refine pureOK hm (v := .bool (!b)) ?_ (.v rfl)
            simp [run_eqGuard_agg E.w _ t xo yo xs ys hg, run_neq_struct, hrun]
  · simp [RM.run] at h
theorem slsOK (ha : Args E ρv ρ) (hm : MemAt E J base g) {t : TypeId} (hu : P.underlying t = some .string) {x : Operand} {ax : Arg} (hx : cArg x = some ax) {lo hi : Option Operand} {alo ahi : Option Arg} (h1 : cOptArg lo = some alo) (h2 : cOptArg hi = some ahi)
    {val : AV} {ups : List (Nat × Option Bk)} (h : ((AO.sls ax alo ahi).sem fresh ρ).run g = some (.done val ups)) :
    OpOK E J base g ((do pure (Next.value (← Instr.sliceAt t (ρv x) (lo.map ρv) (hi.map ρv) none)) : Sem Next).run P E.w) val ups := by
  have hv := ha x ax hx
  simp only [AO.sem] at h
  split at h
  · rename_i nlo nhi s k1 k2 hx'
    cases hb : bounds s.size nlo nhi with
    | none => simp [hb, RM.opt, RM.run] at h
    | some b =>
      simp [hb, RM.opt, RM.run] at h
      obtain ⟨rfl, rfl⟩ := h
      rw [hx'] at hv
      have hvx : ρv x = .string s := by
        obtain ⟨vv, hvv⟩ : ∃ vv, vv = ρv x := ⟨_, rfl⟩
        rw [← hvv] at hv ⊢
        cases hv with | v => rfl
      have hbr := bounds_run (P := P) (E := E) (isS := false) (mx := none) (amx := none) (nmx := none) ha (Nat.le_refl s.size) h1 h2 rfl k1 k2 rfl (by simp) hb (fun m hm => by simp at hm)
      simp only [Option.map_none, Option.getD_none] at hbr
      refine pureOK hm (v := .string (s.extract b.1 b.2)) ?_ (.v rfl)
      simp [hvx, Instr.sliceAt, Instr.slice, run_underlying hu, hbr]
  · simp [RM.run] at h
theorem sixOK (hm : MemAt E J base g) {t : TypeId} (hu : P.underlying t = some .string) {v vi : Value} {x i : Arg} (hv : Rep E v (ρ x)) (hvi : Rep E vi (ρ i))
    {val : AV} {ups : List (Nat × Option Bk)} (h : ((AO.six x i).sem fresh ρ).run g = some (.done val ups)) :
    OpOK E J base g ((do pure (Next.value (← Instr.index t v vi)) : Sem Next).run P E.w) val ups := by
  simp only [AO.sem] at h
  split at h
  · rename_i s n hx hn
    cases hb : s[n]? with
    | none => simp [hb, RM.opt, RM.run] at h
    | some b =>
      simp [hb, RM.opt, RM.run] at h
      obtain ⟨rfl, rfl⟩ := h
      obtain ⟨k, rfl⟩ := natOf_rep hvi hn
      rw [hx] at hv
      cases hv with
      | v hp =>
        refine pureOK hm (v := .int .u8 b.toNat) ?_ (.v rfl)
        simp [Instr.index, asIntOf, run_underlying hu, hb]
  · simp [RM.run] at h
theorem resolve_value {f : FuncId} {caps : Array Value} {c : Call} {x : Operand} {ty : TypeId} (hc : c.callee = .value x) (hx : ρv x = .func (.func f) #[] caps) (w : World) :
    (do let d ← resolve ρv c ty; invoke d.target d.args : Sem Next).run P w = (callFunc f (c.args.map ρv ++ caps)).run P w := by
  simp [resolve, hc, hx, Deferred.ofValue, invoke]
theorem resolve_bound {f : FuncId} {first : Array Value} {c : Call} {x : Operand} {ty : TypeId} (hc : c.callee = .value x) (hx : ρv x = .func (.func f) first #[]) (w : World) :
    (do let d ← resolve ρv c ty; invoke d.target d.args : Sem Next).run P w = (callFunc f (first ++ c.args.map ρv)).run P w := by
  simp [resolve, hc, hx, Deferred.ofValue, invoke]
def callable (P : Program) (f : FuncId) : Bool :=
  match P.funcs[f]? with
  | some fn => fn.body.isSome && fn.name != "runtime.NumGoroutine"
  | none => false
theorem callFunc_run {f : FuncId} (h : callable P f = true) (args : Array Value) (w : World) : (callFunc f args).run P w = .ok (.enter f args) w := by
  unfold callable at h
  cases hf : P.funcs[f]? with
  | none => simp [hf] at h
  | some fn =>
    simp only [hf, Bool.and_eq_true, bne_iff_ne, ne_eq] at h
    have hb : fn.body.isNone = false := by cases hbb : fn.body <;> simp [hbb] at h ⊢
    simp only [callFunc, Sem.run_bind, run_program, Result.andThen_ok, hf, hb, Bool.false_eq_true, if_false]
    rw [if_neg (by simpa using h.2)]
    rfl
theorem Rep.v_inv {v a : Value} (h : Rep E v (.v a)) : v = a := by cases h; rfl
theorem optSome {x : Option Operand} {ax : Option Arg} (h : cOptArg x = some ax) : ax.isSome = x.isSome := by
  cases x with
  | none => simp [cOptArg] at h; subst h; rfl
  | some o =>
    simp only [cOptArg] at h
    cases hc : cArg o <;> simp [hc] at h
    subst h; rfl
theorem noCall {ao : AO} (hn : ∀ x args, ao ≠ .call x args) {f : FuncId} {as : List AV} : (ao.sem fresh ρ).run g ≠ some (.call f as) := by
  intro h
  have nodone : ∀ {α : Type} (m : Option α) (k : α → Out), (∀ a, ∀ f as, k a ≠ .call f as) → ∀ f as, RM.run g (RM.opt (m.map k)) = some (.call f as) → False := by
    intro α m k hk f as hh
    cases m with
    | none => simp [RM.opt, RM.run] at hh
    | some a => simp [RM.opt, RM.run] at hh; exact hk a _ _ hh
  have nobind : ∀ {α β : Type} (m : Option α) (k : α → Option β) (k2 : β → Out), (∀ a, ∀ f as, k2 a ≠ .call f as) → ∀ f as, RM.run g (RM.opt (m.bind fun x => (k x).map k2)) = some (.call f as) → False := by
    intro α β m k k2 hk f as hh
    cases m with
    | none => simp [RM.opt, RM.run] at hh
    | some a => simp only [Option.bind_some] at hh; exact nodone _ _ hk _ _ hh
  cases ao with
  | call x args => exact hn x args rfl
  | app sz bytes s x =>
    simp only [AO.sem] at h
    obtain ⟨ys, _, h⟩ := bind_run h
    split at h
    · split at h <;> simp [RM.run] at h
    · split at h <;> simp [RM.run] at h
    · simp only [RM.run] at h
      split at h
      · split at h
        · simp [RM.run] at h
        · split at h <;> simp [RM.run] at h
      · simp at h
    · simp [RM.run] at h
  | clr zs x =>
    simp only [AO.sem] at h
    split at h
    · simp [RM.run] at h
    · simp only [RM.run] at h
      split at h
      · split at h <;> simp [RM.run] at h
      · simp at h
    · simp [RM.run] at h
  | cpy sz x y =>
    simp only [AO.sem] at h
    obtain ⟨ys, _, h⟩ := bind_run h
    split at h
    · simp only [RM.run] at h
      split at h
      · split at h <;> simp [RM.run] at h
      · simp at h
    · simp [RM.run] at h
  | slc sz x lo hi mx =>
    simp only [AO.sem] at h
    split at h
    · split at h
      · split at h
        · exact nobind _ _ _ (by simp) _ _ h
        · simp [RM.run] at h
      · split at h
        · exact nobind _ _ _ (by simp) _ _ h
        · simp [RM.run] at h
      · generalize bounds 0 _ _ = bb at h
        cases bb with
        | none => simp [RM.opt, RM.run] at h
        | some b =>
          simp only [Option.bind_some] at h
          split at h <;> simp [RM.opt, RM.run] at h
      · obtain ⟨B, _, h⟩ := lv_run h
        split at h
        · split at h
          · split at h
            · simp [RM.run] at h
            · simp only [RM.run] at h
              split at h
              · split at h
                · exact nodone _ _ (by simp) _ _ h
                · simp [RM.run] at h
              · simp at h
            · simp [RM.run] at h
          · simp [RM.run] at h
        · simp only [RM.run] at h
          split at h
          · split at h
            · generalize bounds _ _ _ = bb at h
              cases bb with
              | none => simp [RM.opt, RM.run] at h
              | some b =>
                simp only [Option.bind_some] at h
                split at h <;> simp [RM.opt, RM.run] at h
            · simp [RM.run] at h
          · simp at h
      · simp [RM.run] at h
    · simp [RM.run] at h
  | mup kd x k y =>
    simp only [AO.sem] at h
    split at h
    · simp only [RM.run] at h
      split at h
      · split at h
        · split at h <;> simp [RM.run] at h
        · simp [RM.run] at h
      · simp at h
    · simp [RM.run] at h
  | mlk kd z x k =>
    simp only [AO.sem] at h
    split at h
    · simp only [RM.run] at h
      split at h
      · split at h
        · exact nodone _ _ (by simp) _ _ h
        · simp [RM.run] at h
      · simp at h
    · simp [RM.run] at h
  | isn kd b x => cases kd <;> simp only [AO.sem] at h <;> split at h <;> first | (simp [RM.run] at h; done) | (obtain ⟨B, _, h⟩ := lv_run h; simp [RM.run] at h)
  | len b x => cases b <;> simp only [AO.sem] at h <;> split at h <;> first | (simp [RM.run] at h; done) | (obtain ⟨B, _, h⟩ := lv_run h; simp [RM.run] at h)
  | _ =>
    simp only [AO.sem] at h
    first
    | (simp [RM.run] at h; done)
    | exact nodone _ _ (by simp) _ _ h
    | (split at h <;> first
        | (simp [RM.run] at h; done)
        | exact nodone _ _ (by simp) _ _ h
        | (obtain ⟨B, _, h⟩ := lv_run h; simp [RM.run] at h; done)
        | (split at h <;> first
            | (simp [RM.run] at h; done)
            | exact nodone _ _ (by simp) _ _ h
            | (obtain ⟨B, _, h⟩ := lv_run h; simp [RM.run] at h; done))
        | (simp only [RM.run] at h; split at h <;> first
            | (simp at h; done)
            | (split at h <;> first
                | (simp [RM.run] at h; done)
                | exact nodone _ _ (by simp) _ _ h
                | (split at h <;> simp [RM.run] at h))))
theorem cOp_call {o : Oper} {x : Arg} {args : List Arg} (hc : cOp P o = some (.call x args)) : ∃ c y, o.op = .call c ∧ c.callee = .value y ∧ cArg y = some x ∧ cArgs c.args.toList = some args := by
  obtain ⟨dst, op, type, pos, after, guard⟩ := o
  cases op with
  | call c =>
    simp only [cOp] at hc
    split at hc
    · rename_i y hy
      split at hc
      · rename_i ax al h1 h2
        simp only [Option.some.injEq, AO.call.injEq] at hc
        obtain ⟨rfl, rfl⟩ := hc
        exact ⟨c, y, rfl, hy, h1, h2⟩
      · simp at hc
    all_goals exfalso
    all_goals (repeat' (first | (simp at hc; done) | split at hc))
  | makeFunc fn first caps =>
    exfalso
    cases fn <;> simp only [cOp] at hc
    all_goals (repeat' (first | (simp at hc; done) | split at hc))
  | mapUpdate t m k y =>
    exfalso
    simp only [cOp] at hc
    split at hc
    · cases hk : keyT P _ with
      | none => rw [hk] at hc; simp at hc
      | some kd => rw [hk] at hc; simp at hc
    · simp at hc
  | insert t m k y =>
    exfalso
    simp only [cOp] at hc
    split at hc
    · cases hk : keyT P _ with
      | none => rw [hk] at hc; simp at hc
      | some kd => rw [hk] at hc; simp at hc
    · simp at hc
  | _ =>
    exfalso
    simp only [cOp] at hc
    all_goals (repeat' (first | (simp at hc; done) | split at hc))
/-- A call: whom, and with what. -/
theorem call_sound (ha : Args E ρv ρ) {o : Oper} {ao : AO} (hc : cOp P o = some ao) {f : FuncId} {as : List AV} (h : (ao.sem fresh ρ).run g = some (.call f as)) (hf : callable P f = true) :
    ∃ vs, (execOp ρv o).run P E.w = .ok (.enter f vs) E.w ∧ RC E vs as := by
  by_cases hn : ∀ x args, ao ≠ .call x args
  · exact absurd h (noCall hn)
  · obtain ⟨x, args, rfl⟩ : ∃ x args, ao = .call x args := by
      simp only [ne_eq] at hn
      cases ao <;> first | exact ⟨_, _, rfl⟩ | (exfalso; exact hn (by simp))
    obtain ⟨c, y, h1, h2, h3, h4⟩ := cOp_call hc
    simp only [AO.sem] at h
    split at h
    · rename_i f' caps hx
      simp only [RM.run, Option.some.injEq, Out.call.injEq] at h
      obtain ⟨rfl, rfl⟩ := h
      have hv := ha y x h3
      rw [hx] at hv
      obtain ⟨vv, hvv⟩ : ∃ vv, vv = ρv y := ⟨_, rfl⟩
      rw [← hvv] at hv
      cases hv with
      | @fn _ us _ hl hr =>
        obtain ⟨al, ar⟩ := ha.list h4
        refine ⟨c.args.map ρv ++ us, ?_, ?_⟩
        · unfold execOp
          simp only [h1]
          exact (resolve_value (caps := us) h2 hvv.symm E.w).trans (callFunc_run hf _ _)
        · refine ⟨by simp [hl]; rw [← al]; simp, fun j u a hu hc' => ?_⟩
          have hcl : (c.args.map ρv).size = args.length := by rw [← al]; simp
          by_cases hj : j < args.length
          · rw [Array.getElem?_append_left (by omega)] at hu
            rw [List.getElem?_append_left (by simpa using hj)] at hc'
            exact ar j u a (by simpa using hu) hc'
          · rw [Array.getElem?_append_right (by omega), hcl] at hu
            rw [List.getElem?_append_right (by simpa using hj)] at hc'
            simp only [List.length_map] at hc'
            exact hr _ u a hu hc'
    · rename_i f' caps hx
      simp only [RM.run, Option.some.injEq, Out.call.injEq] at h
      obtain ⟨rfl, rfl⟩ := h
      have hv := ha y x h3
      rw [hx] at hv
      obtain ⟨vv, hvv⟩ : ∃ vv, vv = ρv y := ⟨_, rfl⟩
      rw [← hvv] at hv
      cases hv with
      | @bf _ us _ hl hr =>
        obtain ⟨al, ar⟩ := ha.list h4
        refine ⟨us ++ c.args.map ρv, ?_, ?_⟩
        · unfold execOp
          simp only [h1]
          exact (resolve_bound (first := us) h2 hvv.symm E.w).trans (callFunc_run hf _ _)
        · refine ⟨by simp [hl]; rw [← al]; simp, fun j u a hu hc' => ?_⟩
          by_cases hj : j < us.size
          · rw [Array.getElem?_append_left hj] at hu
            rw [List.getElem?_append_left (by omega)] at hc'
            exact hr _ u a hu hc'
          · rw [Array.getElem?_append_right (by omega)] at hu
            rw [List.getElem?_append_right (by omega), ← hl] at hc'
            exact ar _ u a (by simpa using hu) hc'
    · simp [RM.run] at h
/-- Every operation that is none of a call. -/
theorem negOf_op {op : BinOp} {n : Bool} (h : negOf op = some n) : op = if n then .neq else .eql := by
  cases op <;> cases h <;> rfl
theorem equal_nil_slice {t e : TypeId} (hu : P.underlying t = some (.slice e)) (A : Option Addr) (n c : Nat) (w : World) : (Op.equal t (.slice A n c) (.slice none 0 0)).run P w = .ok A.isNone w := by
  show (Op.equalIn (9999 + 1) t _ _).run P w = _
  unfold Op.equalIn
  cases A <;> simp [run_underlying hu]
theorem equal_nil_ptr {t e : TypeId} (hu : P.underlying t = some (.pointer e)) (A : Option Addr) (w : World) : (Op.equal t (.pointer A) (.pointer none)).run P w = .ok A.isNone w := by
  show (Op.equalIn (9999 + 1) t _ _).run P w = _
  unfold Op.equalIn
  cases A <;> simp [run_underlying hu]
theorem equal_nil_fn {t : TypeId} {a1 a2 a3} (hu : P.underlying t = some (.func a1 a2 a3)) (f : Go.Fn) (x y : Array Value) (w : World) : (Op.equal t (.func f x y) .nilFunc).run P w = .ok false w := by
  show (Op.equalIn (9999 + 1) t _ _).run P w = _
  unfold Op.equalIn
  simp [run_underlying hu]
theorem equal_nil_fn0 {t : TypeId} {a1 a2 a3} (hu : P.underlying t = some (.func a1 a2 a3)) (w : World) : (Op.equal t .nilFunc .nilFunc).run P w = .ok true w := by
  show (Op.equalIn (9999 + 1) t _ _).run P w = _
  unfold Op.equalIn
  simp [run_underlying hu]
theorem isnOK (hm : MemAt E J base g) (hcst : ∀ v, ρv (.const v) = v) {op : BinOp} {t : TypeId} {xo y : Operand} {q : NK × Bool} (hn : nilC P t op y = some q) {x : Arg} (hv : Rep E (ρv xo) (ρ x)) {val : AV} {ups : List (Nat × Option Bk)}
    (h : ((AO.isn q.1 q.2 x).sem fresh ρ).run g = some (.done val ups)) : OpOK E J base g ((do pure (Next.value (← (do eqGuard op t xo y (ρv xo) (ρv y); binOp op t (ρv xo) (ρv y)))) : Sem Next).run P E.w) val ups := by
  obtain ⟨vx, hvx⟩ : ∃ vx, vx = ρv xo := ⟨_, rfl⟩
  rw [← hvx] at hv ⊢
  unfold nilC at hn
  split at hn
  · -- slices
    rename_i e hu
    rw [hcst]
    cases hng : negOf op with
    | none => simp [hng] at hn
    | some neg =>
      simp only [hng, Option.map_some, Option.some.injEq] at hn
      subst hn
      have hop := negOf_op hng
      have run : ∀ A n c, vx = .slice A n c → (do pure (Next.value (← (do eqGuard op t xo (.const (.slice none 0 0)) vx (.slice none 0 0); binOp op t vx (.slice none 0 0)))) : Sem Next).run P E.w = .ok (.value (.bool (A.isNone != neg))) E.w := by
        rintro A n c rfl
        cases neg <;> simp only [if_true, Bool.false_eq_true, if_false] at hop <;> subst hop <;> cases A <;> simp [eqGuard, binOp, equal_nil_slice hu]
      have some' : ∀ A n c, vx = .slice (some A) n c → ∀ {v}, v = AV.v (.bool neg) → OpOK E J base g ((do pure (Next.value (← (do eqGuard op t xo (.const (.slice none 0 0)) vx (.slice none 0 0); binOp op t vx (.slice none 0 0)))) : Sem Next).run P E.w) v [] := by
        intro A n c hA v hv
        subst hv
        refine pureOK hm (v := .bool neg) ?_ (.v rfl)
        rw [run _ _ _ hA]; cases neg <;> rfl
      have any' : ∀ A n c, vx = .slice A n c → OpOK E J base g ((do pure (Next.value (← (do eqGuard op t xo (.const (.slice none 0 0)) vx (.slice none 0 0); binOp op t vx (.slice none 0 0)))) : Sem Next).run P E.w) .anyb [] := by
        intro A n c hA
        exact pureOK hm (v := .bool (A.isNone != neg)) (run _ _ _ hA) .anyb
      have lst : ∀ sz els, Rep E vx (.lst sz els) → val = (if els.isEmpty = true then .anyb else .v (.bool neg)) → ups = [] → OpOK E J base g ((do pure (Next.value (← (do eqGuard op t xo (.const (.slice none 0 0)) vx (.slice none 0 0); binOp op t vx (.slice none 0 0)))) : Sem Next).run P E.w) val ups := by
        rintro sz els hr rfl rfl
        cases hr with
        | lst0 hc => exact any' _ _ _ rfl
        | lst1 u hn hl hc =>
          by_cases he : els.isEmpty = true
          · rw [if_pos he]; exact any' _ _ _ rfl
          · rw [if_neg he]; exact some' _ _ _ rfl rfl
      simp only [AO.sem] at h
      split at h
      · rename_i sz els hx
        simp only [RM.run, Option.some.injEq, Out.done.injEq] at h
        rw [hx] at hv
        exact lst sz els hv h.1.symm h.2.symm
      · rename_i sz els hx
        simp only [RM.run, Option.some.injEq, Out.done.injEq] at h
        rw [hx] at hv
        cases hv with
        | tls hv => exact lst sz els hv h.1.symm h.2.symm
      · rename_i hx
        simp only [RM.run, Option.some.injEq, Out.done.injEq] at h
        obtain ⟨rfl, rfl⟩ := h
        rw [hx] at hv
        cases hv with
        | emp => exact any' _ _ _ rfl
      · rename_i id sz off n hx
        obtain ⟨B, hB, h⟩ := lv_run h
        simp only [RM.run, Option.some.injEq, Out.done.injEq] at h
        obtain ⟨rfl, rfl⟩ := h
        rw [hx] at hv
        cases hv with
        | own hi hd hb hq hs hmm hl hc =>
          by_cases h0 : n = 0
          · rw [if_pos h0]; exact any' _ _ _ rfl
          · rw [if_neg h0]; exact some' _ _ _ rfl rfl
        | own0 hi hd hb => rw [if_pos rfl]; exact any' _ _ _ rfl
        | staleO hi hd => exact absurd hd (alive hm hB)
      · simp [RM.run] at h
  · -- functions
    rename_i a1 a2 a3 hu
    rw [hcst]
    cases hng : negOf op with
    | none => simp [hng] at hn
    | some neg =>
      simp only [hng, Option.map_some, Option.some.injEq] at hn
      subst hn
      have hop := negOf_op hng
      simp only [AO.sem] at h
      split at h
      · rename_i f cs hx
        simp only [RM.run, Option.some.injEq, Out.done.injEq] at h
        obtain ⟨rfl, rfl⟩ := h
        rw [hx] at hv
        cases hv with
        | fn hl hh =>
          refine pureOK hm (v := .bool neg) ?_ (.v rfl)
          cases neg <;> simp only [if_true, Bool.false_eq_true, if_false] at hop <;> subst hop <;> simp [eqGuard, binOp, equal_nil_fn hu, equal_nil_fn0 hu]
      · rename_i f cs hx
        simp only [RM.run, Option.some.injEq, Out.done.injEq] at h
        obtain ⟨rfl, rfl⟩ := h
        rw [hx] at hv
        cases hv with
        | bf hl hh =>
          refine pureOK hm (v := .bool neg) ?_ (.v rfl)
          cases neg <;> simp only [if_true, Bool.false_eq_true, if_false] at hop <;> subst hop <;> simp [eqGuard, binOp, equal_nil_fn hu, equal_nil_fn0 hu]
      · rename_i hx
        simp only [RM.run, Option.some.injEq, Out.done.injEq] at h
        obtain ⟨rfl, rfl⟩ := h
        rw [hx] at hv
        have := hv.v_inv
        subst this
        refine pureOK hm (v := .bool !neg) ?_ (.v rfl)
        cases neg <;> simp only [if_true, Bool.false_eq_true, if_false] at hop <;> subst hop <;> simp [eqGuard, binOp, equal_nil_fn hu, equal_nil_fn0 hu]
      · simp [RM.run] at h
  · -- addresses
    rename_i e hu
    rw [hcst]
    cases hng : negOf op with
    | none => simp [hng] at hn
    | some neg =>
      simp only [hng, Option.map_some, Option.some.injEq] at hn
      subst hn
      have hop := negOf_op hng
      have run : ∀ A, vx = .pointer A → (do pure (Next.value (← (do eqGuard op t xo (.const (.pointer none)) vx (.pointer none); binOp op t vx (.pointer none)))) : Sem Next).run P E.w = .ok (.value (.bool (A.isNone != neg))) E.w := by
        rintro A rfl
        cases neg <;> simp only [if_true, Bool.false_eq_true, if_false] at hop <;> subst hop <;> cases A <;> simp [eqGuard, binOp, equal_nil_ptr hu]
      simp only [AO.sem] at h
      split at h
      · rename_i id sz i o hx
        obtain ⟨B, hB, h⟩ := lv_run h
        simp only [RM.run, Option.some.injEq, Out.done.injEq] at h
        obtain ⟨rfl, rfl⟩ := h
        rw [hx] at hv
        cases hv with
        | ref hi hd hb hq =>
          refine pureOK hm (v := .bool neg) ?_ (.v rfl)
          rw [run _ rfl]; cases neg <;> rfl
        | staleR hi hd => exact absurd hd (alive hm hB)
      · rename_i cs o hx
        simp only [RM.run, Option.some.injEq, Out.done.injEq] at h
        obtain ⟨rfl, rfl⟩ := h
        rw [hx] at hv
        cases hv with
        | pim u hb hq hu2 hr1 hr =>
          refine pureOK hm (v := .bool neg) ?_ (.v rfl)
          rw [run _ rfl]; cases neg <;> rfl
      · rename_i hx
        simp only [RM.run, Option.some.injEq, Out.done.injEq] at h
        obtain ⟨rfl, rfl⟩ := h
        rw [hx] at hv
        have := hv.v_inv
        refine pureOK hm (v := .bool !neg) ?_ (.v rfl)
        rw [run _ this]; cases neg <;> rfl
      · simp [RM.run] at h
  · simp at hn
theorem op_sound (ha : Args E ρv ρ) (hcst : ∀ v, ρv (.const v) = v) (hm : MemAt E J base g) (hf : ¬ E.kn fresh) {o : Oper} {ao : AO} (hc : cOp P o = some ao) {val : AV} {ups : List (Nat × Option Bk)} (h : (ao.sem fresh ρ).run g = some (.done val ups)) :
    OpOK E J base g ((execOp ρv o).run P E.w) val ups := by
  obtain ⟨dst, op, type, pos, after, guard⟩ := o
  have omap : ∀ {α β : Type} {m : Option α} {k : α → β} {y : β}, m.map k = some y → ∃ x, m = some x ∧ k x = y := by
    intro α β m k y h
    cases m with
    | none => simp at h
    | some a => exact ⟨a, rfl, by simpa using h⟩
  have mov : ∀ x ax, cArg x = some ax → ((AO.mov ax).sem fresh ρ).run g = some (.done val ups) → ∀ r, r = .ok (.value (ρv x)) E.w → OpOK E J base g r val ups := by
    intro x ax h1 h2 r hr
    simp only [AO.sem, RM.run, Option.some.injEq, Out.done.injEq] at h2
    obtain ⟨rfl, rfl⟩ := h2
    exact pureOK hm hr (ha x ax h1)
  cases op with
  | move x => simp only [cOp] at hc; obtain ⟨ax, h1, rfl⟩ := omap hc; exact mov x ax h1 h _ rfl
  | assign x => simp only [cOp] at hc; obtain ⟨ax, h1, rfl⟩ := omap hc; exact mov x ax h1 h _ rfl
  | pick c a b =>
    simp only [cOp] at hc
    split at hc
    · rename_i ac aa ab h1 h2 h3
      simp only [Option.some.injEq] at hc; subst hc
      simp only [AO.sem] at h
      split at h
      · rename_i t ht
        simp only [RM.run, Option.some.injEq, Out.done.injEq] at h
        obtain ⟨rfl, rfl⟩ := h
        have hv := ha c ac h1
        rw [ht] at hv
        obtain ⟨vv, hvv⟩ : ∃ vv, vv = ρv c := ⟨_, rfl⟩
        rw [← hvv] at hv
        cases hv with
        | v hp =>
          refine pureOK hm (v := if t then ρv a else ρv b) ?_ ?_
          · unfold execOp
            simp only [← hvv]
            cases t <;> simp [asBool]
          · cases t
            · exact ha b ab h3
            · exact ha a aa h2
      · simp [RM.run] at h
    · simp at hc
  | alloc t =>
    simp only [cOp] at hc
    split at hc
    · rename_i zs h1
      split at hc
      · rename_i hz0
        simp only [Option.some.injEq] at hc; subst hc
        simp only [AO.sem, RM.run, Option.some.injEq, Out.done.injEq] at h
        obtain ⟨rfl, rfl⟩ := h
        exact newOK hm hf h1 hz0
      · simp at hc
    · simp at hc
  | panic x =>
    simp only [cOp, Option.some.injEq] at hc
    subst hc
    simp [AO.sem, RM.run] at h
  | makeInterface t x =>
    simp only [cOp, Option.some.injEq] at hc
    subst hc
    simp [AO.sem, RM.run] at h
  | makeMap t r =>
    simp only [cOp] at hc
    split at hc
    · rename_i kt et h1
      simp only [Option.some.injEq] at hc; subst hc
      simp only [AO.sem, RM.run, Option.some.injEq, Out.done.injEq] at h
      obtain ⟨rfl, rfl⟩ := h
      exact mkmOK hm hf h1 (.inl rfl)
    · rename_i kt et k n h1
      simp only [Option.some.injEq] at hc; subst hc
      simp only [AO.sem, RM.run, Option.some.injEq, Out.done.injEq] at h
      obtain ⟨rfl, rfl⟩ := h
      have := mkmOK (P := P) (r := some (ρv (.const (.int k n)))) hm hf h1 (.inr ⟨k, n, by rw [hcst]⟩)
      exact this
    · simp at hc
  | mapUpdate t x k y =>
    simp only [cOp] at hc
    split at hc
    · rename_i kt et ax ak ay h1 h2 h3 h4
      obtain ⟨kd, h5, rfl⟩ := omap hc
      exact mupOK hm h1 h5 (ha x ax h2) (ha k ak h3) (ha y ay h4) h
    · simp at hc
  | insert t x k y =>
    simp only [cOp] at hc
    split at hc
    · rename_i kt et ax ak ay h1 h2 h3 h4
      obtain ⟨kd, h5, rfl⟩ := omap hc
      exact mupOK hm h1 h5 (ha x ax h2) (ha k ak h3) (ha y ay h4) h
    · simp at hc
  | lookup t x k ok =>
    simp only [cOp] at hc
    split at hc
    · rename_i kt et ax ak h1 h2 h3
      split at hc
      · rename_i hok
        subst hok
        split at hc
        · rename_i z kd h4 h5
          simp only [Option.some.injEq] at hc; subst hc
          exact mlkOK hm h1 h5 h4 (ha x ax h2) (ha k ak h3) h
        · simp at hc
      · simp at hc
    · simp at hc
  | box t x =>
    simp only [cOp] at hc
    split at hc
    · rename_i n ax h1 h2
      split at hc
      · rename_i hz0
        simp only [Option.some.injEq] at hc; subst hc
        simp only [AO.sem] at h
        split at h
        · rename_i hcond
          simp only [RM.run, Option.some.injEq, Out.done.injEq] at h
          obtain ⟨rfl, rfl⟩ := h
          exact boxOK hm hf (ha x ax h2) hcond.1 hcond.2 hz0
        · simp [RM.run] at h
      · simp at hc
    · simp at hc
  | build t parts =>
    simp only [cOp] at hc
    split at hc
    · rename_i zs fields h1 h2
      split at hc
      · rename_i places h3
        obtain ⟨as, h4, rfl⟩ := omap hc
        refine aggOK ha hm h1 h4 (fun z i hi hz ps => ?_) h
        unfold placesOf at h3
        simp only [Program.built, hi, h2, hz, h3]
      · simp at hc
    · rename_i zs k e h1 h2
      split at hc
      · rename_i sz h3
        obtain ⟨as, h4, rfl⟩ := omap hc
        refine aggOK ha hm h1 h4 (fun z i hi hz ps => ?_) h
        unfold szOf at h3
        obtain ⟨ie, hie, hs⟩ := omap h3
        simp only [Program.built, hi, h2, hz, hie, hs]
      · simp at hc
    · simp at hc
  | buildSlice t len parts =>
    simp only [cOp] at hc
    split at hc
    · rename_i e h1
      split at hc
      · rename_i zs h2
        split at hc
        · rename_i hcond
          obtain ⟨as, h3, rfl⟩ := omap hc
          exact bslOK ha hm hf h1 h2 hcond.1 hcond.2 h3 h
        · simp at hc
      · simp at hc
    · simp at hc
  | load t x =>
    simp only [cOp] at hc
    split at hc
    · rename_i m ax h1 h2
      simp only [Option.some.injEq] at hc; subst hc
      exact loadOK hm h1 (ha x ax h2) h
    · simp at hc
  | store t x y =>
    simp only [cOp] at hc
    split at hc
    · rename_i n ax ay h1 h2 h3
      simp only [Option.some.injEq] at hc; subst hc
      exact storeOK hm h1 (ha x ax h2) (ha y ay h3) h
    · simp at hc
  | nilCheck x => simp only [cOp] at hc; obtain ⟨ax, h1, rfl⟩ := omap hc; exact nilcOK hm (ha x ax h1) rfl rfl h
  | binOp op t x y yt =>
    simp only [cOp] at hc
    split at hc
    · rename_i q hnc
      obtain ⟨ax, h1, rfl⟩ := omap hc
      exact isnOK hm hcst hnc (ha x ax h1) h
    rename_i hnc
    clear hnc
    split at hc
    · rename_i ax ay h1 h2
      split at hc
      · simp only [Option.some.injEq] at hc; subst hc
        simp only [AO.sem] at h
        split at h
        · rename_i a b hx hy
          cases hb : binA (boolT P t) op a b with
          | none => simp [hb, RM.opt, RM.run] at h
          | some v =>
            simp [hb, RM.opt, RM.run] at h
            obtain ⟨rfl, rfl⟩ := h
            have hvx := ha x ax h1
            have hvy := ha y ay h2
            rw [hx] at hvx; rw [hy] at hvy
            have ex : ρv x = a := hvx.v_inv
            have ey : ρv y = b := hvy.v_inv
            obtain ⟨r1, r2⟩ := binA_run (P := P) (x := x) (y := y) hb E.w
            refine pureOK hm (v := v) ?_ (.v r2)
            show (do pure (Next.value (← (do eqGuard op t x y (ρv x) (ρv y); binOp op t (ρv x) (ρv y)))) : Sem Next).run P E.w = _
            rw [ex, ey, Sem.run_bind, r1]
            rfl
        · simp [RM.run] at h
      · split at hc
        · simp at hc
        · rename_i hg
          split at hc
          · rename_i fs L n hu hL hn
            simp only [Option.some.injEq] at hc; subst hc
            exact eqsOK hm (by simp) hu hn (by simpa using hg) hL (ha x ax h1) (ha y ay h2) h
          · rename_i fs L n hu hL hn
            simp only [Option.some.injEq] at hc; subst hc
            exact eqsOK hm (by simp) hu hn (by simpa using hg) hL (ha x ax h1) (ha y ay h2) h
          · simp at hc
    · simp at hc
  | unOp op t x =>
    simp only [cOp] at hc; obtain ⟨ax, h1, rfl⟩ := omap hc
    simp only [AO.sem] at h
    split at h
    · rename_i a hx
      cases hb : unA op a with
      | none => simp [hb, RM.opt, RM.run] at h
      | some v =>
        simp [hb, RM.opt, RM.run] at h
        obtain ⟨rfl, rfl⟩ := h
        have hvx := ha x ax h1
        rw [hx] at hvx
        have ex : ρv x = a := hvx.v_inv
        obtain ⟨r1, r2⟩ := unA_run (P := P) hb E.w
        refine pureOK hm (v := v) ?_ (.v r2)
        show (do pure (Next.value (← Op.unary op (ρv x))) : Sem Next).run P E.w = _
        rw [ex, Sem.run_bind, r1]
        rfl
    · simp [RM.run] at h
  | convert s d x =>
    simp only [cOp] at hc
    split at hc
    · rename_i k1 k ax h1 h2 h3
      simp only [Option.some.injEq] at hc; subst hc
      simp only [AO.sem] at h
      split at h
      · rename_i k0 n hx
        simp only [RM.run, Option.some.injEq, Out.done.injEq] at h
        obtain ⟨rfl, rfl⟩ := h
        have hvx := ha x ax h3
        rw [hx] at hvx
        have ex : ρv x = .int k0 n := hvx.v_inv
        refine pureOK hm (v := .int k (k.wrap n)) ?_ (.v rfl)
        show (do pure (Next.value (← convert s d (ρv x))) : Sem Next).run P E.w = _
        rw [ex]
        simp [convert, run_underlying h1, run_underlying h2, Conv.intToInt]
      · simp [RM.run] at h
    · simp at hc
  | fieldAddr s x f =>
    simp only [cOp] at hc
    split at hc
    · rename_i fields ax h1 h2
      split at hc
      · rename_i fd h3
        split at hc
        · simp at hc
        · rename_i hcond
          simp only [Option.some.injEq] at hc; subst hc
          cases hz : szOf P fd.type with
          | none => simp [hz] at hcond
          | some n => exact fadOK hm (ha x ax h2) h1 h3 hz (by rw [hz] at hcond; simpa using hcond) h
      · simp at hc
    · simp at hc
  | field s x f =>
    simp only [cOp] at hc
    split at hc
    · rename_i fields ax h1 h2
      split at hc
      · rename_i fd h3
        obtain ⟨m, h4, rfl⟩ := omap hc
        exact fldOK hm (ha x ax h2) h1 h3 h4 h
      · simp at hc
    · simp at hc
  | indexAddr t x i =>
    simp only [cOp] at hc
    split at hc
    · rename_i e ax ai h1 h2 h3
      split at hc
      · rename_i sz h4
        split at hc
        · rename_i hpos
          simp only [Option.some.injEq] at hc; subst hc
          exact iadOK hm (ha x ax h2) (ha i ai h3) h1 h4 hpos h
        · simp at hc
      · simp at hc
    · rename_i len e ax ai h1 h2 h3
      split at hc
      · rename_i sz h4
        split at hc
        · rename_i hpos
          simp only [Option.some.injEq] at hc; subst hc
          exact iapOK hm (ha x ax h2) (ha i ai h3) h1 h4 h
        · simp at hc
      · simp at hc
    · simp at hc
  | index t x i =>
    simp only [cOp] at hc
    split at hc
    · rename_i ax ai h1 h2 h3
      simp only [Option.some.injEq] at hc; subst hc
      exact sixOK hm h1 (ha x ax h2) (ha i ai h3) h
    · simp at hc
  | extract x i => simp only [cOp] at hc; obtain ⟨ax, h1, rfl⟩ := omap hc; exact extOK hm (ha x ax h1) h
  | makeSlice t l c =>
    simp only [cOp] at hc
    split at hc
    · rename_i e al ac h1 h2 h3
      split at hc
      · rename_i zs i h4 h5
        split at hc
        · rename_i hcond
          simp only [Option.some.injEq] at hc; subst hc
          exact mslOK hm hf h1 h4 h5 hcond.1 hcond.2 (ha l al h2) (ha c ac h3) h
        · simp at hc
      · simp at hc
    · simp at hc
  | slice t x lo hi mx =>
    simp only [cOp] at hc
    split at hc
    · rename_i e ax alo ahi amx h1 h2 h3 h4 h5
      split at hc
      · rename_i sz h6
        split at hc
        · rename_i hcond
          simp only [Option.some.injEq] at hc; subst hc
          exact slcOK ha hm h1 h6 h2 h3 h4 h5 (fun hh => by rw [← optSome h4]; exact hcond.2 (by rw [optSome h5]; exact hh)) h
        · simp at hc
      · simp at hc
    · rename_i ax alo ahi h1 h2 h3 h4 h5
      simp only [Option.some.injEq] at hc; subst hc
      have hmx : mx = none := by cases mx <;> simp [cOptArg] at h5 ⊢
      subst hmx
      exact slsOK ha hm h1 h2 h3 h4 h
    · simp at hc
  | makeFunc fn first caps =>
    cases fn with
    | func f =>
      simp only [cOp] at hc
      split at hc
      · rename_i hfirst
        obtain ⟨l, h1, rfl⟩ := omap hc
        simp only [AO.sem, RM.run, Option.some.injEq, Out.done.injEq] at h
        obtain ⟨rfl, rfl⟩ := h
        obtain ⟨e1, e2⟩ := ha.list h1
        have hf0 : first = #[] := by simpa using hfirst
        subst hf0
        refine pureOK hm (v := .func (.func f) #[] (caps.map ρv)) (by simp [execOp, Instr.makeFunc]) (.fn (by simp; rw [← e1]; simp) (fun i v c hv hc => e2 i v c (by simpa using hv) hc))
      · split at hc
        · rename_i _ hcaps
          obtain ⟨l, h1, rfl⟩ := omap hc
          simp only [AO.sem, RM.run, Option.some.injEq, Out.done.injEq] at h
          obtain ⟨rfl, rfl⟩ := h
          obtain ⟨e1, e2⟩ := ha.list h1
          have hf0 : caps = #[] := by simpa using hcaps
          subst hf0
          refine pureOK hm (v := .func (.func f) (first.map ρv) #[]) (by simp [execOp, Instr.makeFunc]) (.bf (by simp; rw [← e1]; simp) (fun i v c hv hc => e2 i v c (by simpa using hv) hc))
        · simp at hc
    | _ => simp [cOp] at hc
  | call c =>
    by_cases hcall : ∃ x args, ao = .call x args
    · obtain ⟨x, args, rfl⟩ := hcall
      simp only [AO.sem] at h
      split at h <;> simp [RM.run] at h
    · simp only [cOp] at hc
      split at hc
      · split at hc
        · simp only [Option.some.injEq] at hc; exact absurd ⟨_, _, hc.symm⟩ hcall
        · simp at hc
      all_goals rename_i hcal
      all_goals try (simp at hc; done)
      · split at hc
        · rename_i x t hargs hty
          have hcargs : c.args = #[x] := by apply Array.toList_inj.1; rw [hargs]
          have hexec : ∀ b, c.callee = .builtin b → b = .len → (execOp ρv ⟨dst, .call c, type, pos, after, guard⟩).run P E.w = (do pure (Next.value (← Builtin.len_ c.argTypes type #[ρv x])) : Sem Next).run P E.w := by
            intro b hb hl; subst hl
            simp [execOp, resolve, hb, invoke, builtin, hcargs]
          have htypes : ∀ v ty, (Builtin.len_ c.argTypes ty #[v]) = Builtin.len_ #[t] ty #[v] := by
            intro v ty
            simp [Builtin.len_, hty]
          rw [hexec _ hcal rfl, htypes]
          split at hc
          · rename_i e hu
            obtain ⟨ax, h1, rfl⟩ := omap hc
            exact lenOK hm (by simp; exact ⟨e, hu⟩) (ha x ax h1) type h
          · rename_i hu
            obtain ⟨ax, h1, rfl⟩ := omap hc
            exact lenOK hm (by simp; exact hu) (ha x ax h1) type h
          · simp at hc
        · simp at hc
      · split at hc
        · rename_i s x t u hargs hty
          split at hc
          · rename_i htu
            subst htu
            split at hc
            · rename_i e as ax h1 h2 h3
              split at hc
              · rename_i zs i h4 h5
                split at hc
                · rename_i hcond
                  simp only [Option.some.injEq] at hc; subst hc
                  have hcargs : c.args = #[s, x] := by apply Array.toList_inj.1; rw [hargs]
                  have hctys : c.argTypes = #[t, t] := by apply Array.toList_inj.1; rw [hty]
                  have := appOK (P := P) (ty := type) hm hf h1 h4 h5 hcond.1 hcond.2 (ha s as h2) (ha x ax h3) h
                  have hexec : (execOp ρv ⟨dst, .call c, type, pos, after, guard⟩).run P E.w = (do pure (Next.value (← Builtin.append_ #[t, t] type #[ρv s, ρv x])) : Sem Next).run P E.w := by
                    simp [execOp, resolve, hcal, invoke, builtin, hcargs, hctys]
                  rw [hexec]; exact this
                · simp at hc
              · simp at hc
            · simp at hc
          · simp at hc
        · simp at hc
      · split at hc
        · rename_i x t hargs hty
          split at hc
          · rename_i e ax h1 h2
            split at hc
            · rename_i zs h4
              split at hc
              · rename_i hcond
                simp only [Option.some.injEq] at hc; subst hc
                have hcargs : c.args = #[x] := by apply Array.toList_inj.1; rw [hargs]
                have := clrOK (P := P) (ty := type) hm h1 h4 hcond (ha x ax h2) h
                have hexec : (execOp ρv ⟨dst, .call c, type, pos, after, guard⟩).run P E.w = (do pure (Next.value (← Builtin.clear_ #[t] type #[ρv x])) : Sem Next).run P E.w := by
                  simp [execOp, resolve, hcal, invoke, builtin, hcargs, Builtin.clear_, hty]
                rw [hexec]; exact this
              · simp at hc
            · simp at hc
          · simp at hc
        · simp at hc
      · split at hc
        · rename_i x y t hargs hty
          split at hc
          · rename_i e ax ay h1 h2 h3
            split at hc
            · rename_i sz h4
              split at hc
              · rename_i hcond
                simp only [Option.some.injEq] at hc; subst hc
                have hcargs : c.args = #[x, y] := by apply Array.toList_inj.1; rw [hargs]
                have := cpyOK (P := P) (ty := type) (u := t) hm h1 h4 hcond (ha x ax h2) (ha y ay h3) h c.argTypes hty
                have hexec : (execOp ρv ⟨dst, .call c, type, pos, after, guard⟩).run P E.w = (do pure (Next.value (← Builtin.copy_ c.argTypes type #[ρv x, ρv y])) : Sem Next).run P E.w := by
                  simp [execOp, resolve, hcal, invoke, builtin, hcargs]
                rw [hexec]; exact this
              · simp at hc
            · simp at hc
          · simp at hc
        · simp at hc
      all_goals
        split at hc
        · rename_i x y hargs
          split at hc
          · rename_i ax ay h1 h2
            simp only [Option.some.injEq] at hc; subst hc
            have hcargs : c.args = #[x, y] := by apply Array.toList_inj.1; rw [hargs]
            simp only [AO.sem] at h
            split at h
            · rename_i a b hx hy
              obtain ⟨mx, mb, hmx, hmb, h⟩ : ∃ mx mb, (mx = false ∧ c.callee = .builtin .min ∨ mx = true ∧ c.callee = .builtin .max) ∧ minmaxA mx a b = mb ∧ RM.run g (RM.opt (Option.map (fun v => Out.done (AV.v v) []) mb)) = some (Out.done val ups) := by
                first
                | exact ⟨false, _, .inl ⟨rfl, hcal⟩, rfl, h⟩
                | exact ⟨true, _, .inr ⟨rfl, hcal⟩, rfl, h⟩
              cases mb with
              | none => simp [RM.opt, RM.run] at h
              | some v =>
                simp [RM.opt, RM.run] at h
                obtain ⟨rfl, rfl⟩ := h
                have hvx := ha x ax h1
                have hvy := ha y ay h2
                rw [hx] at hvx; rw [hy] at hvy
                have ex : ρv x = a := hvx.v_inv
                have ey : ρv y = b := hvy.v_inv
                obtain ⟨r1, r2, r3⟩ := minmax_run (P := P) hmb E.w
                refine pureOK hm (v := v) ?_ (.v r1)
                rcases hmx with ⟨hmx, hcal⟩ | ⟨hmx, hcal⟩
                · simp [execOp, resolve, hcal, invoke, builtin, hcargs, ex, ey, r2 hmx]
                · simp [execOp, resolve, hcal, invoke, builtin, hcargs, ex, ey, r3 hmx]
            · simp [RM.run] at h
          · simp at hc
        · simp at hc
  | _ => simp [cOp] at hc
end
end Go.Proofs.YtgepadjkegfokaaDoor
