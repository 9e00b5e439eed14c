/- Maps upon abstract values: a new one, an entry more, a look for a key. No condition. -/
import Derived.Test.YtgepadjkegfokaaDoorPAvSnd5
import Derived.MapKept
set_option linter.unusedSimpArgs false
set_option linter.unusedVariables false
namespace Go.Proofs.YtgepadjkegfokaaDoor
set_option linter.unusedSimpArgs false
set_option linter.unusedVariables false
open Go.RowKit
section
variable {P : Program} {E : Env} {J : Nat → Prop} {base : Nat} {g : Nat → Option Bk} {ρv : Operand → Value} {ρ : Arg → AV} {fresh : Nat}
theorem checkKey_run {kt : TypeId} {d : TypeDesc} {kd : LK} (hd : P.underlying kt = some d) (hk : kOf d = some kd) (k : Value) (e : Bool) (n : Nat) (w : World) : (Instr.checkKey e (n + 1) kt k).run P w = .ok () w := by
  unfold Instr.checkKey
  simp only [Sem.run_bind, run_underlying hd, Result.andThen]
  cases d <;> simp_all [kOf]
theorem sameNow_key {d : TypeDesc} {kd : LK} (hk : kOf d = some kd) {a b : Value} {r : Bool} (h : keyEq kd a b = some r) : Instr.sameNow d a b = some r := by
  cases d <;> simp [kOf] at hk <;> subst hk <;> cases a <;> cases b <;> simp_all [keyEq, Instr.sameNow]
/-- The look for a key goes as the entries say. -/
theorem find_run {d : TypeDesc} {kd : LK} (hk : kOf d = some kd) {k : Value} : ∀ (es : List MapEntry) (els : List (List AV)) (i : Nat) (r : Option AV), es.length = els.length →
    (∀ (j : Nat) e cs, es[j]? = some e → els[j]? = some cs → ∃ x, cs = [.v e.key, x] ∧ plainV e.key = true ∧ Rep E e.val x) → mfind kd k els = some r →
    (r = none ∧ Instr.findNow d k es i = some none) ∨ ∃ x j v, r = some x ∧ Instr.findNow d k es i = some (some (j, v)) ∧ Rep E v x
  | [], [], i, r, _, _, h => by
    simp only [mfind, Option.some.injEq] at h; subst h
    exact .inl ⟨rfl, rfl⟩
  | [], _ :: _, _, _, hl, _, _ => by simp at hl
  | _ :: _, [], _, _, hl, _, _ => by simp at hl
  | e :: es, cs :: els, i, r, hl, he, h => by
    obtain ⟨x, rfl, _, hr⟩ := he 0 e cs rfl rfl
    unfold mfind at h
    cases hq : keyEq kd k e.key with
    | none => rw [hq] at h; simp at h
    | some b =>
      rw [hq] at h
      have hs := sameNow_key hk hq
      unfold Instr.findNow
      rw [hs]
      cases b with
      | true =>
        simp only [Option.some.injEq] at h; subst h
        exact .inr ⟨x, i, e.val, rfl, rfl, hr⟩
      | false =>
        exact find_run hk es els (i + 1) r (by simpa using hl) (fun j e' cs' h1 h2 => he (j + 1) e' cs' (by simpa using h1) (by simpa using h2)) h
theorem mkmOK (hm : MemAt E J base g) (hf : ¬ E.kn fresh) {t kt et : TypeId} (ht : P.underlying t = some (.map kt et)) {r : Option Value} (hr : r = none ∨ ∃ k n, r = some (.int k n)) :
    OpOK E J base g ((do pure (Next.value (← Instr.makeMap t r)) : Sem Next).run P E.w) (.mp fresh) [(fresh, some ⟨0, []⟩)] := by
  obtain ⟨E', hw, hE, hM, k1, k2, k3, k4, k5⟩ := hm.allocO fresh hf (.map #[] 0) ⟨0, []⟩ fun E' hE hw => .ofMap ⟨hm.size, #[], 0, by rw [hw]; exact heap_alloc_new E.w _, rfl, fun i e cs he => by simp at he⟩ rfl
  refine ⟨.value (.map (some E.w.heap.size)), .map (some E.w.heap.size), E', ?_, .inl rfl, hE, .mp k1 k2 k3, hM, ?_, fun id hi => ?_⟩
  · rw [hw]
    rcases hr with rfl | ⟨k, n, rfl⟩
    · simp [Instr.makeMap]
    · simp [Instr.makeMap, run_underlying ht, asInt, asIntOf]
  · rw [hw]; exact (Below.refl _ _).alloc hm.size _
  · rcases k4 id hi with h | h
    · exact .inl h
    · exact .inr (by simp [h])
theorem mp_open (hm : MemAt E J base g) {v : Value} {id : Nat} {B : Bk} (hv : Rep E v (.mp id)) (hB : g id = some B) (hz : B.sz = 0) : ∃ b, v = .map (some b) ∧ E.loc id = some b ∧ base ≤ b ∧ MapAt E B.els b := by
  cases hv with
  | staleP hi hd => exact absurd hd (alive hm hB)
  | @mp _ b hi hd hb =>
    have hblk := hm.at_ id B hB
    rw [hb] at hblk
    exact ⟨b, rfl, hb, (hblk.mapp hz).1, (hblk.mapp hz).2⟩
theorem zeroOf_run {t : TypeId} {z : AV} (h : zeroOf P t = some z) : ∃ i zz, P.info? t = some i ∧ i.zero = some zz ∧ Rep E zz z := by
  unfold zeroOf at h
  cases hi : P.info? t with
  | none => rw [hi] at h; simp at h
  | some i =>
    rw [hi] at h
    cases hz : i.zero with
    | none => simp [hz] at h
    | some zz => simp only [hz] at h; exact ⟨i, zz, rfl, hz, ofConst1_rep h⟩
theorem mlkOK (hm : MemAt E J base g) {t kt et : TypeId} (ht : P.underlying t = some (.map kt et)) {kd : LK} (hk : keyT P kt = some kd) {z : AV} (hz : zeroOf P et = some z) {vx vk : Value} {x k : Arg} {val : AV} {ups : List (Nat × Option Bk)} (hvx : Rep E vx (ρ x)) (hvk : Rep E vk (ρ k))
    (h : ((AO.mlk kd z x k).sem fresh ρ).run g = some (.done val ups)) : OpOK E J base g ((do pure (Next.value (← Instr.lookup t vx vk false)) : Sem Next).run P E.w) val ups := by
  obtain ⟨d, hd, hkd⟩ : ∃ d, P.underlying kt = some d ∧ kOf d = some kd := by
    unfold keyT at hk
    cases hu : P.underlying kt with
    | none => rw [hu] at hk; simp at hk
    | some d => rw [hu] at hk; exact ⟨d, rfl, by simpa using hk⟩
  simp only [AO.sem] at h
  split at h
  · rename_i id kv hx hkk
    rw [hx] at hvx; rw [hkk] at hvk
    have hkv : vk = kv := by cases hvk with | v _ => rfl
    subst hkv
    simp only [RM.run] at h
    cases hB : g id with
    | none => simp [hB] at h
    | some B =>
      simp only [hB] at h
      split at h
      · rename_i hz0
        obtain ⟨b, rfl, hb, hbase, es, clock, hh, hl, hent⟩ := mp_open hm hvx hB hz0
        cases hf : mfind kd vk B.els with
        | none => simp [hf, RM.opt, RM.run] at h
        | some r =>
          simp [hf, RM.opt, RM.run] at h
          obtain ⟨rfl, rfl⟩ := h
          have hfr := find_run (E := E) hkd es.toList B.els 0 r (by simpa using hl) (fun j e cs h1 h2 => hent j e cs (by simpa using h1) h2) hf
          have hck := fun e => checkKey_run hd hkd vk e 9999 E.w
          rcases hfr with ⟨rfl, hfn⟩ | ⟨y, j, v, rfl, hfn, hrv⟩
          · obtain ⟨i, zz, hi, hzz, hrz⟩ := zeroOf_run (E := E) hz
            refine pureOK hm (v := zz) ?_ hrz
            simp [Instr.lookup, run_underlying ht, MapKept.run_getObj_map hh, hck, MapKept.run_findKey hd hfn, Result.andThen, zeroValue, typeInfo, hi, hzz]
          · refine pureOK hm (v := v) ?_ hrv
            simp [Instr.lookup, run_underlying ht, MapKept.run_getObj_map hh, hck, MapKept.run_findKey hd hfn, Result.andThen]
      · simp [RM.run] at h
  · simp [RM.run] at h
theorem mupOK (hm : MemAt E J base g) {t kt et : TypeId} (ht : P.underlying t = some (.map kt et)) {kd : LK} (hk : keyT P kt = some kd) {vx vk vy : Value} {x k y : Arg} {val : AV} {ups : List (Nat × Option Bk)} (hvx : Rep E vx (ρ x)) (hvk : Rep E vk (ρ k)) (hvy : Rep E vy (ρ y))
    (h : ((AO.mup kd x k y).sem fresh ρ).run g = some (.done val ups)) : OpOK E J base g ((do (Instr.mapUpdate t vx vk vy); pure Next.skip : Sem Next).run P E.w) val ups := by
  obtain ⟨d, hd, hkd⟩ : ∃ d, P.underlying kt = some d ∧ kOf d = some kd := by
    unfold keyT at hk
    cases hu : P.underlying kt with
    | none => rw [hu] at hk; simp at hk
    | some d => rw [hu] at hk; exact ⟨d, rfl, by simpa using hk⟩
  simp only [AO.sem] at h
  split at h
  · rename_i id kv hx hkk
    rw [hx] at hvx; rw [hkk] at hvk
    have hkv : vk = kv := by cases hvk with | v _ => rfl
    subst hkv
    simp only [RM.run] at h
    cases hB : g id with
    | none => simp [hB] at h
    | some B =>
      simp only [hB] at h
      split at h
      · rename_i hz0
        obtain ⟨hz0, hpl⟩ := hz0
        obtain ⟨b, rfl, hb, hbase, es, clock, hh, hl, hent⟩ := mp_open hm hvx hB hz0
        split at h
        · rename_i hf
          simp only [RM.run, Option.some.injEq, Out.done.injEq] at h
          obtain ⟨rfl, rfl⟩ := h
          have hfr := find_run (E := E) hkd es.toList B.els 0 none (by simpa using hl) (fun j e cs h1 h2 => hent j e cs (by simpa using h1) h2) hf
          have hfn : Instr.findNow d vk es.toList 0 = some none := by
            rcases hfr with ⟨_, hfn⟩ | ⟨_, _, _, hc, _⟩
            · exact hfn
            · simp at hc
          have hck := fun e => checkKey_run hd hkd vk e 9999 E.w
          obtain ⟨hset, hoth⟩ := MapKept.heap_set (w := E.w) (r := b) (o' := .map (es.push { key := vk, val := vy, born := clock }) (clock + 1)) hh
          obtain ⟨E', hw, hE, hM, hkn⟩ := hm.setO id b B ⟨0, B.els ++ [[.v vk, ρ y]]⟩ hB hb { E.w with heap := E.w.heap.setIfInBounds b (.map (es.push { key := vk, val := vy, born := clock }) (clock + 1)) }
            hoth (by simp) (by simp only [World.shape?, hset, hh]) (fun hh => absurd rfl hh) (fun E' hE hw => .ofMap ⟨hbase, es.push { key := vk, val := vy, born := clock }, clock + 1, by rw [hw]; exact hset, by simp [hl], fun i e cs he hi => by
              by_cases hi2 : i < es.size
              · rw [Array.getElem?_push_lt hi2] at he
                dsimp only at hi
                rw [List.getElem?_append_left (by omega)] at hi
                obtain ⟨u, k1, k2, k3⟩ := hent i e cs (by rw [Array.getElem?_eq_getElem hi2]; exact he) hi
                exact ⟨u, k1, k2, k3.step hE⟩
              · have hi3 : i = es.size := by
                  have := (Array.getElem?_eq_some_iff.1 he).1; simp at this; omega
                subst hi3
                simp only [Array.getElem?_push_size, Option.some.injEq] at he
                subst he
                dsimp only at hi
                rw [List.getElem?_append_right (by omega), hl, Nat.sub_self] at hi
                simp only [List.getElem?_cons_zero, Option.some.injEq] at hi
                subst hi
                exact ⟨ρ y, rfl, hpl, hvy.step hE⟩⟩ rfl)
          refine ⟨.skip, undef, E', ?_, .inr ⟨rfl, rfl⟩, hE, .v rfl, hM, ?_, fun id' h' => .inl (hkn id' h')⟩
          · rw [hw]
            simp [Instr.mapUpdate, run_underlying ht, MapKept.run_getObj_map hh, hck, MapKept.run_findKey hd hfn, MapKept.run_setObj_map _ hh, Result.andThen]
          · rw [hw]
            refine ⟨rfl, rfl, rfl, by simp, fun k hk => hoth k (by omega)⟩
        · simp [RM.run] at h
      · simp [RM.run] at h
  · simp [RM.run] at h
end
end Go.Proofs.YtgepadjkegfokaaDoor
