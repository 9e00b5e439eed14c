/- Operations of which something must be shown: indices, divisions, parts of lists, appends; loops that are unrolled; memory that is put in order. No condition. -/
import Derived.Test.YtgepadjkegfokaaDoorPAvStep
set_option linter.unusedSimpArgs false
set_option linter.unusedVariables false
namespace Go.Proofs.YtgepadjkegfokaaDoor
set_option linter.unusedSimpArgs false
set_option linter.unusedVariables false
open Go.RowKit
section
variable {P : Program} {n k0 : Nat} {x : L3} {K : L3 → Prop} {Q : Ex → L3 → Prop} {R : List AOper} {k : Nat}
/-- So many rounds are enough. -/
def JU (P : Program) (n k0 : Nat) (a : AC) (Q : Ex → L3 → Prop) : Nat → L3 → Prop
  | 0, _ => False
  | m + 1, x => EL P n k0 a x (Ex.thenL (JU P n k0 a Q m) Q)
theorem EL.unroll {a : AC} (m : Nat) (h : JU P n k0 a Q m x) : EL P n k0 (.loop a) x Q :=
  EL.loop (fun m x => JU P n k0 a Q m x) h fun m x h => by
    cases m with
    | zero => exact h.elim
    | succ m =>
      refine EL.conseq h fun e y hy => ?_
      cases e with
      | normal => exact ⟨m, by omega, hy⟩
      | exit id => exact hy
      | ret => exact hy
theorem JU.step {a : AC} {m : Nat} (h : EL P n k0 a x (Ex.thenL (JU P n k0 a Q m) Q)) : JU P n k0 a Q (m + 1) x := h
theorem OW.ope {v : AV} {u : List (Nat × Option Bk)} {acc : List Nat} {x' : L3} (hl : Nat.blt k R.length = true) (h : opE (opD R k) x = .done v u acc) (hx : (bif dstOK n (opD R k).dst && upsOK x.m.length u then some (⟨setA x.t (opD R k).dst v, mput x.m u⟩ : L3) else none) = some x') (hr : OW P n k0 (R.drop (k + 1)) x' K) : OW P n k0 (R.drop k) x K := by
  rw [opD_drop hl]
  cases hd : (dstOK n (opD R k).dst && upsOK x.m.length u) with
  | false => rw [hd] at hx; simp at hx
  | true =>
    rw [hd, cond_true] at hx
    simp only [Option.some.injEq] at hx
    subst hx
    simp only [Bool.and_eq_true] at hd
    exact OW.cons hd.1 h hd.2 hr
theorem DW.ope {dep : List (List Nat)} {rs : List Rec} {v : AV} {u : List (Nat × Option Bk)} {acc : List Nat} {x' : L3} (hl : Nat.blt k R.length = true) (h : opE (opD R k) x = .done v u acc) (hx : (bif dstOK n (opD R k).dst && upsOK x.m.length u then some (⟨setA x.t (opD R k).dst v, mput x.m u⟩ : L3) else none) = some x') (hr : DW P n dep (R.drop (k + 1)) x' (rs ++ [⟨(opD R k).dst, v, u, acc, x.m.length⟩]) K) : DW P n dep (R.drop k) x rs K := by
  rw [opD_drop hl]
  cases hd : (dstOK n (opD R k).dst && upsOK x.m.length u) with
  | false => rw [hd] at hx; simp at hx
  | true =>
    rw [hd, cond_true] at hx
    simp only [Option.some.injEq] at hx
    subst hx
    simp only [Bool.and_eq_true] at hd
    exact DW.cons hd.1 h hd.2 hr
end
section
variable {o : AOper} {x : L3}
/-- What the operation's meaning gives, when it is done. -/
theorem opE_sem (ao : AO) {v : AV} {u : List (Nat × Option Bk)} {acc see : List Nat} (ho : o.ao = ao) (hg : guardA (slot x.t) o.guard = some true) (h : (ao.sem x.m.length (argσ (slot x.t))).run (look x.m) = some (.done v u))
    (h2 : (ao.sem x.m.length (argσ (slot x.t))).acc (look x.m) = acc) (h3 : (ao.sem x.m.length (argσ (slot x.t))).see (look x.m) = see) : opE o x = .done v u (acc ++ see) := by
  unfold opE
  rw [hg]
  simp only [ho, h]
  unfold accOf
  rw [h2, h3]
theorem opE_ret (ao : AO) {v : AV} {u : List (Nat × Option Bk)} (ho : o.ao = ao) (hg : guardA (slot x.t) o.guard = some true) (h : ao.sem x.m.length (argσ (slot x.t)) = .ret (.done v u)) : opE o x = .done v u [] :=
  opE_sem ao (acc := []) (see := []) ho hg (by rw [h]; rfl) (by rw [h]; rfl) (by rw [h]; rfl)
theorem opE_shl (a b : Arg) (q q' : IntKind) (m d : Int) (ho : o.ao = .bin false .shl a b) (hg : guardA (slot x.t) o.guard = some true) (ha : argσ (slot x.t) a = .v (.int q m)) (hb : argσ (slot x.t) b = .v (.int q' d)) (hd : ¬ d < 0) : opE o x = .done (.v (.int q (q.wrap (m * 2 ^ (min d.toNat q.bits))))) [] [] :=
  opE_ret _ ho hg (by simp [AO.sem, ha, hb, binA, hd, RM.opt])
theorem opE_len {α : Type} (f : α → List AV) (xs : List α) (a : Arg) (sz : Nat) (ho : o.ao = .len false a) (hg : guardA (slot x.t) o.guard = some true) (ha : argσ (slot x.t) a = .lst sz (xs.map f) ∨ argσ (slot x.t) a = .tls sz (xs.map f)) : opE o x = .done (VI xs.length) [] [] := by
  rcases ha with ha | ha <;> exact opE_ret _ ho hg (by simp [AO.sem, ha, goInt])
theorem opE_iad {α : Type} (f : α → List AV) (xs : List α) (a i : Arg) (sz : Nat) (q : IntKind) (m : Int) (y : α) (ho : o.ao = .iad sz a i) (hg : guardA (slot x.t) o.guard = some true) (ha : argσ (slot x.t) a = .lst sz (xs.map f) ∨ argσ (slot x.t) a = .tls sz (xs.map f)) (hi : argσ (slot x.t) i = .v (.int q m)) (h0 : 0 ≤ m) (hy : xs[m.toNat]? = some y) : opE o x = .done (.pim (f y) 0) [] [] := by
  rcases ha with ha | ha <;> exact opE_ret _ ho hg (by simp [AO.sem, ha, hi, h0, hy, RM.opt])
theorem idx_ex {α : Type} {xs : List α} {m : Int} (h : 0 ≤ m ∧ m < xs.length) : ∃ y, xs[m.toNat]? = some y := by
  have : m.toNat < xs.length := by omega
  exact ⟨xs[m.toNat], by simp [this]⟩
end
section
variable {o : AOper} {x : L3}
theorem run_bind {α β : Type} {g : Nat → Option Bk} {f : α → RM β} : ∀ (m : RM α) {a : α}, m.run g = some a → (m.bind f).run g = (f a).run g ∧ (m.bind f).acc g = m.acc g ++ (f a).acc g ∧ (m.bind f).see g = m.see g ++ (f a).see g
  | .ret b, a, h => by simp only [RM.run, Option.some.injEq] at h; subst h; exact ⟨rfl, rfl, rfl⟩
  | .fail, a, h => by simp [RM.run] at h
  | .rd id k, a, h => by
    cases hg : g id with
    | none => simp [RM.run, hg] at h
    | some B =>
      simp only [RM.run, hg] at h
      obtain ⟨h1, h2, h3⟩ := run_bind (f := f) (k B) h
      exact ⟨by simp [RM.bind, RM.run, hg, h1], by simp [RM.bind, RM.acc, hg, h2], by simp [RM.bind, RM.see, hg, h3]⟩
  | .lv id k, a, h => by
    cases hg : g id with
    | none => simp [RM.run, hg] at h
    | some B =>
      simp only [RM.run, hg] at h
      obtain ⟨h1, h2, h3⟩ := run_bind (f := f) k h
      exact ⟨by simp [RM.bind, RM.run, hg, h1], by simp [RM.bind, RM.acc, h2], by simp [RM.bind, RM.see, h3]⟩
/-- What is appended. -/
inductive Src {α : Type} (f : α → List AV) (sz : Nat) (g : Nat → Option Bk) : AV → List α → List Nat → Prop
  | lst {ys : List α} : Src f sz g (.lst sz (ys.map f)) ys []
  | tls {ys : List α} : Src f sz g (.tls sz (ys.map f)) ys []
  | emp : Src f sz g .emp [] []
  | own {id off len : Nat} {els : List (List AV)} {ys : List α} (hB : g id = some ⟨sz, els⟩) (hy : (els.drop off).take len = ys.map f) (hl : off + len ≤ els.length) : Src f sz g (.own id sz off len) ys [id]
theorem Src.content {α : Type} {f : α → List AV} {sz : Nat} {g : Nat → Option Bk} {v : AV} {ys : List α} {acc : List Nat} (h : Src f sz g v ys acc) : (content sz v).run g = some (ys.map f) ∧ (content sz v).acc g = acc ∧ (content sz v).see g = [] := by
  cases h with
  | lst => simp [YtgepadjkegfokaaDoor.content, RM.run, RM.acc, RM.see]
  | tls => simp [YtgepadjkegfokaaDoor.content, RM.run, RM.acc, RM.see]
  | emp => simp [YtgepadjkegfokaaDoor.content, RM.run, RM.acc, RM.see]
  | own hB hy hl => simp [YtgepadjkegfokaaDoor.content, RM.run, RM.acc, RM.see, hB, hy, hl]
theorem opE_appO {α : Type} (f : α → List AV) (xs ys : List α) (s a : Arg) (sz by_ id : Nat) (w : AV) (acc : List Nat) (ho : o.ao = .app sz by_ s a) (hg : guardA (slot x.t) o.guard = some true) (hs : argσ (slot x.t) s = .own id sz 0 xs.length) (hB : look x.m id = some ⟨sz, xs.map f⟩) (ha : argσ (slot x.t) a = w) (hw : Src f sz (look x.m) w ys acc)
    (hb : (xs.length + ys.length) * by_ ≤ 140737488355328) : opE o x = .done (.own x.m.length sz 0 (xs ++ ys).length) [(id, none), (x.m.length, some ⟨sz, (xs ++ ys).map f⟩)] (acc ++ [id]) := by
  obtain ⟨c1, c2, c3⟩ := hw.content
  let F : List (List AV) → RM Out := fun ys => .rd id fun B => if sz = sz ∧ B.sz = sz ∧ 0 = 0 ∧ xs.length = B.els.length ∧ (xs.length + ys.length) * by_ ≤ 140737488355328 then .ret (.done (.own x.m.length sz 0 (xs.length + ys.length)) [(id, none), (x.m.length, some ⟨sz, B.els ++ ys⟩)])
    else if sz = sz ∧ B.sz = sz ∧ 0 + xs.length + ys.length ≤ B.els.length then .ret (.done (.own id sz 0 (xs.length + ys.length)) [(id, some ⟨B.sz, B.els.take (0 + xs.length) ++ ys ++ B.els.drop (0 + xs.length + ys.length)⟩), (x.m.length, none)]) else .fail
  have hsem : (AO.app sz by_ s a).sem x.m.length (argσ (slot x.t)) = (content sz w).bind F := by simp [AO.sem, hs, ha, F]
  obtain ⟨r1, r2, r3⟩ := run_bind (f := F) _ c1
  have := opE_sem (AO.app sz by_ s a) (o := o) (x := x) (v := .own x.m.length sz 0 (xs ++ ys).length) (u := [(id, none), (x.m.length, some ⟨sz, (xs ++ ys).map f⟩)]) (acc := acc ++ [id]) (see := []) ho hg (by rw [hsem, r1]; simp [F, hb, RM.run, hB]) (by rw [hsem, r2, c2]; simp [F, hb, RM.acc, hB]) (by rw [hsem, r3, c3]; simp [F, hb, RM.see, hB])
  simpa using this
end
end Go.Proofs.YtgepadjkegfokaaDoor
