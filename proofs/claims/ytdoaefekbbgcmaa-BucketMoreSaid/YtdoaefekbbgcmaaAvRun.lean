/- A function that is handed values without letters is run. No condition. -/
import Derived.Test.YtdoaefekbbgcmaaAvEval
set_option linter.unusedSimpArgs false
set_option linter.unusedVariables false
namespace Go.Proofs.Ytdoaefekbbgcmaa
set_option linter.unusedSimpArgs false
set_option linter.unusedVariables false
open Go.RowKit

/-- A call: its answer, and the own memory behind it. -/
abbrev Callee := FuncId → List AV → List (Option Bk) → Option (AV × List (Option Bk))
def stepCall (pureC : FuncId → List AV → Option AV) (inC : Callee) (f : FuncId) (as : List AV) (m : List (Option Bk)) : Option (AV × List (Option Bk)) :=
  match (snapAs as).run (look m) with
  | some as' => match pureC f as' with
    | some r => if upsOK m.length (callUps as r) = true then some (r, mput m (callUps as r)) else none
    | none => none
  | none => inC f as m
def runOps (n : Nat) (pureC : FuncId → List AV → Option AV) (inC : Callee) : List AOper → L3 → Option L3
  | [], x => some x
  | o :: os, x => if dstOK n o.dst = true then match opE o x with
    | .done val ups _ => if upsOK x.m.length ups = true then runOps n pureC inC os ⟨setA x.t o.dst val, mput x.m ups⟩ else none
    | .call f as => match stepCall pureC inC f as x.m with
      | some (r, m') => runOps n pureC inC os ⟨setA x.t o.dst r, m'⟩
      | none => none
    | .stuck => none
    else none
def runOpsD (n : Nat) (pureC : FuncId → List AV → Option AV) : List AOper → L3 → List Rec → Option (L3 × List Rec)
  | [], x, rs => some (x, rs)
  | o :: os, x, rs => if dstOK n o.dst = true then match opE o x with
    | .done val ups acc => if upsOK x.m.length ups = true then runOpsD n pureC os ⟨setA x.t o.dst val, mput x.m ups⟩ (rs ++ [⟨o.dst, val, ups, acc, x.m.length⟩]) else none
    | .call f as => match (snapAs as).run (look x.m) with
      | some as' => match pureC f as' with
        | some r => if upsOK x.m.length (callUps as r) = true then runOpsD n pureC os ⟨setA x.t o.dst r, mput x.m (callUps as r)⟩ (rs ++ [⟨o.dst, r, callUps as r, accCall o.ao as x, x.m.length⟩]) else none
        | none => none
      | none => none
    | .stuck => none
    else none
/-- The code, so many steps deep. -/
def runC (T : FuncId → Option AFn) : Nat → Nat → AC → L3 → Option (Ex × L3)
  | 0, _, _, _ => none
  | k + 1, n, ac, x =>
    let pureC : FuncId → List AV → Option AV := fun f as => match T f with
      | some F => if as.length ≤ F.n then match runC T k F.n F.code (start as) with
        | some (.normal, x) => ((resR (slot x.t) F.res).bind snapR).run (look x.m)
        | some (.ret, x) => ((resR (slot x.t) F.res).bind snapR).run (look x.m)
        | _ => none
        else none
      | none => none
    let inC : Callee := fun f as m => match T f with
      | some F => if as.length ≤ F.n then match runC T k F.n F.code ⟨startT 0 as, m⟩ with
        | some (.normal, x) => ((resR (slot x.t) F.res).run (look x.m)).map fun r => (r, x.m)
        | some (.ret, x) => ((resR (slot x.t) F.res).run (look x.m)).map fun r => (r, x.m)
        | _ => none
        else none
      | none => none
    match ac with
    | .skip => some (.normal, x)
    | .reg os none => (runOps n pureC inC os x).map fun x => (.normal, x)
    | .reg os (some dep) => match runOpsD n pureC os x [] with
      | some (x, rs) => if idsOK rs dep = true then some (.normal, x) else none
      | none => none
    | .seq a b => match runC T k n a x with
      | some (.normal, x) => runC T k n b x
      | r => r
    | .cond c a b => match argσ (slot x.t) c with
      | .v (.bool true) => runC T k n a x
      | .v (.bool false) => runC T k n b x
      | _ => none
    | .block id a => match runC T k n a x with
      | some (.exit i, x) => if i = id then some (.normal, x) else some (.exit i, x)
      | r => r
    | .loop a => match runC T k n a x with
      | some (.normal, x) => runC T k n (.loop a) x
      | r => r
    | .exit id => some (.exit id, x)
    | .ret => some (.ret, x)
    | .rng _ _ _ _ => none
def runF (T : FuncId → Option AFn) (k : Nat) (f : FuncId) (as : List AV) : Option AV :=
  match T f with
  | some F => if as.length ≤ F.n then match runC T k F.n F.code (start as) with
    | some (.normal, x) => ((resR (slot x.t) F.res).bind snapR).run (look x.m)
    | some (.ret, x) => ((resR (slot x.t) F.res).bind snapR).run (look x.m)
    | _ => none
    else none
  | none => none

section
variable {P : Program} {T : FuncId → Option AFn}
/-- The table is what the program says. -/
def Table (P : Program) (T : FuncId → Option AFn) : Prop := ∀ f F, T f = some F → cFunc P f = some F ∧ callable P f = true

theorem runOps_sound {n k0 : Nat} {pureC : FuncId → List AV → Option AV} {inC : Callee} (hp : ∀ f as r, pureC f as = some r → Fn P f as r ∧ callable P f = true) (hi : ∀ f as m r m', inC f as m = some (r, m') → Fi P f as (look m) m.length r (look m') m'.length ∧ callable P f = true) :
    ∀ (os : List AOper) (x x' : L3), runOps n pureC inC os x = some x' → OW P n k0 os x (· = x')
  | [], x, x', h => by simp only [runOps, Option.some.injEq] at h; exact OW.nil h
  | o :: os, x, x', h => by
    simp only [runOps] at h
    split at h
    case isFalse => simp at h
    rename_i hd
    split at h
    · rename_i val ups acc he
      split at h
      · rename_i hu; exact OW.cons hd he hu (runOps_sound hp hi os _ _ h)
      · simp at h
    · rename_i f as he
      split at h
      · rename_i r m' hs
        unfold stepCall at hs
        split at hs
        · rename_i as' hsn
          split at hs
          · rename_i r' hr
            split at hs
            · rename_i hu
              simp only [Option.some.injEq, Prod.mk.injEq] at hs
              obtain ⟨rfl, rfl⟩ := hs
              obtain ⟨h1, h2⟩ := hp f as' _ hr
              exact OW.call hd he h2 hsn h1 hu (runOps_sound hp hi os _ _ h)
            · simp at hs
          · simp at hs
        · obtain ⟨h1, h2⟩ := hi f as x.m r m' hs
          exact OW.inl hd he h2 h1 (runOps_sound hp hi os _ _ h)
      · simp at h
    · simp at h
theorem runOpsD_sound {n : Nat} {pureC : FuncId → List AV → Option AV} (hp : ∀ f as r, pureC f as = some r → Fn P f as r ∧ callable P f = true) {dep : List (List Nat)} :
    ∀ (os : List AOper) (x x' : L3) (rs rs' : List Rec), runOpsD n pureC os x rs = some (x', rs') → idsOK rs' dep = true → DW P n dep os x rs (· = x')
  | [], x, x', rs, rs', h, hid => by
    simp only [runOpsD, Option.some.injEq, Prod.mk.injEq] at h
    obtain ⟨rfl, rfl⟩ := h
    exact DW.nil hid rfl
  | o :: os, x, x', rs, rs', h, hid => by
    simp only [runOpsD] at h
    split at h
    case isFalse => simp at h
    rename_i hd
    split at h
    · rename_i val ups acc he
      split at h
      · rename_i hu; exact DW.cons hd he hu (runOpsD_sound hp os _ _ _ _ h hid)
      · simp at h
    · rename_i f as he
      split at h
      · rename_i as' hsn
        split at h
        · rename_i r hr
          split at h
          · rename_i hu
            obtain ⟨h1, h2⟩ := hp f as' _ hr
            exact DW.call hd he h2 hsn h1 hu (runOpsD_sound hp os _ _ _ _ h hid)
          · simp at h
        · simp at h
      · simp at h
    · simp at h

theorem runC_sound (hT : Table P T) : ∀ (k : Nat) (n k0 : Nat) (ac : AC) (x : L3) (e : Ex) (x' : L3), runC T k n ac x = some (e, x') → EL P n k0 ac x fun e' y => e' = e ∧ y = x' := by
  intro k
  induction k using Nat.strongRecOn with
  | _ k ihk =>
  cases k with
  | zero => intro n k0 ac x e x' h; simp [runC] at h
  | succ k =>
    have ih := ihk k (by omega)
    intro n k0 ac x e x' h
    have hfull := h
    simp only [runC] at h
    generalize hpc : (fun (f : FuncId) (as : List AV) => match T f with
      | some F => if as.length ≤ F.n then match runC T k F.n F.code (start as) with
        | some (.normal, x) => ((resR (slot x.t) F.res).bind snapR).run (look x.m)
        | some (.ret, x) => ((resR (slot x.t) F.res).bind snapR).run (look x.m)
        | _ => none
        else none
      | none => none) = pureC at h
    generalize hic : (fun (f : FuncId) (as : List AV) (m : List (Option Bk)) => match T f with
      | some F => if as.length ≤ F.n then match runC T k F.n F.code ⟨startT 0 as, m⟩ with
        | some (.normal, x) => ((resR (slot x.t) F.res).run (look x.m)).map fun r => (r, x.m)
        | some (.ret, x) => ((resR (slot x.t) F.res).run (look x.m)).map fun r => (r, x.m)
        | _ => none
        else none
      | none => none) = inC at h
    have hp : ∀ f as r, pureC f as = some r → Fn P f as r ∧ callable P f = true := by
      intro f as r hr
      rw [← hpc] at hr
      simp only at hr
      split at hr
      · rename_i F hF
        obtain ⟨c1, c2⟩ := hT f F hF
        split at hr
        · rename_i hl
          split at hr
          · rename_i y hy
            exact ⟨fn_walk c1 hl ((ih F.n 0 F.code _ _ _ hy).conseq fun e' z ⟨h1, h2⟩ => by subst h1; subst h2; exact ⟨.inl rfl, hr⟩), c2⟩
          · rename_i y hy
            exact ⟨fn_walk c1 hl ((ih F.n 0 F.code _ _ _ hy).conseq fun e' z ⟨h1, h2⟩ => by subst h1; subst h2; exact ⟨.inr rfl, hr⟩), c2⟩
          · simp at hr
        · simp at hr
      · simp at hr
    have hi : ∀ f as m r m', inC f as m = some (r, m') → Fi P f as (look m) m.length r (look m') m'.length ∧ callable P f = true := by
      intro f as m r m' hr
      rw [← hic] at hr
      simp only at hr
      split at hr
      · rename_i F hF
        obtain ⟨c1, c2⟩ := hT f F hF
        split at hr
        · rename_i hl
          split at hr
          · rename_i y hy
            cases hres : (resR (slot y.t) F.res).run (look y.m) with
            | none => simp [hres] at hr
            | some r' =>
              simp only [hres, Option.map_some, Option.some.injEq, Prod.mk.injEq] at hr
              obtain ⟨rfl, rfl⟩ := hr
              exact ⟨fi_walk c1 hl ((ih F.n m.length F.code _ _ _ hy).conseq fun e' z ⟨h1, h2⟩ => by subst h1; subst h2; exact ⟨.inl rfl, hres, rfl⟩), c2⟩
          · rename_i y hy
            cases hres : (resR (slot y.t) F.res).run (look y.m) with
            | none => simp [hres] at hr
            | some r' =>
              simp only [hres, Option.map_some, Option.some.injEq, Prod.mk.injEq] at hr
              obtain ⟨rfl, rfl⟩ := hr
              exact ⟨fi_walk c1 hl ((ih F.n m.length F.code _ _ _ hy).conseq fun e' z ⟨h1, h2⟩ => by subst h1; subst h2; exact ⟨.inr rfl, hres, rfl⟩), c2⟩
          · simp at hr
        · simp at hr
      · simp at hr
    cases ac with
    | skip =>
      simp only [Option.some.injEq, Prod.mk.injEq] at h
      obtain ⟨rfl, rfl⟩ := h
      exact EL.skip ⟨rfl, rfl⟩
    | ret =>
      simp only [Option.some.injEq, Prod.mk.injEq] at h
      obtain ⟨rfl, rfl⟩ := h
      exact EL.ret ⟨rfl, rfl⟩
    | exit id =>
      simp only [Option.some.injEq, Prod.mk.injEq] at h
      obtain ⟨rfl, rfl⟩ := h
      exact EL.exit ⟨rfl, rfl⟩
    | rng gg ps a b => simp at h
    | reg os dep =>
      cases dep with
      | none =>
        simp only at h
        cases hr : runOps n pureC inC os x with
        | none => simp [hr] at h
        | some y =>
          simp only [hr, Option.map_some, Option.some.injEq, Prod.mk.injEq] at h
          obtain ⟨rfl, rfl⟩ := h
          refine EL.reg ?_
          obtain ⟨z, h1, h3⟩ := runOps_sound hp hi os x y hr
          exact ⟨z, h1, rfl, h3⟩
      | some dep =>
        simp only at h
        split at h
        · rename_i y rs hr
          split at h
          · rename_i hid
            simp only [Option.some.injEq, Prod.mk.injEq] at h
            obtain ⟨rfl, rfl⟩ := h
            refine EL.draw ?_
            obtain ⟨z, rs', h1, h2, h4⟩ := runOpsD_sound hp os x y [] rs hr hid
            exact ⟨z, rs', h1, h2, rfl, h4⟩
          · simp at h
        · simp at h
    | seq a b =>
      simp only at h
      refine EL.seq ?_
      split at h
      · rename_i y hy
        refine (ih n k0 a x _ _ hy).conseq ?_
        rintro e' z ⟨rfl, rfl⟩
        exact ih n k0 b z _ _ h
      · rename_i hne
        refine (ih n k0 a x _ _ h).conseq ?_
        rintro e' z ⟨rfl, rfl⟩
        cases e' with
        | normal => exact absurd h (hne _)
        | exit id => exact ⟨rfl, rfl⟩
        | ret => exact ⟨rfl, rfl⟩
    | cond c a b =>
      simp only at h
      split at h
      · rename_i hb
        exact EL.cond hb (fun _ => ih n k0 a x _ _ h) (fun hh => by simp at hh)
      · rename_i hb
        exact EL.cond hb (fun hh => by simp at hh) (fun _ => ih n k0 b x _ _ h)
      · simp at h
    | block id a =>
      simp only at h
      refine EL.block ?_
      split at h
      · rename_i i y hy
        refine (ih n k0 a x _ _ hy).conseq ?_
        rintro e' z ⟨rfl, rfl⟩
        simp only [Ex.inBlockL]
        split at h
        · rename_i hi'
          simp only [Option.some.injEq, Prod.mk.injEq] at h
          obtain ⟨rfl, rfl⟩ := h
          rw [if_pos hi']; exact ⟨rfl, rfl⟩
        · rename_i hi'
          simp only [Option.some.injEq, Prod.mk.injEq] at h
          obtain ⟨rfl, rfl⟩ := h
          rw [if_neg hi']; exact ⟨rfl, rfl⟩
      · rename_i hne
        refine (ih n k0 a x _ _ h).conseq ?_
        rintro e' z ⟨rfl, rfl⟩
        cases e' with
        | normal => exact ⟨rfl, rfl⟩
        | exit id => exact absurd h (hne _ _)
        | ret => exact ⟨rfl, rfl⟩
    | loop a =>
      refine EL.loop (fun j y => j ≤ k + 1 ∧ runC T j n (.loop a) y = some (e, x')) (m := k + 1) ⟨Nat.le_refl _, hfull⟩ ?_
      rintro j y ⟨hj, hy⟩
      cases j with
      | zero => simp [runC] at hy
      | succ j =>
        have ihj := ihk j (by omega)
        simp only [runC] at hy
        split at hy
        · rename_i z hz
          refine (ihj n k0 a y _ _ hz).conseq ?_
          rintro e' z' ⟨rfl, rfl⟩
          exact ⟨j, by omega, by omega, hy⟩
        · rename_i hne
          refine (ihj n k0 a y _ _ hy).conseq ?_
          rintro e' z' ⟨rfl, rfl⟩
          cases e' with
          | normal => exact absurd hy (hne _)
          | exit id => exact ⟨rfl, rfl⟩
          | ret => exact ⟨rfl, rfl⟩

theorem runF_sound (hT : Table P T) {k : Nat} {f : FuncId} {as : List AV} {r : AV} (h : runF T k f as = some r) : Fn P f as r := by
  unfold runF at h
  split at h
  · rename_i F hF
    obtain ⟨c1, c2⟩ := hT f F hF
    split at h
    · rename_i hl
      split at h
      · rename_i y hy
        exact fn_walk c1 hl ((runC_sound hT k F.n 0 F.code _ _ _ hy).conseq fun e' z ⟨h1, h2⟩ => by subst h1; subst h2; exact ⟨.inl rfl, h⟩)
      · rename_i y hy
        exact fn_walk c1 hl ((runC_sound hT k F.n 0 F.code _ _ _ hy).conseq fun e' z ⟨h1, h2⟩ => by subst h1; subst h2; exact ⟨.inr rfl, h⟩)
      · simp at h
    · simp at h
  · simp at h
end
end Go.Proofs.Ytdoaefekbbgcmaa
