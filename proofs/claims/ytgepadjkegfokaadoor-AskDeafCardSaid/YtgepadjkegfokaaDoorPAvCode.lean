/- The code of a function upon abstract values. No condition. -/
import Derived.Test.YtgepadjkegfokaaDoorPAvBar
set_option linter.unusedSimpArgs false
set_option linter.unusedVariables false
namespace Go.Proofs.YtgepadjkegfokaaDoor
set_option linter.unusedSimpArgs false
set_option linter.unusedVariables false
open Go.RowKit
inductive AC where
  | skip
  | reg (os : List AOper) (dep : Option (List (List Nat)))
  | seq (a b : AC)
  | cond (c : Arg) (a b : AC)
  | block (id : Nat) (a : AC)
  | loop (a : AC)
  | exit (id : Nat)
  | ret
  | rng (g : Arg) (ps : List Nat) (a b : AC)
/-- Does it hold a range over a function? -/
def AC.hasRng : AC → Bool
  | .seq a b | .cond _ a b => a.hasRng || b.hasRng
  | .block _ a | .loop a => a.hasRng
  | .rng _ _ _ _ => true
  | _ => false
def cOpers (P : Program) (ops : Array Oper) : List Oper → Option (List AOper)
  | [] => some []
  | o :: r => match cOper P ops o, cOpers P ops r with
    | some x, some l => some (x :: l)
    | _, _ => none
/-- Who comes before whom, in any order. -/
def depsOf (ops : List Oper) : List (List Nat) :=
  ops.foldl (fun acc o => acc ++ [(dirOf o ++ (dirOf o).flatMap fun e => (acc[e]?).getD []).eraseDups]) []
def cCode (P : Program) : Code → Option AC
  | .skip => some .skip
  | .region _ ops draw => match cOpers P ops ops.toList with
    | some os => if draw = true then
        (if depOK ops.toList (depsOf ops.toList) = true ∧ slotsOK os (depsOf ops.toList) = true ∧ P.follows .mixedOrders = true then some (.reg os (some (depsOf ops.toList))) else none)
      else some (.reg os none)
    | none => none
  | .seq a b => match cCode P a, cCode P b with
    | some x, some y => some (.seq x y)
    | _, _ => none
  | .cond c a b => match cArg c, cCode P a, cCode P b with
    | some c, some x, some y => some (.cond c x y)
    | _, _, _ => none
  | .block id a => (cCode P a).map (.block id)
  | .loop a => (cCode P a).map .loop
  | .exit id => some (.exit id)
  | .ret => some .ret
  | .rangeFunc g ps a b => match cArg g, cCode P a, cCode P b with
    | some g, some x, some y => some (.rng g ps.toList x y)
    | _, _, _ => none
  | _ => none
/-- What is known of a frame and of own blocks. -/
structure S3 where
  σ : Nat → AV
  g : Nat → Option Bk
  k : Nat
inductive Ex where
  | normal
  | exit (id : Nat)
  | ret
def Ex.up : Ex → Exit
  | .normal => .normal
  | .exit id => .exit id
  | .ret => .ret
/-- From the state s on the code ends in Q. n: slots; k0: the names below are the caller's. -/
def EW (P : Program) (n k0 : Nat) (ac : AC) (s : S3) (Q : Ex → S3 → Prop) : Prop :=
  ∀ (rd : Option Nat) (c : Code) (E0 : Env) (J : Nat → Prop) (base : Nat) (w0 : World) (a : Act) (w : World), (ac.hasRng = true → rd = none) → cCode P c = some ac → (∀ id, E0.kn id → id < k0) → RelS E0 J base w0 n s.σ s.g s.k a w →
    c.wpIn (rnd rd) 0 P (fun e a' w' => ∃ x s', Q x s' ∧ e = x.up ∧ RelS E0 J base w0 n s'.σ s'.g s'.k a' w') a w
section
variable {P : Program} {n k0 : Nat} {s : S3} {Q : Ex → S3 → Prop}
theorem EW.conseq {ac : AC} {Q' : Ex → S3 → Prop} (h : EW P n k0 ac s Q) (hq : ∀ x s, Q x s → Q' x s) : EW P n k0 ac s Q' := by
  intro rd c E0 J base w0 a w hrd hc hk hr
  exact wpIn_mono (h rd c E0 J base w0 a w hrd hc hk hr) fun e a' w' ⟨x, s', h1, h2, h3⟩ => ⟨x, s', hq x s' h1, h2, h3⟩
/-- What is known less well. -/
def S3.Le (k0 n : Nat) (s s' : S3) : Prop := ∀ (E0 : Env) (J : Nat → Prop) (base : Nat) (w0 : World) (a : Act) (w : World), (∀ id, E0.kn id → id < k0) → RelS E0 J base w0 n s.σ s.g s.k a w → RelS E0 J base w0 n s'.σ s'.g s'.k a w
theorem EW.weak {ac : AC} {s' : S3} (hs : s.Le k0 n s') (h : EW P n k0 ac s' Q) : EW P n k0 ac s Q := by
  intro rd c E0 J base w0 a w hrd hc hk hr
  exact h rd c E0 J base w0 a w hrd hc hk (hs E0 J base w0 a w hk hr)
theorem cCode_skip {c : Code} (h : cCode P c = some .skip) : c = .skip := by
  cases c <;> simp [cCode] at h ⊢
  case region id ops draw =>
    split at h
    · split at h
      · split at h <;> simp at h
      · simp at h
    · simp at h
  case seq a b => split at h <;> simp at h
  case cond c a b => split at h <;> simp at h
  case rangeFunc => split at h <;> simp at h
theorem EW.skip (h : Q .normal s) : EW P n k0 .skip s Q := by
  intro rd c E0 J base w0 a w hrd hc hk hr
  rw [cCode_skip hc]
  exact wpIn_skip ⟨.normal, s, h, rfl, hr⟩
theorem cCode_ret {c : Code} (h : cCode P c = some .ret) : c = .ret := by
  cases c <;> simp [cCode] at h ⊢
  case region id ops draw =>
    split at h
    · split at h
      · split at h <;> simp at h
      · simp at h
    · simp at h
  case seq a b => split at h <;> simp at h
  case cond c a b => split at h <;> simp at h
  case rangeFunc => split at h <;> simp at h
theorem EW.ret (h : Q .ret s) : EW P n k0 .ret s Q := by
  intro rd c E0 J base w0 a w hrd hc hk hr
  rw [cCode_ret hc]
  exact wpIn_ret ⟨.ret, s, h, rfl, hr⟩
theorem cCode_exit {c : Code} {id : Nat} (h : cCode P c = some (.exit id)) : c = .exit id := by
  cases c <;> simp [cCode] at h ⊢
  case region id ops draw =>
    split at h
    · split at h
      · split at h <;> simp at h
      · simp at h
    · simp at h
  case seq a b => split at h <;> simp at h
  case cond c a b => split at h <;> simp at h
  case rangeFunc => split at h <;> simp at h
  case exit => exact h
theorem EW.exit {id : Nat} (h : Q (.exit id) s) : EW P n k0 (.exit id) s Q := by
  intro rd c E0 J base w0 a w hrd hc hk hr
  rw [cCode_exit hc]
  exact wpIn_exit ⟨.exit id, s, h, rfl, hr⟩
theorem cCode_seq {c : Code} {x y : AC} (h : cCode P c = some (.seq x y)) : ∃ a b, c = .seq a b ∧ cCode P a = some x ∧ cCode P b = some y := by
  cases c with
  | seq a b =>
    simp only [cCode] at h
    split at h
    · rename_i h1 h2
      simp only [Option.some.injEq, AC.seq.injEq] at h
      obtain ⟨rfl, rfl⟩ := h
      exact ⟨a, b, rfl, h1, h2⟩
    · simp at h
  | _ =>
    exfalso
    simp only [cCode] at h
    repeat' (first | (simp at h; done) | split at h)
def Ex.then (next : S3 → Prop) (Q : Ex → S3 → Prop) : Ex → S3 → Prop
  | .normal, s => next s
  | e, s => Q e s
theorem EW.seq {x y : AC} (h : EW P n k0 x s (Ex.then (fun s' => EW P n k0 y s' Q) Q)) : EW P n k0 (.seq x y) s Q := by
  intro rd c E0 J base w0 a w hrd hc hk hr
  obtain ⟨ca, cb, rfl, h1, h2⟩ := cCode_seq hc
  refine wpIn_seq (wpIn_mono (h rd ca E0 J base w0 a w (fun hh => hrd (by simp [AC.hasRng, hh])) h1 hk hr) ?_)
  rintro e a' w' ⟨x, s', hq, rfl, hr'⟩
  cases x with
  | normal => exact hq rd cb E0 J base w0 a' w' (fun hh => hrd (by simp [AC.hasRng, hh])) h2 hk hr'
  | exit id => exact ⟨.exit id, s', hq, rfl, hr'⟩
  | ret => exact ⟨.ret, s', hq, rfl, hr'⟩
theorem cCode_cond {c : Code} {b : Arg} {x y : AC} (h : cCode P c = some (.cond b x y)) : ∃ o p q, c = .cond o p q ∧ cArg o = some b ∧ cCode P p = some x ∧ cCode P q = some y := by
  cases c with
  | cond c p q =>
    simp only [cCode] at h
    split at h
    · rename_i h1 h2 h3
      simp only [Option.some.injEq, AC.cond.injEq] at h
      obtain ⟨rfl, rfl, rfl⟩ := h
      exact ⟨c, p, q, rfl, h1, h2, h3⟩
    · simp at h
  | _ =>
    exfalso
    simp only [cCode] at h
    repeat' (first | (simp at h; done) | split at h)
theorem EW.cond {b : Arg} {x y : AC} {t : Bool} (hb : argσ s.σ b = .v (.bool t)) (h : EW P n k0 (if t = true then x else y) s Q) : EW P n k0 (.cond b x y) s Q := by
  intro rd c E0 J base w0 a w hrd hc hk hr
  obtain ⟨o, p, q, rfl, h1, h2, h3⟩ := cCode_cond hc
  obtain ⟨E, rfl, hle, hs, hm, hkn, hmk⟩ := hr.ex
  have := Args.of (hr.gl.step hle) hs o b h1
  rw [hb] at this
  refine wpIn_cond this.v_inv ?_
  cases t with
  | true => exact h rd p E0 J base w0 a _ (fun hh => hrd (by simp only [if_true] at hh; simp [AC.hasRng, hh])) h2 hk hr
  | false => exact h rd q E0 J base w0 a _ (fun hh => hrd (by simp only [Bool.false_eq_true, if_false] at hh; simp [AC.hasRng, hh])) h3 hk hr
theorem cCode_block {c : Code} {id : Nat} {x : AC} (h : cCode P c = some (.block id x)) : ∃ b, c = .block id b ∧ cCode P b = some x := by
  cases c with
  | block i b =>
    simp only [cCode] at h
    cases hb : cCode P b with
    | none => simp [hb] at h
    | some y =>
      simp only [hb, Option.map_some, Option.some.injEq, AC.block.injEq] at h
      obtain ⟨rfl, rfl⟩ := h
      exact ⟨b, rfl, hb⟩
  | _ =>
    exfalso
    simp only [cCode] at h
    repeat' (first | (simp at h; done) | split at h)
def Ex.inBlock (id : Nat) (Q : Ex → S3 → Prop) : Ex → S3 → Prop
  | .exit i, s => if i = id then Q .normal s else Q (.exit i) s
  | e, s => Q e s
theorem EW.block {id : Nat} {x : AC} (h : EW P n k0 x s (Ex.inBlock id Q)) : EW P n k0 (.block id x) s Q := by
  intro rd c E0 J base w0 a w hrd hc hk hr
  obtain ⟨b, rfl, h1⟩ := cCode_block hc
  refine wpIn_block (wpIn_mono (h rd b E0 J base w0 a w (fun hh => hrd (by simp only [AC.hasRng]; exact hh)) h1 hk hr) ?_)
  rintro e a' w' ⟨x, s', hq, rfl, hr'⟩
  cases x with
  | normal => exact ⟨.normal, s', hq, rfl, hr'⟩
  | exit i =>
    simp only [Ex.inBlock] at hq
    simp only [Ex.up, Exit.inBlock]
    split
    · rename_i hi; rw [if_pos hi] at hq; exact ⟨.normal, s', hq, rfl, hr'⟩
    · rename_i hi; rw [if_neg hi] at hq; exact ⟨.exit i, s', hq, rfl, hr'⟩
  | ret => exact ⟨.ret, s', hq, rfl, hr'⟩
theorem cCode_loop {c : Code} {x : AC} (h : cCode P c = some (.loop x)) : ∃ b, c = .loop b ∧ cCode P b = some x := by
  cases c with
  | loop b =>
    simp only [cCode] at h
    cases hb : cCode P b with
    | none => simp [hb] at h
    | some y =>
      simp only [hb, Option.map_some, Option.some.injEq, AC.loop.injEq] at h
      subst h
      exact ⟨b, rfl, hb⟩
  | _ =>
    exfalso
    simp only [cCode] at h
    repeat' (first | (simp at h; done) | split at h)
theorem wp_loopN {F : Fence} {nn : Nat} {c : Code} {Q : Exit → Act → World → Prop} {a : Act} {w : World} (I : Nat → Act → World → Prop) {m : Nat} (h₀ : I m a w)
    (round : ∀ m a w, I m a w → c.wpIn F nn P (Exit.then (fun a' w' => ∃ m', m' < m ∧ I m' a' w') Q) a w) : (Code.loop c).wpIn F nn P Q a w := by
  intro b k cs hro hb hr
  have key : ∀ m a w, I m a w → ∃ e a' w', Q e a' w' ∧ ArrivesIn (Machine.fenced P F) P (lone (b.atR a (.code c :: .inLoop c :: k)) cs w) b k cs e a' w' := by
    intro m
    induction m using Nat.strongRecOn with
    | _ m ih =>
      intro a w hI
      obtain ⟨e, a₁, w₁, hq, harr⟩ := round m a w hI b (.inLoop c :: k) cs hro hb hr
      cases e with
      | normal =>
        obtain ⟨m', hlt, hI₁⟩ := hq
        obtain ⟨e₂, a₂, w₂, hq₂, harr₂⟩ := ih m' hlt a₁ w₁ hI₁
        exact ⟨e₂, a₂, w₂, hq₂, .of_steps (StepsIn.trans harr (.one (fenced_calm hb hr rfl) stepR_inLoop)) harr₂⟩
      | exit id => exact ⟨_, a₁, w₁, hq, .pass (x := .inLoop c) rfl (fun _ _ => .inl (by simp)) harr⟩
      | goto l => exact ⟨_, a₁, w₁, hq, .pass (x := .inLoop c) rfl (fun _ _ => .inl (by simp)) harr⟩
      | ret => exact ⟨_, a₁, w₁, hq, .pass (x := .inLoop c) rfl (fun _ _ => .inl (by simp)) harr⟩
      | panic ch => exact ⟨_, a₁, w₁, hq, .pass (x := .inLoop c) rfl (fun _ _ => .inl (by simp)) harr⟩
      | outgrown => exact ⟨_, a₁, w₁, hq, .pass (x := .inLoop c) rfl (fun _ _ => .inl (by simp)) harr⟩
  obtain ⟨e, a', w', hq, harr⟩ := key m a w h₀
  exact ⟨e, a', w', hq, .of_steps (.one (fenced_calm hb hr rfl) stepR_loop) harr⟩
/-- A loop with a relation that counts down. -/
theorem EW.loop {x : AC} (I : Nat → S3 → Prop) {m : Nat} (h0 : I m s) (round : ∀ m s, I m s → EW P n k0 x s (Ex.then (fun s' => ∃ m', m' < m ∧ I m' s') Q)) : EW P n k0 (.loop x) s Q := by
  intro rd c E0 J base w0 a w hrd hc hk hr
  obtain ⟨b, rfl, h1⟩ := cCode_loop hc
  refine wp_loopN (fun m a w => ∃ s, I m s ∧ RelS E0 J base w0 n s.σ s.g s.k a w) (m := m) ⟨s, h0, hr⟩ ?_
  rintro m a w ⟨s, hI, hr⟩
  refine wpIn_mono (round m s hI rd b E0 J base w0 a w (fun hh => hrd (by simp only [AC.hasRng]; exact hh)) h1 hk hr) ?_
  rintro e a' w' ⟨x, s', hq, rfl, hr'⟩
  cases x with
  | normal =>
    obtain ⟨m', hm, hI'⟩ := hq
    exact ⟨m', hm, s', hI', hr'⟩
  | exit id => exact ⟨.exit id, s', hq, rfl, hr'⟩
  | ret => exact ⟨.ret, s', hq, rfl, hr'⟩
theorem cOpers_get {ops : Array Oper} : ∀ {l : List Oper} {os : List AOper}, cOpers P ops l = some os → l.length = os.length ∧ ∀ (j : Nat) op, l[j]? = some op → ∃ o, os[j]? = some o ∧ cOper P ops op = some o
  | [], os, h => by simp only [cOpers, Option.some.injEq] at h; subst h; exact ⟨rfl, fun j op hj => by simp at hj⟩
  | o :: r, os, h => by
    simp only [cOpers] at h
    split at h
    · rename_i x l h1 h2
      simp only [Option.some.injEq] at h; subst h
      obtain ⟨k1, k2⟩ := cOpers_get h2
      refine ⟨by simp [k1], fun j op hj => ?_⟩
      cases j with
      | zero => simp at hj; subst hj; exact ⟨x, rfl, h1⟩
      | succ j => simp at hj ⊢; exact k2 j op hj
    · simp at h
theorem cCode_reg {c : Code} {os : List AOper} {dep : Option (List (List Nat))} (h : cCode P c = some (.reg os dep)) : ∃ id ops draw, c = .region id ops draw ∧ cOpers P ops ops.toList = some os ∧
    ((draw = false ∧ dep = none) ∨ (draw = true ∧ ∃ d, dep = some d ∧ depOK ops.toList d = true ∧ slotsOK os d = true ∧ P.follows .mixedOrders = true)) := by
  cases c with
  | region id ops draw =>
    simp only [cCode] at h
    split at h
    · rename_i os' h1
      split at h
      · rename_i hd
        split at h
        · rename_i hc
          simp only [Option.some.injEq, AC.reg.injEq] at h
          obtain ⟨rfl, rfl⟩ := h
          exact ⟨id, ops, draw, rfl, h1, .inr ⟨hd, _, rfl, hc.1, hc.2.1, hc.2.2⟩⟩
        · simp at h
      · rename_i hd
        simp only [Option.some.injEq, AC.reg.injEq] at h
        obtain ⟨rfl, rfl⟩ := h
        exact ⟨id, ops, draw, rfl, h1, .inl ⟨by simpa using hd, rfl⟩⟩
    · simp at h
  | _ =>
    exfalso
    simp only [cCode] at h
    repeat' (first | (simp at h; done) | split at h)
theorem EW.reg {os : List AOper} {s' : S3} (h : OpsRun P n k0 os s.σ s.g s.k s'.σ s'.g s'.k) (hq : Q .normal s') : EW P n k0 (.reg os none) s Q := by
  intro rd c E0 J base w0 a w hrd hc hk hr
  obtain ⟨id, ops, draw, rfl, h1, h2⟩ := cCode_reg hc
  rcases h2 with ⟨rfl, _⟩ | ⟨_, d, hd, _⟩
  · obtain ⟨k1, k2⟩ := cOpers_get h1
    refine wpIn_region ?_
    have hsz : ops.size = os.length := by rw [← k1]; simp
    rw [List.range_eq_range', hsz]
    refine opsRun_sound (ops := ops) hk h 0 a w (fun j hj => ?_) hr fun a' w' hr' => ⟨.normal, s', hq, rfl, hr'⟩
    have hjs : j < ops.size := by omega
    obtain ⟨o, m1, m2⟩ := k2 j ops[j] (by simp [hjs])
    exact ⟨ops[j], by rw [Nat.zero_add]; exact Array.getElem?_eq_getElem hjs, o, m1, m2⟩
  · simp at hd
theorem EW.draw {os : List AOper} {dep : List (List Nat)} {s' : S3} (h : DrawB P n dep os s.σ s.g s.k [] s'.σ s'.g s'.k) (hq : Q .normal s') : EW P n k0 (.reg os (some dep)) s Q := by
  intro rd c E0 J base w0 a w hrd hc hk hr
  obtain ⟨id, ops, draw, rfl, h1, h2⟩ := cCode_reg hc
  rcases h2 with ⟨rfl, hh⟩ | ⟨rfl, d, hd, h3, h4, h5⟩
  · simp at hh
  · simp only [Option.some.injEq] at hd
    subst hd
    obtain ⟨k1, k2⟩ := cOpers_get h1
    refine region_drawB h5 h (by rw [← k1]; simp) (fun j op hj => k2 j op (by simpa using hj)) h3 h4 (fun a' w' hr' => ⟨.normal, s', hq, rfl, hr'⟩) hr
end
end Go.Proofs.YtgepadjkegfokaaDoor
