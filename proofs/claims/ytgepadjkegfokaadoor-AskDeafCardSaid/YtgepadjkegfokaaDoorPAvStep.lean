/- Steps of a walk, each with its outcome written out. No condition. -/
import Derived.Test.YtgepadjkegfokaaDoorPAvRun
set_option linter.unusedSimpArgs false
set_option linter.unusedVariables false
namespace Go.Proofs.YtgepadjkegfokaaDoor
set_option linter.unusedSimpArgs false
set_option linter.unusedVariables false
open Go.RowKit
/-- What an operation answers and what becomes of own blocks. -/
def opV (o : AOper) (x : L3) : Option (AV × List (Nat × Option Bk)) :=
  match opE o x with
  | .done v u _ => some (v, u)
  | _ => none
/-- So many operations. -/
def runN (n : Nat) : Nat → List AOper → L3 → Option L3
  | 0, _, x => some x
  | _ + 1, [], _ => none
  | k + 1, o :: os, x => bif dstOK n o.dst then match opV o x with
      | some (v, u) => bif upsOK x.m.length u then runN n k os ⟨setA x.t o.dst v, mput x.m u⟩ else none
      | none => none
    else none
/-- What they looked at. -/
def recN : Nat → List AOper → L3 → List Rec
  | 0, _, _ => []
  | _ + 1, [], _ => []
  | k + 1, o :: os, x => match opE o x with
    | .done v u acc => ⟨o.dst, v, u, acc, x.m.length⟩ :: recN k os ⟨setA x.t o.dst v, mput x.m u⟩
    | _ => []
def keep (live : List Nat) : List (Nat × AV) → List (Nat × AV)
  | [] => []
  | (j, v) :: r => bif live.any (Nat.beq j) then (j, v) :: keep live r else keep live r
def L3.keep (live : List Nat) (x : L3) : L3 := ⟨YtgepadjkegfokaaDoor.keep live x.t, x.m⟩
theorem keep_slot (live : List Nat) : ∀ (t : List (Nat × AV)) (i : Nat), slot (keep live t) i = if live.any (Nat.beq i) = true then slot t i else .dead
  | [], i => by simp [keep, slot]
  | (j, v) :: r, i => by
    simp only [keep, slot]
    cases hb : Nat.beq i j with
    | true =>
      have := Nat.eq_of_beq_eq_true hb
      subst this
      cases hl : live.any (Nat.beq i) with
      | true => simp [slot]
      | false => simp [keep_slot live r, hl]
    | false =>
      cases hl : live.any (Nat.beq j) with
      | true => simp [slot, hb, keep_slot live r]
      | false => simp [keep_slot live r]
section
variable {P : Program} {n k0 : Nat} {x : L3} {K : L3 → Prop} {Q : Ex → L3 → Prop} {R : List AOper} {k : Nat}
theorem EL.prune {ac : AC} (live : List Nat) (h : EL P n k0 ac (x.keep live) Q) : EL P n k0 ac x Q := by
  refine EL.weak (y := x.keep live) (S3.le_slots (fun t => ?_) rfl rfl) h
  show slot (keep live x.t) t = slot x.t t ∨ slot (keep live x.t) t = .dead ∨ _
  rw [keep_slot]
  split
  · exact .inl rfl
  · exact .inr (.inl rfl)
theorem opV_done {o : AOper} {v : AV} {u : List (Nat × Option Bk)} (h : opV o x = some (v, u)) : ∃ acc, opE o x = .done v u acc := by
  unfold opV at h
  split at h
  · rename_i v' u' acc he
    simp only [Option.some.injEq, Prod.mk.injEq] at h
    obtain ⟨rfl, rfl⟩ := h
    exact ⟨acc, he⟩
  · simp at h
theorem runN_ow : ∀ (c : Nat) (os : List AOper) (x x' : L3), runN n c os x = some x' → OW P n k0 (os.drop c) x' K → OW P n k0 os x K
  | 0, os, x, x', h, hr => by simp only [runN, Option.some.injEq] at h; subst h; exact hr
  | c + 1, [], x, x', h, hr => by simp [runN] at h
  | c + 1, o :: os, x, x', h, hr => by
    simp only [runN] at h
    cases hd : dstOK n o.dst with
    | false => rw [hd] at h; simp at h
    | true =>
      rw [hd, cond_true] at h
      split at h
      · rename_i v u hv
        obtain ⟨acc, he⟩ := opV_done hv
        cases hu : upsOK x.m.length u with
        | false => rw [hu] at h; simp at h
        | true =>
          rw [hu, cond_true] at h
          exact OW.cons hd he hu (runN_ow c os _ x' h hr)
      · simp at h
theorem runN_dw {dep : List (List Nat)} : ∀ (c : Nat) (os : List AOper) (x x' : L3) (rs : List Rec), runN n c os x = some x' → DW P n dep (os.drop c) x' (rs ++ recN c os x) K → DW P n dep os x rs K
  | 0, os, x, x', rs, h, hr => by simp only [runN, Option.some.injEq] at h; subst h; simpa [recN] using hr
  | c + 1, [], x, x', rs, h, hr => by simp [runN] at h
  | c + 1, o :: os, x, x', rs, h, hr => by
    simp only [runN] at h
    cases hd : dstOK n o.dst with
    | false => rw [hd] at h; simp at h
    | true =>
      rw [hd, cond_true] at h
      split at h
      · rename_i v u hv
        obtain ⟨acc, he⟩ := opV_done hv
        cases hu : upsOK x.m.length u with
        | false => rw [hu] at h; simp at h
        | true =>
          rw [hu, cond_true] at h
          refine DW.cons hd he hu (runN_dw c os _ x' _ h ?_)
          simp only [recN, he] at hr
          simpa using hr
      · simp at h
/-- An operation of a region. -/
def opD (R : List AOper) (k : Nat) : AOper := (R[k]?).getD ⟨none, .mov (.c .dead), none⟩
theorem opD_drop (h : Nat.blt k R.length = true) : R.drop k = opD R k :: R.drop (k + 1) := by
  have hk : k < R.length := Nat.le_of_ble_eq_true h
  rw [List.drop_eq_getElem_cons hk]
  simp [opD, hk]
/-- So many operations more. -/
theorem OW.run (c : Nat) {x' : L3} (h : runN n c (R.drop k) x = some x') (hr : OW P n k0 (R.drop (k + c)) x' K) : OW P n k0 (R.drop k) x K :=
  runN_ow c _ x x' h (by rw [List.drop_drop]; exact hr)
/-- The last ones of a region, with which the code goes on; 'live': what is asked for further on. -/
theorem OW.last (c : Nat) (live : List Nat) {b : AC} {x' : L3} (h : (runN n c (R.drop k) x).map (L3.keep live) = some x') (he : (R.drop (k + c)).isEmpty = true) (hr : EL P n k0 b x' Q) : OW P n k0 (R.drop k) x fun y => EL P n k0 b y Q := by
  cases hy : runN n c (R.drop k) x with
  | none => rw [hy] at h; simp at h
  | some y =>
    rw [hy] at h
    simp only [Option.map_some, Option.some.injEq] at h
    refine OW.run c hy ?_
    rw [List.isEmpty_iff.1 he]
    exact OW.nil (EL.prune live (by rw [h]; exact hr))
theorem OW.end (c : Nat) {x' : L3} (h : runN n c (R.drop k) x = some x') (he : (R.drop (k + c)).isEmpty = true) (hr : K x') : OW P n k0 (R.drop k) x K := by
  refine OW.run c h ?_
  rw [List.isEmpty_iff.1 he]
  exact OW.nil hr
/-- One operation, of which it was shown what it gives. -/
theorem OW.op {v : AV} {u : List (Nat × Option Bk)} {x' : L3} (hl : Nat.blt k R.length = true) (h : opV (opD R k) x = some (v, u)) (hx : (bif dstOK n (opD R k).dst && upsOK x.m.length u then some (⟨setA x.t (opD R k).dst v, mput x.m u⟩ : L3) else none) = some x') (hr : OW P n k0 (R.drop (k + 1)) x' K) : OW P n k0 (R.drop k) x K := by
  rw [opD_drop hl]
  obtain ⟨acc, he⟩ := opV_done h
  cases hd : (dstOK n (opD R k).dst && upsOK x.m.length u) with
  | false => rw [hd] at hx; simp at hx
  | true =>
    rw [hd, cond_true] at hx
    simp only [Option.some.injEq] at hx
    subst hx
    simp only [Bool.and_eq_true] at hd
    exact OW.cons hd.1 he hd.2 hr
/-- A call of a function that sees no own block. -/
theorem OW.fn {f : FuncId} {ar bs : List AV} {r : AV} {x' : L3} (hl : Nat.blt k R.length = true) (h : opE (opD R k) x = .call f ar) (hc : callable P f = true) (hf : Fn P f bs r) (hs : (snapAs ar).run (look x.m) = some bs)
    (hx : (bif dstOK n (opD R k).dst && upsOK x.m.length (callUps ar r) then some (⟨setA x.t (opD R k).dst r, mput x.m (callUps ar r)⟩ : L3) else none) = some x') (hr : OW P n k0 (R.drop (k + 1)) x' K) : OW P n k0 (R.drop k) x K := by
  rw [opD_drop hl]
  cases hd : (dstOK n (opD R k).dst && upsOK x.m.length (callUps ar r)) with
  | false => rw [hd] at hx; simp at hx
  | true =>
    rw [hd, cond_true] at hx
    simp only [Option.some.injEq] at hx
    subst hx
    simp only [Bool.and_eq_true] at hd
    exact OW.call hd.1 h hc hs hf hd.2 hr
theorem OW.fi {f : FuncId} {ar : List AV} {r : AV} {m' : List (Option Bk)} {x' : L3} (hl : Nat.blt k R.length = true) (h : opE (opD R k) x = .call f ar) (hc : callable P f = true) (hf : Fi P f ar (look x.m) x.m.length r (look m') m'.length)
    (hx : (bif dstOK n (opD R k).dst then some (⟨setA x.t (opD R k).dst r, m'⟩ : L3) else none) = some x') (hr : OW P n k0 (R.drop (k + 1)) x' K) : OW P n k0 (R.drop k) x K := by
  rw [opD_drop hl]
  cases hd : dstOK n (opD R k).dst with
  | false => rw [hd] at hx; simp at hx
  | true =>
    rw [hd, cond_true] at hx
    simp only [Option.some.injEq] at hx
    subst hx
    exact OW.inl hd h hc hf hr
theorem EL.sreg {b : AC} (h : OW P n k0 (R.drop 0) x fun y => EL P n k0 b y Q) : EL P n k0 (.seq (.reg R none) b) x Q := EL.seq (EL.reg (by have := h; rw [List.drop_zero] at this; exact this))
theorem EL.reg0 (h : OW P n k0 (R.drop 0) x (Q .normal)) : EL P n k0 (.reg R none) x Q := EL.reg (by simpa using h)
theorem DW.run {dep : List (List Nat)} {rs : List Rec} (c : Nat) {x' : L3} (h : runN n c (R.drop k) x = some x') (hr : DW P n dep (R.drop (k + c)) x' (rs ++ recN c (R.drop k) x) K) : DW P n dep (R.drop k) x rs K :=
  runN_dw c _ x x' rs h (by rw [List.drop_drop]; exact hr)
theorem DW.last {dep : List (List Nat)} {rs : List Rec} (c : Nat) (live : List Nat) {b : AC} {x' : L3} (h : (runN n c (R.drop k) x).map (L3.keep live) = some x') (he : ((R.drop (k + c)).isEmpty && idsOK (rs ++ recN c (R.drop k) x) dep) = true) (hr : EL P n k0 b x' Q) : DW P n dep (R.drop k) x rs fun y => EL P n k0 b y Q := by
  simp only [Bool.and_eq_true] at he
  cases hy : runN n c (R.drop k) x with
  | none => rw [hy] at h; simp at h
  | some y =>
    rw [hy] at h
    simp only [Option.map_some, Option.some.injEq] at h
    refine DW.run c hy ?_
    rw [List.isEmpty_iff.1 he.1]
    exact DW.nil he.2 (EL.prune live (by rw [h]; exact hr))
theorem DW.end {dep : List (List Nat)} {rs : List Rec} (c : Nat) {x' : L3} (h : runN n c (R.drop k) x = some x') (he : ((R.drop (k + c)).isEmpty && idsOK (rs ++ recN c (R.drop k) x) dep) = true) (hr : K x') : DW P n dep (R.drop k) x rs K := by
  simp only [Bool.and_eq_true] at he
  refine DW.run c h ?_
  rw [List.isEmpty_iff.1 he.1]
  exact DW.nil he.2 hr
theorem DW.op {dep : List (List Nat)} {rs : List Rec} {v : AV} {u : List (Nat × Option Bk)} {x' : L3} (hl : Nat.blt k R.length = true) (hg : guardA (slot x.t) (opD R k).guard = some true) (h : opV (opD R k) x = some (v, u)) (hx : (bif dstOK n (opD R k).dst && upsOK x.m.length u then some (⟨setA x.t (opD R k).dst v, mput x.m u⟩ : L3) else none) = some x') (hr : DW P n dep (R.drop (k + 1)) x' (rs ++ [⟨(opD R k).dst, v, u, accOf (opD R k).ao x, x.m.length⟩]) K) : DW P n dep (R.drop k) x rs K := by
  rw [opD_drop hl]
  obtain ⟨acc, he⟩ := opV_done h
  have hacc : acc = accOf (opD R k).ao x := by
    unfold opE at he
    rw [hg] at he
    simp only at he
    split at he
    · simp only [EvR.done.injEq] at he; exact he.2.2.symm
    · simp at he
    · simp at he
  subst hacc
  cases hd : (dstOK n (opD R k).dst && upsOK x.m.length u) with
  | false => rw [hd] at hx; simp at hx
  | true =>
    rw [hd, cond_true] at hx
    simp only [Option.some.injEq] at hx
    subst hx
    simp only [Bool.and_eq_true] at hd
    exact DW.cons hd.1 he hd.2 hr
theorem DW.fn {dep : List (List Nat)} {rs : List Rec} {f : FuncId} {ar bs : List AV} {r : AV} {x' : L3} (hl : Nat.blt k R.length = true) (h : opE (opD R k) x = .call f ar) (hc : callable P f = true) (hf : Fn P f bs r) (hs : (snapAs ar).run (look x.m) = some bs)
    (hx : (bif dstOK n (opD R k).dst && upsOK x.m.length (callUps ar r) then some (⟨setA x.t (opD R k).dst r, mput x.m (callUps ar r)⟩ : L3) else none) = some x') (hr : DW P n dep (R.drop (k + 1)) x' (rs ++ [⟨(opD R k).dst, r, callUps ar r, accCall (opD R k).ao ar x, x.m.length⟩]) K) : DW P n dep (R.drop k) x rs K := by
  rw [opD_drop hl]
  cases hd : (dstOK n (opD R k).dst && upsOK x.m.length (callUps ar r)) with
  | false => rw [hd] at hx; simp at hx
  | true =>
    rw [hd, cond_true] at hx
    simp only [Option.some.injEq] at hx
    subst hx
    simp only [Bool.and_eq_true] at hd
    exact DW.call hd.1 h hc hs hf hd.2 hr
theorem DW.fi {dep : List (List Nat)} {rs : List Rec} {f : FuncId} {ar : List AV} {r : AV} {m' : List (Option Bk)} {x' : L3} (hl : Nat.blt k R.length = true) (h : opE (opD R k) x = .call f ar) (hc : callable P f = true) (hf : Fi P f ar (look x.m) x.m.length r (look m') m'.length)
    (hid : idsOK rs dep = true) (hb : barOK dep rs.length (rs.length + 1 + (R.drop (k + 1)).length) = true) (hx : (bif dstOK n (opD R k).dst then some (⟨setA x.t (opD R k).dst r, m'⟩ : L3) else none) = some x') (hr : DW P n dep (R.drop (k + 1)) x' (List.replicate (rs.length + 1) (dumR m'.length)) K) : DW P n dep (R.drop k) x rs K := by
  rw [opD_drop hl]
  cases hd : dstOK n (opD R k).dst with
  | false => rw [hd] at hx; simp at hx
  | true =>
    rw [hd, cond_true] at hx
    simp only [Option.some.injEq] at hx
    subst hx
    exact DW.bar hd h hc hf hid hb hr
theorem EL.sdraw {dep : List (List Nat)} {b : AC} (h : DW P n dep (R.drop 0) x [] fun y => EL P n k0 b y Q) : EL P n k0 (.seq (.reg R (some dep)) b) x Q := EL.seq (EL.draw (by have := h; rw [List.drop_zero] at this; exact this))
theorem EL.draw0 {dep : List (List Nat)} (h : DW P n dep (R.drop 0) x [] (Q .normal)) : EL P n k0 (.reg R (some dep)) x Q := EL.draw (by simpa using h)
/-- The slots that live, in order. -/
def L3.ord (live : List Nat) (x : L3) : L3 := ⟨live.map fun j => (j, slot x.t j), x.m⟩
theorem ord_slot (t : List (Nat × AV)) : ∀ (live : List Nat) (i : Nat), slot (live.map fun j => (j, slot t j)) i = slot t i ∨ slot (live.map fun j => (j, slot t j)) i = .dead
  | [], i => .inr rfl
  | j :: r, i => by
    simp only [List.map_cons, slot]
    cases hb : Nat.beq i j with
    | true =>
      have := Nat.eq_of_beq_eq_true hb
      subst this
      exact .inl rfl
    | false => exact ord_slot t r i
/-- A relation by name, so that nothing is rewritten in it. -/
structure IsI (I J : L3 → Prop) : Prop where
  eq : I = J
theorem IsI.get {I J : L3 → Prop} (h : IsI I J) {y : L3} (hy : J y) : I y := h.eq ▸ hy
/-- Ways that come to the same: what follows is walked once. -/
theorem EL.seqG {a b : AC} (live : List Nat) (J : L3 → Prop) (h : ∀ I : L3 → Prop, IsI I J → EL P n k0 a x (Ex.thenL (fun y => I (L3.ord live y)) Q)) (hb : ∀ y, J y → EL P n k0 b y Q) : EL P n k0 (.seq a b) x Q := by
  refine EL.seq (EL.conseq (h J ⟨rfl⟩) fun e y hy => ?_)
  cases e with
  | normal =>
    refine EL.weak (y := L3.ord live y) (S3.le_slots (fun t => ?_) rfl rfl) (hb _ hy)
    rcases ord_slot y.t live t with h | h
    · exact .inl h
    · exact .inr (.inl h)
  | exit i => exact hy
  | ret => exact hy
theorem thenL_norm {f : L3 → Prop} (h : f x) : Ex.thenL f Q .normal x := h
theorem thenL_exit {f : L3 → Prop} {i : Nat} (h : Q (.exit i) x) : Ex.thenL f Q (.exit i) x := h
theorem thenL_ret {f : L3 → Prop} (h : Q .ret x) : Ex.thenL f Q .ret x := h
theorem inBlk_norm {id : Nat} (h : Q .normal x) : Ex.inBlockL id Q .normal x := h
theorem inBlk_ret {id : Nat} (h : Q .ret x) : Ex.inBlockL id Q .ret x := h
theorem inBlk_hit {id : Nat} (h : Q .normal x) : Ex.inBlockL id Q (.exit id) x := by simp only [Ex.inBlockL, if_true]; exact h
theorem EL.condT {b : Arg} {y z : AC} (hb : argσ (slot x.t) b = .v (.bool true)) (h : EL P n k0 y x Q) : EL P n k0 (.cond b y z) x Q := EL.cond hb (fun _ => h) (fun e => by simp at e)
theorem EL.condF {b : Arg} {y z : AC} (hb : argσ (slot x.t) b = .v (.bool false)) (h : EL P n k0 z x Q) : EL P n k0 (.cond b y z) x Q := EL.cond hb (fun e => by simp at e) (fun _ => h)
theorem wr64 {n : Int} (h : -9223372036854775808 ≤ n ∧ n ≤ 9223372036854775807) : IntKind.i64.wrap n = n := by rw [IntKind.wrap_i64]; omega
abbrev VI (n : Int) : AV := .v (.int .i64 n)
abbrev OB := Option Bk
abbrev LB := List (Option Bk)
abbrev LS := List (Nat × AV)
abbrev cI (n : Int) : List AV := [VI n]
end
end Go.Proofs.YtgepadjkegfokaaDoor
