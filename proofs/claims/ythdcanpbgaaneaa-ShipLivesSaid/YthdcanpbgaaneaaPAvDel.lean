/- slices.Delete of one element of a list that one owns, whatever the elements. No condition. -/
import Derived.Test.YthdcanpbgaaneaaPAvNorm
set_option linter.unusedSimpArgs false
set_option linter.unusedVariables false
set_option maxRecDepth 100000
namespace Go.Proofs.Ythdcanpbgaaneaa
set_option linter.unusedSimpArgs false
set_option linter.unusedVariables false
open Go.RowKit
def Del1 (sz : Nat) : List AOper := [⟨some 8, .mov (.s 0), none⟩, ⟨some 9, .mov (.s 1), none⟩, ⟨some 10, .mov (.s 2), none⟩, ⟨some 11, .mov (.s 0), none⟩, ⟨some 12, .len false (.s 11), none⟩, ⟨some 13, .slc sz (.s 8) (some (.s 9)) (some (.s 10)) (some (.s 12)), none⟩]
def Del2 : List AOper := [⟨some 14, .mov (.s 1), none⟩, ⟨some 15, .mov (.s 2), none⟩, ⟨some 16, .bin false .eql (.s 14) (.s 15), none⟩]
def Del3 : List AOper := [⟨some 17, .mov (.s 0), none⟩, ⟨some 6, .mov (.s 17), none⟩]
def Del4 : List AOper := [⟨some 18, .mov (.s 0), none⟩, ⟨some 19, .len false (.s 18), none⟩, ⟨some 7, .mov (.s 19), none⟩]
def Del5 (sz by_ : Nat) : List AOper := [⟨some 20, .mov (.s 0), none⟩, ⟨some 21, .mov (.s 1), none⟩, ⟨some 22, .slc sz (.s 20) none (some (.s 21)) none, none⟩, ⟨some 23, .mov (.s 0), none⟩, ⟨some 24, .mov (.s 2), none⟩, ⟨some 25, .slc sz (.s 23) (some (.s 24)) none none, none⟩, ⟨some 26, .app sz by_ (.s 22) (.s 25), none⟩, ⟨some 0, .mov (.s 26), none⟩]
def Del6 (sz : Nat) (zs : List AV) : List AOper := [⟨some 27, .mov (.s 0), none⟩, ⟨some 28, .mov (.s 0), none⟩, ⟨some 29, .len false (.s 28), none⟩, ⟨some 30, .mov (.s 7), none⟩, ⟨some 31, .slc sz (.s 27) (some (.s 29)) (some (.s 30)) none, none⟩, ⟨none, .clr zs (.s 31), none⟩]
def Del7 : List AOper := [⟨some 32, .mov (.s 0), none⟩, ⟨some 6, .mov (.s 32), none⟩]
def DelDep : List (List Nat) := [[], [], [0, 1], [], [], [3, 4], [2, 5, 0, 1, 3, 4], [6, 0, 1, 2, 3, 4, 5]]
/-- The code of slices.Delete. -/
def DelF (sz by_ : Nat) (zs : List AV) : AFn := ⟨33, [.tmp 6],
  .seq (.reg [⟨some 6, .mov (.c .emp), none⟩] none)
  (.seq (.reg (Del1 sz) none)
  (.seq (.seq (.reg Del2 none)
  (.cond (.s 16)
    (.seq (.reg Del3 none)
    (.ret))
    (.skip)))
  (.seq (.reg Del4 none)
  (.seq (.reg (Del5 sz by_) (some DelDep))
  (.seq (.reg (Del6 sz zs) none)
  (.seq (.reg Del7 none)
  (.ret)))))))⟩
def delM (m : List (Option Bk)) (id : Nat) (B : Bk) : List (Option Bk) := m.set id none ++ [none, some B]
/-- The rest of a block is forgotten; it goes on under a new name. -/
theorem trunc_le {n k0 : Nat} {x : L3} {id sz c t0 : Nat} {els : List (List AV)} (hB : look x.m id = some ⟨sz, els⟩) (hc : c ≤ els.length) (hs : slot x.t t0 = .own id sz 0 c) {y : L3} (hy : y.t = [(t0, .own x.m.length sz 0 c)]) (hm : y.m = x.m.set id none ++ [some ⟨sz, els.take c⟩]) : x.s.Le k0 n y.s := by
  intro E0 J base w0 a w hk hr
  obtain ⟨E, rfl, hle, hsl, hmm, hkn, hmk⟩ := hr.ex
  have hid : id < x.m.length := by
    rcases Nat.lt_or_ge id x.m.length with h | h
    · exact h
    · unfold look at hB; rw [List.getElem?_eq_none h] at hB; simp at hB
  have hf : ¬ E.kn x.m.length := fun hh => Nat.lt_irrefl _ (hkn _ hh)
  obtain ⟨E', hw, hE, hM, k1, k2, k3, k4, k5⟩ := hmm.move hf id ⟨sz, els⟩ ⟨sz, els.take c⟩ hB E.w (fun _ _ => rfl) rfl (fun _ _ => rfl) (fun E' hE hw => by
    have := (hmm.at_ id _ hB)
    cases hl : E.loc id with
    | none =>
      rw [hl] at this
      have h0 : els = [] := this
      show els.take c = []
      rw [h0]; simp
    | some b =>
      rw [hl] at this
      obtain ⟨q1, arr, t, q2, q3, q4⟩ := this
      refine ⟨q1, arr, t, by rw [hw]; exact q2, ?_, fun i cs hi => ?_⟩
      · refine Nat.le_trans (Nat.mul_le_mul_right _ ?_) q3
        simp only [List.length_take]; omega
      · have hi' : els[i]? = some cs := by
          simp only [List.getElem?_take] at hi
          split at hi
          · exact hi
          · simp at hi
        refine ⟨(q4 i cs hi').1, fun j x hj => ?_⟩
        obtain ⟨u, u1, u2, u3⟩ := (q4 i cs hi').2 j x hj
        exact ⟨u, u1, u2, u3.step hE⟩)
  have hg : gput (look x.m) [(id, none), (x.m.length, some ⟨sz, els.take c⟩)] = look y.m := by
    rw [hm]
    have e1 := look_put x.m id none (by omega)
    rw [if_pos hid] at e1
    have e2 := look_put (x.m.set id none) x.m.length (some ⟨sz, els.take c⟩) (by simp)
    rw [if_neg (by simp)] at e2
    rw [e2, e1]
    rfl
  have hM := hg ▸ (show MemAt E' J base (gput (look x.m) [(id, none), (x.m.length, some ⟨sz, els.take c⟩)]) from hM)
  refine ⟨⟨E', hw, hle.trans hE, fun t => ?_, hM, fun j hj => ?_, hmk.step hE⟩, hr.size, hr.below⟩
  · show Rep E' _ (slot y.t t)
    rw [hy]
    simp only [slot]
    cases hb : Nat.beq t t0 with
    | false => exact .dead
    | true =>
      have := Nat.eq_of_beq_eq_true hb
      subst this
      have hv := hsl t
      have hv' : Rep E (a.tmps.getD t undef) (.own id sz 0 c) := by rw [← hs]; exact hv
      have hlive := (hmm.live id).2 ⟨_, hB⟩
      have hlen : c ≤ els.length := hc
      simp only [cond_true]
      obtain ⟨vv, hvv⟩ : ∃ vv, vv = a.tmps.getD t undef := ⟨_, rfl⟩
      rw [← hvv] at hv' ⊢
      cases hv' with
      | staleO hi hd => exact absurd hd hlive.2
      | own hi hd hb hq hss hm' hl hcc hln =>
        refine .own k1 k2 (k3.trans hb) hq (by rw [hw]; exact hss) hm' hl hcc (by rw [k5]; simp only [List.length_take]; omega)
      | own0 hi hd hb hln => exact .own0 k1 k2 (k3.trans hb) (by rw [k5]; simp)
  · show j < y.m.length
    rw [hm]
    simp only [List.length_append, List.length_set, List.length_cons, List.length_nil]
    rcases k4 j hj with h | h
    · have h' : j < x.m.length := hkn j h
      omega
    · omega
section
variable {o : AOper} {x : L3}
theorem optNat_nat {σ : Nat → AV} {a : Arg} {n : Nat} (h : argσ σ a = VI n) : optNat (argσ σ) (some a) = some (some n) := by
  simp only [optNat, h, natOf]
  rw [if_pos (by omega)]; simp
theorem opE_slco2 (a : Arg) (lo hi : Option Arg) (sz id off n l h : Nat) (lo' hi' : Option Nat) (B : Bk) (ho : o.ao = .slc sz a lo hi none) (hg : guardA (slot x.t) o.guard = some true) (ha : argσ (slot x.t) a = .own id sz off n) (hlo : optNat (argσ (slot x.t)) lo = some lo') (hhi : optNat (argσ (slot x.t)) hi = some hi') (hbd : bounds n lo' hi' = some (l, h)) (hB : look x.m id = some B) :
    opE o x = .done (.own id sz (off + l) (h - l)) [] [id] := by
  have hn : optNat (argσ (slot x.t)) none = some none := rfl
  have hs : (AO.slc sz a lo hi none).sem x.m.length (argσ (slot x.t)) = .lv id (.ret (.done (.own id sz (off + l) (h - l)) [])) := by simp [AO.sem, ha, hlo, hhi, hn, hbd, RM.opt]
  exact opE_sem _ (acc := []) (see := [id]) ho hg (by rw [hs]; simp [RM.run, hB]) (by rw [hs]; rfl) (by rw [hs]; rfl)
theorem opE_slco3 (a : Arg) (lo hi : Option Arg) (mx : Arg) (sz id off n l h mm : Nat) (lo' hi' : Option Nat) (B : Bk) (ho : o.ao = .slc sz a lo hi (some mx)) (hg : guardA (slot x.t) o.guard = some true) (ha : argσ (slot x.t) a = .own id sz off n) (hlo : optNat (argσ (slot x.t)) lo = some lo') (hhi : optNat (argσ (slot x.t)) hi = some hi') (hmx : optNat (argσ (slot x.t)) (some mx) = some (some mm)) (hbd : bounds n lo' hi' = some (l, h)) (hB : look x.m id = some B) (h1 : B.els.length ≤ off + mm) (h2 : h ≤ mm ∧ mm ≤ n) (h3 : mm ≠ l) :
    opE o x = .done (.own id sz (off + l) (h - l)) [] [id, id] := by
  have hs : (AO.slc sz a lo hi (some mx)).sem x.m.length (argσ (slot x.t)) = .lv id (.rd id fun B => if B.els.length ≤ off + mm then .ret (.done (.own id sz (off + l) (h - l)) []) else .fail) := by
    simp [AO.sem, ha, hlo, hhi, hmx, hbd, RM.opt, h2, h3]
  exact opE_sem _ (acc := [id]) (see := [id]) ho hg (by rw [hs]; simp [RM.run, hB, h1]) (by rw [hs]; simp [RM.acc, hB, h1]) (by rw [hs]; simp [RM.see, hB, h1])
theorem opE_slco2h (a : Arg) (lo hi : Option Arg) (sz id off n l h : Nat) (lo' : Option Nat) (hh : Nat) (B : Bk) (ho : o.ao = .slc sz a lo hi none) (hg : guardA (slot x.t) o.guard = some true) (ha : argσ (slot x.t) a = .own id sz off n) (hlo : optNat (argσ (slot x.t)) lo = some lo') (hhi : optNat (argσ (slot x.t)) hi = some (some hh)) (hno : bounds n lo' (some hh) = none) (hB : look x.m id = some B) (hbd : bounds (B.els.length - off) lo' (some hh) = some (l, h)) :
    opE o x = .done (.own id sz (off + l) (h - l)) [] [id, id] := by
  have hn : optNat (argσ (slot x.t)) none = some none := rfl
  have hs : (AO.slc sz a lo hi none).sem x.m.length (argσ (slot x.t)) = .lv id (.rd id fun B => .opt ((bounds (B.els.length - off) lo' (some hh)).map fun b => .done (.own id sz (off + b.1) (b.2 - b.1)) [])) := by simp [AO.sem, ha, hlo, hhi, hn, hno]
  exact opE_sem _ (acc := [id]) (see := [id]) ho hg (by rw [hs]; simp [RM.run, RM.opt, hB, hbd]) (by rw [hs]; simp [RM.acc, RM.opt, hB, hbd]) (by rw [hs]; simp [RM.see, RM.opt, hB, hbd])
theorem opE_appIn (s a : Arg) (sz by_ id off n : Nat) (els ys : List (List AV)) (w : AV) (acc : List Nat) (ho : o.ao = .app sz by_ s a) (hg : guardA (slot x.t) o.guard = some true) (hs : argσ (slot x.t) s = .own id sz off n) (ha : argσ (slot x.t) a = w) (c1 : (content sz w).run (look x.m) = some ys) (c2 : (content sz w).acc (look x.m) = acc) (c3 : (content sz w).see (look x.m) = [])
    (hB : look x.m id = some ⟨sz, els⟩) (hno : ¬ (off = 0 ∧ n = els.length)) (hfit : off + n + ys.length ≤ els.length) :
    opE o x = .done (.own id sz off (n + ys.length)) [(id, some ⟨sz, els.take (off + n) ++ ys ++ els.drop (off + n + ys.length)⟩), (x.m.length, none)] (acc ++ [id]) := by
  let F : List (List AV) → RM Out := fun ys => .rd id fun B => if sz = sz ∧ B.sz = sz ∧ off = 0 ∧ n = B.els.length ∧ (n + ys.length) * by_ ≤ 140737488355328 then .ret (.done (.own x.m.length sz 0 (n + ys.length)) [(id, none), (x.m.length, some ⟨sz, B.els ++ ys⟩)])
    else if sz = sz ∧ B.sz = sz ∧ off + n + ys.length ≤ B.els.length then .ret (.done (.own id sz off (n + ys.length)) [(id, some ⟨B.sz, B.els.take (off + n) ++ ys ++ B.els.drop (off + n + ys.length)⟩), (x.m.length, none)]) else .fail
  have hsem : (AO.app sz by_ s a).sem x.m.length (argσ (slot x.t)) = (content sz w).bind F := by simp [AO.sem, hs, ha, F]
  obtain ⟨r1, r2, r3⟩ := run_bind (f := F) _ c1
  have hno' : ¬ (off = 0 ∧ n = els.length ∧ (n + ys.length) * by_ ≤ 140737488355328) := fun h => hno ⟨h.1, h.2.1⟩
  have hF1 : (F ys).run (look x.m) = some (.done (.own id sz off (n + ys.length)) [(id, some ⟨sz, els.take (off + n) ++ ys ++ els.drop (off + n + ys.length)⟩), (x.m.length, none)]) := by
    simp only [F, RM.run, hB, true_and]; rw [if_neg hno', if_pos hfit]; rfl
  have hF2 : (F ys).acc (look x.m) = [id] := by
    simp only [F, RM.acc, hB, true_and]; rw [if_neg hno', if_pos hfit]; rfl
  have hF3 : (F ys).see (look x.m) = [] := by
    simp only [F, RM.see, hB, true_and]; rw [if_neg hno', if_pos hfit]; rfl
  have := opE_sem (AO.app sz by_ s a) (o := o) (x := x) (acc := acc ++ [id]) (see := []) ho hg (by rw [hsem, r1]; exact hF1) (by rw [hsem, r2, c2, hF2]) (by rw [hsem, r3, c3, hF3]; rfl)
  simpa using this
theorem opE_clr (zs : List AV) (a : Arg) (sz id off n : Nat) (els : List (List AV)) (ho : o.ao = .clr zs a) (hg : guardA (slot x.t) o.guard = some true) (hz : zs.length = sz) (ha : argσ (slot x.t) a = .own id sz off n) (hB : look x.m id = some ⟨sz, els⟩) (hfit : off + n ≤ els.length) :
    opE o x = .done (.v undef) [(id, some ⟨sz, els.take off ++ List.replicate n zs ++ els.drop (off + n)⟩)] [id] := by
  subst hz
  have hs : (AO.clr zs a).sem x.m.length (argσ (slot x.t)) = .rd id fun B => if B.sz = zs.length ∧ off + n ≤ B.els.length then .ret (.done (.v undef) [(id, some ⟨B.sz, B.els.take off ++ List.replicate n zs ++ B.els.drop (off + n)⟩)]) else .fail := by simp [AO.sem, ha]
  exact opE_sem _ (acc := [id]) (see := []) ho hg (by rw [hs]; simp [RM.run, hB, hfit]) (by rw [hs]; simp [RM.acc, hB, hfit]) (by rw [hs]; simp [RM.see, hB, hfit])
end
section
variable {P : Program} {sz by_ : Nat} {zs : List AV} {m : List (Option Bk)} {id i : Nat} {els : List (List AV)}
theorem look_lt {B : Bk} (hB : look m id = some B) : id < m.length := by
  rcases Nat.lt_or_ge id m.length with h | h
  · exact h
  · unfold look at hB; rw [List.getElem?_eq_none h] at hB; simp at hB
theorem delete_fi {f : FuncId} (hF : cFunc P f = some (DelF sz by_ zs)) (hz : zs.length = sz) (hB : look m id = some ⟨sz, els⟩) (hi : i < els.length) (hb : els.length ≤ 4611686018427387904) :
    Fi P f [.own id sz 0 els.length, VI i, VI (i + 1 : Nat)] (look m) m.length (.own (m.length + 1) sz 0 (els.length - 1)) (look (delM m id ⟨sz, els.eraseIdx i⟩)) (delM m id ⟨sz, els.eraseIdx i⟩).length := by
  have hid := look_lt hB
  have e1 : ((i : Int)).toNat = i := by omega
  have e2 : (((i + 1 : Nat) : Int)).toNat = i + 1 := by omega
  have e3 : ((els.length : Int)).toNat = els.length := by omega
  have p1 : (0 : Int) ≤ (i : Int) := by omega
  have p2 : (0 : Int) ≤ ((i + 1 : Nat) : Int) := by omega
  have p3 : (0 : Int) ≤ (els.length : Int) := by omega
  refine fi_walkW hF (by show 3 ≤ 33; omega) ?_
  refine EL.sreg ?_
  refine OW.last 1 [0, 1, 2] (x' := ⟨[(0, .own id sz 0 els.length), (1, VI i), (2, VI (i + 1 : Nat))], m⟩) (by kernel_rfl) (by kernel_rfl) ?_
  refine EL.sreg ?_
  refine OW.run 4 (x' := ⟨[(11, .own id sz 0 els.length), (10, VI (i + 1 : Nat)), (9, VI i), (8, .own id sz 0 els.length), (0, .own id sz 0 els.length), (1, VI i), (2, VI (i + 1 : Nat))], m⟩) (by kernel_rfl) ?_
  refine OW.ope (v := VI els.length) (u := []) (acc := [id]) (x' := ⟨[(12, VI els.length), (11, .own id sz 0 els.length), (10, VI (i + 1 : Nat)), (9, VI i), (8, .own id sz 0 els.length), (0, .own id sz 0 els.length), (1, VI i), (2, VI (i + 1 : Nat))], m⟩) (by kernel_rfl) (opE_sem _ (acc := []) (see := [id]) rfl rfl (by simp [opD, Del1, AO.sem, argσ, slot, RM.run, hB, goInt]) (by simp [opD, Del1, AO.sem, argσ, slot, RM.acc]) (by simp [opD, Del1, AO.sem, argσ, slot, RM.see])) (by kernel_rfl) ?_
  refine OW.ope (v := .own id sz (0 + i) (i + 1 - i)) (u := []) (acc := [id, id]) (x' := ⟨[(13, .own id sz (0 + i) (i + 1 - i)), (12, VI els.length), (11, .own id sz 0 els.length), (10, VI (i + 1 : Nat)), (9, VI i), (8, .own id sz 0 els.length), (0, .own id sz 0 els.length), (1, VI i), (2, VI (i + 1 : Nat))], m⟩) (by kernel_rfl)
    (opE_slco3 (.s 8) (some (.s 9)) (some (.s 10)) (.s 12) sz id 0 els.length i (i + 1) els.length (some i) (some (i + 1)) ⟨sz, els⟩ rfl rfl rfl (optNat_nat (by rfl)) (optNat_nat (by rfl)) (optNat_nat (by rfl)) (by simp [bounds]; omega) hB (by simp) ⟨by omega, by omega⟩ (by omega)) (by kernel_rfl) ?_
  refine OW.last 0 [0, 1, 2] (x' := ⟨[(0, .own id sz 0 els.length), (1, VI i), (2, VI (i + 1 : Nat))], m⟩) (by kernel_rfl) (by kernel_rfl) ?_
  refine EL.seq ?_
  refine EL.sreg ?_
  refine OW.last 3 [0, 1, 2, 16] (x' := ⟨[(16, .v (.bool ((i : Int) == ((i + 1 : Nat) : Int)))), (0, .own id sz 0 els.length), (1, VI i), (2, VI (i + 1 : Nat))], m⟩) (by kernel_rfl) (by kernel_rfl) ?_
  have hne : ((i : Int) == ((i + 1 : Nat) : Int)) = false := by simp; omega
  rw [hne]
  refine EL.condF (by kernel_rfl) ?_
  refine EL.skip ?_
  refine thenL_norm ?_
  refine EL.sreg ?_
  refine OW.run 1 (x' := ⟨[(18, .own id sz 0 els.length), (16, .v (.bool false)), (0, .own id sz 0 els.length), (1, VI i), (2, VI (i + 1 : Nat))], m⟩) (by kernel_rfl) ?_
  refine OW.ope (v := VI els.length) (u := []) (acc := [id]) (x' := ⟨[(19, VI els.length), (18, .own id sz 0 els.length), (16, .v (.bool false)), (0, .own id sz 0 els.length), (1, VI i), (2, VI (i + 1 : Nat))], m⟩) (by kernel_rfl) (opE_sem _ (acc := []) (see := [id]) rfl rfl (by simp [opD, Del4, AO.sem, argσ, slot, RM.run, hB, goInt]) (by simp [opD, Del4, AO.sem, argσ, slot, RM.acc]) (by simp [opD, Del4, AO.sem, argσ, slot, RM.see])) (by kernel_rfl) ?_
  refine OW.last 1 [0, 1, 2, 7] (x' := ⟨[(7, VI els.length), (0, .own id sz 0 els.length), (1, VI i), (2, VI (i + 1 : Nat))], m⟩) (by kernel_rfl) (by kernel_rfl) ?_
  refine EL.sdraw ?_
  refine DW.run 2 (x' := ⟨[(21, VI i), (20, .own id sz 0 els.length), (7, VI els.length), (0, .own id sz 0 els.length), (1, VI i), (2, VI (i + 1 : Nat))], m⟩) (by kernel_rfl) ?_
  refine DW.ope (v := .own id sz (0 + 0) (i - 0)) (u := []) (acc := [id]) (x' := ⟨[(22, .own id sz (0 + 0) (i - 0)), (21, VI i), (20, .own id sz 0 els.length), (7, VI els.length), (0, .own id sz 0 els.length), (1, VI i), (2, VI (i + 1 : Nat))], m⟩) (by kernel_rfl)
    (opE_slco2 (.s 20) none (some (.s 21)) sz id 0 els.length 0 i none (some i) ⟨sz, els⟩ rfl rfl rfl rfl (optNat_nat (by rfl)) (by simp [bounds]; omega) hB) (by kernel_rfl) ?_
  refine DW.run 2 (x' := ⟨[(24, VI (i + 1 : Nat)), (23, .own id sz 0 els.length), (22, .own id sz (0 + 0) (i - 0)), (21, VI i), (20, .own id sz 0 els.length), (7, VI els.length), (0, .own id sz 0 els.length), (1, VI i), (2, VI (i + 1 : Nat))], m⟩) (by kernel_rfl) ?_
  refine DW.ope (v := .own id sz (0 + (i + 1)) (els.length - (i + 1))) (u := []) (acc := [id]) (x' := ⟨[(25, .own id sz (0 + (i + 1)) (els.length - (i + 1))), (24, VI (i + 1 : Nat)), (23, .own id sz 0 els.length), (22, .own id sz (0 + 0) (i - 0)), (21, VI i), (20, .own id sz 0 els.length), (7, VI els.length), (0, .own id sz 0 els.length), (1, VI i), (2, VI (i + 1 : Nat))], m⟩) (by kernel_rfl)
    (opE_slco2 (.s 23) (some (.s 24)) none sz id 0 els.length (i + 1) els.length (some (i + 1)) none ⟨sz, els⟩ rfl rfl rfl (optNat_nat (by rfl)) rfl (by simp [bounds]; omega) hB) (by kernel_rfl) ?_
  obtain ⟨ys, hys⟩ : ∃ ys, ys = (els.drop (0 + (i + 1))).take (els.length - (i + 1)) := ⟨_, rfl⟩
  have hyl : ys.length = els.length - (i + 1) := by rw [hys]; simp
  obtain ⟨els2, he2⟩ : ∃ els2, els2 = els.take (0 + 0 + (i - 0)) ++ ys ++ els.drop (0 + 0 + (i - 0) + ys.length) := ⟨_, rfl⟩
  have hl2 : els2.length = els.length := by rw [he2]; simp; omega
  obtain ⟨m2, hm2⟩ : ∃ m2, m2 = m.set id (some ⟨sz, els2⟩) ++ [none] := ⟨_, rfl⟩
  have hput : mput m [(id, some ⟨sz, els2⟩), (m.length, none)] = m2 := by
    simp only [mput]
    rw [if_pos hid, if_neg (by simp), hm2]
  have hml : m2.length = m.length + 1 := by rw [hm2]; simp
  have hlk : look m2 id = some ⟨sz, els2⟩ := by
    rw [hm2]; unfold look
    rw [List.getElem?_append_left (by simpa using hid)]
    simp [hid]
  have hc1 : (content sz (.own id sz (0 + (i + 1)) (els.length - (i + 1)))).run (look m) = some ys := by
    simp only [content, RM.run, hB, true_and]; rw [if_pos (by omega), hys]; rfl
  have hc2 : (content sz (.own id sz (0 + (i + 1)) (els.length - (i + 1)))).acc (look m) = [id] := by
    simp only [content, RM.acc, hB, true_and]; rw [if_pos (by omega)]; rfl
  have hc3 : (content sz (.own id sz (0 + (i + 1)) (els.length - (i + 1)))).see (look m) = [] := by
    simp only [content, RM.see, hB, true_and]; rw [if_pos (by omega)]; rfl
  have hups : upsOK m.length [(id, some (⟨sz, els2⟩ : Bk)), (m.length, none)] = true := by
    simp only [upsOK]; rw [if_pos hid]; simp; omega
  refine DW.ope (v := .own id sz (0 + 0) (i - 0 + ys.length)) (u := [(id, some ⟨sz, els2⟩), (m.length, none)]) (acc := [id] ++ [id]) (x' := ⟨[(26, .own id sz (0 + 0) (i - 0 + ys.length)), (25, .own id sz (0 + (i + 1)) (els.length - (i + 1))), (24, VI (i + 1 : Nat)), (23, .own id sz 0 els.length), (22, .own id sz (0 + 0) (i - 0)), (21, VI i), (20, .own id sz 0 els.length), (7, VI els.length), (0, .own id sz 0 els.length), (1, VI i), (2, VI (i + 1 : Nat))], m2⟩) (by kernel_rfl)
    (by rw [he2]; exact opE_appIn (.s 22) (.s 25) sz by_ id (0 + 0) (i - 0) els ys _ [id] rfl rfl rfl rfl hc1 hc2 hc3 hB (by rintro ⟨_, h⟩; omega) (by omega)) (by
      show (bif dstOK 33 (some 26) && upsOK m.length [(id, some (⟨sz, els2⟩ : Bk)), (m.length, none)] then _ else _) = _
      rw [hups, hput]; rfl) ?_
  obtain ⟨t3, ht3⟩ : ∃ t3 : List (Nat × AV), t3 = [(0, .own id sz (0 + 0) (i - 0 + ys.length)), (2, VI (i + 1 : Nat)), (7, VI els.length)] := ⟨_, rfl⟩
  refine DW.last 1 [0, 7] (x' := ⟨[(0, .own id sz (0 + 0) (i - 0 + ys.length)), (7, VI els.length)], m2⟩) (by kernel_rfl) (by kernel_rfl) ?_
  have q1 : i - 0 + ys.length = els.length - 1 := by omega
  rw [q1]
  refine EL.sreg ?_
  refine OW.run 2 (x' := ⟨[(28, .own id sz (0 + 0) (els.length - 1)), (27, .own id sz (0 + 0) (els.length - 1)), (0, .own id sz (0 + 0) (els.length - 1)), (7, VI els.length)], m2⟩) (by kernel_rfl) ?_
  refine OW.ope (v := VI (els.length - 1 : Nat)) (u := []) (acc := [id]) (x' := ⟨[(29, VI (els.length - 1 : Nat)), (28, .own id sz (0 + 0) (els.length - 1)), (27, .own id sz (0 + 0) (els.length - 1)), (0, .own id sz (0 + 0) (els.length - 1)), (7, VI els.length)], m2⟩) (by kernel_rfl) (opE_sem _ (acc := []) (see := [id]) rfl rfl (by simp [opD, Del6, AO.sem, argσ, slot, RM.run, hlk, goInt]) (by simp [opD, Del6, AO.sem, argσ, slot, RM.acc]) (by simp [opD, Del6, AO.sem, argσ, slot, RM.see])) (by kernel_rfl) ?_
  refine OW.run 1 (x' := ⟨[(30, VI els.length), (29, VI (els.length - 1 : Nat)), (28, .own id sz (0 + 0) (els.length - 1)), (27, .own id sz (0 + 0) (els.length - 1)), (0, .own id sz (0 + 0) (els.length - 1)), (7, VI els.length)], m2⟩) (by kernel_rfl) ?_
  refine OW.ope (v := .own id sz (0 + 0 + (els.length - 1)) (els.length - (els.length - 1))) (u := []) (acc := [id, id]) (x' := ⟨[(31, .own id sz (0 + 0 + (els.length - 1)) (els.length - (els.length - 1))), (30, VI els.length), (29, VI (els.length - 1 : Nat)), (28, .own id sz (0 + 0) (els.length - 1)), (27, .own id sz (0 + 0) (els.length - 1)), (0, .own id sz (0 + 0) (els.length - 1)), (7, VI els.length)], m2⟩) (by kernel_rfl)
    (opE_slco2h (.s 27) (some (.s 29)) (some (.s 30)) sz id (0 + 0) (els.length - 1) (els.length - 1) els.length (some (els.length - 1)) els.length ⟨sz, els2⟩ rfl rfl rfl (optNat_nat (by rfl)) (optNat_nat (by rfl)) (by simp only [bounds, Option.getD_some]; rw [if_neg (by omega)]) hlk (by simp only [bounds, Option.getD_some]; rw [if_pos ⟨by omega, by show _ ≤ els2.length - (0 + 0); omega⟩])) (by kernel_rfl) ?_
  obtain ⟨els3, he3⟩ : ∃ els3, els3 = els2.take (0 + 0 + (els.length - 1)) ++ List.replicate (els.length - (els.length - 1)) zs ++ els2.drop (0 + 0 + (els.length - 1) + (els.length - (els.length - 1))) := ⟨_, rfl⟩
  have hid2 : id < m2.length := by omega
  have hput3 : mput m2 [(id, some ⟨sz, els3⟩)] = m2.set id (some ⟨sz, els3⟩) := by
    simp only [mput]; rw [if_pos hid2]
  have hups3 : upsOK m2.length [(id, some (⟨sz, els3⟩ : Bk))] = true := by simp [upsOK]; omega
  refine OW.ope (v := .v undef) (u := [(id, some ⟨sz, els3⟩)]) (acc := [id]) (x' := ⟨[(31, .own id sz (0 + 0 + (els.length - 1)) (els.length - (els.length - 1))), (30, VI els.length), (29, VI (els.length - 1 : Nat)), (28, .own id sz (0 + 0) (els.length - 1)), (27, .own id sz (0 + 0) (els.length - 1)), (0, .own id sz (0 + 0) (els.length - 1)), (7, VI els.length)], m2.set id (some ⟨sz, els3⟩)⟩) (by kernel_rfl)
    (by rw [he3]; exact opE_clr zs (.s 31) sz id (0 + 0 + (els.length - 1)) (els.length - (els.length - 1)) els2 rfl rfl hz rfl hlk (by omega)) (by
      show (bif dstOK 33 none && upsOK m2.length [(id, some (⟨sz, els3⟩ : Bk))] then _ else _) = _
      rw [hups3, hput3]; rfl) ?_
  refine OW.last 0 [0] (x' := ⟨[(0, .own id sz (0 + 0) (els.length - 1))], m2.set id (some ⟨sz, els3⟩)⟩) (by kernel_rfl) (by kernel_rfl) ?_
  refine EL.sreg ?_
  refine OW.last 2 [6] (x' := ⟨[(6, .own id sz (0 + 0) (els.length - 1))], m2.set id (some ⟨sz, els3⟩)⟩) (by kernel_rfl) (by kernel_rfl) ?_
  refine EL.ret ?_
  have hl3 : els3.length = els.length := by rw [he3]; simp; omega
  have hlk3 : look (m2.set id (some ⟨sz, els3⟩)) id = some ⟨sz, els3⟩ := by
    unfold look; simp [hid2]
  have hfin : els3.take (els.length - 1) = els.eraseIdx i := by
    have h1 : els3.take (els.length - 1) = els2.take (els.length - 1) := by
      rw [he3, List.append_assoc, List.take_append_of_le_length (by simp; omega), Nat.add_zero, Nat.zero_add, List.take_take, Nat.min_self]
    rw [h1, he2]
    have h2 : els.length - 1 = i + ys.length := by omega
    rw [h2, List.take_append_of_le_length (by simp; omega)]
    rw [List.take_of_length_le (by simp; omega)]
    rw [List.eraseIdx_eq_take_drop_succ, hys]
    congr 1
    · simp
    · rw [Nat.zero_add]
      exact List.take_of_length_le (by simp)
  refine ⟨.inr rfl, ⟨[(6, .own (m2.set id (some ⟨sz, els3⟩)).length sz 0 (els.length - 1))], (m2.set id (some ⟨sz, els3⟩)).set id none ++ [some ⟨sz, els3.take (els.length - 1)⟩]⟩, trunc_le (t0 := 6) hlk3 (by omega) rfl rfl rfl, ?_, ?_⟩
  · simp only [List.length_set, hml]; rfl
  · rw [hfin, hm2]
    simp only [delM]
    rw [List.set_set, List.set_append, if_pos (by simpa using hid), List.set_set]
    simp
theorem delete_map {f : FuncId} {α : Type} {fe : α → List AV} {xs : List α} (hF : cFunc P f = some (DelF sz by_ zs)) (hz : zs.length = sz) (hB : look m id = some ⟨sz, xs.map fe⟩) {n : Int} (h0 : 0 ≤ n) (h1 : n < xs.length) (hb : xs.length ≤ 1000000) :
    Fi P f [.own id sz 0 xs.length, VI n, VI (n + 1)] (look m) m.length (.own (m.length + 1) sz 0 (xs.eraseIdx n.toNat).length) (look (delM m id ⟨sz, (xs.eraseIdx n.toNat).map fe⟩)) (delM m id ⟨sz, (xs.eraseIdx n.toNat).map fe⟩).length := by
  have e0 : ((n.toNat : Nat) : Int) = n := by omega
  have e1 : ((n.toNat + 1 : Nat) : Int) = n + 1 := by omega
  have h := delete_fi (P := P) (f := f) (i := n.toNat) (els := xs.map fe) hF hz hB (by simp; omega) (by simp; omega)
  rw [e0, e1, List.length_map] at h
  have e2 : (xs.map fe).eraseIdx n.toNat = (xs.eraseIdx n.toNat).map fe := by
    rw [List.eraseIdx_eq_take_drop_succ, List.eraseIdx_eq_take_drop_succ, List.map_append, List.map_take, List.map_drop]
  have e3 : (xs.eraseIdx n.toNat).length = xs.length - 1 := by rw [List.length_eraseIdx, if_pos (by omega)]
  rw [e2] at h
  rw [e3]
  exact h
end
end Go.Proofs.Ythdcanpbgaaneaa
