/- A call upon the own memory whose answer is said less well; a look into a map. No condition. -/
import Derived.Test.YtgepadjkegfokaaDoorPAvDel
set_option linter.unusedSimpArgs false
set_option linter.unusedVariables false
namespace Go.Proofs.YtgepadjkegfokaaDoor
set_option linter.unusedSimpArgs false
set_option linter.unusedVariables false
open Go.RowKit
theorem fi_ofA {P : Program} {f : FuncId} {F : AFn} (hF : cFunc P f = some F) {as : List AV} (hl : as.length ≤ F.n) {g g' : Nat → Option Bk} {k k' : Nat} {r : AV}
    (h : EW P F.n k F.code ⟨σ0 as, g, k⟩ fun x s' => (x = .normal ∨ x = .ret) ∧ ∃ y : S3, s'.Le k F.n y ∧ (∃ r', (resR y.σ F.res).run y.g = some r' ∧ Ale r' r) ∧ y.g = g' ∧ y.k = k') : Fi P f as g k r g' k' := by
  intro E J base vs hG hm hkn hrc
  obtain ⟨fn, c, h1, h2, h3, h4, h5⟩ := cFunc_inv hF
  refine calls_marks h1 h2 (wpIn_mono (h none c E J base E.w _ E.w (fun _ => rfl) h4 hkn ⟨⟨E, rfl, Env.Le.refl E, start_rep hrc _, hm, hkn, .nil⟩, ?_, Below.refl _ _, hG⟩) ?_)
  · simp only [Array.size_append, Array.size_replicate, hrc.1]; omega
  · rintro e a' w' ⟨x, s', ⟨hx, y, hy, ⟨r', hr, hale⟩, rfl, rfl⟩, rfl, hrel0⟩
    have hrel := hy E J base E.w a' w' hkn hrel0
    obtain ⟨E', rfl, hle, hs, hM, hk, hmk⟩ := hrel.ex
    refine ⟨by rcases hx with rfl | rfl <;> simp [Ex.up], marks_leave _ E' hmk fun E2 hS => ?_⟩
    have hM2 := hS.mem hM
    obtain ⟨v, e1, e2⟩ := res_run hM2 (fun t => hS.rep (hs t)) h3 hr
    exact ⟨v, e1, v, E2, rfl, rfl, hS.le hle fun b hb => (hm.low b hb).1, hale _ _ e2, hM2, hS.below hm.size hrel.below, fun id hid => hk id (by rw [← hS.eqs.1]; exact hid)⟩
theorem fi_walkA {P : Program} {f : FuncId} {F : AFn} (hF : cFunc P f = some F) {as : List AV} (hl : as.length ≤ F.n) {r : AV} {m m' : List (Option Bk)}
    (h : EL P F.n m.length F.code ⟨startT 0 as, m⟩ fun e x => (e = .normal ∨ e = .ret) ∧ ∃ y : L3, x.s.Le m.length F.n y.s ∧ (∃ r', (resR (slot y.t) F.res).run (look y.m) = some r' ∧ Ale r' r) ∧ y.m = m') : Fi P f as (look m) m.length r (look m') m'.length := by
  refine fi_ofA hF hl (EW.weak (start_le as _ _) (EW.conseq h ?_))
  rintro e s ⟨x', rfl, h1, y, h2, h3, rfl⟩
  exact ⟨h1, y.s, h2, h3, rfl, rfl⟩
section
variable {o : AOper} {x : L3}
theorem opE_mlk (kd : LK) (z : AV) (a k : Arg) (id : Nat) (els : List (List AV)) (key : Value) (r : Option AV) (ho : o.ao = .mlk kd z a k) (hg : guardA (slot x.t) o.guard = some true) (ha : argσ (slot x.t) a = .mp id) (hk : argσ (slot x.t) k = .v key) (hB : look x.m id = some ⟨0, els⟩) (hf : mfind kd key els = some r) :
    opE o x = .done (r.getD z) [] [id] := by
  have hs : (AO.mlk kd z a k).sem x.m.length (argσ (slot x.t)) = .rd id fun B => if B.sz = 0 then .opt ((mfind kd key B.els).map fun r => .done (r.getD z) []) else .fail := by simp [AO.sem, ha, hk]
  exact opE_sem _ (acc := [id]) (see := []) ho hg (by rw [hs]; simp [RM.run, RM.opt, hB, hf]) (by rw [hs]; simp [RM.acc, RM.opt, hB, hf]) (by rw [hs]; simp [RM.see, RM.opt, hB, hf])
end
end Go.Proofs.YtgepadjkegfokaaDoor
