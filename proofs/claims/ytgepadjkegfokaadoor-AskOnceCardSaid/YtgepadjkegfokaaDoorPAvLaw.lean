/- What comes in as Go's data is what the abstract values say. No condition. -/
import Derived.Test.YtgepadjkegfokaaDoorPAvStep
import Derived.Test.YtgepadjkegfokaaDoorPGoT
import Derived.Test.YtgepadjkegfokaaDoorPApi
set_option linter.unusedSimpArgs false
set_option linter.unusedVariables false
namespace Go.Proofs.YtgepadjkegfokaaDoor
set_option linter.unusedSimpArgs false
set_option linter.unusedVariables false
open Go.RowKit
/-- Two lists, element by element. -/
inductive R2 (R : Value → AV → Prop) : List Value → List AV → Prop
  | nil : R2 R [] []
  | cons {v : Value} {a : AV} {vs : List Value} {as : List AV} (h : R v a) (t : R2 R vs as) : R2 R (v :: vs) (a :: as)
theorem R2.len {R : Value → AV → Prop} {vs : List Value} {as : List AV} (h : R2 R vs as) : vs.length = as.length := by
  induction h with
  | nil => rfl
  | cons _ _ ih => simp [ih]
theorem R2.get {R : Value → AV → Prop} {vs : List Value} {as : List AV} (h : R2 R vs as) : ∀ (i : Nat) v a, vs[i]? = some v → as[i]? = some a → R v a := by
  induction h with
  | nil => intro i v a hv; simp at hv
  | cons h _ ih =>
    intro i v a hv ha
    cases i with
    | zero => simp at hv ha; subst hv; subst ha; exact h
    | succ i => exact ih i v a (by simpa using hv) (by simpa using ha)
theorem R2.rc {E : Env} {vs : List Value} {as : List AV} (h : R2 (Rep E) vs as) : RC E vs.toArray as := ⟨by simpa using h.len, fun j u c hu hc => h.get j u c (by simpa using hu) hc⟩
theorem R2.agg {E : Env} {vs : List Value} {as : List AV} (h : R2 (Rep E) vs as) : Rep E (.agg vs.toArray) (.agg as) := .agg (by simpa using h.len) fun j u c hu hc => h.get j u c (by simpa using hu) hc
theorem R2.plain {E : Env} : ∀ {vs : List Value}, (∀ v, v ∈ vs → plainV v = true) → R2 (Rep E) vs (vs.map .v)
  | [], _ => .nil
  | v :: r, h => .cons (.v (h v (by simp))) (R2.plain fun u hu => h u (by simp [hu]))
/-- A law's walk. -/
theorem fn_law {P : Program} {f : FuncId} {vs : List Value} {as : List AV} {w : World} (h : Fn P f as (.v (.bool true))) (hG : GlE (E0 w fun b => b < w.heap.size)) (hrc : R2 (Rep (E0 w fun b => b < w.heap.size)) vs as) :
    Calls P f vs.toArray w fun e w' => e = .returned (.bool true) ∧ Below w.heap.size w w' :=
  (h w _ vs.toArray (fun _ h => h) hG hrc.rc).mono fun e w' ⟨v, he, hr, hb⟩ => ⟨he.trans (by rw [hr.v_inv]), hb⟩
/-- A slice of elements without letters. -/
theorem rep_list {α : Type} [GoT α] (enc : α → List Value) (ok : α → Prop) (hf : ∀ {w B cs} {x : α}, GoT.rep w B cs x → cs = enc x ∧ ok x) (hl : ∀ x : α, (enc x).length = GoT.size α) (hp : ∀ (x : α) v, v ∈ enc x → plainV v = true ∧ v.oneCell' = true)
    {w : World} {A : Option Addr} {n c : Nat} {xs : List α} (h : GoT.rep w w.heap.size [.slice A n c] xs) : Rep (E0 w fun b => b < w.heap.size) (.slice A n c) (.lst (GoT.size α) (xs.map fun x => (enc x).map .v)) := by
  obtain ⟨h1, h2, h3, h4, h5⟩ := list_open enc ok hf h
  rcases h5 with rfl | ⟨b, off, rfl, hb, hs⟩
  · simp only [List.length_nil] at h1; subst h1; exact .lst0 h3
  · refine .lst1 (fun i j => ((xs[i]?.map enc).getD []).getD j undef) (by simpa using h1) h2 h3 hb (fun i cs hi => ?_) (fun i cs j x hi hj => ?_) (fun i cs j x hi hj => ?_) (fun i cs j x hi hj => ?_)
    · simp only [List.getElem?_map, Option.map_eq_some_iff] at hi
      obtain ⟨y, _, rfl⟩ := hi
      simp [hl]
    all_goals
      simp only [List.getElem?_map, Option.map_eq_some_iff] at hi
      obtain ⟨y, hy, rfl⟩ := hi
      simp only [List.getElem?_map, Option.map_eq_some_iff] at hj
      obtain ⟨u, hu, rfl⟩ := hj
      have hmem : u ∈ enc y := List.mem_of_getElem? hu
      obtain ⟨hil, rfl⟩ := List.getElem?_eq_some_iff.1 hy
    · show w.cell? _ = _
      rw [hs i hil j u hu]
      simp [hy, List.getD, hu]
    · simp only [hy, Option.map_some, Option.getD_some, List.getD, hu]
      exact ⟨(hp _ u hmem).2, .v⟩
    · simp only [hy, Option.map_some, Option.getD_some, List.getD, hu]
      exact .v (hp _ u hmem).1
end Go.Proofs.YtgepadjkegfokaaDoor
