/- Abstract values: what Go's values stand for, as trees; how they lie in a world; what stays when the world grows. No condition. -/
import Derived.WalkKit
import Derived.Orders
import Derived.Below
namespace Go.Proofs.YtgepadjkegfokaaDoor
set_option linter.unusedSimpArgs false
set_option linter.unusedVariables false
open Go.RowKit
/-- Values of one cell or none at all that name no memory. -/
def plainV : Value → Bool
  | .bool _ | .int _ _ | .string _ | .nilFunc | .nilIface => true
  | .pointer none => true
  | .tuple vs => vs.isEmpty
  | _ => false
/-- An abstract value: plain; a struct or an array (its cells); what a call returns; a slice of elements (their cells) that nobody turns; one without room; an empty slice without room; the address of a cell in such an element; the address of a cell in an own block; a slice over an own block; a function with what it captured; one with its first arguments; what a range over a function hands its iterator (the loop's record; its slots); a map that lies in an own block; some truth value; nothing known. -/
inductive AV where
  | v (x : Value)
  | agg (cs : List AV)
  | tup (vs : List AV)
  | lst (sz : Nat) (els : List (List AV))
  | tls (sz : Nat) (els : List (List AV))
  | emp
  | pim (cs : List AV) (o : Nat)
  | ref (id sz i o : Nat)
  | own (id sz off len : Nat)
  | fn (f : FuncId) (caps : List AV)
  | bf (f : FuncId) (first : List AV)
  | yld (r : Loop) (cs : List AV)
  | mp (id : Nat)
  | anyb
  | dead
/-- It names no own block. -/
inductive Pu : AV → Prop
  | v {x : Value} : Pu (.v x)
  | agg {cs : List AV} (h : ∀ c, c ∈ cs → Pu c) : Pu (.agg cs)
  | tup {cs : List AV} (h : ∀ c, c ∈ cs → Pu c) : Pu (.tup cs)
  | lst {sz : Nat} {els : List (List AV)} : Pu (.lst sz els)
  | tls {sz : Nat} {els : List (List AV)} : Pu (.tls sz els)
  | emp : Pu .emp
  | pim {cs : List AV} {o : Nat} : Pu (.pim cs o)
  | fn {f : FuncId} {cs : List AV} (h : ∀ c, c ∈ cs → Pu c) : Pu (.fn f cs)
  | bf {f : FuncId} {cs : List AV} (h : ∀ c, c ∈ cs → Pu c) : Pu (.bf f cs)
  | anyb : Pu .anyb
  | dead : Pu .dead
/-- An own block: the size of an element, and the elements' cells. -/
structure Bk where
  sz : Nat
  els : List (List AV)
/-- What the relation speaks of: the world, which own blocks are named, where they lie (none: an empty one without room), which are gone, which blocks nobody turns, of how many elements of an own block is known, and which loops over a function may go on. -/
structure Env where
  w : World
  kn : Nat → Prop
  loc : Nat → Option Nat
  dead : Nat → Prop
  I : Nat → Prop
  ln : Nat → Nat
  rg : Nat → Prop
inductive Rep (E : Env) : Value → AV → Prop
  | v {x : Value} (h : plainV x = true) : Rep E x (.v x)
  | agg {vs : Array Value} {cs : List AV} (hl : vs.size = cs.length) (h : ∀ (i : Nat) v c, vs[i]? = some v → cs[i]? = some c → Rep E v c) : Rep E (.agg vs) (.agg cs)
  | tup {vs : Array Value} {cs : List AV} (hl : vs.size = cs.length) (h : ∀ (i : Nat) v c, vs[i]? = some v → cs[i]? = some c → Rep E v c) : Rep E (.tuple vs) (.tup cs)
  | lst0 {A : Option Addr} {c sz : Nat} (hc : c ≤ 9223372036854775807) : Rep E (.slice A 0 c) (.lst sz [])
  | lst1 {b off n c sz : Nat} {els : List (List AV)} (u : Nat → Nat → Value) (hn : n = els.length) (hl : n ≤ c) (hc : c ≤ 9223372036854775807) (hb : E.I b)
      (hz : ∀ (i : Nat) cs, els[i]? = some cs → cs.length = sz) (hu : ∀ (i : Nat) cs (j : Nat) x, els[i]? = some cs → cs[j]? = some x → E.w.cell? ⟨b, off + i * sz + j, none⟩ = some (u i j))
      (h1 : ∀ (i : Nat) cs (j : Nat) x, els[i]? = some cs → cs[j]? = some x → (u i j).oneCell' = true ∧ Pu x)
      (h : ∀ (i : Nat) cs (j : Nat) x, els[i]? = some cs → cs[j]? = some x → Rep E (u i j) x) : Rep E (.slice (some ⟨b, off, none⟩) n c) (.lst sz els)
  | tls {A : Option Addr} {n sz : Nat} {els : List (List AV)} (h : Rep E (.slice A n n) (.lst sz els)) : Rep E (.slice A n n) (.tls sz els)
  | emp {A : Option Addr} : Rep E (.slice A 0 0) .emp
  | pim {b off o q : Nat} {cs : List AV} (u : Nat → Value) (hb : E.I b) (hq : q = off + o) (hu : ∀ (j : Nat) x, cs[j]? = some x → E.w.cell? ⟨b, off + j, none⟩ = some (u j)) (h1 : ∀ (j : Nat) x, cs[j]? = some x → Pu x)
      (h : ∀ (j : Nat) x, cs[j]? = some x → Rep E (u j) x) : Rep E (.pointer (some ⟨b, q, none⟩)) (.pim cs o)
  | ref {id sz i o b q : Nat} (hi : E.kn id) (hd : ¬ E.dead id) (hb : E.loc id = some b) (hq : q = i * sz + o) (hz : sz ≠ 0 := by first | assumption | omega | (dsimp only; omega)) : Rep E (.pointer (some ⟨b, q, none⟩)) (.ref id sz i o)
  | own {id sz off n c b q m : Nat} {t : TypeId} (hi : E.kn id) (hd : ¬ E.dead id) (hb : E.loc id = some b) (hq : q = off * sz ∨ c = 0) (hs : E.w.shape? b = some (t, m)) (hm : (off + c) * sz ≤ m) (hl : n ≤ c) (hc : c ≤ 9223372036854775807) (hln : E.ln id ≤ off + c) (hz : sz ≠ 0 := by first | assumption | omega | (dsimp only; omega)) :
      Rep E (.slice (some ⟨b, q, none⟩) n c) (.own id sz off n)
  | own0 {id sz : Nat} {A : Option Addr} (hi : E.kn id) (hd : ¬ E.dead id) (hb : E.loc id = none) (hln : E.ln id = 0) (hz : sz ≠ 0 := by first | assumption | omega | (dsimp only; omega)) : Rep E (.slice A 0 0) (.own id sz 0 0)
  | staleR {v : Value} {id sz i o : Nat} (hi : E.kn id) (hd : E.dead id) (ho : v.oneCell' = true) : Rep E v (.ref id sz i o)
  | staleO {v : Value} {id sz off n : Nat} (hi : E.kn id) (hd : E.dead id) (ho : v.oneCell' = true) : Rep E v (.own id sz off n)
  | fn {f : FuncId} {vs : Array Value} {cs : List AV} (hl : vs.size = cs.length) (h : ∀ (i : Nat) v c, vs[i]? = some v → cs[i]? = some c → Rep E v c) : Rep E (.func (.func f) #[] vs) (.fn f cs)
  | bf {f : FuncId} {vs : Array Value} {cs : List AV} (hl : vs.size = cs.length) (h : ∀ (i : Nat) v c, vs[i]? = some v → cs[i]? = some c → Rep E v c) : Rep E (.func (.func f) vs #[]) (.bf f cs)
  | yld {l : Nat} {r : Loop} {cs : List AV} (hg : E.rg l) (hI : E.I l) (hh : E.w.heap[l]? = some (.loop r)) (hl : r.tmps.size = cs.length) (h : ∀ (i : Nat) v c, r.tmps[i]? = some v → cs[i]? = some c → Rep E v c) : Rep E (.func (.yield l) #[] #[]) (.yld r cs)
  | mp {id b : Nat} (hi : E.kn id) (hd : ¬ E.dead id) (hb : E.loc id = some b) : Rep E (.map (some b)) (.mp id)
  | staleP {v : Value} {id : Nat} (hi : E.kn id) (hd : E.dead id) (ho : v.oneCell' = true) : Rep E v (.mp id)
  | anyb {b : Bool} : Rep E (.bool b) .anyb
  | dead {v : Value} : Rep E v .dead
/-- What must hold for all that was represented to stay so. -/
structure Env.Le (E E' : Env) : Prop where
  kn : ∀ id, E.kn id → E'.kn id
  imm : ∀ b, E.I b → E'.I b ∧ E'.w.heap[b]? = E.w.heap[b]?
  dead : ∀ id, E.kn id → E.dead id → E'.dead id
  loc : ∀ id, E.kn id → ¬ E.dead id → E'.dead id ∨ (E'.loc id = E.loc id)
  shape : ∀ id b, E.kn id → ¬ E.dead id → E.loc id = some b → E'.dead id ∨ E'.w.shape? b = E.w.shape? b
  ln : ∀ id, E.kn id → ¬ E.dead id → E'.dead id ∨ E'.ln id = E.ln id
  rg : ∀ l, E.rg l → E'.rg l
theorem Env.Le.cell {E E' : Env} (hE : E.Le E') {b : Nat} (hb : E.I b) (o : Nat) : E'.w.cell? ⟨b, o, none⟩ = E.w.cell? ⟨b, o, none⟩ := World.cell?_of_block (w := E.w) (w' := E'.w) (a := ⟨b, o, none⟩) (hE.imm b hb).2
/-- A table of the library: where it lies, and what stands in it. -/
def glB : Nat := 0
def glZ : List Int := [0, 1, 56, 2, 57, 49, 28, 3, 61, 58, 42, 50, 38, 29, 17, 4, 62, 47, 59, 36, 45, 43, 51, 22, 53, 39, 33, 30, 24, 18, 12, 5, 63, 55, 48, 27, 60, 41, 37, 16, 46, 35, 44, 21, 52, 32, 23, 11, 54, 26, 40, 15, 34, 20, 31, 10, 25, 14, 19, 9, 13, 8, 7, 6]
def glT : List Value := glZ.map (Value.int .u8)
abbrev glC : List AV := glT.map .v
/-- What is known of tables. -/
def GlE (E : Env) : Prop := E.I glB ∧ ∀ (i : Nat) v, glT[i]? = some v → E.w.cell? ⟨glB, i, none⟩ = some v
theorem GlE.step {E E' : Env} (hE : E.Le E') (h : GlE E) : GlE E' := ⟨(hE.imm _ h.1).1, fun i v hv => by rw [hE.cell h.1]; exact h.2 i v hv⟩
def glArg : Nat → Option AV := fun g => if g = glB then some (.pim (glT.map .v) 0) else none
theorem glT_plain : glT.all plainV = true := by kernel_rfl
theorem GlE.arg {E : Env} (h : GlE E) {g : Nat} {c : AV} (hc : glArg g = some c) : Rep E (.pointer (some ⟨g, 0, none⟩)) c := by
  unfold glArg at hc
  split at hc
  · rename_i hg
    simp only [Option.some.injEq] at hc; subst hc; subst hg
    refine .pim (off := 0) (fun j => (glT[j]?).getD undef) h.1 rfl (fun j x hj => ?_) (fun j x hj => ?_) (fun j x hj => ?_)
    all_goals
      simp only [List.getElem?_map, Option.map_eq_some_iff] at hj
      obtain ⟨v, hv, rfl⟩ := hj
    · rw [hv, Nat.zero_add]; exact h.2 j v hv
    · exact .v
    · rw [hv]; exact .v (List.all_eq_true.1 glT_plain v (List.mem_of_getElem? hv))
  · simp at hc
theorem glT_get {i : Nat} (h : i < glZ.length) : glC[i]? = some (.v (.int .u8 (glZ.getD i 0))) := by
  simp [glC, glT, List.getD, h]
theorem Rep.step {E E' : Env} (hE : E.Le E') {v : Value} {a : AV} (h : Rep E v a) : Rep E' v a := by
  induction h with
  | v h => exact .v h
  | agg hl h ih => exact .agg hl ih
  | tup hl h ih => exact .tup hl ih
  | lst0 hc => exact .lst0 hc
  | lst1 u hn hl hc hb hz hu h1 h ih => exact .lst1 u hn hl hc (hE.imm _ hb).1 hz (fun i cs j x hi hj => by rw [hE.cell hb]; exact hu i cs j x hi hj) h1 ih
  | tls h ih => exact .tls ih
  | emp => exact .emp
  | pim u hb hq hu h1 h ih => exact .pim u (hE.imm _ hb).1 hq (fun j x hj => by rw [hE.cell hb]; exact hu j x hj) h1 ih
  | @mp id b hi hd hb =>
    by_cases hx : E'.dead id
    · exact .staleP (hE.kn _ hi) hx rfl
    · exact .mp (hE.kn _ hi) hx (((hE.loc _ hi hd).resolve_left hx).trans hb)
  | staleP hi hd ho => exact .staleP (hE.kn _ hi) (hE.dead _ hi hd) ho
  | @ref id sz i o b q hi hd hb hq =>
    by_cases hx : E'.dead id
    · exact .staleR (hE.kn _ hi) hx rfl
    · exact .ref (hE.kn _ hi) hx (((hE.loc _ hi hd).resolve_left hx).trans hb) hq
  | @own id sz off n c b q m t hi hd hb hq hs hm hl hc hln =>
    by_cases hx : E'.dead id
    · exact .staleO (hE.kn _ hi) hx rfl
    · exact .own (hE.kn _ hi) hx (((hE.loc _ hi hd).resolve_left hx).trans hb) hq (((hE.shape _ _ hi hd hb).resolve_left hx).trans hs) hm hl hc (by rw [(hE.ln _ hi hd).resolve_left hx]; exact hln)
  | @own0 id sz A hi hd hb hln =>
    by_cases hx : E'.dead id
    · exact .staleO (hE.kn _ hi) hx rfl
    · exact .own0 (hE.kn _ hi) hx (((hE.loc _ hi hd).resolve_left hx).trans hb) (((hE.ln _ hi hd).resolve_left hx).trans hln)
  | staleR hi hd ho => exact .staleR (hE.kn _ hi) (hE.dead _ hi hd) ho
  | staleO hi hd ho => exact .staleO (hE.kn _ hi) (hE.dead _ hi hd) ho
  | fn hl h ih => exact .fn hl ih
  | bf hl h ih => exact .bf hl ih
  | yld hg hI hh hl h ih => exact .yld (hE.rg _ hg) (hE.imm _ hI).1 ((hE.imm _ hI).2.trans hh) hl ih
  | anyb => exact .anyb
  | dead => exact .dead
/-- What names no own block needs nothing of them. -/
theorem Rep.pure {E E' : Env} (hI : ∀ b, E.I b → E'.I b ∧ ∀ o, E'.w.cell? ⟨b, o, none⟩ = E.w.cell? ⟨b, o, none⟩) {v : Value} {a : AV} (h : Rep E v a) (hp : Pu a) : Rep E' v a := by
  induction h with
  | v h => exact .v h
  | agg hl h ih => cases hp with | agg hp => exact .agg hl fun i v c hv hc => ih i v c hv hc (hp c (List.mem_of_getElem? hc))
  | tup hl h ih => cases hp with | tup hp => exact .tup hl fun i v c hv hc => ih i v c hv hc (hp c (List.mem_of_getElem? hc))
  | lst0 hc => exact .lst0 hc
  | lst1 u hn hl hc hb hz hu h1 h ih => exact .lst1 u hn hl hc (hI _ hb).1 hz (fun i cs j x hi hj => by rw [(hI _ hb).2]; exact hu i cs j x hi hj) h1 fun i cs j x hi hj => ih i cs j x hi hj (h1 i cs j x hi hj).2
  | tls h ih => exact .tls (ih .lst)
  | emp => exact .emp
  | pim u hb hq hu h1 h ih => exact .pim u (hI _ hb).1 hq (fun j x hj => by rw [(hI _ hb).2]; exact hu j x hj) h1 fun j x hj => ih j x hj (h1 j x hj)
  | ref => cases hp
  | own => cases hp
  | own0 => cases hp
  | staleR => cases hp
  | staleO => cases hp
  | fn hl h ih => cases hp with | fn hp => exact .fn hl fun i v c hv hc => ih i v c hv hc (hp c (List.mem_of_getElem? hc))
  | bf hl h ih => cases hp with | bf hp => exact .bf hl fun i v c hv hc => ih i v c hv hc (hp c (List.mem_of_getElem? hc))
  | yld => cases hp
  | mp => cases hp
  | staleP => cases hp
  | anyb => exact .anyb
  | dead => exact .dead
/-- Elements of an own slice have cells. -/
theorem Rep.own_sz {E : Env} {v : Value} {id sz off n : Nat} (h : Rep E v (.own id sz off n)) (hd : ¬ E.dead id) : sz ≠ 0 := by
  cases h with
  | own => assumption
  | own0 => assumption
  | staleO _ hx => exact absurd hx hd
theorem Env.Le.refl (E : Env) : E.Le E := ⟨fun _ h => h, fun _ h => ⟨h, rfl⟩, fun _ _ h => h, fun _ _ _ => .inr rfl, fun _ _ _ _ _ => .inr rfl, fun _ _ _ => .inr rfl, fun _ h => h⟩
theorem Env.Le.trans {E E' E'' : Env} (h : E.Le E') (k : E'.Le E'') : E.Le E'' := by
  refine ⟨fun id hi => k.kn _ (h.kn _ hi), fun b hb => ⟨(k.imm b (h.imm b hb).1).1, ((k.imm b (h.imm b hb).1).2).trans ((h.imm b hb).2)⟩, fun id hi hd => k.dead _ (h.kn _ hi) (h.dead _ hi hd), fun id hi hd => ?_, fun id b hi hd hb => ?_, fun id hi hd => ?_, fun l hg => k.rg l (h.rg l hg)⟩
  · by_cases hx : E'.dead id
    · exact .inl (k.dead _ (h.kn _ hi) hx)
    · rcases k.loc _ (h.kn _ hi) hx with k1 | k1
      · exact .inl k1
      · exact .inr (k1.trans ((h.loc _ hi hd).resolve_left hx))
  · by_cases hx : E'.dead id
    · exact .inl (k.dead _ (h.kn _ hi) hx)
    · have hl := (h.loc _ hi hd).resolve_left hx
      rcases k.shape id b (h.kn _ hi) hx (hl.trans hb) with k1 | k1
      · exact .inl k1
      · exact .inr (k1.trans ((h.shape _ _ hi hd hb).resolve_left hx))
  · by_cases hx : E'.dead id
    · exact .inl (k.dead _ (h.kn _ hi) hx)
    · rcases k.ln _ (h.kn _ hi) hx with k1 | k1
      · exact .inl k1
      · exact .inr (k1.trans ((h.ln _ hi hd).resolve_left hx))
/-- A row of cells holds these elements. -/
def CellsAt (E : Env) (B : Bk) (b : Nat) : Prop := ∃ (arr : Array Value) (t : TypeId), E.w.heap[b]? = some (.cells arr t (0, 0)) ∧ B.els.length * B.sz ≤ arr.size ∧
      ∀ (i : Nat) cs, B.els[i]? = some cs → cs.length = B.sz ∧ ∀ (j : Nat) x, cs[j]? = some x → ∃ u, arr[i * B.sz + j]? = some u ∧ u.oneCell' = true ∧ Rep E u x
/-- A map holds these entries: key and value. -/
def MapAt (E : Env) (els : List (List AV)) (b : Nat) : Prop := ∃ (es : Array MapEntry) (clock : Nat), E.w.heap[b]? = some (.map es clock) ∧ es.size = els.length ∧
      ∀ (i : Nat) e cs, es[i]? = some e → els[i]? = some cs → ∃ x, cs = [.v e.key, x] ∧ plainV e.key = true ∧ Rep E e.val x
/-- An own block lies in memory as it should; a block of elements without cells is a map. -/
def BlkAt (E : Env) (base : Nat) (B : Bk) : Option Nat → Prop
  | none => B.els = []
  | some b => base ≤ b ∧ ((B.sz ≠ 0 ∧ CellsAt E B b) ∨ (B.sz = 0 ∧ MapAt E B.els b))
theorem BlkAt.cells {E : Env} {base b : Nat} {B : Bk} (h : BlkAt E base B (some b)) (hz : B.sz ≠ 0) : base ≤ b ∧ CellsAt E B b := ⟨h.1, (h.2.resolve_right fun hh => hz hh.1).2⟩
theorem BlkAt.mapp {E : Env} {base b : Nat} {B : Bk} (h : BlkAt E base B (some b)) (hz : B.sz = 0) : base ≤ b ∧ MapAt E B.els b := ⟨h.1, (h.2.resolve_left fun hh => hh.1 hz).2⟩
theorem BlkAt.ofCells {E : Env} {base b : Nat} {B : Bk} (h : base ≤ b ∧ CellsAt E B b) (hz : B.sz ≠ 0) : BlkAt E base B (some b) := ⟨h.1, .inl ⟨hz, h.2⟩⟩
theorem BlkAt.ofMap {E : Env} {base b : Nat} {B : Bk} (h : base ≤ b ∧ MapAt E B.els b) (hz : B.sz = 0) : BlkAt E base B (some b) := ⟨h.1, .inr ⟨hz, h.2⟩⟩
/-- The own memory: all blocks that are not gone. J: the blocks that nobody turns from the start; base: the call's first block. -/
structure MemAt (E : Env) (J : Nat → Prop) (base : Nat) (g : Nat → Option Bk) : Prop where
  live : ∀ id, (E.kn id ∧ ¬ E.dead id) ↔ ∃ B, g id = some B
  at_ : ∀ id B, g id = some B → BlkAt E base B (E.loc id)
  apart : ∀ id id' b B B', g id = some B → g id' = some B' → E.loc id = some b → E.loc id' = some b → id = id'
  out : ∀ id b B, g id = some B → E.loc id = some b → ¬ E.I b
  low : ∀ b, E.I b → b < E.w.heap.size ∧ (J b ∨ base ≤ b)
  size : base ≤ E.w.heap.size
  len : ∀ id B, g id = some B → B.sz ≠ 0 → B.els.length = E.ln id
  rgb : ∀ l, E.rg l → base ≤ l
/-- The memory with some blocks turned, made, or gone. -/
def gput (g : Nat → Option Bk) : List (Nat × Option Bk) → Nat → Option Bk
  | [] => g
  | (id, x) :: r => gput (fun k => if k = id then x else g k) r
theorem BlkAt.lt {E : Env} {base b : Nat} {B : Bk} (h : BlkAt E base B (some b)) : base ≤ b ∧ b < E.w.heap.size := by
  obtain ⟨h1, ⟨_, arr, t, h2, _⟩ | ⟨_, es, clock, h2, _⟩⟩ := h
  · exact ⟨h1, (Array.getElem?_eq_some_iff.1 h2).1⟩
  · exact ⟨h1, (Array.getElem?_eq_some_iff.1 h2).1⟩
theorem BlkAt.keep {E E' : Env} (hE : E.Le E') {base : Nat} {B : Bk} {l : Option Nat} (h : BlkAt E base B l) (hw : ∀ b, l = some b → E'.w.heap[b]? = E.w.heap[b]?) : BlkAt E' base B l := by
  cases l with
  | none => exact h
  | some b =>
    obtain ⟨h1, ⟨hz, arr, t, h2, h3, h4⟩ | ⟨hz, es, clock, h2, h3, h4⟩⟩ := h
    · refine ⟨h1, .inl ⟨hz, arr, t, (hw b rfl).trans h2, h3, fun i cs hi => ⟨(h4 i cs hi).1, fun j x hj => ?_⟩⟩⟩
      obtain ⟨u, k1, k2, k3⟩ := (h4 i cs hi).2 j x hj
      exact ⟨u, k1, k2, k3.step hE⟩
    · refine ⟨h1, .inr ⟨hz, es, clock, (hw b rfl).trans h2, h3, fun i e cs he hi => ?_⟩⟩
      obtain ⟨x, k1, k2, k3⟩ := h4 i e cs he hi
      exact ⟨x, k1, k2, k3.step hE⟩
/-- A new block, with a new name. -/
theorem MemAt.allocO {E : Env} {J : Nat → Prop} {base : Nat} {g : Nat → Option Bk} (h : MemAt E J base g) (fresh : Nat) (hf : ¬ E.kn fresh) (ob : Obj) (B : Bk)
    (hB : ∀ E' : Env, E.Le E' → E'.w = E.w.alloc ob → BlkAt E' base B (some E.w.heap.size)) :
    ∃ E' : Env, E'.w = E.w.alloc ob ∧ E.Le E' ∧ MemAt E' J base (gput g [(fresh, some B)]) ∧ E'.kn fresh ∧ ¬ E'.dead fresh ∧ E'.loc fresh = some E.w.heap.size ∧ (∀ id, E'.kn id → E.kn id ∨ id = fresh) ∧ E'.ln fresh = B.els.length := by
  have hlt : ∀ id b B, g id = some B → E.loc id = some b → b < E.w.heap.size := fun id b B hg hb => by
    have := h.at_ id B hg; rw [hb] at this; exact this.lt.2
  let E' : Env := { w := E.w.alloc ob, kn := fun id => E.kn id ∨ id = fresh, loc := fun id => if id = fresh then some E.w.heap.size else E.loc id, dead := fun id => E.dead id ∧ id ≠ fresh, I := E.I, ln := fun id => if id = fresh then B.els.length else E.ln id, rg := E.rg }
  have hne : ∀ id, E.kn id → id ≠ fresh := fun id hi he => hf (he ▸ hi)
  have hE : E.Le E' := by
    refine ⟨fun id hi => .inl hi, fun b hb => ⟨hb, Below.heap_alloc _ _ _ (h.low b hb).1⟩, fun id hi hd => ⟨hd, hne id hi⟩, fun id hi hd => .inr (if_neg (hne id hi)), fun id b hi hd hb => .inr ?_, fun id hi hd => .inr (if_neg (hne id hi)), fun _ h => h⟩
    obtain ⟨B', hB'⟩ := (h.live id).1 ⟨hi, hd⟩
    have hb' := hlt id b B' hB' hb
    show (E.w.alloc _).shape? b = _
    simp only [World.shape?]
    rw [Below.heap_alloc _ _ _ hb']
  refine ⟨E', rfl, hE, ?_, .inr rfl, fun hd => hd.2 rfl, if_pos rfl, fun id hi => hi, if_pos rfl⟩
  refine ⟨fun id => ?_, fun id B' hg => ?_, fun id id' b B1 B2 h1 h2 h3 h4 => ?_, fun id b B' hg hb hI => ?_, fun b hb => ?_, ?_, fun id B' hg hzz => ?_, h.rgb⟩
  · simp only [gput]
    by_cases hid : id = fresh
    · subst hid
      simp [E']
    · simp only [hid, if_false]
      rw [← h.live id]
      simp [E', hid]
  · simp only [gput] at hg
    by_cases hid : id = fresh
    · subst hid
      simp only [if_true, Option.some.injEq] at hg
      subst hg
      show BlkAt E' base B (if id = id then _ else _)
      rw [if_pos rfl]
      exact hB E' hE rfl
    · simp only [hid, if_false] at hg
      show BlkAt E' base B' (if id = fresh then _ else _)
      rw [if_neg hid]
      exact (h.at_ id B' hg).keep hE fun b hb => Below.heap_alloc _ _ _ (hlt id b B' hg hb)
  · simp only [gput] at h1 h2
    have e3 : (if id = fresh then some E.w.heap.size else E.loc id) = some b := h3
    have e4 : (if id' = fresh then some E.w.heap.size else E.loc id') = some b := h4
    by_cases hid : id = fresh <;> by_cases hid' : id' = fresh
    · rw [hid, hid']
    · rw [if_pos hid] at e3; rw [if_neg hid'] at e4 h2
      have := hlt _ _ _ h2 e4
      simp only [Option.some.injEq] at e3; omega
    · rw [if_neg hid] at e3 h1; rw [if_pos hid'] at e4
      have := hlt _ _ _ h1 e3
      simp only [Option.some.injEq] at e4; omega
    · rw [if_neg hid] at e3 h1; rw [if_neg hid'] at e4 h2
      exact h.apart id id' b B1 B2 h1 h2 e3 e4
  · simp only [gput] at hg
    have e3 : (if id = fresh then some E.w.heap.size else E.loc id) = some b := hb
    by_cases hid : id = fresh
    · rw [if_pos hid] at e3
      have := (h.low b hI).1
      simp only [Option.some.injEq] at e3; omega
    · rw [if_neg hid] at e3 hg
      exact h.out id b B' hg e3 hI
  · have := h.low b hb
    refine ⟨?_, this.2⟩
    show b < (E.w.alloc _).heap.size
    simp; omega
  · show base ≤ (E.w.alloc _).heap.size
    have := h.size
    simp; omega
  · simp only [gput] at hg
    show _ = if id = fresh then _ else _
    by_cases hid : id = fresh
    · rw [if_pos hid] at hg ⊢
      simp only [Option.some.injEq] at hg; rw [hg]
    · rw [if_neg hid] at hg ⊢
      exact h.len id B' hg hzz
theorem MemAt.alloc {E : Env} {J : Nat → Prop} {base : Nat} {g : Nat → Option Bk} (h : MemAt E J base g) (fresh : Nat) (hf : ¬ E.kn fresh) (arr : Array Value) (t : TypeId) (B : Bk)
    (hB : ∀ E' : Env, E.Le E' → B.els.length * B.sz ≤ arr.size ∧ ∀ (i : Nat) cs, B.els[i]? = some cs → cs.length = B.sz ∧ ∀ (j : Nat) x, cs[j]? = some x → ∃ u, arr[i * B.sz + j]? = some u ∧ u.oneCell' = true ∧ Rep E' u x) (hz : B.sz ≠ 0 := by first | assumption | omega | (dsimp only; omega)) :
    ∃ E' : Env, E'.w = E.w.alloc (.cells arr t) ∧ E.Le E' ∧ MemAt E' J base (gput g [(fresh, some B)]) ∧ E'.kn fresh ∧ ¬ E'.dead fresh ∧ E'.loc fresh = some E.w.heap.size ∧ (∀ id, E'.kn id → E.kn id ∨ id = fresh) ∧ E'.ln fresh = B.els.length :=
  h.allocO fresh hf _ B fun E' hE hw => .ofCells ⟨h.size, arr, t, by rw [hw]; exact heap_alloc_new E.w _, (hB E' hE).1, (hB E' hE).2⟩ hz
/-- A block is written anew, in its place. -/
theorem MemAt.setO {E : Env} {J : Nat → Prop} {base : Nat} {g : Nat → Option Bk} (h : MemAt E J base g) (id b : Nat) (B B' : Bk) (hg : g id = some B) (hb : E.loc id = some b) (w' : World)
    (hother : ∀ k, k ≠ b → w'.heap[k]? = E.w.heap[k]?) (hsz : w'.heap.size = E.w.heap.size) (hsh : w'.shape? b = E.w.shape? b) (hlen : B'.sz ≠ 0 → B.sz ≠ 0 ∧ B'.els.length = B.els.length)
    (hB : ∀ E' : Env, E.Le E' → E'.w = w' → BlkAt E' base B' (some b)) :
    ∃ E' : Env, E'.w = w' ∧ E.Le E' ∧ MemAt E' J base (gput g [(id, some B')]) ∧ (∀ id, E'.kn id → E.kn id) := by
  have hblk := h.at_ id B hg
  rw [hb] at hblk
  have hblt := hblk.lt
  let E' : Env := { E with w := w' }
  have hother : ∀ k, k ≠ b → E'.w.heap[k]? = E.w.heap[k]? := hother
  have hE : E.Le E' := by
    refine ⟨fun _ h => h, fun k hk => ⟨hk, ?_⟩, fun _ _ h => h, fun _ _ _ => .inr rfl, fun id' b' hi hd hb' => .inr ?_, fun _ _ _ => .inr rfl, fun _ h => h⟩
    · have hkb : k ≠ b := fun e => h.out id b B hg hb (e ▸ hk)
      exact hother k hkb
    · show E'.w.shape? b' = _
      by_cases hbb : b' = b
      · subst hbb
        exact hsh
      · simp only [World.shape?, hother b' hbb]
  refine ⟨E', rfl, hE, ?_, fun _ h => h⟩
  have key : ∀ k B1, gput g [(id, some B')] k = some B1 → ∃ B0, g k = some B0 := fun k B1 hk => by
    simp only [gput] at hk
    by_cases hki : k = id
    · exact ⟨B, hki ▸ hg⟩
    · rw [if_neg hki] at hk; exact ⟨B1, hk⟩
  refine ⟨fun k => ?_, fun k B1 hk => ?_, fun k k' b' B1 B2 h1 h2 h3 h4 => ?_, fun k b' B1 hk hb' hI => ?_, fun k hk => ?_, ?_, fun k B1 hk hzz => ?_, h.rgb⟩
  · rw [show (E'.kn k ∧ ¬ E'.dead k) ↔ (E.kn k ∧ ¬ E.dead k) from Iff.rfl, h.live k]
    simp only [gput]
    by_cases hki : k = id
    · subst hki; simp [hg]
    · simp [hki]
  · simp only [gput] at hk
    by_cases hki : k = id
    · subst hki
      rw [if_pos rfl] at hk
      simp only [Option.some.injEq] at hk
      subst hk
      show BlkAt E' base B' (E.loc k)
      rw [hb]
      exact hB E' hE rfl
    · rw [if_neg hki] at hk
      refine (h.at_ k B1 hk).keep hE fun b' hb' => hother b' fun e => hki ?_
      subst e
      exact h.apart k id b' B1 B hk hg hb' hb
  · obtain ⟨B3, k3⟩ := key k B1 h1
    obtain ⟨B4, k4⟩ := key k' B2 h2
    exact h.apart k k' b' B3 B4 k3 k4 h3 h4
  · obtain ⟨B3, k3⟩ := key k B1 hk
    exact h.out k b' B3 k3 hb' hI
  · have := h.low k hk
    refine ⟨?_, this.2⟩
    show k < w'.heap.size
    rw [hsz]; exact this.1
  · show base ≤ w'.heap.size
    rw [hsz]; exact h.size
  · simp only [gput] at hk
    show _ = E.ln k
    by_cases hki : k = id
    · subst hki
      rw [if_pos rfl] at hk
      simp only [Option.some.injEq] at hk
      subst hk; rw [(hlen hzz).2]; exact h.len k B hg (hlen hzz).1
    · rw [if_neg hki] at hk
      exact h.len k B1 hk hzz
theorem MemAt.set {E : Env} {J : Nat → Prop} {base : Nat} {g : Nat → Option Bk} (h : MemAt E J base g) (id b : Nat) (B B' : Bk) (hg : g id = some B) (hb : E.loc id = some b) (arr arr' : Array Value) (t : TypeId)
    (ha : E.w.heap[b]? = some (.cells arr t (0, 0))) (hs : arr'.size = arr.size) (hlen : B'.els.length = B.els.length)
    (hB : ∀ E' : Env, E.Le E' → B'.els.length * B'.sz ≤ arr.size ∧ ∀ (i : Nat) cs, B'.els[i]? = some cs → cs.length = B'.sz ∧ ∀ (j : Nat) x, cs[j]? = some x → ∃ u, arr'[i * B'.sz + j]? = some u ∧ u.oneCell' = true ∧ Rep E' u x) (hz : B.sz ≠ 0 := by first | assumption | omega | (dsimp only; omega)) (hz' : B'.sz ≠ 0 := by first | assumption | omega | (dsimp only; omega)) :
    ∃ E' : Env, E'.w = E.w.setRow b arr' ∧ E.Le E' ∧ MemAt E' J base (gput g [(id, some B')]) ∧ (∀ id, E'.kn id → E.kn id) := by
  have hblk := h.at_ id B hg
  rw [hb] at hblk
  have hrow : (E.w.setRow b arr').heap[b]? = some (.cells arr' t (0, 0)) := setRow_heap E.w b arr arr' t _ ha
  refine h.setO id b B B' hg hb (E.w.setRow b arr') (fun k hk => setRow_other E.w b k arr' (by exact hk)) (by simp [World.setRow]) (by simp only [World.shape?, hrow, ha, hs]) (fun _ => ⟨hz, hlen⟩) fun E' hE hw => ?_
  exact .ofCells ⟨hblk.lt.1, arr', t, by rw [hw]; exact hrow, by rw [hs]; exact (hB E' hE).1, (hB E' hE).2⟩ hz'
/-- Some blocks go: nobody turns them from here on. -/
theorem MemAt.kill {E : Env} {J : Nat → Prop} {base : Nat} {g : Nat → Option Bk} (h : MemAt E J base g) (ids : List Nat) (hk : ∀ id, id ∈ ids → E.kn id) :
    ∃ E' : Env, E'.w = E.w ∧ E.Le E' ∧ MemAt E' J base (gput g (ids.map fun id => (id, none))) ∧ (∀ id, E'.kn id → E.kn id) ∧ (∀ id b B, id ∈ ids → g id = some B → E.loc id = some b → E'.I b) ∧ (∀ b, E.I b → E'.I b) := by
  let E' : Env := { E with dead := fun id => E.dead id ∨ id ∈ ids, I := fun b => E.I b ∨ ∃ id B, id ∈ ids ∧ g id = some B ∧ E.loc id = some b }
  have hE : E.Le E' := ⟨fun _ h => h, fun b hb => ⟨.inl hb, rfl⟩, fun _ _ h => .inl h, fun _ _ _ => .inr rfl, fun _ _ _ _ _ => .inr rfl, fun _ _ _ => .inr rfl, fun _ h => h⟩
  have key : ∀ (l : List Nat) (g : Nat → Option Bk) k, gput g (l.map fun id => (id, none)) k = if k ∈ l then none else g k := by
    intro l
    induction l with
    | nil => intro g k; simp [gput]
    | cons a l ih =>
      intro g k
      simp only [List.map_cons, gput, ih]
      by_cases h1 : k ∈ l
      · simp [h1]
      · by_cases h2 : k = a
        · subst h2; simp
        · simp [h1, h2]
  refine ⟨E', rfl, hE, ?_, fun _ h => h, fun id b B h1 h2 h3 => .inr ⟨id, B, h1, h2, h3⟩, fun b hb => .inl hb⟩
  refine ⟨fun k => ?_, fun k B1 hk1 => ?_, fun k k' b' B1 B2 h1 h2 h3 h4 => ?_, fun k b' B1 hk1 hb' hI => ?_, fun k hk1 => ?_, h.size, fun k B1 hk1 => ?_, h.rgb⟩
  · rw [key]
    by_cases h1 : k ∈ ids
    · simp [E', h1]
    · simp only [h1, if_false, ← h.live k]
      simp [E', h1]
  · rw [key] at hk1
    by_cases h1 : k ∈ ids
    · simp [h1] at hk1
    · rw [if_neg h1] at hk1
      exact (h.at_ k B1 hk1).keep hE fun _ _ => rfl
  · rw [key] at h1 h2
    by_cases m1 : k ∈ ids
    · simp [m1] at h1
    · by_cases m2 : k' ∈ ids
      · simp [m2] at h2
      · rw [if_neg m1] at h1; rw [if_neg m2] at h2
        exact h.apart k k' b' B1 B2 h1 h2 h3 h4
  · rw [key] at hk1
    by_cases m1 : k ∈ ids
    · simp [m1] at hk1
    · rw [if_neg m1] at hk1
      rcases hI with hI | ⟨id, B, hi, hg, hl⟩
      · exact h.out k b' B1 hk1 hb' hI
      · have := h.apart k id b' B1 B hk1 hg hb' hl
        exact m1 (this ▸ hi)
  · rcases hk1 with hI | ⟨id, B, hi, hg, hl⟩
    · exact h.low k hI
    · have := h.at_ id B hg
      rw [hl] at this
      exact ⟨this.lt.2, .inr this.lt.1⟩
  · rw [key] at hk1
    by_cases m1 : k ∈ ids
    · simp [m1] at hk1
    · rw [if_neg m1] at hk1
      exact h.len k B1 hk1
end Go.Proofs.YtgepadjkegfokaaDoor
