/- The operations of Go's code upon abstract values, and that the code does what they say. No condition. -/
import Derived.Test.YtgepadjkegfokaaDoorPAv
import Derived.Laws.CopyRow
import Derived.Laws.StructEq
namespace Go.Proofs.YtgepadjkegfokaaDoor
set_option linter.unusedSimpArgs false
set_option linter.unusedVariables false
open Go.RowKit
/-- The cells of a value. -/
def AV.cells : AV → List AV
  | .agg cs => cs
  | a => [a]
/-- Is it a value of one cell? -/
def AV.one : AV → Bool
  | .v x => x.oneCell'
  | .agg _ | .tup _ | .dead => false
  | _ => true
/-- May its cells be laid into others? -/
def AV.solid : AV → Bool
  | .agg _ => true
  | a => a.one
inductive Arg where
  | s (t : Nat)
  | c (a : AV)
/-- What an operation answers, and what becomes of own blocks; or whom it calls. -/
inductive Out where
  | done (val : AV) (ups : List (Nat × Option Bk))
  | call (f : FuncId) (args : List AV)
/-- A reader of own blocks: it reads a block, or sees only that it is there. -/
inductive RM (α : Type) where
  | ret (a : α)
  | fail
  | rd (id : Nat) (k : Bk → RM α)
  | lv (id : Nat) (k : RM α)
def RM.run {α : Type} (g : Nat → Option Bk) : RM α → Option α
  | .ret a => some a
  | .fail => none
  | .rd id k => match g id with
    | some B => (k B).run g
    | none => none
  | .lv id k => match g id with
    | some _ => k.run g
    | none => none
/-- Which blocks it reads. -/
def RM.acc {α : Type} (g : Nat → Option Bk) : RM α → List Nat
  | .ret _ => []
  | .fail => []
  | .rd id k => match g id with
    | some B => id :: (k B).acc g
    | none => [id]
  | .lv _ k => k.acc g
/-- Which blocks it sees to be there. -/
def RM.see {α : Type} (g : Nat → Option Bk) : RM α → List Nat
  | .ret _ => []
  | .fail => []
  | .rd id k => match g id with
    | some B => (k B).see g
    | none => []
  | .lv id k => id :: k.see g
def RM.opt {α : Type} : Option α → RM α
  | some a => .ret a
  | none => .fail
theorem RM.local {α : Type} {g g' : Nat → Option Bk} : ∀ (m : RM α), (∀ id, id ∈ m.acc g → g' id = g id) → (∀ id, id ∈ m.see g → (g' id).isSome = (g id).isSome) → m.run g' = m.run g
  | .ret _, _, _ => rfl
  | .fail, _, _ => rfl
  | .rd id k, h, h2 => by
    have h1 : g' id = g id := h id (by simp only [RM.acc]; cases g id <;> simp)
    simp only [RM.run, h1]
    cases hg : g id with
    | none => rfl
    | some B => exact RM.local (k B) (fun j hj => h j (by simp only [RM.acc, hg]; exact List.mem_cons_of_mem _ hj)) (fun j hj => h2 j (by simp only [RM.see, hg]; exact hj))
  | .lv id k, h, h2 => by
    have h1 := h2 id (by simp [RM.see])
    have ih := RM.local k (fun j hj => h j (by simpa [RM.acc] using hj)) (fun j hj => h2 j (by simp only [RM.see]; exact List.mem_cons_of_mem _ hj))
    simp only [RM.run]
    cases hg : g id with
    | none => rw [hg] at h1; simp at h1; simp [h1]
    | some B =>
      rw [hg] at h1
      obtain ⟨B', hB'⟩ := Option.isSome_iff_exists.1 (by simpa using h1)
      simp only [hB']; exact ih
/-- What is compared with nil. -/
inductive NK where
  | sl
  | fn
  | pt
/-- What is compared in a cell of a struct. -/
inductive LK where
  | int
  | str
  | bool
inductive AO where
  | mov (x : Arg)
  | pick (c a b : Arg)
  | new (zs : List AV)
  | box (n : Nat) (x : Arg)
  | agg (zs : List AV) (parts : List (Nat × Nat × Arg))
  | bsl (sz len : Nat) (zs : List AV) (parts : List (Nat × Arg))
  | load (m : Option Nat) (x : Arg)
  | store (n : Nat) (x y : Arg)
  | nilc (x : Arg)
  | bin (bt : Bool) (op : BinOp) (x y : Arg)
  | un (op : UnOp) (x : Arg)
  | conv (k : IntKind) (x : Arg)
  | fad (off : Nat) (x : Arg)
  | fld (off : Nat) (m : Option Nat) (x : Arg)
  | iad (sz : Nat) (x i : Arg)
  | ext (i : Nat) (x : Arg)
  | len (str : Bool) (x : Arg)
  | isn (kd : NK) (neg : Bool) (x : Arg)
  | mnx (max : Bool) (x y : Arg)
  | eqs (neg : Bool) (n : Nat) (L : List (Nat × LK)) (x y : Arg)
  | msl (sz bytes : Nat) (zs : List AV) (l c : Arg)
  | slc (sz : Nat) (x : Arg) (lo hi mx : Option Arg)
  | sls (x : Arg) (lo hi : Option Arg)
  | six (x i : Arg)
  | app (sz bytes : Nat) (s x : Arg)
  | mkf (f : FuncId) (caps : List Arg)
  | mkb (f : FuncId) (first : List Arg)
  | iap (sz len : Nat) (x i : Arg)
  | clr (zs : List AV) (x : Arg)
  | cpy (sz : Nat) (x y : Arg)
  | mkm
  | mup (kd : LK) (x k y : Arg)
  | mlk (kd : LK) (z : AV) (x k : Arg)
  | bad
  | call (x : Arg) (args : List Arg)
/-- Cells of a part: one, or so many as an aggregate. -/
def getCells (cs : List AV) (o : Nat) : Option Nat → Option AV
  | none => cs[o]?
  | some n => if o + n ≤ cs.length then some (.agg ((cs.drop o).take n)) else none
def putCells (cs : List AV) (o : Nat) (ys : List AV) : List AV := cs.take o ++ ys ++ cs.drop (o + ys.length)
/-- Parts laid into cells, one behind the other. -/
def fillA (ρ : Arg → AV) (cells : List AV) : List (Nat × Nat × Arg) → Option (List AV)
  | [] => some cells
  | (off, n, x) :: r => if (ρ x).cells.length = n ∧ off + n ≤ cells.length ∧ (ρ x).solid = true then fillA ρ (putCells cells off (ρ x).cells) r else none
def fillE (ρ : Arg → AV) (sz : Nat) (els : List (List AV)) : List (Nat × Arg) → Option (List (List AV))
  | [] => some els
  | (i, x) :: r => if (ρ x).cells.length = sz ∧ i < els.length ∧ (ρ x).cells.all AV.one = true then fillE ρ sz (els.set i (ρ x).cells) r else none
/-- Are two strings one? -/
def strEq (a b : ByteArray) : Bool := a.data.toList == b.data.toList
/-- Arithmetic and comparison of plain values. -/
def binA (bt : Bool) (op : BinOp) : Value → Value → Option Value
  | .int k a, .int k' b =>
    match op with
    | .shl => if b < 0 then none else some (.int k (k.wrap (a * 2 ^ (min b.toNat k.bits))))
    | .shr => if b < 0 then none else some (.int k (a.fdiv (2 ^ (min b.toNat k.bits))))
    | _ =>
    if k = k' then
      match op with
      | .add => some (.int k (k.wrap (a + b)))
      | .sub => some (.int k (k.wrap (a - b)))
      | .mul => some (.int k (k.wrap (a * b)))
      | .quo => if b = 0 then none else some (.int k (k.wrap (a.tdiv b)))
      | .rem => if b = 0 then none else some (.int k (a.tmod b))
      | .and => some (.int k (bits .and k a b))
      | .or => some (.int k (bits .or k a b))
      | .xor => some (.int k (bits .xor k a b))
      | .andNot => some (.int k (bits .andNot k a b))
      | .eql => some (.bool (a == b))
      | .neq => some (.bool (a != b))
      | .lss => some (.bool (decide (a < b)))
      | .leq => some (.bool (decide (a ≤ b)))
      | .gtr => some (.bool (decide (a > b)))
      | .geq => some (.bool (decide (a ≥ b)))
      | _ => none
    else none
  | .string a, .string b =>
    match op with
    | .eql => some (.bool (strEq a b))
    | .neq => some (.bool (!(strEq a b)))
    | .lss => some (.bool (Op.bytesLess a.toList b.toList))
    | .add => if ((a.size + b.size : Nat) : Int) > IntKind.i64.max then none else some (.string (a ++ b))
    | _ => none
  | .bool a, .bool b =>
    if bt = true then
      match op with
      | .eql => some (.bool (a == b))
      | .neq => some (.bool (!(a == b)))
      | _ => none
    else none
  | _, _ => none
def unA : UnOp → Value → Option Value
  | .neg, .int k n => some (.int k (k.wrap (0 - n)))
  | .xor, .int k n => some (.int k (bits .xor k (if k.signed then -1 else k.max) n))
  | .not, .bool b => some (.bool !b)
  | _, _ => none
def minmaxA (mx : Bool) : Value → Value → Option Value
  | .int k x, .int k' y => if k = k' then some (.int k (if mx then (if y > x then y else x) else (if y < x then y else x))) else none
  | _, _ => none
def eqV : LK → AV → AV → Option Bool
  | .int, .v (.int k a), .v (.int k' b) => if k = k' then some (a == b) else none
  | .str, .v (.string a), .v (.string b) => some (strEq a b)
  | .bool, .v (.bool a), .v (.bool b) => some (a == b)
  | _, _, _ => none
/-- Are two structs equal in all these cells? -/
def eqA (cs ds : List AV) : List (Nat × LK) → Option Bool
  | [] => some true
  | (o, k) :: r => match cs[o]?, ds[o]? with
    | some a, some b => match eqV k a b, eqA cs ds r with
      | some x, some y => some (x && y)
      | _, _ => none
    | _, _ => none
def natOf : AV → Option Nat
  | .v (.int _ n) => if 0 ≤ n then some n.toNat else none
  | _ => none
def optNat (ρ : Arg → AV) : Option Arg → Option (Option Nat)
  | none => some none
  | some x => (natOf (ρ x)).map some
/-- Bounds of a slice of so many. -/
def bounds (ln : Nat) (lo hi : Option Nat) : Option (Nat × Nat) :=
  if lo.getD 0 ≤ hi.getD ln ∧ hi.getD ln ≤ ln then some (lo.getD 0, hi.getD ln) else none
def cutL (sz : Nat) (els : List (List AV)) (l h : Nat) : Option Nat → Option AV
  | none => some (.lst sz ((els.drop l).take (h - l)))
  | some m => if h ≤ m ∧ m ≤ els.length then some (if m = l then .emp else if m = h then .tls sz ((els.drop l).take (h - l)) else .lst sz ((els.drop l).take (h - l))) else none
/-- The elements of a slice that is read. -/
def content (sz : Nat) : AV → RM (List (List AV))
  | .lst s els => if s = sz then .ret els else .fail
  | .tls s els => if s = sz then .ret els else .fail
  | .emp => .ret []
  | .own id s off n => .rd id fun B => if s = sz ∧ B.sz = sz ∧ off + n ≤ B.els.length then .ret ((B.els.drop off).take n) else .fail
  | _ => .fail
def RM.bind {α β : Type} : RM α → (α → RM β) → RM β
  | .ret a, f => f a
  | .fail, _ => .fail
  | .rd id k, f => .rd id fun B => (k B).bind f
  | .lv id k, f => .lv id (k.bind f)
/-- Are two keys of a kind one? -/
def keyEq : LK → Value → Value → Option Bool
  | .int, .int k a, .int k' b => if k = k' then some (a == b) else none
  | .bool, .bool a, .bool b => some (a == b)
  | .str, .string a, .string b => some (a == b)
  | _, _, _ => none
/-- Where a key stands in a map: its value, or nothing. -/
def mfind (kd : LK) (k : Value) : List (List AV) → Option (Option AV)
  | [] => some none
  | [.v k', x] :: r => match keyEq kd k k' with
    | some true => some (some x)
    | some false => mfind kd k r
    | none => none
  | _ => none
def AO.sem (fresh : Nat) (ρ : Arg → AV) : AO → RM Out
  | .mov x => .ret (.done (ρ x) [])
  | .pick c a b => match ρ c with
    | .v (.bool t) => .ret (.done (if t then ρ a else ρ b) [])
    | _ => .fail
  | .new zs => .ret (.done (.ref fresh zs.length 0 0) [(fresh, some ⟨zs.length, [zs]⟩)])
  | .box n x => if (ρ x).cells.length = n ∧ (ρ x).cells.all AV.one = true then .ret (.done (.ref fresh n 0 0) [(fresh, some ⟨n, [(ρ x).cells]⟩)]) else .fail
  | .agg zs parts => .opt ((fillA ρ zs parts).map fun cs => .done (.agg cs) [])
  | .bsl sz ln zs parts => .opt ((fillE ρ sz (List.replicate ln zs) parts).map fun els => .done (.own fresh sz 0 ln) [(fresh, some ⟨sz, els⟩)])
  | .load m x => match ρ x with
    | .pim cs o => .opt ((getCells cs o m).map fun a => .done a [])
    | .ref id sz i o => .rd id fun B => if B.sz = sz then .opt ((B.els[i]?.bind fun cs => getCells cs o m).map fun a => .done a []) else .fail
    | _ => .fail
  | .store n x y => match ρ x with
    | .ref id sz i o => .rd id fun B =>
      if B.sz = sz ∧ (ρ y).cells.length = n ∧ (ρ y).cells.all AV.one = true ∧ o + n ≤ sz then
        match B.els[i]? with
        | some cs => .ret (.done (.v undef) [(id, some ⟨sz, B.els.set i (putCells cs o (ρ y).cells)⟩)])
        | none => .fail
      else .fail
    | _ => .fail
  | .nilc x => match ρ x with
    | .ref id sz i o => .lv id (.ret (.done (.ref id sz i o) []))
    | .pim cs o => .ret (.done (.pim cs o) [])
    | _ => .fail
  | .bin bt op x y => match ρ x, ρ y with
    | .v a, .v b => .opt ((binA bt op a b).map fun v => .done (.v v) [])
    | _, _ => .fail
  | .un op x => match ρ x with
    | .v a => .opt ((unA op a).map fun v => .done (.v v) [])
    | _ => .fail
  | .conv k x => match ρ x with
    | .v (.int _ n) => .ret (.done (.v (.int k (k.wrap n))) [])
    | _ => .fail
  | .fad off x => match ρ x with
    | .ref id sz i o => .lv id (.ret (.done (.ref id sz i (o + off)) []))
    | .pim cs o => .ret (.done (.pim cs (o + off)) [])
    | _ => .fail
  | .fld off m x => match ρ x with
    | .agg cs => .opt ((getCells cs off m).map fun a => .done a [])
    | _ => .fail
  | .iad sz x i => match ρ x, ρ i with
    | .lst s els, .v (.int _ n) => if s = sz ∧ 0 ≤ n then .opt (els[n.toNat]?.map fun cs => .done (.pim cs 0) []) else .fail
    | .tls s els, .v (.int _ n) => if s = sz ∧ 0 ≤ n then .opt (els[n.toNat]?.map fun cs => .done (.pim cs 0) []) else .fail
    | .own id s off ln, .v (.int _ n) => if s = sz ∧ 0 ≤ n ∧ n < ln then .lv id (.ret (.done (.ref id sz (off + n.toNat) 0) [])) else .fail
    | _, _ => .fail
  | .ext i x => match ρ x with
    | .tup vs => .opt (vs[i]?.map fun a => .done a [])
    | _ => .fail
  | .len true x => match ρ x with
    | .v (.string s) => .ret (.done (.v (goInt s.size)) [])
    | _ => .fail
  | .len false x => match ρ x with
    | .lst _ els => .ret (.done (.v (goInt els.length)) [])
    | .tls _ els => .ret (.done (.v (goInt els.length)) [])
    | .emp => .ret (.done (.v (goInt 0)) [])
    | .own id _ _ n => .lv id (.ret (.done (.v (goInt n)) []))
    | _ => .fail
  | .isn .sl neg x => match ρ x with
    | .lst _ els => .ret (.done (if els.isEmpty = true then .anyb else .v (.bool neg)) [])
    | .tls _ els => .ret (.done (if els.isEmpty = true then .anyb else .v (.bool neg)) [])
    | .emp => .ret (.done .anyb [])
    | .own id _ _ n => .lv id (.ret (.done (if n = 0 then .anyb else .v (.bool neg)) []))
    | _ => .fail
  | .isn .fn neg x => match ρ x with
    | .fn _ _ => .ret (.done (.v (.bool neg)) [])
    | .bf _ _ => .ret (.done (.v (.bool neg)) [])
    | .v .nilFunc => .ret (.done (.v (.bool !neg)) [])
    | _ => .fail
  | .isn .pt neg x => match ρ x with
    | .ref id _ _ _ => .lv id (.ret (.done (.v (.bool neg)) []))
    | .pim _ _ => .ret (.done (.v (.bool neg)) [])
    | .v (.pointer none) => .ret (.done (.v (.bool !neg)) [])
    | _ => .fail
  | .mnx mx x y => match ρ x, ρ y with
    | .v a, .v b => .opt ((minmaxA mx a b).map fun v => .done (.v v) [])
    | _, _ => .fail
  | .eqs neg n L x y => match ρ x, ρ y with
    | .agg cs, .agg ds => if cs.length = n ∧ ds.length = n then .opt ((eqA cs ds L).map fun b => .done (.v (.bool (if neg then !b else b))) []) else .fail
    | _, _ => .fail
  | .msl sz bytes zs l c => match natOf (ρ l), natOf (ρ c) with
    | some l, some c => if l ≤ c ∧ c * bytes ≤ 140737488355328 then .ret (.done (.own fresh sz 0 l) [(fresh, some ⟨sz, List.replicate l zs⟩)]) else .fail
    | _, _ => .fail
  | .slc sz x lo hi mx => match optNat ρ lo, optNat ρ hi, optNat ρ mx with
    | some lo, some hi, some mx => match ρ x with
      | .lst s els => if s = sz then .opt ((bounds els.length lo hi).bind fun b => (cutL sz els b.1 b.2 mx).map fun a => .done a []) else .fail
      | .tls s els => if s = sz then .opt ((bounds els.length lo hi).bind fun b => (cutL sz els b.1 b.2 mx).map fun a => .done a []) else .fail
      | .emp => .opt ((bounds 0 lo hi).bind fun _ => if mx.getD 0 = 0 then some (.done .emp []) else none)
      | .own id s off n => .lv id (match mx with
        | none => if s = sz then (match bounds n lo hi, hi with
          | some b, _ => .ret (.done (.own id sz (off + b.1) (b.2 - b.1)) [])
          | none, some h => .rd id fun B => if B.sz = sz then .opt ((bounds (B.els.length - off) lo (some h)).map fun b => .done (.own id sz (off + b.1) (b.2 - b.1)) []) else .fail
          | none, none => .fail) else .fail
        | some m => .rd id fun B => if s = sz ∧ B.sz = sz ∧ B.els.length ≤ off + m then .opt ((bounds n lo hi).bind fun b => if b.2 ≤ m ∧ m ≤ n then some (.done (if m = b.1 then .emp else .own id sz (off + b.1) (b.2 - b.1)) []) else none) else .fail)
      | _ => .fail
    | _, _, _ => .fail
  | .sls x lo hi => match optNat ρ lo, optNat ρ hi, ρ x with
    | some lo, some hi, .v (.string s) => .opt ((bounds s.size lo hi).map fun b => .done (.v (.string (s.extract b.1 b.2))) [])
    | _, _, _ => .fail
  | .six x i => match ρ x, natOf (ρ i) with
    | .v (.string s), some i => .opt (s[i]?.map fun b => .done (.v (.int .u8 b.toNat)) [])
    | _, _ => .fail
  | .app sz bytes s x => (content sz (ρ x)).bind fun ys => match ρ s with
    | .emp => if ys.length * bytes ≤ 140737488355328 then .ret (.done (.own fresh sz 0 ys.length) [(fresh, some ⟨sz, ys⟩)]) else .fail
    | .tls k els => if k = sz ∧ ys.isEmpty = false ∧ (els.length + ys.length) * bytes ≤ 140737488355328 then .ret (.done (.own fresh sz 0 (els.length + ys.length)) [(fresh, some ⟨sz, els ++ ys⟩)]) else .fail
    | .own id k off n => .rd id fun B => if k = sz ∧ B.sz = sz ∧ off = 0 ∧ n = B.els.length ∧ (n + ys.length) * bytes ≤ 140737488355328 then .ret (.done (.own fresh sz 0 (n + ys.length)) [(id, none), (fresh, some ⟨sz, B.els ++ ys⟩)])
      else if k = sz ∧ B.sz = sz ∧ off + n + ys.length ≤ B.els.length then .ret (.done (.own id sz off (n + ys.length)) [(id, some ⟨B.sz, B.els.take (off + n) ++ ys ++ B.els.drop (off + n + ys.length)⟩), (fresh, none)]) else .fail
    | _ => .fail
  | .clr zs x => match ρ x with
    | .emp => .ret (.done (.v undef) [])
    | .own id s off n => .rd id fun B => if s = zs.length ∧ B.sz = zs.length ∧ off + n ≤ B.els.length then .ret (.done (.v undef) [(id, some ⟨B.sz, B.els.take off ++ List.replicate n zs ++ B.els.drop (off + n)⟩)]) else .fail
    | _ => .fail
  | .cpy sz x y => (content sz (ρ y)).bind fun ys => match ρ x with
    | .own id s off n => .rd id fun B => if s = sz ∧ B.sz = sz ∧ off + n ≤ B.els.length then .ret (.done (.v (goInt (min ys.length n : Nat))) [(id, some ⟨B.sz, B.els.take off ++ ys.take n ++ B.els.drop (off + min ys.length n)⟩)]) else .fail
    | _ => .fail
  | .bad => .fail
  | .mkm => .ret (.done (.mp fresh) [(fresh, some ⟨0, []⟩)])
  | .mup kd x k y => match ρ x, ρ k with
    | .mp id, .v k => .rd id fun B => if B.sz = 0 ∧ plainV k = true then (match mfind kd k B.els with
      | some none => .ret (.done (.v undef) [(id, some ⟨0, B.els ++ [[.v k, ρ y]]⟩)])
      | _ => .fail) else .fail
    | _, _ => .fail
  | .mlk kd z x k => match ρ x, ρ k with
    | .mp id, .v k => .rd id fun B => if B.sz = 0 then .opt ((mfind kd k B.els).map fun r => .done (r.getD z) []) else .fail
    | _, _ => .fail
  | .mkf f caps => .ret (.done (.fn f (caps.map ρ)) [])
  | .mkb f first => .ret (.done (.bf f (first.map ρ)) [])
  | .iap sz ln x i => match ρ x, ρ i with
    | .ref id s e o, .v (.int _ n) => if 0 ≤ n ∧ n < ln then .lv id (.ret (.done (.ref id s e (o + n.toNat * sz)) [])) else .fail
    | .pim cs o, .v (.int _ n) => if 0 ≤ n ∧ n < ln then .ret (.done (.pim cs (o + n.toNat * sz)) []) else .fail
    | _, _ => .fail
  | .call x args => match ρ x with
    | .fn f caps => .ret (.call f (args.map ρ ++ caps))
    | .bf f first => .ret (.call f (first ++ args.map ρ))
    | _ => .fail
def ofConst1 : Value → Option AV
  | .slice none 0 0 => some .emp
  | v => if plainV v = true then some (.v v) else none
def ofConstL : List Value → Option (List AV)
  | [] => some []
  | v :: r => match ofConst1 v, ofConstL r with
    | some a, some l => some (a :: l)
    | _, _ => none
def ofConst : Value → Option AV
  | .agg cs => (ofConstL cs.toList).map .agg
  | v => ofConst1 v
def cArg : Operand → Option Arg
  | .tmp t => some (.s t)
  | .const v => (ofConst v).map .c
  | .func f => some (.c (.fn f []))
  | .global g => (glArg g).map .c
def cArgs : List Operand → Option (List Arg)
  | [] => some []
  | x :: r => match cArg x, cArgs r with
    | some a, some l => some (a :: l)
    | _, _ => none
def szOf (P : Program) (t : TypeId) : Option Nat := (P.info? t).map (·.size)
/-- None: a value of one cell; some n: an aggregate of n cells. -/
def aggOf (P : Program) (t : TypeId) : Option (Option Nat) :=
  match P.underlying t with
  | some (.struct _) => (szOf P t).map some
  | some (.array _ _) => (szOf P t).map some
  | some _ => if (P.info? t).isSome then some none else none
  | none => none
def zerosOf (P : Program) (t : TypeId) : Option (List AV) :=
  match P.info? t with
  | some i => match i.zero with
    | some z => match ofConstL z.cells.toList with
      | some l => if l.length = i.size ∧ l.all AV.one = true then some l else none
      | none => none
    | none => none
  | none => none
def cParts (place : Nat → Option (Nat × Nat)) : List (Nat × Operand) → Option (List (Nat × Nat × Arg))
  | [] => some []
  | (i, x) :: r => match place i, cArg x, cParts place r with
    | some p, some a, some l => some ((p.1, p.2, a) :: l)
    | _, _, _ => none
def placesOf (P : Program) (fields : Array Field) : Option (List (Nat × Nat)) := fields.toList.mapM (fun f => (P.info? f.type).map fun i => (f.offset, i.size))
def cPartsE : List (Nat × Operand) → Option (List (Nat × Arg))
  | [] => some []
  | (i, x) :: r => match cArg x, cPartsE r with
    | some a, some l => some ((i, a) :: l)
    | _, _ => none
def plainT (P : Program) (t : TypeId) : Bool :=
  match P.underlying t with
  | some (.int _) | some .string | some .bool => true
  | _ => false
def boolT (P : Program) (t : TypeId) : Bool :=
  match P.underlying t with
  | some .bool => true
  | _ => false
def leavesF (P : Program) (rec : TypeId → Nat → Option (List (Nat × LK))) (off n : Nat) : List Field → Option (List (Nat × LK))
  | [] => some []
  | f :: r => if f.name = "_" then none else match szOf P f.type with
    | some k => if f.offset + k ≤ n ∧ f.offset < n then match rec f.type (off + f.offset), leavesF P rec off n r with
      | some a, some b => some (a ++ b)
      | _, _ => none
      else none
    | none => none
def leavesOf (P : Program) : Nat → TypeId → Nat → Option (List (Nat × LK))
  | 0, _, _ => none
  | d + 1, t, off => match P.underlying t with
    | some (.int _) => some [(off, .int)]
    | some .string => some [(off, .str)]
    | some .bool => some [(off, .bool)]
    | some (.struct fs) => if P.stoodInHeld t then none else match szOf P t with
      | some n => leavesF P (leavesOf P d) off n fs.toList
      | none => none
    | _ => none
/-- Is a value compared with nil? -/
def negOf : BinOp → Option Bool
  | .eql => some false
  | .neq => some true
  | _ => none
def nilC (P : Program) (t : TypeId) (op : BinOp) (y : Operand) : Option (NK × Bool) :=
  match P.underlying t, y with
  | some (.slice _), .const (.slice none 0 0) => (negOf op).map fun n => (.sl, n)
  | some (.func _ _ _), .const .nilFunc => (negOf op).map fun n => (.fn, n)
  | some (.pointer _), .const (.pointer none) => (negOf op).map fun n => (.pt, n)
  | _, _ => none
/-- Keys that are told at once whether they are one. -/
def kOf : TypeDesc → Option LK
  | .int _ => some .int
  | .string => some .str
  | .bool => some .bool
  | _ => none
def keyT (P : Program) (t : TypeId) : Option LK := (P.underlying t).bind kOf
/-- The zero of a type of one cell. -/
def zeroOf (P : Program) (t : TypeId) : Option AV :=
  match P.info? t with
  | some i => match i.zero with
    | some z => ofConst1 z
    | none => none
  | none => none
def cOptArg : Option Operand → Option (Option Arg)
  | none => some none
  | some x => (cArg x).map some
def cOp (P : Program) (o : Oper) : Option AO :=
  match o.op with
  | .move x | .assign x => (cArg x).map .mov
  | .pick c a b => match cArg c, cArg a, cArg b with
    | some c, some a, some b => some (.pick c a b)
    | _, _, _ => none
  | .alloc t => match zerosOf P t with
    | some zs => if 0 < zs.length then some (.new zs) else none
    | none => none
  | .box t x => match szOf P t, cArg x with
    | some n, some x => if 0 < n then some (.box n x) else none
    | _, _ => none
  | .build t parts => match zerosOf P t, P.underlying t with
    | some zs, some (.struct fields) => match placesOf P fields with
      | some places => (cParts (places.toArray[·]?) parts.toList).map (.agg zs)
      | none => none
    | some zs, some (.array _ e) => match szOf P e with
      | some sz => (cParts (fun i => some (i * sz, sz)) parts.toList).map (.agg zs)
      | none => none
    | _, _ => none
  | .buildSlice t len parts => match P.underlying t with
    | some (.slice e) => match zerosOf P e with
      | some zs => if len * zs.length ≤ 16777216 ∧ 0 < zs.length then (cPartsE parts.toList).map (.bsl zs.length len zs) else none
      | none => none
    | _ => none
  | .load t x => match aggOf P t, cArg x with
    | some m, some x => some (.load m x)
    | _, _ => none
  | .store t x y => match szOf P t, cArg x, cArg y with
    | some n, some x, some y => some (.store n x y)
    | _, _, _ => none
  | .nilCheck x => (cArg x).map .nilc
  | .binOp op t x y _ => match nilC P t op y with
    | some q => (cArg x).map (.isn q.1 q.2)
    | none => match cArg x, cArg y with
    | some x, some y => if plainT P t then some (.bin (boolT P t) op x y) else
      if P.eqGuardType P.depth t then none else match P.underlying t, leavesOf P 8 t 0, szOf P t, op with
      | some (.struct _), some L, some n, .eql => some (.eqs false n L x y)
      | some (.struct _), some L, some n, .neq => some (.eqs true n L x y)
      | _, _, _, _ => none
    | _, _ => none
  | .unOp op _ x => (cArg x).map (.un op)
  | .convert s d x => match P.underlying s, P.underlying d, cArg x with
    | some (.int _), some (.int k), some x => some (.conv k x)
    | _, _, _ => none
  | .fieldAddr s x f => match P.underlying s, cArg x with
    | some (.struct fields), some x => match fields[f]? with
      | some f => if szOf P f.type = some 0 ∨ szOf P f.type = none then none else some (.fad f.offset x)
      | none => none
    | _, _ => none
  | .field s x f => match P.underlying s, cArg x with
    | some (.struct fields), some x => match fields[f]? with
      | some f => (aggOf P f.type).map fun m => .fld f.offset m x
      | none => none
    | _, _ => none
  | .indexAddr t x i => match P.underlying t, cArg x, cArg i with
    | some (.slice e), some x, some i => match szOf P e with
      | some sz => if 0 < sz then some (.iad sz x i) else none
      | none => none
    | some (.array len e), some x, some i => match szOf P e with
      | some sz => if 0 < sz then some (.iap sz len x i) else none
      | none => none
    | _, _, _ => none
  | .panic _ | .makeInterface _ _ => some .bad
  | .makeMap t r => match P.underlying t, r with
    | some (.map _ _), none => some .mkm
    | some (.map _ _), some (.const (.int _ _)) => some .mkm
    | _, _ => none
  | .mapUpdate t x k y | .insert t x k y => match P.underlying t, cArg x, cArg k, cArg y with
    | some (.map kt _), some x, some k, some y => (keyT P kt).map fun kd => .mup kd x k y
    | _, _, _, _ => none
  | .lookup t x k ok => match P.underlying t, cArg x, cArg k with
    | some (.map kt et), some x, some k => if ok = false then (match zeroOf P et, keyT P kt with
      | some z, some kd => some (.mlk kd z x k)
      | _, _ => none) else none
    | _, _, _ => none
  | .extract x i => (cArg x).map (.ext i)
  | .makeSlice t l c => match P.underlying t, cArg l, cArg c with
    | some (.slice e), some l, some c => match zerosOf P e, P.info? e with
      | some zs, some i => if 0 < zs.length ∧ 0 < i.bytes then some (.msl zs.length i.bytes zs l c) else none
      | _, _ => none
    | _, _, _ => none
  | .slice t x lo hi mx => match P.underlying t, cArg x, cOptArg lo, cOptArg hi, cOptArg mx with
    | some (.slice e), some x, some lo, some hi, some mx => match szOf P e with
      | some sz => if 0 < sz ∧ (mx.isSome = true → hi.isSome = true) then some (.slc sz x lo hi mx) else none
      | none => none
    | some .string, some x, some lo, some hi, some none => some (.sls x lo hi)
    | _, _, _, _, _ => none
  | .index t x i => match P.underlying t, cArg x, cArg i with
    | some .string, some x, some i => some (.six x i)
    | _, _, _ => none
  | .makeFunc (.func f) first caps => if first.isEmpty then (cArgs caps.toList).map (.mkf f) else if caps.isEmpty then (cArgs first.toList).map (.mkb f) else none
  | .call c => match c.callee with
    | .value x => match cArg x, cArgs c.args.toList with
      | some x, some l => some (.call x l)
      | _, _ => none
    | .builtin .len => match c.args.toList, c.argTypes[0]? with
      | [x], some t => match P.underlying t with
        | some (.slice _) => (cArg x).map (.len false)
        | some .string => (cArg x).map (.len true)
        | _ => none
      | _, _ => none
    | .builtin .append => match c.args.toList, c.argTypes.toList with
      | [s, x], [t, u] => if t = u then match P.underlying t, cArg s, cArg x with
        | some (.slice e), some s, some x => match zerosOf P e, P.info? e with
          | some zs, some i => if 0 < zs.length ∧ 0 < i.bytes then some (.app zs.length i.bytes s x) else none
          | _, _ => none
        | _, _, _ => none
        else none
      | _, _ => none
    | .builtin .clear => match c.args.toList, c.argTypes[0]? with
      | [x], some t => match P.underlying t, cArg x with
        | some (.slice e), some x => match zerosOf P e with
          | some zs => if 0 < zs.length then some (.clr zs x) else none
          | none => none
        | _, _ => none
      | _, _ => none
    | .builtin .copy => match c.args.toList, c.argTypes[0]? with
      | [x, y], some t => match P.underlying t, cArg x, cArg y with
        | some (.slice e), some x, some y => match szOf P e with
          | some sz => if 0 < sz then some (.cpy sz x y) else none
          | none => none
        | _, _, _ => none
      | _, _ => none
    | .builtin .min => match c.args.toList with
      | [x, y] => match cArg x, cArg y with
        | some x, some y => some (.mnx false x y)
        | _, _ => none
      | _ => none
    | .builtin .max => match c.args.toList with
      | [x, y] => match cArg x, cArg y with
        | some x, some y => some (.mnx true x y)
        | _, _ => none
      | _ => none
    | _ => none
  | _ => none
end Go.Proofs.YtgepadjkegfokaaDoor
