/- Strings of bytes and bytes of strings: conversions, upon abstract values. No condition. -/
import Derived.WalkKit
import Derived.Orders
import Derived.Below
import Derived.Laws.CopyRow
import Derived.Laws.StructEq
import Derived.Deep.OwnRows
import Derived.Laws.Bits
import Derived.Laws.AppendOwn
import Derived.MapKept
import Derived.Laws.IdiomStrings
set_option linter.unusedSimpArgs false
set_option linter.unusedVariables false
namespace Go.Proofs.Ytboaekdecndckaa
open Go.RowKit
def plainV:Value→Bool
 | .bool _| .int _ _| .string _| .nilFunc| .nilIface=>true
 | .pointer none=>true
 | .tuple vs=>vs.isEmpty
 |_=>false
inductive AV where
 |v (x:Value)
 |agg (cs:List AV)
 |tup (vs:List AV)
 |lst (sz:Nat) (els:List (List AV))
 |tls (sz:Nat) (els:List (List AV))
 |emp
 |pim (cs:List AV) (o:Nat)
 |ref (id sz i o:Nat)
 |own (id sz off len:Nat)
 |fn (f:FuncId) (caps:List AV)
 |bf (f:FuncId) (first:List AV)
 |yld (r:Loop) (cs:List AV)
 |mp (id:Nat)
 |anyb
 |dead
inductive Pu:AV→Prop
 |v {x:Value}:Pu (.v x)
 |agg {cs:List AV} (h:∀c,c∈cs→Pu c):Pu (.agg cs)
 |tup {cs:List AV} (h:∀c,c∈cs→Pu c):Pu (.tup cs)
 |lst {sz:Nat} {els:List (List AV)}:Pu (.lst sz els)
 |tls {sz:Nat} {els:List (List AV)}:Pu (.tls sz els)
 |emp:Pu .emp
 |pim {cs:List AV} {o:Nat}:Pu (.pim cs o)
 |fn {f:FuncId} {cs:List AV} (h:∀c,c∈cs→Pu c):Pu (.fn f cs)
 |bf {f:FuncId} {cs:List AV} (h:∀c,c∈cs→Pu c):Pu (.bf f cs)
 |anyb:Pu .anyb
 |dead:Pu .dead
structure Bk where
 sz:Nat
 els:List (List AV)
structure Env where
 w:World
 kn:Nat→Prop
 loc:Nat→Option Nat
 dead:Nat→Prop
 I:Nat→Prop
 ln:Nat→Nat
 rg:Nat→Prop
 X:Nat→Prop
inductive Rep (E:Env):Value→AV→Prop
 |v {x:Value} (h:plainV x=true):Rep E x (.v x)
 |agg {vs:Array Value} {cs:List AV} (hl:vs.size=cs.length) (h:∀(i:Nat) v c,vs[i]? =some v→cs[i]? =some c→Rep E v c):Rep E (.agg vs) (.agg cs)
 |tup {vs:Array Value} {cs:List AV} (hl:vs.size=cs.length) (h:∀(i:Nat) v c,vs[i]? =some v→cs[i]? =some c→Rep E v c):Rep E (.tuple vs) (.tup cs)
 |lst0 {A:Option Addr} {c sz:Nat} (hc:c≤9223372036854775807):Rep E (.slice A 0 c) (.lst sz [])
 |lst1 {b off n c sz:Nat} {els:List (List AV)} (u:Nat→Nat→Value) (hn:n=els.length) (hl:n≤c) (hc:c≤9223372036854775807) (hb:E.I b)
   (hz:∀(i:Nat) cs,els[i]? =some cs→cs.length=sz) (hu:∀(i:Nat) cs (j:Nat) x,els[i]? =some cs→cs[j]? =some x→E.w.cell? ⟨b,off+i*sz+j,none⟩=some (u i j))
   (h1:∀(i:Nat) cs (j:Nat) x,els[i]? =some cs→cs[j]? =some x→(u i j).oneCell'=true∧Pu x)
   (h:∀(i:Nat) cs (j:Nat) x,els[i]? =some cs→cs[j]? =some x→Rep E (u i j) x):Rep E (.slice (some ⟨b,off,none⟩) n c) (.lst sz els)
 |tls {A:Option Addr} {n sz:Nat} {els:List (List AV)} (h:Rep E (.slice A n n) (.lst sz els)):Rep E (.slice A n n) (.tls sz els)
 |emp {A:Option Addr}:Rep E (.slice A 0 0) .emp
 |pim {b off o q:Nat} {cs:List AV} (u:Nat→Value) (hb:E.I b) (hq:q=off+o) (hu:∀(j:Nat) x,cs[j]? =some x→E.w.cell? ⟨b,off+j,none⟩=some (u j)) (h1:∀(j:Nat) x,cs[j]? =some x→Pu x)
   (h:∀(j:Nat) x,cs[j]? =some x→Rep E (u j) x):Rep E (.pointer (some ⟨b,q,none⟩)) (.pim cs o)
 |ref {id sz i o b q:Nat} (hi:E.kn id) (hd:¬E.dead id) (hb:E.loc id=some b) (hq:q=i*sz+o) (hz:sz≠0:=by first|assumption|omega|(dsimp only;omega)):Rep E (.pointer (some ⟨b,q,none⟩)) (.ref id sz i o)
 |own {id sz off n c b q m:Nat} {t:TypeId} (hi:E.kn id) (hd:¬E.dead id) (hb:E.loc id=some b) (hq:q=off*sz∨c=0) (hs:E.w.shape? b=some (t,m)) (hm:(off+c)*sz≤m) (hl:n≤c) (hc:c≤9223372036854775807) (hln:E.ln id≤off+c) (hz:sz≠0:=by first|assumption|omega|(dsimp only;omega)):
   Rep E (.slice (some ⟨b,q,none⟩) n c) (.own id sz off n)
 |own0 {id sz:Nat} {A:Option Addr} (hi:E.kn id) (hd:¬E.dead id) (hb:E.loc id=none) (hln:E.ln id=0) (hz:sz≠0:=by first|assumption|omega|(dsimp only;omega)):Rep E (.slice A 0 0) (.own id sz 0 0)
 |staleR {v:Value} {id sz i o:Nat} (hi:E.kn id) (hd:E.dead id) (ho:v.oneCell'=true):Rep E v (.ref id sz i o)
 |staleO {v:Value} {id sz off n:Nat} (hi:E.kn id) (hd:E.dead id) (ho:v.oneCell'=true):Rep E v (.own id sz off n)
 |fn {f:FuncId} {vs:Array Value} {cs:List AV} (hl:vs.size=cs.length) (h:∀(i:Nat) v c,vs[i]? =some v→cs[i]? =some c→Rep E v c):Rep E (.func (.func f) #[] vs) (.fn f cs)
 |bf {f:FuncId} {vs:Array Value} {cs:List AV} (hl:vs.size=cs.length) (h:∀(i:Nat) v c,vs[i]? =some v→cs[i]? =some c→Rep E v c):Rep E (.func (.func f) vs #[]) (.bf f cs)
 |yld {l:Nat} {r:Loop} {cs:List AV} (hg:E.rg l) (hI:E.I l) (hh:E.w.heap[l]? =some (.loop r)) (hl:r.tmps.size=cs.length) (h:∀(i:Nat) v c,r.tmps[i]? =some v→cs[i]? =some c→Rep E v c):Rep E (.func (.yield l) #[] #[]) (.yld r cs)
 |mp {id b:Nat} (hi:E.kn id) (hd:¬E.dead id) (hb:E.loc id=some b):Rep E (.map (some b)) (.mp id)
 |staleP {v:Value} {id:Nat} (hi:E.kn id) (hd:E.dead id) (ho:v.oneCell'=true):Rep E v (.mp id)
 |anyb {b:Bool}:Rep E (.bool b) .anyb
 |dead {v:Value}:Rep E v .dead
structure Env.Le (E E':Env):Prop where
 kn:∀id,E.kn id→E'.kn id
 imm:∀b,E.I b→E'.I b∧E'.w.heap[b]? =E.w.heap[b]?
 dead:∀id,E.kn id→E.dead id→E'.dead id
 loc:∀id,E.kn id→¬E.dead id→E'.dead id∨(E'.loc id=E.loc id)
 shape:∀id b,E.kn id→¬E.dead id→E.loc id=some b→E'.dead id∨E'.w.shape? b=E.w.shape? b
 ln:∀id,E.kn id→¬E.dead id→E'.dead id∨E'.ln id=E.ln id
 rg:∀l,E.rg l→E'.rg l
 fx:∀b,E.X b→E'.X b∧E'.w.heap[b]? =E.w.heap[b]?
theorem Env.Le.cell {E E':Env} (hE:E.Le E') {b:Nat} (hb:E.I b) (o:Nat):E'.w.cell? ⟨b,o,none⟩=E.w.cell? ⟨b,o,none⟩:=World.cell?_of_block (w:=E.w) (w':=E'.w) (a:=⟨b,o,none⟩) (hE.imm b hb).2
def GlE (E:Env):Prop:=True
theorem GlE.step {E E':Env} (hE:E.Le E') (h:GlE E):GlE E':=trivial
def glArg:Nat→Option AV:=fun _=>none
theorem GlE.arg {E:Env} (h:GlE E) {g:Nat} {c:AV} (hc:glArg g=some c):Rep E (.pointer (some ⟨g,0,none⟩)) c:=by simp [glArg] at hc
theorem Rep.step {E E':Env} (hE:E.Le E') {v:Value} {a:AV} (h:Rep E v a):Rep E' v a:=by
 induction h with
 |v h=>exact .v h
 |agg hl h ih=>exact .agg hl ih
 |tup hl h ih=>exact .tup hl ih
 |lst0 hc=>exact .lst0 hc
 |lst1 u hn hl hc hb hz hu h1 h ih=>exact .lst1 u hn hl hc (hE.imm _ hb).1 hz (fun i cs j x hi hj=>by rw [hE.cell hb];exact hu i cs j x hi hj) h1 ih
 |tls h ih=>exact .tls ih
 |emp=>exact .emp
 |pim u hb hq hu h1 h ih=>exact .pim u (hE.imm _ hb).1 hq (fun j x hj=>by rw [hE.cell hb];exact hu j x hj) h1 ih
 | @mp id b hi hd hb=>
  by_cases hx:E'.dead id
  ·exact .staleP (hE.kn _ hi) hx rfl
  ·exact .mp (hE.kn _ hi) hx (((hE.loc _ hi hd).resolve_left hx).trans hb)
 |staleP hi hd ho=>exact .staleP (hE.kn _ hi) (hE.dead _ hi hd) ho
 | @ref id sz i o b q hi hd hb hq=>
  by_cases hx:E'.dead id
  ·exact .staleR (hE.kn _ hi) hx rfl
  ·exact .ref (hE.kn _ hi) hx (((hE.loc _ hi hd).resolve_left hx).trans hb) hq
 | @own id sz off n c b q m t hi hd hb hq hs hm hl hc hln=>
  by_cases hx:E'.dead id
  ·exact .staleO (hE.kn _ hi) hx rfl
  ·exact .own (hE.kn _ hi) hx (((hE.loc _ hi hd).resolve_left hx).trans hb) hq (((hE.shape _ _ hi hd hb).resolve_left hx).trans hs) hm hl hc (by rw [(hE.ln _ hi hd).resolve_left hx];exact hln)
 | @own0 id sz A hi hd hb hln=>
  by_cases hx:E'.dead id
  ·exact .staleO (hE.kn _ hi) hx rfl
  ·exact .own0 (hE.kn _ hi) hx (((hE.loc _ hi hd).resolve_left hx).trans hb) (((hE.ln _ hi hd).resolve_left hx).trans hln)
 |staleR hi hd ho=>exact .staleR (hE.kn _ hi) (hE.dead _ hi hd) ho
 |staleO hi hd ho=>exact .staleO (hE.kn _ hi) (hE.dead _ hi hd) ho
 |fn hl h ih=>exact .fn hl ih
 |bf hl h ih=>exact .bf hl ih
 |yld hg hI hh hl h ih=>exact .yld (hE.rg _ hg) (hE.imm _ hI).1 ((hE.imm _ hI).2.trans hh) hl ih
 |anyb=>exact .anyb
 |dead=>exact .dead
theorem Rep.pure {E E':Env} (hI:∀b,E.I b→E'.I b∧∀o,E'.w.cell? ⟨b,o,none⟩=E.w.cell? ⟨b,o,none⟩) {v:Value} {a:AV} (h:Rep E v a) (hp:Pu a):Rep E' v a:=by
 induction h with
 |v h=>exact .v h
 |agg hl h ih=>cases hp with|agg hp=>exact .agg hl fun i v c hv hc=>ih i v c hv hc (hp c (List.mem_of_getElem? hc))
 |tup hl h ih=>cases hp with|tup hp=>exact .tup hl fun i v c hv hc=>ih i v c hv hc (hp c (List.mem_of_getElem? hc))
 |lst0 hc=>exact .lst0 hc
 |lst1 u hn hl hc hb hz hu h1 h ih=>exact .lst1 u hn hl hc (hI _ hb).1 hz (fun i cs j x hi hj=>by rw [(hI _ hb).2];exact hu i cs j x hi hj) h1 fun i cs j x hi hj=>ih i cs j x hi hj (h1 i cs j x hi hj).2
 |tls h ih=>exact .tls (ih .lst)
 |emp=>exact .emp
 |pim u hb hq hu h1 h ih=>exact .pim u (hI _ hb).1 hq (fun j x hj=>by rw [(hI _ hb).2];exact hu j x hj) h1 fun j x hj=>ih j x hj (h1 j x hj)
 |ref=>cases hp
 |own=>cases hp
 |own0=>cases hp
 |staleR=>cases hp
 |staleO=>cases hp
 |fn hl h ih=>cases hp with|fn hp=>exact .fn hl fun i v c hv hc=>ih i v c hv hc (hp c (List.mem_of_getElem? hc))
 |bf hl h ih=>cases hp with|bf hp=>exact .bf hl fun i v c hv hc=>ih i v c hv hc (hp c (List.mem_of_getElem? hc))
 |yld=>cases hp
 |mp=>cases hp
 |staleP=>cases hp
 |anyb=>exact .anyb
 |dead=>exact .dead
theorem Rep.own_sz {E:Env} {v:Value} {id sz off n:Nat} (h:Rep E v (.own id sz off n)) (hd:¬E.dead id):sz≠0:=by
 cases h with
 |own=>assumption
 |own0=>assumption
 |staleO _ hx=>exact absurd hx hd
theorem Env.Le.refl (E:Env):E.Le E:=⟨fun _ h=>h,fun _ h=>⟨h,rfl⟩,fun _ _ h=>h,fun _ _ _=> .inr rfl,fun _ _ _ _ _=> .inr rfl,fun _ _ _=> .inr rfl,fun _ h=>h,fun _ h=>⟨h,rfl⟩⟩
theorem Env.Le.trans {E E' E'':Env} (h:E.Le E') (k:E'.Le E''):E.Le E'':=by
 refine ⟨fun id hi=>k.kn _ (h.kn _ hi),fun b hb=>⟨(k.imm b (h.imm b hb).1).1,((k.imm b (h.imm b hb).1).2).trans ((h.imm b hb).2)⟩,fun id hi hd=>k.dead _ (h.kn _ hi) (h.dead _ hi hd),fun id hi hd=> ?_,fun id b hi hd hb=> ?_,fun id hi hd=> ?_,fun l hg=>k.rg l (h.rg l hg),fun b hb=>⟨(k.fx b (h.fx b hb).1).1,((k.fx b (h.fx b hb).1).2).trans ((h.fx b hb).2)⟩⟩
 ·by_cases hx:E'.dead id
  ·exact .inl (k.dead _ (h.kn _ hi) hx)
  ·rcases k.loc _ (h.kn _ hi) hx with k1|k1
   ·exact .inl k1
   ·exact .inr (k1.trans ((h.loc _ hi hd).resolve_left hx))
 ·by_cases hx:E'.dead id
  ·exact .inl (k.dead _ (h.kn _ hi) hx)
  ·have hl:=(h.loc _ hi hd).resolve_left hx
   rcases k.shape id b (h.kn _ hi) hx (hl.trans hb) with k1|k1
   ·exact .inl k1
   ·exact .inr (k1.trans ((h.shape _ _ hi hd hb).resolve_left hx))
 ·by_cases hx:E'.dead id
  ·exact .inl (k.dead _ (h.kn _ hi) hx)
  ·rcases k.ln _ (h.kn _ hi) hx with k1|k1
   ·exact .inl k1
   ·exact .inr (k1.trans ((h.ln _ hi hd).resolve_left hx))
def frz (n:Nat):Nat→Nat×Nat
 |0=>(0,0)
 |k+1=>(n,n+k+1)
def CellsAt (E:Env) (B:Bk) (b:Nat):Prop:=∃(arr:Array Value) (t:TypeId×Nat),E.w.heap[b]? =some (.cells arr t.1 (frz arr.size t.2))∧B.els.length*B.sz≤arr.size∧
   ∀(i:Nat) cs,B.els[i]? =some cs→cs.length=B.sz∧∀(j:Nat) x,cs[j]? =some x→∃u,arr[i*B.sz+j]? =some u∧u.oneCell'=true∧Rep E u x
def MapAt (E:Env) (els:List (List AV)) (b:Nat):Prop:=∃(es:Array MapEntry) (clock:Nat),E.w.heap[b]? =some (.map es clock)∧es.size=els.length∧
   ∀(i:Nat) e cs,es[i]? =some e→els[i]? =some cs→∃x,cs=[.v e.key,x]∧plainV e.key=true∧Rep E e.val x
def BlkAt (E:Env) (base:Nat) (B:Bk):Option Nat→Prop
 |none=>B.els=[]
 |some b=>base≤b∧((B.sz≠0∧CellsAt E B b)∨(B.sz=0∧MapAt E B.els b))
theorem BlkAt.cells {E:Env} {base b:Nat} {B:Bk} (h:BlkAt E base B (some b)) (hz:B.sz≠0):base≤b∧CellsAt E B b:=⟨h.1,(h.2.resolve_right fun hh=>hz hh.1).2⟩
theorem BlkAt.mapp {E:Env} {base b:Nat} {B:Bk} (h:BlkAt E base B (some b)) (hz:B.sz=0):base≤b∧MapAt E B.els b:=⟨h.1,(h.2.resolve_left fun hh=>hh.1 hz).2⟩
theorem BlkAt.ofCells {E:Env} {base b:Nat} {B:Bk} (h:base≤b∧CellsAt E B b) (hz:B.sz≠0):BlkAt E base B (some b):=⟨h.1, .inl ⟨hz,h.2⟩⟩
theorem BlkAt.ofMap {E:Env} {base b:Nat} {B:Bk} (h:base≤b∧MapAt E B.els b) (hz:B.sz=0):BlkAt E base B (some b):=⟨h.1, .inr ⟨hz,h.2⟩⟩
structure MemAt (E:Env) (J:Nat→Prop) (base:Nat) (g:Nat→Option Bk):Prop where
 live:∀id,(E.kn id∧¬E.dead id)↔∃B,g id=some B
 at_:∀id B,g id=some B→BlkAt E base B (E.loc id)
 apart:∀id id' b B B',g id=some B→g id'=some B'→E.loc id=some b→E.loc id'=some b→id=id'
 out:∀id b B,g id=some B→E.loc id=some b→¬E.I b
 low:∀b,E.I b→b<E.w.heap.size∧(J b∨base≤b)
 size:base≤E.w.heap.size
 len:∀id B,g id=some B→B.sz≠0→B.els.length=E.ln id
 rgb:∀l,E.rg l→base≤l
 xo:∀b,E.X b→b<E.w.heap.size∧¬E.I b∧∀id B,g id=some B→E.loc id≠some b
def gput (g:Nat→Option Bk):List (Nat×Option Bk)→Nat→Option Bk
 |[]=>g
 |(id,x)::r=>gput (fun k=>if k=id then x else g k) r
theorem BlkAt.lt {E:Env} {base b:Nat} {B:Bk} (h:BlkAt E base B (some b)):base≤b∧b<E.w.heap.size:=by
 obtain ⟨h1,⟨_,arr,t,h2,_⟩|⟨_,es,clock,h2,_⟩⟩:=h
 ·exact ⟨h1,(Array.getElem?_eq_some_iff.1 h2).1⟩
 ·exact ⟨h1,(Array.getElem?_eq_some_iff.1 h2).1⟩
theorem BlkAt.keep {E E':Env} (hE:E.Le E') {base:Nat} {B:Bk} {l:Option Nat} (h:BlkAt E base B l) (hw:∀b,l=some b→E'.w.heap[b]? =E.w.heap[b]?):BlkAt E' base B l:=by
 cases l with
 |none=>exact h
 |some b=>
  obtain ⟨h1,⟨hz,arr,t,h2,h3,h4⟩|⟨hz,es,clock,h2,h3,h4⟩⟩:=h
  ·refine ⟨h1, .inl ⟨hz,arr,t,(hw b rfl).trans h2,h3,fun i cs hi=>⟨(h4 i cs hi).1,fun j x hj=> ?_⟩⟩⟩
   obtain ⟨u,k1,k2,k3⟩:=(h4 i cs hi).2 j x hj
   exact ⟨u,k1,k2,k3.step hE⟩
  ·refine ⟨h1, .inr ⟨hz,es,clock,(hw b rfl).trans h2,h3,fun i e cs he hi=> ?_⟩⟩
   obtain ⟨x,k1,k2,k3⟩:=h4 i e cs he hi
   exact ⟨x,k1,k2,k3.step hE⟩
theorem MemAt.allocO {E:Env} {J:Nat→Prop} {base:Nat} {g:Nat→Option Bk} (h:MemAt E J base g) (fresh:Nat) (hf:¬E.kn fresh) (ob:Obj) (B:Bk)
  (hB:∀E':Env,E.Le E'→E'.w=E.w.alloc ob→BlkAt E' base B (some E.w.heap.size)):
  ∃E':Env,E'.w=E.w.alloc ob∧E.Le E'∧MemAt E' J base (gput g [(fresh,some B)])∧E'.kn fresh∧¬E'.dead fresh∧E'.loc fresh=some E.w.heap.size∧(∀id,E'.kn id→E.kn id∨id=fresh)∧E'.ln fresh=B.els.length:=by
 have hlt:∀id b B,g id=some B→E.loc id=some b→b<E.w.heap.size:=fun id b B hg hb=>by
  have:=h.at_ id B hg;rw [hb] at this;exact this.lt.2
 let E':Env:={ w:=E.w.alloc ob,kn:=fun id=>E.kn id∨id=fresh,loc:=fun id=>if id=fresh then some E.w.heap.size else E.loc id,dead:=fun id=>E.dead id∧id≠fresh,I:=E.I,ln:=fun id=>if id=fresh then B.els.length else E.ln id,rg:=E.rg,X:=E.X }
 have hne:∀id,E.kn id→id≠fresh:=fun id hi he=>hf (he▸hi)
 have hE:E.Le E':=by
  refine ⟨fun id hi=> .inl hi,fun b hb=>⟨hb,Below.heap_alloc _ _ _ (h.low b hb).1⟩,fun id hi hd=>⟨hd,hne id hi⟩,fun id hi hd=> .inr (if_neg (hne id hi)),fun id b hi hd hb=> .inr ?_,fun id hi hd=> .inr (if_neg (hne id hi)),fun _ h=>h,fun b hb=>⟨hb,Below.heap_alloc _ _ _ (h.xo b hb).1⟩⟩
  obtain ⟨B',hB'⟩:=(h.live id).1 ⟨hi,hd⟩
  have hb':=hlt id b B' hB' hb
  show (E.w.alloc _).shape? b=_
  simp only [World.shape?]
  rw [Below.heap_alloc _ _ _ hb']
 refine ⟨E',rfl,hE, ?_, .inr rfl,fun hd=>hd.2 rfl,if_pos rfl,fun id hi=>hi,if_pos rfl⟩
 refine ⟨fun id=> ?_,fun id B' hg=> ?_,fun id id' b B1 B2 h1 h2 h3 h4=> ?_,fun id b B' hg hb hI=> ?_,fun b hb=> ?_, ?_,fun id B' hg hzz=> ?_,h.rgb,fun b hb=>⟨?_,(h.xo b hb).2.1,fun k B1 hk he=> ?_⟩⟩
 ·simp only [gput]
  by_cases hid:id=fresh
  ·subst hid
   simp [E']
  ·simp only [hid,if_false]
   rw [←h.live id]
   simp [E',hid]
 ·simp only [gput] at hg
  by_cases hid:id=fresh
  ·subst hid
   simp only [if_true,Option.some.injEq] at hg
   subst hg
   show BlkAt E' base B (if id=id then _ else _)
   rw [if_pos rfl]
   exact hB E' hE rfl
  ·simp only [hid,if_false] at hg
   show BlkAt E' base B' (if id=fresh then _ else _)
   rw [if_neg hid]
   exact (h.at_ id B' hg).keep hE fun b hb=>Below.heap_alloc _ _ _ (hlt id b B' hg hb)
 ·simp only [gput] at h1 h2
  have e3:(if id=fresh then some E.w.heap.size else E.loc id)=some b:=h3
  have e4:(if id'=fresh then some E.w.heap.size else E.loc id')=some b:=h4
  by_cases hid:id=fresh<;>by_cases hid':id'=fresh
  ·rw [hid,hid']
  ·rw [if_pos hid] at e3;rw [if_neg hid'] at e4 h2
   have:=hlt _ _ _ h2 e4
   simp only [Option.some.injEq] at e3;omega
  ·rw [if_neg hid] at e3 h1;rw [if_pos hid'] at e4
   have:=hlt _ _ _ h1 e3
   simp only [Option.some.injEq] at e4;omega
  ·rw [if_neg hid] at e3 h1;rw [if_neg hid'] at e4 h2
   exact h.apart id id' b B1 B2 h1 h2 e3 e4
 ·simp only [gput] at hg
  have e3:(if id=fresh then some E.w.heap.size else E.loc id)=some b:=hb
  by_cases hid:id=fresh
  ·rw [if_pos hid] at e3
   have:=(h.low b hI).1
   simp only [Option.some.injEq] at e3;omega
  ·rw [if_neg hid] at e3 hg
   exact h.out id b B' hg e3 hI
 ·have:=h.low b hb
  refine ⟨?_,this.2⟩
  show b<(E.w.alloc _).heap.size
  simp;omega
 ·show base≤(E.w.alloc _).heap.size
  have:=h.size
  simp;omega
 ·simp only [gput] at hg
  show _=if id=fresh then _ else _
  by_cases hid:id=fresh
  ·rw [if_pos hid] at hg ⊢
   simp only [Option.some.injEq] at hg;rw [hg]
  ·rw [if_neg hid] at hg ⊢
   exact h.len id B' hg hzz
 ·have:=(h.xo b hb).1
  show b<(E.w.alloc _).heap.size
  simp;omega
 ·have e3:(if k=fresh then some E.w.heap.size else E.loc k)=some b:=he
  simp only [gput] at hk
  by_cases hid:k=fresh
  ·rw [if_pos hid] at e3
   have:=(h.xo b hb).1
   simp only [Option.some.injEq] at e3;omega
  ·rw [if_neg hid] at e3 hk
   exact (h.xo b hb).2.2 k B1 hk e3
theorem MemAt.alloc {E:Env} {J:Nat→Prop} {base:Nat} {g:Nat→Option Bk} (h:MemAt E J base g) (fresh:Nat) (hf:¬E.kn fresh) (arr:Array Value) (t:TypeId) (B:Bk)
  (hB:∀E':Env,E.Le E'→B.els.length*B.sz≤arr.size∧∀(i:Nat) cs,B.els[i]? =some cs→cs.length=B.sz∧∀(j:Nat) x,cs[j]? =some x→∃u,arr[i*B.sz+j]? =some u∧u.oneCell'=true∧Rep E' u x) (hz:B.sz≠0:=by first|assumption|omega|(dsimp only;omega)):
  ∃E':Env,E'.w=E.w.alloc (.cells arr t)∧E.Le E'∧MemAt E' J base (gput g [(fresh,some B)])∧E'.kn fresh∧¬E'.dead fresh∧E'.loc fresh=some E.w.heap.size∧(∀id,E'.kn id→E.kn id∨id=fresh)∧E'.ln fresh=B.els.length:=
 h.allocO fresh hf _ B fun E' hE hw=> .ofCells ⟨h.size,arr,(t,0),by rw [hw];exact heap_alloc_new E.w _,(hB E' hE).1,(hB E' hE).2⟩ hz
theorem MemAt.setO {E:Env} {J:Nat→Prop} {base:Nat} {g:Nat→Option Bk} (h:MemAt E J base g) (id b:Nat) (B B':Bk) (hg:g id=some B) (hb:E.loc id=some b) (w':World)
  (hother:∀k,k≠b→w'.heap[k]? =E.w.heap[k]?) (hsz:w'.heap.size=E.w.heap.size) (hsh:w'.shape? b=E.w.shape? b) (hlen:B'.sz≠0→B.sz≠0∧B'.els.length=B.els.length)
  (hB:∀E':Env,E.Le E'→E'.w=w'→BlkAt E' base B' (some b)):
  ∃E':Env,E'.w=w'∧E.Le E'∧MemAt E' J base (gput g [(id,some B')])∧(∀id,E'.kn id→E.kn id):=by
 have hblk:=h.at_ id B hg
 rw [hb] at hblk
 have hblt:=hblk.lt
 let E':Env:={ E with w:=w' }
 have hother:∀k,k≠b→E'.w.heap[k]? =E.w.heap[k]? :=hother
 have hE:E.Le E':=by
  refine ⟨fun _ h=>h,fun k hk=>⟨hk, ?_⟩,fun _ _ h=>h,fun _ _ _=> .inr rfl,fun id' b' hi hd hb'=> .inr ?_,fun _ _ _=> .inr rfl,fun _ h=>h,fun k hk=>⟨hk,hother k fun e=>(h.xo k hk).2.2 id B hg (e▸hb)⟩⟩
  ·have hkb:k≠b:=fun e=>h.out id b B hg hb (e▸hk)
   exact hother k hkb
  ·show E'.w.shape? b'=_
   by_cases hbb:b'=b
   ·subst hbb
    exact hsh
   ·simp only [World.shape?,hother b' hbb]
 refine ⟨E',rfl,hE, ?_,fun _ h=>h⟩
 have key:∀k B1,gput g [(id,some B')] k=some B1→∃B0,g k=some B0:=fun k B1 hk=>by
  simp only [gput] at hk
  by_cases hki:k=id
  ·exact ⟨B,hki▸hg⟩
  ·rw [if_neg hki] at hk;exact ⟨B1,hk⟩
 refine ⟨fun k=> ?_,fun k B1 hk=> ?_,fun k k' b' B1 B2 h1 h2 h3 h4=> ?_,fun k b' B1 hk hb' hI=> ?_,fun k hk=> ?_, ?_,fun k B1 hk hzz=> ?_,h.rgb,fun b' hb'=>⟨by show b'<w'.heap.size;rw [hsz];exact (h.xo b' hb').1,(h.xo b' hb').2.1,fun k B1 hk he=>(key k B1 hk).elim fun B3 k3=>(h.xo b' hb').2.2 k B3 k3 he⟩⟩
 ·rw [show (E'.kn k∧¬E'.dead k)↔(E.kn k∧¬E.dead k) from Iff.rfl,h.live k]
  simp only [gput]
  by_cases hki:k=id
  ·subst hki;simp [hg]
  ·simp [hki]
 ·simp only [gput] at hk
  by_cases hki:k=id
  ·subst hki
   rw [if_pos rfl] at hk
   simp only [Option.some.injEq] at hk
   subst hk
   show BlkAt E' base B' (E.loc k)
   rw [hb]
   exact hB E' hE rfl
  ·rw [if_neg hki] at hk
   refine (h.at_ k B1 hk).keep hE fun b' hb'=>hother b' fun e=>hki ?_
   subst e
   exact h.apart k id b' B1 B hk hg hb' hb
 ·obtain ⟨B3,k3⟩:=key k B1 h1
  obtain ⟨B4,k4⟩:=key k' B2 h2
  exact h.apart k k' b' B3 B4 k3 k4 h3 h4
 ·obtain ⟨B3,k3⟩:=key k B1 hk
  exact h.out k b' B3 k3 hb' hI
 ·have:=h.low k hk
  refine ⟨?_,this.2⟩
  show k<w'.heap.size
  rw [hsz];exact this.1
 ·show base≤w'.heap.size
  rw [hsz];exact h.size
 ·simp only [gput] at hk
  show _=E.ln k
  by_cases hki:k=id
  ·subst hki
   rw [if_pos rfl] at hk
   simp only [Option.some.injEq] at hk
   subst hk;rw [(hlen hzz).2];exact h.len k B hg (hlen hzz).1
  ·rw [if_neg hki] at hk
   exact h.len k B1 hk hzz
theorem MemAt.set {E:Env} {J:Nat→Prop} {base:Nat} {g:Nat→Option Bk} (h:MemAt E J base g) (id b:Nat) (B B':Bk) (hg:g id=some B) (hb:E.loc id=some b) (arr arr':Array Value) (t:TypeId×Nat)
  (ha:E.w.heap[b]? =some (.cells arr t.1 (frz arr.size t.2))) (hs:arr'.size=arr.size) (hlen:B'.els.length=B.els.length)
  (hB:∀E':Env,E.Le E'→B'.els.length*B'.sz≤arr.size∧∀(i:Nat) cs,B'.els[i]? =some cs→cs.length=B'.sz∧∀(j:Nat) x,cs[j]? =some x→∃u,arr'[i*B'.sz+j]? =some u∧u.oneCell'=true∧Rep E' u x) (hz:B.sz≠0:=by first|assumption|omega|(dsimp only;omega)) (hz':B'.sz≠0:=by first|assumption|omega|(dsimp only;omega)):
  ∃E':Env,E'.w=E.w.setRow b arr'∧E.Le E'∧MemAt E' J base (gput g [(id,some B')])∧(∀id,E'.kn id→E.kn id):=by
 have hblk:=h.at_ id B hg
 rw [hb] at hblk
 have hrow:(E.w.setRow b arr').heap[b]? =some (.cells arr' t.1 (frz arr'.size t.2)):=by rw [hs];exact setRow_heap E.w b arr arr' t.1 _ ha
 refine h.setO id b B B' hg hb (E.w.setRow b arr') (fun k hk=>setRow_other E.w b k arr' (by exact hk)) (by simp [World.setRow]) (by simp only [World.shape?,hrow,ha,hs]) (fun _=>⟨hz,hlen⟩) fun E' hE hw=> ?_
 exact .ofCells ⟨hblk.lt.1,arr',t,by rw [hw];exact hrow,by rw [hs];exact (hB E' hE).1,(hB E' hE).2⟩ hz'
theorem MemAt.kill {E:Env} {J:Nat→Prop} {base:Nat} {g:Nat→Option Bk} (h:MemAt E J base g) (ids:List Nat) (hk:∀id,id∈ids→E.kn id):
  ∃E':Env,E'.w=E.w∧E.Le E'∧MemAt E' J base (gput g (ids.map fun id=>(id,none)))∧(∀id,E'.kn id→E.kn id)∧(∀id b B,id∈ids→g id=some B→E.loc id=some b→E'.I b)∧(∀b,E.I b→E'.I b):=by
 let E':Env:={ E with dead:=fun id=>E.dead id∨id∈ids,I:=fun b=>E.I b∨∃id B,id∈ids∧g id=some B∧E.loc id=some b }
 have hE:E.Le E':=⟨fun _ h=>h,fun b hb=>⟨.inl hb,rfl⟩,fun _ _ h=> .inl h,fun _ _ _=> .inr rfl,fun _ _ _ _ _=> .inr rfl,fun _ _ _=> .inr rfl,fun _ h=>h,fun _ h=>⟨h,rfl⟩⟩
 have key:∀(l:List Nat) (g:Nat→Option Bk) k,gput g (l.map fun id=>(id,none)) k=if k∈l then none else g k:=by
  intro l
  induction l with
  |nil=>intro g k;simp [gput]
  |cons a l ih=>
   intro g k
   simp only [List.map_cons,gput,ih]
   by_cases h1:k∈l
   ·simp [h1]
   ·by_cases h2:k=a
    ·subst h2;simp
    ·simp [h1,h2]
 refine ⟨E',rfl,hE, ?_,fun _ h=>h,fun id b B h1 h2 h3=> .inr ⟨id,B,h1,h2,h3⟩,fun b hb=> .inl hb⟩
 refine ⟨fun k=> ?_,fun k B1 hk1=> ?_,fun k k' b' B1 B2 h1 h2 h3 h4=> ?_,fun k b' B1 hk1 hb' hI=> ?_,fun k hk1=> ?_,h.size,fun k B1 hk1=> ?_,h.rgb,fun b hb=>⟨(h.xo b hb).1,fun hI=> ?_,fun k B1 hk1 he=> ?_⟩⟩
 ·rw [key]
  by_cases h1:k∈ids
  ·simp [E',h1]
  ·simp only [h1,if_false, ←h.live k]
   simp [E',h1]
 ·rw [key] at hk1
  by_cases h1:k∈ids
  ·simp [h1] at hk1
  ·rw [if_neg h1] at hk1
   exact (h.at_ k B1 hk1).keep hE fun _ _=>rfl
 ·rw [key] at h1 h2
  by_cases m1:k∈ids
  ·simp [m1] at h1
  ·by_cases m2:k'∈ids
   ·simp [m2] at h2
   ·rw [if_neg m1] at h1;rw [if_neg m2] at h2
    exact h.apart k k' b' B1 B2 h1 h2 h3 h4
 ·rw [key] at hk1
  by_cases m1:k∈ids
  ·simp [m1] at hk1
  ·rw [if_neg m1] at hk1
   rcases hI with hI|⟨id,B,hi,hg,hl⟩
   ·exact h.out k b' B1 hk1 hb' hI
   ·have:=h.apart k id b' B1 B hk1 hg hb' hl
    exact m1 (this▸hi)
 ·rcases hk1 with hI|⟨id,B,hi,hg,hl⟩
  ·exact h.low k hI
  ·have:=h.at_ id B hg
   rw [hl] at this
   exact ⟨this.lt.2, .inr this.lt.1⟩
 ·rw [key] at hk1
  by_cases m1:k∈ids
  ·simp [m1] at hk1
  ·rw [if_neg m1] at hk1
   exact h.len k B1 hk1
 ·rcases hI with hI|⟨id,B,_,hg,hl⟩
  ·exact (h.xo b hb).2.1 hI
  ·exact (h.xo b hb).2.2 id B hg hl
 ·rw [key] at hk1
  by_cases m1:k∈ids
  ·simp [m1] at hk1
  ·rw [if_neg m1] at hk1
   exact (h.xo b hb).2.2 k B1 hk1 he
open Go.RowKit
def AV.cells:AV→List AV
 | .agg cs=>cs
 |a=>[a]
def AV.one:AV→Bool
 | .v x=>x.oneCell'
 | .agg _| .tup _| .dead=>false
 |_=>true
def AV.solid:AV→Bool
 | .agg _=>true
 |a=>a.one
inductive Arg where
 |s (t:Nat)
 |c (a:AV)
inductive Out where
 |done (val:AV) (ups:List (Nat×Option Bk))
 |call (f:FuncId) (args:List AV)
inductive RM (α:Type) where
 |ret (a:α)
 |fail
 |rd (id:Nat) (k:Bk→RM α)
 |lv (id:Nat) (k:RM α)
def RM.run {α:Type} (g:Nat→Option Bk):RM α→Option α
 | .ret a=>some a
 | .fail=>none
 | .rd id k=>match g id with
  |some B=>(k B).run g
  |none=>none
 | .lv id k=>match g id with
  |some _=>k.run g
  |none=>none
def RM.acc {α:Type} (g:Nat→Option Bk):RM α→List Nat
 | .ret _=>[]
 | .fail=>[]
 | .rd id k=>match g id with
  |some B=>id::(k B).acc g
  |none=>[id]
 | .lv _ k=>k.acc g
def RM.see {α:Type} (g:Nat→Option Bk):RM α→List Nat
 | .ret _=>[]
 | .fail=>[]
 | .rd id k=>match g id with
  |some B=>(k B).see g
  |none=>[]
 | .lv id k=>id::k.see g
def RM.opt {α:Type}:Option α→RM α
 |some a=> .ret a
 |none=> .fail
theorem RM.local {α:Type} {g g':Nat→Option Bk}:∀(m:RM α),(∀id,id∈m.acc g→g' id=g id)→(∀id,id∈m.see g→(g' id).isSome=(g id).isSome)→m.run g'=m.run g
 | .ret _,_,_=>rfl
 | .fail,_,_=>rfl
 | .rd id k,h,h2=>by
  have h1:g' id=g id:=h id (by simp only [RM.acc];cases g id<;>simp)
  simp only [RM.run,h1]
  cases hg:g id with
  |none=>rfl
  |some B=>exact RM.local (k B) (fun j hj=>h j (by simp only [RM.acc,hg];exact List.mem_cons_of_mem _ hj)) (fun j hj=>h2 j (by simp only [RM.see,hg];exact hj))
 | .lv id k,h,h2=>by
  have h1:=h2 id (by simp [RM.see])
  have ih:=RM.local k (fun j hj=>h j (by simpa [RM.acc] using hj)) (fun j hj=>h2 j (by simp only [RM.see];exact List.mem_cons_of_mem _ hj))
  simp only [RM.run]
  cases hg:g id with
  |none=>rw [hg] at h1;simp at h1;simp [h1]
  |some B=>
   rw [hg] at h1
   obtain ⟨B',hB'⟩:=Option.isSome_iff_exists.1 (by simpa using h1)
   simp only [hB'];exact ih
inductive NK where
 |sl
 |fn
 |pt
inductive LK where
 |int
 |str
 |bool
inductive AO where
 |mov (x:Arg)
 |pick (c a b:Arg)
 |new (zs:List AV)
 |box (n:Nat) (x:Arg)
 |agg (zs:List AV) (parts:List (Nat×Nat×Arg))
 |bsl (sz len:Nat) (zs:List AV) (parts:List (Nat×Arg))
 |load (m:Option Nat) (x:Arg)
 |store (n:Nat) (x y:Arg)
 |nilc (x:Arg)
 |bin (bt:Bool) (op:BinOp) (x y:Arg)
 |un (op:UnOp) (x:Arg)
 |conv (k:IntKind) (x:Arg)
 |fad (off:Nat) (x:Arg)
 |fld (off:Nat) (m:Option Nat) (x:Arg)
 |iad (sz:Nat) (x i:Arg)
 |ext (i:Nat) (x:Arg)
 |len (str:Bool) (x:Arg)
 |isn (kd:NK) (neg:Bool) (x:Arg)
 |mnx (max:Bool) (x y:Arg)
 |eqs (neg:Bool) (n:Nat) (L:List (Nat×LK)) (x y:Arg)
 |msl (sz bytes:Nat) (zs:List AV) (l c:Arg)
 |slc (sz:Nat) (x:Arg) (lo hi mx:Option Arg)
 |sls (x:Arg) (lo hi:Option Arg)
 |six (x i:Arg)
 |app (sz bytes:Nat) (s x:Arg)
 |mkf (f:FuncId) (caps:List Arg)
 |mkb (f:FuncId) (first:List Arg)
 |iap (sz len:Nat) (x i:Arg)
 |ixa (sz len:Nat) (m:Option Nat) (x i:Arg)
 |clr (zs:List AV) (x:Arg)
 |cpy (sz:Nat) (x y:Arg)
 |b2s (x:Arg)
 |s2b (x:Arg)
 |mkm
 |mup (kd:LK) (x k y:Arg)
 |mlk (kd:LK) (z:AV) (x k:Arg)
 |bad
 |call (x:Arg) (args:List Arg)
def getCells (cs:List AV) (o:Nat):Option Nat→Option AV
 |none=>cs[o]?
 |some n=>if o+n≤cs.length then some (.agg ((cs.drop o).take n)) else none
def putCells (cs:List AV) (o:Nat) (ys:List AV):List AV:=cs.take o++ys++cs.drop (o+ys.length)
def fillA (ρ:Arg→AV) (cells:List AV):List (Nat×Nat×Arg)→Option (List AV)
 |[]=>some cells
 |(off,n,x)::r=>if (ρ x).cells.length=n∧off+n≤cells.length∧(ρ x).solid=true then fillA ρ (putCells cells off (ρ x).cells) r else none
def fillE (ρ:Arg→AV) (sz:Nat) (els:List (List AV)):List (Nat×Arg)→Option (List (List AV))
 |[]=>some els
 |(i,x)::r=>if (ρ x).cells.length=sz∧i<els.length∧(ρ x).cells.all AV.one=true then fillE ρ sz (els.set i (ρ x).cells) r else none
def strEq (a b:ByteArray):Bool:=a.data.toList==b.data.toList
def binA (bt:Bool) (op:BinOp):Value→Value→Option Value
 | .int k a, .int k' b=>
  match op with
  | .shl=>if b<0 then none else some (.int k (k.wrap (a*2^(min b.toNat k.bits))))
  | .shr=>if b<0 then none else some (.int k (a.fdiv (2^(min b.toNat k.bits))))
  |_=>
  if k=k' then
   match op with
   | .add=>some (.int k (k.wrap (a+b)))
   | .sub=>some (.int k (k.wrap (a - b)))
   | .mul=>some (.int k (k.wrap (a*b)))
   | .quo=>if b=0 then none else some (.int k (k.wrap (a.tdiv b)))
   | .rem=>if b=0 then none else some (.int k (a.tmod b))
   | .and=>some (.int k (bits .and k a b))
   | .or=>some (.int k (bits .or k a b))
   | .xor=>some (.int k (bits .xor k a b))
   | .andNot=>some (.int k (bits .andNot k a b))
   | .eql=>some (.bool (a==b))
   | .neq=>some (.bool (a !=b))
   | .lss=>some (.bool (decide (a<b)))
   | .leq=>some (.bool (decide (a≤b)))
   | .gtr=>some (.bool (decide (a>b)))
   | .geq=>some (.bool (decide (a≥b)))
   |_=>none
  else none
 | .string a, .string b=>
  match op with
  | .eql=>some (.bool (strEq a b))
  | .neq=>some (.bool (!(strEq a b)))
  | .lss=>some (.bool (Op.bytesLess a.toList b.toList))
  | .add=>if ((a.size+b.size:Nat):Int)>IntKind.i64.max then none else some (.string (a++b))
  |_=>none
 | .bool a, .bool b=>
  if bt=true then
   match op with
   | .eql=>some (.bool (a==b))
   | .neq=>some (.bool (!(a==b)))
   |_=>none
  else none
 |_,_=>none
def unA:UnOp→Value→Option Value
 | .neg, .int k n=>some (.int k (k.wrap (0 - n)))
 | .xor, .int k n=>some (.int k (bits .xor k (if k.signed then -1 else k.max) n))
 | .not, .bool b=>some (.bool !b)
 |_,_=>none
def minmaxA (mx:Bool):Value→Value→Option Value
 | .int k x, .int k' y=>if k=k' then some (.int k (if mx then (if y>x then y else x) else (if y<x then y else x))) else none
 |_,_=>none
def eqV:LK→AV→AV→Option Bool
 | .int, .v (.int k a), .v (.int k' b)=>if k=k' then some (a==b) else none
 | .str, .v (.string a), .v (.string b)=>some (strEq a b)
 | .bool, .v (.bool a), .v (.bool b)=>some (a==b)
 |_,_,_=>none
def eqA (cs ds:List AV):List (Nat×LK)→Option Bool
 |[]=>some true
 |(o,k)::r=>match cs[o]?,ds[o]? with
  |some a,some b=>match eqV k a b,eqA cs ds r with
   |some x,some y=>some (x&&y)
   |_,_=>none
  |_,_=>none
def natOf:AV→Option Nat
 | .v (.int _ n)=>if 0≤n then some n.toNat else none
 |_=>none
def optNat (ρ:Arg→AV):Option Arg→Option (Option Nat)
 |none=>some none
 |some x=>(natOf (ρ x)).map some
def bounds (ln:Nat) (lo hi:Option Nat):Option (Nat×Nat):=
 if lo.getD 0≤hi.getD ln∧hi.getD ln≤ln then some (lo.getD 0,hi.getD ln) else none
def cutL (sz:Nat) (els:List (List AV)) (l h:Nat):Option Nat→Option AV
 |none=>some (.lst sz ((els.drop l).take (h - l)))
 |some m=>if h≤m∧m≤els.length then some (if m=l then .emp else if m=h then .tls sz ((els.drop l).take (h - l)) else .lst sz ((els.drop l).take (h - l))) else none
def content (sz:Nat):AV→RM (List (List AV))
 | .lst s els=>if s=sz then .ret els else .fail
 | .tls s els=>if s=sz then .ret els else .fail
 | .emp=> .ret []
 | .own id s off n=> .rd id fun B=>if s=sz∧B.sz=sz∧off+n≤B.els.length then .ret ((B.els.drop off).take n) else .fail
 |_=> .fail
def RM.bind {α β:Type}:RM α→(α→RM β)→RM β
 | .ret a,f=>f a
 | .fail,_=> .fail
 | .rd id k,f=> .rd id fun B=>(k B).bind f
 | .lv id k,f=> .lv id (k.bind f)
def strOf:List (List AV)→Option (List UInt8)
 |[]=>some []
 |[.v (.int .u8 n)]::r=>(strOf r).map (UInt8.ofNat n.toNat:: ·)
 |_=>none
def keyEq:LK→Value→Value→Option Bool
 | .int, .int k a, .int k' b=>if k=k' then some (a==b) else none
 | .bool, .bool a, .bool b=>some (a==b)
 | .str, .string a, .string b=>some (a==b)
 |_,_,_=>none
def mfind (kd:LK) (k:Value):List (List AV)→Option (Option AV)
 |[]=>some none
 |[.v k',x]::r=>match keyEq kd k k' with
  |some true=>some (some x)
  |some false=>mfind kd k r
  |none=>none
 |_=>none
def AO.sem (fresh:Nat) (ρ:Arg→AV):AO→RM Out
 | .mov x=> .ret (.done (ρ x) [])
 | .pick c a b=>match ρ c with
  | .v (.bool t)=> .ret (.done (if t then ρ a else ρ b) [])
  |_=> .fail
 | .new zs=> .ret (.done (.ref fresh zs.length 0 0) [(fresh,some ⟨zs.length,[zs]⟩)])
 | .box n x=>if (ρ x).cells.length=n∧(ρ x).cells.all AV.one=true then .ret (.done (.ref fresh n 0 0) [(fresh,some ⟨n,[(ρ x).cells]⟩)]) else .fail
 | .agg zs parts=> .opt ((fillA ρ zs parts).map fun cs=> .done (.agg cs) [])
 | .bsl sz ln zs parts=> .opt ((fillE ρ sz (List.replicate ln zs) parts).map fun els=> .done (.own fresh sz 0 ln) [(fresh,some ⟨sz,els⟩)])
 | .load m x=>match ρ x with
  | .pim cs o=> .opt ((getCells cs o m).map fun a=> .done a [])
  | .ref id sz i o=> .rd id fun B=>if B.sz=sz then .opt ((B.els[i]?.bind fun cs=>getCells cs o m).map fun a=> .done a []) else .fail
  |_=> .fail
 | .store n x y=>match ρ x with
  | .ref id sz i o=> .rd id fun B=>
   if B.sz=sz∧(ρ y).cells.length=n∧(ρ y).cells.all AV.one=true∧o+n≤sz then
    match B.els[i]? with
    |some cs=> .ret (.done (.v undef) [(id,some ⟨sz,B.els.set i (putCells cs o (ρ y).cells)⟩)])
    |none=> .fail
   else .fail
  |_=> .fail
 | .nilc x=>match ρ x with
  | .ref id sz i o=> .lv id (.ret (.done (.ref id sz i o) []))
  | .pim cs o=> .ret (.done (.pim cs o) [])
  |_=> .fail
 | .bin bt op x y=>match ρ x,ρ y with
  | .v a, .v b=> .opt ((binA bt op a b).map fun v=> .done (.v v) [])
  |_,_=> .fail
 | .un op x=>match ρ x with
  | .v a=> .opt ((unA op a).map fun v=> .done (.v v) [])
  |_=> .fail
 | .conv k x=>match ρ x with
  | .v (.int _ n)=> .ret (.done (.v (.int k (k.wrap n))) [])
  |_=> .fail
 | .fad off x=>match ρ x with
  | .ref id sz i o=> .lv id (.ret (.done (.ref id sz i (o+off)) []))
  | .pim cs o=> .ret (.done (.pim cs (o+off)) [])
  |_=> .fail
 | .fld off m x=>match ρ x with
  | .agg cs=> .opt ((getCells cs off m).map fun a=> .done a [])
  |_=> .fail
 | .iad sz x i=>match ρ x,ρ i with
  | .lst s els, .v (.int _ n)=>if s=sz∧0≤n then .opt (els[n.toNat]?.map fun cs=> .done (.pim cs 0) []) else .fail
  | .tls s els, .v (.int _ n)=>if s=sz∧0≤n then .opt (els[n.toNat]?.map fun cs=> .done (.pim cs 0) []) else .fail
  | .own id s off ln, .v (.int _ n)=>if s=sz∧0≤n∧n<ln then .lv id (.ret (.done (.ref id sz (off+n.toNat) 0) [])) else .fail
  |_,_=> .fail
 | .ext i x=>match ρ x with
  | .tup vs=> .opt (vs[i]?.map fun a=> .done a [])
  |_=> .fail
 | .len true x=>match ρ x with
  | .v (.string s)=> .ret (.done (.v (goInt s.size)) [])
  |_=> .fail
 | .len false x=>match ρ x with
  | .lst _ els=> .ret (.done (.v (goInt els.length)) [])
  | .tls _ els=> .ret (.done (.v (goInt els.length)) [])
  | .emp=> .ret (.done (.v (goInt 0)) [])
  | .own id _ _ n=> .lv id (.ret (.done (.v (goInt n)) []))
  |_=> .fail
 | .isn .sl neg x=>match ρ x with
  | .lst _ els=> .ret (.done (if els.isEmpty=true then .anyb else .v (.bool neg)) [])
  | .tls _ els=> .ret (.done (if els.isEmpty=true then .anyb else .v (.bool neg)) [])
  | .emp=> .ret (.done .anyb [])
  | .own id _ _ n=> .lv id (.ret (.done (if n=0 then .anyb else .v (.bool neg)) []))
  |_=> .fail
 | .isn .fn neg x=>match ρ x with
  | .fn _ _=> .ret (.done (.v (.bool neg)) [])
  | .bf _ _=> .ret (.done (.v (.bool neg)) [])
  | .v .nilFunc=> .ret (.done (.v (.bool !neg)) [])
  |_=> .fail
 | .isn .pt neg x=>match ρ x with
  | .ref id _ _ _=> .lv id (.ret (.done (.v (.bool neg)) []))
  | .pim _ _=> .ret (.done (.v (.bool neg)) [])
  | .v (.pointer none)=> .ret (.done (.v (.bool !neg)) [])
  |_=> .fail
 | .mnx mx x y=>match ρ x,ρ y with
  | .v a, .v b=> .opt ((minmaxA mx a b).map fun v=> .done (.v v) [])
  |_,_=> .fail
 | .eqs neg n L x y=>match ρ x,ρ y with
  | .agg cs, .agg ds=>if cs.length=n∧ds.length=n then .opt ((eqA cs ds L).map fun b=> .done (.v (.bool (if neg then !b else b))) []) else .fail
  |_,_=> .fail
 | .msl sz bytes zs l c=>match natOf (ρ l),natOf (ρ c) with
  |some l,some c=>if l≤c∧c*bytes≤140737488355328 then .ret (.done (.own fresh sz 0 l) [(fresh,some ⟨sz,List.replicate l zs⟩)]) else .fail
  |_,_=> .fail
 | .slc sz x lo hi mx=>match optNat ρ lo,optNat ρ hi,optNat ρ mx with
  |some lo,some hi,some mx=>match ρ x with
   | .lst s els=>if s=sz then .opt ((bounds els.length lo hi).bind fun b=>(cutL sz els b.1 b.2 mx).map fun a=> .done a []) else .fail
   | .tls s els=>if s=sz then .opt ((bounds els.length lo hi).bind fun b=>(cutL sz els b.1 b.2 mx).map fun a=> .done a []) else .fail
   | .emp=> .opt ((bounds 0 lo hi).bind fun _=>if mx.getD 0=0 then some (.done .emp []) else none)
   | .own id s off n=> .lv id (match mx with
    |none=>if s=sz then (match bounds n lo hi,hi with
     |some b,_=> .ret (.done (.own id sz (off+b.1) (b.2 - b.1)) [])
     |none,some h=> .rd id fun B=>if B.sz=sz then .opt ((bounds (B.els.length - off) lo (some h)).map fun b=> .done (.own id sz (off+b.1) (b.2 - b.1)) []) else .fail
     |none,none=> .fail) else .fail
    |some m=> .rd id fun B=>if s=sz∧B.sz=sz∧B.els.length≤off+m then .opt ((bounds n lo hi).bind fun b=>if b.2≤m∧m≤n then some (.done (if m=b.1 then .emp else .own id sz (off+b.1) (b.2 - b.1)) []) else none) else .fail)
   |_=> .fail
  |_,_,_=> .fail
 | .sls x lo hi=>match optNat ρ lo,optNat ρ hi,ρ x with
  |some lo,some hi, .v (.string s)=> .opt ((bounds s.size lo hi).map fun b=> .done (.v (.string (s.extract b.1 b.2))) [])
  |_,_,_=> .fail
 | .six x i=>match ρ x,natOf (ρ i) with
  | .v (.string s),some i=> .opt (s[i]?.map fun b=> .done (.v (.int .u8 b.toNat)) [])
  |_,_=> .fail
 | .app sz bytes s x=>(content sz (ρ x)).bind fun ys=>match ρ s with
  | .emp=>if ys.length*bytes≤140737488355328 then .ret (.done (.own fresh sz 0 ys.length) [(fresh,some ⟨sz,ys⟩)]) else .fail
  | .tls k els=>if k=sz∧ys.isEmpty=false∧(els.length+ys.length)*bytes≤140737488355328 then .ret (.done (.own fresh sz 0 (els.length+ys.length)) [(fresh,some ⟨sz,els++ys⟩)]) else .fail
  | .own id k off n=> .rd id fun B=>if k=sz∧B.sz=sz∧off=0∧n=B.els.length∧(n+ys.length)*bytes≤140737488355328 then .ret (.done (.own fresh sz 0 (n+ys.length)) [(id,none),(fresh,some ⟨sz,B.els++ys⟩)])
   else if k=sz∧B.sz=sz∧off+n+ys.length≤B.els.length then .ret (.done (.own id sz off (n+ys.length)) [(id,some ⟨B.sz,B.els.take (off+n)++ys++B.els.drop (off+n+ys.length)⟩),(fresh,none)]) else .fail
  |_=> .fail
 | .clr zs x=>match ρ x with
  | .emp=> .ret (.done (.v undef) [])
  | .own id s off n=> .rd id fun B=>if s=zs.length∧B.sz=zs.length∧off+n≤B.els.length then .ret (.done (.v undef) [(id,some ⟨B.sz,B.els.take off++List.replicate n zs++B.els.drop (off+n)⟩)]) else .fail
  |_=> .fail
 | .cpy sz x y=>(content sz (ρ y)).bind fun ys=>match ρ x with
  | .own id s off n=> .rd id fun B=>if s=sz∧B.sz=sz∧off+n≤B.els.length then .ret (.done (.v (goInt (min ys.length n:Nat))) [(id,some ⟨B.sz,B.els.take off++ys.take n++B.els.drop (off+min ys.length n)⟩)]) else .fail
  |_=> .fail
 | .b2s x=>(content 1 (ρ x)).bind fun ys=> .opt ((strOf ys).map fun l=> .done (.v (.string ⟨l.toArray⟩)) [])
 | .s2b x=>match ρ x with
  | .v (.string s)=>if s.size≤140737488355328 then .ret (.done (.own fresh 1 0 s.size) [(fresh,some ⟨1,s.data.toList.map fun b=>[.v (.int .u8 b.toNat)]⟩)]) else .fail
  |_=> .fail
 | .bad=> .fail
 | .mkm=> .ret (.done (.mp fresh) [(fresh,some ⟨0,[]⟩)])
 | .mup kd x k y=>match ρ x,ρ k with
  | .mp id, .v k=> .rd id fun B=>if B.sz=0∧plainV k=true then (match mfind kd k B.els with
   |some none=> .ret (.done (.v undef) [(id,some ⟨0,B.els++[[.v k,ρ y]]⟩)])
   |_=> .fail) else .fail
  |_,_=> .fail
 | .mlk kd z x k=>match ρ x,ρ k with
  | .mp id, .v k=> .rd id fun B=>if B.sz=0 then .opt ((mfind kd k B.els).map fun r=> .done (r.getD z) []) else .fail
  |_,_=> .fail
 | .mkf f caps=> .ret (.done (.fn f (caps.map ρ)) [])
 | .mkb f first=> .ret (.done (.bf f (first.map ρ)) [])
 | .ixa sz ln m x i=>match ρ x,ρ i with
  | .agg cs, .v (.int _ n)=>if 0≤n∧n<ln then .opt ((getCells cs (n.toNat*sz) m).map fun a=> .done a []) else .fail
  |_,_=> .fail
 | .iap sz ln x i=>match ρ x,ρ i with
  | .ref id s e o, .v (.int _ n)=>if 0≤n∧n<ln then .lv id (.ret (.done (.ref id s e (o+n.toNat*sz)) [])) else .fail
  | .pim cs o, .v (.int _ n)=>if 0≤n∧n<ln then .ret (.done (.pim cs (o+n.toNat*sz)) []) else .fail
  |_,_=> .fail
 | .call x args=>match ρ x with
  | .fn f caps=> .ret (.call f (args.map ρ++caps))
  | .bf f first=> .ret (.call f (first++args.map ρ))
  |_=> .fail
def ofConst1:Value→Option AV
 | .slice none 0 0=>some .emp
 |v=>if plainV v=true then some (.v v) else none
def ofConstL:List Value→Option (List AV)
 |[]=>some []
 |v::r=>match ofConst1 v,ofConstL r with
  |some a,some l=>some (a::l)
  |_,_=>none
def ofConst:Value→Option AV
 | .agg cs=>(ofConstL cs.toList).map .agg
 |v=>ofConst1 v
def cArg:Operand→Option Arg
 | .tmp t=>some (.s t)
 | .const v=>(ofConst v).map .c
 | .func f=>some (.c (.fn f []))
 | .global g=>(glArg g).map .c
def cArgs:List Operand→Option (List Arg)
 |[]=>some []
 |x::r=>match cArg x,cArgs r with
  |some a,some l=>some (a::l)
  |_,_=>none
def szOf (P:Program) (t:TypeId):Option Nat:=(P.info? t).map (·.size)
def aggOf (P:Program) (t:TypeId):Option (Option Nat):=
 match P.underlying t with
 |some (.struct _)=>(szOf P t).map some
 |some (.array _ _)=>(szOf P t).map some
 |some _=>if (P.info? t).isSome then some none else none
 |none=>none
def zerosOf (P:Program) (t:TypeId):Option (List AV):=
 match P.info? t with
 |some i=>match i.zero with
  |some z=>match ofConstL z.cells.toList with
   |some l=>if l.length=i.size∧l.all AV.one=true then some l else none
   |none=>none
  |none=>none
 |none=>none
def cParts (place:Nat→Option (Nat×Nat)):List (Nat×Operand)→Option (List (Nat×Nat×Arg))
 |[]=>some []
 |(i,x)::r=>match place i,cArg x,cParts place r with
  |some p,some a,some l=>some ((p.1,p.2,a)::l)
  |_,_,_=>none
def placesOf (P:Program) (fields:Array Field):Option (List (Nat×Nat)):=fields.toList.mapM (fun f=>(P.info? f.type).map fun i=>(f.offset,i.size))
def cPartsE:List (Nat×Operand)→Option (List (Nat×Arg))
 |[]=>some []
 |(i,x)::r=>match cArg x,cPartsE r with
  |some a,some l=>some ((i,a)::l)
  |_,_=>none
def plainT (P:Program) (t:TypeId):Bool:=
 match P.underlying t with
 |some (.int _)|some .string|some .bool=>true
 |_=>false
def boolT (P:Program) (t:TypeId):Bool:=
 match P.underlying t with
 |some .bool=>true
 |_=>false
def leavesF (P:Program) (rec:TypeId→Nat→Option (List (Nat×LK))) (off n:Nat):List Field→Option (List (Nat×LK))
 |[]=>some []
 |f::r=>if f.name= "_" then none else match szOf P f.type with
  |some k=>if f.offset+k≤n∧f.offset<n then match rec f.type (off+f.offset),leavesF P rec off n r with
   |some a,some b=>some (a++b)
   |_,_=>none
   else none
  |none=>none
def leavesOf (P:Program):Nat→TypeId→Nat→Option (List (Nat×LK))
 |0,_,_=>none
 |d+1,t,off=>match P.underlying t with
  |some (.int _)=>some [(off, .int)]
  |some .string=>some [(off, .str)]
  |some .bool=>some [(off, .bool)]
  |some (.struct fs)=>if P.stoodInHeld t then none else match szOf P t with
   |some n=>leavesF P (leavesOf P d) off n fs.toList
   |none=>none
  |_=>none
def negOf:BinOp→Option Bool
 | .eql=>some false
 | .neq=>some true
 |_=>none
def nilC (P:Program) (t:TypeId) (op:BinOp) (y:Operand):Option (NK×Bool):=
 match P.underlying t,y with
 |some (.slice _), .const (.slice none 0 0)=>(negOf op).map fun n=>(.sl,n)
 |some (.func _ _ _), .const .nilFunc=>(negOf op).map fun n=>(.fn,n)
 |some (.pointer _), .const (.pointer none)=>(negOf op).map fun n=>(.pt,n)
 |_,_=>none
def kOf:TypeDesc→Option LK
 | .int _=>some .int
 | .string=>some .str
 | .bool=>some .bool
 |_=>none
def keyT (P:Program) (t:TypeId):Option LK:=(P.underlying t).bind kOf
def zeroOf (P:Program) (t:TypeId):Option AV:=
 match P.info? t with
 |some i=>match i.zero with
  |some z=>ofConst1 z
  |none=>none
 |none=>none
def cOptArg:Option Operand→Option (Option Arg)
 |none=>some none
 |some x=>(cArg x).map some
def cOp (P:Program) (o:Oper):Option AO:=
 match o.op with
 | .move x| .assign x=>(cArg x).map .mov
 | .pick c a b=>match cArg c,cArg a,cArg b with
  |some c,some a,some b=>some (.pick c a b)
  |_,_,_=>none
 | .alloc t=>match zerosOf P t with
  |some zs=>if 0<zs.length then some (.new zs) else none
  |none=>none
 | .box t x=>match szOf P t,cArg x with
  |some n,some x=>if 0<n then some (.box n x) else none
  |_,_=>none
 | .build t parts=>match zerosOf P t,P.underlying t with
  |some zs,some (.struct fields)=>match placesOf P fields with
   |some places=>(cParts (places.toArray[·]?) parts.toList).map (.agg zs)
   |none=>none
  |some zs,some (.array _ e)=>match szOf P e with
   |some sz=>(cParts (fun i=>some (i*sz,sz)) parts.toList).map (.agg zs)
   |none=>none
  |_,_=>none
 | .buildSlice t len parts=>match P.underlying t with
  |some (.slice e)=>match zerosOf P e with
   |some zs=>if len*zs.length≤16777216∧0<zs.length then (cPartsE parts.toList).map (.bsl zs.length len zs) else none
   |none=>none
  |_=>none
 | .load t x=>match aggOf P t,cArg x with
  |some m,some x=>some (.load m x)
  |_,_=>none
 | .store t x y=>match szOf P t,cArg x,cArg y with
  |some n,some x,some y=>some (.store n x y)
  |_,_,_=>none
 | .nilCheck x=>(cArg x).map .nilc
 | .binOp op t x y _=>match nilC P t op y with
  |some q=>(cArg x).map (.isn q.1 q.2)
  |none=>match cArg x,cArg y with
  |some x,some y=>if plainT P t then some (.bin (boolT P t) op x y) else
   if P.eqGuardType P.depth t then none else match P.underlying t,leavesOf P 8 t 0,szOf P t,op with
   |some (.struct _),some L,some n, .eql=>some (.eqs false n L x y)
   |some (.struct _),some L,some n, .neq=>some (.eqs true n L x y)
   |_,_,_,_=>none
  |_,_=>none
 | .unOp op _ x=>(cArg x).map (.un op)
 | .convert s d x=>match P.underlying s,P.underlying d,cArg x with
  |some (.int _),some (.int k),some x=>some (.conv k x)
  |some (.slice e),some .string,some x=>(match P.underlying e with
   |some (.int .u8)=>some (.b2s x)
   |_=>none)
  |some .string,some (.slice e),some x=>(match P.underlying e with
   |some (.int .u8)=>some (.s2b x)
   |_=>none)
  |_,_,_=>none
 | .fieldAddr s x f=>match P.underlying s,cArg x with
  |some (.struct fields),some x=>match fields[f]? with
   |some f=>if szOf P f.type=some 0∨szOf P f.type=none then none else some (.fad f.offset x)
   |none=>none
  |_,_=>none
 | .field s x f=>match P.underlying s,cArg x with
  |some (.struct fields),some x=>match fields[f]? with
   |some f=>(aggOf P f.type).map fun m=> .fld f.offset m x
   |none=>none
  |_,_=>none
 | .indexAddr t x i=>match P.underlying t,cArg x,cArg i with
  |some (.slice e),some x,some i=>match szOf P e with
   |some sz=>if 0<sz then some (.iad sz x i) else none
   |none=>none
  |some (.array len e),some x,some i=>match szOf P e with
   |some sz=>if 0<sz then some (.iap sz len x i) else none
   |none=>none
  |_,_,_=>none
 | .panic _| .makeInterface _ _=>some .bad
 | .makeMap t r=>match P.underlying t,r with
  |some (.map _ _),none=>some .mkm
  |some (.map _ _),some (.const (.int _ _))=>some .mkm
  |_,_=>none
 | .mapUpdate t x k y| .insert t x k y=>match P.underlying t,cArg x,cArg k,cArg y with
  |some (.map kt _),some x,some k,some y=>(keyT P kt).map fun kd=> .mup kd x k y
  |_,_,_,_=>none
 | .lookup t x k ok=>match P.underlying t,cArg x,cArg k with
  |some (.map kt et),some x,some k=>if ok=false then (match zeroOf P et,keyT P kt with
   |some z,some kd=>some (.mlk kd z x k)
   |_,_=>none) else none
  |_,_,_=>none
 | .extract x i=>(cArg x).map (.ext i)
 | .makeSlice t l c=>match P.underlying t,cArg l,cArg c with
  |some (.slice e),some l,some c=>match zerosOf P e,P.info? e with
   |some zs,some i=>if 0<zs.length∧0<i.bytes then some (.msl zs.length i.bytes zs l c) else none
   |_,_=>none
  |_,_,_=>none
 | .slice t x lo hi mx=>match P.underlying t,cArg x,cOptArg lo,cOptArg hi,cOptArg mx with
  |some (.slice e),some x,some lo,some hi,some mx=>match szOf P e with
   |some sz=>if 0<sz∧(mx.isSome=true→hi.isSome=true) then some (.slc sz x lo hi mx) else none
   |none=>none
  |some .string,some x,some lo,some hi,some none=>some (.sls x lo hi)
  |_,_,_,_,_=>none
 | .index t x i=>match P.underlying t,cArg x,cArg i with
  |some .string,some x,some i=>some (.six x i)
  |some (.array len e),some x,some i=>match szOf P e,aggOf P e with
   |some sz,some m=>some (.ixa sz len m x i)
   |_,_=>none
  |_,_,_=>none
 | .makeFunc (.func f) first caps=>if first.isEmpty then (cArgs caps.toList).map (.mkf f) else if caps.isEmpty then (cArgs first.toList).map (.mkb f) else none
 | .call c=>match c.callee with
  | .value x=>match cArg x,cArgs c.args.toList with
   |some x,some l=>some (.call x l)
   |_,_=>none
  | .builtin .len=>match c.args.toList,c.argTypes[0]? with
   |[x],some t=>match P.underlying t with
    |some (.slice _)=>(cArg x).map (.len false)
    |some .string=>(cArg x).map (.len true)
    |_=>none
   |_,_=>none
  | .builtin .append=>match c.args.toList,c.argTypes.toList with
   |[s,x],[t,u]=>if t=u then match P.underlying t,cArg s,cArg x with
    |some (.slice e),some s,some x=>match zerosOf P e,P.info? e with
     |some zs,some i=>if 0<zs.length∧0<i.bytes then some (.app zs.length i.bytes s x) else none
     |_,_=>none
    |_,_,_=>none
    else none
   |_,_=>none
  | .builtin .clear=>match c.args.toList,c.argTypes[0]? with
   |[x],some t=>match P.underlying t,cArg x with
    |some (.slice e),some x=>match zerosOf P e with
     |some zs=>if 0<zs.length then some (.clr zs x) else none
     |none=>none
    |_,_=>none
   |_,_=>none
  | .builtin .copy=>match c.args.toList,c.argTypes[0]? with
   |[x,y],some t=>match P.underlying t,cArg x,cArg y with
    |some (.slice e),some x,some y=>match szOf P e with
     |some sz=>if 0<sz then some (.cpy sz x y) else none
     |none=>none
    |_,_,_=>none
   |_,_=>none
  | .builtin .min=>match c.args.toList with
   |[x,y]=>match cArg x,cArg y with
    |some x,some y=>some (.mnx false x y)
    |_,_=>none
   |_=>none
  | .builtin .max=>match c.args.toList with
   |[x,y]=>match cArg x,cArg y with
    |some x,some y=>some (.mnx true x y)
    |_,_=>none
   |_=>none
  |_=>none
 |_=>none
open Go.RowKit
def OpOK (E:Env) (J:Nat→Prop) (base:Nat) (g:Nat→Option Bk) (r:Result Next) (val:AV) (ups:List (Nat×Option Bk)):Prop:=
 ∃(n:Next) (v:Value) (E':Env),r= .ok n E'.w∧(n= .value v∨(n= .skip∧v=undef))∧E.Le E'∧Rep E' v val∧MemAt E' J base (gput g ups)∧Below base E.w E'.w∧∀id,E'.kn id→E.kn id∨id∈ups.map Prod.fst
theorem pureOK {E:Env} {J:Nat→Prop} {base:Nat} {g:Nat→Option Bk} {r:Result Next} {v:Value} {val:AV} (hm:MemAt E J base g) (hr:r= .ok (.value v) E.w) (h:Rep E v val):OpOK E J base g r val []:=
 ⟨.value v,v,E,hr, .inl rfl,Env.Le.refl E,h,hm,Below.refl _ _,fun _ h=> .inl h⟩
theorem frz_out {n k q:Nat} (h:q<n):(decide ((frz n k).1≤q)&&decide (q<(frz n k).2))=false:=by
 cases k with
 |zero=>simp [frz]
 |succ k=>
  have:decide ((frz n (k+1)).1≤q)=false:=decide_eq_false (by show ¬n≤q;omega)
  rw [this];rfl
theorem run_storeCells_fr (P:Program) (g o:Nat) (t:TypeId) (k:Nat):∀(vs:List Value) (i:Nat) (cur:Array Value) (w:World),w.heap[g]? =some (.cells cur t (frz cur.size k))→o+i+vs.length≤cur.size→(∀v∈vs,v.oneCell'=true)→
  (storeCells ⟨g,o,none⟩ vs i).run P w= .ok () (w.setRow g (cur.toList.take (o+i)++vs++cur.toList.drop (o+i+vs.length)).toArray)
 |[],i,cur,w,hg,_,_=>by
  simp only [storeCells,List.append_nil,List.length_nil,Nat.add_zero,List.take_append_drop,Array.toArray_toList]
  rw [setRow_self w g cur t _ hg]
  rfl
 |v::rest,i,cur,w,hg,hl,h1=>by
  have hi:o+i<cur.size:=by simp at hl;omega
  have hadd:(⟨g,o,none⟩:Addr).add i=⟨g,o+i,none⟩:=by unfold Addr.add;split<;>simp_all
  have hcell:w.cell? ⟨g,o+i,none⟩=some cur[o+i]:=by simp [World.cell?,hg,hi]
  have hfro:w.frozen? ⟨g,o+i,none⟩=false:=by
   simp only [World.frozen?,hg]
   exact frz_out hi
  have hst:(store ((⟨g,o,none⟩:Addr).add i) v).run P w= .ok () (w.setRow g (cur.setIfInBounds (o+i) v)):=by
   rw [hadd,run_store P w _ v _ (h1 v (by simp)),hcell]
   simp [hfro,setCell_eq_setRow w g (o+i) cur t _ v hg]
  have ih:=run_storeCells_fr P g o t k rest (i+1) (cur.setIfInBounds (o+i) v) (w.setRow g (cur.setIfInBounds (o+i) v)) (by rw [Array.size_setIfInBounds];exact setRow_heap w g cur _ t _ hg) (by simp at hl ⊢; omega) (fun x hx=>h1 x (by simp [hx]))
  simp only [storeCells,Sem.run_bind,hst,Result.andThen_ok,ih,setRow_setRow]
  congr 3
  have e:=list_seg_step cur.toList (o+i) v rest (by simp at hl ⊢; omega)
  simpa [Array.toList_setIfInBounds,Nat.add_assoc] using e
theorem Rep.one {E:Env} {v:Value} {a:AV} (h:Rep E v a) (ho:a.one=true):v.oneCell'=true:=by
 cases h<;>first|rfl|(simp [AV.one] at ho;done)|exact ho|assumption
theorem Rep.cells {E:Env} {v:Value} {a:AV} (h:Rep E v a) (ho:a.cells.all AV.one=true):
  v.cells.size=a.cells.length∧(∀(j:Nat) u c,v.cells[j]? =some u→a.cells[j]? =some c→Rep E u c)∧(∀u,u∈v.cells.toList→u.oneCell'=true):=by
 have single:∀(v:Value) (a:AV),Rep E v a→a.cells=[a]→a.one=true→v.cells.size=a.cells.length∧(∀(j:Nat) u c,v.cells[j]? =some u→a.cells[j]? =some c→Rep E u c)∧(∀u,u∈v.cells.toList→u.oneCell'=true):=by
  intro v a h hc ho
  have h1:=h.one ho
  have hv:v.cells= #[v]:=by cases v<;>first|rfl|(simp [Value.oneCell'] at h1)
  rw [hc,hv]
  refine ⟨rfl,fun j u c hu hcj=> ?_,fun u hu=> ?_⟩
  ·cases j with
   |zero=>simp at hu hcj;subst hu;subst hcj;exact h
   |succ j=>simp at hcj
  ·simp at hu;subst hu;exact h1
 cases h with
 | @agg vs cs hl h=>
  refine ⟨hl,fun j u c hu hc=>h j u c hu hc,fun u hu=> ?_⟩
  simp only [Value.cells] at hu
  obtain ⟨j,hj,rfl⟩:=List.getElem_of_mem hu
  have hj':j<vs.size:=by simpa using hj
  have hjc:j<cs.length:=by omega
  have:=h j vs[j] cs[j] (Array.getElem?_eq_getElem hj') (List.getElem?_eq_getElem hjc)
  have ho':(cs[j]).one=true:=by
   simp only [AV.cells,List.all_eq_true] at ho
   exact ho _ (List.getElem_mem hjc)
  simpa using this.one ho'
 |_=>exact single _ _ (by constructor<;>assumption) rfl (by simpa [AV.cells] using ho)
theorem BlkAt.cell {E:Env} {base b:Nat} {B:Bk} (h:BlkAt E base B (some b)) {i:Nat} {cs:List AV} (hi:B.els[i]? =some cs) {j:Nat} {x:AV} (hj:cs[j]? =some x) (hz:B.sz≠0:=by first|assumption|omega):
  ∃u,E.w.cell? ⟨b,i*B.sz+j,none⟩=some u∧u.oneCell'=true∧Rep E u x:=by
 obtain ⟨_,arr,t,h2,_,h4⟩:=h.cells hz
 obtain ⟨u,k1,k2,k3⟩:=(h4 i cs hi).2 j x hj
 exact ⟨u,by rw [cell_of_row _ _ _ _ _ _ h2];exact k1,k2,k3⟩
theorem ofConst1_rep {E:Env} {v:Value} {a:AV} (h:ofConst1 v=some a):Rep E v a:=by
 unfold ofConst1 at h
 split at h
 ·simp only [Option.some.injEq] at h;subst h;exact .emp
 ·split at h
  ·rename_i hp;simp only [Option.some.injEq] at h;subst h;exact .v hp
  ·simp at h
theorem ofConstL_rep {E:Env}:∀{vs:List Value} {cs:List AV},ofConstL vs=some cs→vs.length=cs.length∧∀(i:Nat) v c,vs[i]? =some v→cs[i]? =some c→Rep E v c
 |[],cs,h=>by simp only [ofConstL,Option.some.injEq] at h;subst h;exact ⟨rfl,fun i v c hv=>by simp at hv⟩
 |v::r,cs,h=>by
  simp only [ofConstL] at h
  split at h
  ·rename_i a l h1 h2
   simp only [Option.some.injEq] at h;subst h
   have ih:=ofConstL_rep (E:=E) h2
   refine ⟨by simp [ih.1],fun i u c hu hc=> ?_⟩
   cases i with
   |zero=>simp at hu hc;subst hu;subst hc;exact ofConst1_rep h1
   |succ i=>simp at hu hc;exact ih.2 i u c hu hc
  ·simp at h
theorem ofConst_rep {E:Env} {v:Value} {a:AV} (h:ofConst v=some a):Rep E v a:=by
 unfold ofConst at h
 split at h
 ·rename_i cs
  cases hl:ofConstL cs.toList with
  |none=>simp [hl] at h
  |some l=>
   simp only [hl,Option.map_some,Option.some.injEq] at h
   subst h
   have:=ofConstL_rep (E:=E) hl
   exact .agg (by simpa using this.1) (fun i v c hv hc=>this.2 i v c (by simpa using hv) hc)
 ·exact ofConst1_rep h
theorem func_rep {E:Env} (f:FuncId):Rep E (.func (.func f) #[] #[]) (.fn f []):= .fn rfl (fun i v c hv=>by simp at hv)
def Args (E:Env) (ρv:Operand→Value) (ρ:Arg→AV):Prop:=∀x ax,cArg x=some ax→Rep E (ρv x) (ρ ax)
theorem Args.list {E:Env} {ρv:Operand→Value} {ρ:Arg→AV} (h:Args E ρv ρ):∀{xs:List Operand} {as_:List Arg},cArgs xs=some as_→xs.length=as_.length∧∀(i:Nat) v c,(xs.map ρv)[i]? =some v→(as_.map ρ)[i]? =some c→Rep E v c
 |[],as_,he=>by simp only [cArgs,Option.some.injEq] at he;subst he;exact ⟨rfl,fun i v c hv=>by simp at hv⟩
 |x::r,as_,he=>by
  simp only [cArgs] at he
  split at he
  ·rename_i a l h1 h2
   simp only [Option.some.injEq] at he;subst he
   have ih:=h.list h2
   refine ⟨by simp [ih.1],fun i u c hu hc=> ?_⟩
   cases i with
   |zero=>simp at hu hc;subst hu;subst hc;exact h _ _ h1
   |succ i=>simp only [List.map_cons,List.getElem?_cons_succ] at hu hc;exact ih.2 i u c hu hc
  ·simp at he
theorem aggOf_run {P:Program} {t:TypeId} {m:Option Nat} (h:aggOf P t=some m) (w:World):
  (isAgg t).run P w= .ok m.isSome w∧∀n,m=some n→(sizeOf t).run P w= .ok n w:=by
 unfold aggOf at h
 have key:∀n,szOf P t=some n→(sizeOf t).run P w= .ok n w:=by
  intro n hn
  unfold szOf at hn
  cases hi:P.info? t with
  |none=>simp [hi] at hn
  |some i=>simp [hi] at hn;subst hn;simp [sizeOf,typeInfo,hi]
 split at h
 ·rename_i fs hu
  cases hz:szOf P t with
  |none=>simp [hz] at h
  |some n=>
   simp [hz] at h;subst h
   exact ⟨by simp [isAgg,run_underlying hu],fun k hk=>by simp at hk;subst hk;exact key _ hz⟩
 ·rename_i k e hu
  cases hz:szOf P t with
  |none=>simp [hz] at h
  |some n=>
   simp [hz] at h;subst h
   exact ⟨by simp [isAgg,run_underlying hu],fun k hk=>by simp at hk;subst hk;exact key _ hz⟩
 ·rename_i d hn1 hn2 hu
  split at h
  ·simp only [Option.some.injEq] at h;subst h
   refine ⟨?_,fun k hk=>by simp at hk⟩
   cases hd:P.underlying t with
   |none=>simp_all
   |some d'=>
    have:d'=d:=by simp_all
    subst this
    cases d'<;>simp_all [isAgg,run_underlying hd]
  ·simp at h
 ·simp at h
theorem szOf_run {P:Program} {t:TypeId} {n:Nat} (h:szOf P t=some n) (w:World):(sizeOf t).run P w= .ok n w:=by
 unfold szOf at h
 cases hi:P.info? t with
 |none=>simp [hi] at h
 |some i=>simp [hi] at h;subst h;simp [sizeOf,typeInfo,hi]
theorem load_run {P:Program} {E:Env} {t:TypeId} {m:Option Nat} (ht:aggOf P t=some m) {cs:List AV} {o b off q:Nat} (hq:q=off+o) (u:Nat→Value)
  (hu:∀(j:Nat) x,cs[j]? =some x→E.w.cell? ⟨b,off+j,none⟩=some (u j)) (hr:∀(j:Nat) x,cs[j]? =some x→Rep E (u j) x) {a:AV} (ha:getCells cs o m=some a):
  ∃v,(loadVar t ⟨b,q,none⟩).run P E.w= .ok v E.w∧Rep E v a:=by
 obtain ⟨h1,h2⟩:=aggOf_run ht E.w
 cases m with
 |none=>
  simp only [getCells] at ha
  have hc:=hu o a ha
  refine ⟨u o, ?_,hr o a ha⟩
  subst hq
  simp [loadVar,h1,hc]
 |some n=>
  simp only [getCells] at ha
  split at ha
  ·rename_i hle
   simp only [Option.some.injEq] at ha;subst ha;subst hq
   have hl:=run_loadCells (P:=P) E.w ⟨b,off+o,none⟩ n (fun j=>u (o+j)) (fun j hj=>by
    rw [Addr.add_lit,Nat.add_assoc]
    exact hu (o+j) cs[o+j] (List.getElem?_eq_getElem (by omega)))
   refine ⟨.agg ((List.range n).map fun j=>u (o+j)).toArray,by simp [loadVar,h1,h2 n rfl,hl], .agg (by simp;omega) (fun i v c hv hc=> ?_)⟩
   have hi:i<n:=by
    have:=(Array.getElem?_eq_some_iff.1 hv).1
    simpa using this
   have hv':v=u (o+i):=by
    simp [hi] at hv;exact hv.symm
   have hc':cs[o+i]? =some c:=by
    rw [List.getElem?_take] at hc
    simp [hi,List.getElem?_drop] at hc
    exact hc
   subst hv'
   exact hr _ _ hc'
  ·simp at ha
section
variable {P:Program} {E:Env} {J:Nat→Prop} {base:Nat} {g:Nat→Option Bk} {ρv:Operand→Value} {ρ:Arg→AV} {fresh:Nat}
theorem zerosOf_run {t:TypeId} {zs:List AV} (h:zerosOf P t=some zs):∃i z,P.info? t=some i∧i.zero=some z∧i.size=zs.length∧z.cells.size=zs.length∧zs.all AV.one=true∧
  ∀(E:Env) (j:Nat) u c,z.cells[j]? =some u→zs[j]? =some c→Rep E u c:=by
 have E0:Env:=⟨default,fun _=>False,fun _=>none,fun _=>False,fun _=>False,fun _=>0,fun _=>False,fun _=>False⟩
 unfold zerosOf at h
 split at h
 ·rename_i i hi
  split at h
  ·rename_i z hz
   split at h
   ·rename_i l hl
    split at h
    ·rename_i hc
     simp only [Option.some.injEq] at h;subst h
     have h1:=ofConstL_rep (E:=E0) hl
     refine ⟨i,z,hi,hz,hc.1.symm,by simpa using h1.1,hc.2,fun E j u c hu hcj=>(ofConstL_rep (E:=E) hl).2 j u c (by simpa using hu) hcj⟩
    ·simp at h
   ·simp at h
  ·simp at h
 ·simp at h
theorem allocOK (hm:MemAt E J base g) (hf:¬E.kn fresh) (arr:Array Value) (t:TypeId) (B:Bk) {r:Result Next} {v:Value} {val:AV}
  (hr:r= .ok (.value v) (E.w.alloc (.cells arr t)))
  (hB:∀E':Env,E.Le E'→B.els.length*B.sz≤arr.size∧∀(i:Nat) cs,B.els[i]? =some cs→cs.length=B.sz∧∀(j:Nat) x,cs[j]? =some x→∃u,arr[i*B.sz+j]? =some u∧u.oneCell'=true∧Rep E' u x)
  (hv:∀E':Env,E'.w=E.w.alloc (.cells arr t)→E'.kn fresh→¬E'.dead fresh→E'.loc fresh=some E.w.heap.size→E'.ln fresh=B.els.length→Rep E' v val) (hz:B.sz≠0:=by first|assumption|(dsimp only;omega)):OpOK E J base g r val [(fresh,some B)]:=by
 obtain ⟨E',hw,hE,hM,k1,k2,k3,k4,k5⟩:=hm.alloc fresh hf arr t B hB hz
 refine ⟨.value v,v,E',by rw [hw];exact hr, .inl rfl,hE,hv E' hw k1 k2 k3 k5,hM, ?_,fun id hi=> ?_⟩
 ·rw [hw]
  exact (Below.refl _ _).alloc hm.size _
 ·rcases k4 id hi with h|h
  ·exact .inl h
  ·exact .inr (by simp [h])
theorem oneBlk {E:Env} {vs:Array Value} {cs:List AV} (hl:vs.size=cs.length) (h:∀(j:Nat) u c,vs[j]? =some u→cs[j]? =some c→Rep E u c) (h1:∀u,u∈vs.toList→u.oneCell'=true) (E':Env) (hE:E.Le E'):
  [cs].length*cs.length≤vs.size∧∀(i:Nat) ds,[cs][i]? =some ds→ds.length=cs.length∧∀(j:Nat) x,ds[j]? =some x→∃u,vs[i*cs.length+j]? =some u∧u.oneCell'=true∧Rep E' u x:=by
 refine ⟨by simp [hl],fun i ds hi=> ?_⟩
 cases i with
 |zero=>
  simp only [List.getElem?_cons_zero,Option.some.injEq] at hi
  subst hi
  refine ⟨rfl,fun j x hj=> ?_⟩
  have hj':j<vs.size:=by rw [hl];exact (List.getElem?_eq_some_iff.1 hj).1
  refine ⟨vs[j],by simp [hj'],h1 _ (by simp),(h j vs[j] x (Array.getElem?_eq_getElem hj') hj).step hE⟩
 |succ i=>simp at hi
theorem newOK (hm:MemAt E J base g) (hf:¬E.kn fresh) {t:TypeId} {zs:List AV} (h:zerosOf P t=some zs) (hz0:0<zs.length):
  OpOK E J base g ((do pure (Next.value (←Instr.alloc t true (.tuple #[]))):Sem Next).run P E.w) (.ref fresh zs.length 0 0) [(fresh,some ⟨zs.length,[zs]⟩)]:=by
 obtain ⟨i,z,hi,hz,hs,hcs,hone,hrep⟩:=zerosOf_run h
 have h1:∀u,u∈z.cells.toList→u.oneCell'=true:=fun u hu=>by
  obtain ⟨j,hj,rfl⟩:=List.getElem_of_mem hu
  have hj':j<z.cells.size:=by simpa using hj
  have:=(hrep E j z.cells[j] zs[j] (Array.getElem?_eq_getElem hj') (List.getElem?_eq_getElem (by omega))).one (by simp only [List.all_eq_true] at hone;exact hone _ (List.getElem_mem _))
  simpa using this
 refine allocOK hm hf z.cells t ⟨zs.length,[zs]⟩ (v:= .pointer (some ⟨E.w.heap.size,0,none⟩)) ?_ (oneBlk hcs (hrep E) h1) (fun E' _ k1 k2 k3 _=> .ref k1 k2 k3 (by simp))
 simp [Instr.alloc,zeroValue,typeInfo,hi,hz,newVar,newRow]
theorem boxOK (hm:MemAt E J base g) (hf:¬E.kn fresh) {t:TypeId} {n:Nat} {v:Value} {a:AV} (hv:Rep E v a) (hn:a.cells.length=n) (ho:a.cells.all AV.one=true) (hz0:0<n):
  OpOK E J base g ((do pure (Next.value (←Instr.box t v)):Sem Next).run P E.w) (.ref fresh n 0 0) [(fresh,some ⟨n,[a.cells]⟩)]:=by
 obtain ⟨h1,h2,h3⟩:=hv.cells ho
 subst hn
 refine allocOK hm hf v.cells t ⟨a.cells.length,[a.cells]⟩ (v:= .pointer (some ⟨E.w.heap.size,0,none⟩)) ?_ (oneBlk h1 h2 h3) (fun E' _ k1 k2 k3 _=> .ref k1 k2 k3 (by simp))
 simp [Instr.box,newVar,newRow]
theorem loadOK (hm:MemAt E J base g) {t:TypeId} {m:Option Nat} (ht:aggOf P t=some m) {v:Value} {x:Arg} {val:AV} {ups:List (Nat×Option Bk)} (hv:Rep E v (ρ x))
  (h:((AO.load m x).sem fresh ρ).run g=some (.done val ups)):OpOK E J base g ((do pure (Next.value (←Instr.loadAt t v)):Sem Next).run P E.w) val ups:=by
 simp only [AO.sem] at h
 split at h
 ·rename_i cs o hx
  rw [hx] at hv
  cases hg:getCells cs o m with
  |none=>simp [hg,RM.opt,RM.run] at h
  |some a=>
   simp [hg,RM.opt,RM.run] at h
   obtain ⟨rfl,rfl⟩:=h
   cases hv with
   |pim u hb hq hu hr1 hr=>
    obtain ⟨v',hl,hr'⟩:=load_run (P:=P) ht hq u hu hr hg
    exact pureOK hm (by simp [Instr.loadAt,Instr.sureAddr,hl]) hr'
 ·rename_i id sz i o hx
  rw [hx] at hv
  simp only [RM.run] at h
  cases hgi:g id with
  |none=>simp [hgi] at h
  |some B=>
   simp only [hgi] at h
   split at h
   ·rename_i hsz
    cases hei:B.els[i]? with
    |none=>simp [hei,RM.opt,RM.run] at h
    |some cs=>
     cases hg:getCells cs o m with
     |none=>simp [hei,hg,RM.opt,RM.run] at h
     |some a=>
      simp [hei,hg,RM.opt,RM.run] at h
      obtain ⟨rfl,rfl⟩:=h
      cases hv with
      | @ref _ _ _ _ b q hi hd hb hq=>
       have hblk:=hm.at_ id B hgi
       rw [hb] at hblk
       have hcell:∀(j:Nat) (x:AV),cs[j]? =some x→∃u,E.w.cell? ⟨b,i*B.sz+j,none⟩=some u∧u.oneCell'=true∧Rep E u x:=fun j x hj=>hblk.cell hei hj
       obtain ⟨v',hl,hr'⟩:=load_run (P:=P) (E:=E) (cs:=cs) ht (b:=b) (off:=i*sz) hq (fun j=>(E.w.cell? ⟨b,i*sz+j,none⟩).getD undef)
        (fun j x hj=>by obtain ⟨u,k1,_,_⟩:=hcell j x hj;rw [hsz] at k1;simp [k1])
        (fun j x hj=>by obtain ⟨u,k1,_,k3⟩:=hcell j x hj;rw [hsz] at k1;simpa [k1] using k3) hg
       exact pureOK hm (by simp [Instr.loadAt,Instr.sureAddr,hl]) hr'
      |staleR hi hd=>exact absurd hd ((hm.live id).2 ⟨B,hgi⟩).2
   ·simp [RM.run] at h
 ·simp [RM.run] at h
theorem putCells_get {cs ys:List AV} {o:Nat} (h:o+ys.length≤cs.length) (j:Nat):(putCells cs o ys)[j]? =if j<o then cs[j]? else if j<o+ys.length then ys[j - o]? else cs[j]? :=by
 unfold putCells
 rw [List.append_assoc,List.getElem?_append,List.length_take,Nat.min_eq_left (by omega)]
 by_cases h1:j<o
 ·simp [h1]
 ·rw [if_neg h1,if_neg h1,List.getElem?_append]
  by_cases h2:j<o+ys.length
  ·rw [if_pos (by omega),if_pos h2]
  ·rw [if_neg (by omega),if_neg h2,List.getElem?_drop]
   congr 1;omega
theorem putCells_length {cs ys:List AV} {o:Nat} (h:o+ys.length≤cs.length):(putCells cs o ys).length=cs.length:=by
 unfold putCells;simp;omega
theorem storeOK (hm:MemAt E J base g) {t:TypeId} {n:Nat} (ht:szOf P t=some n) {v vy:Value} {x y:Arg} {val:AV} {ups:List (Nat×Option Bk)} (hv:Rep E v (ρ x)) (hvy:Rep E vy (ρ y))
  (h:((AO.store n x y).sem fresh ρ).run g=some (.done val ups)):OpOK E J base g ((do (Instr.storeAt t v vy);pure Next.skip:Sem Next).run P E.w) val ups:=by
 simp only [AO.sem] at h
 split at h
 ·rename_i id sz i o hx
  rw [hx] at hv
  simp only [RM.run] at h
  cases hgi:g id with
  |none=>simp [hgi] at h
  |some B=>
   simp only [hgi] at h
   split at h
   ·rename_i hc
    obtain ⟨hsz,hn,hone,ho⟩:=hc
    cases hei:B.els[i]? with
    |none=>simp [hei,RM.run] at h
    |some cs=>
     simp only [hei,RM.run,Option.some.injEq,Out.done.injEq] at h
     obtain ⟨rfl,rfl⟩:=h
     obtain ⟨c1,c2,c3⟩:=hvy.cells hone
     cases hv with
     |staleR hi hd=>exact absurd hd ((hm.live id).2 ⟨B,hgi⟩).2
     | @ref _ _ _ _ b q hi hd hb hq=>
      have hblk:=hm.at_ id B hgi
      rw [hb] at hblk
      obtain ⟨hbase,arr,t',ha,hlen,hcells⟩:=hblk.cells (by omega)
      have hcs:=(hcells i cs hei).1
      subst hsz
      have hi':i<B.els.length:=(List.getElem?_eq_some_iff.1 hei).1
      have hfit:i*B.sz+B.sz≤arr.size:=by
       have:(i+1)*B.sz≤B.els.length*B.sz:=Nat.mul_le_mul_right _ (by omega)
       rw [Nat.add_mul] at this;omega
      have hst:=run_storeCells_fr P b q t'.1 t'.2 vy.cells.toList 0 arr E.w ha (by simp;omega) c3
      simp only [Nat.add_zero,Array.length_toList] at hst
      obtain ⟨E',hw,hE,hM,hkn⟩:=hm.set id b B ⟨B.sz,B.els.set i (putCells cs o (ρ y).cells)⟩ hgi hb arr
       (arr.toList.take q++vy.cells.toList++arr.toList.drop (q+vy.cells.size)).toArray t' ha
       (by simp;omega) (by simp) (fun E' hE=>by
        refine ⟨by simpa using hlen,fun i' ds hd'=> ?_⟩
        dsimp only at hd' ⊢
        simp only [List.getElem?_set] at hd'
        have hget:∀k,(arr.toList.take q++vy.cells.toList++arr.toList.drop (q+vy.cells.size)).toArray[k]? =if k<q then arr[k]? else if k<q+vy.cells.size then vy.cells[k - q]? else arr[k]? :=by
         intro k
         simp only [List.getElem?_toArray,List.append_assoc]
         rw [List.getElem?_append,List.length_take,Nat.min_eq_left (by simp;omega)]
         by_cases h1:k<q
         ·simp [h1]
         ·rw [if_neg h1,if_neg h1,List.getElem?_append]
          by_cases h2:k<q+vy.cells.size
          ·rw [if_pos (by simp;omega),if_pos h2];simp
          ·rw [if_neg (by simp;omega),if_neg h2,List.getElem?_drop]
           simp;congr 1;omega
        by_cases hii:i=i'
        ·subst hii
         simp only [if_true,hi',Option.some.injEq] at hd'
         subst hd'
         refine ⟨by rw [putCells_length (by omega)];exact hcs,fun j x hj=> ?_⟩
         rw [putCells_get (by omega)] at hj
         have hjl:j<B.sz:=by
          by_cases h1:j<o
          ·omega
          ·rw [if_neg h1] at hj
           by_cases h2:j<o+(ρ y).cells.length
           ·omega
           ·rw [if_neg h2] at hj
            have:=(List.getElem?_eq_some_iff.1 hj).1;omega
         rw [hget]
         by_cases h1:j<o
         ·rw [if_pos h1] at hj
          rw [if_pos (by omega)]
          obtain ⟨u,k1,k2,k3⟩:=(hcells i cs hei).2 j x hj
          exact ⟨u,k1,k2,k3.step hE⟩
         ·rw [if_neg h1] at hj
          by_cases h2:j<o+(ρ y).cells.length
          ·rw [if_pos h2] at hj
           have hk:j - o<vy.cells.size:=by omega
           rw [if_neg (by omega),if_pos (by omega)]
           refine ⟨vy.cells[j - o], ?_,c3 _ (by simp),(c2 (j - o) _ x (Array.getElem?_eq_getElem hk) hj).step hE⟩
           rw [show i*B.sz+j - q=j - o by omega]
           exact Array.getElem?_eq_getElem hk
          ·rw [if_neg h2] at hj
           rw [if_neg (by omega),if_neg (by omega)]
           obtain ⟨u,k1,k2,k3⟩:=(hcells i cs hei).2 j x hj
           exact ⟨u,k1,k2,k3.step hE⟩
        ·simp only [hii,if_false] at hd'
         refine ⟨(hcells i' ds hd').1,fun j x hj=> ?_⟩
         obtain ⟨u,k1,k2,k3⟩:=(hcells i' ds hd').2 j x hj
         have hjl:j<B.sz:=by
          have:=(List.getElem?_eq_some_iff.1 hj).1
          rw [(hcells i' ds hd').1] at this;exact this
         rw [hget]
         have hap:i'*B.sz+j<q∨q+vy.cells.size≤i'*B.sz+j:=by
          rcases Nat.lt_or_ge i' i with h1|h1
          ·left
           have:(i'+1)*B.sz≤i*B.sz:=Nat.mul_le_mul_right _ (by omega)
           rw [Nat.add_mul] at this;omega
          ·right
           have:(i+1)*B.sz≤i'*B.sz:=Nat.mul_le_mul_right _ (by omega)
           rw [Nat.add_mul] at this;omega
         refine ⟨u, ?_,k2,k3.step hE⟩
         rcases hap with h1|h1
         ·rw [if_pos h1];exact k1
         ·rw [if_neg (by omega),if_neg (by omega)];exact k1)
      have hsz2:=szOf_run ht E.w
      refine ⟨.skip,undef,E', ?_, .inr ⟨rfl,rfl⟩,hE, .v rfl,hM, ?_,fun id' h'=> .inl (hkn id' h')⟩
      ·rw [hw]
       simp [Instr.storeAt,Instr.sureAddr,storeVar,hsz2,c1,hn,hst]
      ·rw [hw]
       refine ⟨rfl,rfl,rfl,by simp [World.setRow],fun k hk=>setRow_other _ _ _ _ (by omega)⟩
   ·simp [RM.run] at h
 ·simp [RM.run] at h
end
open Go.RowKit
section
variable {P:Program} {E:Env} {J:Nat→Prop} {base:Nat} {g:Nat→Option Bk} {ρv:Operand→Value} {ρ:Arg→AV} {fresh:Nat}
theorem eqGuard_int (op:BinOp) (t:TypeId) (x y:Operand) (k k':IntKind) (a b:Int) (w:World):(eqGuard op t x y (.int k a) (.int k' b)).run P w= .ok () w:=by
 cases op<;>simp [eqGuard]
theorem eqGuard_str (op:BinOp) (t:TypeId) (x y:Operand) (a b:ByteArray) (w:World):(eqGuard op t x y (.string a) (.string b)).run P w= .ok () w:=by
 cases op<;>simp [eqGuard]
theorem eqGuard_bool (op:BinOp) (t:TypeId) (x y:Operand) (a b:Bool) (w:World):(eqGuard op t x y (.bool a) (.bool b)).run P w= .ok () w:=by
 cases op<;>simp [eqGuard]
theorem strEq_eq (a b:ByteArray):strEq a b=(a.toList==b.toList):=by
 rw [ByteArray.toList_eq,ByteArray.toList_eq];rfl
theorem binA_run {op:BinOp} {t:TypeId} {x y:Operand} {a b v:Value} (h:binA (boolT P t) op a b=some v) (w:World):
  (do eqGuard op t x y a b;binOp op t a b:Sem Value).run P w= .ok v w∧plainV v=true:=by
 unfold binA at h
 split at h
 ·rename_i k a k' b
  have hg':=eqGuard_int (P:=P) op t x y k k' a b w
  split at h
  ·split at h
   ·simp at h
   ·rename_i h1
    simp only [Option.some.injEq] at h;subst h
    refine ⟨?_,rfl⟩
    simp [hg',binOp,Op.shift,h1]
  ·split at h
   ·simp at h
   ·rename_i h1
    simp only [Option.some.injEq] at h;subst h
    refine ⟨?_,rfl⟩
    simp [hg',binOp,Op.shift,h1]
  ·split at h
   ·rename_i hk
    subst hk
    split at h<;>first
     |(simp only [Option.some.injEq] at h;subst h;exact ⟨by simp [hg',binOp,Op.intArith,Op.intBits,Op.intCmp,bits],rfl⟩)
     |(split at h
       ·simp at h
       ·rename_i h1;simp only [Option.some.injEq] at h;subst h;exact ⟨by simp [hg',binOp,Op.intDiv,h1],rfl⟩)
     |simp at h
   ·simp at h
 ·rename_i a b
  have hg':=eqGuard_str (P:=P) op t x y a b w
  split at h<;>first
   |(simp only [Option.some.injEq] at h;subst h;exact ⟨by simp [hg',binOp,Op.stringOp,strEq_eq],rfl⟩)
   |(split at h
     ·simp at h
     ·rename_i h1;simp only [Option.some.injEq] at h;subst h;exact ⟨by simp only [Sem.run_bind,hg',Result.andThen_ok,binOp,Op.stringOp,Sem.run_ite,if_neg h1];rfl,rfl⟩)
   |simp at h
 ·rename_i a b
  have hg':=eqGuard_bool (P:=P) op t x y a b w
  split at h
  ·rename_i hb
   have hu:P.underlying t=some .bool:=by
    unfold boolT at hb
    split at hb
    ·assumption
    ·simp at hb
   have he:(Op.equal t (.bool a) (.bool b)).run P w= .ok (a==b) w:=run_equalIn_bool' w _ t a b hu
   split at h<;>first
    |(simp only [Option.some.injEq] at h;subst h;exact ⟨by simp [hg',binOp,he],rfl⟩)
    |simp at h
  ·simp at h
 ·simp at h
theorem unA_run {op:UnOp} {a v:Value} (h:unA op a=some v) (w:World):(Op.unary op a).run P w= .ok v w∧plainV v=true:=by
 unfold unA at h
 split at h<;>first
  |(simp only [Option.some.injEq] at h;subst h;exact ⟨by simp [Op.unary,Op.intArith,Op.intBits,bits],rfl⟩)
  |simp at h
theorem minmax_run {mx:Bool} {a b v:Value} (h:minmaxA mx a b=some v) (w:World):plainV v=true∧
  (mx=false→∀ts t,(Builtin.min_ ts t #[a,b]).run P w= .ok v w)∧(mx=true→∀ts t,(Builtin.max_ ts t #[a,b]).run P w= .ok v w):=by
 unfold minmaxA at h
 split at h
 ·rename_i k a k' b
  split at h
  ·rename_i hk
   subst hk
   simp only [Option.some.injEq] at h;subst h
   exact ⟨rfl,fun hm ts t=>by simp [Builtin.min_,Builtin.min2,hm],fun hm ts t=>by simp [Builtin.max_,Builtin.max2,hm]⟩
  ·simp at h
 ·simp at h
def RC (E:Env) (vs:Array Value) (cs:List AV):Prop:=vs.size=cs.length∧∀(j:Nat) u c,vs[j]? =some u→cs[j]? =some c→Rep E u c
theorem Rep.rc {v:Value} {a:AV} (h:Rep E v a) (hs:a.solid=true):RC E v.cells a.cells:=by
 cases a with
 |agg cs=>cases h with|agg hl h=>exact ⟨hl,h⟩
 |_=>
  have h':=h.cells (by simpa [AV.cells,AV.solid] using hs)
  exact ⟨h'.1,h'.2.1⟩
theorem foldl_put (off:Nat):∀(l:List Value) (n:Nat) (cells:Array Value),off+n+l.length≤cells.size→
  ((l.zipIdx n).foldl (fun cs (x:Value×Nat)=>cs.setIfInBounds (off+x.2) x.1) cells).size=cells.size∧
  ∀k,((l.zipIdx n).foldl (fun cs (x:Value×Nat)=>cs.setIfInBounds (off+x.2) x.1) cells)[k]? =if off+n≤k∧k<off+n+l.length then l[k - (off+n)]? else cells[k]?
 |[],n,cells,_=>⟨rfl,fun k=>by simp;intro h1 h2;omega⟩
 |v::l,n,cells,h=>by
  simp only [List.length_cons] at h
  have ih:=foldl_put off l (n+1) (cells.setIfInBounds (off+n) v) (by simp;omega)
  simp only [List.zipIdx_cons,List.foldl_cons]
  refine ⟨by simpa using ih.1,fun k=> ?_⟩
  rw [ih.2 k]
  by_cases h1:off+(n+1)≤k∧k<off+(n+1)+l.length
  ·rw [if_pos h1,if_pos (by simp;omega),show k - (off+n)=k - (off+(n+1))+1 by omega,List.getElem?_cons_succ]
  ·rw [if_neg h1]
   by_cases h2:k=off+n
   ·subst h2
    rw [if_pos (by simp),Array.getElem?_setIfInBounds]
    simp;omega
   ·rw [if_neg (by simp;omega),Array.getElem?_setIfInBounds,if_neg (fun e=>h2 e.symm)]
theorem fill_rc (ha:Args E ρv ρ) (place:Nat→Option (Nat×Nat)):∀(parts:List (Nat×Operand)) (as_:List (Nat×Nat×Arg)) (cells:Array Value) (cs cs':List AV),cParts place parts=some as_→RC E cells cs→fillA ρ cs as_=some cs'→
  ∃cells',Instr.fill place cells (parts.map fun (i,x)=>(i,ρv x))=some cells'∧RC E cells' cs'
 |[],as_,cells,cs,cs',hp,hc,hf=>by
  simp only [cParts,Option.some.injEq] at hp;subst hp
  simp only [fillA,Option.some.injEq] at hf;subst hf
  exact ⟨cells,rfl,hc⟩
 |(i,x)::r,as_,cells,cs,cs',hp,hc,hf=>by
  simp only [cParts] at hp
  split at hp
  ·rename_i p a l h1 h2 h3
   simp only [Option.some.injEq] at hp;subst hp
   simp only [fillA] at hf
   split at hf
   ·rename_i hcond
    obtain ⟨c1,c2,c3⟩:=hcond
    have hrc:=(ha x a h2).rc c3
    have hfp:=foldl_put p.1 (ρv x).cells.toList 0 cells (by simp [hrc.1,hc.1];omega)
    have hsz:(ρv x).cells.size=p.2:=hrc.1.trans c1
    have hnew:RC E ((ρv x).cells.zipIdx.foldl (fun cs (x:Value×Nat)=>cs.setIfInBounds (p.1+x.2) x.1) cells) (putCells cs p.1 (ρ a).cells):=by
     rw [←Array.foldl_toList,Array.toList_zipIdx]
     refine ⟨by rw [hfp.1,putCells_length (by omega)];exact hc.1,fun j u c hu hcj=> ?_⟩
     rw [hfp.2 j] at hu
     rw [putCells_get (by omega)] at hcj
     by_cases h4:j<p.1
     ·rw [if_neg (by omega)] at hu;rw [if_pos h4] at hcj
      exact hc.2 j u c hu hcj
     ·rw [if_neg h4] at hcj
      by_cases h5:j<p.1+(ρ a).cells.length
      ·rw [if_pos (by simp;omega)] at hu;rw [if_pos h5] at hcj
       simp only [Nat.add_zero,Array.getElem?_toList] at hu
       exact hrc.2 _ u c hu hcj
      ·rw [if_neg (by simp;omega)] at hu;rw [if_neg h5] at hcj
       exact hc.2 j u c hu hcj
    obtain ⟨cells',k1,k2⟩:=fill_rc ha place r l _ _ cs' h3 hnew hf
    refine ⟨cells', ?_,k2⟩
    simp only [List.map_cons,Instr.fill,h1]
    rw [if_neg (by simp [hsz,hc.1];omega)]
    exact k1
   ·simp at hf
  ·simp at hp
theorem aggOK (ha:Args E ρv ρ) (hm:MemAt E J base g) {t:TypeId} {parts:Array (Nat×Operand)} {zs:List AV} {as_:List (Nat×Nat×Arg)} {place:Nat→Option (Nat×Nat)} (hz:zerosOf P t=some zs) (hp:cParts place parts.toList=some as_)
  (hb:∀z i,P.info? t=some i→i.zero=some z→∀ps,P.built t ps=Instr.fill place z.cells ps) {val:AV} {ups:List (Nat×Option Bk)} (h:((AO.agg zs as_).sem fresh ρ).run g=some (.done val ups)):
  OpOK E J base g ((do pure (Next.value (←Instr.build t (parts.map fun (i,x)=>(i,ρv x)))):Sem Next).run P E.w) val ups:=by
 obtain ⟨i,z,hi,hzz,hs,hcs,hone,hrep⟩:=zerosOf_run hz
 simp only [AO.sem] at h
 cases hf:fillA ρ zs as_ with
 |none=>simp [hf,RM.opt,RM.run] at h
 |some cs=>
  simp [hf,RM.opt,RM.run] at h
  obtain ⟨rfl,rfl⟩:=h
  obtain ⟨cells',k1,k2⟩:=fill_rc ha place parts.toList as_ z.cells zs cs hp ⟨hcs,hrep E⟩ hf
  have hbuilt:P.built t (parts.map fun (i,x)=>(i,ρv x)).toList=some cells':=by
   rw [hb z i hi hzz];simpa using k1
  refine pureOK hm (v:= .agg cells') ?_ (.agg k2.1 k2.2)
  simp [run_build E.w t _ cells' hbuilt]
theorem fillE_spec (ha:Args E ρv ρ) (sz:Nat) (hsz:0<sz):∀(parts:List (Nat×Operand)) (as_:List (Nat×Arg)) (cells:Array Value) (els els':List (List AV)),cPartsE parts=some as_→
  (cells.size=els.length*sz∧∀(i:Nat) cs,els[i]? =some cs→cs.length=sz∧∀(j:Nat) x,cs[j]? =some x→∃u,cells[i*sz+j]? =some u∧u.oneCell'=true∧Rep E u x)→fillE ρ sz els as_=some els'→
  ∃cells',Instr.fill (fun i=>some (i*sz,sz)) cells (parts.map fun (i,x)=>(i,ρv x))=some cells'∧els'.length=els.length∧
   (cells'.size=els'.length*sz∧∀(i:Nat) cs,els'[i]? =some cs→cs.length=sz∧∀(j:Nat) x,cs[j]? =some x→∃u,cells'[i*sz+j]? =some u∧u.oneCell'=true∧Rep E u x)
 |[],as_,cells,els,els',hp,hc,hf=>by
  simp only [cPartsE,Option.some.injEq] at hp;subst hp
  simp only [fillE,Option.some.injEq] at hf;subst hf
  exact ⟨cells,rfl,rfl,hc⟩
 |(i,x)::r,as_,cells,els,els',hp,hc,hf=>by
  simp only [cPartsE] at hp
  split at hp
  ·rename_i a l h2 h3
   simp only [Option.some.injEq] at hp;subst hp
   simp only [fillE] at hf
   split at hf
   ·rename_i hcond
    obtain ⟨c1,c2,c3⟩:=hcond
    obtain ⟨r1,r2,r3⟩:=(ha x a h2).cells c3
    have hfit:i*sz+sz≤els.length*sz:=by
     have:(i+1)*sz≤els.length*sz:=Nat.mul_le_mul_right _ (by omega)
     rw [Nat.add_mul] at this;omega
    have hfp:=foldl_put (i*sz) (ρv x).cells.toList 0 cells (by simp [r1,hc.1,c1];omega)
    obtain ⟨cells',k1,k2,k3⟩:=fillE_spec ha sz hsz r l ((ρv x).cells.zipIdx.foldl (fun cs (y:Value×Nat)=>cs.setIfInBounds (i*sz+y.2) y.1) cells) (els.set i (ρ a).cells) els' h3 (by
     rw [←Array.foldl_toList,Array.toList_zipIdx]
     refine ⟨by rw [hfp.1];simpa using hc.1,fun i' ds hd=> ?_⟩
     simp only [List.getElem?_set] at hd
     by_cases hii:i=i'
     ·subst hii
      simp only [if_true,c2,Option.some.injEq] at hd
      subst hd
      refine ⟨c1,fun j y hj=> ?_⟩
      have hjl:j<(ρv x).cells.size:=by rw [r1];exact (List.getElem?_eq_some_iff.1 hj).1
      refine ⟨(ρv x).cells[j], ?_,r3 _ (by simp),r2 j _ y (Array.getElem?_eq_getElem hjl) hj⟩
      rw [hfp.2,if_pos (by simp;omega)]
      simp [hjl]
     ·simp only [hii,if_false] at hd
      refine ⟨(hc.2 i' ds hd).1,fun j y hj=> ?_⟩
      obtain ⟨u,m1,m2,m3⟩:=(hc.2 i' ds hd).2 j y hj
      have hjl:j<sz:=by
       have:=(List.getElem?_eq_some_iff.1 hj).1
       rw [(hc.2 i' ds hd).1] at this;exact this
      refine ⟨u, ?_,m2,m3⟩
      rw [hfp.2,if_neg]
      ·exact m1
      ·simp only [Array.length_toList,r1,c1]
       rcases Nat.lt_or_ge i' i with h1|h1
       ·have:(i'+1)*sz≤i*sz:=Nat.mul_le_mul_right _ (by omega)
        rw [Nat.add_mul] at this;omega
       ·have:(i+1)*sz≤i'*sz:=Nat.mul_le_mul_right _ (by omega)
        rw [Nat.add_mul] at this;omega) hf
    refine ⟨cells', ?_,by simpa using k2,k3⟩
    simp only [List.map_cons,Instr.fill]
    rw [if_neg (by simp [r1,c1,hc.1];omega)]
    exact k1
   ·simp at hf
  ·simp at hp
theorem bslOK (ha:Args E ρv ρ) (hm:MemAt E J base g) (hf:¬E.kn fresh) {t e:TypeId} {len:Nat} {parts:Array (Nat×Operand)} {zs:List AV} {as_:List (Nat×Arg)} (ht:P.underlying t=some (.slice e)) (hz:zerosOf P e=some zs)
  (hl:len*zs.length≤16777216) (hpos:0<zs.length) (hp:cPartsE parts.toList=some as_) {val:AV} {ups:List (Nat×Option Bk)} (h:((AO.bsl zs.length len zs as_).sem fresh ρ).run g=some (.done val ups)):
  OpOK E J base g ((do pure (Next.value (←Instr.buildSlice t len (parts.map fun (i,x)=>(i,ρv x)))):Sem Next).run P E.w) val ups:=by
 obtain ⟨i,z,hi,hzz,hs,hcs,hone,hrep⟩:=zerosOf_run hz
 simp only [AO.sem] at h
 cases hfe:fillE ρ zs.length (List.replicate len zs) as_ with
 |none=>simp [hfe,RM.opt,RM.run] at h
 |some els=>
  simp [hfe,RM.opt,RM.run] at h
  obtain ⟨rfl,rfl⟩:=h
  obtain ⟨cells',k1,k2,k3,k4⟩:=fillE_spec ha zs.length hpos parts.toList as_ ((Array.range (len*zs.length)).map (z.cells[· %z.cells.size]!)) (List.replicate len zs) els hp (by
   refine ⟨by simp,fun q cs hq=> ?_⟩
   have hql:q<len:=by have:=(List.getElem?_eq_some_iff.1 hq).1;simpa using this
   simp [hql] at hq
   subst hq
   refine ⟨rfl,fun j x hj=> ?_⟩
   have hjl:j<zs.length:=(List.getElem?_eq_some_iff.1 hj).1
   have hfit:q*zs.length+zs.length≤len*zs.length:=by
    have:(q+1)*zs.length≤len*zs.length:=Nat.mul_le_mul_right _ (by omega)
    rw [Nat.add_mul] at this;omega
   have hjz:j<z.cells.size:=by omega
   have hmod:(q*zs.length+j)%z.cells.size=j:=by rw [hcs,Nat.mul_comm,Nat.mul_add_mod];exact Nat.mod_eq_of_lt hjl
   refine ⟨z.cells[j], ?_, ?_,hrep E j _ x (Array.getElem?_eq_getElem hjz) hj⟩
   ·rw [Array.getElem?_eq_getElem (by simp;omega)]
    simp [hmod,hjz]
   ·refine (hrep E j _ x (Array.getElem?_eq_getElem hjz) hj).one ?_
    simp only [List.all_eq_true] at hone
    have:=(List.getElem?_eq_some_iff.1 hj).2
    rw [←this];exact hone _ (List.getElem_mem _)) hfe
  simp only [List.length_replicate] at k2
  refine allocOK hm hf cells' e ⟨zs.length,els⟩ (v:= .slice (some ⟨E.w.heap.size,0,none⟩) len len) ?_ (fun E' hE=>⟨by rw [k3];exact Nat.le_refl _,fun q cs hq=>⟨(k4 q cs hq).1,fun j x hj=> ?_⟩⟩) (fun E' hw q1 q2 q3 q4=> ?_)
  ·have hz0:¬(len*zs.length>2^24):=by omega
   by_cases h0:len*zs.length=0
   ·have hl0:len=0:=by
     rcases Nat.mul_eq_zero.1 h0 with h|h
     ·exact h
     ·omega
    subst hl0
    have e0:Array.range 0= #[]:=rfl
    simp only [Nat.zero_mul,e0,Array.map_empty] at k1
    simp only [Instr.buildSlice,run_underlying ht,sizeOf,typeInfo,hi,hs,newRow,Sem.run_bind,Result.andThen_ok,run_program,Sem.run_pure,bind_pure_comp,Sem.run_map,Nat.zero_mul]
    simp [e0,k1]
   ·have hz1:¬(16777216<len*zs.length):=by omega
    simp [Instr.buildSlice,run_underlying ht,sizeOf,typeInfo,zeroValue,hi,hzz,hs,newRow,hz1]
    rw [if_neg h0]
    simp at k1
    simp [hi,hzz,k1]
  ·obtain ⟨u,m1,m2,m3⟩:=(k4 q cs hq).2 j x hj
   exact ⟨u,m1,m2,m3.step hE⟩
  ·refine .own q1 q2 q3 (.inl (by simp)) (t:=e) (m:=cells'.size) ?_ (by rw [k3,k2];simp) (Nat.le_refl _) (by have:=Nat.le_mul_of_pos_right len hpos;omega) (by rw [q4];dsimp only;omega)
   rw [hw]
   unfold World.shape?
   rw [heap_alloc_new]
end
open Go.RowKit
section
variable {P:Program} {E:Env} {J:Nat→Prop} {base:Nat} {g:Nat→Option Bk} {ρv:Operand→Value} {ρ:Arg→AV} {fresh:Nat}
theorem part_run {t:TypeId} {m:Option Nat} (ht:aggOf P t=some m) {vs:Array Value} {cs:List AV} (hrc:RC E vs cs) {off:Nat} {a:AV} (ha:getCells cs off m=some a):
  ∃v,(part t vs off).run P E.w= .ok v E.w∧Rep E v a:=by
 obtain ⟨h1,h2⟩:=aggOf_run ht E.w
 cases m with
 |none=>
  simp only [getCells] at ha
  have hl:off<vs.size:=by rw [hrc.1];exact (List.getElem?_eq_some_iff.1 ha).1
  refine ⟨vs[off], ?_,hrc.2 off _ a (Array.getElem?_eq_getElem hl) ha⟩
  simp [part,h1,Array.getElem?_eq_getElem hl]
 |some n=>
  simp only [getCells] at ha
  split at ha
  ·rename_i hle
   simp only [Option.some.injEq] at ha;subst ha
   refine ⟨.agg (vs.extract off (off+n)),by simp [part,h1,h2 n rfl], .agg (by simp [hrc.1];omega) (fun i v c hv hc=> ?_)⟩
   have hi:i<n:=by
    have:=(List.getElem?_eq_some_iff.1 hc).1
    simp at this;omega
   rw [List.getElem?_take,if_pos hi,List.getElem?_drop] at hc
   rw [Array.getElem?_extract] at hv
   split at hv
   ·exact hrc.2 _ v c hv hc
   ·simp at hv
  ·simp at ha
theorem alive {id:Nat} {B:Bk} (hm:MemAt E J base g) (h:g id=some B):¬E.dead id:=((hm.live id).2 ⟨B,h⟩).2
theorem lv_run {α:Type} {id:Nat} {k:RM α} {a:α} (h:(RM.lv id k).run g=some a):∃B,g id=some B∧k.run g=some a:=by
 simp only [RM.run] at h
 cases hg:g id with
 |none=>simp [hg] at h
 |some B=>simp only [hg] at h;exact ⟨B,rfl,h⟩
theorem lenOK (hm:MemAt E J base g) {str:Bool} {t:TypeId} (ht:if str=true then P.underlying t=some .string else ∃e,P.underlying t=some (.slice e)) {v:Value} {x:Arg} (hv:Rep E v (ρ x)) (ty:TypeId) {val:AV} {ups:List (Nat×Option Bk)}
  (h:((AO.len str x).sem fresh ρ).run g=some (.done val ups)):OpOK E J base g ((do pure (Next.value (←Builtin.len_ #[t] ty #[v])):Sem Next).run P E.w) val ups:=by
 cases str with
 |true=>
  simp only [if_true] at ht
  simp only [AO.sem] at h
  split at h
  ·rename_i s hx
   simp only [RM.run,Option.some.injEq,Out.done.injEq] at h
   obtain ⟨rfl,rfl⟩:=h
   rw [hx] at hv
   cases hv with
   |v hp=>exact pureOK hm (v:=goInt s.size) (by simp [Builtin.len_,run_underlying ht]) (.v rfl)
  ·simp [RM.run] at h
 |false=>
  simp only [Bool.false_eq_true,if_false] at ht
  obtain ⟨e,hu⟩:=ht
  have slice:∀A n' c k,v=Value.slice A n' c→n'=k→(do pure (Next.value (←Builtin.len_ #[t] ty #[v])):Sem Next).run P E.w= .ok (.value (goInt k)) E.w:=by
   intro A n' c k hv hn
   subst hv;subst hn;simp [Builtin.len_,run_underlying hu]
  simp only [AO.sem] at h
  split at h
  ·rename_i sz els hx
   simp only [RM.run,Option.some.injEq,Out.done.injEq] at h
   obtain ⟨rfl,rfl⟩:=h
   rw [hx] at hv
   cases hv with
   |lst0 hc=>exact pureOK hm (slice _ _ _ _ rfl rfl) (.v rfl)
   |lst1 u hn=>exact pureOK hm (slice _ _ _ _ rfl hn) (.v rfl)
  ·rename_i sz els hx
   simp only [RM.run,Option.some.injEq,Out.done.injEq] at h
   obtain ⟨rfl,rfl⟩:=h
   rw [hx] at hv
   cases hv with
   |tls h'=>
    cases h' with
    |lst0 hc=>exact pureOK hm (slice _ _ _ _ rfl rfl) (.v rfl)
    |lst1 u hn=>exact pureOK hm (slice _ _ _ _ rfl hn) (.v rfl)
  ·rename_i hx
   simp only [RM.run,Option.some.injEq,Out.done.injEq] at h
   obtain ⟨rfl,rfl⟩:=h
   rw [hx] at hv
   cases hv with
   |emp=>exact pureOK hm (slice _ _ _ 0 rfl rfl) (.v rfl)
  ·rename_i id sz off n hx
   obtain ⟨B,hB,h⟩:=lv_run h
   simp only [RM.run,Option.some.injEq,Out.done.injEq] at h
   obtain ⟨rfl,rfl⟩:=h
   rw [hx] at hv
   cases hv with
   |own hi hd' hb hq hs hm' hl' hc=>exact pureOK hm (slice _ _ _ _ rfl rfl) (.v rfl)
   |own0 hi hd' hb=>exact pureOK hm (slice _ _ _ 0 rfl rfl) (.v rfl)
   |staleO hi hd=>exact absurd hd (alive hm hB)
  ·simp [RM.run] at h
theorem nilcOK (hm:MemAt E J base g) {v:Value} {x:Arg} (hv:Rep E v (ρ x)) {o:Oper} {xo:Operand} (ho:o.op= .nilCheck xo) (hx:ρv xo=v) {val:AV} {ups:List (Nat×Option Bk)}
  (h:((AO.nilc x).sem fresh ρ).run g=some (.done val ups)):OpOK E J base g ((execOp ρv o).run P E.w) val ups:=by
 have key:∀a,v= .pointer (some a)→(execOp ρv o).run P E.w= .ok (.value v) E.w:=by
  intro a ha
  unfold execOp
  simp [ho,hx,ha]
 simp only [AO.sem] at h
 split at h
 ·rename_i id sz i q hx'
  obtain ⟨B,hB,h⟩:=lv_run h
  simp only [RM.run,Option.some.injEq,Out.done.injEq] at h
  obtain ⟨rfl,rfl⟩:=h
  rw [hx'] at hv
  have hv':=hv
  cases hv with
  |ref hi hd hb hq=>exact pureOK hm (key _ rfl) hv'
  |staleR hi hd=>exact absurd hd (alive hm hB)
 ·rename_i cs q hx'
  simp only [RM.run,Option.some.injEq,Out.done.injEq] at h
  obtain ⟨rfl,rfl⟩:=h
  rw [hx'] at hv
  have hv':=hv
  cases hv with
  |pim u hb hq hu hr1 hr=>exact pureOK hm (key _ rfl) hv'
 ·simp [RM.run] at h
theorem fadOK (hm:MemAt E J base g) {v:Value} {x:Arg} (hv:Rep E v (ρ x)) {s:TypeId} {fields:Array Field} {fi:Nat} {f:Field} {n:Nat} (hu:P.underlying s=some (.struct fields)) (hf:fields[fi]? =some f) (hz:szOf P f.type=some n) (hn:n≠0) {val:AV} {ups:List (Nat×Option Bk)}
  (h:((AO.fad f.offset x).sem fresh ρ).run g=some (.done val ups)):OpOK E J base g ((do pure (Next.value (←Instr.fieldAt s v fi)):Sem Next).run P E.w) val ups:=by
 have hsz:=szOf_run hz E.w
 have key:∀b q,v= .pointer (some ⟨b,q,none⟩)→(do pure (Next.value (←Instr.fieldAt s v fi)):Sem Next).run P E.w= .ok (.value (.pointer (some ⟨b,q+f.offset,none⟩))) E.w:=by
  intro b q ha
  subst ha
  simp [Instr.fieldAt,run_underlying hu,hf,Instr.sureAddr,fieldPlace,hsz,hn,Addr.add_lit]
 simp only [AO.sem] at h
 split at h
 ·rename_i id sz i q hx'
  obtain ⟨B,hB,h⟩:=lv_run h
  simp only [RM.run,Option.some.injEq,Out.done.injEq] at h
  obtain ⟨rfl,rfl⟩:=h
  rw [hx'] at hv
  cases hv with
  |ref hi hd hb hq=>exact pureOK hm (key _ _ rfl) (.ref hi hd hb (by omega))
  |staleR hi hd=>exact absurd hd (alive hm hB)
 ·rename_i cs q hx'
  simp only [RM.run,Option.some.injEq,Out.done.injEq] at h
  obtain ⟨rfl,rfl⟩:=h
  rw [hx'] at hv
  cases hv with
  |pim u hb hq hu' hr1 hr=>exact pureOK hm (key _ _ rfl) (.pim u hb (by omega) hu' hr1 hr)
 ·simp [RM.run] at h
theorem fldOK (hm:MemAt E J base g) {v:Value} {x:Arg} (hv:Rep E v (ρ x)) {s:TypeId} {fields:Array Field} {fi:Nat} {f:Field} {m:Option Nat} (hu:P.underlying s=some (.struct fields)) (hf:fields[fi]? =some f) (hz:aggOf P f.type=some m) {val:AV} {ups:List (Nat×Option Bk)}
  (h:((AO.fld f.offset m x).sem fresh ρ).run g=some (.done val ups)):OpOK E J base g ((do pure (Next.value (←Instr.field s v fi)):Sem Next).run P E.w) val ups:=by
 simp only [AO.sem] at h
 split at h
 ·rename_i cs hx'
  rw [hx'] at hv
  cases hg:getCells cs f.offset m with
  |none=>simp [hg,RM.opt,RM.run] at h
  |some a=>
   simp [hg,RM.opt,RM.run] at h
   obtain ⟨rfl,rfl⟩:=h
   cases hv with
   |agg hl hr=>
    obtain ⟨v',k1,k2⟩:=part_run (P:=P) hz ⟨hl,hr⟩ hg
    exact pureOK hm (by simp [Instr.field,run_underlying hu,hf,asAgg,k1]) k2
 ·simp [RM.run] at h
theorem iapOK (hm:MemAt E J base g) {v vi:Value} {x i:Arg} (hv:Rep E v (ρ x)) (hvi:Rep E vi (ρ i)) {t e:TypeId} {sz len:Nat} (hu:P.underlying t=some (.array len e)) (hz:szOf P e=some sz) {val:AV} {ups:List (Nat×Option Bk)}
  (h:((AO.iap sz len x i).sem fresh ρ).run g=some (.done val ups)):OpOK E J base g ((do pure (Next.value (←Instr.indexAt t v vi)):Sem Next).run P E.w) val ups:=by
 have hsz:=szOf_run hz E.w
 have key:∀b q k (m:Int),v= .pointer (some ⟨b,q,none⟩)→vi= .int k m→0≤m→m<len→(do pure (Next.value (←Instr.indexAt t v vi)):Sem Next).run P E.w= .ok (.value (.pointer (some ⟨b,q+m.toNat*sz,none⟩))) E.w:=by
  intro b q k m hv hvi h1 h2
  subst hv;subst hvi
  simp [Instr.indexAt,asIntOf,Instr.sureAddr,run_underlying hu,h1,h2,hsz,Addr.add_lit]
 simp only [AO.sem] at h
 split at h
 ·rename_i id s q o k m hx hi
  split at h
  ·rename_i hc
   obtain ⟨h0,h1⟩:=hc
   obtain ⟨B,hB,h⟩:=lv_run h
   simp only [RM.run,Option.some.injEq,Out.done.injEq] at h
   obtain ⟨rfl,rfl⟩:=h
   rw [hx] at hv;rw [hi] at hvi
   cases hvi with
   |v hp=>cases hv with
    |ref hi' hd hb hq=>exact pureOK hm (key _ _ k m rfl rfl h0 h1) (.ref hi' hd hb (by omega))
    |staleR hi' hd=>exact absurd hd (alive hm hB)
  ·simp [RM.run] at h
 ·rename_i cs o k m hx hi
  split at h
  ·rename_i hc
   obtain ⟨h0,h1⟩:=hc
   simp only [RM.run,Option.some.injEq,Out.done.injEq] at h
   obtain ⟨rfl,rfl⟩:=h
   rw [hx] at hv;rw [hi] at hvi
   cases hvi with
   |v hp=>cases hv with
    |pim u hb hq hu' h1' hr=>exact pureOK hm (key _ _ k m rfl rfl h0 h1) (.pim u hb (by omega) hu' h1' hr)
  ·simp [RM.run] at h
 ·simp [RM.run] at h
theorem Rep.v_inv' {E:Env} {v a:Value} (h:Rep E v (.v a)):v=a:=by cases h;rfl
theorem ixaOK (hm:MemAt E J base g) {v vi:Value} {x i:Arg} (hv:Rep E v (ρ x)) (hvi:Rep E vi (ρ i)) {t e:TypeId} {sz len:Nat} {m:Option Nat} (hu:P.underlying t=some (.array len e)) (hz:szOf P e=some sz) (hg:aggOf P e=some m) {val:AV} {ups:List (Nat×Option Bk)}
  (h:((AO.ixa sz len m x i).sem fresh ρ).run g=some (.done val ups)):OpOK E J base g ((do pure (Next.value (←Instr.index t v vi)):Sem Next).run P E.w) val ups:=by
 have hsz:=szOf_run hz E.w
 simp only [AO.sem] at h
 split at h
 ·rename_i cs k n hx hi
  split at h
  ·rename_i hc
   cases hq:getCells cs (n.toNat*sz) m with
   |none=>simp [hq,RM.opt,RM.run] at h
   |some a=>
    simp [hq,RM.opt,RM.run] at h
    obtain ⟨rfl,rfl⟩:=h
    rw [hx] at hv;rw [hi] at hvi
    have ei:=hvi.v_inv'
    subst ei
    cases hv with
    |agg hl hr=>
     obtain ⟨v',k1,k2⟩:=part_run (P:=P) hg ⟨hl,hr⟩ hq
     exact pureOK hm (by simp [Instr.index,asIntOf,run_underlying hu,hc.1,hc.2,hsz,k1]) k2
  ·simp [RM.run] at h
 ·simp [RM.run] at h
theorem iadOK (hm:MemAt E J base g) {v vi:Value} {x i:Arg} (hv:Rep E v (ρ x)) (hvi:Rep E vi (ρ i)) {t e:TypeId} {sz:Nat} (hu:P.underlying t=some (.slice e)) (hz:szOf P e=some sz) (hpos:0<sz) {val:AV} {ups:List (Nat×Option Bk)}
  (h:((AO.iad sz x i).sem fresh ρ).run g=some (.done val ups)):OpOK E J base g ((do pure (Next.value (←Instr.indexAt t v vi)):Sem Next).run P E.w) val ups:=by
 have hsz:=szOf_run hz E.w
 have key:∀b q n c k (m:Int),v= .slice (some ⟨b,q,none⟩) n c→vi= .int k m→0≤m→m<n→(do pure (Next.value (←Instr.indexAt t v vi)):Sem Next).run P E.w= .ok (.value (.pointer (some ⟨b,q+m.toNat*sz,none⟩))) E.w:=by
  intro b q n c k m hv hvi h1 h2
  subst hv;subst hvi
  simp [Instr.indexAt,asIntOf,run_underlying hu,h1,h2,hsz,Addr.add_lit]
 have lst:∀v (els:List (List AV)) (m:Int),Rep E v (.lst sz els)→(∀b q n c,v= .slice (some ⟨b,q,none⟩) n c→(0≤m∧m<n→(do pure (Next.value (←Instr.indexAt t v vi)):Sem Next).run P E.w= .ok (.value (.pointer (some ⟨b,q+m.toNat*sz,none⟩))) E.w))→0≤m→∀cs,els[m.toNat]? =some cs→
   OpOK E J base g ((do pure (Next.value (←Instr.indexAt t v vi)):Sem Next).run P E.w) (.pim cs 0) []:=by
  intro v els m hr hkey h0 cs hcs
  have hlt:m.toNat<els.length:=(List.getElem?_eq_some_iff.1 hcs).1
  cases hr with
  |lst0 hc=>simp at hlt
  | @lst1 b off n c _ _ u hn hl hc hb hzz hu' hr1 hr'=>
   refine pureOK hm (hkey b off n c rfl ⟨h0,by omega⟩) (.pim (off:=off+m.toNat*sz) (u m.toNat) hb rfl (fun j x hj=>hu' _ _ _ _ hcs hj) (fun j x hj=>(hr1 _ _ _ _ hcs hj).2) (fun j x hj=>hr' _ _ _ _ hcs hj))
 simp only [AO.sem] at h
 split at h
 ·rename_i s els k m hx hi
  split at h
  ·rename_i hc
   obtain ⟨rfl,h0⟩:=hc
   rw [hx] at hv;rw [hi] at hvi
   cases hcs:els[m.toNat]? with
   |none=>simp [hcs,RM.opt,RM.run] at h
   |some cs=>
    simp [hcs,RM.opt,RM.run] at h
    obtain ⟨rfl,rfl⟩:=h
    cases hvi with
    |v hp=>exact lst v els m hv (fun b q n c hv' hh=>key b q n c k m hv' rfl hh.1 hh.2) h0 cs hcs
  ·simp [RM.run] at h
 ·rename_i s els k m hx hi
  split at h
  ·rename_i hc
   obtain ⟨rfl,h0⟩:=hc
   rw [hx] at hv;rw [hi] at hvi
   cases hcs:els[m.toNat]? with
   |none=>simp [hcs,RM.opt,RM.run] at h
   |some cs=>
    simp [hcs,RM.opt,RM.run] at h
    obtain ⟨rfl,rfl⟩:=h
    cases hvi with
    |v hp=>cases hv with
     |tls hv=>exact lst _ els m hv (fun b q n c hv' hh=>key b q n c k m hv' rfl hh.1 hh.2) h0 cs hcs
  ·simp [RM.run] at h
 ·rename_i id s off ln k m hx hi
  split at h
  ·rename_i hc
   obtain ⟨rfl,h0,h1⟩:=hc
   obtain ⟨B,hB,h⟩:=lv_run h
   simp only [RM.run,Option.some.injEq,Out.done.injEq] at h
   obtain ⟨rfl,rfl⟩:=h
   rw [hx] at hv;rw [hi] at hvi
   cases hvi with
   |v hp=>cases hv with
    | @own _ _ _ n c b q m' t' hi hd hb hq hs hm' hl' hc=>
     refine pureOK hm (key b q _ c k m rfl rfl h0 h1) (.ref hi hd hb ?_)
     rcases hq with hq|hq
     ·rw [hq,Nat.add_mul];omega
     ·omega
    |own0 hi hd' hb=>simp at h1;omega
    |staleO hi hd=>exact absurd hd (alive hm hB)
  ·simp [RM.run] at h
 ·simp [RM.run] at h
theorem extOK (hm:MemAt E J base g) {v:Value} {x:Arg} {i:Nat} (hv:Rep E v (ρ x)) {val:AV} {ups:List (Nat×Option Bk)}
  (h:((AO.ext i x).sem fresh ρ).run g=some (.done val ups)):OpOK E J base g ((do pure (Next.value (←Instr.extract v i)):Sem Next).run P E.w) val ups:=by
 simp only [AO.sem] at h
 split at h
 ·rename_i vs hx
  rw [hx] at hv
  cases hi:vs[i]? with
  |none=>simp [hi,RM.opt,RM.run] at h
  |some a=>
   simp [hi,RM.opt,RM.run] at h
   obtain ⟨rfl,rfl⟩:=h
   cases hv with
   | @tup us _ hl hr=>
    have hlt:i<us.size:=by rw [hl];exact (List.getElem?_eq_some_iff.1 hi).1
    exact pureOK hm (by simp [Instr.extract,Array.getElem?_eq_getElem hlt]) (hr i _ a (Array.getElem?_eq_getElem hlt) hi)
 ·simp [RM.run] at h
theorem natOf_rep {v:Value} {a:AV} (hv:Rep E v a) {n:Nat} (h:natOf a=some n):∃k,v= .int k (n:Int):=by
 unfold natOf at h
 split at h
 ·rename_i k m
  split at h
  ·simp only [Option.some.injEq] at h
   subst h
   cases hv with
   |v hp=>exact ⟨k,by congr 1;omega⟩
  ·simp at h
 ·simp at h
theorem mslOK (hm:MemAt E J base g) (hf:¬E.kn fresh) {t e:TypeId} {zs:List AV} {i:TypeInfo} (ht:P.underlying t=some (.slice e)) (hz:zerosOf P e=some zs) (hi:P.info? e=some i) (hpos:0<zs.length) (hby:0<i.bytes) {vl vc:Value} {l c:Arg} (hl:Rep E vl (ρ l)) (hc:Rep E vc (ρ c))
  {val:AV} {ups:List (Nat×Option Bk)} (h:((AO.msl zs.length i.bytes zs l c).sem fresh ρ).run g=some (.done val ups)):
  OpOK E J base g ((do pure (Next.value (←Instr.makeSlice t vl vc)):Sem Next).run P E.w) val ups:=by
 obtain ⟨i',z,hi',hzz,hs,hcs,hone,hrep⟩:=zerosOf_run hz
 obtain rfl:i=i':=by rw [hi] at hi';simpa using hi'
 simp only [AO.sem] at h
 split at h
 ·rename_i n m h1 h2
  split at h
  ·rename_i hcond
   obtain ⟨hle,hb⟩:=hcond
   simp only [RM.run,Option.some.injEq,Out.done.injEq] at h
   obtain ⟨rfl,rfl⟩:=h
   obtain ⟨kl,rfl⟩:=natOf_rep hl h1
   obtain ⟨kc,rfl⟩:=natOf_rep hc h2
   have hmb:m≤m*i.bytes:=Nat.le_mul_of_pos_right _ hby
   have hbi:(i.bytes:Int)*(m:Int)≤281474976710656:=by
    have:((i.bytes*m:Nat):Int)≤281474976710656:=by rw [Nat.mul_comm];omega
    rwa [Int.natCast_mul] at this
   have hrun:=run_make (P:=P) E.w t e i z ht hi hzz kl kc n m (by omega) (by omega) hbi (by omega)
   simp only [Int.toNat_natCast] at hrun
   have hsz:(madeCells z.cells (m*i.size)).size=m*zs.length:=by rw [size_madeCells,hs]
   refine allocOK hm hf (madeCells z.cells (m*i.size)) e ⟨zs.length,List.replicate n zs⟩ (v:= .slice (some ⟨E.w.heap.size,0,none⟩) n m) (by simp [hrun]) (fun E' hE=>⟨?_,fun q cs hq=> ?_⟩) (fun E' hw q1 q2 q3 q4=> ?_)
   ·simp only [List.length_replicate,hsz];exact Nat.mul_le_mul_right _ hle
   ·have hql:q<n:=by have:=(List.getElem?_eq_some_iff.1 hq).1;simpa using this
    simp [hql] at hq
    subst hq
    refine ⟨rfl,fun j x hj=> ?_⟩
    have hjl:j<zs.length:=(List.getElem?_eq_some_iff.1 hj).1
    have hfit:q*zs.length+zs.length≤m*zs.length:=by
     have:(q+1)*zs.length≤m*zs.length:=Nat.mul_le_mul_right _ (by omega)
     rw [Nat.add_mul] at this;omega
    have hjz:j<z.cells.size:=by omega
    have hmod:(q*zs.length+j)%z.cells.size=j:=by rw [hcs,Nat.mul_comm,Nat.mul_add_mod];exact Nat.mod_eq_of_lt hjl
    refine ⟨z.cells[j], ?_, ?_,(hrep E j _ x (Array.getElem?_eq_getElem hjz) hj).step hE⟩
    ·dsimp only
     rw [Array.getElem?_eq_getElem (by rw [hsz];omega)]
     simp [madeCells,hmod,hjz]
    ·refine (hrep E j _ x (Array.getElem?_eq_getElem hjz) hj).one ?_
     simp only [List.all_eq_true] at hone
     have:=(List.getElem?_eq_some_iff.1 hj).2
     rw [←this];exact hone _ (List.getElem_mem _)
   ·refine .own q1 q2 q3 (.inl (by simp)) (t:=e) (m:=(madeCells z.cells (m*i.size)).size) ?_ (by rw [hsz];simp) hle (by omega) (by rw [q4];simp;omega)
    rw [hw]
    unfold World.shape?
    rw [heap_alloc_new]
  ·simp [RM.run] at h
 ·simp [RM.run] at h
theorem optNat_rep (ha:Args E ρv ρ) {x:Option Operand} {ax:Option Arg} (hx:cOptArg x=some ax) {n:Option Nat} (h:optNat ρ ax=some n):(x=none∧n=none)∨∃o m k,x=some o∧n=some m∧ρv o= .int k (m:Int):=by
 cases x with
 |none=>
  simp [cOptArg] at hx;subst hx
  simp [optNat] at h;subst h
  exact .inl ⟨rfl,rfl⟩
 |some o=>
  simp only [cOptArg] at hx
  cases hc:cArg o with
  |none=>simp [hc] at hx
  |some a=>
   simp [hc] at hx;subst hx
   simp only [optNat] at h
   cases hn:natOf (ρ a) with
   |none=>simp [hn] at h
   |some m=>
    simp [hn] at h;subst h
    obtain ⟨k,hk⟩:=natOf_rep (ha o a hc) hn
    exact .inr ⟨o,m,k,rfl,rfl,hk⟩
theorem bounds_run (ha:Args E ρv ρ) {isS:Bool} {ln cap:Nat} (hcap:ln≤cap) {lo hi mx:Option Operand} {alo ahi amx:Option Arg} (h1:cOptArg lo=some alo) (h2:cOptArg hi=some ahi) (h3:cOptArg mx=some amx) {nlo nhi nmx:Option Nat} (k1:optNat ρ alo=some nlo) (k2:optNat ρ ahi=some nhi) (k3:optNat ρ amx=some nmx)
  (hmh:mx.isSome=true→hi.isSome=true) {b:Nat×Nat} (hb:bounds ln nlo nhi=some b) (hmx:∀m,nmx=some m→b.2≤m∧m≤ln):
  (Instr.sliceBounds isS ln cap (lo.map ρv) (hi.map ρv) (mx.map ρv)).run P E.w= .ok (b.1,b.2,nmx.getD cap) E.w:=by
 have sb:∀(k:IntKind) (n y:Nat) (code:BoundsCode),n≤y→(Instr.sliceBound (.int k (n:Int)) y code).run P E.w= .ok n E.w:=by
  intro k n y code h
  simp [Instr.sliceBound,asIntOf,h]
 unfold bounds at hb
 split at hb
 ·rename_i hc
  simp only [Option.some.injEq] at hb
  subst hb
  obtain ⟨c1,c2⟩:=hc
  simp only at hmx
  rcases optNat_rep ha h3 k3 with ⟨rfl,rfl⟩|⟨om,m,km,rfl,rfl,em⟩<;>rcases optNat_rep ha h2 k2 with ⟨rfl,rfl⟩|⟨oh,hh,kh,rfl,rfl,eh⟩<;>rcases optNat_rep ha h1 k1 with ⟨rfl,rfl⟩|⟨ol,ll,kl,rfl,rfl,el⟩
  all_goals simp only [Option.getD_none,Option.getD_some] at c1 c2 hmx ⊢
  ·simp [Instr.sliceBounds]
  ·simp [Instr.sliceBounds,el,sb kl ll ln _ c1]
  ·simp [Instr.sliceBounds,eh,sb kh hh cap _ (by omega)]
  ·simp [Instr.sliceBounds,eh,el,sb kh hh cap _ (by omega),sb kl ll hh _ c1]
  ·simp at hmh
  ·simp at hmh
  ·have:=hmx m rfl
   simp [Instr.sliceBounds,eh,em,sb km m cap _ (by omega),sb kh hh m _ (by omega)]
  ·have:=hmx m rfl
   simp [Instr.sliceBounds,eh,em,el,sb km m cap _ (by omega),sb kh hh m _ (by omega),sb kl ll hh _ c1]
 ·simp at hb
theorem cut_rep {A:Option Addr} {n c sz:Nat} {els:List (List AV)} (hv:Rep E (.slice A n c) (.lst sz els)) {l h:Nat} (h1:l≤h) (h2:h≤els.length) (m:Nat) (hm1:h≤m) (hm2:m≤c):
  Rep E (.slice (if m=l then A else A.map (·.add (l*sz))) (h - l) (m - l)) (.lst sz ((els.drop l).take (h - l))):=by
 by_cases h0:h - l=0
 ·rw [h0,List.take_zero]
  cases hv with
  |lst0 hc=>exact .lst0 (by omega)
  |lst1 u hn hl hc=>exact .lst0 (by omega)
 ·cases hv with
  |lst0 hc=>simp at h2;omega
  | @lst1 b off n c _ _ u hn hl hc hb hz hu hr1 hr=>
   rw [if_neg (by omega)]
   simp only [Option.map_some,Addr.add_lit]
   refine .lst1 (fun i j=>u (l+i) j) (by simp;omega) (by omega) (by omega) hb (fun i cs hi=> ?_) (fun i cs j x hi hj=> ?_) (fun i cs j x hi hj=> ?_) (fun i cs j x hi hj=> ?_)
   all_goals
    rw [List.getElem?_take] at hi
    split at hi
    ·rw [List.getElem?_drop] at hi
     first
      |exact hz _ cs hi
      |(rw [show off+l*sz+i*sz+j=off+(l+i)*sz+j by rw [Nat.add_mul];omega];exact hu _ _ _ _ hi hj)
      |exact hr1 _ _ _ _ hi hj
      |exact hr _ _ _ _ hi hj
    ·simp at hi
theorem ownCut {id s off n:Nat} {A:Option Addr} {c l h m:Nat} (hr:Rep E (.slice A n c) (.own id s off n)) (hd0:¬E.dead id) (h1:l≤h) (hm1:h≤m) (hm2:m≤c) (hlm:E.ln id≤off+m):Rep E (.slice (if m=l then A else A.map (·.add (l*s))) (h - l) (m - l)) (.own id s (off+l) (h - l)):=by
 cases hr with
 | @own _ _ _ _ _ bb q mm t' hi' hd hbl hq hs hmm hl hcc hln=>
  by_cases e1:m=l
  ·rw [if_pos e1]
   refine .own hi' hd hbl (.inr (by omega)) hs (Nat.le_trans (Nat.mul_le_mul_right _ (by omega)) hmm) (by omega) (by omega) (by omega)
  ·rw [if_neg e1]
   simp only [Option.map_some,Addr.add_lit]
   refine .own hi' hd hbl (.inl ?_) hs (Nat.le_trans (Nat.mul_le_mul_right _ (by omega)) hmm) (by omega) (by omega) (by omega)
   rcases hq with hq|hq
   ·rw [hq,Nat.add_mul]
   ·omega
 |own0 hi' hd hbl hln=>
  have hb1:l=0:=by omega
  have hb2:h=0:=by omega
  have hm0:m=0:=by omega
  simp only [hb1,hb2,hm0,Nat.sub_self,Nat.add_zero,if_true]
  exact .own0 hi' hd hbl hln
 |staleO hi' hd=>exact absurd hd hd0
theorem slcOK (ha:Args E ρv ρ) (hm:MemAt E J base g) {t e:TypeId} {sz:Nat} (hu:P.underlying t=some (.slice e)) (hz:szOf P e=some sz) {x:Operand} {ax:Arg} (hx:cArg x=some ax) {lo hi mx:Option Operand} {alo ahi amx:Option Arg} (h1:cOptArg lo=some alo) (h2:cOptArg hi=some ahi) (h3:cOptArg mx=some amx)
  (hmh:mx.isSome=true→hi.isSome=true) {val:AV} {ups:List (Nat×Option Bk)} (h:((AO.slc sz ax alo ahi amx).sem fresh ρ).run g=some (.done val ups)):
  OpOK E J base g ((do pure (Next.value (←Instr.sliceAt t (ρv x) (lo.map ρv) (hi.map ρv) (mx.map ρv))):Sem Next).run P E.w) val ups:=by
 have hsz:=szOf_run hz E.w
 have hv:=ha x ax hx
 have key:∀A n c l h m,ρv x= .slice A n c→(Instr.sliceBounds true n c (lo.map ρv) (hi.map ρv) (mx.map ρv)).run P E.w= .ok (l,h,m) E.w→
   (do pure (Next.value (←Instr.sliceAt t (ρv x) (lo.map ρv) (hi.map ρv) (mx.map ρv))):Sem Next).run P E.w= .ok (.value (.slice (if m=l then A else A.map (·.add (l*sz))) (h - l) (m - l))) E.w:=by
  intro A n c l h m hv hb
  rw [hv]
  simp [Instr.sliceAt,Instr.slice,run_underlying hu,hb,hsz]
 have lst:∀A n c els s,ρv x= .slice A n c→n=els.length→n≤c→Rep E (.slice A n c) (.lst s els)→s=sz→∀nlo nhi nmx b a,optNat ρ alo=some nlo→optNat ρ ahi=some nhi→optNat ρ amx=some nmx→bounds els.length nlo nhi=some b→cutL sz els b.1 b.2 nmx=some a→
   OpOK E J base g ((do pure (Next.value (←Instr.sliceAt t (ρv x) (lo.map ρv) (hi.map ρv) (mx.map ρv))):Sem Next).run P E.w) a []:=by
  intro A n c els s hvx hn hnc hr hs nlo nhi nmx b a k1 k2 k3 hb hc
  subst hs;subst hn
  have hbb:b.1≤b.2∧b.2≤els.length:=by
   unfold bounds at hb
   split at hb
   ·rename_i hcond;simp only [Option.some.injEq] at hb;subst hb;exact hcond
   ·simp at hb
  cases nmx with
  |none=>
   simp only [cutL,Option.some.injEq] at hc;subst hc
   have hbr:=bounds_run (P:=P) (isS:=true) ha hnc h1 h2 h3 k1 k2 k3 hmh hb (fun m hm=>by simp at hm)
   exact pureOK hm (key A _ c b.1 b.2 c hvx hbr) (cut_rep hr hbb.1 hbb.2 c (by omega) (Nat.le_refl _))
  |some m=>
   simp only [cutL] at hc
   split at hc
   ·rename_i hcond
    simp only [Option.some.injEq] at hc
    have hbr:=bounds_run (P:=P) (isS:=true) ha hnc h1 h2 h3 k1 k2 k3 hmh hb (fun m' hm'=>by simp at hm';subst hm';exact hcond)
    have hrep:=cut_rep hr hbb.1 hbb.2 m hcond.1 (by omega)
    have hkey:=key A _ c b.1 b.2 m hvx hbr
    by_cases e1:m=b.1
    ·rw [if_pos e1] at hc;subst hc
     refine pureOK hm hkey ?_
     rw [show b.2 - b.1=0 by omega,show m - b.1=0 by omega]
     exact .emp
    ·rw [if_neg e1] at hc
     by_cases e2:m=b.2
     ·rw [if_pos e2] at hc;subst hc
      refine pureOK hm hkey ?_
      rw [e2] at hrep ⊢
      exact .tls hrep
     ·rw [if_neg e2] at hc;subst hc
      exact pureOK hm hkey hrep
   ·simp at hc
 simp only [AO.sem] at h
 split at h
 ·rename_i nlo nhi nmx k1 k2 k3
  split at h
  ·rename_i s els hx'
   rw [hx'] at hv
   split at h
   ·rename_i hs
    cases hb:bounds els.length nlo nhi with
    |none=>simp [hb,RM.opt,RM.run] at h
    |some b=>
     cases hc:cutL sz els b.1 b.2 nmx with
     |none=>simp [hb,hc,RM.opt,RM.run] at h
     |some a=>
      simp [hb,hc,RM.opt,RM.run] at h
      obtain ⟨rfl,rfl⟩:=h
      obtain ⟨vv,hvv⟩:∃vv,vv=ρv x:=⟨_,rfl⟩
      rw [←hvv] at hv
      have hv':=hv
      cases hv with
      |lst0 hcc=>exact lst _ _ _ _ s hvv.symm rfl (by simp) hv' hs _ _ _ _ _ k1 k2 k3 hb hc
      |lst1 u hn hl hcc=>exact lst _ _ _ _ s hvv.symm hn hl hv' hs _ _ _ _ _ k1 k2 k3 hb hc
   ·simp [RM.run] at h
  ·rename_i s els hx'
   rw [hx'] at hv
   split at h
   ·rename_i hs
    cases hb:bounds els.length nlo nhi with
    |none=>simp [hb,RM.opt,RM.run] at h
    |some b=>
     cases hc:cutL sz els b.1 b.2 nmx with
     |none=>simp [hb,hc,RM.opt,RM.run] at h
     |some a=>
      simp [hb,hc,RM.opt,RM.run] at h
      obtain ⟨rfl,rfl⟩:=h
      obtain ⟨vv,hvv⟩:∃vv,vv=ρv x:=⟨_,rfl⟩
      rw [←hvv] at hv
      cases hv with
      |tls hv=>
       have hv':=hv
       cases hv with
       |lst0 hcc=>exact lst _ _ _ _ s hvv.symm rfl (by simp) hv' hs _ _ _ _ _ k1 k2 k3 hb hc
       |lst1 u hn hl hcc=>exact lst _ _ _ _ s hvv.symm hn hl hv' hs _ _ _ _ _ k1 k2 k3 hb hc
   ·simp [RM.run] at h
  ·rename_i hx'
   rw [hx'] at hv
   cases hb:bounds 0 nlo nhi with
   |none=>simp [hb,RM.opt,RM.run] at h
   |some b=>
    by_cases hc:nmx.getD 0=0
    ·simp [hb,hc,RM.opt,RM.run] at h
     obtain ⟨rfl,rfl⟩:=h
     obtain ⟨vv,hvv⟩:∃vv,vv=ρv x:=⟨_,rfl⟩
     rw [←hvv] at hv
     have hbb:b.1=0∧b.2=0:=by
      unfold bounds at hb
      split at hb
      ·rename_i hcond;simp only [Option.some.injEq] at hb;subst hb;simp only;omega
      ·simp at hb
     have h0:∀m,nmx=some m→m=0:=fun m hm'=>by rw [hm'] at hc;simpa using hc
     cases hv with
     | @emp A=>
      have hbr:=bounds_run (P:=P) (isS:=true) ha (Nat.le_refl 0) h1 h2 h3 k1 k2 k3 hmh hb (fun m hm=>by rw [h0 m hm,hbb.2];exact ⟨Nat.le_refl _,Nat.le_refl _⟩)
      refine pureOK hm (key A _ _ b.1 b.2 _ hvv.symm hbr) ?_
      rw [hbb.1,hbb.2,hc]
      exact .emp
    ·simp [hb,hc,RM.opt,RM.run] at h
  ·rename_i id s off n hx'
   obtain ⟨B,hB,h⟩:=lv_run h
   rw [hx'] at hv
   have hs:s=sz:=by
    cases nmx with
    |none=>simp only at h;split at h<;>first|assumption|simp [RM.run] at h
    |some m=>simp only [RM.run,hB] at h;split at h<;>first|(rename_i hc;exact hc.1)|simp [RM.run] at h
   ·subst hs
    cases hb:bounds n nlo nhi with
    |none=>
     cases nmx with
     |some m=>exfalso;simp [hb,hB,RM.opt,RM.run] at h
     |none=>
      cases nhi with
      |none=>exfalso;simp [hb,RM.run] at h
      |some hh=>
       simp only [hb,if_true,RM.run,hB] at h
       by_cases hBz:B.sz=s
       rotate_left
       ·rw [if_neg hBz] at h;simp [RM.run] at h
       rw [if_pos hBz] at h
       cases hb2:bounds (B.els.length - off) nlo (some hh) with
       |none=>simp [hb2,RM.opt,RM.run] at h
       |some b=>
        simp [hb2,RM.opt,RM.run] at h
        obtain ⟨rfl,rfl⟩:=h
        have hbb:b.1≤b.2∧b.2≤B.els.length - off:=by
         unfold bounds at hb2
         split at hb2
         ·rename_i hcond;simp only [Option.some.injEq] at hb2;subst hb2;exact hcond
         ·simp at hb2
        obtain ⟨vv,hvv⟩:∃vv,vv=ρv x:=⟨_,rfl⟩
        rw [←hvv] at hv
        have hdd:=alive hm hB
        have hlen:=hm.len id B hB (by have:=hv.own_sz hdd;omega)
        have hsl:∃A c,vv= .slice A n c∧n≤c∧E.ln id≤off+c:=by
         cases hv with
         |own hi' hd hbl hq hs hmm hl hcc hln=>exact ⟨_,_,rfl,hl,hln⟩
         |own0 hi' hd hbl hln=>exact ⟨_,_,rfl,Nat.le_refl _,by omega⟩
         |staleO hi' hd=>exact absurd hd hdd
        obtain ⟨A,c,rfl,hnc,hlc⟩:=hsl
        have hbr:=bounds_run (P:=P) (isS:=true) (cap:=c) ha (by omega) h1 h2 h3 k1 k2 k3 hmh hb2 (fun m hm=>by simp at hm)
        have hhi:∃oh,hi=some oh:=by
         rcases optNat_rep ha h2 k2 with ⟨_,h⟩|⟨oh,_,_,h,_,_⟩
         ·simp at h
         ·exact ⟨oh,h⟩
        obtain ⟨oh,rfl⟩:=hhi
        have hbr':(Instr.sliceBounds true n c (lo.map ρv) ((some oh).map ρv) (mx.map ρv)).run P E.w= .ok (b.1,b.2,c) E.w:=by
         have e:Instr.sliceBounds true n c (lo.map ρv) ((some oh).map ρv) (mx.map ρv)=Instr.sliceBounds true (B.els.length - off) c (lo.map ρv) ((some oh).map ρv) (mx.map ρv):=by
          cases mx<;>rfl
         rw [e];exact hbr
        exact pureOK hm (key A _ c b.1 b.2 c hvv.symm hbr') (ownCut hv hdd hbb.1 (by omega) (Nat.le_refl _) hlc)
    |some b=>
     have hbb:b.1≤b.2∧b.2≤n:=by
      unfold bounds at hb
      split at hb
      ·rename_i hcond;simp only [Option.some.injEq] at hb;subst hb;exact hcond
      ·simp at hb
     obtain ⟨vv,hvv⟩:∃vv,vv=ρv x:=⟨_,rfl⟩
     rw [←hvv] at hv
     have own:∀A c m,vv= .slice A n c→Rep E (.slice A n c) (.own id s off n)→b.2≤m→m≤c→E.ln id≤off+m→Rep E (.slice (if m=b.1 then A else A.map (·.add (b.1*s))) (b.2 - b.1) (m - b.1)) (.own id s (off+b.1) (b.2 - b.1)):=by
      intro A c m hvv' hr hm1 hm2 hlm
      cases hr with
      | @own _ _ _ _ _ bb q mm t' hi' hd hbl hq hs hmm hl hcc hln=>
       by_cases e1:m=b.1
       ·rw [if_pos e1]
        refine .own hi' hd hbl (.inr (by omega)) hs (Nat.le_trans (Nat.mul_le_mul_right _ (by omega)) hmm) (by omega) (by omega) (by omega)
       ·rw [if_neg e1]
        simp only [Option.map_some,Addr.add_lit]
        refine .own hi' hd hbl (.inl ?_) hs (Nat.le_trans (Nat.mul_le_mul_right _ (by omega)) hmm) (by omega) (by omega) (by omega)
        rcases hq with hq|hq
        ·rw [hq,Nat.add_mul]
        ·omega
      |own0 hi' hd hbl hln=>
       have hb1:b.1=0:=by omega
       have hb2:b.2=0:=by omega
       have hm0:m=0:=by omega
       simp only [hb1,hb2,hm0,Nat.sub_self,Nat.add_zero,if_true]
       exact .own0 hi' hd hbl hln
      |staleO hi' hd=>exact absurd hd (alive hm hB)
     have hsl:∃A c,vv= .slice A n c∧n≤c:=by
      cases hv with
      |own hi' hd hbl hq hs hmm hl hcc=>exact ⟨_,_,rfl,hl⟩
      |own0 hi' hd hbl=>exact ⟨_,_,rfl,Nat.le_refl _⟩
      |staleO hi' hd=>exact absurd hd (alive hm hB)
     obtain ⟨A,c,rfl,hnc⟩:=hsl
     cases nmx with
     |none=>
      simp [hb,RM.opt,RM.run] at h
      obtain ⟨rfl,rfl⟩:=h
      have hbr:=bounds_run (P:=P) (isS:=true) ha hnc h1 h2 h3 k1 k2 k3 hmh hb (fun m hm=>by simp at hm)
      refine pureOK hm (key A _ c b.1 b.2 c hvv.symm hbr) (own A c c rfl hv (by omega) (Nat.le_refl _) ?_)
      cases hv with
      |own hi' hd hbl hq hs hmm hl hcc hln=>exact hln
      |own0 hi' hd hbl hln=>omega
      |staleO hi' hd=>exact absurd hd (alive hm hB)
     |some m=>
      simp only [RM.run,hB,true_and] at h
      split at h
      rotate_left
      ·simp [RM.run] at h
      rename_i hlm
      simp only [hb,Option.bind_some] at h
      split at h
      ·rename_i hcond
       simp [RM.opt,RM.run] at h
       obtain ⟨rfl,rfl⟩:=h
       have hbr:=bounds_run (P:=P) (isS:=true) ha hnc h1 h2 h3 k1 k2 k3 hmh hb (fun m' hm'=>by simp at hm';subst hm';exact hcond)
       refine pureOK hm (key A _ c b.1 b.2 m hvv.symm hbr) ?_
       by_cases e1:m=b.1
       ·rw [if_pos e1,if_pos e1]
        rw [show b.2 - b.1=0 by omega,show m - b.1=0 by omega]
        exact .emp
       ·rw [if_neg e1]
        have:=own A c m rfl hv hcond.1 (by omega) (by rw [←hm.len id B hB (by have:=hv.own_sz (alive hm hB);omega)];exact hlm.2)
        rw [if_neg e1] at this
        rw [if_neg e1]
        exact this
      ·simp [RM.opt,RM.run] at h
  ·simp [RM.run] at h
 ·simp [RM.run] at h
end
open Go.RowKit
section
variable {P:Program} {E:Env} {J:Nat→Prop} {base:Nat} {g:Nat→Option Bk} {ρv:Operand→Value} {ρ:Arg→AV} {fresh:Nat}
def Els (E:Env) (sz:Nat) (news:List Value) (ys:List (List AV)):Prop:=
 news.length=ys.length*sz∧∀(i:Nat) cs,ys[i]? =some cs→cs.length=sz∧∀(j:Nat) x,cs[j]? =some x→∃u,news[i*sz+j]? =some u∧u.oneCell'=true∧Rep E u x
theorem Els.step {E E':Env} (hE:E.Le E') {sz:Nat} {news:List Value} {ys:List (List AV)} (h:Els E sz news ys):Els E' sz news ys:=
 ⟨h.1,fun i cs hi=>⟨(h.2 i cs hi).1,fun j x hj=>by obtain ⟨u,k1,k2,k3⟩:=(h.2 i cs hi).2 j x hj;exact ⟨u,k1,k2,k3.step hE⟩⟩⟩
theorem Els.append {E:Env} {sz:Nat} {n1 n2:List Value} {y1 y2:List (List AV)} (h1:Els E sz n1 y1) (h2:Els E sz n2 y2):Els E sz (n1++n2) (y1++y2):=by
 refine ⟨by simp [h1.1,h2.1,Nat.add_mul],fun i cs hi=> ?_⟩
 by_cases hl:i<y1.length
 ·rw [List.getElem?_append_left hl] at hi
  refine ⟨(h1.2 i cs hi).1,fun j x hj=> ?_⟩
  obtain ⟨u,k1,k2,k3⟩:=(h1.2 i cs hi).2 j x hj
  exact ⟨u,by rw [List.getElem?_append_left (List.getElem?_eq_some_iff.1 k1).1];exact k1,k2,k3⟩
 ·rw [List.getElem?_append_right (by omega)] at hi
  refine ⟨(h2.2 _ cs hi).1,fun j x hj=> ?_⟩
  obtain ⟨u,k1,k2,k3⟩:=(h2.2 _ cs hi).2 j x hj
  refine ⟨u, ?_,k2,k3⟩
  have hm:i*sz=y1.length*sz+(i - y1.length)*sz:=by rw [←Nat.add_mul];congr 1;omega
  rw [List.getElem?_append_right (by rw [h1.1,hm];omega),h1.1,hm,show y1.length*sz+(i - y1.length)*sz+j - y1.length*sz=(i - y1.length)*sz+j by omega]
  exact k1
theorem Els.all {E:Env} {sz:Nat} (hpos:0<sz) {news:List Value} {ys:List (List AV)} (h:Els E sz news ys):∀u,u∈news→u.oneCell'=true:=by
 intro u hu
 obtain ⟨k,hk,rfl⟩:=List.getElem_of_mem hu
 have hi:k / sz<ys.length:=by rw [h.1] at hk;exact Nat.div_lt_of_lt_mul (by rw [Nat.mul_comm];exact hk)
 have hel:=h.2 (k / sz) _ (List.getElem?_eq_getElem hi)
 have hj:k%sz<(ys[k / sz]).length:=by rw [hel.1];exact Nat.mod_lt _ hpos
 obtain ⟨u,k1,k2,_⟩:=hel.2 (k%sz) _ (List.getElem?_eq_getElem hj)
 have hdm:k / sz*sz+k%sz=k:=by rw [Nat.mul_comm];exact Nat.div_add_mod k sz
 rw [hdm,List.getElem?_eq_getElem hk] at k1
 simp only [Option.some.injEq] at k1
 rw [k1];exact k2
theorem content_run (hm:MemAt E J base g) {sz:Nat} (hpos:0<sz) {v:Value} {a:AV} (hv:Rep E v a) {ys:List (List AV)} (h:(content sz a).run g=some ys):
  ∃A c news,v= .slice A ys.length c∧Els E sz news ys∧(ys.length=0∨∃ad,A=some ad∧∀(j:Nat) u,news[j]? =some u→E.w.cell? (ad.add j)=some u):=by
 have lst:∀v els,Rep E v (.lst sz els)→∃A c news,v= .slice A els.length c∧Els E sz news els∧(els.length=0∨∃ad,A=some ad∧∀(j:Nat) u,news[j]? =some u→E.w.cell? (ad.add j)=some u):=by
  intro v els hr
  cases hr with
  |lst0 hc=>exact ⟨_,_,[],rfl,⟨by simp,fun i cs hi=>by simp at hi⟩, .inl rfl⟩
  | @lst1 b off n c _ _ u hn hl hc hb hz hu hr1 hr=>
   subst hn
   refine ⟨_,c,(List.range (els.length*sz)).map fun k=>u (k / sz) (k%sz),rfl,⟨by simp,fun i cs hi=>⟨hz i cs hi,fun j x hj=> ?_⟩⟩, .inr ⟨_,rfl,fun k y hk=> ?_⟩⟩
   ·have hjl:j<sz:=by have:=(List.getElem?_eq_some_iff.1 hj).1;rw [hz i cs hi] at this;exact this
    have hil:i<els.length:=(List.getElem?_eq_some_iff.1 hi).1
    have hfit:i*sz+sz≤els.length*sz:=by
     have:(i+1)*sz≤els.length*sz:=Nat.mul_le_mul_right _ (by omega)
     rw [Nat.add_mul] at this;omega
    have h1:(i*sz+j) / sz=i:=by rw [Nat.mul_comm,Nat.mul_add_div hpos,Nat.div_eq_of_lt hjl];rfl
    have h2:(i*sz+j)%sz=j:=by rw [Nat.mul_comm,Nat.mul_add_mod];exact Nat.mod_eq_of_lt hjl
    refine ⟨u i j, ?_,(hr1 i cs j x hi hj).1,hr i cs j x hi hj⟩
    rw [List.getElem?_map,List.getElem?_range (by omega)]
    simp [h1,h2]
   ·have hkl:k<els.length*sz:=by have:=(List.getElem?_eq_some_iff.1 hk).1;simpa using this
    rw [List.getElem?_map,List.getElem?_range hkl] at hk
    simp only [Option.map_some,Option.some.injEq] at hk
    subst hk
    have hi:k / sz<els.length:=Nat.div_lt_of_lt_mul (by rw [Nat.mul_comm];exact hkl)
    have hel:=List.getElem?_eq_getElem hi
    have hj:k%sz<(els[k / sz]).length:=by rw [hz _ _ hel];exact Nat.mod_lt _ hpos
    have:=hu _ _ _ _ hel (List.getElem?_eq_getElem hj)
    have hdm:k / sz*sz+k%sz=k:=by rw [Nat.mul_comm];exact Nat.div_add_mod k sz
    rw [Nat.add_assoc,hdm] at this
    rw [Addr.add_lit];exact this
 unfold content at h
 split at h
 ·rename_i s els
  split at h
  ·rename_i hs;subst hs
   simp only [RM.run,Option.some.injEq] at h;subst h
   exact lst _ _ hv
  ·simp [RM.run] at h
 ·rename_i s els
  split at h
  ·rename_i hs;subst hs
   simp only [RM.run,Option.some.injEq] at h;subst h
   cases hv with
   |tls hv=>exact lst _ _ hv
  ·simp [RM.run] at h
 ·simp only [RM.run,Option.some.injEq] at h;subst h
  cases hv with
  |emp=>exact ⟨_,_,[],rfl,⟨by simp,fun i cs hi=>by simp at hi⟩, .inl rfl⟩
 ·rename_i id s off n
  simp only [RM.run] at h
  cases hB:g id with
  |none=>simp [hB] at h
  |some B=>
   simp only [hB] at h
   split at h
   ·rename_i hc
    obtain ⟨h1,h2,h3⟩:=hc
    subst h1
    simp only [RM.run,Option.some.injEq] at h;subst h
    have hlen:((B.els.drop off).take n).length=n:=by simp;omega
    rw [hlen]
    cases hv with
    |staleO hi hd=>exact absurd hd (alive hm hB)
    | @own0 _ _ A hi hd hb=>exact ⟨_,_,[],rfl,⟨by simp,fun i cs hi=>by simp at hi⟩, .inl rfl⟩
    | @own _ _ _ _ c b q mm t' hi hd hb hq hs hmm hl hcc=>
     have hblk:=hm.at_ id B hB
     rw [hb] at hblk
     obtain ⟨hbase,arr,t,ha,hfit,hcells⟩:=hblk.cells (by first|assumption|omega)
     rw [h2] at hfit hcells
     refine ⟨_,c,(arr.toList.drop (off*s)).take (n*s),rfl,⟨?_,fun i cs hi=> ?_⟩, ?_⟩
     ·have:(off+n)*s≤arr.size:=Nat.le_trans (Nat.mul_le_mul_right _ h3) hfit
      rw [Nat.add_mul] at this
      simp [hlen];omega
     ·rw [List.getElem?_take] at hi
      split at hi
      ·rename_i hin
       rw [List.getElem?_drop] at hi
       refine ⟨(hcells _ cs hi).1,fun j x hj=> ?_⟩
       obtain ⟨u,k1,k2,k3⟩:=(hcells _ cs hi).2 j x hj
       have hjl:j<s:=by have:=(List.getElem?_eq_some_iff.1 hj).1;rw [(hcells _ cs hi).1] at this;exact this
       have hfit2:i*s+s≤n*s:=by
        have:(i+1)*s≤n*s:=Nat.mul_le_mul_right _ (by omega)
        rw [Nat.add_mul] at this;omega
       refine ⟨u, ?_,k2,k3⟩
       rw [List.getElem?_take,if_pos (by omega),List.getElem?_drop]
       rw [Nat.add_mul,Nat.add_assoc] at k1
       simpa using k1
      ·simp at hi
     ·rcases Nat.eq_zero_or_pos n with h0|h0
      ·exact .inl h0
      ·refine .inr ⟨_,rfl,fun j u hj=> ?_⟩
       have hq':q=off*s:=by
        rcases hq with hq|hq
        ·exact hq
        ·omega
       subst hq'
       rw [Addr.add_lit,cell_of_row _ _ _ _ _ _ ha]
       rw [List.getElem?_take] at hj
       split at hj
       ·rw [List.getElem?_drop] at hj
        simpa using hj
       ·simp at hj
   ·simp [RM.run] at h
 ·simp [RM.run] at h
end
open Go.RowKit
section
variable {P:Program} {E:Env} {J:Nat→Prop} {base:Nat} {g:Nat→Option Bk} {ρv:Operand→Value} {ρ:Arg→AV} {fresh:Nat}
theorem MemAt.drew (hm:MemAt E J base g):∃E':Env,E'.w=E.w.drew∧E.Le E'∧MemAt E' J base g∧(∀id,E'.kn id→E.kn id)∧(∀id,E'.kn id↔E.kn id)∧E'.loc=E.loc∧E'.dead=E.dead:=by
 let E':Env:={ E with w:=E.w.drew }
 have hE:E.Le E':=⟨fun _ h=>h,fun b hb=>⟨hb,rfl⟩,fun _ _ h=>h,fun _ _ _=> .inr rfl,fun _ _ _ _ _=> .inr rfl,fun _ _ _=> .inr rfl,fun _ h=>h,fun _ h=>⟨h,rfl⟩⟩
 exact ⟨E',rfl,hE,⟨hm.live,fun id B hg=>(hm.at_ id B hg).keep hE fun _ _=>rfl,hm.apart,hm.out,hm.low,hm.size,hm.len,hm.rgb,hm.xo⟩,fun _ h=>h,fun _=>Iff.rfl,rfl,rfl⟩
theorem MemAt.move (hm:MemAt E J base g) (hf:¬E.kn fresh) (id:Nat) (B B':Bk) (hg:g id=some B) (w':World) (hw:∀k,(∀b,E.loc id=some b→k≠b)→w'.heap[k]? =E.w.heap[k]?) (hsz:w'.heap.size=E.w.heap.size)
  (hsh:∀b,E.loc id=some b→w'.shape? b=E.w.shape? b) (hB:∀E':Env,E.Le E'→E'.w=w'→BlkAt E' base B' (E.loc id)):
  ∃E':Env,E'.w=w'∧E.Le E'∧MemAt E' J base (gput g [(id,none),(fresh,some B')])∧E'.kn fresh∧¬E'.dead fresh∧E'.loc fresh=E.loc id∧(∀k,E'.kn k→E.kn k∨k=fresh)∧E'.ln fresh=B'.els.length:=by
 have hid:E.kn id∧¬E.dead id:=(hm.live id).2 ⟨B,hg⟩
 have hne:∀k,E.kn k→k≠fresh:=fun k hi he=>hf (he▸hi)
 have hif:=hne id hid.1
 let E':Env:={ w:=w',kn:=fun k=>E.kn k∨k=fresh,loc:=fun k=>if k=fresh then E.loc id else E.loc k,dead:=fun k=>(E.dead k∨k=id)∧k≠fresh,I:=E.I,ln:=fun k=>if k=fresh then B'.els.length else E.ln k,rg:=E.rg,X:=E.X }
 have hE:E.Le E':=by
  refine ⟨fun _ h=> .inl h,fun k hk=>⟨hk, ?_⟩,fun k hi hd=>⟨.inl hd,hne k hi⟩,fun k hi hd=> .inr (if_neg (hne k hi)),fun k b hi hd hb=> ?_,fun k hi hd=> .inr (if_neg (hne k hi)),fun _ h=>h,fun k hk=>⟨hk,hw k fun b hb he=>(hm.xo k hk).2.2 id B hg (he▸hb)⟩⟩
  ·exact hw k fun b hb he=>hm.out id b B hg hb (he▸hk)
  ·by_cases hki:k=id
   ·subst hki;exact .inl ⟨.inr rfl,hif⟩
   ·right
    obtain ⟨Bk,hBk⟩:=(hm.live k).1 ⟨hi,hd⟩
    have:=hw b fun b' hb' he=>hki (hm.apart k id b Bk B hBk hg hb (he▸hb'))
    show w'.shape? b=_
    simp only [World.shape?,this]
 have hput:∀k,gput g [(id,none),(fresh,some B')] k=if k=fresh then some B' else if k=id then none else g k:=by
  intro k
  simp only [gput]
 refine ⟨E',rfl,hE,⟨fun k=> ?_,fun k Bk hk=> ?_,fun k k' b B1 B2 h1 h2 h3 h4=> ?_,fun k b B1 hk hb hI=> ?_,fun k hk=> ?_, ?_,fun k B1 hk hzz=> ?_,hm.rgb,fun b hb=>⟨by show b<w'.heap.size;rw [hsz];exact (hm.xo b hb).1,(hm.xo b hb).2.1,fun k B1 hk he=> ?_⟩⟩, .inr rfl,fun hd=>hd.2 rfl,if_pos rfl,fun k hk=>hk,if_pos rfl⟩
 ·rw [hput]
  by_cases h1:k=fresh
  ·subst h1;simp [E']
  ·by_cases h2:k=id
   ·subst h2;simp [E',h1]
   ·simp only [h1,h2,if_false, ←hm.live k]
    simp [E',h1,h2]
 ·rw [hput] at hk
  by_cases h1:k=fresh
  ·subst h1
   simp only [if_true,Option.some.injEq] at hk
   subst hk
   show BlkAt E' base B' (if k=k then _ else _)
   rw [if_pos rfl]
   exact hB E' hE rfl
  ·rw [if_neg h1] at hk
   by_cases h2:k=id
   ·rw [if_pos h2] at hk;simp at hk
   ·rw [if_neg h2] at hk
    show BlkAt E' base Bk (if k=fresh then _ else _)
    rw [if_neg h1]
    exact (hm.at_ k Bk hk).keep hE fun b hb=>hw b fun b' hb' he=>h2 (hm.apart k id b Bk B hk hg hb (he▸hb'))
 ·rw [hput] at h1 h2
  have e3:(if k=fresh then E.loc id else E.loc k)=some b:=h3
  have e4:(if k'=fresh then E.loc id else E.loc k')=some b:=h4
  by_cases a1:k=fresh<;>by_cases a2:k'=fresh
  ·rw [a1,a2]
  ·rw [if_pos a1] at e3;rw [if_neg a2] at e4 h2
   by_cases a3:k'=id
   ·rw [if_pos a3] at h2;simp at h2
   ·rw [if_neg a3] at h2
    exact absurd (hm.apart k' id b B2 B h2 hg e4 e3) a3
  ·rw [if_neg a1] at e3 h1;rw [if_pos a2] at e4
   by_cases a3:k=id
   ·rw [if_pos a3] at h1;simp at h1
   ·rw [if_neg a3] at h1
    exact absurd (hm.apart k id b B1 B h1 hg e3 e4) a3
  ·rw [if_neg a1] at e3 h1;rw [if_neg a2] at e4 h2
   by_cases a3:k=id
   ·rw [if_pos a3] at h1;simp at h1
   ·by_cases a4:k'=id
    ·rw [if_pos a4] at h2;simp at h2
    ·rw [if_neg a3] at h1;rw [if_neg a4] at h2
     exact hm.apart k k' b B1 B2 h1 h2 e3 e4
 ·rw [hput] at hk
  have e3:(if k=fresh then E.loc id else E.loc k)=some b:=hb
  by_cases a1:k=fresh
  ·rw [if_pos a1] at e3
   exact hm.out id b B hg e3 hI
  ·rw [if_neg a1] at e3 hk
   by_cases a3:k=id
   ·rw [if_pos a3] at hk;simp at hk
   ·rw [if_neg a3] at hk
    exact hm.out k b B1 hk e3 hI
 ·have:=hm.low k hk
  exact ⟨by show k<w'.heap.size;rw [hsz];exact this.1,this.2⟩
 ·show base≤w'.heap.size
  rw [hsz];exact hm.size
 ·rw [hput] at hk
  show _=if k=fresh then _ else _
  by_cases a1:k=fresh
  ·rw [if_pos a1] at hk ⊢
   simp only [Option.some.injEq] at hk;rw [hk]
  ·rw [if_neg a1] at hk ⊢
   by_cases a3:k=id
   ·rw [if_pos a3] at hk;simp at hk
   ·rw [if_neg a3] at hk
    exact hm.len k B1 hk hzz
 ·rw [hput] at hk
  have e3:(if k=fresh then E.loc id else E.loc k)=some b:=he
  by_cases a1:k=fresh
  ·rw [if_pos a1] at e3
   exact (hm.xo b hb).2.2 id B hg e3
  ·rw [if_neg a1] at e3 hk
   by_cases a3:k=id
   ·rw [if_pos a3] at hk;simp at hk
   ·rw [if_neg a3] at hk
    exact (hm.xo b hb).2.2 k B1 hk e3
theorem MemAt.phantom (hm:MemAt E J base g) (hf:¬E.kn fresh) (sz:Nat):
  ∃E':Env,E'.w=E.w∧E.Le E'∧MemAt E' J base (gput g [(fresh,some ⟨sz,[]⟩)])∧E'.kn fresh∧¬E'.dead fresh∧E'.loc fresh=none∧(∀k,E'.kn k→E.kn k∨k=fresh)∧E'.ln fresh=0:=by
 have hne:∀k,E.kn k→k≠fresh:=fun k hi he=>hf (he▸hi)
 let E':Env:={ w:=E.w,kn:=fun k=>E.kn k∨k=fresh,loc:=fun k=>if k=fresh then none else E.loc k,dead:=fun k=>E.dead k∧k≠fresh,I:=E.I,ln:=fun k=>if k=fresh then 0 else E.ln k,rg:=E.rg,X:=E.X }
 have hE:E.Le E':=⟨fun _ h=> .inl h,fun b hb=>⟨hb,rfl⟩,fun k hi hd=>⟨hd,hne k hi⟩,fun k hi hd=> .inr (if_neg (hne k hi)),fun _ _ _ _ _=> .inr rfl,fun k hi hd=> .inr (if_neg (hne k hi)),fun _ h=>h,fun _ h=>⟨h,rfl⟩⟩
 refine ⟨E',rfl,hE,⟨fun k=> ?_,fun k Bk hk=> ?_,fun k k' b B1 B2 h1 h2 h3 h4=> ?_,fun k b B1 hk hb hI=> ?_,hm.low,hm.size,fun k B1 hk hzz=> ?_,hm.rgb,fun b hb=>⟨(hm.xo b hb).1,(hm.xo b hb).2.1,fun k B1 hk he=> ?_⟩⟩, .inr rfl,fun hd=>hd.2 rfl,if_pos rfl,fun k hk=>hk,if_pos rfl⟩
 ·simp only [gput]
  by_cases h1:k=fresh
  ·subst h1;simp [E']
  ·simp only [h1,if_false, ←hm.live k]
   simp [E',h1]
 ·simp only [gput] at hk
  by_cases h1:k=fresh
  ·subst h1
   simp only [if_true,Option.some.injEq] at hk
   subst hk
   show BlkAt E' base _ (if k=k then _ else _)
   rw [if_pos rfl]
   rfl
  ·rw [if_neg h1] at hk
   show BlkAt E' base Bk (if k=fresh then _ else _)
   rw [if_neg h1]
   exact (hm.at_ k Bk hk).keep hE fun _ _=>rfl
 ·simp only [gput] at h1 h2
  have e3:(if k=fresh then none else E.loc k)=some b:=h3
  have e4:(if k'=fresh then none else E.loc k')=some b:=h4
  by_cases a1:k=fresh
  ·rw [if_pos a1] at e3;simp at e3
  ·by_cases a2:k'=fresh
   ·rw [if_pos a2] at e4;simp at e4
   ·rw [if_neg a1] at e3 h1;rw [if_neg a2] at e4 h2
    exact hm.apart k k' b B1 B2 h1 h2 e3 e4
 ·simp only [gput] at hk
  have e3:(if k=fresh then none else E.loc k)=some b:=hb
  by_cases a1:k=fresh
  ·rw [if_pos a1] at e3;simp at e3
  ·rw [if_neg a1] at e3 hk
   exact hm.out k b B1 hk e3 hI
 ·simp only [gput] at hk
  show _=if k=fresh then _ else _
  by_cases a1:k=fresh
  ·rw [if_pos a1] at hk ⊢
   simp only [Option.some.injEq] at hk;rw [←hk];rfl
  ·rw [if_neg a1] at hk ⊢
   exact hm.len k B1 hk hzz
 ·simp only [gput] at hk
  have e3:(if k=fresh then none else E.loc k)=some b:=he
  by_cases a1:k=fresh
  ·rw [if_pos a1] at e3;simp at e3
  ·rw [if_neg a1] at e3 hk
   exact (hm.xo b hb).2.2 k B1 hk e3
theorem bind_run {α β:Type} {g:Nat→Option Bk} {f:α→RM β} {y:β}:∀{m:RM α},(m.bind f).run g=some y→∃x,m.run g=some x∧(f x).run g=some y
 | .ret a,h=>⟨a,rfl,h⟩
 | .fail,h=>by simp [RM.bind,RM.run] at h
 | .rd id k,h=>by
  simp only [RM.bind,RM.run] at h ⊢
  cases hg:g id with
  |none=>simp [hg] at h
  |some B=>simp only [hg] at h ⊢; exact bind_run h
 | .lv id k,h=>by
  simp only [RM.bind,RM.run] at h ⊢
  cases hg:g id with
  |none=>simp [hg] at h
  |some B=>simp only [hg] at h ⊢; exact bind_run h
theorem grow_run {t ty e:TypeId} {i:TypeInfo} {z:Value} (ht:P.underlying t=some (.slice e)) (hi:P.info? e=some i) (hz:i.zero=some z) {sz:Nat} (hs:i.size=sz) (hcs:z.cells.size=sz) (hby:0<i.bytes)
  (hm:MemAt E J base g) {A:Option Addr} {n c:Nat} {olds:List Value} {es:List (List AV)} (ho:Els E sz olds es) (hn:n=es.length) (hA:n=0∨∃ad,A=some ad∧∀(j:Nat) u,olds[j]? =some u→E.w.cell? (ad.add j)=some u) (hA0:A=none→c=0)
  {ad:Addr} {m c2:Nat} {news:List Value} {ys:List (List AV)} (hy:Els E sz news ys) (hmy:m=ys.length) (hnews:∀(j:Nat) u,news[j]? =some u→E.w.cell? (ad.add j)=some u) (hpos:0<m) (hg:c<n+m) (hb:(n+m)*i.bytes≤140737488355328):
  ∃cap arr,(Builtin.append_ #[t,t] ty #[.slice A n c, .slice (some ad) m c2]).run P E.w= .ok (.slice (some ⟨E.w.heap.size,0,none⟩) (n+m) cap) (E.w.drew.alloc (.cells arr e))∧n+m≤cap∧cap≤9223372036854775807∧arr.size=cap*sz∧
   ∀(j:Nat) u,(olds++news)[j]? =some u→arr[j]? =some u:=by
 have hle:n+m≤(n+m)*i.bytes:=Nat.le_mul_of_pos_right _ hby
 have hol:olds.length=n*i.size:=by rw [ho.1,hn,hs]
 have hnl:news.length=m*i.size:=by rw [hy.1,hmy,hs]
 have hgc:=grownCap_ge E.w (n+m) c e
 have hgm:=grownCap_le_maxLen E.w (n+m) c e (by simp only [maxLen];omega)
 have hgm':grownCap E.w (n+m) c e≤9223372036854775807:=by simp only [maxLen] at hgm;omega
 have hsize:(olds.toArray++news.toArray++Builtin.zeroCells z.cells (grownCap E.w (n+m) c e - (n+m))).size=grownCap E.w (n+m) c e*sz:=by
  simp only [Array.size_append,List.size_toArray,size_zeroCells,hcs,hol,hnl,hs, ←Nat.add_mul]
  congr 1;omega
 refine ⟨grownCap E.w (n+m) c e,_, ?_,hgc,hgm',hsize,fun j u hj=> ?_⟩
 ·cases A with
  |some a=>
   refine run_append_grow (P:=P) E.w t ty e i z ht hi hz a n c olds hol ?_ ad m c2 news hnl hnews hg (by omega) (growslice_fits hg hb)
   rcases hA with h0|⟨ad',h1,h2⟩
   ·intro j v hj
    have:olds.length=0:=by rw [hol,h0];simp
    have h0':=List.eq_nil_of_length_eq_zero this
    subst h0';simp at hj
   ·simp only [Option.some.injEq] at h1;subst h1;exact h2
  |none=>
   have hc0:=hA0 rfl
   have hn0:n=0:=by
    rcases hA with h0|⟨_,h1,_⟩
    ·exact h0
    ·simp at h1
   have hole:olds=[]:=List.eq_nil_of_length_eq_zero (by rw [hol,hn0];simp)
   have hbb:=hb
   rw [hn0,Nat.zero_add] at hbb
   have hr:=run_append_nil (P:=P) E.w t ty e i z ht hi hz ad m c2 news hnl hnews hpos (by omega) (by omega)
   rw [hn0,hc0,hole]
   simpa using hr
 ·have hjl:j<(olds++news).length:=(List.getElem?_eq_some_iff.1 hj).1
  rw [Array.getElem?_append_left (by simpa using hjl)]
  simpa using hj
theorem grownOK (hm:MemAt E J base g) (hf:¬E.kn fresh) {e:TypeId} {sz n cap:Nat} {arr:Array Value} {olds:List Value} {els:List (List AV)} (hn:n=els.length) (hels:Els E sz olds els) (hcap:n≤cap) (hcm:cap≤9223372036854775807) (hsz:arr.size=cap*sz) (hget:∀(j:Nat) u,olds[j]? =some u→arr[j]? =some u)
  {r:Result Next} (hr:r= .ok (.value (.slice (some ⟨E.w.heap.size,0,none⟩) n cap)) (E.w.drew.alloc (.cells arr e))) (hz:sz≠0:=by first|assumption|omega):OpOK E J base g r (.own fresh sz 0 n) [(fresh,some ⟨sz,els⟩)]:=by
 obtain ⟨E1,hw1,hE1,hM1,_,hkn1,hl1,hd1⟩:=hm.drew
 obtain ⟨E',hw,hE,hM,k1,k2,k3,k4,k5⟩:=hM1.alloc fresh (fun h=>hf ((hkn1 _).1 h)) arr e ⟨sz,els⟩ (fun E' hE=>by
  refine ⟨by rw [hsz, ←hn];exact Nat.mul_le_mul_right _ hcap,fun i cs hi=>⟨(hels.2 i cs hi).1,fun j x hj=> ?_⟩⟩
  obtain ⟨u,m1,m2,m3⟩:=(hels.2 i cs hi).2 j x hj
  exact ⟨u,hget _ _ m1,m2,m3.step (hE1.trans hE)⟩) hz
 rw [hw1] at hw
 refine ⟨_, .slice (some ⟨E.w.heap.size,0,none⟩) n cap,E',by rw [hw];exact hr, .inl rfl,hE1.trans hE, ?_,hM, ?_,fun id hi=> ?_⟩
 ·refine .own k1 k2 (b:=E.w.heap.size) (by rw [k3,hw1];rfl) (.inl (by simp)) (t:=e) (m:=arr.size) ?_ (by rw [hsz];simp) hcap hcm (by rw [k5];dsimp only;omega)
  rw [hw]
  unfold World.shape?
  rw [show E.w.heap.size=E.w.drew.heap.size from rfl,heap_alloc_new]
 ·rw [hw]
  exact ((Below.refl _ _).drew).alloc (by simpa using hm.size) _
 ·rcases k4 id hi with h|h
  ·exact .inl ((hkn1 _).1 h)
  ·exact .inr (by simp [h])
theorem splice_get {α:Type} {cs ys:List α} {o:Nat} (h:o+ys.length≤cs.length) (j:Nat):(cs.take o++ys++cs.drop (o+ys.length))[j]? =if j<o then cs[j]? else if j<o+ys.length then ys[j - o]? else cs[j]? :=by
 rw [List.append_assoc,List.getElem?_append,List.length_take,Nat.min_eq_left (by omega)]
 by_cases h1:j<o
 ·simp [h1]
 ·rw [if_neg h1,if_neg h1,List.getElem?_append]
  by_cases h2:j<o+ys.length
  ·rw [if_pos (by omega),if_pos h2]
  ·rw [if_neg (by omega),if_neg h2,List.getElem?_drop]
   congr 1;omega
theorem blkWrite (hm:MemAt E J base g) {id b:Nat} {B:Bk} (hB:g id=some B) (hl:E.loc id=some b) {news:List Value} {ys:List (List AV)} (hels:Els E B.sz news ys) (hpos:0<B.sz) {off:Nat} (hfit:off+ys.length≤B.els.length):
  ∃E',(storeCells ⟨b,off*B.sz,none⟩ news).run P E.w= .ok () E'.w∧E.Le E'∧MemAt E' J base (gput g [(id,some ⟨B.sz,B.els.take off++ys++B.els.drop (off+ys.length)⟩)])∧Below base E.w E'.w∧(∀k,E'.kn k→E.kn k):=by
 have hblk:=hm.at_ id B hB
 rw [hl] at hblk
 obtain ⟨hbase,arr,t,ha,hlen,hcells⟩:=hblk.cells (by first|assumption|omega)
 have hnl:news.length=ys.length*B.sz:=hels.1
 have hfit2:off*B.sz+news.length≤arr.size:=by
  rw [hnl, ←Nat.add_mul]
  exact Nat.le_trans (Nat.mul_le_mul_right _ hfit) hlen
 have hst:=run_storeCells_fr P b (off*B.sz) t.1 t.2 news 0 arr E.w ha (by simpa using hfit2) (hels.all hpos)
 simp only [Nat.add_zero] at hst
 obtain ⟨E',hw,hE,hM,hkn⟩:=hm.set id b B ⟨B.sz,B.els.take off++ys++B.els.drop (off+ys.length)⟩ hB hl arr
  (arr.toList.take (off*B.sz)++news++arr.toList.drop (off*B.sz+news.length)).toArray t ha (by simp;omega) (by simp;omega) (fun E' hE=>by
   refine ⟨by simp;rw [show min off B.els.length+(ys.length+(B.els.length - (off+ys.length)))=B.els.length by omega];exact hlen,fun i cs hi=> ?_⟩
   dsimp only at hi ⊢
   rw [splice_get hfit] at hi
   have hget:∀k,(arr.toList.take (off*B.sz)++news++arr.toList.drop (off*B.sz+news.length)).toArray[k]? =if k<off*B.sz then arr[k]? else if k<off*B.sz+news.length then news[k - off*B.sz]? else arr[k]? :=by
    intro k
    rw [List.getElem?_toArray,splice_get (by simpa using hfit2)]
    simp
   have old:B.els[i]? =some cs→(i<off∨off+ys.length≤i)→cs.length=B.sz∧∀(j:Nat) x,cs[j]? =some x→∃u,(arr.toList.take (off*B.sz)++news++arr.toList.drop (off*B.sz+news.length)).toArray[i*B.sz+j]? =some u∧u.oneCell'=true∧Rep E' u x:=by
    intro hi hor
    refine ⟨(hcells i cs hi).1,fun j x hj=> ?_⟩
    obtain ⟨u,k1,k2,k3⟩:=(hcells i cs hi).2 j x hj
    have hjl:j<B.sz:=by rw [←(hcells i cs hi).1];exact (List.getElem?_eq_some_iff.1 hj).1
    refine ⟨u, ?_,k2,k3.step hE⟩
    rw [hget]
    rcases hor with h1|h1
    ·have:(i+1)*B.sz≤off*B.sz:=Nat.mul_le_mul_right _ (by omega)
     rw [Nat.add_mul] at this
     rw [if_pos (by omega)];exact k1
    ·have:(off+ys.length)*B.sz≤i*B.sz:=Nat.mul_le_mul_right _ h1
     rw [Nat.add_mul] at this
     rw [if_neg (by omega),if_neg (by omega)];exact k1
   by_cases h1:i<off
   ·rw [if_pos h1] at hi;exact old hi (.inl h1)
   ·rw [if_neg h1] at hi
    by_cases h2:i<off+ys.length
    ·rw [if_pos h2] at hi
     refine ⟨(hels.2 _ cs hi).1,fun j x hj=> ?_⟩
     obtain ⟨u,m1,m2,m3⟩:=(hels.2 _ cs hi).2 j x hj
     have hjl:j<B.sz:=by rw [←(hels.2 _ cs hi).1];exact (List.getElem?_eq_some_iff.1 hj).1
     refine ⟨u, ?_,m2,m3.step hE⟩
     rw [hget]
     have e1:off*B.sz≤i*B.sz:=Nat.mul_le_mul_right _ (by omega)
     have e2:(i - off)*B.sz=i*B.sz - off*B.sz:=Nat.sub_mul _ _ _
     rw [if_neg (by omega),if_pos (by have:=(List.getElem?_eq_some_iff.1 m1).1;omega),show i*B.sz+j - off*B.sz=(i - off)*B.sz+j by omega]
     exact m1
    ·rw [if_neg h2] at hi
     exact old hi (.inr (by omega)))
 refine ⟨E',by rw [hw];exact hst,hE,hM, ?_,hkn⟩
 rw [hw]
 exact ⟨rfl,rfl,rfl,by simp [World.setRow],fun k hk=>setRow_other _ _ _ _ (by omega)⟩
theorem gput_same {g:Nat→Option Bk} {id:Nat} {B:Bk} (h:g id=some B):gput g [(id,some B)]=g:=by
 funext k
 simp only [gput]
 by_cases hk:k=id
 ·subst hk;rw [if_pos rfl,h]
 ·rw [if_neg hk]
theorem gput_none {g:Nat→Option Bk} {fresh:Nat} (h:g fresh=none):gput g [(fresh,none)]=g:=by
 funext k
 simp only [gput]
 by_cases hk:k=fresh
 ·subst hk;rw [if_pos rfl,h]
 ·rw [if_neg hk]
theorem gput_two {g:Nat→Option Bk} {id fresh:Nat} {B B':Bk} (hB:g id=some B) (h:g fresh=none):gput g [(id,some B'),(fresh,none)]=gput g [(id,some B')]:=by
 have:gput g [(id,some B'),(fresh,none)]=gput (gput g [(id,some B')]) [(fresh,none)]:=rfl
 rw [this]
 refine gput_none ?_
 simp only [gput]
 by_cases hk:fresh=id
 ·subst hk;rw [hB] at h;simp at h
 ·rw [if_neg hk];exact h
theorem fresh_none (hm:MemAt E J base g) (hf:¬E.kn fresh):g fresh=none:=by
 cases h:g fresh with
 |none=>rfl
 |some B=>exact absurd ((hm.live fresh).2 ⟨B,h⟩).1 hf
theorem appInOK (hm:MemAt E J base g) (hf:¬E.kn fresh) {t e ty:TypeId} {i:TypeInfo} {sz:Nat} (ht:P.underlying t=some (.slice e)) (hi:P.info? e=some i) (hs:i.size=sz) (hpos:0<sz) {vs:Value} {id off n:Nat} (hvs:Rep E vs (.own id sz off n)) {A2:Option Addr} {c2:Nat} {news:List Value} {ys:List (List AV)}
  (hels:Els E sz news ys) (hsrc:ys.length=0∨∃ad,A2=some ad∧∀(j:Nat) u,news[j]? =some u→E.w.cell? (ad.add j)=some u) {B:Bk} (hB:g id=some B) (hBs:B.sz=sz) (hfit:off+n+ys.length≤B.els.length)
  (stay:∀A n c,vs= .slice A n c→n≤c→ys.length=0→(Builtin.append_ #[t,t] ty #[vs, .slice A2 ys.length c2]).run P E.w= .ok vs E.w):
  OpOK E J base g ((do pure (Next.value (←Builtin.append_ #[t,t] ty #[vs, .slice A2 ys.length c2])):Sem Next).run P E.w) (.own id sz off (n+ys.length)) [(id,some ⟨B.sz,B.els.take (off+n)++ys++B.els.drop (off+n+ys.length)⟩),(fresh,none)]:=by
 rw [OpOK,gput_two hB (fresh_none hm hf)]
 have hlen:=hm.len id B hB (by omega)
 rcases Nat.eq_zero_or_pos ys.length with h0|h0
 ·have hy0:ys=[]:=List.eq_nil_of_length_eq_zero h0
  have hBB:(⟨B.sz,B.els.take (off+n)++ys++B.els.drop (off+n+ys.length)⟩:Bk)=B:=by
   rw [hy0];simp
  rw [hBB,gput_same hB]
  obtain ⟨A,c,rfl,hnc⟩:∃A c,vs= .slice A n c∧n≤c:=by
   cases hvs with
   |own hi' hd hbl hq hs' hmm hl hcc=>exact ⟨_,_,rfl,hl⟩
   |own0 hi' hd hbl=>exact ⟨_,_,rfl,Nat.le_refl _⟩
   |staleO hi' hd=>exact absurd hd (alive hm hB)
  refine ⟨_, .slice A n c,E,by simp [stay A n c rfl hnc h0], .inl rfl,Env.Le.refl E,by rw [h0];exact hvs,hm,Below.refl _ _,fun _ h=> .inl h⟩
 ·obtain ⟨ad,rfl,hnews⟩:=hsrc.resolve_left (by omega)
  have hvs0:=hvs
  cases hvs with
  |staleO hi' hd=>exact absurd hd (alive hm hB)
  |own0 hi' hd hb hln=>omega
  | @own _ _ _ _ c b q mm t' hi' hd hbl hq hs' hmm hl hcc hln=>
   have hroom:n+ys.length≤c:=by omega
   have hq':q=off*sz:=by
    rcases hq with hq|hq
    ·exact hq
    ·omega
   subst hq'
   subst hBs
   obtain ⟨E',hst,hE,hM,hbel,hkn⟩:=blkWrite (P:=P) hm hB hbl hels hpos hfit
   have hf2:=run_firstCells_some (P:=P) E.w i.size ys.length ad ys.length c2 news (by rw [hels.1,hs]) hnews
   rw [hs] at hf2
   have hlive:=(hM.live id).2 ⟨⟨B.sz,B.els.take (off+n)++ys++B.els.drop (off+n+ys.length)⟩,by simp [gput]⟩
   have hr':=hvs0.step hE
   refine ⟨_, .slice (some ⟨b,off*B.sz,none⟩) (n+ys.length) c,E', ?_, .inl rfl,hE, ?_,hM,hbel,fun id' hi'=> .inl (hkn _ hi')⟩
   ·rw [Nat.add_mul] at hst
    simp [Builtin.append_,run_underlying ht,sizeOf,typeInfo,hi,Builtin.lenOf,hroom,hf2,Addr.add_lit,hs,hst]
   ·cases hr' with
    |staleO hi' hd=>exact absurd hd hlive.2
    |own0=>omega
    |own a1 a2 a3 a4 a5 a6 a7 a8 a9=>exact .own a1 a2 a3 a4 a5 a6 hroom a8 a9
theorem clrOK (hm:MemAt E J base g) {t e ty:TypeId} {zs:List AV} (ht:P.underlying t=some (.slice e)) (hz:zerosOf P e=some zs) (hpos:0<zs.length) {vx:Value} {x:Arg} (hvx:Rep E vx (ρ x)) {val:AV} {ups:List (Nat×Option Bk)}
  (h:((AO.clr zs x).sem fresh ρ).run g=some (.done val ups)):OpOK E J base g ((do pure (Next.value (←Builtin.clear_ #[t] ty #[vx])):Sem Next).run P E.w) val ups:=by
 obtain ⟨i,z,hi,hzz,hs,hcs,hone,hrep⟩:=zerosOf_run hz
 simp only [AO.sem] at h
 split at h
 ·rename_i hx
  rw [hx] at hvx
  simp only [RM.run,Option.some.injEq,Out.done.injEq] at h
  obtain ⟨rfl,rfl⟩:=h
  cases hvx with
  | @emp A=>
   refine pureOK hm (v:= .tuple #[]) ?_ (.v rfl)
   cases A<;>simp [Builtin.clear_,run_underlying ht]
 ·rename_i id s off n hx
  rw [hx] at hvx
  simp only [RM.run] at h
  cases hB:g id with
  |none=>simp [hB] at h
  |some B=>
   simp only [hB] at h
   split at h
   ·rename_i hc
    obtain ⟨rfl,hBs,hfit⟩:=hc
    simp only [RM.run,Option.some.injEq,Out.done.injEq] at h
    obtain ⟨rfl,rfl⟩:=h
    have nothing:n=0→OpOK E J base g (.ok (.value (.tuple #[])) E.w) (.v undef) [(id,some ⟨B.sz,B.els.take off++List.replicate n zs++B.els.drop (off+n)⟩)]:=by
     intro h0
     have hBB:(⟨B.sz,B.els.take off++List.replicate n zs++B.els.drop (off+n)⟩:Bk)=B:=by subst h0;simp
     rw [hBB,OpOK,gput_same hB]
     exact ⟨_, .tuple #[],E,rfl, .inl rfl,Env.Le.refl E, .v rfl,hm,Below.refl _ _,fun _ h=> .inl h⟩
    cases hvx with
    |staleO hi' hd=>exact absurd hd (alive hm hB)
    | @own0 _ _ A hi' hd hb hln=>
     have:=nothing rfl
     cases A<;>simpa [Builtin.clear_,run_underlying ht] using this
    | @own _ _ _ _ c b q mm t' hi' hd hbl hq hs' hmm hl hcc hln=>
     rcases Nat.eq_zero_or_pos n with h0|h0
     ·have:=nothing h0
      subst h0
      simpa [Builtin.clear_,run_underlying ht] using this
     ·have hq':q=off*zs.length:=by
       rcases hq with hq|hq
       ·exact hq
       ·omega
      subst hq'
      have hels:Els E B.sz (Builtin.zeroCells z.cells n).toList (List.replicate n zs):=by
       rw [hBs]
       refine ⟨by simp [size_zeroCells,hcs],fun i' cs hi'=> ?_⟩
       have hil:i'<n:=by have:=(List.getElem?_eq_some_iff.1 hi').1;simpa using this
       simp [hil] at hi'
       subst hi'
       refine ⟨rfl,fun j x hj=> ?_⟩
       have hjl:j<zs.length:=(List.getElem?_eq_some_iff.1 hj).1
       have hjz:j<z.cells.size:=by omega
       have hfit3:i'*zs.length+zs.length≤n*zs.length:=by
        have:(i'+1)*zs.length≤n*zs.length:=Nat.mul_le_mul_right _ (by omega)
        rw [Nat.add_mul] at this;omega
       have hmod:(i'*zs.length+j)%z.cells.size=j:=by rw [hcs,Nat.mul_comm,Nat.mul_add_mod];exact Nat.mod_eq_of_lt hjl
       refine ⟨z.cells[j], ?_, ?_,hrep E j _ x (Array.getElem?_eq_getElem hjz) hj⟩
       ·rw [Array.getElem?_toList,Array.getElem?_eq_getElem (by simp only [size_zeroCells,hcs];omega)]
        simp [Builtin.zeroCells,hmod,hjz]
       ·refine (hrep E j _ x (Array.getElem?_eq_getElem hjz) hj).one ?_
        simp only [List.all_eq_true] at hone
        have:=(List.getElem?_eq_some_iff.1 hj).2
        rw [←this];exact hone _ (List.getElem_mem _)
      obtain ⟨E',hst,hE,hM,hbel,hkn⟩:=blkWrite (P:=P) hm hB hbl hels (by omega) (off:=off) (by simpa using hfit)
      simp only [List.length_replicate] at hM
      refine ⟨_, .tuple #[],E', ?_, .inl rfl,hE, .v rfl,hM,hbel,fun id' hi'=> .inl (hkn _ hi')⟩
      rw [hBs] at hst
      obtain ⟨n',rfl⟩:∃n',n=n'+1:=⟨n - 1,by omega⟩
      simp [Builtin.clear_,run_underlying ht,zeroValue,typeInfo,hi,hzz,hst]
   ·simp [RM.run] at h
 ·simp [RM.run] at h
theorem cpyOK (hm:MemAt E J base g) {t u e ty:TypeId} {sz:Nat} (ht:P.underlying t=some (.slice e)) (hz:szOf P e=some sz) (hpos:0<sz) {vx vy:Value} {x y:Arg} (hvx:Rep E vx (ρ x)) (hvy:Rep E vy (ρ y)) {val:AV} {ups:List (Nat×Option Bk)}
  (h:((AO.cpy sz x y).sem fresh ρ).run g=some (.done val ups)) (ats:Array TypeId) (hat:ats[0]? =some t):OpOK E J base g ((do pure (Next.value (←Builtin.copy_ ats ty #[vx,vy])):Sem Next).run P E.w) val ups:=by
 have hszr:=szOf_run hz E.w
 simp only [AO.sem] at h
 have hbr:=bind_run h
 clear h
 obtain ⟨ys,hys,h⟩:=hbr
 obtain ⟨A2,c2,news,rfl,hels,hsrc⟩:=content_run hm hpos hvy hys
 split at h
 ·rename_i id s off n hx
  rw [hx] at hvx
  simp only [RM.run] at h
  cases hB:g id with
  |none=>simp [hB] at h
  |some B=>
   simp only [hB] at h
   split at h
   ·rename_i hc
    obtain ⟨rfl,hBs,hfit⟩:=hc
    simp only [RM.run,Option.some.injEq,Out.done.injEq] at h
    obtain ⟨rfl,rfl⟩:=h
    have hmin:Nat.min ys.length n=min ys.length n:=rfl
    have nothing:min ys.length n=0→OpOK E J base g (.ok (.value (goInt 0)) E.w) (.v (goInt (min ys.length n:Nat))) [(id,some ⟨B.sz,B.els.take off++ys.take n++B.els.drop (off+min ys.length n)⟩)]:=by
     intro h0
     have hy:ys.take n=[]:=by
      apply List.eq_nil_of_length_eq_zero;rw [List.length_take];omega
     have hBB:(⟨B.sz,B.els.take off++ys.take n++B.els.drop (off+min ys.length n)⟩:Bk)=B:=by rw [hy,h0];simp
     rw [hBB,OpOK,gput_same hB,h0]
     exact ⟨_,goInt 0,E,rfl, .inl rfl,Env.Le.refl E, .v rfl,hm,Below.refl _ _,fun _ h=> .inl h⟩
    have hf0:∀A c,(Builtin.firstCells s 0 (.slice A ys.length c)).run P E.w= .ok #[] E.w:=by
     intro A c
     cases A with
     |none=>simp [Builtin.firstCells]
     |some a=>simp [Builtin.firstCells,loadCells,loadCellsFrom]
    have none':∀A c,vx= .slice A n c→min ys.length n=0→(do pure (Next.value (←Builtin.copy_ ats ty #[vx, .slice A2 ys.length c2])):Sem Next).run P E.w= .ok (.value (goInt 0)) E.w:=by
     intro A c hv h0
     have h0':Nat.min ys.length n=0:=h0
     subst hv
     cases A with
     |none=>simp [Builtin.copy_,hat,run_underlying ht,hszr,Builtin.lenOf,h0',hf0]
     |some a=>simp [Builtin.copy_,hat,run_underlying ht,hszr,Builtin.lenOf,h0',hf0,storeCells]
    cases hvx with
    |staleO hi' hd=>exact absurd hd (alive hm hB)
    | @own0 _ _ A hi' hd hb hln=>
     rw [none' A 0 rfl (by omega)];exact nothing (by omega)
    | @own _ _ _ _ c b q mm t' hi' hd hbl hq hs' hmm hl hcc hln=>
     rcases Nat.eq_zero_or_pos (min ys.length n) with h0|h0
     ·rw [none' _ c rfl h0];exact nothing h0
     ·have hq':q=off*s:=by
       rcases hq with hq|hq
       ·exact hq
       ·omega
      subst hq'
      obtain ⟨ad,rfl,hnews⟩:=hsrc.resolve_left (by omega)
      subst hBs
      have htl:(ys.take n).length=min ys.length n:=by rw [List.length_take];omega
      have hels2:Els E B.sz (news.take (min ys.length n*B.sz)) (ys.take n):=by
       have hle:min ys.length n*B.sz≤ys.length*B.sz:=Nat.mul_le_mul_right _ (by omega)
       refine ⟨by rw [htl,List.length_take,hels.1];omega,fun i cs hi=> ?_⟩
       rw [List.getElem?_take] at hi
       split at hi
       ·rename_i hin
        have hil:=(List.getElem?_eq_some_iff.1 hi).1
        refine ⟨(hels.2 i cs hi).1,fun j x hj=> ?_⟩
        obtain ⟨u,m1,m2,m3⟩:=(hels.2 i cs hi).2 j x hj
        have hjl:j<B.sz:=by rw [←(hels.2 i cs hi).1];exact (List.getElem?_eq_some_iff.1 hj).1
        have hfit2:i*B.sz+B.sz≤min ys.length n*B.sz:=by
         have:(i+1)*B.sz≤min ys.length n*B.sz:=Nat.mul_le_mul_right _ (by omega)
         rw [Nat.add_mul] at this;omega
        exact ⟨u,by rw [List.getElem?_take,if_pos (by omega)];exact m1,m2,m3⟩
       ·simp at hi
      obtain ⟨E',hst,hE,hM,hbel,hkn⟩:=blkWrite (P:=P) hm hB hbl hels2 hpos (off:=off) (by rw [htl];omega)
      rw [htl] at hM
      have hf2:=run_firstCells_some (P:=P) E.w B.sz (min ys.length n) ad ys.length c2 (news.take (min ys.length n*B.sz)) (by rw [hels2.1,htl]) (fun j u hj=>by
       rw [List.getElem?_take] at hj
       split at hj
       ·exact hnews j u hj
       ·simp at hj)
      refine ⟨_,goInt (min ys.length n:Nat),E', ?_, .inl rfl,hE, .v rfl,hM,hbel,fun id' hi'=> .inl (hkn _ hi')⟩
      have hf3:(Builtin.firstCells B.sz (Nat.min ys.length n) (.slice (some ad) ys.length c2)).run P E.w=_:=hf2
      simp [Builtin.copy_,hat,run_underlying ht,hszr,Builtin.lenOf,hf3,hst]
   ·simp [RM.run] at h
 ·simp [RM.run] at h
theorem appOK (hm:MemAt E J base g) (hf:¬E.kn fresh) {t e ty:TypeId} {i:TypeInfo} {zs:List AV} (ht:P.underlying t=some (.slice e)) (hz:zerosOf P e=some zs) (hi:P.info? e=some i) (hpos:0<zs.length) (hby:0<i.bytes) {vs vx:Value} {s x:Arg} (hvs:Rep E vs (ρ s)) (hvx:Rep E vx (ρ x))
  {val:AV} {ups:List (Nat×Option Bk)} (h:((AO.app zs.length i.bytes s x).sem fresh ρ).run g=some (.done val ups)):
  OpOK E J base g ((do pure (Next.value (←Builtin.append_ #[t,t] ty #[vs,vx])):Sem Next).run P E.w) val ups:=by
 obtain ⟨i',z,hi',hzz,hs,hcs,hone,hrep⟩:=zerosOf_run hz
 obtain rfl:i=i':=by rw [hi] at hi';simpa using hi'
 simp only [AO.sem] at h
 obtain ⟨ys,hys,h⟩:=bind_run h
 obtain ⟨A2,c2,news,rfl,hels,hsrc⟩:=content_run hm hpos hvx hys
 -- nothing to append: the slice stays
 have stay:∀A n c,vs= .slice A n c→n≤c→ys.length=0→(Builtin.append_ #[t,t] ty #[vs, .slice A2 ys.length c2]).run P E.w= .ok vs E.w:=by
  intro A n c hv hnc h0
  subst hv
  have hfc:(Builtin.firstCells i.size 0 (.slice A2 0 c2)).run P E.w= .ok #[] E.w:=by
   cases A2 with
   |none=>simp [Builtin.firstCells]
   |some a=>simp [Builtin.firstCells,loadCells,loadCellsFrom]
  rw [h0]
  cases A with
  |none=>simp [Builtin.append_,run_underlying ht,sizeOf,typeInfo,hi,Builtin.lenOf,hnc,hfc]
  |some a=>simp [Builtin.append_,run_underlying ht,sizeOf,typeInfo,hi,Builtin.lenOf,hnc,hfc,storeCells]
 have elen:∀{l:List (List AV)},l.length=0→l=[]:=fun h=>List.eq_nil_of_length_eq_zero h
 split at h
 ·rename_i hx
  rw [hx] at hvs
  split at h
  ·rename_i hb
   simp only [RM.run,Option.some.injEq,Out.done.injEq] at h
   obtain ⟨rfl,rfl⟩:=h
   cases hvs with
   | @emp A=>
    rcases Nat.eq_zero_or_pos ys.length with h0|h0
    ·have hy0:=elen h0
     obtain ⟨E',hw,hE,hM,k1,k2,k3,k4,k5⟩:=hm.phantom hf zs.length
     refine ⟨_, .slice A 0 0,E',by rw [hw];simp [stay A 0 0 rfl (Nat.le_refl _) h0], .inl rfl,hE, ?_,by rw [hy0];exact hM,by rw [hw];exact Below.refl _ _,fun id hi'=> ?_⟩
     ·rw [h0];exact .own0 k1 k2 k3 k5
     ·rcases k4 id hi' with h|h
      ·exact .inl h
      ·exact .inr (by simp [h])
    ·obtain ⟨ad,rfl,hnews⟩:=hsrc.resolve_left (by omega)
     obtain ⟨cap,arr,hr,q1,q2,q3,q4⟩:=grow_run (P:=P) (ty:=ty) ht hi hzz hs hcs hby hm (A:=A) (n:=0) (c:=0) (olds:=[]) (es:=[]) ⟨by simp,fun i cs hi=>by simp at hi⟩ rfl (.inl rfl) (fun _=>rfl) (c2:=c2) hels rfl hnews h0 (by omega) (by simpa using hb)
     simp only [Nat.zero_add,List.nil_append] at hr q1 q4
     exact grownOK (e:=e) hm hf rfl hels q1 q2 q3 q4 (by simp [hr])
  ·simp [RM.run] at h
 ·rename_i k els hx
  rw [hx] at hvs
  split at h
  ·rename_i hc
   obtain ⟨rfl,hne,hb⟩:=hc
   simp only [RM.run,Option.some.injEq,Out.done.injEq] at h
   obtain ⟨rfl,rfl⟩:=h
   have h0:0<ys.length:=by
    cases ys with
    |nil=>simp at hne
    |cons a l=>simp
   cases hvs with
   | @tls A n _ _ hl=>
    have hself:RM.run g (content zs.length (.lst zs.length els))=some els:=by simp [content,RM.run]
    obtain ⟨A1,c1,olds,he,helo,hsrc1⟩:=content_run hm hpos hl hself
    simp only [Value.slice.injEq] at he
    obtain ⟨rfl,rfl,rfl⟩:=he
    obtain ⟨ad,rfl,hnews⟩:=hsrc.resolve_left (by omega)
    have hA0:A=none→els.length=0:=fun hA=>by
     rcases hsrc1 with h|⟨_,h,_⟩
     ·exact h
     ·rw [hA] at h;simp at h
    obtain ⟨cap,arr,hr,q1,q2,q3,q4⟩:=grow_run (P:=P) (ty:=ty) ht hi hzz hs hcs hby hm helo rfl hsrc1 hA0 (c2:=c2) hels rfl hnews h0 (by omega) hb
    exact grownOK (e:=e) hm hf (by simp) (helo.append hels) q1 q2 q3 q4 (by simp [hr])
  ·simp [RM.run] at h
 ·rename_i id k off n hx
  rw [hx] at hvs
  simp only [RM.run] at h
  cases hB:g id with
  |none=>simp [hB] at h
  |some B=>
   simp only [hB] at h
   split at h
   ·rename_i hc
    obtain ⟨rfl,hBs,rfl,hnB,hb⟩:=hc
    simp only [RM.run,Option.some.injEq,Out.done.injEq] at h
    obtain ⟨rfl,rfl⟩:=h
    have hkid:E.kn id∧¬E.dead id:=(hm.live id).2 ⟨B,hB⟩
    have hself:RM.run g (content zs.length (.own id zs.length 0 n))=some B.els:=by simp [content,RM.run,hB,hBs,hnB]
    obtain ⟨A1,c1,olds,hvv,helo,hsrc1⟩:=content_run hm hpos hvs hself
    rw [hvv] at hvs stay ⊢
    rw [←hnB] at hvs stay hvv ⊢
    -- a slice of the same place, under the new name
    have same:ys.length=0→OpOK E J base g ((do pure (Next.value (←Builtin.append_ #[t,t] ty #[.slice A1 n c1, .slice A2 ys.length c2])):Sem Next).run P E.w) (.own fresh zs.length 0 (n+ys.length)) [(id,none),(fresh,some ⟨zs.length,B.els++ys⟩)]:=by
     intro h0
     have hy0:=elen h0
     obtain ⟨E',hw,hE,hM,k1,k2,k3,k4,k5⟩:=hm.move hf id B ⟨zs.length,B.els++ys⟩ hB E.w (fun _ _=>rfl) rfl (fun _ _=>rfl) (fun E' hE hw=>by
      rw [hy0,List.append_nil, ←hBs]
      exact (hm.at_ id B hB).keep hE fun b hb=>by rw [hw])
     have hnc:n≤c1:=by cases hvs with
      |own hi' hd hbl hq hs hmm hl hcc=>exact hl
      |own0=>exact Nat.le_refl _
      |staleO hi' hd=>exact absurd hd hkid.2
     refine ⟨_, .slice A1 n c1,E',by rw [hw];simp [stay A1 n c1 rfl hnc h0], .inl rfl,hE, ?_,hM,by rw [hw];exact Below.refl _ _,fun id' hi'=> ?_⟩
     ·rw [h0]
      cases hvs with
      |own hi' hd hbl hq hs hmm hl hcc=>exact .own k1 k2 (k3.trans hbl) hq (by rw [hw];exact hs) hmm hl hcc (by rw [k5];simp only [List.length_append];omega)
      |own0 hi' hd hbl=>exact .own0 k1 k2 (k3.trans hbl) (by rw [k5];simp only [List.length_append];omega)
      |staleO hi' hd=>exact absurd hd hkid.2
     ·rcases k4 id' hi' with h|h
      ·exact .inl h
      ·exact .inr (by simp [h])
    rcases Nat.eq_zero_or_pos ys.length with h0|h0
    ·exact same h0
    ·obtain ⟨ad,rfl,hnews⟩:=hsrc.resolve_left (by omega)
     by_cases hroom:n+ys.length≤c1
     ·-- in place
      cases hvs with
      |staleO hi' hd=>exact absurd hd hkid.2
      |own0=>omega
      | @own _ _ _ _ _ b q mm t' hi' hd hbl hq hs' hmm hl hcc=>
       have hq0:q=0:=by rcases hq with hq|hq<;>omega
       subst hq0
       have hblk:=hm.at_ id B hB
       rw [hbl] at hblk
       obtain ⟨hbase,arr,t2,ha,hfit,hcells⟩:=hblk.cells (by first|assumption|omega)
       have hms:mm=arr.size∧t'=t2.1:=by
        simp only [World.shape?,ha,Option.some.injEq,Prod.mk.injEq] at hs'
        exact ⟨hs'.2.symm,hs'.1.symm⟩
       have hfit2:n*zs.length+news.length≤arr.size:=by
        rw [hels.1, ←Nat.add_mul, ←hms.1]
        exact Nat.le_trans (Nat.mul_le_mul_right _ (by omega)) hmm
       have hst:=run_storeCells_fr P b (n*zs.length) t2.1 t2.2 news 0 arr E.w ha (by simpa using hfit2) (hels.all hpos)
       simp only [Nat.add_zero] at hst
       have hf2:=run_firstCells_some (P:=P) E.w i.size ys.length ad ys.length c2 news (by rw [hels.1,hs]) hnews
       rw [hs] at hf2
       let arr':=(arr.toList.take (n*zs.length)++news++arr.toList.drop (n*zs.length+news.length)).toArray
       have hasz:arr'.size=arr.size:=by simp [arr'];omega
       have hget:∀j:Nat,arr'[j]? =if j<n*zs.length then arr[j]? else if j<n*zs.length+news.length then news[j - n*zs.length]? else arr[j]? :=by
        intro j
        simp only [arr',List.getElem?_toArray,List.append_assoc]
        rw [List.getElem?_append,List.length_take,Nat.min_eq_left (by simp;omega)]
        by_cases h1:j<n*zs.length
        ·simp [h1]
        ·rw [if_neg h1,if_neg h1,List.getElem?_append]
         by_cases h2:j<n*zs.length+news.length
         ·rw [if_pos (by omega),if_pos h2]
         ·rw [if_neg (by omega),if_neg h2,List.getElem?_drop]
          simp;congr 1;omega
       have hrow:(E.w.setRow b arr').heap[b]? =some (.cells arr' t2.1 (frz arr'.size t2.2)):=by rw [hasz];exact setRow_heap E.w b arr arr' t2.1 _ ha
       obtain ⟨E',hw,hE,hM,k1,k2,k3,k4,k5⟩:=hm.move hf id B ⟨zs.length,B.els++ys⟩ hB (E.w.setRow b arr') (fun k hk=>setRow_other _ _ _ _ (hk b hbl)) (by simp) (fun b' hb'=>by
         rw [hbl] at hb';simp only [Option.some.injEq] at hb';subst hb'
         simp only [World.shape?,hrow,ha,hasz]) (fun E' hE hw=>by
        rw [hbl]
        refine .ofCells ⟨hbase,arr',t2,by rw [hw];exact hrow, ?_, ?_⟩ (by dsimp only;omega)
        ·rw [hasz];dsimp only
         rw [List.length_append, ←hnB,Nat.add_mul, ←hels.1];exact hfit2
        ·have hboth:=(helo.append hels).step hE
         intro q cs hq
         refine ⟨(hboth.2 q cs hq).1,fun j x hj=> ?_⟩
         obtain ⟨u,m1,m2,m3⟩:=(hboth.2 q cs hq).2 j x hj
         refine ⟨u, ?_,m2,m3⟩
         dsimp only
         rw [hget]
         have holen:olds.length=n*zs.length:=by rw [helo.1,hnB]
         by_cases h1:q*zs.length+j<n*zs.length
         ·rw [if_pos h1]
          rw [List.getElem?_append_left (by omega)] at m1
          -- the old cells are those of the block
          have hql:q<n:=by
           rcases Nat.lt_or_ge q n with h|h
           ·exact h
           ·have:=Nat.mul_le_mul_right zs.length h;omega
          rw [List.getElem?_append_left (by omega)] at hq
          obtain ⟨u',w1,w2,w3⟩:=(hcells q cs hq).2 j x hj
          rw [hBs] at w1
          have hcell:=cell_of_row E.w b (q*zs.length+j) arr t2.1 _ ha
          rcases hsrc1 with hz0|⟨ad',hA',hc'⟩
          ·omega
          ·simp only [Option.some.injEq] at hA';subst hA'
           have:=hc' _ _ m1
           rw [Addr.add_lit,Nat.zero_add,hcell] at this
           exact this
         ·rw [if_neg h1]
          rw [List.getElem?_append_right (by omega),holen] at m1
          rw [if_pos (by have:=(List.getElem?_eq_some_iff.1 m1).1;omega)]
          exact m1)
       refine ⟨_, .slice (some ⟨b,0,none⟩) (n+ys.length) c1,E', ?_, .inl rfl,hE, ?_,hM, ?_,fun id' hi'=> ?_⟩
       ·rw [hw]
        simp [Builtin.append_,run_underlying ht,sizeOf,typeInfo,hi,Builtin.lenOf,hroom,hf2,Addr.add_lit,hs,hst,arr']
       ·refine .own k1 k2 (k3.trans hbl) (.inl (by simp)) (t:=t2.1) (m:=arr'.size) ?_ (by rw [hasz, ←hms.1];exact hmm) hroom hcc (by rw [k5];simp only [List.length_append];omega)
        rw [hw]
        simp only [World.shape?,hrow]
       ·rw [hw]
        exact ⟨rfl,rfl,rfl,by simp,fun k hk=>setRow_other _ _ _ _ (by omega)⟩
       ·rcases k4 id' hi' with h|h
        ·exact .inl h
        ·exact .inr (by simp [h])
     ·-- a new block
      have hA0:A1=none→c1=0:=fun hA=>by
       cases hvs with
       |own=>simp at hA
       |own0=>rfl
       |staleO hi' hd=>exact absurd hd hkid.2
      obtain ⟨cap,arr,hr,q1,q2,q3,q4⟩:=grow_run (P:=P) (ty:=ty) ht hi hzz hs hcs hby hm helo hnB (by rw [hnB];exact hsrc1) hA0 (c2:=c2) hels rfl hnews h0 (by omega) hb
      obtain ⟨E1,hw1,hE1,hM1,hk1,_,_⟩:=hm.kill [id] (fun k hk=>by simp at hk;subst hk;exact hkid.1)
      have:=grownOK (e:=e) hM1 (fun h=>hf (hk1 _ h)) (n:=n+ys.length) (by simp [hnB]) ((helo.append hels).step hE1) q1 q2 q3 q4 (r:=(do pure (Next.value (←Builtin.append_ #[t,t] ty #[.slice A1 n c1, .slice (some ad) ys.length c2])):Sem Next).run P E.w) (by rw [hw1];simp [hr])
      obtain ⟨n',v',E',w1,w2,w3,w4,w5,w6,w7⟩:=this
      refine ⟨n',v',E',w1,w2,hE1.trans w3,w4,w5,by rw [←hw1];exact w6,fun id' hi'=> ?_⟩
      rcases w7 id' hi' with h|h
      ·exact .inl (hk1 _ h)
      ·exact .inr (by simp at h;simp [h])
   ·split at h
    rotate_left
    ·simp [RM.run] at h
    rename_i hc
    obtain ⟨rfl,hBs,hfit0⟩:=hc
    simp only [RM.run,Option.some.injEq,Out.done.injEq] at h
    obtain ⟨rfl,rfl⟩:=h
    exact appInOK (ty:=ty) hm hf ht hi hs hpos hvs hels hsrc hB hBs hfit0 (fun A n c=>stay A n c)
 ·simp [RM.run] at h
end
open Go.RowKit
section
variable {P:Program} {E:Env} {J:Nat→Prop} {base:Nat} {g:Nat→Option Bk} {ρv:Operand→Value} {ρ:Arg→AV} {fresh:Nat}
theorem checkKey_run {kt:TypeId} {d:TypeDesc} {kd:LK} (hd:P.underlying kt=some d) (hk:kOf d=some kd) (k:Value) (e:Bool) (n:Nat) (w:World):(Instr.checkKey e (n+1) kt k).run P w= .ok () w:=by
 unfold Instr.checkKey
 simp only [Sem.run_bind,run_underlying hd,Result.andThen]
 cases d<;>simp_all [kOf]
theorem sameNow_key {d:TypeDesc} {kd:LK} (hk:kOf d=some kd) {a b:Value} {r:Bool} (h:keyEq kd a b=some r):Instr.sameNow d a b=some r:=by
 cases d<;>simp [kOf] at hk<;>subst hk<;>cases a<;>cases b<;>simp_all [keyEq,Instr.sameNow]
theorem find_run {d:TypeDesc} {kd:LK} (hk:kOf d=some kd) {k:Value}:∀(es:List MapEntry) (els:List (List AV)) (i:Nat) (r:Option AV),es.length=els.length→
  (∀(j:Nat) e cs,es[j]? =some e→els[j]? =some cs→∃x,cs=[.v e.key,x]∧plainV e.key=true∧Rep E e.val x)→mfind kd k els=some r→
  (r=none∧Instr.findNow d k es i=some none)∨∃x j v,r=some x∧Instr.findNow d k es i=some (some (j,v))∧Rep E v x
 |[],[],i,r,_,_,h=>by
  simp only [mfind,Option.some.injEq] at h;subst h
  exact .inl ⟨rfl,rfl⟩
 |[],_::_,_,_,hl,_,_=>by simp at hl
 |_::_,[],_,_,hl,_,_=>by simp at hl
 |e::es,cs::els,i,r,hl,he,h=>by
  obtain ⟨x,rfl,_,hr⟩:=he 0 e cs rfl rfl
  unfold mfind at h
  cases hq:keyEq kd k e.key with
  |none=>rw [hq] at h;simp at h
  |some b=>
   rw [hq] at h
   have hs:=sameNow_key hk hq
   unfold Instr.findNow
   rw [hs]
   cases b with
   |true=>
    simp only [Option.some.injEq] at h;subst h
    exact .inr ⟨x,i,e.val,rfl,rfl,hr⟩
   |false=>
    exact find_run hk es els (i+1) r (by simpa using hl) (fun j e' cs' h1 h2=>he (j+1) e' cs' (by simpa using h1) (by simpa using h2)) h
theorem mkmOK (hm:MemAt E J base g) (hf:¬E.kn fresh) {t kt et:TypeId} (ht:P.underlying t=some (.map kt et)) {r:Option Value} (hr:r=none∨∃k n,r=some (.int k n)):
  OpOK E J base g ((do pure (Next.value (←Instr.makeMap t r)):Sem Next).run P E.w) (.mp fresh) [(fresh,some ⟨0,[]⟩)]:=by
 obtain ⟨E',hw,hE,hM,k1,k2,k3,k4,k5⟩:=hm.allocO fresh hf (.map #[] 0) ⟨0,[]⟩ fun E' hE hw=> .ofMap ⟨hm.size, #[],0,by rw [hw];exact heap_alloc_new E.w _,rfl,fun i e cs he=>by simp at he⟩ rfl
 refine ⟨.value (.map (some E.w.heap.size)), .map (some E.w.heap.size),E', ?_, .inl rfl,hE, .mp k1 k2 k3,hM, ?_,fun id hi=> ?_⟩
 ·rw [hw]
  rcases hr with rfl|⟨k,n,rfl⟩
  ·simp [Instr.makeMap]
  ·simp [Instr.makeMap,run_underlying ht,asInt,asIntOf]
 ·rw [hw];exact (Below.refl _ _).alloc hm.size _
 ·rcases k4 id hi with h|h
  ·exact .inl h
  ·exact .inr (by simp [h])
theorem mp_open (hm:MemAt E J base g) {v:Value} {id:Nat} {B:Bk} (hv:Rep E v (.mp id)) (hB:g id=some B) (hz:B.sz=0):∃b,v= .map (some b)∧E.loc id=some b∧base≤b∧MapAt E B.els b:=by
 cases hv with
 |staleP hi hd=>exact absurd hd (alive hm hB)
 | @mp _ b hi hd hb=>
  have hblk:=hm.at_ id B hB
  rw [hb] at hblk
  exact ⟨b,rfl,hb,(hblk.mapp hz).1,(hblk.mapp hz).2⟩
theorem zeroOf_run {t:TypeId} {z:AV} (h:zeroOf P t=some z):∃i zz,P.info? t=some i∧i.zero=some zz∧Rep E zz z:=by
 unfold zeroOf at h
 cases hi:P.info? t with
 |none=>rw [hi] at h;simp at h
 |some i=>
  rw [hi] at h
  cases hz:i.zero with
  |none=>simp [hz] at h
  |some zz=>simp only [hz] at h;exact ⟨i,zz,rfl,hz,ofConst1_rep h⟩
theorem mlkOK (hm:MemAt E J base g) {t kt et:TypeId} (ht:P.underlying t=some (.map kt et)) {kd:LK} (hk:keyT P kt=some kd) {z:AV} (hz:zeroOf P et=some z) {vx vk:Value} {x k:Arg} {val:AV} {ups:List (Nat×Option Bk)} (hvx:Rep E vx (ρ x)) (hvk:Rep E vk (ρ k))
  (h:((AO.mlk kd z x k).sem fresh ρ).run g=some (.done val ups)):OpOK E J base g ((do pure (Next.value (←Instr.lookup t vx vk false)):Sem Next).run P E.w) val ups:=by
 obtain ⟨d,hd,hkd⟩:∃d,P.underlying kt=some d∧kOf d=some kd:=by
  unfold keyT at hk
  cases hu:P.underlying kt with
  |none=>rw [hu] at hk;simp at hk
  |some d=>rw [hu] at hk;exact ⟨d,rfl,by simpa using hk⟩
 simp only [AO.sem] at h
 split at h
 ·rename_i id kv hx hkk
  rw [hx] at hvx;rw [hkk] at hvk
  have hkv:vk=kv:=by cases hvk with|v _=>rfl
  subst hkv
  simp only [RM.run] at h
  cases hB:g id with
  |none=>simp [hB] at h
  |some B=>
   simp only [hB] at h
   split at h
   ·rename_i hz0
    obtain ⟨b,rfl,hb,hbase,es,clock,hh,hl,hent⟩:=mp_open hm hvx hB hz0
    cases hf:mfind kd vk B.els with
    |none=>simp [hf,RM.opt,RM.run] at h
    |some r=>
     simp [hf,RM.opt,RM.run] at h
     obtain ⟨rfl,rfl⟩:=h
     have hfr:=find_run (E:=E) hkd es.toList B.els 0 r (by simpa using hl) (fun j e cs h1 h2=>hent j e cs (by simpa using h1) h2) hf
     have hck:=fun e=>checkKey_run hd hkd vk e 9999 E.w
     rcases hfr with ⟨rfl,hfn⟩|⟨y,j,v,rfl,hfn,hrv⟩
     ·obtain ⟨i,zz,hi,hzz,hrz⟩:=zeroOf_run (E:=E) hz
      refine pureOK hm (v:=zz) ?_ hrz
      simp [Instr.lookup,run_underlying ht,MapKept.run_getObj_map hh,hck,MapKept.run_findKey hd hfn,Result.andThen,zeroValue,typeInfo,hi,hzz]
     ·refine pureOK hm (v:=v) ?_ hrv
      simp [Instr.lookup,run_underlying ht,MapKept.run_getObj_map hh,hck,MapKept.run_findKey hd hfn,Result.andThen]
   ·simp [RM.run] at h
 ·simp [RM.run] at h
theorem mupOK (hm:MemAt E J base g) {t kt et:TypeId} (ht:P.underlying t=some (.map kt et)) {kd:LK} (hk:keyT P kt=some kd) {vx vk vy:Value} {x k y:Arg} {val:AV} {ups:List (Nat×Option Bk)} (hvx:Rep E vx (ρ x)) (hvk:Rep E vk (ρ k)) (hvy:Rep E vy (ρ y))
  (h:((AO.mup kd x k y).sem fresh ρ).run g=some (.done val ups)):OpOK E J base g ((do (Instr.mapUpdate t vx vk vy);pure Next.skip:Sem Next).run P E.w) val ups:=by
 obtain ⟨d,hd,hkd⟩:∃d,P.underlying kt=some d∧kOf d=some kd:=by
  unfold keyT at hk
  cases hu:P.underlying kt with
  |none=>rw [hu] at hk;simp at hk
  |some d=>rw [hu] at hk;exact ⟨d,rfl,by simpa using hk⟩
 simp only [AO.sem] at h
 split at h
 ·rename_i id kv hx hkk
  rw [hx] at hvx;rw [hkk] at hvk
  have hkv:vk=kv:=by cases hvk with|v _=>rfl
  subst hkv
  simp only [RM.run] at h
  cases hB:g id with
  |none=>simp [hB] at h
  |some B=>
   simp only [hB] at h
   split at h
   ·rename_i hz0
    obtain ⟨hz0,hpl⟩:=hz0
    obtain ⟨b,rfl,hb,hbase,es,clock,hh,hl,hent⟩:=mp_open hm hvx hB hz0
    split at h
    ·rename_i hf
     simp only [RM.run,Option.some.injEq,Out.done.injEq] at h
     obtain ⟨rfl,rfl⟩:=h
     have hfr:=find_run (E:=E) hkd es.toList B.els 0 none (by simpa using hl) (fun j e cs h1 h2=>hent j e cs (by simpa using h1) h2) hf
     have hfn:Instr.findNow d vk es.toList 0=some none:=by
      rcases hfr with ⟨_,hfn⟩|⟨_,_,_,hc,_⟩
      ·exact hfn
      ·simp at hc
     have hck:=fun e=>checkKey_run hd hkd vk e 9999 E.w
     obtain ⟨hset,hoth⟩:=MapKept.heap_set (w:=E.w) (r:=b) (o':= .map (es.push { key:=vk,val:=vy,born:=clock }) (clock+1)) hh
     obtain ⟨E',hw,hE,hM,hkn⟩:=hm.setO id b B ⟨0,B.els++[[.v vk,ρ y]]⟩ hB hb { E.w with heap:=E.w.heap.setIfInBounds b (.map (es.push { key:=vk,val:=vy,born:=clock }) (clock+1)) }
      hoth (by simp) (by simp only [World.shape?,hset,hh]) (fun hh=>absurd rfl hh) (fun E' hE hw=> .ofMap ⟨hbase,es.push { key:=vk,val:=vy,born:=clock },clock+1,by rw [hw];exact hset,by simp [hl],fun i e cs he hi=>by
       by_cases hi2:i<es.size
       ·rw [Array.getElem?_push_lt hi2] at he
        dsimp only at hi
        rw [List.getElem?_append_left (by omega)] at hi
        obtain ⟨u,k1,k2,k3⟩:=hent i e cs (by rw [Array.getElem?_eq_getElem hi2];exact he) hi
        exact ⟨u,k1,k2,k3.step hE⟩
       ·have hi3:i=es.size:=by
         have:=(Array.getElem?_eq_some_iff.1 he).1;simp at this;omega
        subst hi3
        simp only [Array.getElem?_push_size,Option.some.injEq] at he
        subst he
        dsimp only at hi
        rw [List.getElem?_append_right (by omega),hl,Nat.sub_self] at hi
        simp only [List.getElem?_cons_zero,Option.some.injEq] at hi
        subst hi
        exact ⟨ρ y,rfl,hpl,hvy.step hE⟩⟩ rfl)
     refine ⟨.skip,undef,E', ?_, .inr ⟨rfl,rfl⟩,hE, .v rfl,hM, ?_,fun id' h'=> .inl (hkn id' h')⟩
     ·rw [hw]
      simp [Instr.mapUpdate,run_underlying ht,MapKept.run_getObj_map hh,hck,MapKept.run_findKey hd hfn,MapKept.run_setObj_map _ hh,Result.andThen]
     ·rw [hw]
      refine ⟨rfl,rfl,rfl,by simp,fun k hk=>hoth k (by omega)⟩
    ·simp [RM.run] at h
   ·simp [RM.run] at h
 ·simp [RM.run] at h
end
open Go.RowKit
theorem push_run {P:Program} {w:World} {f:Value→ByteArray→Sem (ForInStep ByteArray)} (hf:∀n s,f (.int .u8 n) s=pure (ForInStep.yield (s.push (UInt8.ofNat n.toNat)))):∀(l:List Value) (bs:List UInt8) (s:ByteArray),(∀(i:Nat) (v:Value),l[i]? =some v→∃n:Int,v= .int .u8 n∧bs[i]? =some (UInt8.ofNat n.toNat))→bs.length=l.length→
  (forIn (m:=Sem) l s f).run P w= .ok (⟨s.data++bs.toArray⟩) w
 |[],bs,s,_,hl=>by
  have:bs=[]:=List.eq_nil_of_length_eq_zero (by simpa using hl)
  subst this
  simp
 |v::l,bs,s,h,hl=>by
  obtain ⟨n,rfl,hb⟩:=h 0 v rfl
  cases bs with
  |nil=>simp at hl
  |cons b bs=>
   simp at hb;subst hb
   have ih:=push_run hf (P:=P) (w:=w) l bs (s.push (UInt8.ofNat n.toNat)) (fun i v hv=>h (i+1) v hv) (by simpa using hl)
   simp [List.forIn_cons,hf,ih]
theorem strOf_get:∀{ys:List (List AV)} {l:List UInt8},strOf ys=some l→l.length=ys.length∧∀(i:Nat) (cs:List AV),ys[i]? =some cs→∃n:Int,cs=[.v (.int .u8 n)]∧l[i]? =some (UInt8.ofNat n.toNat)
 |[],l,h=>by
  simp only [strOf,Option.some.injEq] at h;subst h
  exact ⟨rfl,fun i cs hi=>by simp at hi⟩
 |cs::r,l,h=>by
  unfold strOf at h
  split at h
  ·rename_i e;simp at e
  ·rename_i n r' e
   simp only [List.cons.injEq] at e
   obtain ⟨rfl,rfl⟩:=e
   cases hr:strOf r with
   |none=>rw [hr] at h;simp at h
   |some l'=>
    rw [hr] at h
    simp only [Option.map_some,Option.some.injEq] at h;subst h
    obtain ⟨h1,h2⟩:=strOf_get hr
    refine ⟨by simp [h1],fun i cs hi=> ?_⟩
    cases i with
    |zero=>simp at hi;subst hi;exact ⟨n,rfl,rfl⟩
    |succ i=>exact h2 i cs (by simpa using hi)
  ·simp at h
theorem b2s_run {P:Program} {E:Env} {J:Nat→Prop} {base:Nat} {g:Nat→Option Bk} (hm:MemAt E J base g) {v:Value} {a:AV} (hv:Rep E v a) {ys:List (List AV)} (h:(content 1 a).run g=some ys) {l:List UInt8} (hl:strOf ys=some l):
  (Conv.bytesToString v).run P E.w= .ok (.string ⟨l.toArray⟩) E.w:=by
 obtain ⟨A,c,news,rfl,hels,hsrc⟩:=content_run hm Nat.zero_lt_one hv h
 obtain ⟨hlen,hget⟩:=strOf_get hl
 have hn:news.length=ys.length:=by have:=hels.1;omega
 have hnews:∀(i:Nat) (u:Value),news[i]? =some u→∃n:Int,u= .int .u8 n∧l[i]? =some (UInt8.ofNat n.toNat):=fun i u hu=>by
  have hi:i<ys.length:=by have:=(List.getElem?_eq_some_iff.1 hu).1;omega
  obtain ⟨n,hcs,hln⟩:=hget i _ (List.getElem?_eq_getElem hi)
  obtain ⟨_,h2⟩:=hels.2 i _ (List.getElem?_eq_getElem hi)
  obtain ⟨u',k1,_,k3⟩:=h2 0 (.v (.int .u8 n)) (by rw [hcs];rfl)
  rw [Nat.mul_one,Nat.add_zero,hu] at k1
  simp only [Option.some.injEq] at k1;subst k1
  exact ⟨n,by cases k3 with|v _=>rfl,hln⟩
 cases A with
 |none=>
  rcases hsrc with h0|⟨ad,e,_⟩
  ·have:l=[]:=List.eq_nil_of_length_eq_zero (by omega)
   subst this
   simp [Conv.bytesToString];rfl
  ·simp at e
 |some ad=>
  have hc:(loadCells ad ys.length).run P E.w= .ok news.toArray E.w:=by
   rw [←hn]
   refine run_loadCells_list E.w ad news fun j v hj=> ?_
   rcases hsrc with h0|⟨ad',e,h2⟩
   ·have:=(List.getElem?_eq_some_iff.1 hj).1;omega
   ·simp only [Option.some.injEq] at e;subst e;exact h2 j v hj
  simp only [Conv.bytesToString]
  rw [Sem.run_bind,hc]
  simp only [Result.andThen,List.forIn_toArray]
  rw [Sem.run_bind,push_run (fun n s=>rfl) news l ByteArray.empty hnews (by omega)]
  simp only [Result.andThen]
  simp
theorem bytesRow_size (s:ByteArray) {cap:Nat} (h:s.size≤cap):(bytesRow s cap).size=cap:=by
 have:s.data.size=s.size:=rfl
 simp [bytesRow];omega
theorem bytesRow_get (s:ByteArray) (cap:Nat) {i:Nat} {b:UInt8} (h:s.data.toList[i]? =some b):(bytesRow s cap)[i]? =some (.int .u8 b.toNat):=by
 have hi:=(List.getElem?_eq_some_iff.1 h).1
 unfold bytesRow
 rw [Array.getElem?_append_left (by simpa using hi),Array.getElem?_map]
 rw [←Array.getElem?_toList,h];rfl
theorem s2b_own {P:Program} {E:Env} {J:Nat→Prop} {base:Nat} {g:Nat→Option Bk} {fresh:Nat} (hm:MemAt E J base g) (hf:¬E.kn fresh) {e:TypeId} {s:ByteArray} {cap:Nat} (hc:s.size≤cap) (hcm:cap≤9223372036854775807) {r:Result Next}
  (hr:r= .ok (.value (.slice (some ⟨E.w.heap.size,0,none⟩) s.size cap)) (E.w.drew.alloc (.cells (bytesRow s cap) e ((bytesRow s cap).size,(bytesRow s cap).size+1)))):
  OpOK E J base g r (.own fresh 1 0 s.size) [(fresh,some ⟨1,s.data.toList.map fun b=>[.v (.int .u8 b.toNat)]⟩)]:=by
 obtain ⟨E1,hw1,hE1,hM1,_,hkn1,hl1,hd1⟩:=hm.drew
 have hsz:=bytesRow_size s hc
 have hdl:s.data.toList.length=s.size:=rfl
 obtain ⟨E',hw,hE,hM,k1,k2,k3,k4,k5⟩:=hM1.allocO fresh (fun h=>hf ((hkn1 _).1 h)) (.cells (bytesRow s cap) e ((bytesRow s cap).size,(bytesRow s cap).size+1)) ⟨1,s.data.toList.map fun b=>[.v (.int .u8 b.toNat)]⟩ (fun E' hE hw=>by
  refine .ofCells ⟨hM1.size,bytesRow s cap,(e,1),by rw [hw];exact heap_alloc_new E1.w _,by simp only [List.length_map,Nat.mul_one];omega,fun i cs hi=> ?_⟩ (by simp)
  rw [List.getElem?_map] at hi
  cases hb:s.data.toList[i]? with
  |none=>rw [hb] at hi;simp at hi
  |some b=>
   rw [hb] at hi
   simp only [Option.map_some,Option.some.injEq] at hi;subst hi
   refine ⟨rfl,fun j x hj=> ?_⟩
   cases j with
   |zero=>
    simp at hj;subst hj
    exact ⟨.int .u8 b.toNat,by simpa using bytesRow_get s cap hb,rfl, .v rfl⟩
   |succ j=>simp at hj)
 rw [hw1] at hw
 refine ⟨_, .slice (some ⟨E.w.heap.size,0,none⟩) s.size cap,E',by rw [hw];exact hr, .inl rfl,hE1.trans hE, ?_,hM, ?_,fun id hi=> ?_⟩
 ·refine .own k1 k2 (b:=E.w.heap.size) (by rw [k3,hw1];rfl) (.inl (by simp)) (t:=e) (m:=(bytesRow s cap).size) ?_ (by rw [hsz];simp) hc hcm (by rw [k5];simp only [List.length_map];omega)
  rw [hw]
  unfold World.shape?
  rw [show E.w.heap.size=E.w.drew.heap.size from rfl,heap_alloc_new]
 ·rw [hw]
  exact ((Below.refl _ _).drew).alloc (by simpa using hm.size) _
 ·rcases k4 id hi with h|h
  ·exact .inl ((hkn1 _).1 h)
  ·exact .inr (by simp [h])
theorem b2sOK {P:Program} {E:Env} {J:Nat→Prop} {base:Nat} {g:Nat→Option Bk} {fresh:Nat} {ρ:Arg→AV} (hm:MemAt E J base g) {src dst e:TypeId} (hs:P.underlying src=some (.slice e)) (hd:P.underlying dst=some .string) (he:P.underlying e=some (.int .u8)) {vx:Value} {x:Arg} (hvx:Rep E vx (ρ x))
  {val:AV} {ups:List (Nat×Option Bk)} (h:((AO.b2s x).sem fresh ρ).run g=some (.done val ups)):OpOK E J base g ((do pure (Next.value (←convert src dst vx)):Sem Next).run P E.w) val ups:=by
 simp only [AO.sem] at h
 obtain ⟨ys,hys,h⟩:=bind_run h
 cases hl:strOf ys with
 |none=>rw [hl] at h;simp [RM.opt,RM.run] at h
 |some l=>
  rw [hl] at h
  simp only [Option.map_some,RM.opt,RM.run,Option.some.injEq,Out.done.injEq] at h
  obtain ⟨rfl,rfl⟩:=h
  have hr:=b2s_run (P:=P) hm hvx hys hl
  obtain ⟨A,c,news,rfl,_,_⟩:=content_run hm Nat.zero_lt_one hvx hys
  refine pureOK hm (v:= .string ⟨l.toArray⟩) ?_ (.v rfl)
  have:(convert src dst (.slice A ys.length c)).run P E.w= .ok (.string ⟨l.toArray⟩) E.w:=by
   simp only [convert,Sem.run_bind,run_underlying hs,run_underlying hd,Result.andThen_ok,run_underlying he]
   exact hr
  rw [Sem.run_bind,this];rfl
theorem s2bOK {P:Program} {E:Env} {J:Nat→Prop} {base:Nat} {g:Nat→Option Bk} {fresh:Nat} {ρ:Arg→AV} (hm:MemAt E J base g) (hf:¬E.kn fresh) {src dst e:TypeId} (hs:P.underlying src=some .string) (hd:P.underlying dst=some (.slice e)) (he:P.underlying e=some (.int .u8)) {vx:Value} {x:Arg} (hvx:Rep E vx (ρ x))
  {val:AV} {ups:List (Nat×Option Bk)} (h:((AO.s2b x).sem fresh ρ).run g=some (.done val ups)):OpOK E J base g ((do pure (Next.value (←convert src dst vx)):Sem Next).run P E.w) val ups:=by
 simp only [AO.sem] at h
 split at h
 ·rename_i s hx
  split at h
  ·rename_i hb
   simp only [RM.run,Option.some.injEq,Out.done.injEq] at h
   obtain ⟨rfl,rfl⟩:=h
   rw [hx] at hvx
   have ex:vx= .string s:=by cases hvx with|v _=>rfl
   subst ex
   exact s2b_own (P:=P) (e:=e) hm hf (grownCap_ge E.w s.size 0 e) (grownCap_le_maxLen E.w s.size 0 e (by unfold maxLen;omega)) (by rw [Sem.run_bind,run_bytes_of_string E.w src dst e s hs hd he];rfl)
  ·simp [RM.run] at h
 ·simp [RM.run] at h
end Go.Proofs.Ytboaekdecndckaa
