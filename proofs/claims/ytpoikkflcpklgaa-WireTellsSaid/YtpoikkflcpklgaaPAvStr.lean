/- Strings of bytes and bytes of strings: conversions, upon abstract values. No condition. -/
import Derived.WalkKit
import Derived.Orders
import Derived.Below
import Derived.Laws.CopyRow
import Derived.Laws.StructEq
import Derived.Deep.OwnRows
import Derived.Laws.Bits
import Derived.Laws.AppendOwn
import Derived.MapKept
import Derived.Laws.IdiomStrings
set_option linter.unusedSimpArgs false
set_option linter.unusedVariables false
namespace Go.Proofs.Ytpoikkflcpklgaa
variable {parts:Array (Nat×Operand)} {fields:Array Field} {vs:Array Value} {f:Field} {news olds:List Value} {base sz n b off o cap len c fresh q fi l h c2:Nat} {J:Nat->Prop} {A:Option Addr} {m:Option Nat} {lo hi mx:Option Operand} {P:Program} {r:Result Next} {d:TypeDesc} {t e ty kt et s src dst:TypeId} {v vx vy vi vk:Value}
open Go.RowKit
abbrev KJ:=@Option.some.injEq
abbrev KK:=@if_neg
abbrev KL:=@if_pos
abbrev KN:=@if_true
abbrev KO:=@Nat.le_refl
abbrev KQ:=@List.all_eq_true
abbrev KS:=@List.getElem?_eq_some_iff
abbrev KV:=@Option.map_some
abbrev KW:=@List.map_cons
abbrev KX:=@Array.getElem?_eq_getElem
abbrev KY:=@Nat.zero_add
abbrev KZ:=@Prod.mk.injEq
abbrev K0:=@List.getElem?_eq_getElem
abbrev K7:=@List.length_map
abbrev Lc:=@Nat.add_mul
abbrev Ld:=@List.getElem?_map
abbrev Lf:=@Nat.mul_le_mul_right
abbrev Lg:=@Nat.le_trans
abbrev Lh:=@if_false
abbrev Ll:=@List.getElem?_cons_zero
abbrev Lm:=@Below.heap_alloc
abbrev Lq:=@List.mem_of_getElem?
abbrev Ls:=@Nat.lt_or_ge
abbrev Lt:=@Below.refl
abbrev Lu:=@Sem.run_bind
abbrev Lw:=@Array.getElem?_eq_some_iff
abbrev Lx:=@List.mem_cons_of_mem
abbrev LC:=@Nat.add_zero
abbrev LD:=@List.getElem?_cons_succ
abbrev LF:=@Bool.false_eq_true
abbrev LH:=@List.getElem?_append_left
abbrev LM:=@Option.getD_some
abbrev LU:=@Addr.add_lit
abbrev LV:=@List.getElem?_take
abbrev LW:=@List.getElem?_drop
abbrev LX:=@List.getElem?_append_right
abbrev L4:=@List.append_assoc
abbrev L5:=@List.length_take
abbrev L6:=@Nat.mul_comm
abbrev L7:=@Nat.mod_eq_of_lt
abbrev L8:=@Option.bind_some
abbrev L9:=@List.eq_nil_of_length_eq_zero
abbrev Ma:=@List.length_append
abbrev Md:=@Int.toNat_natCast
abbrev Me:=@Option.getD_none
abbrev Mm:=@Result.andThen_ok
abbrev Mn:=@List.getElem?_append
abbrev Mu:=@List.getElem_of_mem
abbrev Mv:=@Nat.eq_zero_or_pos
abbrev Mw:=@List.cons.injEq
abbrev MD:=@Option.isSome_iff_exists
abbrev ME:=@Array.getElem?_setIfInBounds
abbrev MF:=@List.length_replicate
abbrev MG:=@Array.getElem?_append_left
def plainV:Value->Bool
 | .bool _| .int _ _| .string _| .nilFunc| .nilIface=>true
 | .pointer none=>true
 | .tuple vs=>vs.isEmpty
 |_=>false
inductive AV where
 |v (x:Value)
 |agg (cs:List AV)
 |aG (vs:List AV)
 |aN (sz:Nat) (els:List (List AV))
 |cy (sz:Nat) (els:List (List AV))
 |emp
 |pim (cs:List AV) (o:Nat)
 |ref (id sz i o:Nat)
 |own (id sz off len:Nat)
 |fn (f:FuncId) (caps:List AV)
 |bf (f:FuncId) (first:List AV)
 |dY (r:Loop) (cs:List AV)
 |mp (id:Nat)
 |dq
 |dead
variable {val a z:AV} {ys els:List (List AV)} {cs:List AV}
inductive Pu:AV->Prop
 |v {x:Value}:Pu (.v x)
 |agg {cs:List AV} (h:∀c,c∈cs->Pu c):Pu (.agg cs)
 |aG {cs:List AV} (h:∀c,c∈cs->Pu c):Pu (.aG cs)
 |aN {sz:Nat} {els:List (List AV)}:Pu (.aN sz els)
 |cy {sz:Nat} {els:List (List AV)}:Pu (.cy sz els)
 |emp:Pu .emp
 |pim {cs:List AV} {o:Nat}:Pu (.pim cs o)
 |fn {f:FuncId} {cs:List AV} (h:∀c,c∈cs->Pu c):Pu (.fn f cs)
 |bf {f:FuncId} {cs:List AV} (h:∀c,c∈cs->Pu c):Pu (.bf f cs)
 |dq:Pu .dq
 |dead:Pu .dead
structure Bk where
 sz:Nat
 els:List (List AV)
variable {ups:List (Nat×Option Bk)} {g:Nat->Option Bk}
structure Env where
 w:World
 kn:Nat->Prop
 loc:Nat->Option Nat
 dead:Nat->Prop
 I:Nat->Prop
 ln:Nat->Nat
 rg:Nat->Prop
 X:Nat->Prop
variable {E E':Env}
inductive ae (E:Env):Value->AV->Prop
 |v {x:Value} (h:plainV x=true):ae E x (.v x)
 |agg {vs:Array Value} {cs:List AV} (hl:vs.size=cs.length) (h:∀(i:Nat) v c,vs[i]? =some v->cs[i]? =some c->ae E v c):ae E (.agg vs) (.agg cs)
 |aG {vs:Array Value} {cs:List AV} (hl:vs.size=cs.length) (h:∀(i:Nat) v c,vs[i]? =some v->cs[i]? =some c->ae E v c):ae E (.tuple vs) (.aG cs)
 |dy {A:Option Addr} {c sz:Nat} (hc:c<=9223372036854775807):ae E (.slice A 0 c) (.aN sz [])
 |dO {b off n c sz:Nat} {els:List (List AV)} (u:Nat->Nat->Value) (hn:n=els.length) (hl:n<=c) (hc:c<=9223372036854775807) (hb:E.I b)
   (hz:∀(i:Nat) cs,els[i]? =some cs->cs.length=sz) (hu:∀(i:Nat) cs (j:Nat) x,els[i]? =some cs->cs[j]? =some x->E.w.cell? ⟨b,off+i*sz+j,none⟩=some (u i j))
   (h1:∀(i:Nat) cs (j:Nat) x,els[i]? =some cs->cs[j]? =some x->(u i j).oneCell'=true/\Pu x)
   (h:∀(i:Nat) cs (j:Nat) x,els[i]? =some cs->cs[j]? =some x->ae E (u i j) x):ae E (.slice (some ⟨b,off,none⟩) n c) (.aN sz els)
 |cy {A:Option Addr} {n sz:Nat} {els:List (List AV)} (h:ae E (.slice A n n) (.aN sz els)):ae E (.slice A n n) (.cy sz els)
 |emp {A:Option Addr}:ae E (.slice A 0 0) .emp
 |pim {b off o q:Nat} {cs:List AV} (u:Nat->Value) (hb:E.I b) (hq:q=off+o) (hu:∀(j:Nat) x,cs[j]? =some x->E.w.cell? ⟨b,off+j,none⟩=some (u j)) (h1:∀(j:Nat) x,cs[j]? =some x->Pu x)
   (h:∀(j:Nat) x,cs[j]? =some x->ae E (u j) x):ae E (.pointer (some ⟨b,q,none⟩)) (.pim cs o)
 |ref {id sz i o b q:Nat} (hi:E.kn id) (hd:¬E.dead id) (hb:E.loc id=some b) (hq:q=i*sz+o) (hz:sz≠0:=by first|assumption|omega|(dsimp only;omega)):ae E (.pointer (some ⟨b,q,none⟩)) (.ref id sz i o)
 |own {id sz off n c b q m:Nat} {t:TypeId} (hi:E.kn id) (hd:¬E.dead id) (hb:E.loc id=some b) (hq:q=off*sz\/c=0) (hs:E.w.shape? b=some (t,m)) (hm:(off+c)*sz<=m) (hl:n<=c) (hc:c<=9223372036854775807) (aZ:E.ln id<=off+c) (hz:sz≠0:=by first|assumption|omega|(dsimp only;omega)):
   ae E (.slice (some ⟨b,q,none⟩) n c) (.own id sz off n)
 |bL {id sz:Nat} {A:Option Addr} (hi:E.kn id) (hd:¬E.dead id) (hb:E.loc id=none) (aZ:E.ln id=0) (hz:sz≠0:=by first|assumption|omega|(dsimp only;omega)):ae E (.slice A 0 0) (.own id sz 0 0)
 |dZ {v:Value} {id sz i o:Nat} (hi:E.kn id) (hd:E.dead id) (ho:v.oneCell'=true):ae E v (.ref id sz i o)
 |ck {v:Value} {id sz off n:Nat} (hi:E.kn id) (hd:E.dead id) (ho:v.oneCell'=true):ae E v (.own id sz off n)
 |fn {f:FuncId} {vs:Array Value} {cs:List AV} (hl:vs.size=cs.length) (h:∀(i:Nat) v c,vs[i]? =some v->cs[i]? =some c->ae E v c):ae E (.func (.func f) #[] vs) (.fn f cs)
 |bf {f:FuncId} {vs:Array Value} {cs:List AV} (hl:vs.size=cs.length) (h:∀(i:Nat) v c,vs[i]? =some v->cs[i]? =some c->ae E v c):ae E (.func (.func f) vs #[]) (.bf f cs)
 |dY {l:Nat} {r:Loop} {cs:List AV} (hg:E.rg l) (hI:E.I l) (hh:E.w.heap[l]? =some (.loop r)) (hl:r.tmps.size=cs.length) (h:∀(i:Nat) v c,r.tmps[i]? =some v->cs[i]? =some c->ae E v c):ae E (.func (.yield l) #[] #[]) (.dY r cs)
 |mp {id b:Nat} (hi:E.kn id) (hd:¬E.dead id) (hb:E.loc id=some b):ae E (.map (some b)) (.mp id)
 |gB {v:Value} {id:Nat} (hi:E.kn id) (hd:E.dead id) (ho:v.oneCell'=true):ae E v (.mp id)
 |dq {b:Bool}:ae E (.bool b) .dq
 |dead {v:Value}:ae E v .dead
structure Env.Le (E E':Env):Prop where
 kn:∀id,E.kn id->E'.kn id
 dP:∀b,E.I b->E'.I b/\E'.w.heap[b]? =E.w.heap[b]?
 dead:∀id,E.kn id->E.dead id->E'.dead id
 loc:∀id,E.kn id->¬E.dead id->E'.dead id\/(E'.loc id=E.loc id)
 shape:∀id b,E.kn id->¬E.dead id->E.loc id=some b->E'.dead id\/E'.w.shape? b=E.w.shape? b
 ln:∀id,E.kn id->¬E.dead id->E'.dead id\/E'.ln id=E.ln id
 rg:∀l,E.rg l->E'.rg l
 fx:∀b,E.X b->E'.X b/\E'.w.heap[b]? =E.w.heap[b]?
theorem Env.Le.cell {E E':Env} (hE:E.Le E') {b:Nat} (hb:E.I b) (o:Nat):E'.w.cell? ⟨b,o,none⟩=E.w.cell? ⟨b,o,none⟩:=World.cell?_of_block (w:=E.w) (w':=E'.w) (a:=⟨b,o,none⟩) (hE.dP b hb).2
def dQ (E:Env):Prop:=True
theorem dQ.step {E E':Env} (hE:E.Le E') (h:dQ E):dQ E':=trivial
def glArg:Nat->Option AV:=fun _=>none
theorem dQ.arg (h:dQ E) {g:Nat} {c:AV} (hc:glArg g=some c):ae E (.pointer (some ⟨g,0,none⟩)) c:=by simp [glArg] at hc
theorem ae.step {E E':Env} (hE:E.Le E') {v:Value} {a:AV} (h:ae E v a):ae E' v a:=by
 induction h with
 |v h=>exact .v h
 |agg hl h ih=>exact .agg hl ih
 |aG hl h ih=>exact .aG hl ih
 |dy hc=>exact .dy hc
 |dO u hn hl hc hb hz hu h1 h ih=>exact .dO u hn hl hc (hE.dP _ hb).1 hz (fun i cs j x hi hj=>by rw [hE.cell hb];exact hu i cs j x hi hj) h1 ih
 |cy h ih=>exact .cy ih
 |emp=>exact .emp
 |pim u hb hq hu h1 h ih=>exact .pim u (hE.dP _ hb).1 hq (fun j x hj=>by rw [hE.cell hb];exact hu j x hj) h1 ih
 | @mp id b hi hd hb=>
  by_cases hx:E'.dead id
  ·exact .gB (hE.kn _ hi) hx rfl
  ·exact .mp (hE.kn _ hi) hx (((hE.loc _ hi hd).resolve_left hx).trans hb)
 |gB hi hd ho=>exact .gB (hE.kn _ hi) (hE.dead _ hi hd) ho
 | @ref id sz i o b q hi hd hb hq=>
  by_cases hx:E'.dead id
  ·exact .dZ (hE.kn _ hi) hx rfl
  ·exact .ref (hE.kn _ hi) hx (((hE.loc _ hi hd).resolve_left hx).trans hb) hq
 | @own id sz off n c b q m t hi hd hb hq hs hm hl hc aZ=>
  by_cases hx:E'.dead id
  ·exact .ck (hE.kn _ hi) hx rfl
  ·exact .own (hE.kn _ hi) hx (((hE.loc _ hi hd).resolve_left hx).trans hb) hq (((hE.shape _ _ hi hd hb).resolve_left hx).trans hs) hm hl hc (by rw [(hE.ln _ hi hd).resolve_left hx];exact aZ)
 | @bL id sz A hi hd hb aZ=>
  by_cases hx:E'.dead id
  ·exact .ck (hE.kn _ hi) hx rfl
  ·exact .bL (hE.kn _ hi) hx (((hE.loc _ hi hd).resolve_left hx).trans hb) (((hE.ln _ hi hd).resolve_left hx).trans aZ)
 |dZ hi hd ho=>exact .dZ (hE.kn _ hi) (hE.dead _ hi hd) ho
 |ck hi hd ho=>exact .ck (hE.kn _ hi) (hE.dead _ hi hd) ho
 |fn hl h ih=>exact .fn hl ih
 |bf hl h ih=>exact .bf hl ih
 |dY hg hI hh hl h ih=>exact .dY (hE.rg _ hg) (hE.dP _ hI).1 ((hE.dP _ hI).2.trans hh) hl ih
 |dq=>exact .dq
 |dead=>exact .dead
theorem ae.pure (hI:∀b,E.I b->E'.I b/\∀o,E'.w.cell? ⟨b,o,none⟩=E.w.cell? ⟨b,o,none⟩) (h:ae E v a) (hp:Pu a):ae E' v a:=by
 induction h with
 |v h=>exact .v h
 |agg hl h ih=>cases hp with|agg hp=>exact .agg hl fun i v c hv hc=>ih i v c hv hc (hp c (Lq hc))
 |aG hl h ih=>cases hp with|aG hp=>exact .aG hl fun i v c hv hc=>ih i v c hv hc (hp c (Lq hc))
 |dy hc=>exact .dy hc
 |dO u hn hl hc hb hz hu h1 h ih=>exact .dO u hn hl hc (hI _ hb).1 hz (fun i cs j x hi hj=>by rw [(hI _ hb).2];exact hu i cs j x hi hj) h1 fun i cs j x hi hj=>ih i cs j x hi hj (h1 i cs j x hi hj).2
 |cy h ih=>exact .cy (ih .aN)
 |emp=>exact .emp
 |pim u hb hq hu h1 h ih=>exact .pim u (hI _ hb).1 hq (fun j x hj=>by rw [(hI _ hb).2];exact hu j x hj) h1 fun j x hj=>ih j x hj (h1 j x hj)
 |ref=>cases hp
 |own=>cases hp
 |bL=>cases hp
 |dZ=>cases hp
 |ck=>cases hp
 |fn hl h ih=>cases hp with|fn hp=>exact .fn hl fun i v c hv hc=>ih i v c hv hc (hp c (Lq hc))
 |bf hl h ih=>cases hp with|bf hp=>exact .bf hl fun i v c hv hc=>ih i v c hv hc (hp c (Lq hc))
 |dY=>cases hp
 |mp=>cases hp
 |gB=>cases hp
 |dq=>exact .dq
 |dead=>exact .dead
theorem ae.pI {id:Nat} (h:ae E v (.own id sz off n)) (hd:¬E.dead id):sz≠0:=by
 cases h with
 |own=>assumption
 |bL=>assumption
 |ck _ hx=>exact absurd hx hd
theorem Env.Le.refl (E:Env):E.Le E:=⟨fun _ h=>h,fun _ h=>⟨h,rfl⟩,fun _ _ h=>h,fun _ _ _=> .inr rfl,fun _ _ _ _ _=> .inr rfl,fun _ _ _=> .inr rfl,fun _ h=>h,fun _ h=>⟨h,rfl⟩⟩
theorem Env.Le.trans {E E' kg:Env} (h:E.Le E') (k:E'.Le kg):E.Le kg:=by
 refine ⟨fun id hi=>k.kn _ (h.kn _ hi),fun b hb=>⟨(k.dP b (h.dP b hb).1).1,((k.dP b (h.dP b hb).1).2).trans ((h.dP b hb).2)⟩,fun id hi hd=>k.dead _ (h.kn _ hi) (h.dead _ hi hd),fun id hi hd=> ?_,fun id b hi hd hb=> ?_,fun id hi hd=> ?_,fun l hg=>k.rg l (h.rg l hg),fun b hb=>⟨(k.fx b (h.fx b hb).1).1,((k.fx b (h.fx b hb).1).2).trans ((h.fx b hb).2)⟩⟩
 ·by_cases hx:E'.dead id
  ·exact .inl (k.dead _ (h.kn _ hi) hx)
  ·rcases k.loc _ (h.kn _ hi) hx with k1|k1
   ·exact .inl k1
   ·exact .inr (k1.trans ((h.loc _ hi hd).resolve_left hx))
 ·by_cases hx:E'.dead id
  ·exact .inl (k.dead _ (h.kn _ hi) hx)
  ·have hl:=(h.loc _ hi hd).resolve_left hx
   rcases k.shape id b (h.kn _ hi) hx (hl.trans hb) with k1|k1
   ·exact .inl k1
   ·exact .inr (k1.trans ((h.shape _ _ hi hd hb).resolve_left hx))
 ·by_cases hx:E'.dead id
  ·exact .inl (k.dead _ (h.kn _ hi) hx)
  ·rcases k.ln _ (h.kn _ hi) hx with k1|k1
   ·exact .inl k1
   ·exact .inr (k1.trans ((h.ln _ hi hd).resolve_left hx))
def gC (n:Nat):Nat->Nat×Nat
 |0=>(0,0)
 |k+1=>(n,n+k+1)
def sA (E:Env) (B:Bk) (b:Nat):Prop:=∃(arr:Array Value) (t:TypeId×Nat),E.w.heap[b]? =some (.cells arr t.1 (gC arr.size t.2))/\B.els.length*B.sz<=arr.size/\
   ∀(i:Nat) cs,B.els[i]? =some cs->cs.length=B.sz/\∀(j:Nat) x,cs[j]? =some x->∃u,arr[i*B.sz+j]? =some u/\u.oneCell'=true/\ae E u x
def pJ (E:Env) (els:List (List AV)) (b:Nat):Prop:=∃(es:Array MapEntry) (clock:Nat),E.w.heap[b]? =some (.map es clock)/\es.size=els.length/\
   ∀(i:Nat) e cs,es[i]? =some e->els[i]? =some cs->∃x,cs=[.v e.key,x]/\plainV e.key=true/\ae E e.val x
def ct (E:Env) (base:Nat) (B:Bk):Option Nat->Prop
 |none=>B.els=[]
 |some b=>base<=b/\((B.sz≠0/\sA E B b)\/(B.sz=0/\pJ E B.els b))
theorem ct.cells {B:Bk} (h:ct E base B (some b)) (hz:B.sz≠0):base<=b/\sA E B b:=⟨h.1,(h.2.resolve_right fun hh=>hz hh.1).2⟩
theorem ct.wM {B:Bk} (h:ct E base B (some b)) (hz:B.sz=0):base<=b/\pJ E B.els b:=⟨h.1,(h.2.resolve_left fun hh=>hh.1 hz).2⟩
theorem ct.iE {B:Bk} (h:base<=b/\sA E B b) (hz:B.sz≠0):ct E base B (some b):=⟨h.1, .inl ⟨hz,h.2⟩⟩
theorem ct.ofMap {B:Bk} (h:base<=b/\pJ E B.els b) (hz:B.sz=0):ct E base B (some b):=⟨h.1, .inr ⟨hz,h.2⟩⟩
structure aB (E:Env) (J:Nat->Prop) (base:Nat) (g:Nat->Option Bk):Prop where
 live:∀id,(E.kn id/\¬E.dead id)↔∃B,g id=some B
 at_:∀id B,g id=some B->ct E base B (E.loc id)
 apart:∀id cm b B B',g id=some B->g cm=some B'->E.loc id=some b->E.loc cm=some b->id=cm
 out:∀id b B,g id=some B->E.loc id=some b->¬E.I b
 low:∀b,E.I b->b<E.w.heap.size/\(J b\/base<=b)
 size:base<=E.w.heap.size
 len:∀id B,g id=some B->B.sz≠0->B.els.length=E.ln id
 gi:∀l,E.rg l->base<=l
 xo:∀b,E.X b->b<E.w.heap.size/\¬E.I b/\∀id B,g id=some B->E.loc id≠some b
def aj (g:Nat->Option Bk):List (Nat×Option Bk)->Nat->Option Bk
 |[]=>g
 |(id,x)::r=>aj (fun k=>if k=id then x else g k) r
theorem ct.lt {B:Bk} (h:ct E base B (some b)):base<=b/\b<E.w.heap.size:=by
 obtain ⟨h1,⟨_,arr,t,h2,_⟩|⟨_,es,clock,h2,_⟩⟩:=h
 ·exact ⟨h1,(Lw.1 h2).1⟩
 ·exact ⟨h1,(Lw.1 h2).1⟩
theorem ct.bD (hE:E.Le E') {B:Bk} {l:Option Nat} (h:ct E base B l) (hw:∀b,l=some b->E'.w.heap[b]? =E.w.heap[b]?):ct E' base B l:=by
 cases l with
 |none=>exact h
 |some b=>
  obtain ⟨h1,⟨hz,arr,t,h2,h3,h4⟩|⟨hz,es,clock,h2,h3,h4⟩⟩:=h
  ·refine ⟨h1, .inl ⟨hz,arr,t,(hw b rfl).trans h2,h3,fun i cs hi=>⟨(h4 i cs hi).1,fun j x hj=> ?_⟩⟩⟩
   obtain ⟨u,k1,k2,k3⟩:=(h4 i cs hi).2 j x hj
   exact ⟨u,k1,k2,k3.step hE⟩
  ·refine ⟨h1, .inr ⟨hz,es,clock,(hw b rfl).trans h2,h3,fun i e cs he hi=> ?_⟩⟩
   obtain ⟨x,k1,k2,k3⟩:=h4 i e cs he hi
   exact ⟨x,k1,k2,k3.step hE⟩
theorem aB.sB (h:aB E J base g) (fresh:Nat) (hf:¬E.kn fresh) (ob:Obj) (B:Bk)
  (hB:∀E':Env,E.Le E'->E'.w=E.w.alloc ob->ct E' base B (some E.w.heap.size)):
  ∃E':Env,E'.w=E.w.alloc ob/\E.Le E'/\aB E' J base (aj g [(fresh,some B)])/\E'.kn fresh/\¬E'.dead fresh/\E'.loc fresh=some E.w.heap.size/\(∀id,E'.kn id->E.kn id\/id=fresh)/\E'.ln fresh=B.els.length:=by
 have hlt:∀id b B,g id=some B->E.loc id=some b->b<E.w.heap.size:=fun id b B hg hb=>by
  have:=h.at_ id B hg;rw [hb] at this;exact this.lt.2
 let E':Env:={ w:=E.w.alloc ob,kn:=fun id=>E.kn id\/id=fresh,loc:=fun id=>if id=fresh then some E.w.heap.size else E.loc id,dead:=fun id=>E.dead id/\id≠fresh,I:=E.I,ln:=fun id=>if id=fresh then B.els.length else E.ln id,rg:=E.rg,X:=E.X }
 have aA:∀id,E.kn id->id≠fresh:=fun id hi he=>hf (he▸hi)
 have hE:E.Le E':=by
  refine ⟨fun id hi=> .inl hi,fun b hb=>⟨hb,Lm _ _ _ (h.low b hb).1⟩,fun id hi hd=>⟨hd,aA id hi⟩,fun id hi hd=> .inr (KK (aA id hi)),fun id b hi hd hb=> .inr ?_,fun id hi hd=> .inr (KK (aA id hi)),fun _ h=>h,fun b hb=>⟨hb,Lm _ _ _ (h.xo b hb).1⟩⟩
  obtain ⟨B',aP⟩:=(h.live id).1 ⟨hi,hd⟩
  have aV:=hlt id b B' aP hb
  show (E.w.alloc _).shape? b=_
  simp only [World.shape?]
  rw [Lm _ _ _ aV]
 refine ⟨E',rfl,hE, ?_, .inr rfl,fun hd=>hd.2 rfl,KL rfl,fun id hi=>hi,KL rfl⟩
 refine ⟨fun id=> ?_,fun id B' hg=> ?_,fun id cm b B1 B2 h1 h2 h3 h4=> ?_,fun id b B' hg hb hI=> ?_,fun b hb=> ?_, ?_,fun id B' hg cD=> ?_,h.gi,fun b hb=>⟨?_,(h.xo b hb).2.1,fun k B1 hk he=> ?_⟩⟩
 ·simp only [aj]
  by_cases hid:id=fresh
  ·subst hid
   simp [E']
  ·simp only [hid,Lh]
   rw [<-h.live id]
   simp [E',hid]
 ·simp only [aj] at hg
  by_cases hid:id=fresh
  ·subst hid
   simp only [KN,KJ] at hg
   subst hg
   show ct E' base B (if id=id then _ else _)
   rw [KL rfl]
   exact hB E' hE rfl
  ·simp only [hid,Lh] at hg
   show ct E' base B' (if id=fresh then _ else _)
   rw [KK hid]
   exact (h.at_ id B' hg).bD hE fun b hb=>Lm _ _ _ (hlt id b B' hg hb)
 ·simp only [aj] at h1 h2
  have e3:(if id=fresh then some E.w.heap.size else E.loc id)=some b:=h3
  have e4:(if cm=fresh then some E.w.heap.size else E.loc cm)=some b:=h4
  by_cases hid:id=fresh<;>by_cases g5:cm=fresh
  ·rw [hid,g5]
  ·rw [KL hid] at e3;rw [KK g5] at e4 h2
   have:=hlt _ _ _ h2 e4
   simp only [KJ] at e3;omega
  ·rw [KK hid] at e3 h1;rw [KL g5] at e4
   have:=hlt _ _ _ h1 e3
   simp only [KJ] at e4;omega
  ·rw [KK hid] at e3 h1;rw [KK g5] at e4 h2
   exact h.apart id cm b B1 B2 h1 h2 e3 e4
 ·simp only [aj] at hg
  have e3:(if id=fresh then some E.w.heap.size else E.loc id)=some b:=hb
  by_cases hid:id=fresh
  ·rw [KL hid] at e3
   have:=(h.low b hI).1
   simp only [KJ] at e3;omega
  ·rw [KK hid] at e3 hg
   exact h.out id b B' hg e3 hI
 ·have:=h.low b hb
  refine ⟨?_,this.2⟩
  show b<(E.w.alloc _).heap.size
  simp;omega
 ·show base<=(E.w.alloc _).heap.size
  have:=h.size
  simp;omega
 ·simp only [aj] at hg
  show _=if id=fresh then _ else _
  by_cases hid:id=fresh
  ·rw [KL hid] at hg ⊢
   simp only [KJ] at hg;rw [hg]
  ·rw [KK hid] at hg ⊢
   exact h.len id B' hg cD
 ·have:=(h.xo b hb).1
  show b<(E.w.alloc _).heap.size
  simp;omega
 ·have e3:(if k=fresh then some E.w.heap.size else E.loc k)=some b:=he
  simp only [aj] at hk
  by_cases hid:k=fresh
  ·rw [KL hid] at e3
   have:=(h.xo b hb).1
   simp only [KJ] at e3;omega
  ·rw [KK hid] at e3 hk
   exact (h.xo b hb).2.2 k B1 hk e3
theorem aB.alloc {E:Env} {J:Nat->Prop} {base:Nat} {g:Nat->Option Bk} (h:aB E J base g) (fresh:Nat) (hf:¬E.kn fresh) (arr:Array Value) (t:TypeId) (B:Bk)
  (hB:∀E':Env,E.Le E'->B.els.length*B.sz<=arr.size/\∀(i:Nat) cs,B.els[i]? =some cs->cs.length=B.sz/\∀(j:Nat) x,cs[j]? =some x->∃u,arr[i*B.sz+j]? =some u/\u.oneCell'=true/\ae E' u x) (hz:B.sz≠0:=by first|assumption|omega|(dsimp only;omega)):
  ∃E':Env,E'.w=E.w.alloc (.cells arr t)/\E.Le E'/\aB E' J base (aj g [(fresh,some B)])/\E'.kn fresh/\¬E'.dead fresh/\E'.loc fresh=some E.w.heap.size/\(∀id,E'.kn id->E.kn id\/id=fresh)/\E'.ln fresh=B.els.length:=
 h.sB fresh hf _ B fun E' hE hw=> .iE ⟨h.size,arr,(t,0),by rw [hw];exact heap_alloc_new E.w _,(hB E' hE).1,(hB E' hE).2⟩ hz
theorem aB.wN (h:aB E J base g) (id b:Nat) (B B':Bk) (hg:g id=some B) (hb:E.loc id=some b) (w':World)
  (mh:∀k,k≠b->w'.heap[k]? =E.w.heap[k]?) (hsz:w'.heap.size=E.w.heap.size) (wO:w'.shape? b=E.w.shape? b) (hlen:B'.sz≠0->B.sz≠0/\B'.els.length=B.els.length)
  (hB:∀E':Env,E.Le E'->E'.w=w'->ct E' base B' (some b)):
  ∃E':Env,E'.w=w'/\E.Le E'/\aB E' J base (aj g [(id,some B')])/\(∀id,E'.kn id->E.kn id):=by
 have bM:=h.at_ id B hg
 rw [hb] at bM
 have Ka:=bM.lt
 let E':Env:={ E with w:=w' }
 have mh:∀k,k≠b->E'.w.heap[k]? =E.w.heap[k]? :=mh
 have hE:E.Le E':=by
  refine ⟨fun _ h=>h,fun k hk=>⟨hk, ?_⟩,fun _ _ h=>h,fun _ _ _=> .inr rfl,fun cm b' hi hd aV=> .inr ?_,fun _ _ _=> .inr rfl,fun _ h=>h,fun k hk=>⟨hk,mh k fun e=>(h.xo k hk).2.2 id B hg (e▸hb)⟩⟩
  ·have pK:k≠b:=fun e=>h.out id b B hg hb (e▸hk)
   exact mh k pK
  ·show E'.w.shape? b'=_
   by_cases hbb:b'=b
   ·subst hbb
    exact wO
   ·simp only [World.shape?,mh b' hbb]
 refine ⟨E',rfl,hE, ?_,fun _ h=>h⟩
 have key:∀k B1,aj g [(id,some B')] k=some B1->∃B0,g k=some B0:=fun k B1 hk=>by
  simp only [aj] at hk
  by_cases fk:k=id
  ·exact ⟨B,fk▸hg⟩
  ·rw [KK fk] at hk;exact ⟨B1,hk⟩
 refine ⟨fun k=> ?_,fun k B1 hk=> ?_,fun k k' b' B1 B2 h1 h2 h3 h4=> ?_,fun k b' B1 hk aV hI=> ?_,fun k hk=> ?_, ?_,fun k B1 hk cD=> ?_,h.gi,fun b' aV=>⟨by show b'<w'.heap.size;rw [hsz];exact (h.xo b' aV).1,(h.xo b' aV).2.1,fun k B1 hk he=>(key k B1 hk).elim fun B3 k3=>(h.xo b' aV).2.2 k B3 k3 he⟩⟩
 ·rw [show (E'.kn k/\¬E'.dead k)↔(E.kn k/\¬E.dead k) from Iff.rfl,h.live k]
  simp only [aj]
  by_cases fk:k=id
  ·subst fk;simp [hg]
  ·simp [fk]
 ·simp only [aj] at hk
  by_cases fk:k=id
  ·subst fk
   rw [KL rfl] at hk
   simp only [KJ] at hk
   subst hk
   show ct E' base B' (E.loc k)
   rw [hb]
   exact hB E' hE rfl
  ·rw [KK fk] at hk
   refine (h.at_ k B1 hk).bD hE fun b' aV=>mh b' fun e=>fk ?_
   subst e
   exact h.apart k id b' B1 B hk hg aV hb
 ·obtain ⟨B3,k3⟩:=key k B1 h1
  obtain ⟨B4,k4⟩:=key k' B2 h2
  exact h.apart k k' b' B3 B4 k3 k4 h3 h4
 ·obtain ⟨B3,k3⟩:=key k B1 hk
  exact h.out k b' B3 k3 aV hI
 ·have:=h.low k hk
  refine ⟨?_,this.2⟩
  show k<w'.heap.size
  rw [hsz];exact this.1
 ·show base<=w'.heap.size
  rw [hsz];exact h.size
 ·simp only [aj] at hk
  show _=E.ln k
  by_cases fk:k=id
  ·subst fk
   rw [KL rfl] at hk
   simp only [KJ] at hk
   subst hk;rw [(hlen cD).2];exact h.len k B hg (hlen cD).1
  ·rw [KK fk] at hk
   exact h.len k B1 hk cD
theorem aB.set (h:aB E J base g) (id b:Nat) (B B':Bk) (hg:g id=some B) (hb:E.loc id=some b) (arr dz:Array Value) (t:TypeId×Nat)
  (ha:E.w.heap[b]? =some (.cells arr t.1 (gC arr.size t.2))) (hs:dz.size=arr.size) (hlen:B'.els.length=B.els.length)
  (hB:∀E':Env,E.Le E'->B'.els.length*B'.sz<=arr.size/\∀(i:Nat) cs,B'.els[i]? =some cs->cs.length=B'.sz/\∀(j:Nat) x,cs[j]? =some x->∃u,dz[i*B'.sz+j]? =some u/\u.oneCell'=true/\ae E' u x) (hz:B.sz≠0:=by first|assumption|omega|(dsimp only;omega)) (Br:B'.sz≠0:=by first|assumption|omega|(dsimp only;omega)):
  ∃E':Env,E'.w=E.w.setRow b dz/\E.Le E'/\aB E' J base (aj g [(id,some B')])/\(∀id,E'.kn id->E.kn id):=by
 have bM:=h.at_ id B hg
 rw [hb] at bM
 have hrow:(E.w.setRow b dz).heap[b]? =some (.cells dz t.1 (gC dz.size t.2)):=by rw [hs];exact setRow_heap E.w b arr dz t.1 _ ha
 refine h.wN id b B B' hg hb (E.w.setRow b dz) (fun k hk=>setRow_other E.w b k dz (by exact hk)) (by simp [World.setRow]) (by simp only [World.shape?,hrow,ha,hs]) (fun _=>⟨hz,hlen⟩) fun E' hE hw=> ?_
 exact .iE ⟨bM.lt.1,dz,t,by rw [hw];exact hrow,by rw [hs];exact (hB E' hE).1,(hB E' hE).2⟩ Br
theorem aB.kill (h:aB E J base g) (ids:List Nat) (hk:∀id,id∈ids->E.kn id):
  ∃E':Env,E'.w=E.w/\E.Le E'/\aB E' J base (aj g (ids.map fun id=>(id,none)))/\(∀id,E'.kn id->E.kn id)/\(∀id b B,id∈ids->g id=some B->E.loc id=some b->E'.I b)/\(∀b,E.I b->E'.I b):=by
 let E':Env:={ E with dead:=fun id=>E.dead id\/id∈ids,I:=fun b=>E.I b\/∃id B,id∈ids/\g id=some B/\E.loc id=some b }
 have hE:E.Le E':=⟨fun _ h=>h,fun b hb=>⟨.inl hb,rfl⟩,fun _ _ h=> .inl h,fun _ _ _=> .inr rfl,fun _ _ _ _ _=> .inr rfl,fun _ _ _=> .inr rfl,fun _ h=>h,fun _ h=>⟨h,rfl⟩⟩
 have key:∀(l:List Nat) (g:Nat->Option Bk) k,aj g (l.map fun id=>(id,none)) k=if k∈l then none else g k:=by
  intro l
  induction l with
  |nil=>intro g k;simp [aj]
  |cons a l ih=>
   intro g k
   simp only [KW,aj,ih]
   by_cases h1:k∈l
   ·simp [h1]
   ·by_cases h2:k=a
    ·subst h2;simp
    ·simp [h1,h2]
 refine ⟨E',rfl,hE, ?_,fun _ h=>h,fun id b B h1 h2 h3=> .inr ⟨id,B,h1,h2,h3⟩,fun b hb=> .inl hb⟩
 refine ⟨fun k=> ?_,fun k B1 hk1=> ?_,fun k k' b' B1 B2 h1 h2 h3 h4=> ?_,fun k b' B1 hk1 aV hI=> ?_,fun k hk1=> ?_,h.size,fun k B1 hk1=> ?_,h.gi,fun b hb=>⟨(h.xo b hb).1,fun hI=> ?_,fun k B1 hk1 he=> ?_⟩⟩
 ·rw [key]
  by_cases h1:k∈ids
  ·simp [E',h1]
  ·simp only [h1,Lh, <-h.live k]
   simp [E',h1]
 ·rw [key] at hk1
  by_cases h1:k∈ids
  ·simp [h1] at hk1
  ·rw [KK h1] at hk1
   exact (h.at_ k B1 hk1).bD hE fun _ _=>rfl
 ·rw [key] at h1 h2
  by_cases m1:k∈ids
  ·simp [m1] at h1
  ·by_cases m2:k'∈ids
   ·simp [m2] at h2
   ·rw [KK m1] at h1;rw [KK m2] at h2
    exact h.apart k k' b' B1 B2 h1 h2 h3 h4
 ·rw [key] at hk1
  by_cases m1:k∈ids
  ·simp [m1] at hk1
  ·rw [KK m1] at hk1
   rcases hI with hI|⟨id,B,hi,hg,hl⟩
   ·exact h.out k b' B1 hk1 aV hI
   ·have:=h.apart k id b' B1 B hk1 hg aV hl
    exact m1 (this▸hi)
 ·rcases hk1 with hI|⟨id,B,hi,hg,hl⟩
  ·exact h.low k hI
  ·have:=h.at_ id B hg
   rw [hl] at this
   exact ⟨this.lt.2, .inr this.lt.1⟩
 ·rw [key] at hk1
  by_cases m1:k∈ids
  ·simp [m1] at hk1
  ·rw [KK m1] at hk1
   exact h.len k B1 hk1
 ·rcases hI with hI|⟨id,B,_,hg,hl⟩
  ·exact (h.xo b hb).2.1 hI
  ·exact (h.xo b hb).2.2 id B hg hl
 ·rw [key] at hk1
  by_cases m1:k∈ids
  ·simp [m1] at hk1
  ·rw [KK m1] at hk1
   exact (h.xo b hb).2.2 k B1 hk1 he
open Go.RowKit
def AV.cells:AV->List AV
 | .agg cs=>cs
 |a=>[a]
def AV.one:AV->Bool
 | .v x=>x.oneCell'
 | .agg _| .aG _| .dead=>false
 |_=>true
def AV.fK:AV->Bool
 | .agg _=>true
 |a=>a.one
inductive Arg where
 |s (t:Nat)
 |c (a:AV)
variable {x y i k:Arg} {ρ:Arg->AV} {iF iG amx:Option Arg}
inductive Out where
 |done (val:AV) (ups:List (Nat×Option Bk))
 |call (f:FuncId) (args:List AV)
inductive RM (α:Type) where
 |ret (a:α)
 |fail
 |rd (id:Nat) (k:Bk->RM α)
 |lv (id:Nat) (k:RM α)
def RM.run {α:Type} (g:Nat->Option Bk):RM α->Option α
 | .ret a=>some a
 | .fail=>none
 | .rd id k=>match g id with
  |some B=>(k B).run g
  |none=>none
 | .lv id k=>match g id with
  |some _=>k.run g
  |none=>none
def RM.acc {α:Type} (g:Nat->Option Bk):RM α->List Nat
 | .ret _=>[]
 | .fail=>[]
 | .rd id k=>match g id with
  |some B=>id::(k B).acc g
  |none=>[id]
 | .lv _ k=>k.acc g
def RM.see {α:Type} (g:Nat->Option Bk):RM α->List Nat
 | .ret _=>[]
 | .fail=>[]
 | .rd id k=>match g id with
  |some B=>(k B).see g
  |none=>[]
 | .lv id k=>id::k.see g
def RM.opt {α:Type}:Option α->RM α
 |some a=> .ret a
 |none=> .fail
theorem RM.local {α:Type} {g g':Nat->Option Bk}:∀(m:RM α),(∀id,id∈m.acc g->g' id=g id)->(∀id,id∈m.see g->(g' id).isSome=(g id).isSome)->m.run g'=m.run g
 | .ret _,_,_=>rfl
 | .fail,_,_=>rfl
 | .rd id k,h,h2=>by
  have h1:g' id=g id:=h id (by simp only [RM.acc];cases g id<;>simp)
  simp only [RM.run,h1]
  cases hg:g id with
  |none=>rfl
  |some B=>exact RM.local (k B) (fun j hj=>h j (by simp only [RM.acc,hg];exact Lx _ hj)) (fun j hj=>h2 j (by simp only [RM.see,hg];exact hj))
 | .lv id k,h,h2=>by
  have h1:=h2 id (by simp [RM.see])
  have ih:=RM.local k (fun j hj=>h j (by simpa [RM.acc] using hj)) (fun j hj=>h2 j (by simp only [RM.see];exact Lx _ hj))
  simp only [RM.run]
  cases hg:g id with
  |none=>rw [hg] at h1;simp at h1;simp [h1]
  |some B=>
   rw [hg] at h1
   obtain ⟨B',aP⟩:=MD.1 (by simpa using h1)
   simp only [aP];exact ih
inductive NK where
 |sl
 |fn
 |pt
inductive LK where
 |int
 |str
 |bool
variable {kd:LK}
inductive AO where
 |mov (x:Arg)
 |pick (c a b:Arg)
 |new (zs:List AV)
 |box (n:Nat) (x:Arg)
 |agg (zs:List AV) (parts:List (Nat×Nat×Arg))
 |bsl (sz len:Nat) (zs:List AV) (parts:List (Nat×Arg))
 |load (m:Option Nat) (x:Arg)
 |store (n:Nat) (x y:Arg)
 |nilc (x:Arg)
 |bin (bt:Bool) (op:BinOp) (x y:Arg)
 |un (op:UnOp) (x:Arg)
 |conv (k:IntKind) (x:Arg)
 |fad (off:Nat) (x:Arg)
 |fld (off:Nat) (m:Option Nat) (x:Arg)
 |iad (sz:Nat) (x i:Arg)
 |ext (i:Nat) (x:Arg)
 |len (str:Bool) (x:Arg)
 |isn (kd:NK) (neg:Bool) (x:Arg)
 |mnx (max:Bool) (x y:Arg)
 |eqs (neg:Bool) (n:Nat) (L:List (Nat×LK)) (x y:Arg)
 |msl (sz bytes:Nat) (zs:List AV) (l c:Arg)
 |slc (sz:Nat) (x:Arg) (lo hi mx:Option Arg)
 |sls (x:Arg) (lo hi:Option Arg)
 |six (x i:Arg)
 |app (sz bytes:Nat) (s x:Arg)
 |mkf (f:FuncId) (caps:List Arg)
 |mkb (f:FuncId) (first:List Arg)
 |iap (sz len:Nat) (x i:Arg)
 |ixa (sz len:Nat) (m:Option Nat) (x i:Arg)
 |clr (zs:List AV) (x:Arg)
 |cpy (sz:Nat) (x y:Arg)
 |b2s (x:Arg)
 |s2b (x:Arg)
 |mkm
 |mup (kd:LK) (x k y:Arg)
 |mlk (kd:LK) (z:AV) (x k:Arg)
 |bad
 |call (x:Arg) (args:List Arg)
def getCells (cs:List AV) (o:Nat):Option Nat->Option AV
 |none=>cs[o]?
 |some n=>if o+n<=cs.length then some (.agg ((cs.drop o).take n)) else none
def putCells (cs:List AV) (o:Nat) (ys:List AV):List AV:=cs.take o++ys++cs.drop (o+ys.length)
def fillA (ρ:Arg->AV) (cells:List AV):List (Nat×Nat×Arg)->Option (List AV)
 |[]=>some cells
 |(off,n,x)::r=>if (ρ x).cells.length=n/\off+n<=cells.length/\(ρ x).fK=true then fillA ρ (putCells cells off (ρ x).cells) r else none
def fillE (ρ:Arg->AV) (sz:Nat) (els:List (List AV)):List (Nat×Arg)->Option (List (List AV))
 |[]=>some els
 |(i,x)::r=>if (ρ x).cells.length=sz/\i<els.length/\(ρ x).cells.all AV.one=true then fillE ρ sz (els.set i (ρ x).cells) r else none
def gD (a b:ByteArray):Bool:=a.data.toList==b.data.toList
def binA (bt:Bool) (op:BinOp):Value->Value->Option Value
 | .int k a, .int k' b=>
  match op with
  | .shl=>if b<0 then none else some (.int k (k.wrap (a*2^(min b.toNat k.bits))))
  | .shr=>if b<0 then none else some (.int k (a.fdiv (2^(min b.toNat k.bits))))
  |_=>
  if k=k' then
   match op with
   | .add=>some (.int k (k.wrap (a+b)))
   | .sub=>some (.int k (k.wrap (a - b)))
   | .mul=>some (.int k (k.wrap (a*b)))
   | .quo=>if b=0 then none else some (.int k (k.wrap (a.tdiv b)))
   | .rem=>if b=0 then none else some (.int k (a.tmod b))
   | .and=>some (.int k (bits .and k a b))
   | .or=>some (.int k (bits .or k a b))
   | .xor=>some (.int k (bits .xor k a b))
   | .andNot=>some (.int k (bits .andNot k a b))
   | .eql=>some (.bool (a==b))
   | .neq=>some (.bool (a !=b))
   | .lss=>some (.bool (decide (a<b)))
   | .leq=>some (.bool (decide (a<=b)))
   | .gtr=>some (.bool (decide (a>b)))
   | .geq=>some (.bool (decide (a≥b)))
   |_=>none
  else none
 | .string a, .string b=>
  match op with
  | .eql=>some (.bool (gD a b))
  | .neq=>some (.bool (!(gD a b)))
  | .lss=>some (.bool (Op.bytesLess a.toList b.toList))
  | .add=>if ((a.size+b.size:Nat):Int)>IntKind.i64.max then none else some (.string (a++b))
  |_=>none
 | .bool a, .bool b=>
  if bt=true then
   match op with
   | .eql=>some (.bool (a==b))
   | .neq=>some (.bool (!(a==b)))
   |_=>none
  else none
 |_,_=>none
def unA:UnOp->Value->Option Value
 | .neg, .int k n=>some (.int k (k.wrap (0 - n)))
 | .xor, .int k n=>some (.int k (bits .xor k (if k.signed then -1 else k.max) n))
 | .not, .bool b=>some (.bool !b)
 |_,_=>none
def nz (mx:Bool):Value->Value->Option Value
 | .int k x, .int k' y=>if k=k' then some (.int k (if mx then (if y>x then y else x) else (if y<x then y else x))) else none
 |_,_=>none
def iH:LK->AV->AV->Option Bool
 | .int, .v (.int k a), .v (.int k' b)=>if k=k' then some (a==b) else none
 | .str, .v (.string a), .v (.string b)=>some (gD a b)
 | .bool, .v (.bool a), .v (.bool b)=>some (a==b)
 |_,_,_=>none
def eqA (cs ds:List AV):List (Nat×LK)->Option Bool
 |[]=>some true
 |(o,k)::r=>match cs[o]?,ds[o]? with
  |some a,some b=>match iH k a b,eqA cs ds r with
   |some x,some y=>some (x&&y)
   |_,_=>none
  |_,_=>none
def natOf:AV->Option Nat
 | .v (.int _ n)=>if 0<=n then some n.toNat else none
 |_=>none
def cE (ρ:Arg->AV):Option Arg->Option (Option Nat)
 |none=>some none
 |some x=>(natOf (ρ x)).map some
def bounds (ln:Nat) (lo hi:Option Nat):Option (Nat×Nat):=
 if lo.getD 0<=hi.getD ln/\hi.getD ln<=ln then some (lo.getD 0,hi.getD ln) else none
def cutL (sz:Nat) (els:List (List AV)) (l h:Nat):Option Nat->Option AV
 |none=>some (.aN sz ((els.drop l).take (h - l)))
 |some m=>if h<=m/\m<=els.length then some (if m=l then .emp else if m=h then .cy sz ((els.drop l).take (h - l)) else .aN sz ((els.drop l).take (h - l))) else none
def content (sz:Nat):AV->RM (List (List AV))
 | .aN s els=>if s=sz then .ret els else .fail
 | .cy s els=>if s=sz then .ret els else .fail
 | .emp=> .ret []
 | .own id s off n=> .rd id fun B=>if s=sz/\B.sz=sz/\off+n<=B.els.length then .ret ((B.els.drop off).take n) else .fail
 |_=> .fail
def RM.bind {α β:Type}:RM α->(α->RM β)->RM β
 | .ret a,f=>f a
 | .fail,_=> .fail
 | .rd id k,f=> .rd id fun B=>(k B).bind f
 | .lv id k,f=> .lv id (k.bind f)
def strOf:List (List AV)->Option (List UInt8)
 |[]=>some []
 |[.v (.int .u8 n)]::r=>(strOf r).map (UInt8.ofNat n.toNat:: ·)
 |_=>none
def keyEq:LK->Value->Value->Option Bool
 | .int, .int k a, .int k' b=>if k=k' then some (a==b) else none
 | .bool, .bool a, .bool b=>some (a==b)
 | .str, .string a, .string b=>some (a==b)
 |_,_,_=>none
def mfind (kd:LK) (k:Value):List (List AV)->Option (Option AV)
 |[]=>some none
 |[.v k',x]::r=>match keyEq kd k k' with
  |some true=>some (some x)
  |some false=>mfind kd k r
  |none=>none
 |_=>none
def AO.af (fresh:Nat) (ρ:Arg->AV):AO->RM Out
 | .mov x=> .ret (.done (ρ x) [])
 | .pick c a b=>match ρ c with
  | .v (.bool t)=> .ret (.done (if t then ρ a else ρ b) [])
  |_=> .fail
 | .new zs=> .ret (.done (.ref fresh zs.length 0 0) [(fresh,some ⟨zs.length,[zs]⟩)])
 | .box n x=>if (ρ x).cells.length=n/\(ρ x).cells.all AV.one=true then .ret (.done (.ref fresh n 0 0) [(fresh,some ⟨n,[(ρ x).cells]⟩)]) else .fail
 | .agg zs parts=> .opt ((fillA ρ zs parts).map fun cs=> .done (.agg cs) [])
 | .bsl sz ln zs parts=> .opt ((fillE ρ sz (List.replicate ln zs) parts).map fun els=> .done (.own fresh sz 0 ln) [(fresh,some ⟨sz,els⟩)])
 | .load m x=>match ρ x with
  | .pim cs o=> .opt ((getCells cs o m).map fun a=> .done a [])
  | .ref id sz i o=> .rd id fun B=>if B.sz=sz then .opt ((B.els[i]?.bind fun cs=>getCells cs o m).map fun a=> .done a []) else .fail
  |_=> .fail
 | .store n x y=>match ρ x with
  | .ref id sz i o=> .rd id fun B=>
   if B.sz=sz/\(ρ y).cells.length=n/\(ρ y).cells.all AV.one=true/\o+n<=sz then
    match B.els[i]? with
    |some cs=> .ret (.done (.v undef) [(id,some ⟨sz,B.els.set i (putCells cs o (ρ y).cells)⟩)])
    |none=> .fail
   else .fail
  |_=> .fail
 | .nilc x=>match ρ x with
  | .ref id sz i o=> .lv id (.ret (.done (.ref id sz i o) []))
  | .pim cs o=> .ret (.done (.pim cs o) [])
  |_=> .fail
 | .bin bt op x y=>match ρ x,ρ y with
  | .v a, .v b=> .opt ((binA bt op a b).map fun v=> .done (.v v) [])
  |_,_=> .fail
 | .un op x=>match ρ x with
  | .v a=> .opt ((unA op a).map fun v=> .done (.v v) [])
  |_=> .fail
 | .conv k x=>match ρ x with
  | .v (.int _ n)=> .ret (.done (.v (.int k (k.wrap n))) [])
  |_=> .fail
 | .fad off x=>match ρ x with
  | .ref id sz i o=> .lv id (.ret (.done (.ref id sz i (o+off)) []))
  | .pim cs o=> .ret (.done (.pim cs (o+off)) [])
  |_=> .fail
 | .fld off m x=>match ρ x with
  | .agg cs=> .opt ((getCells cs off m).map fun a=> .done a [])
  |_=> .fail
 | .iad sz x i=>match ρ x,ρ i with
  | .aN s els, .v (.int _ n)=>if s=sz/\0<=n then .opt (els[n.toNat]?.map fun cs=> .done (.pim cs 0) []) else .fail
  | .cy s els, .v (.int _ n)=>if s=sz/\0<=n then .opt (els[n.toNat]?.map fun cs=> .done (.pim cs 0) []) else .fail
  | .own id s off ln, .v (.int _ n)=>if s=sz/\0<=n/\n<ln then .lv id (.ret (.done (.ref id sz (off+n.toNat) 0) [])) else .fail
  |_,_=> .fail
 | .ext i x=>match ρ x with
  | .aG vs=> .opt (vs[i]?.map fun a=> .done a [])
  |_=> .fail
 | .len true x=>match ρ x with
  | .v (.string s)=> .ret (.done (.v (goInt s.size)) [])
  |_=> .fail
 | .len false x=>match ρ x with
  | .aN _ els=> .ret (.done (.v (goInt els.length)) [])
  | .cy _ els=> .ret (.done (.v (goInt els.length)) [])
  | .emp=> .ret (.done (.v (goInt 0)) [])
  | .own id _ _ n=> .lv id (.ret (.done (.v (goInt n)) []))
  |_=> .fail
 | .isn .sl neg x=>match ρ x with
  | .aN _ els=> .ret (.done (if els.isEmpty=true then .dq else .v (.bool neg)) [])
  | .cy _ els=> .ret (.done (if els.isEmpty=true then .dq else .v (.bool neg)) [])
  | .emp=> .ret (.done .dq [])
  | .own id _ _ n=> .lv id (.ret (.done (if n=0 then .dq else .v (.bool neg)) []))
  |_=> .fail
 | .isn .fn neg x=>match ρ x with
  | .fn _ _=> .ret (.done (.v (.bool neg)) [])
  | .bf _ _=> .ret (.done (.v (.bool neg)) [])
  | .v .nilFunc=> .ret (.done (.v (.bool !neg)) [])
  |_=> .fail
 | .isn .pt neg x=>match ρ x with
  | .ref id _ _ _=> .lv id (.ret (.done (.v (.bool neg)) []))
  | .pim _ _=> .ret (.done (.v (.bool neg)) [])
  | .v (.pointer none)=> .ret (.done (.v (.bool !neg)) [])
  |_=> .fail
 | .mnx mx x y=>match ρ x,ρ y with
  | .v a, .v b=> .opt ((nz mx a b).map fun v=> .done (.v v) [])
  |_,_=> .fail
 | .eqs neg n L x y=>match ρ x,ρ y with
  | .agg cs, .agg ds=>if cs.length=n/\ds.length=n then .opt ((eqA cs ds L).map fun b=> .done (.v (.bool (if neg then !b else b))) []) else .fail
  |_,_=> .fail
 | .msl sz bytes zs l c=>match natOf (ρ l),natOf (ρ c) with
  |some l,some c=>if l<=c/\c*bytes<=140737488355328 then .ret (.done (.own fresh sz 0 l) [(fresh,some ⟨sz,List.replicate l zs⟩)]) else .fail
  |_,_=> .fail
 | .slc sz x lo hi mx=>match cE ρ lo,cE ρ hi,cE ρ mx with
  |some lo,some hi,some mx=>match ρ x with
   | .aN s els=>if s=sz then .opt ((bounds els.length lo hi).bind fun b=>(cutL sz els b.1 b.2 mx).map fun a=> .done a []) else .fail
   | .cy s els=>if s=sz then .opt ((bounds els.length lo hi).bind fun b=>(cutL sz els b.1 b.2 mx).map fun a=> .done a []) else .fail
   | .emp=> .opt ((bounds 0 lo hi).bind fun _=>if mx.getD 0=0 then some (.done .emp []) else none)
   | .own id s off n=> .lv id (match mx with
    |none=>if s=sz then (match bounds n lo hi,hi with
     |some b,_=> .ret (.done (.own id sz (off+b.1) (b.2 - b.1)) [])
     |none,some h=> .rd id fun B=>if B.sz=sz then .opt ((bounds (B.els.length - off) lo (some h)).map fun b=> .done (.own id sz (off+b.1) (b.2 - b.1)) []) else .fail
     |none,none=> .fail) else .fail
    |some m=> .rd id fun B=>if s=sz/\B.sz=sz/\B.els.length<=off+m then .opt ((bounds n lo hi).bind fun b=>if b.2<=m/\m<=n then some (.done (if m=b.1 then .emp else .own id sz (off+b.1) (b.2 - b.1)) []) else none) else .fail)
   |_=> .fail
  |_,_,_=> .fail
 | .sls x lo hi=>match cE ρ lo,cE ρ hi,ρ x with
  |some lo,some hi, .v (.string s)=> .opt ((bounds s.size lo hi).map fun b=> .done (.v (.string (s.extract b.1 b.2))) [])
  |_,_,_=> .fail
 | .six x i=>match ρ x,natOf (ρ i) with
  | .v (.string s),some i=> .opt (s[i]?.map fun b=> .done (.v (.int .u8 b.toNat)) [])
  |_,_=> .fail
 | .app sz bytes s x=>(content sz (ρ x)).bind fun ys=>match ρ s with
  | .emp=>if ys.length*bytes<=140737488355328 then .ret (.done (.own fresh sz 0 ys.length) [(fresh,some ⟨sz,ys⟩)]) else .fail
  | .cy k els=>if k=sz/\ys.isEmpty=false/\(els.length+ys.length)*bytes<=140737488355328 then .ret (.done (.own fresh sz 0 (els.length+ys.length)) [(fresh,some ⟨sz,els++ys⟩)]) else .fail
  | .own id k off n=> .rd id fun B=>if k=sz/\B.sz=sz/\off=0/\n=B.els.length/\(n+ys.length)*bytes<=140737488355328 then .ret (.done (.own fresh sz 0 (n+ys.length)) [(id,none),(fresh,some ⟨sz,B.els++ys⟩)])
   else if k=sz/\B.sz=sz/\off+n+ys.length<=B.els.length then .ret (.done (.own id sz off (n+ys.length)) [(id,some ⟨B.sz,B.els.take (off+n)++ys++B.els.drop (off+n+ys.length)⟩),(fresh,none)]) else .fail
  |_=> .fail
 | .clr zs x=>match ρ x with
  | .emp=> .ret (.done (.v undef) [])
  | .own id s off n=> .rd id fun B=>if s=zs.length/\B.sz=zs.length/\off+n<=B.els.length then .ret (.done (.v undef) [(id,some ⟨B.sz,B.els.take off++List.replicate n zs++B.els.drop (off+n)⟩)]) else .fail
  |_=> .fail
 | .cpy sz x y=>(content sz (ρ y)).bind fun ys=>match ρ x with
  | .own id s off n=> .rd id fun B=>if s=sz/\B.sz=sz/\off+n<=B.els.length then .ret (.done (.v (goInt (min ys.length n:Nat))) [(id,some ⟨B.sz,B.els.take off++ys.take n++B.els.drop (off+min ys.length n)⟩)]) else .fail
  |_=> .fail
 | .b2s x=>(content 1 (ρ x)).bind fun ys=> .opt ((strOf ys).map fun l=> .done (.v (.string ⟨l.toArray⟩)) [])
 | .s2b x=>match ρ x with
  | .v (.string s)=>if s.size<=140737488355328 then .ret (.done (.own fresh 1 0 s.size) [(fresh,some ⟨1,s.data.toList.map fun b=>[.v (.int .u8 b.toNat)]⟩)]) else .fail
  |_=> .fail
 | .bad=> .fail
 | .mkm=> .ret (.done (.mp fresh) [(fresh,some ⟨0,[]⟩)])
 | .mup kd x k y=>match ρ x,ρ k with
  | .mp id, .v k=> .rd id fun B=>if B.sz=0/\plainV k=true then (match mfind kd k B.els with
   |some none=> .ret (.done (.v undef) [(id,some ⟨0,B.els++[[.v k,ρ y]]⟩)])
   |_=> .fail) else .fail
  |_,_=> .fail
 | .mlk kd z x k=>match ρ x,ρ k with
  | .mp id, .v k=> .rd id fun B=>if B.sz=0 then .opt ((mfind kd k B.els).map fun r=> .done (r.getD z) []) else .fail
  |_,_=> .fail
 | .mkf f caps=> .ret (.done (.fn f (caps.map ρ)) [])
 | .mkb f first=> .ret (.done (.bf f (first.map ρ)) [])
 | .ixa sz ln m x i=>match ρ x,ρ i with
  | .agg cs, .v (.int _ n)=>if 0<=n/\n<ln then .opt ((getCells cs (n.toNat*sz) m).map fun a=> .done a []) else .fail
  |_,_=> .fail
 | .iap sz ln x i=>match ρ x,ρ i with
  | .ref id s e o, .v (.int _ n)=>if 0<=n/\n<ln then .lv id (.ret (.done (.ref id s e (o+n.toNat*sz)) [])) else .fail
  | .pim cs o, .v (.int _ n)=>if 0<=n/\n<ln then .ret (.done (.pim cs (o+n.toNat*sz)) []) else .fail
  |_,_=> .fail
 | .call x args=>match ρ x with
  | .fn f caps=> .ret (.call f (args.map ρ++caps))
  | .bf f first=> .ret (.call f (first++args.map ρ))
  |_=> .fail
def nA:Value->Option AV
 | .slice none 0 0=>some .emp
 |v=>if plainV v=true then some (.v v) else none
def ofConstL:List Value->Option (List AV)
 |[]=>some []
 |v::r=>match nA v,ofConstL r with
  |some a,some l=>some (a::l)
  |_,_=>none
def ofConst:Value->Option AV
 | .agg cs=>(ofConstL cs.toList).map .agg
 |v=>nA v
def cArg:Operand->Option Arg
 | .tmp t=>some (.s t)
 | .const v=>(ofConst v).map .c
 | .func f=>some (.c (.fn f []))
 | .global g=>(glArg g).map .c
def ki:List Operand->Option (List Arg)
 |[]=>some []
 |x::r=>match cArg x,ki r with
  |some a,some l=>some (a::l)
  |_,_=>none
def szOf (P:Program) (t:TypeId):Option Nat:=(P.info? t).map (·.size)
def gE (P:Program) (t:TypeId):Option (Option Nat):=
 match P.underlying t with
 |some (.struct _)=>(szOf P t).map some
 |some (.array _ _)=>(szOf P t).map some
 |some _=>if (P.info? t).isSome then some none else none
 |none=>none
def fo (P:Program) (t:TypeId):Option (List AV):=
 match P.info? t with
 |some i=>match i.zero with
  |some z=>match ofConstL z.cells.toList with
   |some l=>if l.length=i.size/\l.all AV.one=true then some l else none
   |none=>none
  |none=>none
 |none=>none
def kY (place:Nat->Option (Nat×Nat)):List (Nat×Operand)->Option (List (Nat×Nat×Arg))
 |[]=>some []
 |(i,x)::r=>match place i,cArg x,kY place r with
  |some p,some a,some l=>some ((p.1,p.2,a)::l)
  |_,_,_=>none
def placesOf (P:Program) (fields:Array Field):Option (List (Nat×Nat)):=fields.toList.mapM (fun f=>(P.info? f.type).map fun i=>(f.offset,i.size))
def mi:List (Nat×Operand)->Option (List (Nat×Arg))
 |[]=>some []
 |(i,x)::r=>match cArg x,mi r with
  |some a,some l=>some ((i,a)::l)
  |_,_=>none
def Bs (P:Program) (t:TypeId):Bool:=
 match P.underlying t with
 |some (.int _)|some .string|some .bool=>true
 |_=>false
def boolT (P:Program) (t:TypeId):Bool:=
 match P.underlying t with
 |some .bool=>true
 |_=>false
def pL (P:Program) (rec:TypeId->Nat->Option (List (Nat×LK))) (off n:Nat):List Field->Option (List (Nat×LK))
 |[]=>some []
 |f::r=>if f.name= "_" then none else match szOf P f.type with
  |some k=>if f.offset+k<=n/\f.offset<n then match rec f.type (off+f.offset),pL P rec off n r with
   |some a,some b=>some (a++b)
   |_,_=>none
   else none
  |none=>none
def iI (P:Program):Nat->TypeId->Nat->Option (List (Nat×LK))
 |0,_,_=>none
 |d+1,t,off=>match P.underlying t with
  |some (.int _)=>some [(off, .int)]
  |some .string=>some [(off, .str)]
  |some .bool=>some [(off, .bool)]
  |some (.struct fs)=>if P.stoodInHeld t then none else match szOf P t with
   |some n=>pL P (iI P d) off n fs.toList
   |none=>none
  |_=>none
def negOf:BinOp->Option Bool
 | .eql=>some false
 | .neq=>some true
 |_=>none
def sC (P:Program) (t:TypeId) (op:BinOp) (y:Operand):Option (NK×Bool):=
 match P.underlying t,y with
 |some (.slice _), .const (.slice none 0 0)=>(negOf op).map fun n=>(.sl,n)
 |some (.func _ _ _), .const .nilFunc=>(negOf op).map fun n=>(.fn,n)
 |some (.pointer _), .const (.pointer none)=>(negOf op).map fun n=>(.pt,n)
 |_,_=>none
def kj:TypeDesc->Option LK
 | .int _=>some .int
 | .string=>some .str
 | .bool=>some .bool
 |_=>none
def keyT (P:Program) (t:TypeId):Option LK:=(P.underlying t).bind kj
def zeroOf (P:Program) (t:TypeId):Option AV:=
 match P.info? t with
 |some i=>match i.zero with
  |some z=>nA z
  |none=>none
 |none=>none
def er:Option Operand->Option (Option Arg)
 |none=>some none
 |some x=>(cArg x).map some
def br (P:Program) (o:Oper):Option AO:=
 match o.op with
 | .move x| .assign x=>(cArg x).map .mov
 | .pick c a b=>match cArg c,cArg a,cArg b with
  |some c,some a,some b=>some (.pick c a b)
  |_,_,_=>none
 | .alloc t=>match fo P t with
  |some zs=>if 0<zs.length then some (.new zs) else none
  |none=>none
 | .box t x=>match szOf P t,cArg x with
  |some n,some x=>if 0<n then some (.box n x) else none
  |_,_=>none
 | .build t parts=>match fo P t,P.underlying t with
  |some zs,some (.struct fields)=>match placesOf P fields with
   |some places=>(kY (places.toArray[·]?) parts.toList).map (.agg zs)
   |none=>none
  |some zs,some (.array _ e)=>match szOf P e with
   |some sz=>(kY (fun i=>some (i*sz,sz)) parts.toList).map (.agg zs)
   |none=>none
  |_,_=>none
 | .buildSlice t len parts=>match P.underlying t with
  |some (.slice e)=>match fo P e with
   |some zs=>if len*zs.length<=16777216/\0<zs.length then (mi parts.toList).map (.bsl zs.length len zs) else none
   |none=>none
  |_=>none
 | .load t x=>match gE P t,cArg x with
  |some m,some x=>some (.load m x)
  |_,_=>none
 | .store t x y=>match szOf P t,cArg x,cArg y with
  |some n,some x,some y=>some (.store n x y)
  |_,_,_=>none
 | .nilCheck x=>(cArg x).map .nilc
 | .binOp op t x y _=>match sC P t op y with
  |some q=>(cArg x).map (.isn q.1 q.2)
  |none=>match cArg x,cArg y with
  |some x,some y=>if Bs P t then some (.bin (boolT P t) op x y) else
   if P.eqGuardType P.depth t then none else match P.underlying t,iI P 8 t 0,szOf P t,op with
   |some (.struct _),some L,some n, .eql=>some (.eqs false n L x y)
   |some (.struct _),some L,some n, .neq=>some (.eqs true n L x y)
   |_,_,_,_=>none
  |_,_=>none
 | .unOp op _ x=>(cArg x).map (.un op)
 | .convert s d x=>match P.underlying s,P.underlying d,cArg x with
  |some (.int _),some (.int k),some x=>some (.conv k x)
  |some (.slice e),some .string,some x=>(match P.underlying e with
   |some (.int .u8)=>some (.b2s x)
   |_=>none)
  |some .string,some (.slice e),some x=>(match P.underlying e with
   |some (.int .u8)=>some (.s2b x)
   |_=>none)
  |_,_,_=>none
 | .fieldAddr s x f=>match P.underlying s,cArg x with
  |some (.struct fields),some x=>match fields[f]? with
   |some f=>if szOf P f.type=some 0\/szOf P f.type=none then none else some (.fad f.offset x)
   |none=>none
  |_,_=>none
 | .field s x f=>match P.underlying s,cArg x with
  |some (.struct fields),some x=>match fields[f]? with
   |some f=>(gE P f.type).map fun m=> .fld f.offset m x
   |none=>none
  |_,_=>none
 | .indexAddr t x i=>match P.underlying t,cArg x,cArg i with
  |some (.slice e),some x,some i=>match szOf P e with
   |some sz=>if 0<sz then some (.iad sz x i) else none
   |none=>none
  |some (.array len e),some x,some i=>match szOf P e with
   |some sz=>if 0<sz then some (.iap sz len x i) else none
   |none=>none
  |_,_,_=>none
 | .panic _| .makeInterface _ _=>some .bad
 | .makeMap t r=>match P.underlying t,r with
  |some (.map _ _),none=>some .mkm
  |some (.map _ _),some (.const (.int _ _))=>some .mkm
  |_,_=>none
 | .mapUpdate t x k y| .insert t x k y=>match P.underlying t,cArg x,cArg k,cArg y with
  |some (.map kt _),some x,some k,some y=>(keyT P kt).map fun kd=> .mup kd x k y
  |_,_,_,_=>none
 | .lookup t x k ok=>match P.underlying t,cArg x,cArg k with
  |some (.map kt et),some x,some k=>if ok=false then (match zeroOf P et,keyT P kt with
   |some z,some kd=>some (.mlk kd z x k)
   |_,_=>none) else none
  |_,_,_=>none
 | .extract x i=>(cArg x).map (.ext i)
 | .makeSlice t l c=>match P.underlying t,cArg l,cArg c with
  |some (.slice e),some l,some c=>match fo P e,P.info? e with
   |some zs,some i=>if 0<zs.length/\0<i.bytes then some (.msl zs.length i.bytes zs l c) else none
   |_,_=>none
  |_,_,_=>none
 | .slice t x lo hi mx=>match P.underlying t,cArg x,er lo,er hi,er mx with
  |some (.slice e),some x,some lo,some hi,some mx=>match szOf P e with
   |some sz=>if 0<sz/\(mx.isSome=true->hi.isSome=true) then some (.slc sz x lo hi mx) else none
   |none=>none
  |some .string,some x,some lo,some hi,some none=>some (.sls x lo hi)
  |_,_,_,_,_=>none
 | .index t x i=>match P.underlying t,cArg x,cArg i with
  |some .string,some x,some i=>some (.six x i)
  |some (.array len e),some x,some i=>match szOf P e,gE P e with
   |some sz,some m=>some (.ixa sz len m x i)
   |_,_=>none
  |_,_,_=>none
 | .makeFunc (.func f) first caps=>if first.isEmpty then (ki caps.toList).map (.mkf f) else if caps.isEmpty then (ki first.toList).map (.mkb f) else none
 | .call c=>match c.callee with
  | .value x=>match cArg x,ki c.args.toList with
   |some x,some l=>some (.call x l)
   |_,_=>none
  | .builtin .len=>match c.args.toList,c.argTypes[0]? with
   |[x],some t=>match P.underlying t with
    |some (.slice _)=>(cArg x).map (.len false)
    |some .string=>(cArg x).map (.len true)
    |_=>none
   |_,_=>none
  | .builtin .append=>match c.args.toList,c.argTypes.toList with
   |[s,x],[t,u]=>if t=u then match P.underlying t,cArg s,cArg x with
    |some (.slice e),some s,some x=>match fo P e,P.info? e with
     |some zs,some i=>if 0<zs.length/\0<i.bytes then some (.app zs.length i.bytes s x) else none
     |_,_=>none
    |_,_,_=>none
    else none
   |_,_=>none
  | .builtin .clear=>match c.args.toList,c.argTypes[0]? with
   |[x],some t=>match P.underlying t,cArg x with
    |some (.slice e),some x=>match fo P e with
     |some zs=>if 0<zs.length then some (.clr zs x) else none
     |none=>none
    |_,_=>none
   |_,_=>none
  | .builtin .copy=>match c.args.toList,c.argTypes[0]? with
   |[x,y],some t=>match P.underlying t,cArg x,cArg y with
    |some (.slice e),some x,some y=>match szOf P e with
     |some sz=>if 0<sz then some (.cpy sz x y) else none
     |none=>none
    |_,_,_=>none
   |_,_=>none
  | .builtin .min=>match c.args.toList with
   |[x,y]=>match cArg x,cArg y with
    |some x,some y=>some (.mnx false x y)
    |_,_=>none
   |_=>none
  | .builtin .max=>match c.args.toList with
   |[x,y]=>match cArg x,cArg y with
    |some x,some y=>some (.mnx true x y)
    |_,_=>none
   |_=>none
  |_=>none
 |_=>none
open Go.RowKit
def bu (E:Env) (J:Nat->Prop) (base:Nat) (g:Nat->Option Bk) (r:Result Next) (val:AV) (ups:List (Nat×Option Bk)):Prop:=
 ∃(n:Next) (v:Value) (E':Env),r= .ok n E'.w/\(n= .value v\/(n= .skip/\v=undef))/\E.Le E'/\ae E' v val/\aB E' J base (aj g ups)/\Below base E.w E'.w/\∀id,E'.kn id->E.kn id\/id∈ups.map Prod.fst
theorem a0 (hm:aB E J base g) (hr:r= .ok (.value v) E.w) (h:ae E v val):bu E J base g r val []:=
 ⟨.value v,v,E,hr, .inl rfl,Env.Le.refl E,h,hm,Lt _ _,fun _ h=> .inl h⟩
theorem Bt {k:Nat} (h:q<n):(decide ((gC n k).1<=q)&&decide (q<(gC n k).2))=false:=by
 cases k with
 |zero=>simp [gC]
 |succ k=>
  have:decide ((gC n (k+1)).1<=q)=false:=decide_eq_false (by show ¬n<=q;omega)
  rw [this];rfl
theorem pM (P:Program) (g o:Nat) (t:TypeId) (k:Nat):∀(vs:List Value) (i:Nat) (cur:Array Value) (w:World),w.heap[g]? =some (.cells cur t (gC cur.size k))->o+i+vs.length<=cur.size->(∀v∈vs,v.oneCell'=true)->
  (storeCells ⟨g,o,none⟩ vs i).run P w= .ok () (w.setRow g (cur.toList.take (o+i)++vs++cur.toList.drop (o+i+vs.length)).toArray)
 |[],i,cur,w,hg,_,_=>by
  simp only [storeCells,List.append_nil,List.length_nil,LC,List.take_append_drop,Array.toArray_toList]
  rw [setRow_self w g cur t _ hg]
  rfl
 |v::rest,i,cur,w,hg,hl,h1=>by
  have hi:o+i<cur.size:=by simp at hl;omega
  have Bu:(⟨g,o,none⟩:Addr).add i=⟨g,o+i,none⟩:=by unfold Addr.add;split<;>simp_all
  have g6:w.cell? ⟨g,o+i,none⟩=some cur[o+i]:=by simp [World.cell?,hg,hi]
  have Bv:w.frozen? ⟨g,o+i,none⟩=false:=by
   simp only [World.frozen?,hg]
   exact Bt hi
  have dL:(store ((⟨g,o,none⟩:Addr).add i) v).run P w= .ok () (w.setRow g (cur.setIfInBounds (o+i) v)):=by
   rw [Bu,run_store P w _ v _ (h1 v (by simp)),g6]
   simp [Bv,setCell_eq_setRow w g (o+i) cur t _ v hg]
  have ih:=pM P g o t k rest (i+1) (cur.setIfInBounds (o+i) v) (w.setRow g (cur.setIfInBounds (o+i) v)) (by rw [Array.size_setIfInBounds];exact setRow_heap w g cur _ t _ hg) (by simp at hl ⊢; omega) (fun x hx=>h1 x (by simp [hx]))
  simp only [storeCells,Lu,dL,Mm,ih,setRow_setRow]
  congr 3
  have e:=list_seg_step cur.toList (o+i) v rest (by simp at hl ⊢; omega)
  simpa [Array.toList_setIfInBounds,Nat.add_assoc] using e
theorem ae.one {E:Env} {v:Value} {a:AV} (h:ae E v a) (ho:a.one=true):v.oneCell'=true:=by
 cases h<;>first|rfl|(simp [AV.one] at ho;done)|exact ho|assumption
theorem ae.cells {E:Env} {v:Value} {a:AV} (h:ae E v a) (ho:a.cells.all AV.one=true):
  v.cells.size=a.cells.length/\(∀(j:Nat) u c,v.cells[j]? =some u->a.cells[j]? =some c->ae E u c)/\(∀u,u∈v.cells.toList->u.oneCell'=true):=by
 have single:∀(v:Value) (a:AV),ae E v a->a.cells=[a]->a.one=true->v.cells.size=a.cells.length/\(∀(j:Nat) u c,v.cells[j]? =some u->a.cells[j]? =some c->ae E u c)/\(∀u,u∈v.cells.toList->u.oneCell'=true):=by
  intro v a h hc ho
  have h1:=h.one ho
  have hv:v.cells= #[v]:=by cases v<;>first|rfl|(simp [Value.oneCell'] at h1)
  rw [hc,hv]
  refine ⟨rfl,fun j u c hu fL=> ?_,fun u hu=> ?_⟩
  ·cases j with
   |zero=>simp at hu fL;subst hu;subst fL;exact h
   |succ j=>simp at fL
  ·simp at hu;subst hu;exact h1
 cases h with
 | @agg vs cs hl h=>
  refine ⟨hl,fun j u c hu hc=>h j u c hu hc,fun u hu=> ?_⟩
  simp only [Value.cells] at hu
  obtain ⟨j,hj,rfl⟩:=Mu hu
  have g7:j<vs.size:=by simpa using hj
  have wP:j<cs.length:=by omega
  have:=h j vs[j] cs[j] (KX g7) (K0 wP)
  have gj:(cs[j]).one=true:=by
   simp only [AV.cells,KQ] at ho
   exact ho _ (List.getElem_mem wP)
  simpa using this.one gj
 |_=>exact single _ _ (by constructor<;>assumption) rfl (by simpa [AV.cells] using ho)
theorem ct.cell {E:Env} {base b:Nat} {B:Bk} (h:ct E base B (some b)) {i:Nat} {cs:List AV} (hi:B.els[i]? =some cs) {j:Nat} {x:AV} (hj:cs[j]? =some x) (hz:B.sz≠0:=by first|assumption|omega):
  ∃u,E.w.cell? ⟨b,i*B.sz+j,none⟩=some u/\u.oneCell'=true/\ae E u x:=by
 obtain ⟨_,arr,t,h2,_,h4⟩:=h.cells hz
 obtain ⟨u,k1,k2,k3⟩:=(h4 i cs hi).2 j x hj
 exact ⟨u,by rw [cell_of_row _ _ _ _ _ _ h2];exact k1,k2,k3⟩
theorem sD (h:nA v=some a):ae E v a:=by
 unfold nA at h
 split at h
 ·simp only [KJ] at h;subst h;exact .emp
 ·split at h
  ·rename_i hp;simp only [KJ] at h;subst h;exact .v hp
  ·simp at h
theorem pN {E:Env}:∀{vs:List Value} {cs:List AV},ofConstL vs=some cs->vs.length=cs.length/\∀(i:Nat) v c,vs[i]? =some v->cs[i]? =some c->ae E v c
 |[],cs,h=>by simp only [ofConstL,KJ] at h;subst h;exact ⟨rfl,fun i v c hv=>by simp at hv⟩
 |v::r,cs,h=>by
  simp only [ofConstL] at h
  split at h
  ·rename_i a l h1 h2
   simp only [KJ] at h;subst h
   have ih:=pN (E:=E) h2
   refine ⟨by simp [ih.1],fun i u c hu hc=> ?_⟩
   cases i with
   |zero=>simp at hu hc;subst hu;subst hc;exact sD h1
   |succ i=>simp at hu hc;exact ih.2 i u c hu hc
  ·simp at h
theorem Bw (h:ofConst v=some a):ae E v a:=by
 unfold ofConst at h
 split at h
 ·rename_i cs
  cases hl:ofConstL cs.toList with
  |none=>simp [hl] at h
  |some l=>
   simp only [hl,KV,KJ] at h
   subst h
   have:=pN (E:=E) hl
   exact .agg (by simpa using this.1) (fun i v c hv hc=>this.2 i v c (by simpa using hv) hc)
 ·exact sD h
theorem Bx (f:FuncId):ae E (.func (.func f) #[] #[]) (.fn f []):= .fn rfl (fun i v c hv=>by simp at hv)
def dA (E:Env) (az:Operand->Value) (ρ:Arg->AV):Prop:=∀x ax,cArg x=some ax->ae E (az x) (ρ ax)
theorem dA.list {E:Env} {az:Operand->Value} {ρ:Arg->AV} (h:dA E az ρ):∀{xs:List Operand} {as_:List Arg},ki xs=some as_->xs.length=as_.length/\∀(i:Nat) v c,(xs.map az)[i]? =some v->(as_.map ρ)[i]? =some c->ae E v c
 |[],as_,he=>by simp only [ki,KJ] at he;subst he;exact ⟨rfl,fun i v c hv=>by simp at hv⟩
 |x::r,as_,he=>by
  simp only [ki] at he
  split at he
  ·rename_i a l h1 h2
   simp only [KJ] at he;subst he
   have ih:=h.list h2
   refine ⟨by simp [ih.1],fun i u c hu hc=> ?_⟩
   cases i with
   |zero=>simp at hu hc;subst hu;subst hc;exact h _ _ h1
   |succ i=>simp only [KW,LD] at hu hc;exact ih.2 i u c hu hc
  ·simp at he
theorem wQ (h:gE P t=some m) (w:World):
  (isAgg t).run P w= .ok m.isSome w/\∀n,m=some n->(sizeOf t).run P w= .ok n w:=by
 unfold gE at h
 have key:∀n,szOf P t=some n->(sizeOf t).run P w= .ok n w:=by
  intro n hn
  unfold szOf at hn
  cases hi:P.info? t with
  |none=>simp [hi] at hn
  |some i=>simp [hi] at hn;subst hn;simp [sizeOf,typeInfo,hi]
 split at h
 ·rename_i fs hu
  cases hz:szOf P t with
  |none=>simp [hz] at h
  |some n=>
   simp [hz] at h;subst h
   exact ⟨by simp [isAgg,run_underlying hu],fun k hk=>by simp at hk;subst hk;exact key _ hz⟩
 ·rename_i k e hu
  cases hz:szOf P t with
  |none=>simp [hz] at h
  |some n=>
   simp [hz] at h;subst h
   exact ⟨by simp [isAgg,run_underlying hu],fun k hk=>by simp at hk;subst hk;exact key _ hz⟩
 ·rename_i d wR nB hu
  split at h
  ·simp only [KJ] at h;subst h
   refine ⟨?_,fun k hk=>by simp at hk⟩
   cases hd:P.underlying t with
   |none=>simp_all
   |some d'=>
    have:d'=d:=by simp_all
    subst this
    cases d'<;>simp_all [isAgg,run_underlying hd]
  ·simp at h
 ·simp at h
theorem ko (h:szOf P t=some n) (w:World):(sizeOf t).run P w= .ok n w:=by
 unfold szOf at h
 cases hi:P.info? t with
 |none=>simp [hi] at h
 |some i=>simp [hi] at h;subst h;simp [sizeOf,typeInfo,hi]
theorem pO (ht:gE P t=some m) (hq:q=off+o) (u:Nat->Value)
  (hu:∀(j:Nat) x,cs[j]? =some x->E.w.cell? ⟨b,off+j,none⟩=some (u j)) (hr:∀(j:Nat) x,cs[j]? =some x->ae E (u j) x) (ha:getCells cs o m=some a):
  ∃v,(loadVar t ⟨b,q,none⟩).run P E.w= .ok v E.w/\ae E v a:=by
 obtain ⟨h1,h2⟩:=wQ ht E.w
 cases m with
 |none=>
  simp only [getCells] at ha
  have hc:=hu o a ha
  refine ⟨u o, ?_,hr o a ha⟩
  subst hq
  simp [loadVar,h1,hc]
 |some n=>
  simp only [getCells] at ha
  split at ha
  ·rename_i hle
   simp only [KJ] at ha;subst ha;subst hq
   have hl:=run_loadCells (P:=P) E.w ⟨b,off+o,none⟩ n (fun j=>u (o+j)) (fun j hj=>by
    rw [LU,Nat.add_assoc]
    exact hu (o+j) cs[o+j] (K0 (by omega)))
   refine ⟨.agg ((List.range n).map fun j=>u (o+j)).toArray,by simp [loadVar,h1,h2 n rfl,hl], .agg (by simp;omega) (fun i v c hv hc=> ?_)⟩
   have hi:i<n:=by
    have:=(Lw.1 hv).1
    simpa using this
   have hv':v=u (o+i):=by
    simp [hi] at hv;exact hv.symm
   have dr:cs[o+i]? =some c:=by
    rw [LV] at hc
    simp [hi,LW] at hc
    exact hc
   subst hv'
   exact hr _ _ dr
  ·simp at ha
section
variable {P:Program} {E:Env} {J:Nat->Prop} {base:Nat} {g:Nat->Option Bk} {az:Operand->Value} {ρ:Arg->AV} {fresh:Nat}
theorem kZ {zs:List AV} (h:fo P t=some zs):∃i z,P.info? t=some i/\i.zero=some z/\i.size=zs.length/\z.cells.size=zs.length/\zs.all AV.one=true/\
  ∀(E:Env) (j:Nat) u c,z.cells[j]? =some u->zs[j]? =some c->ae E u c:=by
 have E0:Env:=⟨default,fun _=>False,fun _=>none,fun _=>False,fun _=>False,fun _=>0,fun _=>False,fun _=>False⟩
 unfold fo at h
 split at h
 ·rename_i i hi
  split at h
  ·rename_i z hz
   split at h
   ·rename_i l hl
    split at h
    ·rename_i hc
     simp only [KJ] at h;subst h
     have h1:=pN (E:=E0) hl
     refine ⟨i,z,hi,hz,hc.1.symm,by simpa using h1.1,hc.2,fun E j u c hu fL=>(pN (E:=E) hl).2 j u c (by simpa using hu) fL⟩
    ·simp at h
   ·simp at h
  ·simp at h
 ·simp at h
theorem pP (hm:aB E J base g) (hf:¬E.kn fresh) (arr:Array Value) (t:TypeId) (B:Bk)
  (hr:r= .ok (.value v) (E.w.alloc (.cells arr t)))
  (hB:∀E':Env,E.Le E'->B.els.length*B.sz<=arr.size/\∀(i:Nat) cs,B.els[i]? =some cs->cs.length=B.sz/\∀(j:Nat) x,cs[j]? =some x->∃u,arr[i*B.sz+j]? =some u/\u.oneCell'=true/\ae E' u x)
  (hv:∀E':Env,E'.w=E.w.alloc (.cells arr t)->E'.kn fresh->¬E'.dead fresh->E'.loc fresh=some E.w.heap.size->E'.ln fresh=B.els.length->ae E' v val) (hz:B.sz≠0:=by first|assumption|(dsimp only;omega)):bu E J base g r val [(fresh,some B)]:=by
 obtain ⟨E',hw,hE,hM,k1,k2,k3,k4,k5⟩:=hm.alloc fresh hf arr t B hB hz
 refine ⟨.value v,v,E',by rw [hw];exact hr, .inl rfl,hE,hv E' hw k1 k2 k3 k5,hM, ?_,fun id hi=> ?_⟩
 ·rw [hw]
  exact (Lt _ _).alloc hm.size _
 ·rcases k4 id hi with h|h
  ·exact .inl h
  ·exact .inr (by simp [h])
theorem wS {E:Env} (hl:vs.size=cs.length) (h:∀(j:Nat) u c,vs[j]? =some u->cs[j]? =some c->ae E u c) (h1:∀u,u∈vs.toList->u.oneCell'=true) (E':Env) (hE:E.Le E'):
  [cs].length*cs.length<=vs.size/\∀(i:Nat) ds,[cs][i]? =some ds->ds.length=cs.length/\∀(j:Nat) x,ds[j]? =some x->∃u,vs[i*cs.length+j]? =some u/\u.oneCell'=true/\ae E' u x:=by
 refine ⟨by simp [hl],fun i ds hi=> ?_⟩
 cases i with
 |zero=>
  simp only [Ll,KJ] at hi
  subst hi
  refine ⟨rfl,fun j x hj=> ?_⟩
  have g7:j<vs.size:=by rw [hl];exact (KS.1 hj).1
  refine ⟨vs[j],by simp [g7],h1 _ (by simp),(h j vs[j] x (KX g7) hj).step hE⟩
 |succ i=>simp at hi
theorem By (hm:aB E J base g) (hf:¬E.kn fresh) {zs:List AV} (h:fo P t=some zs) (hz0:0<zs.length):
  bu E J base g ((do pure (Next.value (<-Instr.alloc t true (.tuple #[]))):Sem Next).run P E.w) (.ref fresh zs.length 0 0) [(fresh,some ⟨zs.length,[zs]⟩)]:=by
 obtain ⟨i,z,hi,hz,hs,hcs,dB,cF⟩:=kZ h
 have h1:∀u,u∈z.cells.toList->u.oneCell'=true:=fun u hu=>by
  obtain ⟨j,hj,rfl⟩:=Mu hu
  have g7:j<z.cells.size:=by simpa using hj
  have:=(cF E j z.cells[j] zs[j] (KX g7) (K0 (by omega))).one (by simp only [KQ] at dB;exact dB _ (List.getElem_mem _))
  simpa using this
 refine pP hm hf z.cells t ⟨zs.length,[zs]⟩ (v:= .pointer (some ⟨E.w.heap.size,0,none⟩)) ?_ (wS hcs (cF E) h1) (fun E' _ k1 k2 k3 _=> .ref k1 k2 k3 (by simp))
 simp [Instr.alloc,zeroValue,typeInfo,hi,hz,newVar,newRow]
theorem Bz (hm:aB E J base g) (hf:¬E.kn fresh) (hv:ae E v a) (hn:a.cells.length=n) (ho:a.cells.all AV.one=true) (hz0:0<n):
  bu E J base g ((do pure (Next.value (<-Instr.box t v)):Sem Next).run P E.w) (.ref fresh n 0 0) [(fresh,some ⟨n,[a.cells]⟩)]:=by
 obtain ⟨h1,h2,h3⟩:=hv.cells ho
 subst hn
 refine pP hm hf v.cells t ⟨a.cells.length,[a.cells]⟩ (v:= .pointer (some ⟨E.w.heap.size,0,none⟩)) ?_ (wS h1 h2 h3) (fun E' _ k1 k2 k3 _=> .ref k1 k2 k3 (by simp))
 simp [Instr.box,newVar,newRow]
theorem BA (hm:aB E J base g) (ht:gE P t=some m) (hv:ae E v (ρ x))
  (h:((AO.load m x).af fresh ρ).run g=some (.done val ups)):bu E J base g ((do pure (Next.value (<-Instr.loadAt t v)):Sem Next).run P E.w) val ups:=by
 simp only [AO.af] at h
 split at h
 ·rename_i cs o hx
  rw [hx] at hv
  cases hg:getCells cs o m with
  |none=>simp [hg,RM.opt,RM.run] at h
  |some a=>
   simp [hg,RM.opt,RM.run] at h
   obtain ⟨rfl,rfl⟩:=h
   cases hv with
   |pim u hb hq hu eF hr=>
    obtain ⟨v',hl,hr'⟩:=pO (P:=P) ht hq u hu hr hg
    exact a0 hm (by simp [Instr.loadAt,Instr.sureAddr,hl]) hr'
 ·rename_i id sz i o hx
  rw [hx] at hv
  simp only [RM.run] at h
  cases hgi:g id with
  |none=>simp [hgi] at h
  |some B=>
   simp only [hgi] at h
   split at h
   ·rename_i hsz
    cases hei:B.els[i]? with
    |none=>simp [hei,RM.opt,RM.run] at h
    |some cs=>
     cases hg:getCells cs o m with
     |none=>simp [hei,hg,RM.opt,RM.run] at h
     |some a=>
      simp [hei,hg,RM.opt,RM.run] at h
      obtain ⟨rfl,rfl⟩:=h
      cases hv with
      | @ref _ _ _ _ b q hi hd hb hq=>
       have bM:=hm.at_ id B hgi
       rw [hb] at bM
       have g6:∀(j:Nat) (x:AV),cs[j]? =some x->∃u,E.w.cell? ⟨b,i*B.sz+j,none⟩=some u/\u.oneCell'=true/\ae E u x:=fun j x hj=>bM.cell hei hj
       obtain ⟨v',hl,hr'⟩:=pO (P:=P) (E:=E) (cs:=cs) ht (b:=b) (off:=i*sz) hq (fun j=>(E.w.cell? ⟨b,i*sz+j,none⟩).getD undef)
        (fun j x hj=>by obtain ⟨u,k1,_,_⟩:=g6 j x hj;rw [hsz] at k1;simp [k1])
        (fun j x hj=>by obtain ⟨u,k1,_,k3⟩:=g6 j x hj;rw [hsz] at k1;simpa [k1] using k3) hg
       exact a0 hm (by simp [Instr.loadAt,Instr.sureAddr,hl]) hr'
      |dZ hi hd=>exact absurd hd ((hm.live id).2 ⟨B,hgi⟩).2
   ·simp [RM.run] at h
 ·simp [RM.run] at h
theorem wT {ys:List AV} (h:o+ys.length<=cs.length) (j:Nat):(putCells cs o ys)[j]? =if j<o then cs[j]? else if j<o+ys.length then ys[j - o]? else cs[j]? :=by
 unfold putCells
 rw [L4,Mn,L5,Nat.min_eq_left (by omega)]
 by_cases h1:j<o
 ·simp [h1]
 ·rw [KK h1,KK h1,Mn]
  by_cases h2:j<o+ys.length
  ·rw [KL (by omega),KL h2]
  ·rw [KK (by omega),KK h2,LW]
   congr 1;omega
theorem wU {ys:List AV} (h:o+ys.length<=cs.length):(putCells cs o ys).length=cs.length:=by
 unfold putCells;simp;omega
theorem BB (hm:aB E J base g) (ht:szOf P t=some n) (hv:ae E v (ρ x)) (hvy:ae E vy (ρ y))
  (h:((AO.store n x y).af fresh ρ).run g=some (.done val ups)):bu E J base g ((do (Instr.storeAt t v vy);pure Next.skip:Sem Next).run P E.w) val ups:=by
 simp only [AO.af] at h
 split at h
 ·rename_i id sz i o hx
  rw [hx] at hv
  simp only [RM.run] at h
  cases hgi:g id with
  |none=>simp [hgi] at h
  |some B=>
   simp only [hgi] at h
   split at h
   ·rename_i hc
    obtain ⟨hsz,hn,dB,ho⟩:=hc
    cases hei:B.els[i]? with
    |none=>simp [hei,RM.run] at h
    |some cs=>
     simp only [hei,RM.run,KJ,Out.done.injEq] at h
     obtain ⟨rfl,rfl⟩:=h
     obtain ⟨c1,c2,c3⟩:=hvy.cells dB
     cases hv with
     |dZ hi hd=>exact absurd hd ((hm.live id).2 ⟨B,hgi⟩).2
     | @ref _ _ _ _ b q hi hd hb hq=>
      have bM:=hm.at_ id B hgi
      rw [hb] at bM
      obtain ⟨jo,arr,t',ha,hlen,dt⟩:=bM.cells (by omega)
      have hcs:=(dt i cs hei).1
      subst hsz
      have aE:i<B.els.length:=(KS.1 hei).1
      have hfit:i*B.sz+B.sz<=arr.size:=by
       have:(i+1)*B.sz<=B.els.length*B.sz:=Lf _ (by omega)
       rw [Lc] at this;omega
      have dL:=pM P b q t'.1 t'.2 vy.cells.toList 0 arr E.w ha (by simp;omega) c3
      simp only [LC,Array.length_toList] at dL
      obtain ⟨E',hw,hE,hM,aX⟩:=hm.set id b B ⟨B.sz,B.els.set i (putCells cs o (ρ y).cells)⟩ hgi hb arr
       (arr.toList.take q++vy.cells.toList++arr.toList.drop (q+vy.cells.size)).toArray t' ha
       (by simp;omega) (by simp) (fun E' hE=>by
        refine ⟨by simpa using hlen,fun i' ds eG=> ?_⟩
        dsimp only at eG ⊢
        simp only [List.getElem?_set] at eG
        have g8:∀k,(arr.toList.take q++vy.cells.toList++arr.toList.drop (q+vy.cells.size)).toArray[k]? =if k<q then arr[k]? else if k<q+vy.cells.size then vy.cells[k - q]? else arr[k]? :=by
         intro k
         simp only [List.getElem?_toArray,L4]
         rw [Mn,L5,Nat.min_eq_left (by simp;omega)]
         by_cases h1:k<q
         ·simp [h1]
         ·rw [KK h1,KK h1,Mn]
          by_cases h2:k<q+vy.cells.size
          ·rw [KL (by simp;omega),KL h2];simp
          ·rw [KK (by simp;omega),KK h2,LW]
           simp;congr 1;omega
        by_cases nC:i=i'
        ·subst nC
         simp only [KN,aE,KJ] at eG
         subst eG
         refine ⟨by rw [wU (by omega)];exact hcs,fun j x hj=> ?_⟩
         rw [wT (by omega)] at hj
         have aU:j<B.sz:=by
          by_cases h1:j<o
          ·omega
          ·rw [KK h1] at hj
           by_cases h2:j<o+(ρ y).cells.length
           ·omega
           ·rw [KK h2] at hj
            have:=(KS.1 hj).1;omega
         rw [g8]
         by_cases h1:j<o
         ·rw [KL h1] at hj
          rw [KL (by omega)]
          obtain ⟨u,k1,k2,k3⟩:=(dt i cs hei).2 j x hj
          exact ⟨u,k1,k2,k3.step hE⟩
         ·rw [KK h1] at hj
          by_cases h2:j<o+(ρ y).cells.length
          ·rw [KL h2] at hj
           have hk:j - o<vy.cells.size:=by omega
           rw [KK (by omega),KL (by omega)]
           refine ⟨vy.cells[j - o], ?_,c3 _ (by simp),(c2 (j - o) _ x (KX hk) hj).step hE⟩
           rw [show i*B.sz+j - q=j - o by omega]
           exact KX hk
          ·rw [KK h2] at hj
           rw [KK (by omega),KK (by omega)]
           obtain ⟨u,k1,k2,k3⟩:=(dt i cs hei).2 j x hj
           exact ⟨u,k1,k2,k3.step hE⟩
        ·simp only [nC,Lh] at eG
         refine ⟨(dt i' ds eG).1,fun j x hj=> ?_⟩
         obtain ⟨u,k1,k2,k3⟩:=(dt i' ds eG).2 j x hj
         have aU:j<B.sz:=by
          have:=(KS.1 hj).1
          rw [(dt i' ds eG).1] at this;exact this
         rw [g8]
         have BC:i'*B.sz+j<q\/q+vy.cells.size<=i'*B.sz+j:=by
          rcases Ls i' i with h1|h1
          ·left
           have:(i'+1)*B.sz<=i*B.sz:=Lf _ (by omega)
           rw [Lc] at this;omega
          ·right
           have:(i+1)*B.sz<=i'*B.sz:=Lf _ (by omega)
           rw [Lc] at this;omega
         refine ⟨u, ?_,k2,k3.step hE⟩
         rcases BC with h1|h1
         ·rw [KL h1];exact k1
         ·rw [KK (by omega),KK (by omega)];exact k1)
      have BD:=ko ht E.w
      refine ⟨.skip,undef,E', ?_, .inr ⟨rfl,rfl⟩,hE, .v rfl,hM, ?_,fun cm h'=> .inl (aX cm h')⟩
      ·rw [hw]
       simp [Instr.storeAt,Instr.sureAddr,storeVar,BD,c1,hn,dL]
      ·rw [hw]
       refine ⟨rfl,rfl,rfl,by simp [World.setRow],fun k hk=>setRow_other _ _ _ _ (by omega)⟩
   ·simp [RM.run] at h
 ·simp [RM.run] at h
end
open Go.RowKit
section
variable {P:Program} {E:Env} {J:Nat->Prop} {base:Nat} {g:Nat->Option Bk} {az:Operand->Value} {ρ:Arg->AV} {fresh:Nat}
theorem BE (op:BinOp) (t:TypeId) (x y:Operand) (k k':IntKind) (a b:Int) (w:World):(eqGuard op t x y (.int k a) (.int k' b)).run P w= .ok () w:=by
 cases op<;>simp [eqGuard]
theorem BF (op:BinOp) (t:TypeId) (x y:Operand) (a b:ByteArray) (w:World):(eqGuard op t x y (.string a) (.string b)).run P w= .ok () w:=by
 cases op<;>simp [eqGuard]
theorem BG (op:BinOp) (t:TypeId) (x y:Operand) (a b:Bool) (w:World):(eqGuard op t x y (.bool a) (.bool b)).run P w= .ok () w:=by
 cases op<;>simp [eqGuard]
theorem wV (a b:ByteArray):gD a b=(a.toList==b.toList):=by
 rw [ByteArray.toList_eq,ByteArray.toList_eq];rfl
theorem BH {op:BinOp} {x y:Operand} {a b:Value} (h:binA (boolT P t) op a b=some v) (w:World):
  (do eqGuard op t x y a b;binOp op t a b:Sem Value).run P w= .ok v w/\plainV v=true:=by
 unfold binA at h
 split at h
 ·rename_i k a k' b
  have jq:=BE (P:=P) op t x y k k' a b w
  split at h
  ·split at h
   ·simp at h
   ·rename_i h1
    simp only [KJ] at h;subst h
    refine ⟨?_,rfl⟩
    simp [jq,binOp,Op.shift,h1]
  ·split at h
   ·simp at h
   ·rename_i h1
    simp only [KJ] at h;subst h
    refine ⟨?_,rfl⟩
    simp [jq,binOp,Op.shift,h1]
  ·split at h
   ·rename_i hk
    subst hk
    split at h<;>first
     |(simp only [KJ] at h;subst h;exact ⟨by simp [jq,binOp,Op.intArith,Op.intBits,Op.intCmp,bits],rfl⟩)
     |(split at h
       ·simp at h
       ·rename_i h1;simp only [KJ] at h;subst h;exact ⟨by simp [jq,binOp,Op.intDiv,h1],rfl⟩)
     |simp at h
   ·simp at h
 ·rename_i a b
  have jq:=BF (P:=P) op t x y a b w
  split at h<;>first
   |(simp only [KJ] at h;subst h;exact ⟨by simp [jq,binOp,Op.stringOp,wV],rfl⟩)
   |(split at h
     ·simp at h
     ·rename_i h1;simp only [KJ] at h;subst h;exact ⟨by simp only [Lu,jq,Mm,binOp,Op.stringOp,Sem.run_ite,KK h1];rfl,rfl⟩)
   |simp at h
 ·rename_i a b
  have jq:=BG (P:=P) op t x y a b w
  split at h
  ·rename_i hb
   have hu:P.underlying t=some .bool:=by
    unfold boolT at hb
    split at hb
    ·assumption
    ·simp at hb
   have he:(Op.equal t (.bool a) (.bool b)).run P w= .ok (a==b) w:=run_equalIn_bool' w _ t a b hu
   split at h<;>first
    |(simp only [KJ] at h;subst h;exact ⟨by simp [jq,binOp,he],rfl⟩)
    |simp at h
  ·simp at h
 ·simp at h
theorem BI {op:UnOp} {a:Value} (h:unA op a=some v) (w:World):(Op.unary op a).run P w= .ok v w/\plainV v=true:=by
 unfold unA at h
 split at h<;>first
  |(simp only [KJ] at h;subst h;exact ⟨by simp [Op.unary,Op.intArith,Op.intBits,bits],rfl⟩)
  |simp at h
theorem BJ {mx:Bool} {a b:Value} (h:nz mx a b=some v) (w:World):plainV v=true/\
  (mx=false->∀ts t,(Builtin.min_ ts t #[a,b]).run P w= .ok v w)/\(mx=true->∀ts t,(Builtin.max_ ts t #[a,b]).run P w= .ok v w):=by
 unfold nz at h
 split at h
 ·rename_i k a k' b
  split at h
  ·rename_i hk
   subst hk
   simp only [KJ] at h;subst h
   exact ⟨rfl,fun hm ts t=>by simp [Builtin.min_,Builtin.min2,hm],fun hm ts t=>by simp [Builtin.max_,Builtin.max2,hm]⟩
  ·simp at h
 ·simp at h
def RC (E:Env) (vs:Array Value) (cs:List AV):Prop:=vs.size=cs.length/\∀(j:Nat) u c,vs[j]? =some u->cs[j]? =some c->ae E u c
theorem ae.rc (h:ae E v a) (hs:a.fK=true):RC E v.cells a.cells:=by
 cases a with
 |agg cs=>cases h with|agg hl h=>exact ⟨hl,h⟩
 |_=>
  have h':=h.cells (by simpa [AV.cells,AV.fK] using hs)
  exact ⟨h'.1,h'.2.1⟩
theorem sE (off:Nat):∀(l:List Value) (n:Nat) (cells:Array Value),off+n+l.length<=cells.size->
  ((l.zipIdx n).foldl (fun cs (x:Value×Nat)=>cs.setIfInBounds (off+x.2) x.1) cells).size=cells.size/\
  ∀k,((l.zipIdx n).foldl (fun cs (x:Value×Nat)=>cs.setIfInBounds (off+x.2) x.1) cells)[k]? =if off+n<=k/\k<off+n+l.length then l[k - (off+n)]? else cells[k]?
 |[],n,cells,_=>⟨rfl,fun k=>by simp;intro h1 h2;omega⟩
 |v::l,n,cells,h=>by
  simp only [List.length_cons] at h
  have ih:=sE off l (n+1) (cells.setIfInBounds (off+n) v) (by simp;omega)
  simp only [List.zipIdx_cons,List.foldl_cons]
  refine ⟨by simpa using ih.1,fun k=> ?_⟩
  rw [ih.2 k]
  by_cases h1:off+(n+1)<=k/\k<off+(n+1)+l.length
  ·rw [KL h1,KL (by simp;omega),show k - (off+n)=k - (off+(n+1))+1 by omega,LD]
  ·rw [KK h1]
   by_cases h2:k=off+n
   ·subst h2
    rw [KL (by simp),ME]
    simp;omega
   ·rw [KK (by simp;omega),ME,KK (fun e=>h2 e.symm)]
theorem wW (ha:dA E az ρ) (place:Nat->Option (Nat×Nat)):∀(parts:List (Nat×Operand)) (as_:List (Nat×Nat×Arg)) (cells:Array Value) (cs la:List AV),kY place parts=some as_->RC E cells cs->fillA ρ cs as_=some la->
  ∃eH,Instr.fill place cells (parts.map fun (i,x)=>(i,az x))=some eH/\RC E eH la
 |[],as_,cells,cs,la,hp,hc,hf=>by
  simp only [kY,KJ] at hp;subst hp
  simp only [fillA,KJ] at hf;subst hf
  exact ⟨cells,rfl,hc⟩
 |(i,x)::r,as_,cells,cs,la,hp,hc,hf=>by
  simp only [kY] at hp
  split at hp
  ·rename_i p a l h1 h2 h3
   simp only [KJ] at hp;subst hp
   simp only [fillA] at hf
   split at hf
   ·rename_i bN
    obtain ⟨c1,c2,c3⟩:=bN
    have bW:=(ha x a h2).rc c3
    have mj:=sE p.1 (az x).cells.toList 0 cells (by simp [bW.1,hc.1];omega)
    have hsz:(az x).cells.size=p.2:=bW.1.trans c1
    have iJ:RC E ((az x).cells.zipIdx.foldl (fun cs (x:Value×Nat)=>cs.setIfInBounds (p.1+x.2) x.1) cells) (putCells cs p.1 (ρ a).cells):=by
     rw [<-Array.foldl_toList,Array.toList_zipIdx]
     refine ⟨by rw [mj.1,wU (by omega)];exact hc.1,fun j u c hu fL=> ?_⟩
     rw [mj.2 j] at hu
     rw [wT (by omega)] at fL
     by_cases h4:j<p.1
     ·rw [KK (by omega)] at hu;rw [KL h4] at fL
      exact hc.2 j u c hu fL
     ·rw [KK h4] at fL
      by_cases h5:j<p.1+(ρ a).cells.length
      ·rw [KL (by simp;omega)] at hu;rw [KL h5] at fL
       simp only [LC,Array.getElem?_toList] at hu
       exact bW.2 _ u c hu fL
      ·rw [KK (by simp;omega)] at hu;rw [KK h5] at fL
       exact hc.2 j u c hu fL
    obtain ⟨eH,k1,k2⟩:=wW ha place r l _ _ la h3 iJ hf
    refine ⟨eH, ?_,k2⟩
    simp only [KW,Instr.fill,h1]
    rw [KK (by simp [hsz,hc.1];omega)]
    exact k1
   ·simp at hf
  ·simp at hp
theorem wX (ha:dA E az ρ) (hm:aB E J base g) {zs:List AV} {as_:List (Nat×Nat×Arg)} {place:Nat->Option (Nat×Nat)} (hz:fo P t=some zs) (hp:kY place parts.toList=some as_)
  (hb:∀z i,P.info? t=some i->i.zero=some z->∀ps,P.built t ps=Instr.fill place z.cells ps) (h:((AO.agg zs as_).af fresh ρ).run g=some (.done val ups)):
  bu E J base g ((do pure (Next.value (<-Instr.build t (parts.map fun (i,x)=>(i,az x)))):Sem Next).run P E.w) val ups:=by
 obtain ⟨i,z,hi,cD,hs,hcs,dB,cF⟩:=kZ hz
 simp only [AO.af] at h
 cases hf:fillA ρ zs as_ with
 |none=>simp [hf,RM.opt,RM.run] at h
 |some cs=>
  simp [hf,RM.opt,RM.run] at h
  obtain ⟨rfl,rfl⟩:=h
  obtain ⟨eH,k1,k2⟩:=wW ha place parts.toList as_ z.cells zs cs hp ⟨hcs,cF E⟩ hf
  have BK:P.built t (parts.map fun (i,x)=>(i,az x)).toList=some eH:=by
   rw [hb z i hi cD];simpa using k1
  refine a0 hm (v:= .agg eH) ?_ (.agg k2.1 k2.2)
  simp [run_build E.w t _ eH BK]
theorem wY (ha:dA E az ρ) (sz:Nat) (hsz:0<sz):∀(parts:List (Nat×Operand)) (as_:List (Nat×Arg)) (cells:Array Value) (els fN:List (List AV)),mi parts=some as_->
  (cells.size=els.length*sz/\∀(i:Nat) cs,els[i]? =some cs->cs.length=sz/\∀(j:Nat) x,cs[j]? =some x->∃u,cells[i*sz+j]? =some u/\u.oneCell'=true/\ae E u x)->fillE ρ sz els as_=some fN->
  ∃eH,Instr.fill (fun i=>some (i*sz,sz)) cells (parts.map fun (i,x)=>(i,az x))=some eH/\fN.length=els.length/\
   (eH.size=fN.length*sz/\∀(i:Nat) cs,fN[i]? =some cs->cs.length=sz/\∀(j:Nat) x,cs[j]? =some x->∃u,eH[i*sz+j]? =some u/\u.oneCell'=true/\ae E u x)
 |[],as_,cells,els,fN,hp,hc,hf=>by
  simp only [mi,KJ] at hp;subst hp
  simp only [fillE,KJ] at hf;subst hf
  exact ⟨cells,rfl,rfl,hc⟩
 |(i,x)::r,as_,cells,els,fN,hp,hc,hf=>by
  simp only [mi] at hp
  split at hp
  ·rename_i a l h2 h3
   simp only [KJ] at hp;subst hp
   simp only [fillE] at hf
   split at hf
   ·rename_i bN
    obtain ⟨c1,c2,c3⟩:=bN
    obtain ⟨r1,r2,r3⟩:=(ha x a h2).cells c3
    have hfit:i*sz+sz<=els.length*sz:=by
     have:(i+1)*sz<=els.length*sz:=Lf _ (by omega)
     rw [Lc] at this;omega
    have mj:=sE (i*sz) (az x).cells.toList 0 cells (by simp [r1,hc.1,c1];omega)
    obtain ⟨eH,k1,k2,k3⟩:=wY ha sz hsz r l ((az x).cells.zipIdx.foldl (fun cs (y:Value×Nat)=>cs.setIfInBounds (i*sz+y.2) y.1) cells) (els.set i (ρ a).cells) fN h3 (by
     rw [<-Array.foldl_toList,Array.toList_zipIdx]
     refine ⟨by rw [mj.1];simpa using hc.1,fun i' ds hd=> ?_⟩
     simp only [List.getElem?_set] at hd
     by_cases nC:i=i'
     ·subst nC
      simp only [KN,c2,KJ] at hd
      subst hd
      refine ⟨c1,fun j y hj=> ?_⟩
      have aU:j<(az x).cells.size:=by rw [r1];exact (KS.1 hj).1
      refine ⟨(az x).cells[j], ?_,r3 _ (by simp),r2 j _ y (KX aU) hj⟩
      rw [mj.2,KL (by simp;omega)]
      simp [aU]
     ·simp only [nC,Lh] at hd
      refine ⟨(hc.2 i' ds hd).1,fun j y hj=> ?_⟩
      obtain ⟨u,m1,m2,m3⟩:=(hc.2 i' ds hd).2 j y hj
      have aU:j<sz:=by
       have:=(KS.1 hj).1
       rw [(hc.2 i' ds hd).1] at this;exact this
      refine ⟨u, ?_,m2,m3⟩
      rw [mj.2,KK]
      ·exact m1
      ·simp only [Array.length_toList,r1,c1]
       rcases Ls i' i with h1|h1
       ·have:(i'+1)*sz<=i*sz:=Lf _ (by omega)
        rw [Lc] at this;omega
       ·have:(i+1)*sz<=i'*sz:=Lf _ (by omega)
        rw [Lc] at this;omega) hf
    refine ⟨eH, ?_,by simpa using k2,k3⟩
    simp only [KW,Instr.fill]
    rw [KK (by simp [r1,c1,hc.1];omega)]
    exact k1
   ·simp at hf
  ·simp at hp
theorem BL (ha:dA E az ρ) (hm:aB E J base g) (hf:¬E.kn fresh) {zs:List AV} {as_:List (Nat×Arg)} (ht:P.underlying t=some (.slice e)) (hz:fo P e=some zs)
  (hl:len*zs.length<=16777216) (cQ:0<zs.length) (hp:mi parts.toList=some as_) (h:((AO.bsl zs.length len zs as_).af fresh ρ).run g=some (.done val ups)):
  bu E J base g ((do pure (Next.value (<-Instr.buildSlice t len (parts.map fun (i,x)=>(i,az x)))):Sem Next).run P E.w) val ups:=by
 obtain ⟨i,z,hi,cD,hs,hcs,dB,cF⟩:=kZ hz
 simp only [AO.af] at h
 cases hfe:fillE ρ zs.length (List.replicate len zs) as_ with
 |none=>simp [hfe,RM.opt,RM.run] at h
 |some els=>
  simp [hfe,RM.opt,RM.run] at h
  obtain ⟨rfl,rfl⟩:=h
  obtain ⟨eH,k1,k2,k3,k4⟩:=wY ha zs.length cQ parts.toList as_ ((Array.range (len*zs.length)).map (z.cells[· %z.cells.size]!)) (List.replicate len zs) els hp (by
   refine ⟨by simp,fun q cs hq=> ?_⟩
   have pQ:q<len:=by have:=(KS.1 hq).1;simpa using this
   simp [pQ] at hq
   subst hq
   refine ⟨rfl,fun j x hj=> ?_⟩
   have aU:j<zs.length:=(KS.1 hj).1
   have hfit:q*zs.length+zs.length<=len*zs.length:=by
    have:(q+1)*zs.length<=len*zs.length:=Lf _ (by omega)
    rw [Lc] at this;omega
   have g9:j<z.cells.size:=by omega
   have nD:(q*zs.length+j)%z.cells.size=j:=by rw [hcs,L6,Nat.mul_add_mod];exact L7 aU
   refine ⟨z.cells[j], ?_, ?_,cF E j _ x (KX g9) hj⟩
   ·rw [KX (by simp;omega)]
    simp [nD,g9]
   ·refine (cF E j _ x (KX g9) hj).one ?_
    simp only [KQ] at dB
    have:=(KS.1 hj).2
    rw [<-this];exact dB _ (List.getElem_mem _)) hfe
  simp only [MF] at k2
  refine pP hm hf eH e ⟨zs.length,els⟩ (v:= .slice (some ⟨E.w.heap.size,0,none⟩) len len) ?_ (fun E' hE=>⟨by rw [k3];exact KO _,fun q cs hq=>⟨(k4 q cs hq).1,fun j x hj=> ?_⟩⟩) (fun E' hw q1 q2 q3 q4=> ?_)
  ·have hz0:¬(len*zs.length>2^24):=by omega
   by_cases h0:len*zs.length=0
   ·have BM:len=0:=by
     rcases Nat.mul_eq_zero.1 h0 with h|h
     ·exact h
     ·omega
    subst BM
    have e0:Array.range 0= #[]:=rfl
    simp only [Nat.zero_mul,e0,Array.map_empty] at k1
    simp only [Instr.buildSlice,run_underlying ht,sizeOf,typeInfo,hi,hs,newRow,Lu,Mm,run_program,Sem.run_pure,bind_pure_comp,Sem.run_map,Nat.zero_mul]
    simp [e0,k1]
   ·have hz1:¬(16777216<len*zs.length):=by omega
    simp [Instr.buildSlice,run_underlying ht,sizeOf,typeInfo,zeroValue,hi,cD,hs,newRow,hz1]
    rw [KK h0]
    simp at k1
    simp [hi,cD,k1]
  ·obtain ⟨u,m1,m2,m3⟩:=(k4 q cs hq).2 j x hj
   exact ⟨u,m1,m2,m3.step hE⟩
  ·refine .own q1 q2 q3 (.inl (by simp)) (t:=e) (m:=eH.size) ?_ (by rw [k3,k2];simp) (KO _) (by have:=Nat.le_mul_of_pos_right len cQ;omega) (by rw [q4];dsimp only;omega)
   rw [hw]
   unfold World.shape?
   rw [heap_alloc_new]
end
open Go.RowKit
section
variable {P:Program} {E:Env} {J:Nat->Prop} {base:Nat} {g:Nat->Option Bk} {az:Operand->Value} {ρ:Arg->AV} {fresh:Nat}
theorem wZ (ht:gE P t=some m) (bW:RC E vs cs) (ha:getCells cs off m=some a):
  ∃v,(part t vs off).run P E.w= .ok v E.w/\ae E v a:=by
 obtain ⟨h1,h2⟩:=wQ ht E.w
 cases m with
 |none=>
  simp only [getCells] at ha
  have hl:off<vs.size:=by rw [bW.1];exact (KS.1 ha).1
  refine ⟨vs[off], ?_,bW.2 off _ a (KX hl) ha⟩
  simp [part,h1,KX hl]
 |some n=>
  simp only [getCells] at ha
  split at ha
  ·rename_i hle
   simp only [KJ] at ha;subst ha
   refine ⟨.agg (vs.extract off (off+n)),by simp [part,h1,h2 n rfl], .agg (by simp [bW.1];omega) (fun i v c hv hc=> ?_)⟩
   have hi:i<n:=by
    have:=(KS.1 hc).1
    simp at this;omega
   rw [LV,KL hi,LW] at hc
   rw [Array.getElem?_extract] at hv
   split at hv
   ·exact bW.2 _ v c hv hc
   ·simp at hv
  ·simp at ha
theorem alive {id:Nat} {B:Bk} (hm:aB E J base g) (h:g id=some B):¬E.dead id:=((hm.live id).2 ⟨B,h⟩).2
theorem gk {α:Type} {id:Nat} {k:RM α} {a:α} (h:(RM.lv id k).run g=some a):∃B,g id=some B/\k.run g=some a:=by
 simp only [RM.run] at h
 cases hg:g id with
 |none=>simp [hg] at h
 |some B=>simp only [hg] at h;exact ⟨B,rfl,h⟩
theorem xc (hm:aB E J base g) {str:Bool} (ht:if str=true then P.underlying t=some .string else ∃e,P.underlying t=some (.slice e)) (hv:ae E v (ρ x)) (ty:TypeId)
  (h:((AO.len str x).af fresh ρ).run g=some (.done val ups)):bu E J base g ((do pure (Next.value (<-Builtin.len_ #[t] ty #[v])):Sem Next).run P E.w) val ups:=by
 cases str with
 |true=>
  simp only [KN] at ht
  simp only [AO.af] at h
  split at h
  ·rename_i s hx
   simp only [RM.run,KJ,Out.done.injEq] at h
   obtain ⟨rfl,rfl⟩:=h
   rw [hx] at hv
   cases hv with
   |v hp=>exact a0 hm (v:=goInt s.size) (by simp [Builtin.len_,run_underlying ht]) (.v rfl)
  ·simp [RM.run] at h
 |false=>
  simp only [LF,Lh] at ht
  obtain ⟨e,hu⟩:=ht
  have slice:∀A n' c k,v=Value.slice A n' c->n'=k->(do pure (Next.value (<-Builtin.len_ #[t] ty #[v])):Sem Next).run P E.w= .ok (.value (goInt k)) E.w:=by
   intro A n' c k hv hn
   subst hv;subst hn;simp [Builtin.len_,run_underlying hu]
  simp only [AO.af] at h
  split at h
  ·rename_i sz els hx
   simp only [RM.run,KJ,Out.done.injEq] at h
   obtain ⟨rfl,rfl⟩:=h
   rw [hx] at hv
   cases hv with
   |dy hc=>exact a0 hm (slice _ _ _ _ rfl rfl) (.v rfl)
   |dO u hn=>exact a0 hm (slice _ _ _ _ rfl hn) (.v rfl)
  ·rename_i sz els hx
   simp only [RM.run,KJ,Out.done.injEq] at h
   obtain ⟨rfl,rfl⟩:=h
   rw [hx] at hv
   cases hv with
   |cy h'=>
    cases h' with
    |dy hc=>exact a0 hm (slice _ _ _ _ rfl rfl) (.v rfl)
    |dO u hn=>exact a0 hm (slice _ _ _ _ rfl hn) (.v rfl)
  ·rename_i hx
   simp only [RM.run,KJ,Out.done.injEq] at h
   obtain ⟨rfl,rfl⟩:=h
   rw [hx] at hv
   cases hv with
   |emp=>exact a0 hm (slice _ _ _ 0 rfl rfl) (.v rfl)
  ·rename_i id sz off n hx
   obtain ⟨B,hB,h⟩:=gk h
   simp only [RM.run,KJ,Out.done.injEq] at h
   obtain ⟨rfl,rfl⟩:=h
   rw [hx] at hv
   cases hv with
   |own hi eG hb hq hs c8 c9 hc=>exact a0 hm (slice _ _ _ _ rfl rfl) (.v rfl)
   |bL hi eG hb=>exact a0 hm (slice _ _ _ 0 rfl rfl) (.v rfl)
   |ck hi hd=>exact absurd hd (alive hm hB)
  ·simp [RM.run] at h
theorem BN (hm:aB E J base g) (hv:ae E v (ρ x)) {o:Oper} {xo:Operand} (ho:o.op= .nilCheck xo) (hx:az xo=v)
  (h:((AO.nilc x).af fresh ρ).run g=some (.done val ups)):bu E J base g ((execOp az o).run P E.w) val ups:=by
 have key:∀a,v= .pointer (some a)->(execOp az o).run P E.w= .ok (.value v) E.w:=by
  intro a ha
  unfold execOp
  simp [ho,hx,ha]
 simp only [AO.af] at h
 split at h
 ·rename_i id sz i q cV
  obtain ⟨B,hB,h⟩:=gk h
  simp only [RM.run,KJ,Out.done.injEq] at h
  obtain ⟨rfl,rfl⟩:=h
  rw [cV] at hv
  have hv':=hv
  cases hv with
  |ref hi hd hb hq=>exact a0 hm (key _ rfl) hv'
  |dZ hi hd=>exact absurd hd (alive hm hB)
 ·rename_i cs q cV
  simp only [RM.run,KJ,Out.done.injEq] at h
  obtain ⟨rfl,rfl⟩:=h
  rw [cV] at hv
  have hv':=hv
  cases hv with
  |pim u hb hq hu eF hr=>exact a0 hm (key _ rfl) hv'
 ·simp [RM.run] at h
theorem BO (hm:aB E J base g) (hv:ae E v (ρ x)) {n:Nat} (hu:P.underlying s=some (.struct fields)) (hf:fields[fi]? =some f) (hz:szOf P f.type=some n) (hn:n≠0)
  (h:((AO.fad f.offset x).af fresh ρ).run g=some (.done val ups)):bu E J base g ((do pure (Next.value (<-Instr.fieldAt s v fi)):Sem Next).run P E.w) val ups:=by
 have hsz:=ko hz E.w
 have key:∀b q,v= .pointer (some ⟨b,q,none⟩)->(do pure (Next.value (<-Instr.fieldAt s v fi)):Sem Next).run P E.w= .ok (.value (.pointer (some ⟨b,q+f.offset,none⟩))) E.w:=by
  intro b q ha
  subst ha
  simp [Instr.fieldAt,run_underlying hu,hf,Instr.sureAddr,fieldPlace,hsz,hn,LU]
 simp only [AO.af] at h
 split at h
 ·rename_i id sz i q cV
  obtain ⟨B,hB,h⟩:=gk h
  simp only [RM.run,KJ,Out.done.injEq] at h
  obtain ⟨rfl,rfl⟩:=h
  rw [cV] at hv
  cases hv with
  |ref hi hd hb hq=>exact a0 hm (key _ _ rfl) (.ref hi hd hb (by omega))
  |dZ hi hd=>exact absurd hd (alive hm hB)
 ·rename_i cs q cV
  simp only [RM.run,KJ,Out.done.injEq] at h
  obtain ⟨rfl,rfl⟩:=h
  rw [cV] at hv
  cases hv with
  |pim u hb hq nE eF hr=>exact a0 hm (key _ _ rfl) (.pim u hb (by omega) nE eF hr)
 ·simp [RM.run] at h
theorem BP (hm:aB E J base g) (hv:ae E v (ρ x)) (hu:P.underlying s=some (.struct fields)) (hf:fields[fi]? =some f) (hz:gE P f.type=some m)
  (h:((AO.fld f.offset m x).af fresh ρ).run g=some (.done val ups)):bu E J base g ((do pure (Next.value (<-Instr.field s v fi)):Sem Next).run P E.w) val ups:=by
 simp only [AO.af] at h
 split at h
 ·rename_i cs cV
  rw [cV] at hv
  cases hg:getCells cs f.offset m with
  |none=>simp [hg,RM.opt,RM.run] at h
  |some a=>
   simp [hg,RM.opt,RM.run] at h
   obtain ⟨rfl,rfl⟩:=h
   cases hv with
   |agg hl hr=>
    obtain ⟨v',k1,k2⟩:=wZ (P:=P) hz ⟨hl,hr⟩ hg
    exact a0 hm (by simp [Instr.field,run_underlying hu,hf,asAgg,k1]) k2
 ·simp [RM.run] at h
theorem BQ (hm:aB E J base g) (hv:ae E v (ρ x)) (hvi:ae E vi (ρ i)) (hu:P.underlying t=some (.array len e)) (hz:szOf P e=some sz)
  (h:((AO.iap sz len x i).af fresh ρ).run g=some (.done val ups)):bu E J base g ((do pure (Next.value (<-Instr.indexAt t v vi)):Sem Next).run P E.w) val ups:=by
 have hsz:=ko hz E.w
 have key:∀b q k (m:Int),v= .pointer (some ⟨b,q,none⟩)->vi= .int k m->0<=m->m<len->(do pure (Next.value (<-Instr.indexAt t v vi)):Sem Next).run P E.w= .ok (.value (.pointer (some ⟨b,q+m.toNat*sz,none⟩))) E.w:=by
  intro b q k m hv hvi h1 h2
  subst hv;subst hvi
  simp [Instr.indexAt,asIntOf,Instr.sureAddr,run_underlying hu,h1,h2,hsz,LU]
 simp only [AO.af] at h
 split at h
 ·rename_i id s q o k m hx hi
  split at h
  ·rename_i hc
   obtain ⟨h0,h1⟩:=hc
   obtain ⟨B,hB,h⟩:=gk h
   simp only [RM.run,KJ,Out.done.injEq] at h
   obtain ⟨rfl,rfl⟩:=h
   rw [hx] at hv;rw [hi] at hvi
   cases hvi with
   |v hp=>cases hv with
    |ref aE hd hb hq=>exact a0 hm (key _ _ k m rfl rfl h0 h1) (.ref aE hd hb (by omega))
    |dZ aE hd=>exact absurd hd (alive hm hB)
  ·simp [RM.run] at h
 ·rename_i cs o k m hx hi
  split at h
  ·rename_i hc
   obtain ⟨h0,h1⟩:=hc
   simp only [RM.run,KJ,Out.done.injEq] at h
   obtain ⟨rfl,rfl⟩:=h
   rw [hx] at hv;rw [hi] at hvi
   cases hvi with
   |v hp=>cases hv with
    |pim u hb hq nE ld hr=>exact a0 hm (key _ _ k m rfl rfl h0 h1) (.pim u hb (by omega) nE ld hr)
  ·simp [RM.run] at h
 ·simp [RM.run] at h
theorem ae.BR {E:Env} {a:Value} (h:ae E v (.v a)):v=a:=by cases h;rfl
theorem BS (hm:aB E J base g) (hv:ae E v (ρ x)) (hvi:ae E vi (ρ i)) (hu:P.underlying t=some (.array len e)) (hz:szOf P e=some sz) (hg:gE P e=some m)
  (h:((AO.ixa sz len m x i).af fresh ρ).run g=some (.done val ups)):bu E J base g ((do pure (Next.value (<-Instr.index t v vi)):Sem Next).run P E.w) val ups:=by
 have hsz:=ko hz E.w
 simp only [AO.af] at h
 split at h
 ·rename_i cs k n hx hi
  split at h
  ·rename_i hc
   cases hq:getCells cs (n.toNat*sz) m with
   |none=>simp [hq,RM.opt,RM.run] at h
   |some a=>
    simp [hq,RM.opt,RM.run] at h
    obtain ⟨rfl,rfl⟩:=h
    rw [hx] at hv;rw [hi] at hvi
    have ei:=hvi.BR
    subst ei
    cases hv with
    |agg hl hr=>
     obtain ⟨v',k1,k2⟩:=wZ (P:=P) hg ⟨hl,hr⟩ hq
     exact a0 hm (by simp [Instr.index,asIntOf,run_underlying hu,hc.1,hc.2,hsz,k1]) k2
  ·simp [RM.run] at h
 ·simp [RM.run] at h
theorem BT (hm:aB E J base g) (hv:ae E v (ρ x)) (hvi:ae E vi (ρ i)) (hu:P.underlying t=some (.slice e)) (hz:szOf P e=some sz) (cQ:0<sz)
  (h:((AO.iad sz x i).af fresh ρ).run g=some (.done val ups)):bu E J base g ((do pure (Next.value (<-Instr.indexAt t v vi)):Sem Next).run P E.w) val ups:=by
 have hsz:=ko hz E.w
 have key:∀b q n c k (m:Int),v= .slice (some ⟨b,q,none⟩) n c->vi= .int k m->0<=m->m<n->(do pure (Next.value (<-Instr.indexAt t v vi)):Sem Next).run P E.w= .ok (.value (.pointer (some ⟨b,q+m.toNat*sz,none⟩))) E.w:=by
  intro b q n c k m hv hvi h1 h2
  subst hv;subst hvi
  simp [Instr.indexAt,asIntOf,run_underlying hu,h1,h2,hsz,LU]
 have aN:∀v (els:List (List AV)) (m:Int),ae E v (.aN sz els)->(∀b q n c,v= .slice (some ⟨b,q,none⟩) n c->(0<=m/\m<n->(do pure (Next.value (<-Instr.indexAt t v vi)):Sem Next).run P E.w= .ok (.value (.pointer (some ⟨b,q+m.toNat*sz,none⟩))) E.w))->0<=m->∀cs,els[m.toNat]? =some cs->
   bu E J base g ((do pure (Next.value (<-Instr.indexAt t v vi)):Sem Next).run P E.w) (.pim cs 0) []:=by
  intro v els m hr iK h0 cs hcs
  have hlt:m.toNat<els.length:=(KS.1 hcs).1
  cases hr with
  |dy hc=>simp at hlt
  | @dO b off n c _ _ u hn hl hc hb cD nE eF hr'=>
   refine a0 hm (iK b off n c rfl ⟨h0,by omega⟩) (.pim (off:=off+m.toNat*sz) (u m.toNat) hb rfl (fun j x hj=>nE _ _ _ _ hcs hj) (fun j x hj=>(eF _ _ _ _ hcs hj).2) (fun j x hj=>hr' _ _ _ _ hcs hj))
 simp only [AO.af] at h
 split at h
 ·rename_i s els k m hx hi
  split at h
  ·rename_i hc
   obtain ⟨rfl,h0⟩:=hc
   rw [hx] at hv;rw [hi] at hvi
   cases hcs:els[m.toNat]? with
   |none=>simp [hcs,RM.opt,RM.run] at h
   |some cs=>
    simp [hcs,RM.opt,RM.run] at h
    obtain ⟨rfl,rfl⟩:=h
    cases hvi with
    |v hp=>exact aN v els m hv (fun b q n c hv' hh=>key b q n c k m hv' rfl hh.1 hh.2) h0 cs hcs
  ·simp [RM.run] at h
 ·rename_i s els k m hx hi
  split at h
  ·rename_i hc
   obtain ⟨rfl,h0⟩:=hc
   rw [hx] at hv;rw [hi] at hvi
   cases hcs:els[m.toNat]? with
   |none=>simp [hcs,RM.opt,RM.run] at h
   |some cs=>
    simp [hcs,RM.opt,RM.run] at h
    obtain ⟨rfl,rfl⟩:=h
    cases hvi with
    |v hp=>cases hv with
     |cy hv=>exact aN _ els m hv (fun b q n c hv' hh=>key b q n c k m hv' rfl hh.1 hh.2) h0 cs hcs
  ·simp [RM.run] at h
 ·rename_i id s off ln k m hx hi
  split at h
  ·rename_i hc
   obtain ⟨rfl,h0,h1⟩:=hc
   obtain ⟨B,hB,h⟩:=gk h
   simp only [RM.run,KJ,Out.done.injEq] at h
   obtain ⟨rfl,rfl⟩:=h
   rw [hx] at hv;rw [hi] at hvi
   cases hvi with
   |v hp=>cases hv with
    | @own _ _ _ n c b q m' t' hi hd hb hq hs c8 c9 hc=>
     refine a0 hm (key b q _ c k m rfl rfl h0 h1) (.ref hi hd hb ?_)
     rcases hq with hq|hq
     ·rw [hq,Lc];omega
     ·omega
    |bL hi eG hb=>simp at h1;omega
    |ck hi hd=>exact absurd hd (alive hm hB)
  ·simp [RM.run] at h
 ·simp [RM.run] at h
theorem BU (hm:aB E J base g) {i:Nat} (hv:ae E v (ρ x))
  (h:((AO.ext i x).af fresh ρ).run g=some (.done val ups)):bu E J base g ((do pure (Next.value (<-Instr.extract v i)):Sem Next).run P E.w) val ups:=by
 simp only [AO.af] at h
 split at h
 ·rename_i vs hx
  rw [hx] at hv
  cases hi:vs[i]? with
  |none=>simp [hi,RM.opt,RM.run] at h
  |some a=>
   simp [hi,RM.opt,RM.run] at h
   obtain ⟨rfl,rfl⟩:=h
   cases hv with
   | @aG us _ hl hr=>
    have hlt:i<us.size:=by rw [hl];exact (KS.1 hi).1
    exact a0 hm (by simp [Instr.extract,KX hlt]) (hr i _ a (KX hlt) hi)
 ·simp [RM.run] at h
theorem pR (hv:ae E v a) (h:natOf a=some n):∃k,v= .int k (n:Int):=by
 unfold natOf at h
 split at h
 ·rename_i k m
  split at h
  ·simp only [KJ] at h
   subst h
   cases hv with
   |v hp=>exact ⟨k,by congr 1;omega⟩
  ·simp at h
 ·simp at h
theorem BV (hm:aB E J base g) (hf:¬E.kn fresh) {zs:List AV} {i:TypeInfo} (ht:P.underlying t=some (.slice e)) (hz:fo P e=some zs) (hi:P.info? e=some i) (cQ:0<zs.length) (lf:0<i.bytes) {vl vc:Value} {l c:Arg} (hl:ae E vl (ρ l)) (hc:ae E vc (ρ c))
 (h:((AO.msl zs.length i.bytes zs l c).af fresh ρ).run g=some (.done val ups)):
  bu E J base g ((do pure (Next.value (<-Instr.makeSlice t vl vc)):Sem Next).run P E.w) val ups:=by
 obtain ⟨i',z,aE,cD,hs,hcs,dB,cF⟩:=kZ hz
 obtain rfl:i=i':=by rw [hi] at aE;simpa using aE
 simp only [AO.af] at h
 split at h
 ·rename_i n m h1 h2
  split at h
  ·rename_i bN
   obtain ⟨hle,hb⟩:=bN
   simp only [RM.run,KJ,Out.done.injEq] at h
   obtain ⟨rfl,rfl⟩:=h
   obtain ⟨kl,rfl⟩:=pR hl h1
   obtain ⟨kc,rfl⟩:=pR hc h2
   have xd:m<=m*i.bytes:=Nat.le_mul_of_pos_right _ lf
   have BW:(i.bytes:Int)*(m:Int)<=281474976710656:=by
    have:((i.bytes*m:Nat):Int)<=281474976710656:=by rw [L6];omega
    rwa [Int.natCast_mul] at this
   have hrun:=run_make (P:=P) E.w t e i z ht hi cD kl kc n m (by omega) (by omega) BW (by omega)
   simp only [Md] at hrun
   have hsz:(madeCells z.cells (m*i.size)).size=m*zs.length:=by rw [size_madeCells,hs]
   refine pP hm hf (madeCells z.cells (m*i.size)) e ⟨zs.length,List.replicate n zs⟩ (v:= .slice (some ⟨E.w.heap.size,0,none⟩) n m) (by simp [hrun]) (fun E' hE=>⟨?_,fun q cs hq=> ?_⟩) (fun E' hw q1 q2 q3 q4=> ?_)
   ·simp only [MF,hsz];exact Lf _ hle
   ·have pQ:q<n:=by have:=(KS.1 hq).1;simpa using this
    simp [pQ] at hq
    subst hq
    refine ⟨rfl,fun j x hj=> ?_⟩
    have aU:j<zs.length:=(KS.1 hj).1
    have hfit:q*zs.length+zs.length<=m*zs.length:=by
     have:(q+1)*zs.length<=m*zs.length:=Lf _ (by omega)
     rw [Lc] at this;omega
    have g9:j<z.cells.size:=by omega
    have nD:(q*zs.length+j)%z.cells.size=j:=by rw [hcs,L6,Nat.mul_add_mod];exact L7 aU
    refine ⟨z.cells[j], ?_, ?_,(cF E j _ x (KX g9) hj).step hE⟩
    ·dsimp only
     rw [KX (by rw [hsz];omega)]
     simp [madeCells,nD,g9]
    ·refine (cF E j _ x (KX g9) hj).one ?_
     simp only [KQ] at dB
     have:=(KS.1 hj).2
     rw [<-this];exact dB _ (List.getElem_mem _)
   ·refine .own q1 q2 q3 (.inl (by simp)) (t:=e) (m:=(madeCells z.cells (m*i.size)).size) ?_ (by rw [hsz];simp) hle (by omega) (by rw [q4];simp;omega)
    rw [hw]
    unfold World.shape?
    rw [heap_alloc_new]
  ·simp [RM.run] at h
 ·simp [RM.run] at h
theorem pS (ha:dA E az ρ) {x:Option Operand} {ax:Option Arg} (hx:er x=some ax) {n:Option Nat} (h:cE ρ ax=some n):(x=none/\n=none)\/∃o m k,x=some o/\n=some m/\az o= .int k (m:Int):=by
 cases x with
 |none=>
  simp [er] at hx;subst hx
  simp [cE] at h;subst h
  exact .inl ⟨rfl,rfl⟩
 |some o=>
  simp only [er] at hx
  cases hc:cArg o with
  |none=>simp [hc] at hx
  |some a=>
   simp [hc] at hx;subst hx
   simp only [cE] at h
   cases hn:natOf (ρ a) with
   |none=>simp [hn] at h
   |some m=>
    simp [hn] at h;subst h
    obtain ⟨k,hk⟩:=pR (ha o a hc) hn
    exact .inr ⟨o,m,k,rfl,rfl,hk⟩
theorem lg (ha:dA E az ρ) {isS:Bool} {ln:Nat} (sF:ln<=cap) (h1:er lo=some iF) (h2:er hi=some iG) (h3:er mx=some amx) {nlo nhi nmx:Option Nat} (k1:cE ρ iF=some nlo) (k2:cE ρ iG=some nhi) (k3:cE ρ amx=some nmx)
  (jr:mx.isSome=true->hi.isSome=true) {b:Nat×Nat} (hb:bounds ln nlo nhi=some b) (fO:∀m,nmx=some m->b.2<=m/\m<=ln):
  (Instr.sliceBounds isS ln cap (lo.map az) (hi.map az) (mx.map az)).run P E.w= .ok (b.1,b.2,nmx.getD cap) E.w:=by
 have sb:∀(k:IntKind) (n y:Nat) (code:BoundsCode),n<=y->(Instr.sliceBound (.int k (n:Int)) y code).run P E.w= .ok n E.w:=by
  intro k n y code h
  simp [Instr.sliceBound,asIntOf,h]
 unfold bounds at hb
 split at hb
 ·rename_i hc
  simp only [KJ] at hb
  subst hb
  obtain ⟨c1,c2⟩:=hc
  simp only at fO
  rcases pS ha h3 k3 with ⟨rfl,rfl⟩|⟨om,m,km,rfl,rfl,em⟩<;>rcases pS ha h2 k2 with ⟨rfl,rfl⟩|⟨oh,hh,kh,rfl,rfl,eh⟩<;>rcases pS ha h1 k1 with ⟨rfl,rfl⟩|⟨ol,ll,kl,rfl,rfl,el⟩
  all_goals simp only [Me,LM] at c1 c2 fO ⊢
  ·simp [Instr.sliceBounds]
  ·simp [Instr.sliceBounds,el,sb kl ll ln _ c1]
  ·simp [Instr.sliceBounds,eh,sb kh hh cap _ (by omega)]
  ·simp [Instr.sliceBounds,eh,el,sb kh hh cap _ (by omega),sb kl ll hh _ c1]
  ·simp at jr
  ·simp at jr
  ·have:=fO m rfl
   simp [Instr.sliceBounds,eh,em,sb km m cap _ (by omega),sb kh hh m _ (by omega)]
  ·have:=fO m rfl
   simp [Instr.sliceBounds,eh,em,el,sb km m cap _ (by omega),sb kh hh m _ (by omega),sb kl ll hh _ c1]
 ·simp at hb
theorem xe (hv:ae E (.slice A n c) (.aN sz els)) (h1:l<=h) (h2:h<=els.length) (m:Nat) (pT:h<=m) (hH:m<=c):
  ae E (.slice (if m=l then A else A.map (·.add (l*sz))) (h - l) (m - l)) (.aN sz ((els.drop l).take (h - l))):=by
 by_cases h0:h - l=0
 ·rw [h0,List.take_zero]
  cases hv with
  |dy hc=>exact .dy (by omega)
  |dO u hn hl hc=>exact .dy (by omega)
 ·cases hv with
  |dy hc=>simp at h2;omega
  | @dO b off n c _ _ u hn hl hc hb hz hu eF hr=>
   rw [KK (by omega)]
   simp only [KV,LU]
   refine .dO (fun i j=>u (l+i) j) (by simp;omega) (by omega) (by omega) hb (fun i cs hi=> ?_) (fun i cs j x hi hj=> ?_) (fun i cs j x hi hj=> ?_) (fun i cs j x hi hj=> ?_)
   all_goals
    rw [LV] at hi
    split at hi
    ·rw [LW] at hi
     first
      |exact hz _ cs hi
      |(rw [show off+l*sz+i*sz+j=off+(l+i)*sz+j by rw [Lc];omega];exact hu _ _ _ _ hi hj)
      |exact eF _ _ _ _ hi hj
      |exact hr _ _ _ _ hi hj
    ·simp at hi
theorem BX {id s:Nat} {m:Nat} (hr:ae E (.slice A n c) (.own id s off n)) (pU:¬E.dead id) (h1:l<=h) (pT:h<=m) (hH:m<=c) (sG:E.ln id<=off+m):ae E (.slice (if m=l then A else A.map (·.add (l*s))) (h - l) (m - l)) (.own id s (off+l) (h - l)):=by
 cases hr with
 | @own _ _ _ _ _ bb q mm t' aE hd hbl hq hs cR hl hcc aZ=>
  by_cases e1:m=l
  ·rw [KL e1]
   refine .own aE hd hbl (.inr (by omega)) hs (Lg (Lf _ (by omega)) cR) (by omega) (by omega) (by omega)
  ·rw [KK e1]
   simp only [KV,LU]
   refine .own aE hd hbl (.inl ?_) hs (Lg (Lf _ (by omega)) cR) (by omega) (by omega) (by omega)
   rcases hq with hq|hq
   ·rw [hq,Lc]
   ·omega
 |bL aE hd hbl aZ=>
  have mn:l=0:=by omega
  have hb2:h=0:=by omega
  have fP:m=0:=by omega
  simp only [mn,hb2,fP,Nat.sub_self,LC,KN]
  exact .bL aE hd hbl aZ
 |ck aE hd=>exact absurd hd pU
theorem BY (ha:dA E az ρ) (hm:aB E J base g) (hu:P.underlying t=some (.slice e)) (hz:szOf P e=some sz) {x:Operand} {ax:Arg} (hx:cArg x=some ax) (h1:er lo=some iF) (h2:er hi=some iG) (h3:er mx=some amx)
  (jr:mx.isSome=true->hi.isSome=true) (h:((AO.slc sz ax iF iG amx).af fresh ρ).run g=some (.done val ups)):
  bu E J base g ((do pure (Next.value (<-Instr.sliceAt t (az x) (lo.map az) (hi.map az) (mx.map az))):Sem Next).run P E.w) val ups:=by
 have hsz:=ko hz E.w
 have hv:=ha x ax hx
 have key:∀A n c l h m,az x= .slice A n c->(Instr.sliceBounds true n c (lo.map az) (hi.map az) (mx.map az)).run P E.w= .ok (l,h,m) E.w->
   (do pure (Next.value (<-Instr.sliceAt t (az x) (lo.map az) (hi.map az) (mx.map az))):Sem Next).run P E.w= .ok (.value (.slice (if m=l then A else A.map (·.add (l*sz))) (h - l) (m - l))) E.w:=by
  intro A n c l h m hv hb
  rw [hv]
  simp [Instr.sliceAt,Instr.slice,run_underlying hu,hb,hsz]
 have aN:∀A n c els s,az x= .slice A n c->n=els.length->n<=c->ae E (.slice A n c) (.aN s els)->s=sz->∀nlo nhi nmx b a,cE ρ iF=some nlo->cE ρ iG=some nhi->cE ρ amx=some nmx->bounds els.length nlo nhi=some b->cutL sz els b.1 b.2 nmx=some a->
   bu E J base g ((do pure (Next.value (<-Instr.sliceAt t (az x) (lo.map az) (hi.map az) (mx.map az))):Sem Next).run P E.w) a []:=by
  intro A n c els s hvx hn eI hr hs nlo nhi nmx b a k1 k2 k3 hb hc
  subst hs;subst hn
  have hbb:b.1<=b.2/\b.2<=els.length:=by
   unfold bounds at hb
   split at hb
   ·rename_i bN;simp only [KJ] at hb;subst hb;exact bN
   ·simp at hb
  cases nmx with
  |none=>
   simp only [cutL,KJ] at hc;subst hc
   have eV:=lg (P:=P) (isS:=true) ha eI h1 h2 h3 k1 k2 k3 jr hb (fun m hm=>by simp at hm)
   exact a0 hm (key A _ c b.1 b.2 c hvx eV) (xe hr hbb.1 hbb.2 c (by omega) (KO _))
  |some m=>
   simp only [cutL] at hc
   split at hc
   ·rename_i bN
    simp only [KJ] at hc
    have eV:=lg (P:=P) (isS:=true) ha eI h1 h2 h3 k1 k2 k3 jr hb (fun m' c8=>by simp at c8;subst c8;exact bN)
    have cF:=xe hr hbb.1 hbb.2 m bN.1 (by omega)
    have iK:=key A _ c b.1 b.2 m hvx eV
    by_cases e1:m=b.1
    ·rw [KL e1] at hc;subst hc
     refine a0 hm iK ?_
     rw [show b.2 - b.1=0 by omega,show m - b.1=0 by omega]
     exact .emp
    ·rw [KK e1] at hc
     by_cases e2:m=b.2
     ·rw [KL e2] at hc;subst hc
      refine a0 hm iK ?_
      rw [e2] at cF ⊢
      exact .cy cF
     ·rw [KK e2] at hc;subst hc
      exact a0 hm iK cF
   ·simp at hc
 simp only [AO.af] at h
 split at h
 ·rename_i nlo nhi nmx k1 k2 k3
  split at h
  ·rename_i s els cV
   rw [cV] at hv
   split at h
   ·rename_i hs
    cases hb:bounds els.length nlo nhi with
    |none=>simp [hb,RM.opt,RM.run] at h
    |some b=>
     cases hc:cutL sz els b.1 b.2 nmx with
     |none=>simp [hb,hc,RM.opt,RM.run] at h
     |some a=>
      simp [hb,hc,RM.opt,RM.run] at h
      obtain ⟨rfl,rfl⟩:=h
      obtain ⟨vv,bX⟩:∃vv,vv=az x:=⟨_,rfl⟩
      rw [<-bX] at hv
      have hv':=hv
      cases hv with
      |dy hcc=>exact aN _ _ _ _ s bX.symm rfl (by simp) hv' hs _ _ _ _ _ k1 k2 k3 hb hc
      |dO u hn hl hcc=>exact aN _ _ _ _ s bX.symm hn hl hv' hs _ _ _ _ _ k1 k2 k3 hb hc
   ·simp [RM.run] at h
  ·rename_i s els cV
   rw [cV] at hv
   split at h
   ·rename_i hs
    cases hb:bounds els.length nlo nhi with
    |none=>simp [hb,RM.opt,RM.run] at h
    |some b=>
     cases hc:cutL sz els b.1 b.2 nmx with
     |none=>simp [hb,hc,RM.opt,RM.run] at h
     |some a=>
      simp [hb,hc,RM.opt,RM.run] at h
      obtain ⟨rfl,rfl⟩:=h
      obtain ⟨vv,bX⟩:∃vv,vv=az x:=⟨_,rfl⟩
      rw [<-bX] at hv
      cases hv with
      |cy hv=>
       have hv':=hv
       cases hv with
       |dy hcc=>exact aN _ _ _ _ s bX.symm rfl (by simp) hv' hs _ _ _ _ _ k1 k2 k3 hb hc
       |dO u hn hl hcc=>exact aN _ _ _ _ s bX.symm hn hl hv' hs _ _ _ _ _ k1 k2 k3 hb hc
   ·simp [RM.run] at h
  ·rename_i cV
   rw [cV] at hv
   cases hb:bounds 0 nlo nhi with
   |none=>simp [hb,RM.opt,RM.run] at h
   |some b=>
    by_cases hc:nmx.getD 0=0
    ·simp [hb,hc,RM.opt,RM.run] at h
     obtain ⟨rfl,rfl⟩:=h
     obtain ⟨vv,bX⟩:∃vv,vv=az x:=⟨_,rfl⟩
     rw [<-bX] at hv
     have hbb:b.1=0/\b.2=0:=by
      unfold bounds at hb
      split at hb
      ·rename_i bN;simp only [KJ] at hb;subst hb;simp only;omega
      ·simp at hb
     have h0:∀m,nmx=some m->m=0:=fun m c8=>by rw [c8] at hc;simpa using hc
     cases hv with
     | @emp A=>
      have eV:=lg (P:=P) (isS:=true) ha (KO 0) h1 h2 h3 k1 k2 k3 jr hb (fun m hm=>by rw [h0 m hm,hbb.2];exact ⟨KO _,KO _⟩)
      refine a0 hm (key A _ _ b.1 b.2 _ bX.symm eV) ?_
      rw [hbb.1,hbb.2,hc]
      exact .emp
    ·simp [hb,hc,RM.opt,RM.run] at h
  ·rename_i id s off n cV
   obtain ⟨B,hB,h⟩:=gk h
   rw [cV] at hv
   have hs:s=sz:=by
    cases nmx with
    |none=>simp only at h;split at h<;>first|assumption|simp [RM.run] at h
    |some m=>simp only [RM.run,hB] at h;split at h<;>first|(rename_i hc;exact hc.1)|simp [RM.run] at h
   ·subst hs
    cases hb:bounds n nlo nhi with
    |none=>
     cases nmx with
     |some m=>exfalso;simp [hb,hB,RM.opt,RM.run] at h
     |none=>
      cases nhi with
      |none=>exfalso;simp [hb,RM.run] at h
      |some hh=>
       simp only [hb,KN,RM.run,hB] at h
       by_cases iL:B.sz=s
       rotate_left
       ·rw [KK iL] at h;simp [RM.run] at h
       rw [KL iL] at h
       cases hb2:bounds (B.els.length - off) nlo (some hh) with
       |none=>simp [hb2,RM.opt,RM.run] at h
       |some b=>
        simp [hb2,RM.opt,RM.run] at h
        obtain ⟨rfl,rfl⟩:=h
        have hbb:b.1<=b.2/\b.2<=B.els.length - off:=by
         unfold bounds at hb2
         split at hb2
         ·rename_i bN;simp only [KJ] at hb2;subst hb2;exact bN
         ·simp at hb2
        obtain ⟨vv,bX⟩:∃vv,vv=az x:=⟨_,rfl⟩
        rw [<-bX] at hv
        have hdd:=alive hm hB
        have hlen:=hm.len id B hB (by have:=hv.pI hdd;omega)
        have bY:∃A c,vv= .slice A n c/\n<=c/\E.ln id<=off+c:=by
         cases hv with
         |own aE hd hbl hq hs cR hl hcc aZ=>exact ⟨_,_,rfl,hl,aZ⟩
         |bL aE hd hbl aZ=>exact ⟨_,_,rfl,KO _,by omega⟩
         |ck aE hd=>exact absurd hd hdd
        obtain ⟨A,c,rfl,eI,sH⟩:=bY
        have eV:=lg (P:=P) (isS:=true) (cap:=c) ha (by omega) h1 h2 h3 k1 k2 k3 jr hb2 (fun m hm=>by simp at hm)
        have dR:∃oh,hi=some oh:=by
         rcases pS ha h2 k2 with ⟨_,h⟩|⟨oh,_,_,h,_,_⟩
         ·simp at h
         ·exact ⟨oh,h⟩
        obtain ⟨oh,rfl⟩:=dR
        have BZ:(Instr.sliceBounds true n c (lo.map az) ((some oh).map az) (mx.map az)).run P E.w= .ok (b.1,b.2,c) E.w:=by
         have e:Instr.sliceBounds true n c (lo.map az) ((some oh).map az) (mx.map az)=Instr.sliceBounds true (B.els.length - off) c (lo.map az) ((some oh).map az) (mx.map az):=by
          cases mx<;>rfl
         rw [e];exact eV
        exact a0 hm (key A _ c b.1 b.2 c bX.symm BZ) (BX hv hdd hbb.1 (by omega) (KO _) sH)
    |some b=>
     have hbb:b.1<=b.2/\b.2<=n:=by
      unfold bounds at hb
      split at hb
      ·rename_i bN;simp only [KJ] at hb;subst hb;exact bN
      ·simp at hb
     obtain ⟨vv,bX⟩:∃vv,vv=az x:=⟨_,rfl⟩
     rw [<-bX] at hv
     have own:∀A c m,vv= .slice A n c->ae E (.slice A n c) (.own id s off n)->b.2<=m->m<=c->E.ln id<=off+m->ae E (.slice (if m=b.1 then A else A.map (·.add (b.1*s))) (b.2 - b.1) (m - b.1)) (.own id s (off+b.1) (b.2 - b.1)):=by
      intro A c m Kb hr pT hH sG
      cases hr with
      | @own _ _ _ _ _ bb q mm t' aE hd hbl hq hs cR hl hcc aZ=>
       by_cases e1:m=b.1
       ·rw [KL e1]
        refine .own aE hd hbl (.inr (by omega)) hs (Lg (Lf _ (by omega)) cR) (by omega) (by omega) (by omega)
       ·rw [KK e1]
        simp only [KV,LU]
        refine .own aE hd hbl (.inl ?_) hs (Lg (Lf _ (by omega)) cR) (by omega) (by omega) (by omega)
        rcases hq with hq|hq
        ·rw [hq,Lc]
        ·omega
      |bL aE hd hbl aZ=>
       have mn:b.1=0:=by omega
       have hb2:b.2=0:=by omega
       have fP:m=0:=by omega
       simp only [mn,hb2,fP,Nat.sub_self,LC,KN]
       exact .bL aE hd hbl aZ
      |ck aE hd=>exact absurd hd (alive hm hB)
     have bY:∃A c,vv= .slice A n c/\n<=c:=by
      cases hv with
      |own aE hd hbl hq hs cR hl hcc=>exact ⟨_,_,rfl,hl⟩
      |bL aE hd hbl=>exact ⟨_,_,rfl,KO _⟩
      |ck aE hd=>exact absurd hd (alive hm hB)
     obtain ⟨A,c,rfl,eI⟩:=bY
     cases nmx with
     |none=>
      simp [hb,RM.opt,RM.run] at h
      obtain ⟨rfl,rfl⟩:=h
      have eV:=lg (P:=P) (isS:=true) ha eI h1 h2 h3 k1 k2 k3 jr hb (fun m hm=>by simp at hm)
      refine a0 hm (key A _ c b.1 b.2 c bX.symm eV) (own A c c rfl hv (by omega) (KO _) ?_)
      cases hv with
      |own aE hd hbl hq hs cR hl hcc aZ=>exact aZ
      |bL aE hd hbl aZ=>omega
      |ck aE hd=>exact absurd hd (alive hm hB)
     |some m=>
      simp only [RM.run,hB,true_and] at h
      split at h
      rotate_left
      ·simp [RM.run] at h
      rename_i sG
      simp only [hb,L8] at h
      split at h
      ·rename_i bN
       simp [RM.opt,RM.run] at h
       obtain ⟨rfl,rfl⟩:=h
       have eV:=lg (P:=P) (isS:=true) ha eI h1 h2 h3 k1 k2 k3 jr hb (fun m' c8=>by simp at c8;subst c8;exact bN)
       refine a0 hm (key A _ c b.1 b.2 m bX.symm eV) ?_
       by_cases e1:m=b.1
       ·rw [KL e1,KL e1]
        rw [show b.2 - b.1=0 by omega,show m - b.1=0 by omega]
        exact .emp
       ·rw [KK e1]
        have:=own A c m rfl hv bN.1 (by omega) (by rw [<-hm.len id B hB (by have:=hv.pI (alive hm hB);omega)];exact sG.2)
        rw [KK e1] at this
        rw [KK e1]
        exact this
      ·simp [RM.opt,RM.run] at h
  ·simp [RM.run] at h
 ·simp [RM.run] at h
end
open Go.RowKit
section
variable {P:Program} {E:Env} {J:Nat->Prop} {base:Nat} {g:Nat->Option Bk} {az:Operand->Value} {ρ:Arg->AV} {fresh:Nat}
def eu (E:Env) (sz:Nat) (news:List Value) (ys:List (List AV)):Prop:=
 news.length=ys.length*sz/\∀(i:Nat) cs,ys[i]? =some cs->cs.length=sz/\∀(j:Nat) x,cs[j]? =some x->∃u,news[i*sz+j]? =some u/\u.oneCell'=true/\ae E u x
theorem eu.step {E E':Env} (hE:E.Le E') {sz:Nat} {news:List Value} {ys:List (List AV)} (h:eu E sz news ys):eu E' sz news ys:=
 ⟨h.1,fun i cs hi=>⟨(h.2 i cs hi).1,fun j x hj=>by obtain ⟨u,k1,k2,k3⟩:=(h.2 i cs hi).2 j x hj;exact ⟨u,k1,k2,k3.step hE⟩⟩⟩
theorem eu.append {E:Env} {n1 n2:List Value} {y1 y2:List (List AV)} (h1:eu E sz n1 y1) (h2:eu E sz n2 y2):eu E sz (n1++n2) (y1++y2):=by
 refine ⟨by simp [h1.1,h2.1,Lc],fun i cs hi=> ?_⟩
 by_cases hl:i<y1.length
 ·rw [LH hl] at hi
  refine ⟨(h1.2 i cs hi).1,fun j x hj=> ?_⟩
  obtain ⟨u,k1,k2,k3⟩:=(h1.2 i cs hi).2 j x hj
  exact ⟨u,by rw [LH (KS.1 k1).1];exact k1,k2,k3⟩
 ·rw [LX (by omega)] at hi
  refine ⟨(h2.2 _ cs hi).1,fun j x hj=> ?_⟩
  obtain ⟨u,k1,k2,k3⟩:=(h2.2 _ cs hi).2 j x hj
  refine ⟨u, ?_,k2,k3⟩
  have hm:i*sz=y1.length*sz+(i - y1.length)*sz:=by rw [<-Lc];congr 1;omega
  rw [LX (by rw [h1.1,hm];omega),h1.1,hm,show y1.length*sz+(i - y1.length)*sz+j - y1.length*sz=(i - y1.length)*sz+j by omega]
  exact k1
theorem eu.all {E:Env} (cQ:0<sz) (h:eu E sz news ys):∀u,u∈news->u.oneCell'=true:=by
 intro u hu
 obtain ⟨k,hk,rfl⟩:=Mu hu
 have hi:k / sz<ys.length:=by rw [h.1] at hk;exact Nat.div_lt_of_lt_mul (by rw [L6];exact hk)
 have fp:=h.2 (k / sz) _ (K0 hi)
 have hj:k%sz<(ys[k / sz]).length:=by rw [fp.1];exact Nat.mod_lt _ cQ
 obtain ⟨u,k1,k2,_⟩:=fp.2 (k%sz) _ (K0 hj)
 have nF:k / sz*sz+k%sz=k:=by rw [L6];exact Nat.div_add_mod k sz
 rw [nF,K0 hk] at k1
 simp only [KJ] at k1
 rw [k1];exact k2
theorem mo (hm:aB E J base g) (cQ:0<sz) (hv:ae E v a) (h:(content sz a).run g=some ys):
  ∃A c news,v= .slice A ys.length c/\eu E sz news ys/\(ys.length=0\/∃ad,A=some ad/\∀(j:Nat) u,news[j]? =some u->E.w.cell? (ad.add j)=some u):=by
 have aN:∀v els,ae E v (.aN sz els)->∃A c news,v= .slice A els.length c/\eu E sz news els/\(els.length=0\/∃ad,A=some ad/\∀(j:Nat) u,news[j]? =some u->E.w.cell? (ad.add j)=some u):=by
  intro v els hr
  cases hr with
  |dy hc=>exact ⟨_,_,[],rfl,⟨by simp,fun i cs hi=>by simp at hi⟩, .inl rfl⟩
  | @dO b off n c _ _ u hn hl hc hb hz hu eF hr=>
   subst hn
   refine ⟨_,c,(List.range (els.length*sz)).map fun k=>u (k / sz) (k%sz),rfl,⟨by simp,fun i cs hi=>⟨hz i cs hi,fun j x hj=> ?_⟩⟩, .inr ⟨_,rfl,fun k y hk=> ?_⟩⟩
   ·have aU:j<sz:=by have:=(KS.1 hj).1;rw [hz i cs hi] at this;exact this
    have cg:i<els.length:=(KS.1 hi).1
    have hfit:i*sz+sz<=els.length*sz:=by
     have:(i+1)*sz<=els.length*sz:=Lf _ (by omega)
     rw [Lc] at this;omega
    have h1:(i*sz+j) / sz=i:=by rw [L6,Nat.mul_add_div cQ,Nat.div_eq_of_lt aU];rfl
    have h2:(i*sz+j)%sz=j:=by rw [L6,Nat.mul_add_mod];exact L7 aU
    refine ⟨u i j, ?_,(eF i cs j x hi hj).1,hr i cs j x hi hj⟩
    rw [Ld,List.getElem?_range (by omega)]
    simp [h1,h2]
   ·have xf:k<els.length*sz:=by have:=(KS.1 hk).1;simpa using this
    rw [Ld,List.getElem?_range xf] at hk
    simp only [KV,KJ] at hk
    subst hk
    have hi:k / sz<els.length:=Nat.div_lt_of_lt_mul (by rw [L6];exact xf)
    have fp:=K0 hi
    have hj:k%sz<(els[k / sz]).length:=by rw [hz _ _ fp];exact Nat.mod_lt _ cQ
    have:=hu _ _ _ _ fp (K0 hj)
    have nF:k / sz*sz+k%sz=k:=by rw [L6];exact Nat.div_add_mod k sz
    rw [Nat.add_assoc,nF] at this
    rw [LU];exact this
 unfold content at h
 split at h
 ·rename_i s els
  split at h
  ·rename_i hs;subst hs
   simp only [RM.run,KJ] at h;subst h
   exact aN _ _ hv
  ·simp [RM.run] at h
 ·rename_i s els
  split at h
  ·rename_i hs;subst hs
   simp only [RM.run,KJ] at h;subst h
   cases hv with
   |cy hv=>exact aN _ _ hv
  ·simp [RM.run] at h
 ·simp only [RM.run,KJ] at h;subst h
  cases hv with
  |emp=>exact ⟨_,_,[],rfl,⟨by simp,fun i cs hi=>by simp at hi⟩, .inl rfl⟩
 ·rename_i id s off n
  simp only [RM.run] at h
  cases hB:g id with
  |none=>simp [hB] at h
  |some B=>
   simp only [hB] at h
   split at h
   ·rename_i hc
    obtain ⟨h1,h2,h3⟩:=hc
    subst h1
    simp only [RM.run,KJ] at h;subst h
    have hlen:((B.els.drop off).take n).length=n:=by simp;omega
    rw [hlen]
    cases hv with
    |ck hi hd=>exact absurd hd (alive hm hB)
    | @bL _ _ A hi hd hb=>exact ⟨_,_,[],rfl,⟨by simp,fun i cs hi=>by simp at hi⟩, .inl rfl⟩
    | @own _ _ _ _ c b q mm t' hi hd hb hq hs cR hl hcc=>
     have bM:=hm.at_ id B hB
     rw [hb] at bM
     obtain ⟨jo,arr,t,ha,hfit,dt⟩:=bM.cells (by first|assumption|omega)
     rw [h2] at hfit dt
     refine ⟨_,c,(arr.toList.drop (off*s)).take (n*s),rfl,⟨?_,fun i cs hi=> ?_⟩, ?_⟩
     ·have:(off+n)*s<=arr.size:=Lg (Lf _ h3) hfit
      rw [Lc] at this
      simp [hlen];omega
     ·rw [LV] at hi
      split at hi
      ·rename_i fQ
       rw [LW] at hi
       refine ⟨(dt _ cs hi).1,fun j x hj=> ?_⟩
       obtain ⟨u,k1,k2,k3⟩:=(dt _ cs hi).2 j x hj
       have aU:j<s:=by have:=(KS.1 hj).1;rw [(dt _ cs hi).1] at this;exact this
       have js:i*s+s<=n*s:=by
        have:(i+1)*s<=n*s:=Lf _ (by omega)
        rw [Lc] at this;omega
       refine ⟨u, ?_,k2,k3⟩
       rw [LV,KL (by omega),LW]
       rw [Lc,Nat.add_assoc] at k1
       simpa using k1
      ·simp at hi
     ·rcases Mv n with h0|h0
      ·exact .inl h0
      ·refine .inr ⟨_,rfl,fun j u hj=> ?_⟩
       have gn:q=off*s:=by
        rcases hq with hq|hq
        ·exact hq
        ·omega
       subst gn
       rw [LU,cell_of_row _ _ _ _ _ _ ha]
       rw [LV] at hj
       split at hj
       ·rw [LW] at hj
        simpa using hj
       ·simp at hj
   ·simp [RM.run] at h
 ·simp [RM.run] at h
end
open Go.RowKit
section
variable {P:Program} {E:Env} {J:Nat->Prop} {base:Nat} {g:Nat->Option Bk} {az:Operand->Value} {ρ:Arg->AV} {fresh:Nat}
theorem aB.drew (hm:aB E J base g):∃E':Env,E'.w=E.w.drew/\E.Le E'/\aB E' J base g/\(∀id,E'.kn id->E.kn id)/\(∀id,E'.kn id↔E.kn id)/\E'.loc=E.loc/\E'.dead=E.dead:=by
 let E':Env:={ E with w:=E.w.drew }
 have hE:E.Le E':=⟨fun _ h=>h,fun b hb=>⟨hb,rfl⟩,fun _ _ h=>h,fun _ _ _=> .inr rfl,fun _ _ _ _ _=> .inr rfl,fun _ _ _=> .inr rfl,fun _ h=>h,fun _ h=>⟨h,rfl⟩⟩
 exact ⟨E',rfl,hE,⟨hm.live,fun id B hg=>(hm.at_ id B hg).bD hE fun _ _=>rfl,hm.apart,hm.out,hm.low,hm.size,hm.len,hm.gi,hm.xo⟩,fun _ h=>h,fun _=>Iff.rfl,rfl,rfl⟩
theorem aB.move (hm:aB E J base g) (hf:¬E.kn fresh) (id:Nat) (B B':Bk) (hg:g id=some B) (w':World) (hw:∀k,(∀b,E.loc id=some b->k≠b)->w'.heap[k]? =E.w.heap[k]?) (hsz:w'.heap.size=E.w.heap.size)
  (wO:∀b,E.loc id=some b->w'.shape? b=E.w.shape? b) (hB:∀E':Env,E.Le E'->E'.w=w'->ct E' base B' (E.loc id)):
  ∃E':Env,E'.w=w'/\E.Le E'/\aB E' J base (aj g [(id,none),(fresh,some B')])/\E'.kn fresh/\¬E'.dead fresh/\E'.loc fresh=E.loc id/\(∀k,E'.kn k->E.kn k\/k=fresh)/\E'.ln fresh=B'.els.length:=by
 have hid:E.kn id/\¬E.dead id:=(hm.live id).2 ⟨B,hg⟩
 have aA:∀k,E.kn k->k≠fresh:=fun k hi he=>hf (he▸hi)
 have B5:=aA id hid.1
 let E':Env:={ w:=w',kn:=fun k=>E.kn k\/k=fresh,loc:=fun k=>if k=fresh then E.loc id else E.loc k,dead:=fun k=>(E.dead k\/k=id)/\k≠fresh,I:=E.I,ln:=fun k=>if k=fresh then B'.els.length else E.ln k,rg:=E.rg,X:=E.X }
 have hE:E.Le E':=by
  refine ⟨fun _ h=> .inl h,fun k hk=>⟨hk, ?_⟩,fun k hi hd=>⟨.inl hd,aA k hi⟩,fun k hi hd=> .inr (KK (aA k hi)),fun k b hi hd hb=> ?_,fun k hi hd=> .inr (KK (aA k hi)),fun _ h=>h,fun k hk=>⟨hk,hw k fun b hb he=>(hm.xo k hk).2.2 id B hg (he▸hb)⟩⟩
  ·exact hw k fun b hb he=>hm.out id b B hg hb (he▸hk)
  ·by_cases fk:k=id
   ·subst fk;exact .inl ⟨.inr rfl,B5⟩
   ·right
    obtain ⟨Bk,B6⟩:=(hm.live k).1 ⟨hi,hd⟩
    have:=hw b fun b' aV he=>fk (hm.apart k id b Bk B B6 hg hb (he▸aV))
    show w'.shape? b=_
    simp only [World.shape?,this]
 have dS:∀k,aj g [(id,none),(fresh,some B')] k=if k=fresh then some B' else if k=id then none else g k:=by
  intro k
  simp only [aj]
 refine ⟨E',rfl,hE,⟨fun k=> ?_,fun k Bk hk=> ?_,fun k k' b B1 B2 h1 h2 h3 h4=> ?_,fun k b B1 hk hb hI=> ?_,fun k hk=> ?_, ?_,fun k B1 hk cD=> ?_,hm.gi,fun b hb=>⟨by show b<w'.heap.size;rw [hsz];exact (hm.xo b hb).1,(hm.xo b hb).2.1,fun k B1 hk he=> ?_⟩⟩, .inr rfl,fun hd=>hd.2 rfl,KL rfl,fun k hk=>hk,KL rfl⟩
 ·rw [dS]
  by_cases h1:k=fresh
  ·subst h1;simp [E']
  ·by_cases h2:k=id
   ·subst h2;simp [E',h1]
   ·simp only [h1,h2,Lh, <-hm.live k]
    simp [E',h1,h2]
 ·rw [dS] at hk
  by_cases h1:k=fresh
  ·subst h1
   simp only [KN,KJ] at hk
   subst hk
   show ct E' base B' (if k=k then _ else _)
   rw [KL rfl]
   exact hB E' hE rfl
  ·rw [KK h1] at hk
   by_cases h2:k=id
   ·rw [KL h2] at hk;simp at hk
   ·rw [KK h2] at hk
    show ct E' base Bk (if k=fresh then _ else _)
    rw [KK h1]
    exact (hm.at_ k Bk hk).bD hE fun b hb=>hw b fun b' aV he=>h2 (hm.apart k id b Bk B hk hg hb (he▸aV))
 ·rw [dS] at h1 h2
  have e3:(if k=fresh then E.loc id else E.loc k)=some b:=h3
  have e4:(if k'=fresh then E.loc id else E.loc k')=some b:=h4
  by_cases a1:k=fresh<;>by_cases a2:k'=fresh
  ·rw [a1,a2]
  ·rw [KL a1] at e3;rw [KK a2] at e4 h2
   by_cases a3:k'=id
   ·rw [KL a3] at h2;simp at h2
   ·rw [KK a3] at h2
    exact absurd (hm.apart k' id b B2 B h2 hg e4 e3) a3
  ·rw [KK a1] at e3 h1;rw [KL a2] at e4
   by_cases a3:k=id
   ·rw [KL a3] at h1;simp at h1
   ·rw [KK a3] at h1
    exact absurd (hm.apart k id b B1 B h1 hg e3 e4) a3
  ·rw [KK a1] at e3 h1;rw [KK a2] at e4 h2
   by_cases a3:k=id
   ·rw [KL a3] at h1;simp at h1
   ·by_cases a4:k'=id
    ·rw [KL a4] at h2;simp at h2
    ·rw [KK a3] at h1;rw [KK a4] at h2
     exact hm.apart k k' b B1 B2 h1 h2 e3 e4
 ·rw [dS] at hk
  have e3:(if k=fresh then E.loc id else E.loc k)=some b:=hb
  by_cases a1:k=fresh
  ·rw [KL a1] at e3
   exact hm.out id b B hg e3 hI
  ·rw [KK a1] at e3 hk
   by_cases a3:k=id
   ·rw [KL a3] at hk;simp at hk
   ·rw [KK a3] at hk
    exact hm.out k b B1 hk e3 hI
 ·have:=hm.low k hk
  exact ⟨by show k<w'.heap.size;rw [hsz];exact this.1,this.2⟩
 ·show base<=w'.heap.size
  rw [hsz];exact hm.size
 ·rw [dS] at hk
  show _=if k=fresh then _ else _
  by_cases a1:k=fresh
  ·rw [KL a1] at hk ⊢
   simp only [KJ] at hk;rw [hk]
  ·rw [KK a1] at hk ⊢
   by_cases a3:k=id
   ·rw [KL a3] at hk;simp at hk
   ·rw [KK a3] at hk
    exact hm.len k B1 hk cD
 ·rw [dS] at hk
  have e3:(if k=fresh then E.loc id else E.loc k)=some b:=he
  by_cases a1:k=fresh
  ·rw [KL a1] at e3
   exact (hm.xo b hb).2.2 id B hg e3
  ·rw [KK a1] at e3 hk
   by_cases a3:k=id
   ·rw [KL a3] at hk;simp at hk
   ·rw [KK a3] at hk
    exact (hm.xo b hb).2.2 k B1 hk e3
theorem aB.pV (hm:aB E J base g) (hf:¬E.kn fresh) (sz:Nat):
  ∃E':Env,E'.w=E.w/\E.Le E'/\aB E' J base (aj g [(fresh,some ⟨sz,[]⟩)])/\E'.kn fresh/\¬E'.dead fresh/\E'.loc fresh=none/\(∀k,E'.kn k->E.kn k\/k=fresh)/\E'.ln fresh=0:=by
 have aA:∀k,E.kn k->k≠fresh:=fun k hi he=>hf (he▸hi)
 let E':Env:={ w:=E.w,kn:=fun k=>E.kn k\/k=fresh,loc:=fun k=>if k=fresh then none else E.loc k,dead:=fun k=>E.dead k/\k≠fresh,I:=E.I,ln:=fun k=>if k=fresh then 0 else E.ln k,rg:=E.rg,X:=E.X }
 have hE:E.Le E':=⟨fun _ h=> .inl h,fun b hb=>⟨hb,rfl⟩,fun k hi hd=>⟨hd,aA k hi⟩,fun k hi hd=> .inr (KK (aA k hi)),fun _ _ _ _ _=> .inr rfl,fun k hi hd=> .inr (KK (aA k hi)),fun _ h=>h,fun _ h=>⟨h,rfl⟩⟩
 refine ⟨E',rfl,hE,⟨fun k=> ?_,fun k Bk hk=> ?_,fun k k' b B1 B2 h1 h2 h3 h4=> ?_,fun k b B1 hk hb hI=> ?_,hm.low,hm.size,fun k B1 hk cD=> ?_,hm.gi,fun b hb=>⟨(hm.xo b hb).1,(hm.xo b hb).2.1,fun k B1 hk he=> ?_⟩⟩, .inr rfl,fun hd=>hd.2 rfl,KL rfl,fun k hk=>hk,KL rfl⟩
 ·simp only [aj]
  by_cases h1:k=fresh
  ·subst h1;simp [E']
  ·simp only [h1,Lh, <-hm.live k]
   simp [E',h1]
 ·simp only [aj] at hk
  by_cases h1:k=fresh
  ·subst h1
   simp only [KN,KJ] at hk
   subst hk
   show ct E' base _ (if k=k then _ else _)
   rw [KL rfl]
   rfl
  ·rw [KK h1] at hk
   show ct E' base Bk (if k=fresh then _ else _)
   rw [KK h1]
   exact (hm.at_ k Bk hk).bD hE fun _ _=>rfl
 ·simp only [aj] at h1 h2
  have e3:(if k=fresh then none else E.loc k)=some b:=h3
  have e4:(if k'=fresh then none else E.loc k')=some b:=h4
  by_cases a1:k=fresh
  ·rw [KL a1] at e3;simp at e3
  ·by_cases a2:k'=fresh
   ·rw [KL a2] at e4;simp at e4
   ·rw [KK a1] at e3 h1;rw [KK a2] at e4 h2
    exact hm.apart k k' b B1 B2 h1 h2 e3 e4
 ·simp only [aj] at hk
  have e3:(if k=fresh then none else E.loc k)=some b:=hb
  by_cases a1:k=fresh
  ·rw [KL a1] at e3;simp at e3
  ·rw [KK a1] at e3 hk
   exact hm.out k b B1 hk e3 hI
 ·simp only [aj] at hk
  show _=if k=fresh then _ else _
  by_cases a1:k=fresh
  ·rw [KL a1] at hk ⊢
   simp only [KJ] at hk;rw [<-hk];rfl
  ·rw [KK a1] at hk ⊢
   exact hm.len k B1 hk cD
 ·simp only [aj] at hk
  have e3:(if k=fresh then none else E.loc k)=some b:=he
  by_cases a1:k=fresh
  ·rw [KL a1] at e3;simp at e3
  ·rw [KK a1] at e3 hk
   exact (hm.xo b hb).2.2 k B1 hk e3
theorem cz {α β:Type} {g:Nat->Option Bk} {f:α->RM β} {y:β}:∀{m:RM α},(m.bind f).run g=some y->∃x,m.run g=some x/\(f x).run g=some y
 | .ret a,h=>⟨a,rfl,h⟩
 | .fail,h=>by simp [RM.bind,RM.run] at h
 | .rd id k,h=>by
  simp only [RM.bind,RM.run] at h ⊢
  cases hg:g id with
  |none=>simp [hg] at h
  |some B=>simp only [hg] at h ⊢; exact cz h
 | .lv id k,h=>by
  simp only [RM.bind,RM.run] at h ⊢
  cases hg:g id with
  |none=>simp [hg] at h
  |some B=>simp only [hg] at h ⊢; exact cz h
theorem sI {i:TypeInfo} {z:Value} (ht:P.underlying t=some (.slice e)) (hi:P.info? e=some i) (hz:i.zero=some z) (hs:i.size=sz) (hcs:z.cells.size=sz) (lf:0<i.bytes)
  (hm:aB E J base g) {es:List (List AV)} (ho:eu E sz olds es) (hn:n=es.length) (hA:n=0\/∃ad,A=some ad/\∀(j:Nat) u,olds[j]? =some u->E.w.cell? (ad.add j)=some u) (kr:A=none->c=0)
  {ad:Addr} {m:Nat} (hy:eu E sz news ys) (B7:m=ys.length) (fq:∀(j:Nat) u,news[j]? =some u->E.w.cell? (ad.add j)=some u) (cQ:0<m) (hg:c<n+m) (hb:(n+m)*i.bytes<=140737488355328):
  ∃cap arr,(Builtin.append_ #[t,t] ty #[.slice A n c, .slice (some ad) m c2]).run P E.w= .ok (.slice (some ⟨E.w.heap.size,0,none⟩) (n+m) cap) (E.w.drew.alloc (.cells arr e))/\n+m<=cap/\cap<=9223372036854775807/\arr.size=cap*sz/\
   ∀(j:Nat) u,(olds++news)[j]? =some u->arr[j]? =some u:=by
 have hle:n+m<=(n+m)*i.bytes:=Nat.le_mul_of_pos_right _ lf
 have pW:olds.length=n*i.size:=by rw [ho.1,hn,hs]
 have nG:news.length=m*i.size:=by rw [hy.1,B7,hs]
 have B8:=grownCap_ge E.w (n+m) c e
 have hU:=grownCap_le_maxLen E.w (n+m) c e (by simp only [maxLen];omega)
 have B9:grownCap E.w (n+m) c e<=9223372036854775807:=by simp only [maxLen] at hU;omega
 have Ca:(olds.toArray++news.toArray++Builtin.zeroCells z.cells (grownCap E.w (n+m) c e - (n+m))).size=grownCap E.w (n+m) c e*sz:=by
  simp only [Array.size_append,List.size_toArray,size_zeroCells,hcs,pW,nG,hs, <-Lc]
  congr 1;omega
 refine ⟨grownCap E.w (n+m) c e,_, ?_,B8,B9,Ca,fun j u hj=> ?_⟩
 ·cases A with
  |some a=>
   refine run_append_grow (P:=P) E.w t ty e i z ht hi hz a n c olds pW ?_ ad m c2 news nG fq hg (by omega) (growslice_fits hg hb)
   rcases hA with h0|⟨xg,h1,h2⟩
   ·intro j v hj
    have:olds.length=0:=by rw [pW,h0];simp
    have ks:=L9 this
    subst ks;simp at hj
   ·simp only [KJ] at h1;subst h1;exact h2
  |none=>
   have hc0:=kr rfl
   have lh:n=0:=by
    rcases hA with h0|⟨_,h1,_⟩
    ·exact h0
    ·simp at h1
   have hole:olds=[]:=L9 (by rw [pW,lh];simp)
   have hbb:=hb
   rw [lh,KY] at hbb
   have hr:=run_append_nil (P:=P) E.w t ty e i z ht hi hz ad m c2 news nG fq cQ (by omega) (by omega)
   rw [lh,hc0,hole]
   simpa using hr
 ·have aU:j<(olds++news).length:=(KS.1 hj).1
  rw [MG (by simpa using aU)]
  simpa using hj
theorem sJ (hm:aB E J base g) (hf:¬E.kn fresh) {arr:Array Value} (hn:n=els.length) (cp:eu E sz olds els) (sF:n<=cap) (sK:cap<=9223372036854775807) (hsz:arr.size=cap*sz) (g8:∀(j:Nat) u,olds[j]? =some u->arr[j]? =some u)
 (hr:r= .ok (.value (.slice (some ⟨E.w.heap.size,0,none⟩) n cap)) (E.w.drew.alloc (.cells arr e))) (hz:sz≠0:=by first|assumption|omega):bu E J base g r (.own fresh sz 0 n) [(fresh,some ⟨sz,els⟩)]:=by
 obtain ⟨E1,fR,gF,hM1,_,nH,Cb,gp⟩:=hm.drew
 obtain ⟨E',hw,hE,hM,k1,k2,k3,k4,k5⟩:=hM1.alloc fresh (fun h=>hf ((nH _).1 h)) arr e ⟨sz,els⟩ (fun E' hE=>by
  refine ⟨by rw [hsz, <-hn];exact Lf _ sF,fun i cs hi=>⟨(cp.2 i cs hi).1,fun j x hj=> ?_⟩⟩
  obtain ⟨u,m1,m2,m3⟩:=(cp.2 i cs hi).2 j x hj
  exact ⟨u,g8 _ _ m1,m2,m3.step (gF.trans hE)⟩) hz
 rw [fR] at hw
 refine ⟨_, .slice (some ⟨E.w.heap.size,0,none⟩) n cap,E',by rw [hw];exact hr, .inl rfl,gF.trans hE, ?_,hM, ?_,fun id hi=> ?_⟩
 ·refine .own k1 k2 (b:=E.w.heap.size) (by rw [k3,fR];rfl) (.inl (by simp)) (t:=e) (m:=arr.size) ?_ (by rw [hsz];simp) sF sK (by rw [k5];dsimp only;omega)
  rw [hw]
  unfold World.shape?
  rw [show E.w.heap.size=E.w.drew.heap.size from rfl,heap_alloc_new]
 ·rw [hw]
  exact ((Lt _ _).drew).alloc (by simpa using hm.size) _
 ·rcases k4 id hi with h|h
  ·exact .inl ((nH _).1 h)
  ·exact .inr (by simp [h])
theorem xh {α:Type} {cs ys:List α} (h:o+ys.length<=cs.length) (j:Nat):(cs.take o++ys++cs.drop (o+ys.length))[j]? =if j<o then cs[j]? else if j<o+ys.length then ys[j - o]? else cs[j]? :=by
 rw [L4,Mn,L5,Nat.min_eq_left (by omega)]
 by_cases h1:j<o
 ·simp [h1]
 ·rw [KK h1,KK h1,Mn]
  by_cases h2:j<o+ys.length
  ·rw [KL (by omega),KL h2]
  ·rw [KK (by omega),KK h2,LW]
   congr 1;omega
theorem sL (hm:aB E J base g) {id:Nat} {B:Bk} (hB:g id=some B) (hl:E.loc id=some b) (cp:eu E B.sz news ys) (cQ:0<B.sz) (hfit:off+ys.length<=B.els.length):
  ∃E',(storeCells ⟨b,off*B.sz,none⟩ news).run P E.w= .ok () E'.w/\E.Le E'/\aB E' J base (aj g [(id,some ⟨B.sz,B.els.take off++ys++B.els.drop (off+ys.length)⟩)])/\Below base E.w E'.w/\(∀k,E'.kn k->E.kn k):=by
 have bM:=hm.at_ id B hB
 rw [hl] at bM
 obtain ⟨jo,arr,t,ha,hlen,dt⟩:=bM.cells (by first|assumption|omega)
 have nG:news.length=ys.length*B.sz:=cp.1
 have js:off*B.sz+news.length<=arr.size:=by
  rw [nG, <-Lc]
  exact Lg (Lf _ hfit) hlen
 have dL:=pM P b (off*B.sz) t.1 t.2 news 0 arr E.w ha (by simpa using js) (cp.all cQ)
 simp only [LC] at dL
 obtain ⟨E',hw,hE,hM,aX⟩:=hm.set id b B ⟨B.sz,B.els.take off++ys++B.els.drop (off+ys.length)⟩ hB hl arr
  (arr.toList.take (off*B.sz)++news++arr.toList.drop (off*B.sz+news.length)).toArray t ha (by simp;omega) (by simp;omega) (fun E' hE=>by
   refine ⟨by simp;rw [show min off B.els.length+(ys.length+(B.els.length - (off+ys.length)))=B.els.length by omega];exact hlen,fun i cs hi=> ?_⟩
   dsimp only at hi ⊢
   rw [xh hfit] at hi
   have g8:∀k,(arr.toList.take (off*B.sz)++news++arr.toList.drop (off*B.sz+news.length)).toArray[k]? =if k<off*B.sz then arr[k]? else if k<off*B.sz+news.length then news[k - off*B.sz]? else arr[k]? :=by
    intro k
    rw [List.getElem?_toArray,xh (by simpa using js)]
    simp
   have aJ:B.els[i]? =some cs->(i<off\/off+ys.length<=i)->cs.length=B.sz/\∀(j:Nat) x,cs[j]? =some x->∃u,(arr.toList.take (off*B.sz)++news++arr.toList.drop (off*B.sz+news.length)).toArray[i*B.sz+j]? =some u/\u.oneCell'=true/\ae E' u x:=by
    intro hi Cc
    refine ⟨(dt i cs hi).1,fun j x hj=> ?_⟩
    obtain ⟨u,k1,k2,k3⟩:=(dt i cs hi).2 j x hj
    have aU:j<B.sz:=by rw [<-(dt i cs hi).1];exact (KS.1 hj).1
    refine ⟨u, ?_,k2,k3.step hE⟩
    rw [g8]
    rcases Cc with h1|h1
    ·have:(i+1)*B.sz<=off*B.sz:=Lf _ (by omega)
     rw [Lc] at this
     rw [KL (by omega)];exact k1
    ·have:(off+ys.length)*B.sz<=i*B.sz:=Lf _ h1
     rw [Lc] at this
     rw [KK (by omega),KK (by omega)];exact k1
   by_cases h1:i<off
   ·rw [KL h1] at hi;exact aJ hi (.inl h1)
   ·rw [KK h1] at hi
    by_cases h2:i<off+ys.length
    ·rw [KL h2] at hi
     refine ⟨(cp.2 _ cs hi).1,fun j x hj=> ?_⟩
     obtain ⟨u,m1,m2,m3⟩:=(cp.2 _ cs hi).2 j x hj
     have aU:j<B.sz:=by rw [<-(cp.2 _ cs hi).1];exact (KS.1 hj).1
     refine ⟨u, ?_,m2,m3.step hE⟩
     rw [g8]
     have e1:off*B.sz<=i*B.sz:=Lf _ (by omega)
     have e2:(i - off)*B.sz=i*B.sz - off*B.sz:=Nat.sub_mul _ _ _
     rw [KK (by omega),KL (by have:=(KS.1 m1).1;omega),show i*B.sz+j - off*B.sz=(i - off)*B.sz+j by omega]
     exact m1
    ·rw [KK h2] at hi
     exact aJ hi (.inr (by omega)))
 refine ⟨E',by rw [hw];exact dL,hE,hM, ?_,aX⟩
 rw [hw]
 exact ⟨rfl,rfl,rfl,by simp [World.setRow],fun k hk=>setRow_other _ _ _ _ (by omega)⟩
theorem sM {g:Nat->Option Bk} {id:Nat} {B:Bk} (h:g id=some B):aj g [(id,some B)]=g:=by
 funext k
 simp only [aj]
 by_cases hk:k=id
 ·subst hk;rw [KL rfl,h]
 ·rw [KK hk]
theorem Cd {g:Nat->Option Bk} {fresh:Nat} (h:g fresh=none):aj g [(fresh,none)]=g:=by
 funext k
 simp only [aj]
 by_cases hk:k=fresh
 ·subst hk;rw [KL rfl,h]
 ·rw [KK hk]
theorem Ce {g:Nat->Option Bk} {id fresh:Nat} {B B':Bk} (hB:g id=some B) (h:g fresh=none):aj g [(id,some B'),(fresh,none)]=aj g [(id,some B')]:=by
 have:aj g [(id,some B'),(fresh,none)]=aj (aj g [(id,some B')]) [(fresh,none)]:=rfl
 rw [this]
 refine Cd ?_
 simp only [aj]
 by_cases hk:fresh=id
 ·subst hk;rw [hB] at h;simp at h
 ·rw [KK hk];exact h
theorem Cf (hm:aB E J base g) (hf:¬E.kn fresh):g fresh=none:=by
 cases h:g fresh with
 |none=>rfl
 |some B=>exact absurd ((hm.live fresh).2 ⟨B,h⟩).1 hf
theorem Cg (hm:aB E J base g) (hf:¬E.kn fresh) {i:TypeInfo} (ht:P.underlying t=some (.slice e)) (hi:P.info? e=some i) (hs:i.size=sz) (cQ:0<sz) {vs:Value} {id:Nat} (hvs:ae E vs (.own id sz off n)) {A2:Option Addr}
  (cp:eu E sz news ys) (dC:ys.length=0\/∃ad,A2=some ad/\∀(j:Nat) u,news[j]? =some u->E.w.cell? (ad.add j)=some u) {B:Bk} (hB:g id=some B) (fS:B.sz=sz) (hfit:off+n+ys.length<=B.els.length)
  (stay:∀A n c,vs= .slice A n c->n<=c->ys.length=0->(Builtin.append_ #[t,t] ty #[vs, .slice A2 ys.length c2]).run P E.w= .ok vs E.w):
  bu E J base g ((do pure (Next.value (<-Builtin.append_ #[t,t] ty #[vs, .slice A2 ys.length c2])):Sem Next).run P E.w) (.own id sz off (n+ys.length)) [(id,some ⟨B.sz,B.els.take (off+n)++ys++B.els.drop (off+n+ys.length)⟩),(fresh,none)]:=by
 rw [bu,Ce hB (Cf hm hf)]
 have hlen:=hm.len id B hB (by omega)
 rcases Mv ys.length with h0|h0
 ·have nI:ys=[]:=L9 h0
  have nJ:(⟨B.sz,B.els.take (off+n)++ys++B.els.drop (off+n+ys.length)⟩:Bk)=B:=by
   rw [nI];simp
  rw [nJ,sM hB]
  obtain ⟨A,c,rfl,eI⟩:∃A c,vs= .slice A n c/\n<=c:=by
   cases hvs with
   |own aE hd hbl hq gG cR hl hcc=>exact ⟨_,_,rfl,hl⟩
   |bL aE hd hbl=>exact ⟨_,_,rfl,KO _⟩
   |ck aE hd=>exact absurd hd (alive hm hB)
  refine ⟨_, .slice A n c,E,by simp [stay A n c rfl eI h0], .inl rfl,Env.Le.refl E,by rw [h0];exact hvs,hm,Lt _ _,fun _ h=> .inl h⟩
 ·obtain ⟨ad,rfl,fq⟩:=dC.resolve_left (by omega)
  have Ci:=hvs
  cases hvs with
  |ck aE hd=>exact absurd hd (alive hm hB)
  |bL aE hd hb aZ=>omega
  | @own _ _ _ _ c b q mm t' aE hd hbl hq gG cR hl hcc aZ=>
   have nK:n+ys.length<=c:=by omega
   have gn:q=off*sz:=by
    rcases hq with hq|hq
    ·exact hq
    ·omega
   subst gn
   subst fS
   obtain ⟨E',dL,hE,hM,nL,aX⟩:=sL (P:=P) hm hB hbl cp cQ hfit
   have gH:=run_firstCells_some (P:=P) E.w i.size ys.length ad ys.length c2 news (by rw [cp.1,hs]) fq
   rw [hs] at gH
   have nM:=(hM.live id).2 ⟨⟨B.sz,B.els.take (off+n)++ys++B.els.drop (off+n+ys.length)⟩,by simp [aj]⟩
   have hr':=Ci.step hE
   refine ⟨_, .slice (some ⟨b,off*B.sz,none⟩) (n+ys.length) c,E', ?_, .inl rfl,hE, ?_,hM,nL,fun cm aE=> .inl (aX _ aE)⟩
   ·rw [Lc] at dL
    simp [Builtin.append_,run_underlying ht,sizeOf,typeInfo,hi,Builtin.lenOf,nK,gH,LU,hs,dL]
   ·cases hr' with
    |ck aE hd=>exact absurd hd nM.2
    |bL=>omega
    |own a1 a2 a3 a4 a5 a6 a7 a8 a9=>exact .own a1 a2 a3 a4 a5 a6 nK a8 a9
theorem Cj (hm:aB E J base g) {zs:List AV} (ht:P.underlying t=some (.slice e)) (hz:fo P e=some zs) (cQ:0<zs.length) (hvx:ae E vx (ρ x))
  (h:((AO.clr zs x).af fresh ρ).run g=some (.done val ups)):bu E J base g ((do pure (Next.value (<-Builtin.clear_ #[t] ty #[vx])):Sem Next).run P E.w) val ups:=by
 obtain ⟨i,z,hi,cD,hs,hcs,dB,cF⟩:=kZ hz
 simp only [AO.af] at h
 split at h
 ·rename_i hx
  rw [hx] at hvx
  simp only [RM.run,KJ,Out.done.injEq] at h
  obtain ⟨rfl,rfl⟩:=h
  cases hvx with
  | @emp A=>
   refine a0 hm (v:= .tuple #[]) ?_ (.v rfl)
   cases A<;>simp [Builtin.clear_,run_underlying ht]
 ·rename_i id s off n hx
  rw [hx] at hvx
  simp only [RM.run] at h
  cases hB:g id with
  |none=>simp [hB] at h
  |some B=>
   simp only [hB] at h
   split at h
   ·rename_i hc
    obtain ⟨rfl,fS,hfit⟩:=hc
    simp only [RM.run,KJ,Out.done.injEq] at h
    obtain ⟨rfl,rfl⟩:=h
    have nothing:n=0->bu E J base g (.ok (.value (.tuple #[])) E.w) (.v undef) [(id,some ⟨B.sz,B.els.take off++List.replicate n zs++B.els.drop (off+n)⟩)]:=by
     intro h0
     have nJ:(⟨B.sz,B.els.take off++List.replicate n zs++B.els.drop (off+n)⟩:Bk)=B:=by subst h0;simp
     rw [nJ,bu,sM hB]
     exact ⟨_, .tuple #[],E,rfl, .inl rfl,Env.Le.refl E, .v rfl,hm,Lt _ _,fun _ h=> .inl h⟩
    cases hvx with
    |ck aE hd=>exact absurd hd (alive hm hB)
    | @bL _ _ A aE hd hb aZ=>
     have:=nothing rfl
     cases A<;>simpa [Builtin.clear_,run_underlying ht] using this
    | @own _ _ _ _ c b q mm t' aE hd hbl hq gG cR hl hcc aZ=>
     rcases Mv n with h0|h0
     ·have:=nothing h0
      subst h0
      simpa [Builtin.clear_,run_underlying ht] using this
     ·have gn:q=off*zs.length:=by
       rcases hq with hq|hq
       ·exact hq
       ·omega
      subst gn
      have cp:eu E B.sz (Builtin.zeroCells z.cells n).toList (List.replicate n zs):=by
       rw [fS]
       refine ⟨by simp [size_zeroCells,hcs],fun i' cs aE=> ?_⟩
       have cg:i'<n:=by have:=(KS.1 aE).1;simpa using this
       simp [cg] at aE
       subst aE
       refine ⟨rfl,fun j x hj=> ?_⟩
       have aU:j<zs.length:=(KS.1 hj).1
       have g9:j<z.cells.size:=by omega
       have Kc:i'*zs.length+zs.length<=n*zs.length:=by
        have:(i'+1)*zs.length<=n*zs.length:=Lf _ (by omega)
        rw [Lc] at this;omega
       have nD:(i'*zs.length+j)%z.cells.size=j:=by rw [hcs,L6,Nat.mul_add_mod];exact L7 aU
       refine ⟨z.cells[j], ?_, ?_,cF E j _ x (KX g9) hj⟩
       ·rw [Array.getElem?_toList,KX (by simp only [size_zeroCells,hcs];omega)]
        simp [Builtin.zeroCells,nD,g9]
       ·refine (cF E j _ x (KX g9) hj).one ?_
        simp only [KQ] at dB
        have:=(KS.1 hj).2
        rw [<-this];exact dB _ (List.getElem_mem _)
      obtain ⟨E',dL,hE,hM,nL,aX⟩:=sL (P:=P) hm hB hbl cp (by omega) (off:=off) (by simpa using hfit)
      simp only [MF] at hM
      refine ⟨_, .tuple #[],E', ?_, .inl rfl,hE, .v rfl,hM,nL,fun cm aE=> .inl (aX _ aE)⟩
      rw [fS] at dL
      obtain ⟨n',rfl⟩:∃n',n=n'+1:=⟨n - 1,by omega⟩
      simp [Builtin.clear_,run_underlying ht,zeroValue,typeInfo,hi,cD,dL]
   ·simp [RM.run] at h
 ·simp [RM.run] at h
theorem Ck (hm:aB E J base g) {u:TypeId} (ht:P.underlying t=some (.slice e)) (hz:szOf P e=some sz) (cQ:0<sz) (hvx:ae E vx (ρ x)) (hvy:ae E vy (ρ y))
  (h:((AO.cpy sz x y).af fresh ρ).run g=some (.done val ups)) (sN:Array TypeId) (sO:sN[0]? =some t):bu E J base g ((do pure (Next.value (<-Builtin.copy_ sN ty #[vx,vy])):Sem Next).run P E.w) val ups:=by
 have sP:=ko hz E.w
 simp only [AO.af] at h
 have eV:=cz h
 clear h
 obtain ⟨ys,iM,h⟩:=eV
 obtain ⟨A2,c2,news,rfl,cp,dC⟩:=mo hm cQ hvy iM
 split at h
 ·rename_i id s off n hx
  rw [hx] at hvx
  simp only [RM.run] at h
  cases hB:g id with
  |none=>simp [hB] at h
  |some B=>
   simp only [hB] at h
   split at h
   ·rename_i hc
    obtain ⟨rfl,fS,hfit⟩:=hc
    simp only [RM.run,KJ,Out.done.injEq] at h
    obtain ⟨rfl,rfl⟩:=h
    have Kd:Nat.min ys.length n=min ys.length n:=rfl
    have nothing:min ys.length n=0->bu E J base g (.ok (.value (goInt 0)) E.w) (.v (goInt (min ys.length n:Nat))) [(id,some ⟨B.sz,B.els.take off++ys.take n++B.els.drop (off+min ys.length n)⟩)]:=by
     intro h0
     have hy:ys.take n=[]:=by
      apply L9;rw [L5];omega
     have nJ:(⟨B.sz,B.els.take off++ys.take n++B.els.drop (off+min ys.length n)⟩:Bk)=B:=by rw [hy,h0];simp
     rw [nJ,bu,sM hB,h0]
     exact ⟨_,goInt 0,E,rfl, .inl rfl,Env.Le.refl E, .v rfl,hm,Lt _ _,fun _ h=> .inl h⟩
    have mq:∀A c,(Builtin.firstCells s 0 (.slice A ys.length c)).run P E.w= .ok #[] E.w:=by
     intro A c
     cases A with
     |none=>simp [Builtin.firstCells]
     |some a=>simp [Builtin.firstCells,loadCells,loadCellsFrom]
    have xi:∀A c,vx= .slice A n c->min ys.length n=0->(do pure (Next.value (<-Builtin.copy_ sN ty #[vx, .slice A2 ys.length c2])):Sem Next).run P E.w= .ok (.value (goInt 0)) E.w:=by
     intro A c hv h0
     have ks:Nat.min ys.length n=0:=h0
     subst hv
     cases A with
     |none=>simp [Builtin.copy_,sO,run_underlying ht,sP,Builtin.lenOf,ks,mq]
     |some a=>simp [Builtin.copy_,sO,run_underlying ht,sP,Builtin.lenOf,ks,mq,storeCells]
    cases hvx with
    |ck aE hd=>exact absurd hd (alive hm hB)
    | @bL _ _ A aE hd hb aZ=>
     rw [xi A 0 rfl (by omega)];exact nothing (by omega)
    | @own _ _ _ _ c b q mm t' aE hd hbl hq gG cR hl hcc aZ=>
     rcases Mv (min ys.length n) with h0|h0
     ·rw [xi _ c rfl h0];exact nothing h0
     ·have gn:q=off*s:=by
       rcases hq with hq|hq
       ·exact hq
       ·omega
      subst gn
      obtain ⟨ad,rfl,fq⟩:=dC.resolve_left (by omega)
      subst fS
      have pX:(ys.take n).length=min ys.length n:=by rw [L5];omega
      have xj:eu E B.sz (news.take (min ys.length n*B.sz)) (ys.take n):=by
       have hle:min ys.length n*B.sz<=ys.length*B.sz:=Lf _ (by omega)
       refine ⟨by rw [pX,L5,cp.1];omega,fun i cs hi=> ?_⟩
       rw [LV] at hi
       split at hi
       ·rename_i fQ
        have cg:=(KS.1 hi).1
        refine ⟨(cp.2 i cs hi).1,fun j x hj=> ?_⟩
        obtain ⟨u,m1,m2,m3⟩:=(cp.2 i cs hi).2 j x hj
        have aU:j<B.sz:=by rw [<-(cp.2 i cs hi).1];exact (KS.1 hj).1
        have js:i*B.sz+B.sz<=min ys.length n*B.sz:=by
         have:(i+1)*B.sz<=min ys.length n*B.sz:=Lf _ (by omega)
         rw [Lc] at this;omega
        exact ⟨u,by rw [LV,KL (by omega)];exact m1,m2,m3⟩
       ·simp at hi
      obtain ⟨E',dL,hE,hM,nL,aX⟩:=sL (P:=P) hm hB hbl xj cQ (off:=off) (by rw [pX];omega)
      rw [pX] at hM
      have gH:=run_firstCells_some (P:=P) E.w B.sz (min ys.length n) ad ys.length c2 (news.take (min ys.length n*B.sz)) (by rw [xj.1,pX]) (fun j u hj=>by
       rw [LV] at hj
       split at hj
       ·exact fq j u hj
       ·simp at hj)
      refine ⟨_,goInt (min ys.length n:Nat),E', ?_, .inl rfl,hE, .v rfl,hM,nL,fun cm aE=> .inl (aX _ aE)⟩
      have Cm:(Builtin.firstCells B.sz (Nat.min ys.length n) (.slice (some ad) ys.length c2)).run P E.w=_:=gH
      simp [Builtin.copy_,sO,run_underlying ht,sP,Builtin.lenOf,Cm,dL]
   ·simp [RM.run] at h
 ·simp [RM.run] at h
theorem Co (hm:aB E J base g) (hf:¬E.kn fresh) {i:TypeInfo} {zs:List AV} (ht:P.underlying t=some (.slice e)) (hz:fo P e=some zs) (hi:P.info? e=some i) (cQ:0<zs.length) (lf:0<i.bytes) {vs:Value} {s:Arg} (hvs:ae E vs (ρ s)) (hvx:ae E vx (ρ x))
 (h:((AO.app zs.length i.bytes s x).af fresh ρ).run g=some (.done val ups)):
  bu E J base g ((do pure (Next.value (<-Builtin.append_ #[t,t] ty #[vs,vx])):Sem Next).run P E.w) val ups:=by
 obtain ⟨i',z,aE,cD,hs,hcs,dB,cF⟩:=kZ hz
 obtain rfl:i=i':=by rw [hi] at aE;simpa using aE
 simp only [AO.af] at h
 obtain ⟨ys,iM,h⟩:=cz h
 obtain ⟨A2,c2,news,rfl,cp,dC⟩:=mo hm cQ hvx iM
 -- nothing to append: hY slice stays
 have stay:∀A n c,vs= .slice A n c->n<=c->ys.length=0->(Builtin.append_ #[t,t] ty #[vs, .slice A2 ys.length c2]).run P E.w= .ok vs E.w:=by
  intro A n c hv eI h0
  subst hv
  have xk:(Builtin.firstCells i.size 0 (.slice A2 0 c2)).run P E.w= .ok #[] E.w:=by
   cases A2 with
   |none=>simp [Builtin.firstCells]
   |some a=>simp [Builtin.firstCells,loadCells,loadCellsFrom]
  rw [h0]
  cases A with
  |none=>simp [Builtin.append_,run_underlying ht,sizeOf,typeInfo,hi,Builtin.lenOf,eI,xk]
  |some a=>simp [Builtin.append_,run_underlying ht,sizeOf,typeInfo,hi,Builtin.lenOf,eI,xk,storeCells]
 have xl:∀{l:List (List AV)},l.length=0->l=[]:=fun h=>L9 h
 split at h
 ·rename_i hx
  rw [hx] at hvs
  split at h
  ·rename_i hb
   simp only [RM.run,KJ,Out.done.injEq] at h
   obtain ⟨rfl,rfl⟩:=h
   cases hvs with
   | @emp A=>
    rcases Mv ys.length with h0|h0
    ·have nI:=xl h0
     obtain ⟨E',hw,hE,hM,k1,k2,k3,k4,k5⟩:=hm.pV hf zs.length
     refine ⟨_, .slice A 0 0,E',by rw [hw];simp [stay A 0 0 rfl (KO _) h0], .inl rfl,hE, ?_,by rw [nI];exact hM,by rw [hw];exact Lt _ _,fun id aE=> ?_⟩
     ·rw [h0];exact .bL k1 k2 k3 k5
     ·rcases k4 id aE with h|h
      ·exact .inl h
      ·exact .inr (by simp [h])
    ·obtain ⟨ad,rfl,fq⟩:=dC.resolve_left (by omega)
     obtain ⟨cap,arr,hr,q1,q2,q3,q4⟩:=sI (P:=P) (ty:=ty) ht hi cD hs hcs lf hm (A:=A) (n:=0) (c:=0) (olds:=[]) (es:=[]) ⟨by simp,fun i cs hi=>by simp at hi⟩ rfl (.inl rfl) (fun _=>rfl) (c2:=c2) cp rfl fq h0 (by omega) (by simpa using hb)
     simp only [KY,List.nil_append] at hr q1 q4
     exact sJ (e:=e) hm hf rfl cp q1 q2 q3 q4 (by simp [hr])
  ·simp [RM.run] at h
 ·rename_i k els hx
  rw [hx] at hvs
  split at h
  ·rename_i hc
   obtain ⟨rfl,aA,hb⟩:=hc
   simp only [RM.run,KJ,Out.done.injEq] at h
   obtain ⟨rfl,rfl⟩:=h
   have h0:0<ys.length:=by
    cases ys with
    |nil=>simp at aA
    |cons a l=>simp
   cases hvs with
   | @cy A n _ _ hl=>
    have sQ:RM.run g (content zs.length (.aN zs.length els))=some els:=by simp [content,RM.run]
    obtain ⟨A1,c1,olds,he,lj,nN⟩:=mo hm cQ hl sQ
    simp only [Value.slice.injEq] at he
    obtain ⟨rfl,rfl,rfl⟩:=he
    obtain ⟨ad,rfl,fq⟩:=dC.resolve_left (by omega)
    have kr:A=none->els.length=0:=fun hA=>by
     rcases nN with h|⟨_,h,_⟩
     ·exact h
     ·rw [hA] at h;simp at h
    obtain ⟨cap,arr,hr,q1,q2,q3,q4⟩:=sI (P:=P) (ty:=ty) ht hi cD hs hcs lf hm lj rfl nN kr (c2:=c2) cp rfl fq h0 (by omega) hb
    exact sJ (e:=e) hm hf (by simp) (lj.append cp) q1 q2 q3 q4 (by simp [hr])
  ·simp [RM.run] at h
 ·rename_i id k off n hx
  rw [hx] at hvs
  simp only [RM.run] at h
  cases hB:g id with
  |none=>simp [hB] at h
  |some B=>
   simp only [hB] at h
   split at h
   ·rename_i hc
    obtain ⟨rfl,fS,rfl,lp,hb⟩:=hc
    simp only [RM.run,KJ,Out.done.injEq] at h
    obtain ⟨rfl,rfl⟩:=h
    have nO:E.kn id/\¬E.dead id:=(hm.live id).2 ⟨B,hB⟩
    have sQ:RM.run g (content zs.length (.own id zs.length 0 n))=some B.els:=by simp [content,RM.run,hB,fS,lp]
    obtain ⟨A1,c1,olds,bX,lj,nN⟩:=mo hm cQ hvs sQ
    rw [bX] at hvs stay ⊢
    rw [<-lp] at hvs stay bX ⊢
    -- a slice of hY same place, under hY new name
    have same:ys.length=0->bu E J base g ((do pure (Next.value (<-Builtin.append_ #[t,t] ty #[.slice A1 n c1, .slice A2 ys.length c2])):Sem Next).run P E.w) (.own fresh zs.length 0 (n+ys.length)) [(id,none),(fresh,some ⟨zs.length,B.els++ys⟩)]:=by
     intro h0
     have nI:=xl h0
     obtain ⟨E',hw,hE,hM,k1,k2,k3,k4,k5⟩:=hm.move hf id B ⟨zs.length,B.els++ys⟩ hB E.w (fun _ _=>rfl) rfl (fun _ _=>rfl) (fun E' hE hw=>by
      rw [nI,List.append_nil, <-fS]
      exact (hm.at_ id B hB).bD hE fun b hb=>by rw [hw])
     have eI:n<=c1:=by cases hvs with
      |own aE hd hbl hq hs cR hl hcc=>exact hl
      |bL=>exact KO _
      |ck aE hd=>exact absurd hd nO.2
     refine ⟨_, .slice A1 n c1,E',by rw [hw];simp [stay A1 n c1 rfl eI h0], .inl rfl,hE, ?_,hM,by rw [hw];exact Lt _ _,fun cm aE=> ?_⟩
     ·rw [h0]
      cases hvs with
      |own aE hd hbl hq hs cR hl hcc=>exact .own k1 k2 (k3.trans hbl) hq (by rw [hw];exact hs) cR hl hcc (by rw [k5];simp only [Ma];omega)
      |bL aE hd hbl=>exact .bL k1 k2 (k3.trans hbl) (by rw [k5];simp only [Ma];omega)
      |ck aE hd=>exact absurd hd nO.2
     ·rcases k4 cm aE with h|h
      ·exact .inl h
      ·exact .inr (by simp [h])
    rcases Mv ys.length with h0|h0
    ·exact same h0
    ·obtain ⟨ad,rfl,fq⟩:=dC.resolve_left (by omega)
     by_cases nK:n+ys.length<=c1
     ·-- in place
      cases hvs with
      |ck aE hd=>exact absurd hd nO.2
      |bL=>omega
      | @own _ _ _ _ _ b q mm t' aE hd hbl hq gG cR hl hcc=>
       have Cp:q=0:=by rcases hq with hq|hq<;>omega
       subst Cp
       have bM:=hm.at_ id B hB
       rw [hbl] at bM
       obtain ⟨jo,arr,t2,ha,hfit,dt⟩:=bM.cells (by first|assumption|omega)
       have sR:mm=arr.size/\t'=t2.1:=by
        simp only [World.shape?,ha,KJ,KZ] at gG
        exact ⟨gG.2.symm,gG.1.symm⟩
       have js:n*zs.length+news.length<=arr.size:=by
        rw [cp.1, <-Lc, <-sR.1]
        exact Lg (Lf _ (by omega)) cR
       have dL:=pM P b (n*zs.length) t2.1 t2.2 news 0 arr E.w ha (by simpa using js) (cp.all cQ)
       simp only [LC] at dL
       have gH:=run_firstCells_some (P:=P) E.w i.size ys.length ad ys.length c2 news (by rw [cp.1,hs]) fq
       rw [hs] at gH
       let dz:=(arr.toList.take (n*zs.length)++news++arr.toList.drop (n*zs.length+news.length)).toArray
       have pY:dz.size=arr.size:=by simp [dz];omega
       have g8:∀j:Nat,dz[j]? =if j<n*zs.length then arr[j]? else if j<n*zs.length+news.length then news[j - n*zs.length]? else arr[j]? :=by
        intro j
        simp only [dz,List.getElem?_toArray,L4]
        rw [Mn,L5,Nat.min_eq_left (by simp;omega)]
        by_cases h1:j<n*zs.length
        ·simp [h1]
        ·rw [KK h1,KK h1,Mn]
         by_cases h2:j<n*zs.length+news.length
         ·rw [KL (by omega),KL h2]
         ·rw [KK (by omega),KK h2,LW]
          simp;congr 1;omega
       have hrow:(E.w.setRow b dz).heap[b]? =some (.cells dz t2.1 (gC dz.size t2.2)):=by rw [pY];exact setRow_heap E.w b arr dz t2.1 _ ha
       obtain ⟨E',hw,hE,hM,k1,k2,k3,k4,k5⟩:=hm.move hf id B ⟨zs.length,B.els++ys⟩ hB (E.w.setRow b dz) (fun k hk=>setRow_other _ _ _ _ (hk b hbl)) (by simp) (fun b' aV=>by
         rw [hbl] at aV;simp only [KJ] at aV;subst aV
         simp only [World.shape?,hrow,ha,pY]) (fun E' hE hw=>by
        rw [hbl]
        refine .iE ⟨jo,dz,t2,by rw [hw];exact hrow, ?_, ?_⟩ (by dsimp only;omega)
        ·rw [pY];dsimp only
         rw [Ma, <-lp,Lc, <-cp.1];exact js
        ·have xm:=(lj.append cp).step hE
         intro q cs hq
         refine ⟨(xm.2 q cs hq).1,fun j x hj=> ?_⟩
         obtain ⟨u,m1,m2,m3⟩:=(xm.2 q cs hq).2 j x hj
         refine ⟨u, ?_,m2,m3⟩
         dsimp only
         rw [g8]
         have Cq:olds.length=n*zs.length:=by rw [lj.1,lp]
         by_cases h1:q*zs.length+j<n*zs.length
         ·rw [KL h1]
          rw [LH (by omega)] at m1
          -- hY aJ cells Cr Ke of hY block
          have pQ:q<n:=by
           rcases Ls q n with h|h
           ·exact h
           ·have:=Lf zs.length h;omega
          rw [LH (by omega)] at hq
          obtain ⟨u',w1,w2,w3⟩:=(dt q cs hq).2 j x hj
          rw [fS] at w1
          have g6:=cell_of_row E.w b (q*zs.length+j) arr t2.1 _ ha
          rcases nN with hz0|⟨xg,xn,dr⟩
          ·omega
          ·simp only [KJ] at xn;subst xn
           have:=dr _ _ m1
           rw [LU,KY,g6] at this
           exact this
         ·rw [KK h1]
          rw [LX (by omega),Cq] at m1
          rw [KL (by have:=(KS.1 m1).1;omega)]
          exact m1)
       refine ⟨_, .slice (some ⟨b,0,none⟩) (n+ys.length) c1,E', ?_, .inl rfl,hE, ?_,hM, ?_,fun cm aE=> ?_⟩
       ·rw [hw]
        simp [Builtin.append_,run_underlying ht,sizeOf,typeInfo,hi,Builtin.lenOf,nK,gH,LU,hs,dL,dz]
       ·refine .own k1 k2 (k3.trans hbl) (.inl (by simp)) (t:=t2.1) (m:=dz.size) ?_ (by rw [pY, <-sR.1];exact cR) nK hcc (by rw [k5];simp only [Ma];omega)
        rw [hw]
        simp only [World.shape?,hrow]
       ·rw [hw]
        exact ⟨rfl,rfl,rfl,by simp,fun k hk=>setRow_other _ _ _ _ (by omega)⟩
       ·rcases k4 cm aE with h|h
        ·exact .inl h
        ·exact .inr (by simp [h])
     ·-- a new block
      have kr:A1=none->c1=0:=fun hA=>by
       cases hvs with
       |own=>simp at hA
       |bL=>rfl
       |ck aE hd=>exact absurd hd nO.2
      obtain ⟨cap,arr,hr,q1,q2,q3,q4⟩:=sI (P:=P) (ty:=ty) ht hi cD hs hcs lf hm lj lp (by rw [lp];exact nN) kr (c2:=c2) cp rfl fq h0 (by omega) hb
      obtain ⟨E1,fR,gF,hM1,hk1,_,_⟩:=hm.kill [id] (fun k hk=>by simp at hk;subst hk;exact nO.1)
      have:=sJ (e:=e) hM1 (fun h=>hf (hk1 _ h)) (n:=n+ys.length) (by simp [lp]) ((lj.append cp).step gF) q1 q2 q3 q4 (r:=(do pure (Next.value (<-Builtin.append_ #[t,t] ty #[.slice A1 n c1, .slice (some ad) ys.length c2])):Sem Next).run P E.w) (by rw [fR];simp [hr])
      obtain ⟨n',v',E',w1,w2,w3,w4,w5,w6,w7⟩:=this
      refine ⟨n',v',E',w1,w2,gF.trans w3,w4,w5,by rw [<-fR];exact w6,fun cm aE=> ?_⟩
      rcases w7 cm aE with h|h
      ·exact .inl (hk1 _ h)
      ·exact .inr (by simp at h;simp [h])
   ·split at h
    rotate_left
    ·simp [RM.run] at h
    rename_i hc
    obtain ⟨rfl,fS,Cs⟩:=hc
    simp only [RM.run,KJ,Out.done.injEq] at h
    obtain ⟨rfl,rfl⟩:=h
    exact Cg (ty:=ty) hm hf ht hi hs cQ hvs cp dC hB fS Cs (fun A n c=>stay A n c)
 ·simp [RM.run] at h
end
open Go.RowKit
section
variable {P:Program} {E:Env} {J:Nat->Prop} {base:Nat} {g:Nat->Option Bk} {az:Operand->Value} {ρ:Arg->AV} {fresh:Nat}
theorem xp {kd:LK} (hd:P.underlying kt=some d) (hk:kj d=some kd) (k:Value) (e:Bool) (n:Nat) (w:World):(Instr.checkKey e (n+1) kt k).run P w= .ok () w:=by
 unfold Instr.checkKey
 simp only [Lu,run_underlying hd,Result.andThen]
 cases d<;>simp_all [kj]
theorem Cu (hk:kj d=some kd) {a b:Value} {r:Bool} (h:keyEq kd a b=some r):Instr.sameNow d a b=some r:=by
 cases d<;>simp [kj] at hk<;>subst hk<;>cases a<;>cases b<;>simp_all [keyEq,Instr.sameNow]
theorem sS {d:TypeDesc} {kd:LK} (hk:kj d=some kd) {k:Value}:∀(es:List MapEntry) (els:List (List AV)) (i:Nat) (r:Option AV),es.length=els.length->
  (∀(j:Nat) e cs,es[j]? =some e->els[j]? =some cs->∃x,cs=[.v e.key,x]/\plainV e.key=true/\ae E e.val x)->mfind kd k els=some r->
  (r=none/\Instr.findNow d k es i=some none)\/∃x j v,r=some x/\Instr.findNow d k es i=some (some (j,v))/\ae E v x
 |[],[],i,r,_,_,h=>by
  simp only [mfind,KJ] at h;subst h
  exact .inl ⟨rfl,rfl⟩
 |[],_::_,_,_,hl,_,_=>by simp at hl
 |_::_,[],_,_,hl,_,_=>by simp at hl
 |e::es,cs::els,i,r,hl,he,h=>by
  obtain ⟨x,rfl,_,hr⟩:=he 0 e cs rfl rfl
  unfold mfind at h
  cases hq:keyEq kd k e.key with
  |none=>rw [hq] at h;simp at h
  |some b=>
   rw [hq] at h
   have hs:=Cu hk hq
   unfold Instr.findNow
   rw [hs]
   cases b with
   |true=>
    simp only [KJ] at h;subst h
    exact .inr ⟨x,i,e.val,rfl,rfl,hr⟩
   |false=>
    exact sS hk es els (i+1) r (by simpa using hl) (fun j e' la h1 h2=>he (j+1) e' la (by simpa using h1) (by simpa using h2)) h
theorem xq (hm:aB E J base g) (hf:¬E.kn fresh) (ht:P.underlying t=some (.map kt et)) {r:Option Value} (hr:r=none\/∃k n,r=some (.int k n)):
  bu E J base g ((do pure (Next.value (<-Instr.makeMap t r)):Sem Next).run P E.w) (.mp fresh) [(fresh,some ⟨0,[]⟩)]:=by
 obtain ⟨E',hw,hE,hM,k1,k2,k3,k4,k5⟩:=hm.sB fresh hf (.map #[] 0) ⟨0,[]⟩ fun E' hE hw=> .ofMap ⟨hm.size, #[],0,by rw [hw];exact heap_alloc_new E.w _,rfl,fun i e cs he=>by simp at he⟩ rfl
 refine ⟨.value (.map (some E.w.heap.size)), .map (some E.w.heap.size),E', ?_, .inl rfl,hE, .mp k1 k2 k3,hM, ?_,fun id hi=> ?_⟩
 ·rw [hw]
  rcases hr with rfl|⟨k,n,rfl⟩
  ·simp [Instr.makeMap]
  ·simp [Instr.makeMap,run_underlying ht,asInt,asIntOf]
 ·rw [hw];exact (Lt _ _).alloc hm.size _
 ·rcases k4 id hi with h|h
  ·exact .inl h
  ·exact .inr (by simp [h])
theorem xr (hm:aB E J base g) {id:Nat} {B:Bk} (hv:ae E v (.mp id)) (hB:g id=some B) (hz:B.sz=0):∃b,v= .map (some b)/\E.loc id=some b/\base<=b/\pJ E B.els b:=by
 cases hv with
 |gB hi hd=>exact absurd hd (alive hm hB)
 | @mp _ b hi hd hb=>
  have bM:=hm.at_ id B hB
  rw [hb] at bM
  exact ⟨b,rfl,hb,(bM.wM hz).1,(bM.wM hz).2⟩
theorem Cv (h:zeroOf P t=some z):∃i zz,P.info? t=some i/\i.zero=some zz/\ae E zz z:=by
 unfold zeroOf at h
 cases hi:P.info? t with
 |none=>rw [hi] at h;simp at h
 |some i=>
  rw [hi] at h
  cases hz:i.zero with
  |none=>simp [hz] at h
  |some zz=>simp only [hz] at h;exact ⟨i,zz,rfl,hz,sD h⟩
theorem Cw (hm:aB E J base g) (ht:P.underlying t=some (.map kt et)) (hk:keyT P kt=some kd) (hz:zeroOf P et=some z) (hvx:ae E vx (ρ x)) (hvk:ae E vk (ρ k))
  (h:((AO.mlk kd z x k).af fresh ρ).run g=some (.done val ups)):bu E J base g ((do pure (Next.value (<-Instr.lookup t vx vk false)):Sem Next).run P E.w) val ups:=by
 obtain ⟨d,hd,hkd⟩:∃d,P.underlying kt=some d/\kj d=some kd:=by
  unfold keyT at hk
  cases hu:P.underlying kt with
  |none=>rw [hu] at hk;simp at hk
  |some d=>rw [hu] at hk;exact ⟨d,rfl,by simpa using hk⟩
 simp only [AO.af] at h
 split at h
 ·rename_i id kv hx hZ
  rw [hx] at hvx;rw [hZ] at hvk
  have sT:vk=kv:=by cases hvk with|v _=>rfl
  subst sT
  simp only [RM.run] at h
  cases hB:g id with
  |none=>simp [hB] at h
  |some B=>
   simp only [hB] at h
   split at h
   ·rename_i hz0
    obtain ⟨b,rfl,hb,jo,es,clock,hh,hl,pZ⟩:=xr hm hvx hB hz0
    cases hf:mfind kd vk B.els with
    |none=>simp [hf,RM.opt,RM.run] at h
    |some r=>
     simp [hf,RM.opt,RM.run] at h
     obtain ⟨rfl,rfl⟩:=h
     have dT:=sS (E:=E) hkd es.toList B.els 0 r (by simpa using hl) (fun j e cs h1 h2=>pZ j e cs (by simpa using h1) h2) hf
     have hck:=fun e=>xp hd hkd vk e 9999 E.w
     rcases dT with ⟨rfl,eJ⟩|⟨y,j,v,rfl,eJ,Cx⟩
     ·obtain ⟨i,zz,hi,cD,Cy⟩:=Cv (E:=E) hz
      refine a0 hm (v:=zz) ?_ Cy
      simp [Instr.lookup,run_underlying ht,MapKept.run_getObj_map hh,hck,MapKept.run_findKey hd eJ,Result.andThen,zeroValue,typeInfo,hi,cD]
     ·refine a0 hm (v:=v) ?_ Cx
      simp [Instr.lookup,run_underlying ht,MapKept.run_getObj_map hh,hck,MapKept.run_findKey hd eJ,Result.andThen]
   ·simp [RM.run] at h
 ·simp [RM.run] at h
theorem xt (hm:aB E J base g) (ht:P.underlying t=some (.map kt et)) (hk:keyT P kt=some kd) (hvx:ae E vx (ρ x)) (hvk:ae E vk (ρ k)) (hvy:ae E vy (ρ y))
  (h:((AO.mup kd x k y).af fresh ρ).run g=some (.done val ups)):bu E J base g ((do (Instr.mapUpdate t vx vk vy);pure Next.skip:Sem Next).run P E.w) val ups:=by
 obtain ⟨d,hd,hkd⟩:∃d,P.underlying kt=some d/\kj d=some kd:=by
  unfold keyT at hk
  cases hu:P.underlying kt with
  |none=>rw [hu] at hk;simp at hk
  |some d=>rw [hu] at hk;exact ⟨d,rfl,by simpa using hk⟩
 simp only [AO.af] at h
 split at h
 ·rename_i id kv hx hZ
  rw [hx] at hvx;rw [hZ] at hvk
  have sT:vk=kv:=by cases hvk with|v _=>rfl
  subst sT
  simp only [RM.run] at h
  cases hB:g id with
  |none=>simp [hB] at h
  |some B=>
   simp only [hB] at h
   split at h
   ·rename_i hz0
    obtain ⟨hz0,p8⟩:=hz0
    obtain ⟨b,rfl,hb,jo,es,clock,hh,hl,pZ⟩:=xr hm hvx hB hz0
    split at h
    ·rename_i hf
     simp only [RM.run,KJ,Out.done.injEq] at h
     obtain ⟨rfl,rfl⟩:=h
     have dT:=sS (E:=E) hkd es.toList B.els 0 none (by simpa using hl) (fun j e cs h1 h2=>pZ j e cs (by simpa using h1) h2) hf
     have eJ:Instr.findNow d vk es.toList 0=some none:=by
      rcases dT with ⟨_,eJ⟩|⟨_,_,_,hc,_⟩
      ·exact eJ
      ·simp at hc
     have hck:=fun e=>xp hd hkd vk e 9999 E.w
     obtain ⟨xu,xv⟩:=MapKept.heap_set (w:=E.w) (r:=b) (o':= .map (es.push { key:=vk,val:=vy,born:=clock }) (clock+1)) hh
     obtain ⟨E',hw,hE,hM,aX⟩:=hm.wN id b B ⟨0,B.els++[[.v vk,ρ y]]⟩ hB hb { E.w with heap:=E.w.heap.setIfInBounds b (.map (es.push { key:=vk,val:=vy,born:=clock }) (clock+1)) }
      xv (by simp) (by simp only [World.shape?,xu,hh]) (fun hh=>absurd rfl hh) (fun E' hE hw=> .ofMap ⟨jo,es.push { key:=vk,val:=vy,born:=clock },clock+1,by rw [hw];exact xu,by simp [hl],fun i e cs he hi=>by
       by_cases lq:i<es.size
       ·rw [Array.getElem?_push_lt lq] at he
        dsimp only at hi
        rw [LH (by omega)] at hi
        obtain ⟨u,k1,k2,k3⟩:=pZ i e cs (by rw [KX lq];exact he) hi
        exact ⟨u,k1,k2,k3.step hE⟩
       ·have Cz:i=es.size:=by
         have:=(Lw.1 he).1;simp at this;omega
        subst Cz
        simp only [Array.getElem?_push_size,KJ] at he
        subst he
        dsimp only at hi
        rw [LX (by omega),hl,Nat.sub_self] at hi
        simp only [Ll,KJ] at hi
        subst hi
        exact ⟨ρ y,rfl,p8,hvy.step hE⟩⟩ rfl)
     refine ⟨.skip,undef,E', ?_, .inr ⟨rfl,rfl⟩,hE, .v rfl,hM, ?_,fun cm h'=> .inl (aX cm h')⟩
     ·rw [hw]
      simp [Instr.mapUpdate,run_underlying ht,MapKept.run_getObj_map hh,hck,MapKept.run_findKey hd eJ,MapKept.run_setObj_map _ hh,Result.andThen]
     ·rw [hw]
      refine ⟨rfl,rfl,rfl,by simp,fun k hk=>xv k (by omega)⟩
    ·simp [RM.run] at h
   ·simp [RM.run] at h
 ·simp [RM.run] at h
end
open Go.RowKit
theorem xw {P:Program} {w:World} {f:Value->ByteArray->Sem (ForInStep ByteArray)} (hf:∀n s,f (.int .u8 n) s=pure (ForInStep.yield (s.push (UInt8.ofNat n.toNat)))):∀(l:List Value) (bs:List UInt8) (s:ByteArray),(∀(i:Nat) (v:Value),l[i]? =some v->∃n:Int,v= .int .u8 n/\bs[i]? =some (UInt8.ofNat n.toNat))->bs.length=l.length->
  (forIn (m:=Sem) l s f).run P w= .ok (⟨s.data++bs.toArray⟩) w
 |[],bs,s,_,hl=>by
  have:bs=[]:=L9 (by simpa using hl)
  subst this
  simp
 |v::l,bs,s,h,hl=>by
  obtain ⟨n,rfl,hb⟩:=h 0 v rfl
  cases bs with
  |nil=>simp at hl
  |cons b bs=>
   simp at hb;subst hb
   have ih:=xw hf (P:=P) (w:=w) l bs (s.push (UInt8.ofNat n.toNat)) (fun i v hv=>h (i+1) v hv) (by simpa using hl)
   simp [List.forIn_cons,hf,ih]
theorem xx:∀{ys:List (List AV)} {l:List UInt8},strOf ys=some l->l.length=ys.length/\∀(i:Nat) (cs:List AV),ys[i]? =some cs->∃n:Int,cs=[.v (.int .u8 n)]/\l[i]? =some (UInt8.ofNat n.toNat)
 |[],l,h=>by
  simp only [strOf,KJ] at h;subst h
  exact ⟨rfl,fun i cs hi=>by simp at hi⟩
 |cs::r,l,h=>by
  unfold strOf at h
  split at h
  ·rename_i e;simp at e
  ·rename_i n r' e
   simp only [Mw] at e
   obtain ⟨rfl,rfl⟩:=e
   cases hr:strOf r with
   |none=>rw [hr] at h;simp at h
   |some l'=>
    rw [hr] at h
    simp only [KV,KJ] at h;subst h
    obtain ⟨h1,h2⟩:=xx hr
    refine ⟨by simp [h1],fun i cs hi=> ?_⟩
    cases i with
    |zero=>simp at hi;subst hi;exact ⟨n,rfl,rfl⟩
    |succ i=>exact h2 i cs (by simpa using hi)
  ·simp at h
theorem CA (hm:aB E J base g) (hv:ae E v a) (h:(content 1 a).run g=some ys) {l:List UInt8} (hl:strOf ys=some l):
  (Conv.bytesToString v).run P E.w= .ok (.string ⟨l.toArray⟩) E.w:=by
 obtain ⟨A,c,news,rfl,cp,dC⟩:=mo hm Nat.zero_lt_one hv h
 obtain ⟨hlen,g8⟩:=xx hl
 have hn:news.length=ys.length:=by have:=cp.1;omega
 have fq:∀(i:Nat) (u:Value),news[i]? =some u->∃n:Int,u= .int .u8 n/\l[i]? =some (UInt8.ofNat n.toNat):=fun i u hu=>by
  have hi:i<ys.length:=by have:=(KS.1 hu).1;omega
  obtain ⟨n,hcs,aZ⟩:=g8 i _ (K0 hi)
  obtain ⟨_,h2⟩:=cp.2 i _ (K0 hi)
  obtain ⟨u',k1,_,k3⟩:=h2 0 (.v (.int .u8 n)) (by rw [hcs];rfl)
  rw [Nat.mul_one,LC,hu] at k1
  simp only [KJ] at k1;subst k1
  exact ⟨n,by cases k3 with|v _=>rfl,aZ⟩
 cases A with
 |none=>
  rcases dC with h0|⟨ad,e,_⟩
  ·have:l=[]:=L9 (by omega)
   subst this
   simp [Conv.bytesToString];rfl
  ·simp at e
 |some ad=>
  have hc:(loadCells ad ys.length).run P E.w= .ok news.toArray E.w:=by
   rw [<-hn]
   refine run_loadCells_list E.w ad news fun j v hj=> ?_
   rcases dC with h0|⟨xg,e,h2⟩
   ·have:=(KS.1 hj).1;omega
   ·simp only [KJ] at e;subst e;exact h2 j v hj
  simp only [Conv.bytesToString]
  rw [Lu,hc]
  simp only [Result.andThen,List.forIn_toArray]
  rw [Lu,xw (fun n s=>rfl) news l ByteArray.empty fq (by omega)]
  simp only [Result.andThen]
  simp
theorem CB (s:ByteArray) (h:s.size<=cap):(bytesRow s cap).size=cap:=by
 have:s.data.size=s.size:=rfl
 simp [bytesRow];omega
theorem CC (s:ByteArray) (cap:Nat) {i:Nat} {b:UInt8} (h:s.data.toList[i]? =some b):(bytesRow s cap)[i]? =some (.int .u8 b.toNat):=by
 have hi:=(KS.1 h).1
 unfold bytesRow
 rw [MG (by simpa using hi),Array.getElem?_map]
 rw [<-Array.getElem?_toList,h];rfl
theorem CE {P:Program} (hm:aB E J base g) (hf:¬E.kn fresh) {s:ByteArray} (hc:s.size<=cap) (sK:cap<=9223372036854775807)
  (hr:r= .ok (.value (.slice (some ⟨E.w.heap.size,0,none⟩) s.size cap)) (E.w.drew.alloc (.cells (bytesRow s cap) e ((bytesRow s cap).size,(bytesRow s cap).size+1)))):
  bu E J base g r (.own fresh 1 0 s.size) [(fresh,some ⟨1,s.data.toList.map fun b=>[.v (.int .u8 b.toNat)]⟩)]:=by
 obtain ⟨E1,fR,gF,hM1,_,nH,Cb,gp⟩:=hm.drew
 have hsz:=CB s hc
 have Kf:s.data.toList.length=s.size:=rfl
 obtain ⟨E',hw,hE,hM,k1,k2,k3,k4,k5⟩:=hM1.sB fresh (fun h=>hf ((nH _).1 h)) (.cells (bytesRow s cap) e ((bytesRow s cap).size,(bytesRow s cap).size+1)) ⟨1,s.data.toList.map fun b=>[.v (.int .u8 b.toNat)]⟩ (fun E' hE hw=>by
  refine .iE ⟨hM1.size,bytesRow s cap,(e,1),by rw [hw];exact heap_alloc_new E1.w _,by simp only [K7,Nat.mul_one];omega,fun i cs hi=> ?_⟩ (by simp)
  rw [Ld] at hi
  cases hb:s.data.toList[i]? with
  |none=>rw [hb] at hi;simp at hi
  |some b=>
   rw [hb] at hi
   simp only [KV,KJ] at hi;subst hi
   refine ⟨rfl,fun j x hj=> ?_⟩
   cases j with
   |zero=>
    simp at hj;subst hj
    exact ⟨.int .u8 b.toNat,by simpa using CC s cap hb,rfl, .v rfl⟩
   |succ j=>simp at hj)
 rw [fR] at hw
 refine ⟨_, .slice (some ⟨E.w.heap.size,0,none⟩) s.size cap,E',by rw [hw];exact hr, .inl rfl,gF.trans hE, ?_,hM, ?_,fun id hi=> ?_⟩
 ·refine .own k1 k2 (b:=E.w.heap.size) (by rw [k3,fR];rfl) (.inl (by simp)) (t:=e) (m:=(bytesRow s cap).size) ?_ (by rw [hsz];simp) hc sK (by rw [k5];simp only [K7];omega)
  rw [hw]
  unfold World.shape?
  rw [show E.w.heap.size=E.w.drew.heap.size from rfl,heap_alloc_new]
 ·rw [hw]
  exact ((Lt _ _).drew).alloc (by simpa using hm.size) _
 ·rcases k4 id hi with h|h
  ·exact .inl ((nH _).1 h)
  ·exact .inr (by simp [h])
theorem CF (hm:aB E J base g) (hs:P.underlying src=some (.slice e)) (hd:P.underlying dst=some .string) (he:P.underlying e=some (.int .u8)) (hvx:ae E vx (ρ x))
 (h:((AO.b2s x).af fresh ρ).run g=some (.done val ups)):bu E J base g ((do pure (Next.value (<-convert src dst vx)):Sem Next).run P E.w) val ups:=by
 simp only [AO.af] at h
 obtain ⟨ys,iM,h⟩:=cz h
 cases hl:strOf ys with
 |none=>rw [hl] at h;simp [RM.opt,RM.run] at h
 |some l=>
  rw [hl] at h
  simp only [KV,RM.opt,RM.run,KJ,Out.done.injEq] at h
  obtain ⟨rfl,rfl⟩:=h
  have hr:=CA (P:=P) hm hvx iM hl
  obtain ⟨A,c,news,rfl,_,_⟩:=mo hm Nat.zero_lt_one hvx iM
  refine a0 hm (v:= .string ⟨l.toArray⟩) ?_ (.v rfl)
  have:(convert src dst (.slice A ys.length c)).run P E.w= .ok (.string ⟨l.toArray⟩) E.w:=by
   simp only [convert,Lu,run_underlying hs,run_underlying hd,Mm,run_underlying he]
   exact hr
  rw [Lu,this];rfl
theorem CG (hm:aB E J base g) (hf:¬E.kn fresh) (hs:P.underlying src=some .string) (hd:P.underlying dst=some (.slice e)) (he:P.underlying e=some (.int .u8)) (hvx:ae E vx (ρ x))
 (h:((AO.s2b x).af fresh ρ).run g=some (.done val ups)):bu E J base g ((do pure (Next.value (<-convert src dst vx)):Sem Next).run P E.w) val ups:=by
 simp only [AO.af] at h
 split at h
 ·rename_i s hx
  split at h
  ·rename_i hb
   simp only [RM.run,KJ,Out.done.injEq] at h
   obtain ⟨rfl,rfl⟩:=h
   rw [hx] at hvx
   have ex:vx= .string s:=by cases hvx with|v _=>rfl
   subst ex
   exact CE (P:=P) (e:=e) hm hf (grownCap_ge E.w s.size 0 e) (grownCap_le_maxLen E.w s.size 0 e (by unfold maxLen;omega)) (by rw [Lu,run_bytes_of_string E.w src dst e s hs hd he];rfl)
  ·simp [RM.run] at h
 ·simp [RM.run] at h
end Go.Proofs.Ytpoikkflcpklgaa
