/- Strings of bytes and bytes of strings: conversions, upon abstract values. No condition. -/
import Derived.WalkKit
import Derived.Orders
import Derived.Below
import Derived.Laws.CopyRow
import Derived.Laws.StructEq
import Derived.Deep.OwnRows
import Derived.Laws.Bits
import Derived.Laws.AppendOwn
import Derived.MapKept
import Derived.Laws.IdiomStrings
set_option linter.unusedSimpArgs false
set_option linter.unusedVariables false
namespace Go.Proofs.Ytpoikkflcpklgaa
variable {parts:Array (Nat×Operand)} {fields:Array Field} {vs:Array Value} {f:Field} {news olds:List Value} {base sz n b off o cap len c fresh q fi l h c2:Nat} {J:Nat->Prop} {A:Option Addr} {m:Option Nat} {lo hi mx:Option Operand} {P:Program} {r:Result Next} {d:TypeDesc} {t e ty kt et s src dst:TypeId} {v vx vy vi vk:Value}
open Go.RowKit
abbrev KZ:=@Option.some.injEq
abbrev K0:=@if_neg
abbrev K1:=@if_pos
abbrev K3:=@if_true
abbrev K4:=@Nat.le_refl
abbrev K6:=@List.all_eq_true
abbrev K8:=@List.getElem?_eq_some_iff
abbrev Ld:=@Option.map_some
abbrev Lf:=@List.map_cons
abbrev Lg:=@Array.getElem?_eq_getElem
abbrev Lh:=@Nat.zero_add
abbrev Li:=@Prod.mk.injEq
abbrev Lj:=@List.getElem?_eq_getElem
abbrev Lq:=@List.length_map
abbrev Lt:=@Nat.add_mul
abbrev Lu:=@List.getElem?_map
abbrev Lv:=@Nat.mul_le_mul_right
abbrev Lw:=@Nat.le_trans
abbrev Lx:=@if_false
abbrev LB:=@List.getElem?_cons_zero
abbrev LC:=@Below.heap_alloc
abbrev LJ:=@List.mem_of_getElem?
abbrev LM:=@Nat.lt_or_ge
abbrev LN:=@Below.refl
abbrev LO:=@Sem.run_bind
abbrev LQ:=@Array.getElem?_eq_some_iff
abbrev LS:=@List.mem_cons_of_mem
abbrev L1:=@Nat.add_zero
abbrev L2:=@List.getElem?_cons_succ
abbrev L4:=@Bool.false_eq_true
abbrev L5:=@List.getElem?_append_left
abbrev L8:=@Option.getD_some
abbrev Md:=@Addr.add_lit
abbrev Me:=@List.getElem?_take
abbrev Mf:=@List.getElem?_drop
abbrev Mg:=@List.getElem?_append_right
abbrev Ml:=@List.append_assoc
abbrev Mm:=@List.length_take
abbrev Mn:=@Nat.mul_comm
abbrev Mo:=@Nat.mod_eq_of_lt
abbrev Mp:=@Int.toNat_natCast
abbrev Mq:=@Option.bind_some
abbrev Mr:=@List.eq_nil_of_length_eq_zero
abbrev Ms:=@List.length_append
abbrev Mv:=@Option.getD_none
abbrev MA:=@Result.andThen_ok
abbrev MB:=@List.getElem?_append
abbrev MK:=@List.getElem_of_mem
abbrev ML:=@List.length_cons
abbrev MM:=@Nat.eq_zero_or_pos
abbrev MN:=@List.cons.injEq
abbrev MU:=@Option.isSome_iff_exists
abbrev MV:=@Array.getElem?_setIfInBounds
abbrev MW:=@List.length_replicate
abbrev MX:=@Array.getElem?_append_left
def plainV:Value->Bool
 | .bool _| .int _ _| .string _| .nilFunc| .nilIface=>true
 | .pointer none=>true
 | .tuple vs=>vs.isEmpty
 |_=>false
inductive AV where
 |v (x:Value)
 |agg (cs:List AV)
 |aJ (vs:List AV)
 |aP (sz:Nat) (els:List (List AV))
 |cA (sz:Nat) (els:List (List AV))
 |emp
 |pim (cs:List AV) (o:Nat)
 |ref (id sz i o:Nat)
 |own (id sz off len:Nat)
 |fn (f:FuncId) (caps:List AV)
 |bf (f:FuncId) (first:List AV)
 |ee (r:Loop) (cs:List AV)
 |mp (id:Nat)
 |dt
 |dead
variable {val a z:AV} {ys els:List (List AV)} {cs:List AV}
inductive Pu:AV->Prop
 |v {x:Value}:Pu (.v x)
 |agg {cs:List AV} (h:∀c,c∈cs->Pu c):Pu (.agg cs)
 |aJ {cs:List AV} (h:∀c,c∈cs->Pu c):Pu (.aJ cs)
 |aP {sz:Nat} {els:List (List AV)}:Pu (.aP sz els)
 |cA {sz:Nat} {els:List (List AV)}:Pu (.cA sz els)
 |emp:Pu .emp
 |pim {cs:List AV} {o:Nat}:Pu (.pim cs o)
 |fn {f:FuncId} {cs:List AV} (h:∀c,c∈cs->Pu c):Pu (.fn f cs)
 |bf {f:FuncId} {cs:List AV} (h:∀c,c∈cs->Pu c):Pu (.bf f cs)
 |dt:Pu .dt
 |dead:Pu .dead
structure Bk where
 sz:Nat
 els:List (List AV)
variable {ups:List (Nat×Option Bk)} {g:Nat->Option Bk}
structure Env where
 w:World
 kn:Nat->Prop
 loc:Nat->Option Nat
 dead:Nat->Prop
 I:Nat->Prop
 ln:Nat->Nat
 rg:Nat->Prop
 X:Nat->Prop
variable {E E':Env}
inductive af (E:Env):Value->AV->Prop
 |v {x:Value} (h:plainV x=true):af E x (.v x)
 |agg {vs:Array Value} {cs:List AV} (hl:vs.size=cs.length) (h:∀(i:Nat) v c,vs[i]? =some v->cs[i]? =some c->af E v c):af E (.agg vs) (.agg cs)
 |aJ {vs:Array Value} {cs:List AV} (hl:vs.size=cs.length) (h:∀(i:Nat) v c,vs[i]? =some v->cs[i]? =some c->af E v c):af E (.tuple vs) (.aJ cs)
 |dA {A:Option Addr} {c sz:Nat} (hc:c<=9223372036854775807):af E (.slice A 0 c) (.aP sz [])
 |dR {b off n c sz:Nat} {els:List (List AV)} (u:Nat->Nat->Value) (hn:n=els.length) (hl:n<=c) (hc:c<=9223372036854775807) (hb:E.I b)
   (hz:∀(i:Nat) cs,els[i]? =some cs->cs.length=sz) (hu:∀(i:Nat) cs (j:Nat) x,els[i]? =some cs->cs[j]? =some x->E.w.cell? ⟨b,off+i*sz+j,none⟩=some (u i j))
   (h1:∀(i:Nat) cs (j:Nat) x,els[i]? =some cs->cs[j]? =some x->(u i j).oneCell'=true/\Pu x)
   (h:∀(i:Nat) cs (j:Nat) x,els[i]? =some cs->cs[j]? =some x->af E (u i j) x):af E (.slice (some ⟨b,off,none⟩) n c) (.aP sz els)
 |cA {A:Option Addr} {n sz:Nat} {els:List (List AV)} (h:af E (.slice A n n) (.aP sz els)):af E (.slice A n n) (.cA sz els)
 |emp {A:Option Addr}:af E (.slice A 0 0) .emp
 |pim {b off o q:Nat} {cs:List AV} (u:Nat->Value) (hb:E.I b) (hq:q=off+o) (hu:∀(j:Nat) x,cs[j]? =some x->E.w.cell? ⟨b,off+j,none⟩=some (u j)) (h1:∀(j:Nat) x,cs[j]? =some x->Pu x)
   (h:∀(j:Nat) x,cs[j]? =some x->af E (u j) x):af E (.pointer (some ⟨b,q,none⟩)) (.pim cs o)
 |ref {id sz i o b q:Nat} (hi:E.kn id) (hd:¬E.dead id) (hb:E.loc id=some b) (hq:q=i*sz+o) (hz:sz≠0:=by first|assumption|omega|(dsimp only;omega)):af E (.pointer (some ⟨b,q,none⟩)) (.ref id sz i o)
 |own {id sz off n c b q m:Nat} {t:TypeId} (hi:E.kn id) (hd:¬E.dead id) (hb:E.loc id=some b) (hq:q=off*sz\/c=0) (hs:E.w.shape? b=some (t,m)) (hm:(off+c)*sz<=m) (hl:n<=c) (hc:c<=9223372036854775807) (bh:E.ln id<=off+c) (hz:sz≠0:=by first|assumption|omega|(dsimp only;omega)):
   af E (.slice (some ⟨b,q,none⟩) n c) (.own id sz off n)
 |bP {id sz:Nat} {A:Option Addr} (hi:E.kn id) (hd:¬E.dead id) (hb:E.loc id=none) (bh:E.ln id=0) (hz:sz≠0:=by first|assumption|omega|(dsimp only;omega)):af E (.slice A 0 0) (.own id sz 0 0)
 |ef {v:Value} {id sz i o:Nat} (hi:E.kn id) (hd:E.dead id) (ho:v.oneCell'=true):af E v (.ref id sz i o)
 |cr {v:Value} {id sz off n:Nat} (hi:E.kn id) (hd:E.dead id) (ho:v.oneCell'=true):af E v (.own id sz off n)
 |fn {f:FuncId} {vs:Array Value} {cs:List AV} (hl:vs.size=cs.length) (h:∀(i:Nat) v c,vs[i]? =some v->cs[i]? =some c->af E v c):af E (.func (.func f) #[] vs) (.fn f cs)
 |bf {f:FuncId} {vs:Array Value} {cs:List AV} (hl:vs.size=cs.length) (h:∀(i:Nat) v c,vs[i]? =some v->cs[i]? =some c->af E v c):af E (.func (.func f) vs #[]) (.bf f cs)
 |ee {l:Nat} {r:Loop} {cs:List AV} (hg:E.rg l) (hI:E.I l) (hh:E.w.heap[l]? =some (.loop r)) (hl:r.tmps.size=cs.length) (h:∀(i:Nat) v c,r.tmps[i]? =some v->cs[i]? =some c->af E v c):af E (.func (.yield l) #[] #[]) (.ee r cs)
 |mp {id b:Nat} (hi:E.kn id) (hd:¬E.dead id) (hb:E.loc id=some b):af E (.map (some b)) (.mp id)
 |gH {v:Value} {id:Nat} (hi:E.kn id) (hd:E.dead id) (ho:v.oneCell'=true):af E v (.mp id)
 |dt {b:Bool}:af E (.bool b) .dt
 |dead {v:Value}:af E v .dead
structure Env.Le (E E':Env):Prop where
 kn:∀id,E.kn id->E'.kn id
 dS:∀b,E.I b->E'.I b/\E'.w.heap[b]? =E.w.heap[b]?
 dead:∀id,E.kn id->E.dead id->E'.dead id
 loc:∀id,E.kn id->¬E.dead id->E'.dead id\/(E'.loc id=E.loc id)
 shape:∀id b,E.kn id->¬E.dead id->E.loc id=some b->E'.dead id\/E'.w.shape? b=E.w.shape? b
 ln:∀id,E.kn id->¬E.dead id->E'.dead id\/E'.ln id=E.ln id
 rg:∀l,E.rg l->E'.rg l
 fx:∀b,E.X b->E'.X b/\E'.w.heap[b]? =E.w.heap[b]?
theorem Env.Le.cell {E E':Env} (hE:E.Le E') {b:Nat} (hb:E.I b) (o:Nat):E'.w.cell? ⟨b,o,none⟩=E.w.cell? ⟨b,o,none⟩:=World.cell?_of_block (w:=E.w) (w':=E'.w) (a:=⟨b,o,none⟩) (hE.dS b hb).2
def dT (E:Env):Prop:=True
theorem dT.step {E E':Env} (hE:E.Le E') (h:dT E):dT E':=trivial
def glArg:Nat->Option AV:=fun _=>none
theorem dT.arg (h:dT E) {g:Nat} {c:AV} (hc:glArg g=some c):af E (.pointer (some ⟨g,0,none⟩)) c:=by simp [glArg] at hc
theorem af.step {E E':Env} (hE:E.Le E') {v:Value} {a:AV} (h:af E v a):af E' v a:=by
 induction h with
 |v h=>exact .v h
 |agg hl h ih=>exact .agg hl ih
 |aJ hl h ih=>exact .aJ hl ih
 |dA hc=>exact .dA hc
 |dR u hn hl hc hb hz hu h1 h ih=>exact .dR u hn hl hc (hE.dS _ hb).1 hz (fun i cs j x hi hj=>by rw [hE.cell hb];exact hu i cs j x hi hj) h1 ih
 |cA h ih=>exact .cA ih
 |emp=>exact .emp
 |pim u hb hq hu h1 h ih=>exact .pim u (hE.dS _ hb).1 hq (fun j x hj=>by rw [hE.cell hb];exact hu j x hj) h1 ih
 | @mp id b hi hd hb=>
  by_cases hx:E'.dead id
  ·exact .gH (hE.kn _ hi) hx rfl
  ·exact .mp (hE.kn _ hi) hx (((hE.loc _ hi hd).resolve_left hx).trans hb)
 |gH hi hd ho=>exact .gH (hE.kn _ hi) (hE.dead _ hi hd) ho
 | @ref id sz i o b q hi hd hb hq=>
  by_cases hx:E'.dead id
  ·exact .ef (hE.kn _ hi) hx rfl
  ·exact .ref (hE.kn _ hi) hx (((hE.loc _ hi hd).resolve_left hx).trans hb) hq
 | @own id sz off n c b q m t hi hd hb hq hs hm hl hc bh=>
  by_cases hx:E'.dead id
  ·exact .cr (hE.kn _ hi) hx rfl
  ·exact .own (hE.kn _ hi) hx (((hE.loc _ hi hd).resolve_left hx).trans hb) hq (((hE.shape _ _ hi hd hb).resolve_left hx).trans hs) hm hl hc (by rw [(hE.ln _ hi hd).resolve_left hx];exact bh)
 | @bP id sz A hi hd hb bh=>
  by_cases hx:E'.dead id
  ·exact .cr (hE.kn _ hi) hx rfl
  ·exact .bP (hE.kn _ hi) hx (((hE.loc _ hi hd).resolve_left hx).trans hb) (((hE.ln _ hi hd).resolve_left hx).trans bh)
 |ef hi hd ho=>exact .ef (hE.kn _ hi) (hE.dead _ hi hd) ho
 |cr hi hd ho=>exact .cr (hE.kn _ hi) (hE.dead _ hi hd) ho
 |fn hl h ih=>exact .fn hl ih
 |bf hl h ih=>exact .bf hl ih
 |ee hg hI hh hl h ih=>exact .ee (hE.rg _ hg) (hE.dS _ hI).1 ((hE.dS _ hI).2.trans hh) hl ih
 |dt=>exact .dt
 |dead=>exact .dead
theorem af.pure (hI:∀b,E.I b->E'.I b/\∀o,E'.w.cell? ⟨b,o,none⟩=E.w.cell? ⟨b,o,none⟩) (h:af E v a) (hp:Pu a):af E' v a:=by
 induction h with
 |v h=>exact .v h
 |agg hl h ih=>cases hp with|agg hp=>exact .agg hl fun i v c hv hc=>ih i v c hv hc (hp c (LJ hc))
 |aJ hl h ih=>cases hp with|aJ hp=>exact .aJ hl fun i v c hv hc=>ih i v c hv hc (hp c (LJ hc))
 |dA hc=>exact .dA hc
 |dR u hn hl hc hb hz hu h1 h ih=>exact .dR u hn hl hc (hI _ hb).1 hz (fun i cs j x hi hj=>by rw [(hI _ hb).2];exact hu i cs j x hi hj) h1 fun i cs j x hi hj=>ih i cs j x hi hj (h1 i cs j x hi hj).2
 |cA h ih=>exact .cA (ih .aP)
 |emp=>exact .emp
 |pim u hb hq hu h1 h ih=>exact .pim u (hI _ hb).1 hq (fun j x hj=>by rw [(hI _ hb).2];exact hu j x hj) h1 fun j x hj=>ih j x hj (h1 j x hj)
 |ref=>cases hp
 |own=>cases hp
 |bP=>cases hp
 |ef=>cases hp
 |cr=>cases hp
 |fn hl h ih=>cases hp with|fn hp=>exact .fn hl fun i v c hv hc=>ih i v c hv hc (hp c (LJ hc))
 |bf hl h ih=>cases hp with|bf hp=>exact .bf hl fun i v c hv hc=>ih i v c hv hc (hp c (LJ hc))
 |ee=>cases hp
 |mp=>cases hp
 |gH=>cases hp
 |dt=>exact .dt
 |dead=>exact .dead
theorem af.pO {id:Nat} (h:af E v (.own id sz off n)) (hd:¬E.dead id):sz≠0:=by
 cases h with
 |own=>assumption
 |bP=>assumption
 |cr _ hx=>exact absurd hx hd
theorem Env.Le.refl (E:Env):E.Le E:=⟨fun _ h=>h,fun _ h=>⟨h,rfl⟩,fun _ _ h=>h,fun _ _ _=> .inr rfl,fun _ _ _ _ _=> .inr rfl,fun _ _ _=> .inr rfl,fun _ h=>h,fun _ h=>⟨h,rfl⟩⟩
theorem Env.Le.trans {E E' kr:Env} (h:E.Le E') (k:E'.Le kr):E.Le kr:=by
 refine ⟨fun id hi=>k.kn _ (h.kn _ hi),fun b hb=>⟨(k.dS b (h.dS b hb).1).1,((k.dS b (h.dS b hb).1).2).trans ((h.dS b hb).2)⟩,fun id hi hd=>k.dead _ (h.kn _ hi) (h.dead _ hi hd),fun id hi hd=> ?_,fun id b hi hd hb=> ?_,fun id hi hd=> ?_,fun l hg=>k.rg l (h.rg l hg),fun b hb=>⟨(k.fx b (h.fx b hb).1).1,((k.fx b (h.fx b hb).1).2).trans ((h.fx b hb).2)⟩⟩
 ·by_cases hx:E'.dead id
  ·exact .inl (k.dead _ (h.kn _ hi) hx)
  ·rcases k.loc _ (h.kn _ hi) hx with k1|k1
   ·exact .inl k1
   ·exact .inr (k1.trans ((h.loc _ hi hd).resolve_left hx))
 ·by_cases hx:E'.dead id
  ·exact .inl (k.dead _ (h.kn _ hi) hx)
  ·have hl:=(h.loc _ hi hd).resolve_left hx
   rcases k.shape id b (h.kn _ hi) hx (hl.trans hb) with k1|k1
   ·exact .inl k1
   ·exact .inr (k1.trans ((h.shape _ _ hi hd hb).resolve_left hx))
 ·by_cases hx:E'.dead id
  ·exact .inl (k.dead _ (h.kn _ hi) hx)
  ·rcases k.ln _ (h.kn _ hi) hx with k1|k1
   ·exact .inl k1
   ·exact .inr (k1.trans ((h.ln _ hi hd).resolve_left hx))
def gI (n:Nat):Nat->Nat×Nat
 |0=>(0,0)
 |k+1=>(n,n+k+1)
def sC (E:Env) (B:Bk) (b:Nat):Prop:=∃(arr:Array Value) (t:TypeId×Nat),E.w.heap[b]? =some (.cells arr t.1 (gI arr.size t.2))/\B.els.length*B.sz<=arr.size/\
   ∀(i:Nat) cs,B.els[i]? =some cs->cs.length=B.sz/\∀(j:Nat) x,cs[j]? =some x->∃u,arr[i*B.sz+j]? =some u/\u.oneCell'=true/\af E u x
def pP (E:Env) (els:List (List AV)) (b:Nat):Prop:=∃(es:Array MapEntry) (clock:Nat),E.w.heap[b]? =some (.map es clock)/\es.size=els.length/\
   ∀(i:Nat) e cs,es[i]? =some e->els[i]? =some cs->∃x,cs=[.v e.key,x]/\plainV e.key=true/\af E e.val x
def cx (E:Env) (base:Nat) (B:Bk):Option Nat->Prop
 |none=>B.els=[]
 |some b=>base<=b/\((B.sz≠0/\sC E B b)\/(B.sz=0/\pP E B.els b))
theorem cx.cells {B:Bk} (h:cx E base B (some b)) (hz:B.sz≠0):base<=b/\sC E B b:=⟨h.1,(h.2.resolve_right fun hh=>hz hh.1).2⟩
theorem cx.wO {B:Bk} (h:cx E base B (some b)) (hz:B.sz=0):base<=b/\pP E B.els b:=⟨h.1,(h.2.resolve_left fun hh=>hh.1 hz).2⟩
theorem cx.iI {B:Bk} (h:base<=b/\sC E B b) (hz:B.sz≠0):cx E base B (some b):=⟨h.1, .inl ⟨hz,h.2⟩⟩
theorem cx.ofMap {B:Bk} (h:base<=b/\pP E B.els b) (hz:B.sz=0):cx E base B (some b):=⟨h.1, .inr ⟨hz,h.2⟩⟩
structure aD (E:Env) (J:Nat->Prop) (base:Nat) (g:Nat->Option Bk):Prop where
 live:∀id,(E.kn id/\¬E.dead id)↔∃B,g id=some B
 at_:∀id B,g id=some B->cx E base B (E.loc id)
 apart:∀id ct b B B',g id=some B->g ct=some B'->E.loc id=some b->E.loc ct=some b->id=ct
 out:∀id b B,g id=some B->E.loc id=some b->¬E.I b
 low:∀b,E.I b->b<E.w.heap.size/\(J b\/base<=b)
 size:base<=E.w.heap.size
 len:∀id B,g id=some B->B.sz≠0->B.els.length=E.ln id
 gq:∀l,E.rg l->base<=l
 xo:∀b,E.X b->b<E.w.heap.size/\¬E.I b/\∀id B,g id=some B->E.loc id≠some b
def au (g:Nat->Option Bk):List (Nat×Option Bk)->Nat->Option Bk
 |[]=>g
 |(id,x)::r=>au (fun k=>if k=id then x else g k) r
theorem cx.lt {B:Bk} (h:cx E base B (some b)):base<=b/\b<E.w.heap.size:=by
 obtain ⟨h1,⟨_,arr,t,h2,_⟩|⟨_,es,clock,h2,_⟩⟩:=h
 ·exact ⟨h1,(LQ.1 h2).1⟩
 ·exact ⟨h1,(LQ.1 h2).1⟩
theorem cx.bH (hE:E.Le E') {B:Bk} {l:Option Nat} (h:cx E base B l) (hw:∀b,l=some b->E'.w.heap[b]? =E.w.heap[b]?):cx E' base B l:=by
 cases l with
 |none=>exact h
 |some b=>
  obtain ⟨h1,⟨hz,arr,t,h2,h3,h4⟩|⟨hz,es,clock,h2,h3,h4⟩⟩:=h
  ·refine ⟨h1, .inl ⟨hz,arr,t,(hw b rfl).trans h2,h3,fun i cs hi=>⟨(h4 i cs hi).1,fun j x hj=> ?_⟩⟩⟩
   obtain ⟨u,k1,k2,k3⟩:=(h4 i cs hi).2 j x hj
   exact ⟨u,k1,k2,k3.step hE⟩
  ·refine ⟨h1, .inr ⟨hz,es,clock,(hw b rfl).trans h2,h3,fun i e cs he hi=> ?_⟩⟩
   obtain ⟨x,k1,k2,k3⟩:=h4 i e cs he hi
   exact ⟨x,k1,k2,k3.step hE⟩
theorem aD.sD (h:aD E J base g) (fresh:Nat) (hf:¬E.kn fresh) (ob:Obj) (B:Bk)
  (hB:∀E':Env,E.Le E'->E'.w=E.w.alloc ob->cx E' base B (some E.w.heap.size)):
  ∃E':Env,E'.w=E.w.alloc ob/\E.Le E'/\aD E' J base (au g [(fresh,some B)])/\E'.kn fresh/\¬E'.dead fresh/\E'.loc fresh=some E.w.heap.size/\(∀id,E'.kn id->E.kn id\/id=fresh)/\E'.ln fresh=B.els.length:=by
 have hlt:∀id b B,g id=some B->E.loc id=some b->b<E.w.heap.size:=fun id b B hg hb=>by
  have:=h.at_ id B hg;rw [hb] at this;exact this.lt.2
 let E':Env:={ w:=E.w.alloc ob,kn:=fun id=>E.kn id\/id=fresh,loc:=fun id=>if id=fresh then some E.w.heap.size else E.loc id,dead:=fun id=>E.dead id/\id≠fresh,I:=E.I,ln:=fun id=>if id=fresh then B.els.length else E.ln id,rg:=E.rg,X:=E.X }
 have aC:∀id,E.kn id->id≠fresh:=fun id hi he=>hf (he▸hi)
 have hE:E.Le E':=by
  refine ⟨fun id hi=> .inl hi,fun b hb=>⟨hb,LC _ _ _ (h.low b hb).1⟩,fun id hi hd=>⟨hd,aC id hi⟩,fun id hi hd=> .inr (K0 (aC id hi)),fun id b hi hd hb=> .inr ?_,fun id hi hd=> .inr (K0 (aC id hi)),fun _ h=>h,fun b hb=>⟨hb,LC _ _ _ (h.xo b hb).1⟩⟩
  obtain ⟨B',aR⟩:=(h.live id).1 ⟨hi,hd⟩
  have aY:=hlt id b B' aR hb
  show (E.w.alloc _).shape? b=_
  simp only [World.shape?]
  rw [LC _ _ _ aY]
 refine ⟨E',rfl,hE, ?_, .inr rfl,fun hd=>hd.2 rfl,K1 rfl,fun id hi=>hi,K1 rfl⟩
 refine ⟨fun id=> ?_,fun id B' hg=> ?_,fun id ct b B1 B2 h1 h2 h3 h4=> ?_,fun id b B' hg hb hI=> ?_,fun b hb=> ?_, ?_,fun id B' hg cG=> ?_,h.gq,fun b hb=>⟨?_,(h.xo b hb).2.1,fun k B1 hk he=> ?_⟩⟩
 ·simp only [au]
  by_cases hid:id=fresh
  ·subst hid
   simp [E']
  ·simp only [hid,Lx]
   rw [<-h.live id]
   simp [E',hid]
 ·simp only [au] at hg
  by_cases hid:id=fresh
  ·subst hid
   simp only [K3,KZ] at hg
   subst hg
   show cx E' base B (if id=id then _ else _)
   rw [K1 rfl]
   exact hB E' hE rfl
  ·simp only [hid,Lx] at hg
   show cx E' base B' (if id=fresh then _ else _)
   rw [K0 hid]
   exact (h.at_ id B' hg).bH hE fun b hb=>LC _ _ _ (hlt id b B' hg hb)
 ·simp only [au] at h1 h2
  have e3:(if id=fresh then some E.w.heap.size else E.loc id)=some b:=h3
  have e4:(if ct=fresh then some E.w.heap.size else E.loc ct)=some b:=h4
  by_cases hid:id=fresh<;>by_cases hH:ct=fresh
  ·rw [hid,hH]
  ·rw [K1 hid] at e3;rw [K0 hH] at e4 h2
   have:=hlt _ _ _ h2 e4
   simp only [KZ] at e3;omega
  ·rw [K0 hid] at e3 h1;rw [K1 hH] at e4
   have:=hlt _ _ _ h1 e3
   simp only [KZ] at e4;omega
  ·rw [K0 hid] at e3 h1;rw [K0 hH] at e4 h2
   exact h.apart id ct b B1 B2 h1 h2 e3 e4
 ·simp only [au] at hg
  have e3:(if id=fresh then some E.w.heap.size else E.loc id)=some b:=hb
  by_cases hid:id=fresh
  ·rw [K1 hid] at e3
   have:=(h.low b hI).1
   simp only [KZ] at e3;omega
  ·rw [K0 hid] at e3 hg
   exact h.out id b B' hg e3 hI
 ·have:=h.low b hb
  refine ⟨?_,this.2⟩
  show b<(E.w.alloc _).heap.size
  simp;omega
 ·show base<=(E.w.alloc _).heap.size
  have:=h.size
  simp;omega
 ·simp only [au] at hg
  show _=if id=fresh then _ else _
  by_cases hid:id=fresh
  ·rw [K1 hid] at hg ⊢
   simp only [KZ] at hg;rw [hg]
  ·rw [K0 hid] at hg ⊢
   exact h.len id B' hg cG
 ·have:=(h.xo b hb).1
  show b<(E.w.alloc _).heap.size
  simp;omega
 ·have e3:(if k=fresh then some E.w.heap.size else E.loc k)=some b:=he
  simp only [au] at hk
  by_cases hid:k=fresh
  ·rw [K1 hid] at e3
   have:=(h.xo b hb).1
   simp only [KZ] at e3;omega
  ·rw [K0 hid] at e3 hk
   exact (h.xo b hb).2.2 k B1 hk e3
theorem aD.alloc {E:Env} {J:Nat->Prop} {base:Nat} {g:Nat->Option Bk} (h:aD E J base g) (fresh:Nat) (hf:¬E.kn fresh) (arr:Array Value) (t:TypeId) (B:Bk)
  (hB:∀E':Env,E.Le E'->B.els.length*B.sz<=arr.size/\∀(i:Nat) cs,B.els[i]? =some cs->cs.length=B.sz/\∀(j:Nat) x,cs[j]? =some x->∃u,arr[i*B.sz+j]? =some u/\u.oneCell'=true/\af E' u x) (hz:B.sz≠0:=by first|assumption|omega|(dsimp only;omega)):
  ∃E':Env,E'.w=E.w.alloc (.cells arr t)/\E.Le E'/\aD E' J base (au g [(fresh,some B)])/\E'.kn fresh/\¬E'.dead fresh/\E'.loc fresh=some E.w.heap.size/\(∀id,E'.kn id->E.kn id\/id=fresh)/\E'.ln fresh=B.els.length:=
 h.sD fresh hf _ B fun E' hE hw=> .iI ⟨h.size,arr,(t,0),by rw [hw];exact heap_alloc_new E.w _,(hB E' hE).1,(hB E' hE).2⟩ hz
theorem aD.wP (h:aD E J base g) (id b:Nat) (B B':Bk) (hg:g id=some B) (hb:E.loc id=some b) (w':World)
  (mq:∀k,k≠b->w'.heap[k]? =E.w.heap[k]?) (hsz:w'.heap.size=E.w.heap.size) (wQ:w'.shape? b=E.w.shape? b) (hlen:B'.sz≠0->B.sz≠0/\B'.els.length=B.els.length)
  (hB:∀E':Env,E.Le E'->E'.w=w'->cx E' base B' (some b)):
  ∃E':Env,E'.w=w'/\E.Le E'/\aD E' J base (au g [(id,some B')])/\(∀id,E'.kn id->E.kn id):=by
 have bQ:=h.at_ id B hg
 rw [hb] at bQ
 have Ko:=bQ.lt
 let E':Env:={ E with w:=w' }
 have mq:∀k,k≠b->E'.w.heap[k]? =E.w.heap[k]? :=mq
 have hE:E.Le E':=by
  refine ⟨fun _ h=>h,fun k hk=>⟨hk, ?_⟩,fun _ _ h=>h,fun _ _ _=> .inr rfl,fun ct b' hi hd aY=> .inr ?_,fun _ _ _=> .inr rfl,fun _ h=>h,fun k hk=>⟨hk,mq k fun e=>(h.xo k hk).2.2 id B hg (e▸hb)⟩⟩
  ·have pQ:k≠b:=fun e=>h.out id b B hg hb (e▸hk)
   exact mq k pQ
  ·show E'.w.shape? b'=_
   by_cases hbb:b'=b
   ·subst hbb
    exact wQ
   ·simp only [World.shape?,mq b' hbb]
 refine ⟨E',rfl,hE, ?_,fun _ h=>h⟩
 have key:∀k B1,au g [(id,some B')] k=some B1->∃B0,g k=some B0:=fun k B1 hk=>by
  simp only [au] at hk
  by_cases fq:k=id
  ·exact ⟨B,fq▸hg⟩
  ·rw [K0 fq] at hk;exact ⟨B1,hk⟩
 refine ⟨fun k=> ?_,fun k B1 hk=> ?_,fun k k' b' B1 B2 h1 h2 h3 h4=> ?_,fun k b' B1 hk aY hI=> ?_,fun k hk=> ?_, ?_,fun k B1 hk cG=> ?_,h.gq,fun b' aY=>⟨by show b'<w'.heap.size;rw [hsz];exact (h.xo b' aY).1,(h.xo b' aY).2.1,fun k B1 hk he=>(key k B1 hk).elim fun B3 k3=>(h.xo b' aY).2.2 k B3 k3 he⟩⟩
 ·rw [show (E'.kn k/\¬E'.dead k)↔(E.kn k/\¬E.dead k) from Iff.rfl,h.live k]
  simp only [au]
  by_cases fq:k=id
  ·subst fq;simp [hg]
  ·simp [fq]
 ·simp only [au] at hk
  by_cases fq:k=id
  ·subst fq
   rw [K1 rfl] at hk
   simp only [KZ] at hk
   subst hk
   show cx E' base B' (E.loc k)
   rw [hb]
   exact hB E' hE rfl
  ·rw [K0 fq] at hk
   refine (h.at_ k B1 hk).bH hE fun b' aY=>mq b' fun e=>fq ?_
   subst e
   exact h.apart k id b' B1 B hk hg aY hb
 ·obtain ⟨B3,k3⟩:=key k B1 h1
  obtain ⟨B4,k4⟩:=key k' B2 h2
  exact h.apart k k' b' B3 B4 k3 k4 h3 h4
 ·obtain ⟨B3,k3⟩:=key k B1 hk
  exact h.out k b' B3 k3 aY hI
 ·have:=h.low k hk
  refine ⟨?_,this.2⟩
  show k<w'.heap.size
  rw [hsz];exact this.1
 ·show base<=w'.heap.size
  rw [hsz];exact h.size
 ·simp only [au] at hk
  show _=E.ln k
  by_cases fq:k=id
  ·subst fq
   rw [K1 rfl] at hk
   simp only [KZ] at hk
   subst hk;rw [(hlen cG).2];exact h.len k B hg (hlen cG).1
  ·rw [K0 fq] at hk
   exact h.len k B1 hk cG
theorem aD.set (h:aD E J base g) (id b:Nat) (B B':Bk) (hg:g id=some B) (hb:E.loc id=some b) (arr dB:Array Value) (t:TypeId×Nat)
  (ha:E.w.heap[b]? =some (.cells arr t.1 (gI arr.size t.2))) (hs:dB.size=arr.size) (hlen:B'.els.length=B.els.length)
  (hB:∀E':Env,E.Le E'->B'.els.length*B'.sz<=arr.size/\∀(i:Nat) cs,B'.els[i]? =some cs->cs.length=B'.sz/\∀(j:Nat) x,cs[j]? =some x->∃u,dB[i*B'.sz+j]? =some u/\u.oneCell'=true/\af E' u x) (hz:B.sz≠0:=by first|assumption|omega|(dsimp only;omega)) (BF:B'.sz≠0:=by first|assumption|omega|(dsimp only;omega)):
  ∃E':Env,E'.w=E.w.setRow b dB/\E.Le E'/\aD E' J base (au g [(id,some B')])/\(∀id,E'.kn id->E.kn id):=by
 have bQ:=h.at_ id B hg
 rw [hb] at bQ
 have hrow:(E.w.setRow b dB).heap[b]? =some (.cells dB t.1 (gI dB.size t.2)):=by rw [hs];exact setRow_heap E.w b arr dB t.1 _ ha
 refine h.wP id b B B' hg hb (E.w.setRow b dB) (fun k hk=>setRow_other E.w b k dB (by exact hk)) (by simp [World.setRow]) (by simp only [World.shape?,hrow,ha,hs]) (fun _=>⟨hz,hlen⟩) fun E' hE hw=> ?_
 exact .iI ⟨bQ.lt.1,dB,t,by rw [hw];exact hrow,by rw [hs];exact (hB E' hE).1,(hB E' hE).2⟩ BF
theorem aD.kill (h:aD E J base g) (ids:List Nat) (hk:∀id,id∈ids->E.kn id):
  ∃E':Env,E'.w=E.w/\E.Le E'/\aD E' J base (au g (ids.map fun id=>(id,none)))/\(∀id,E'.kn id->E.kn id)/\(∀id b B,id∈ids->g id=some B->E.loc id=some b->E'.I b)/\(∀b,E.I b->E'.I b):=by
 let E':Env:={ E with dead:=fun id=>E.dead id\/id∈ids,I:=fun b=>E.I b\/∃id B,id∈ids/\g id=some B/\E.loc id=some b }
 have hE:E.Le E':=⟨fun _ h=>h,fun b hb=>⟨.inl hb,rfl⟩,fun _ _ h=> .inl h,fun _ _ _=> .inr rfl,fun _ _ _ _ _=> .inr rfl,fun _ _ _=> .inr rfl,fun _ h=>h,fun _ h=>⟨h,rfl⟩⟩
 have key:∀(l:List Nat) (g:Nat->Option Bk) k,au g (l.map fun id=>(id,none)) k=if k∈l then none else g k:=by
  intro l
  induction l with
  |nil=>intro g k;simp [au]
  |cons a l ih=>
   intro g k
   simp only [Lf,au,ih]
   by_cases h1:k∈l
   ·simp [h1]
   ·by_cases h2:k=a
    ·subst h2;simp
    ·simp [h1,h2]
 refine ⟨E',rfl,hE, ?_,fun _ h=>h,fun id b B h1 h2 h3=> .inr ⟨id,B,h1,h2,h3⟩,fun b hb=> .inl hb⟩
 refine ⟨fun k=> ?_,fun k B1 hk1=> ?_,fun k k' b' B1 B2 h1 h2 h3 h4=> ?_,fun k b' B1 hk1 aY hI=> ?_,fun k hk1=> ?_,h.size,fun k B1 hk1=> ?_,h.gq,fun b hb=>⟨(h.xo b hb).1,fun hI=> ?_,fun k B1 hk1 he=> ?_⟩⟩
 ·rw [key]
  by_cases h1:k∈ids
  ·simp [E',h1]
  ·simp only [h1,Lx, <-h.live k]
   simp [E',h1]
 ·rw [key] at hk1
  by_cases h1:k∈ids
  ·simp [h1] at hk1
  ·rw [K0 h1] at hk1
   exact (h.at_ k B1 hk1).bH hE fun _ _=>rfl
 ·rw [key] at h1 h2
  by_cases m1:k∈ids
  ·simp [m1] at h1
  ·by_cases m2:k'∈ids
   ·simp [m2] at h2
   ·rw [K0 m1] at h1;rw [K0 m2] at h2
    exact h.apart k k' b' B1 B2 h1 h2 h3 h4
 ·rw [key] at hk1
  by_cases m1:k∈ids
  ·simp [m1] at hk1
  ·rw [K0 m1] at hk1
   rcases hI with hI|⟨id,B,hi,hg,hl⟩
   ·exact h.out k b' B1 hk1 aY hI
   ·have:=h.apart k id b' B1 B hk1 hg aY hl
    exact m1 (this▸hi)
 ·rcases hk1 with hI|⟨id,B,hi,hg,hl⟩
  ·exact h.low k hI
  ·have:=h.at_ id B hg
   rw [hl] at this
   exact ⟨this.lt.2, .inr this.lt.1⟩
 ·rw [key] at hk1
  by_cases m1:k∈ids
  ·simp [m1] at hk1
  ·rw [K0 m1] at hk1
   exact h.len k B1 hk1
 ·rcases hI with hI|⟨id,B,_,hg,hl⟩
  ·exact (h.xo b hb).2.1 hI
  ·exact (h.xo b hb).2.2 id B hg hl
 ·rw [key] at hk1
  by_cases m1:k∈ids
  ·simp [m1] at hk1
  ·rw [K0 m1] at hk1
   exact (h.xo b hb).2.2 k B1 hk1 he
open Go.RowKit
def AV.cells:AV->List AV
 | .agg cs=>cs
 |a=>[a]
def AV.one:AV->Bool
 | .v x=>x.oneCell'
 | .agg _| .aJ _| .dead=>false
 |_=>true
def AV.fP:AV->Bool
 | .agg _=>true
 |a=>a.one
inductive Arg where
 |s (t:Nat)
 |c (a:AV)
variable {x y i k:Arg} {ρ:Arg->AV} {iJ iK amx:Option Arg}
inductive Out where
 |done (val:AV) (ups:List (Nat×Option Bk))
 |call (f:FuncId) (args:List AV)
inductive RM (α:Type) where
 |ret (a:α)
 |fail
 |rd (id:Nat) (k:Bk->RM α)
 |lv (id:Nat) (k:RM α)
def RM.run {α:Type} (g:Nat->Option Bk):RM α->Option α
 | .ret a=>some a
 | .fail=>none
 | .rd id k=>match g id with
  |some B=>(k B).run g
  |none=>none
 | .lv id k=>match g id with
  |some _=>k.run g
  |none=>none
def RM.acc {α:Type} (g:Nat->Option Bk):RM α->List Nat
 | .ret _=>[]
 | .fail=>[]
 | .rd id k=>match g id with
  |some B=>id::(k B).acc g
  |none=>[id]
 | .lv _ k=>k.acc g
def RM.see {α:Type} (g:Nat->Option Bk):RM α->List Nat
 | .ret _=>[]
 | .fail=>[]
 | .rd id k=>match g id with
  |some B=>(k B).see g
  |none=>[]
 | .lv id k=>id::k.see g
def RM.opt {α:Type}:Option α->RM α
 |some a=> .ret a
 |none=> .fail
theorem RM.local {α:Type} {g g':Nat->Option Bk}:∀(m:RM α),(∀id,id∈m.acc g->g' id=g id)->(∀id,id∈m.see g->(g' id).isSome=(g id).isSome)->m.run g'=m.run g
 | .ret _,_,_=>rfl
 | .fail,_,_=>rfl
 | .rd id k,h,h2=>by
  have h1:g' id=g id:=h id (by simp only [RM.acc];cases g id<;>simp)
  simp only [RM.run,h1]
  cases hg:g id with
  |none=>rfl
  |some B=>exact RM.local (k B) (fun j hj=>h j (by simp only [RM.acc,hg];exact LS _ hj)) (fun j hj=>h2 j (by simp only [RM.see,hg];exact hj))
 | .lv id k,h,h2=>by
  have h1:=h2 id (by simp [RM.see])
  have ih:=RM.local k (fun j hj=>h j (by simpa [RM.acc] using hj)) (fun j hj=>h2 j (by simp only [RM.see];exact LS _ hj))
  simp only [RM.run]
  cases hg:g id with
  |none=>rw [hg] at h1;simp at h1;simp [h1]
  |some B=>
   rw [hg] at h1
   obtain ⟨B',aR⟩:=MU.1 (by simpa using h1)
   simp only [aR];exact ih
inductive NK where
 |sl
 |fn
 |pt
inductive LK where
 |int
 |str
 |bool
variable {kd:LK}
inductive AO where
 |mov (x:Arg)
 |pick (c a b:Arg)
 |new (zs:List AV)
 |box (n:Nat) (x:Arg)
 |agg (zs:List AV) (parts:List (Nat×Nat×Arg))
 |bsl (sz len:Nat) (zs:List AV) (parts:List (Nat×Arg))
 |load (m:Option Nat) (x:Arg)
 |store (n:Nat) (x y:Arg)
 |nilc (x:Arg)
 |bin (bt:Bool) (op:BinOp) (x y:Arg)
 |un (op:UnOp) (x:Arg)
 |conv (k:IntKind) (x:Arg)
 |fad (off:Nat) (x:Arg)
 |fld (off:Nat) (m:Option Nat) (x:Arg)
 |iad (sz:Nat) (x i:Arg)
 |ext (i:Nat) (x:Arg)
 |len (str:Bool) (x:Arg)
 |isn (kd:NK) (neg:Bool) (x:Arg)
 |mnx (max:Bool) (x y:Arg)
 |eqs (neg:Bool) (n:Nat) (L:List (Nat×LK)) (x y:Arg)
 |msl (sz bytes:Nat) (zs:List AV) (l c:Arg)
 |slc (sz:Nat) (x:Arg) (lo hi mx:Option Arg)
 |sls (x:Arg) (lo hi:Option Arg)
 |six (x i:Arg)
 |app (sz bytes:Nat) (s x:Arg)
 |mkf (f:FuncId) (caps:List Arg)
 |mkb (f:FuncId) (first:List Arg)
 |iap (sz len:Nat) (x i:Arg)
 |ixa (sz len:Nat) (m:Option Nat) (x i:Arg)
 |clr (zs:List AV) (x:Arg)
 |cpy (sz:Nat) (x y:Arg)
 |b2s (x:Arg)
 |s2b (x:Arg)
 |mkm
 |mup (kd:LK) (x k y:Arg)
 |mlk (kd:LK) (z:AV) (x k:Arg)
 |bad
 |call (x:Arg) (args:List Arg)
def getCells (cs:List AV) (o:Nat):Option Nat->Option AV
 |none=>cs[o]?
 |some n=>if o+n<=cs.length then some (.agg ((cs.drop o).take n)) else none
def putCells (cs:List AV) (o:Nat) (ys:List AV):List AV:=cs.take o++ys++cs.drop (o+ys.length)
def fillA (ρ:Arg->AV) (cells:List AV):List (Nat×Nat×Arg)->Option (List AV)
 |[]=>some cells
 |(off,n,x)::r=>if (ρ x).cells.length=n/\off+n<=cells.length/\(ρ x).fP=true then fillA ρ (putCells cells off (ρ x).cells) r else none
def fillE (ρ:Arg->AV) (sz:Nat) (els:List (List AV)):List (Nat×Arg)->Option (List (List AV))
 |[]=>some els
 |(i,x)::r=>if (ρ x).cells.length=sz/\i<els.length/\(ρ x).cells.all AV.one=true then fillE ρ sz (els.set i (ρ x).cells) r else none
def gr (a b:ByteArray):Bool:=a.data.toList==b.data.toList
def binA (bt:Bool) (op:BinOp):Value->Value->Option Value
 | .int k a, .int k' b=>
  match op with
  | .shl=>if b<0 then none else some (.int k (k.wrap (a*2^(min b.toNat k.bits))))
  | .shr=>if b<0 then none else some (.int k (a.fdiv (2^(min b.toNat k.bits))))
  |_=>
  if k=k' then
   match op with
   | .add=>some (.int k (k.wrap (a+b)))
   | .sub=>some (.int k (k.wrap (a - b)))
   | .mul=>some (.int k (k.wrap (a*b)))
   | .quo=>if b=0 then none else some (.int k (k.wrap (a.tdiv b)))
   | .rem=>if b=0 then none else some (.int k (a.tmod b))
   | .and=>some (.int k (bits .and k a b))
   | .or=>some (.int k (bits .or k a b))
   | .xor=>some (.int k (bits .xor k a b))
   | .andNot=>some (.int k (bits .andNot k a b))
   | .eql=>some (.bool (a==b))
   | .neq=>some (.bool (a !=b))
   | .lss=>some (.bool (decide (a<b)))
   | .leq=>some (.bool (decide (a<=b)))
   | .gtr=>some (.bool (decide (a>b)))
   | .geq=>some (.bool (decide (a≥b)))
   |_=>none
  else none
 | .string a, .string b=>
  match op with
  | .eql=>some (.bool (gr a b))
  | .neq=>some (.bool (!(gr a b)))
  | .lss=>some (.bool (Op.bytesLess a.toList b.toList))
  | .add=>if ((a.size+b.size:Nat):Int)>IntKind.i64.max then none else some (.string (a++b))
  |_=>none
 | .bool a, .bool b=>
  if bt=true then
   match op with
   | .eql=>some (.bool (a==b))
   | .neq=>some (.bool (!(a==b)))
   |_=>none
  else none
 |_,_=>none
def unA:UnOp->Value->Option Value
 | .neg, .int k n=>some (.int k (k.wrap (0 - n)))
 | .xor, .int k n=>some (.int k (bits .xor k (if k.signed then -1 else k.max) n))
 | .not, .bool b=>some (.bool !b)
 |_,_=>none
def nE (mx:Bool):Value->Value->Option Value
 | .int k x, .int k' y=>if k=k' then some (.int k (if mx then (if y>x then y else x) else (if y<x then y else x))) else none
 |_,_=>none
def iL:LK->AV->AV->Option Bool
 | .int, .v (.int k a), .v (.int k' b)=>if k=k' then some (a==b) else none
 | .str, .v (.string a), .v (.string b)=>some (gr a b)
 | .bool, .v (.bool a), .v (.bool b)=>some (a==b)
 |_,_,_=>none
def eqA (cs ds:List AV):List (Nat×LK)->Option Bool
 |[]=>some true
 |(o,k)::r=>match cs[o]?,ds[o]? with
  |some a,some b=>match iL k a b,eqA cs ds r with
   |some x,some y=>some (x&&y)
   |_,_=>none
  |_,_=>none
def natOf:AV->Option Nat
 | .v (.int _ n)=>if 0<=n then some n.toNat else none
 |_=>none
def cH (ρ:Arg->AV):Option Arg->Option (Option Nat)
 |none=>some none
 |some x=>(natOf (ρ x)).map some
def bounds (ln:Nat) (lo hi:Option Nat):Option (Nat×Nat):=
 if lo.getD 0<=hi.getD ln/\hi.getD ln<=ln then some (lo.getD 0,hi.getD ln) else none
def cutL (sz:Nat) (els:List (List AV)) (l h:Nat):Option Nat->Option AV
 |none=>some (.aP sz ((els.drop l).take (h - l)))
 |some m=>if h<=m/\m<=els.length then some (if m=l then .emp else if m=h then .cA sz ((els.drop l).take (h - l)) else .aP sz ((els.drop l).take (h - l))) else none
def content (sz:Nat):AV->RM (List (List AV))
 | .aP s els=>if s=sz then .ret els else .fail
 | .cA s els=>if s=sz then .ret els else .fail
 | .emp=> .ret []
 | .own id s off n=> .rd id fun B=>if s=sz/\B.sz=sz/\off+n<=B.els.length then .ret ((B.els.drop off).take n) else .fail
 |_=> .fail
def RM.bind {α β:Type}:RM α->(α->RM β)->RM β
 | .ret a,f=>f a
 | .fail,_=> .fail
 | .rd id k,f=> .rd id fun B=>(k B).bind f
 | .lv id k,f=> .lv id (k.bind f)
def strOf:List (List AV)->Option (List UInt8)
 |[]=>some []
 |[.v (.int .u8 n)]::r=>(strOf r).map (UInt8.ofNat n.toNat:: ·)
 |_=>none
def keyEq:LK->Value->Value->Option Bool
 | .int, .int k a, .int k' b=>if k=k' then some (a==b) else none
 | .bool, .bool a, .bool b=>some (a==b)
 | .str, .string a, .string b=>some (a==b)
 |_,_,_=>none
def mfind (kd:LK) (k:Value):List (List AV)->Option (Option AV)
 |[]=>some none
 |[.v k',x]::r=>match keyEq kd k k' with
  |some true=>some (some x)
  |some false=>mfind kd k r
  |none=>none
 |_=>none
def AO.ae (fresh:Nat) (ρ:Arg->AV):AO->RM Out
 | .mov x=> .ret (.done (ρ x) [])
 | .pick c a b=>match ρ c with
  | .v (.bool t)=> .ret (.done (if t then ρ a else ρ b) [])
  |_=> .fail
 | .new zs=> .ret (.done (.ref fresh zs.length 0 0) [(fresh,some ⟨zs.length,[zs]⟩)])
 | .box n x=>if (ρ x).cells.length=n/\(ρ x).cells.all AV.one=true then .ret (.done (.ref fresh n 0 0) [(fresh,some ⟨n,[(ρ x).cells]⟩)]) else .fail
 | .agg zs parts=> .opt ((fillA ρ zs parts).map fun cs=> .done (.agg cs) [])
 | .bsl sz ln zs parts=> .opt ((fillE ρ sz (List.replicate ln zs) parts).map fun els=> .done (.own fresh sz 0 ln) [(fresh,some ⟨sz,els⟩)])
 | .load m x=>match ρ x with
  | .pim cs o=> .opt ((getCells cs o m).map fun a=> .done a [])
  | .ref id sz i o=> .rd id fun B=>if B.sz=sz then .opt ((B.els[i]?.bind fun cs=>getCells cs o m).map fun a=> .done a []) else .fail
  |_=> .fail
 | .store n x y=>match ρ x with
  | .ref id sz i o=> .rd id fun B=>
   if B.sz=sz/\(ρ y).cells.length=n/\(ρ y).cells.all AV.one=true/\o+n<=sz then
    match B.els[i]? with
    |some cs=> .ret (.done (.v undef) [(id,some ⟨sz,B.els.set i (putCells cs o (ρ y).cells)⟩)])
    |none=> .fail
   else .fail
  |_=> .fail
 | .nilc x=>match ρ x with
  | .ref id sz i o=> .lv id (.ret (.done (.ref id sz i o) []))
  | .pim cs o=> .ret (.done (.pim cs o) [])
  |_=> .fail
 | .bin bt op x y=>match ρ x,ρ y with
  | .v a, .v b=> .opt ((binA bt op a b).map fun v=> .done (.v v) [])
  |_,_=> .fail
 | .un op x=>match ρ x with
  | .v a=> .opt ((unA op a).map fun v=> .done (.v v) [])
  |_=> .fail
 | .conv k x=>match ρ x with
  | .v (.int _ n)=> .ret (.done (.v (.int k (k.wrap n))) [])
  |_=> .fail
 | .fad off x=>match ρ x with
  | .ref id sz i o=> .lv id (.ret (.done (.ref id sz i (o+off)) []))
  | .pim cs o=> .ret (.done (.pim cs (o+off)) [])
  |_=> .fail
 | .fld off m x=>match ρ x with
  | .agg cs=> .opt ((getCells cs off m).map fun a=> .done a [])
  |_=> .fail
 | .iad sz x i=>match ρ x,ρ i with
  | .aP s els, .v (.int _ n)=>if s=sz/\0<=n then .opt (els[n.toNat]?.map fun cs=> .done (.pim cs 0) []) else .fail
  | .cA s els, .v (.int _ n)=>if s=sz/\0<=n then .opt (els[n.toNat]?.map fun cs=> .done (.pim cs 0) []) else .fail
  | .own id s off ln, .v (.int _ n)=>if s=sz/\0<=n/\n<ln then .lv id (.ret (.done (.ref id sz (off+n.toNat) 0) [])) else .fail
  |_,_=> .fail
 | .ext i x=>match ρ x with
  | .aJ vs=> .opt (vs[i]?.map fun a=> .done a [])
  |_=> .fail
 | .len true x=>match ρ x with
  | .v (.string s)=> .ret (.done (.v (goInt s.size)) [])
  |_=> .fail
 | .len false x=>match ρ x with
  | .aP _ els=> .ret (.done (.v (goInt els.length)) [])
  | .cA _ els=> .ret (.done (.v (goInt els.length)) [])
  | .emp=> .ret (.done (.v (goInt 0)) [])
  | .own id _ _ n=> .lv id (.ret (.done (.v (goInt n)) []))
  |_=> .fail
 | .isn .sl neg x=>match ρ x with
  | .aP _ els=> .ret (.done (if els.isEmpty=true then .dt else .v (.bool neg)) [])
  | .cA _ els=> .ret (.done (if els.isEmpty=true then .dt else .v (.bool neg)) [])
  | .emp=> .ret (.done .dt [])
  | .own id _ _ n=> .lv id (.ret (.done (if n=0 then .dt else .v (.bool neg)) []))
  |_=> .fail
 | .isn .fn neg x=>match ρ x with
  | .fn _ _=> .ret (.done (.v (.bool neg)) [])
  | .bf _ _=> .ret (.done (.v (.bool neg)) [])
  | .v .nilFunc=> .ret (.done (.v (.bool !neg)) [])
  |_=> .fail
 | .isn .pt neg x=>match ρ x with
  | .ref id _ _ _=> .lv id (.ret (.done (.v (.bool neg)) []))
  | .pim _ _=> .ret (.done (.v (.bool neg)) [])
  | .v (.pointer none)=> .ret (.done (.v (.bool !neg)) [])
  |_=> .fail
 | .mnx mx x y=>match ρ x,ρ y with
  | .v a, .v b=> .opt ((nE mx a b).map fun v=> .done (.v v) [])
  |_,_=> .fail
 | .eqs neg n L x y=>match ρ x,ρ y with
  | .agg cs, .agg ds=>if cs.length=n/\ds.length=n then .opt ((eqA cs ds L).map fun b=> .done (.v (.bool (if neg then !b else b))) []) else .fail
  |_,_=> .fail
 | .msl sz bytes zs l c=>match natOf (ρ l),natOf (ρ c) with
  |some l,some c=>if l<=c/\c*bytes<=140737488355328 then .ret (.done (.own fresh sz 0 l) [(fresh,some ⟨sz,List.replicate l zs⟩)]) else .fail
  |_,_=> .fail
 | .slc sz x lo hi mx=>match cH ρ lo,cH ρ hi,cH ρ mx with
  |some lo,some hi,some mx=>match ρ x with
   | .aP s els=>if s=sz then .opt ((bounds els.length lo hi).bind fun b=>(cutL sz els b.1 b.2 mx).map fun a=> .done a []) else .fail
   | .cA s els=>if s=sz then .opt ((bounds els.length lo hi).bind fun b=>(cutL sz els b.1 b.2 mx).map fun a=> .done a []) else .fail
   | .emp=> .opt ((bounds 0 lo hi).bind fun _=>if mx.getD 0=0 then some (.done .emp []) else none)
   | .own id s off n=> .lv id (match mx with
    |none=>if s=sz then (match bounds n lo hi,hi with
     |some b,_=> .ret (.done (.own id sz (off+b.1) (b.2 - b.1)) [])
     |none,some h=> .rd id fun B=>if B.sz=sz then .opt ((bounds (B.els.length - off) lo (some h)).map fun b=> .done (.own id sz (off+b.1) (b.2 - b.1)) []) else .fail
     |none,none=> .fail) else .fail
    |some m=> .rd id fun B=>if s=sz/\B.sz=sz/\B.els.length<=off+m then .opt ((bounds n lo hi).bind fun b=>if b.2<=m/\m<=n then some (.done (if m=b.1 then .emp else .own id sz (off+b.1) (b.2 - b.1)) []) else none) else .fail)
   |_=> .fail
  |_,_,_=> .fail
 | .sls x lo hi=>match cH ρ lo,cH ρ hi,ρ x with
  |some lo,some hi, .v (.string s)=> .opt ((bounds s.size lo hi).map fun b=> .done (.v (.string (s.extract b.1 b.2))) [])
  |_,_,_=> .fail
 | .six x i=>match ρ x,natOf (ρ i) with
  | .v (.string s),some i=> .opt (s[i]?.map fun b=> .done (.v (.int .u8 b.toNat)) [])
  |_,_=> .fail
 | .app sz bytes s x=>(content sz (ρ x)).bind fun ys=>match ρ s with
  | .emp=>if ys.length*bytes<=140737488355328 then .ret (.done (.own fresh sz 0 ys.length) [(fresh,some ⟨sz,ys⟩)]) else .fail
  | .cA k els=>if k=sz/\ys.isEmpty=false/\(els.length+ys.length)*bytes<=140737488355328 then .ret (.done (.own fresh sz 0 (els.length+ys.length)) [(fresh,some ⟨sz,els++ys⟩)]) else .fail
  | .own id k off n=> .rd id fun B=>if k=sz/\B.sz=sz/\off=0/\n=B.els.length/\(n+ys.length)*bytes<=140737488355328 then .ret (.done (.own fresh sz 0 (n+ys.length)) [(id,none),(fresh,some ⟨sz,B.els++ys⟩)])
   else if k=sz/\B.sz=sz/\off+n+ys.length<=B.els.length then .ret (.done (.own id sz off (n+ys.length)) [(id,some ⟨B.sz,B.els.take (off+n)++ys++B.els.drop (off+n+ys.length)⟩),(fresh,none)]) else .fail
  |_=> .fail
 | .clr zs x=>match ρ x with
  | .emp=> .ret (.done (.v undef) [])
  | .own id s off n=> .rd id fun B=>if s=zs.length/\B.sz=zs.length/\off+n<=B.els.length then .ret (.done (.v undef) [(id,some ⟨B.sz,B.els.take off++List.replicate n zs++B.els.drop (off+n)⟩)]) else .fail
  |_=> .fail
 | .cpy sz x y=>(content sz (ρ y)).bind fun ys=>match ρ x with
  | .own id s off n=> .rd id fun B=>if s=sz/\B.sz=sz/\off+n<=B.els.length then .ret (.done (.v (goInt (min ys.length n:Nat))) [(id,some ⟨B.sz,B.els.take off++ys.take n++B.els.drop (off+min ys.length n)⟩)]) else .fail
  |_=> .fail
 | .b2s x=>(content 1 (ρ x)).bind fun ys=> .opt ((strOf ys).map fun l=> .done (.v (.string ⟨l.toArray⟩)) [])
 | .s2b x=>match ρ x with
  | .v (.string s)=>if s.size<=140737488355328 then .ret (.done (.own fresh 1 0 s.size) [(fresh,some ⟨1,s.data.toList.map fun b=>[.v (.int .u8 b.toNat)]⟩)]) else .fail
  |_=> .fail
 | .bad=> .fail
 | .mkm=> .ret (.done (.mp fresh) [(fresh,some ⟨0,[]⟩)])
 | .mup kd x k y=>match ρ x,ρ k with
  | .mp id, .v k=> .rd id fun B=>if B.sz=0/\plainV k=true then (match mfind kd k B.els with
   |some none=> .ret (.done (.v undef) [(id,some ⟨0,B.els++[[.v k,ρ y]]⟩)])
   |_=> .fail) else .fail
  |_,_=> .fail
 | .mlk kd z x k=>match ρ x,ρ k with
  | .mp id, .v k=> .rd id fun B=>if B.sz=0 then .opt ((mfind kd k B.els).map fun r=> .done (r.getD z) []) else .fail
  |_,_=> .fail
 | .mkf f caps=> .ret (.done (.fn f (caps.map ρ)) [])
 | .mkb f first=> .ret (.done (.bf f (first.map ρ)) [])
 | .ixa sz ln m x i=>match ρ x,ρ i with
  | .agg cs, .v (.int _ n)=>if 0<=n/\n<ln then .opt ((getCells cs (n.toNat*sz) m).map fun a=> .done a []) else .fail
  |_,_=> .fail
 | .iap sz ln x i=>match ρ x,ρ i with
  | .ref id s e o, .v (.int _ n)=>if 0<=n/\n<ln then .lv id (.ret (.done (.ref id s e (o+n.toNat*sz)) [])) else .fail
  | .pim cs o, .v (.int _ n)=>if 0<=n/\n<ln then .ret (.done (.pim cs (o+n.toNat*sz)) []) else .fail
  |_,_=> .fail
 | .call x args=>match ρ x with
  | .fn f caps=> .ret (.call f (args.map ρ++caps))
  | .bf f first=> .ret (.call f (first++args.map ρ))
  |_=> .fail
def nF:Value->Option AV
 | .slice none 0 0=>some .emp
 |v=>if plainV v=true then some (.v v) else none
def ofConstL:List Value->Option (List AV)
 |[]=>some []
 |v::r=>match nF v,ofConstL r with
  |some a,some l=>some (a::l)
  |_,_=>none
def ofConst:Value->Option AV
 | .agg cs=>(ofConstL cs.toList).map .agg
 |v=>nF v
def cArg:Operand->Option Arg
 | .tmp t=>some (.s t)
 | .const v=>(ofConst v).map .c
 | .func f=>some (.c (.fn f []))
 | .global g=>(glArg g).map .c
def ks:List Operand->Option (List Arg)
 |[]=>some []
 |x::r=>match cArg x,ks r with
  |some a,some l=>some (a::l)
  |_,_=>none
def szOf (P:Program) (t:TypeId):Option Nat:=(P.info? t).map (·.size)
def gJ (P:Program) (t:TypeId):Option (Option Nat):=
 match P.underlying t with
 |some (.struct _)=>(szOf P t).map some
 |some (.array _ _)=>(szOf P t).map some
 |some _=>if (P.info? t).isSome then some none else none
 |none=>none
def fu (P:Program) (t:TypeId):Option (List AV):=
 match P.info? t with
 |some i=>match i.zero with
  |some z=>match ofConstL z.cells.toList with
   |some l=>if l.length=i.size/\l.all AV.one=true then some l else none
   |none=>none
  |none=>none
 |none=>none
def lf (place:Nat->Option (Nat×Nat)):List (Nat×Operand)->Option (List (Nat×Nat×Arg))
 |[]=>some []
 |(i,x)::r=>match place i,cArg x,lf place r with
  |some p,some a,some l=>some ((p.1,p.2,a)::l)
  |_,_,_=>none
def placesOf (P:Program) (fields:Array Field):Option (List (Nat×Nat)):=fields.toList.mapM (fun f=>(P.info? f.type).map fun i=>(f.offset,i.size))
def mr:List (Nat×Operand)->Option (List (Nat×Arg))
 |[]=>some []
 |(i,x)::r=>match cArg x,mr r with
  |some a,some l=>some ((i,a)::l)
  |_,_=>none
def BG (P:Program) (t:TypeId):Bool:=
 match P.underlying t with
 |some (.int _)|some .string|some .bool=>true
 |_=>false
def boolT (P:Program) (t:TypeId):Bool:=
 match P.underlying t with
 |some .bool=>true
 |_=>false
def pR (P:Program) (rec:TypeId->Nat->Option (List (Nat×LK))) (off n:Nat):List Field->Option (List (Nat×LK))
 |[]=>some []
 |f::r=>if f.name= "_" then none else match szOf P f.type with
  |some k=>if f.offset+k<=n/\f.offset<n then match rec f.type (off+f.offset),pR P rec off n r with
   |some a,some b=>some (a++b)
   |_,_=>none
   else none
  |none=>none
def iM (P:Program):Nat->TypeId->Nat->Option (List (Nat×LK))
 |0,_,_=>none
 |d+1,t,off=>match P.underlying t with
  |some (.int _)=>some [(off, .int)]
  |some .string=>some [(off, .str)]
  |some .bool=>some [(off, .bool)]
  |some (.struct fs)=>if P.stoodInHeld t then none else match szOf P t with
   |some n=>pR P (iM P d) off n fs.toList
   |none=>none
  |_=>none
def negOf:BinOp->Option Bool
 | .eql=>some false
 | .neq=>some true
 |_=>none
def sE (P:Program) (t:TypeId) (op:BinOp) (y:Operand):Option (NK×Bool):=
 match P.underlying t,y with
 |some (.slice _), .const (.slice none 0 0)=>(negOf op).map fun n=>(.sl,n)
 |some (.func _ _ _), .const .nilFunc=>(negOf op).map fun n=>(.fn,n)
 |some (.pointer _), .const (.pointer none)=>(negOf op).map fun n=>(.pt,n)
 |_,_=>none
def ku:TypeDesc->Option LK
 | .int _=>some .int
 | .string=>some .str
 | .bool=>some .bool
 |_=>none
def keyT (P:Program) (t:TypeId):Option LK:=(P.underlying t).bind ku
def zeroOf (P:Program) (t:TypeId):Option AV:=
 match P.info? t with
 |some i=>match i.zero with
  |some z=>nF z
  |none=>none
 |none=>none
def eC:Option Operand->Option (Option Arg)
 |none=>some none
 |some x=>(cArg x).map some
def bA (P:Program) (o:Oper):Option AO:=
 match o.op with
 | .move x| .assign x=>(cArg x).map .mov
 | .pick c a b=>match cArg c,cArg a,cArg b with
  |some c,some a,some b=>some (.pick c a b)
  |_,_,_=>none
 | .alloc t=>match fu P t with
  |some zs=>if 0<zs.length then some (.new zs) else none
  |none=>none
 | .box t x=>match szOf P t,cArg x with
  |some n,some x=>if 0<n then some (.box n x) else none
  |_,_=>none
 | .build t parts=>match fu P t,P.underlying t with
  |some zs,some (.struct fields)=>match placesOf P fields with
   |some places=>(lf (places.toArray[·]?) parts.toList).map (.agg zs)
   |none=>none
  |some zs,some (.array _ e)=>match szOf P e with
   |some sz=>(lf (fun i=>some (i*sz,sz)) parts.toList).map (.agg zs)
   |none=>none
  |_,_=>none
 | .buildSlice t len parts=>match P.underlying t with
  |some (.slice e)=>match fu P e with
   |some zs=>if len*zs.length<=16777216/\0<zs.length then (mr parts.toList).map (.bsl zs.length len zs) else none
   |none=>none
  |_=>none
 | .load t x=>match gJ P t,cArg x with
  |some m,some x=>some (.load m x)
  |_,_=>none
 | .store t x y=>match szOf P t,cArg x,cArg y with
  |some n,some x,some y=>some (.store n x y)
  |_,_,_=>none
 | .nilCheck x=>(cArg x).map .nilc
 | .binOp op t x y _=>match sE P t op y with
  |some q=>(cArg x).map (.isn q.1 q.2)
  |none=>match cArg x,cArg y with
  |some x,some y=>if BG P t then some (.bin (boolT P t) op x y) else
   if P.eqGuardType P.depth t then none else match P.underlying t,iM P 8 t 0,szOf P t,op with
   |some (.struct _),some L,some n, .eql=>some (.eqs false n L x y)
   |some (.struct _),some L,some n, .neq=>some (.eqs true n L x y)
   |_,_,_,_=>none
  |_,_=>none
 | .unOp op _ x=>(cArg x).map (.un op)
 | .convert s d x=>match P.underlying s,P.underlying d,cArg x with
  |some (.int _),some (.int k),some x=>some (.conv k x)
  |some (.slice e),some .string,some x=>(match P.underlying e with
   |some (.int .u8)=>some (.b2s x)
   |_=>none)
  |some .string,some (.slice e),some x=>(match P.underlying e with
   |some (.int .u8)=>some (.s2b x)
   |_=>none)
  |_,_,_=>none
 | .fieldAddr s x f=>match P.underlying s,cArg x with
  |some (.struct fields),some x=>match fields[f]? with
   |some f=>if szOf P f.type=some 0\/szOf P f.type=none then none else some (.fad f.offset x)
   |none=>none
  |_,_=>none
 | .field s x f=>match P.underlying s,cArg x with
  |some (.struct fields),some x=>match fields[f]? with
   |some f=>(gJ P f.type).map fun m=> .fld f.offset m x
   |none=>none
  |_,_=>none
 | .indexAddr t x i=>match P.underlying t,cArg x,cArg i with
  |some (.slice e),some x,some i=>match szOf P e with
   |some sz=>if 0<sz then some (.iad sz x i) else none
   |none=>none
  |some (.array len e),some x,some i=>match szOf P e with
   |some sz=>if 0<sz then some (.iap sz len x i) else none
   |none=>none
  |_,_,_=>none
 | .panic _| .makeInterface _ _=>some .bad
 | .makeMap t r=>match P.underlying t,r with
  |some (.map _ _),none=>some .mkm
  |some (.map _ _),some (.const (.int _ _))=>some .mkm
  |_,_=>none
 | .mapUpdate t x k y| .insert t x k y=>match P.underlying t,cArg x,cArg k,cArg y with
  |some (.map kt _),some x,some k,some y=>(keyT P kt).map fun kd=> .mup kd x k y
  |_,_,_,_=>none
 | .lookup t x k ok=>match P.underlying t,cArg x,cArg k with
  |some (.map kt et),some x,some k=>if ok=false then (match zeroOf P et,keyT P kt with
   |some z,some kd=>some (.mlk kd z x k)
   |_,_=>none) else none
  |_,_,_=>none
 | .extract x i=>(cArg x).map (.ext i)
 | .makeSlice t l c=>match P.underlying t,cArg l,cArg c with
  |some (.slice e),some l,some c=>match fu P e,P.info? e with
   |some zs,some i=>if 0<zs.length/\0<i.bytes then some (.msl zs.length i.bytes zs l c) else none
   |_,_=>none
  |_,_,_=>none
 | .slice t x lo hi mx=>match P.underlying t,cArg x,eC lo,eC hi,eC mx with
  |some (.slice e),some x,some lo,some hi,some mx=>match szOf P e with
   |some sz=>if 0<sz/\(mx.isSome=true->hi.isSome=true) then some (.slc sz x lo hi mx) else none
   |none=>none
  |some .string,some x,some lo,some hi,some none=>some (.sls x lo hi)
  |_,_,_,_,_=>none
 | .index t x i=>match P.underlying t,cArg x,cArg i with
  |some .string,some x,some i=>some (.six x i)
  |some (.array len e),some x,some i=>match szOf P e,gJ P e with
   |some sz,some m=>some (.ixa sz len m x i)
   |_,_=>none
  |_,_,_=>none
 | .makeFunc (.func f) first caps=>if first.isEmpty then (ks caps.toList).map (.mkf f) else if caps.isEmpty then (ks first.toList).map (.mkb f) else none
 | .call c=>match c.callee with
  | .value x=>match cArg x,ks c.args.toList with
   |some x,some l=>some (.call x l)
   |_,_=>none
  | .builtin .len=>match c.args.toList,c.argTypes[0]? with
   |[x],some t=>match P.underlying t with
    |some (.slice _)=>(cArg x).map (.len false)
    |some .string=>(cArg x).map (.len true)
    |_=>none
   |_,_=>none
  | .builtin .append=>match c.args.toList,c.argTypes.toList with
   |[s,x],[t,u]=>if t=u then match P.underlying t,cArg s,cArg x with
    |some (.slice e),some s,some x=>match fu P e,P.info? e with
     |some zs,some i=>if 0<zs.length/\0<i.bytes then some (.app zs.length i.bytes s x) else none
     |_,_=>none
    |_,_,_=>none
    else none
   |_,_=>none
  | .builtin .clear=>match c.args.toList,c.argTypes[0]? with
   |[x],some t=>match P.underlying t,cArg x with
    |some (.slice e),some x=>match fu P e with
     |some zs=>if 0<zs.length then some (.clr zs x) else none
     |none=>none
    |_,_=>none
   |_,_=>none
  | .builtin .copy=>match c.args.toList,c.argTypes[0]? with
   |[x,y],some t=>match P.underlying t,cArg x,cArg y with
    |some (.slice e),some x,some y=>match szOf P e with
     |some sz=>if 0<sz then some (.cpy sz x y) else none
     |none=>none
    |_,_,_=>none
   |_,_=>none
  | .builtin .min=>match c.args.toList with
   |[x,y]=>match cArg x,cArg y with
    |some x,some y=>some (.mnx false x y)
    |_,_=>none
   |_=>none
  | .builtin .max=>match c.args.toList with
   |[x,y]=>match cArg x,cArg y with
    |some x,some y=>some (.mnx true x y)
    |_,_=>none
   |_=>none
  |_=>none
 |_=>none
open Go.RowKit
def bB (E:Env) (J:Nat->Prop) (base:Nat) (g:Nat->Option Bk) (r:Result Next) (val:AV) (ups:List (Nat×Option Bk)):Prop:=
 ∃(n:Next) (v:Value) (E':Env),r= .ok n E'.w/\(n= .value v\/(n= .skip/\v=undef))/\E.Le E'/\af E' v val/\aD E' J base (au g ups)/\Below base E.w E'.w/\∀id,E'.kn id->E.kn id\/id∈ups.map Prod.fst
theorem bj (hm:aD E J base g) (hr:r= .ok (.value v) E.w) (h:af E v val):bB E J base g r val []:=
 ⟨.value v,v,E,hr, .inl rfl,Env.Le.refl E,h,hm,LN _ _,fun _ h=> .inl h⟩
theorem BH {k:Nat} (h:q<n):(decide ((gI n k).1<=q)&&decide (q<(gI n k).2))=false:=by
 cases k with
 |zero=>simp [gI]
 |succ k=>
  have:decide ((gI n (k+1)).1<=q)=false:=decide_eq_false (by show ¬n<=q;omega)
  rw [this];rfl
theorem pS (P:Program) (g o:Nat) (t:TypeId) (k:Nat):∀(vs:List Value) (i:Nat) (cur:Array Value) (w:World),w.heap[g]? =some (.cells cur t (gI cur.size k))->o+i+vs.length<=cur.size->(∀v∈vs,v.oneCell'=true)->
  (storeCells ⟨g,o,none⟩ vs i).run P w= .ok () (w.setRow g (cur.toList.take (o+i)++vs++cur.toList.drop (o+i+vs.length)).toArray)
 |[],i,cur,w,hg,_,_=>by
  simp only [storeCells,List.append_nil,List.length_nil,L1,List.take_append_drop,Array.toArray_toList]
  rw [setRow_self w g cur t _ hg]
  rfl
 |v::rest,i,cur,w,hg,hl,h1=>by
  have hi:o+i<cur.size:=by simp at hl;omega
  have BI:(⟨g,o,none⟩:Addr).add i=⟨g,o+i,none⟩:=by unfold Addr.add;split<;>simp_all
  have hU:w.cell? ⟨g,o+i,none⟩=some cur[o+i]:=by simp [World.cell?,hg,hi]
  have BJ:w.frozen? ⟨g,o+i,none⟩=false:=by
   simp only [World.frozen?,hg]
   exact BH hi
  have dO:(store ((⟨g,o,none⟩:Addr).add i) v).run P w= .ok () (w.setRow g (cur.setIfInBounds (o+i) v)):=by
   rw [BI,run_store P w _ v _ (h1 v (by simp)),hU]
   simp [BJ,setCell_eq_setRow w g (o+i) cur t _ v hg]
  have ih:=pS P g o t k rest (i+1) (cur.setIfInBounds (o+i) v) (w.setRow g (cur.setIfInBounds (o+i) v)) (by rw [Array.size_setIfInBounds];exact setRow_heap w g cur _ t _ hg) (by simp at hl ⊢; omega) (fun x hx=>h1 x (by simp [hx]))
  simp only [storeCells,LO,dO,MA,ih,setRow_setRow]
  congr 3
  have e:=list_seg_step cur.toList (o+i) v rest (by simp at hl ⊢; omega)
  simpa [Array.toList_setIfInBounds,Nat.add_assoc] using e
theorem af.one {E:Env} {v:Value} {a:AV} (h:af E v a) (ho:a.one=true):v.oneCell'=true:=by
 cases h<;>first|rfl|(simp [AV.one] at ho;done)|exact ho|assumption
theorem af.cells {E:Env} {v:Value} {a:AV} (h:af E v a) (ho:a.cells.all AV.one=true):
  v.cells.size=a.cells.length/\(∀(j:Nat) u c,v.cells[j]? =some u->a.cells[j]? =some c->af E u c)/\(∀u,u∈v.cells.toList->u.oneCell'=true):=by
 have single:∀(v:Value) (a:AV),af E v a->a.cells=[a]->a.one=true->v.cells.size=a.cells.length/\(∀(j:Nat) u c,v.cells[j]? =some u->a.cells[j]? =some c->af E u c)/\(∀u,u∈v.cells.toList->u.oneCell'=true):=by
  intro v a h hc ho
  have h1:=h.one ho
  have hv:v.cells= #[v]:=by cases v<;>first|rfl|(simp [Value.oneCell'] at h1)
  rw [hc,hv]
  refine ⟨rfl,fun j u c hu fQ=> ?_,fun u hu=> ?_⟩
  ·cases j with
   |zero=>simp at hu fQ;subst hu;subst fQ;exact h
   |succ j=>simp at fQ
  ·simp at hu;subst hu;exact h1
 cases h with
 | @agg vs cs hl h=>
  refine ⟨hl,fun j u c hu hc=>h j u c hu hc,fun u hu=> ?_⟩
  simp only [Value.cells] at hu
  obtain ⟨j,hj,rfl⟩:=MK hu
  have hY:j<vs.size:=by simpa using hj
  have wR:j<cs.length:=by omega
  have:=h j vs[j] cs[j] (Lg hY) (Lj wR)
  have gu:(cs[j]).one=true:=by
   simp only [AV.cells,K6] at ho
   exact ho _ (List.getElem_mem wR)
  simpa using this.one gu
 |_=>exact single _ _ (by constructor<;>assumption) rfl (by simpa [AV.cells] using ho)
theorem cx.cell {E:Env} {base b:Nat} {B:Bk} (h:cx E base B (some b)) {i:Nat} {cs:List AV} (hi:B.els[i]? =some cs) {j:Nat} {x:AV} (hj:cs[j]? =some x) (hz:B.sz≠0:=by first|assumption|omega):
  ∃u,E.w.cell? ⟨b,i*B.sz+j,none⟩=some u/\u.oneCell'=true/\af E u x:=by
 obtain ⟨_,arr,t,h2,_,h4⟩:=h.cells hz
 obtain ⟨u,k1,k2,k3⟩:=(h4 i cs hi).2 j x hj
 exact ⟨u,by rw [cell_of_row _ _ _ _ _ _ h2];exact k1,k2,k3⟩
theorem sF (h:nF v=some a):af E v a:=by
 unfold nF at h
 split at h
 ·simp only [KZ] at h;subst h;exact .emp
 ·split at h
  ·rename_i hp;simp only [KZ] at h;subst h;exact .v hp
  ·simp at h
theorem pT {E:Env}:∀{vs:List Value} {cs:List AV},ofConstL vs=some cs->vs.length=cs.length/\∀(i:Nat) v c,vs[i]? =some v->cs[i]? =some c->af E v c
 |[],cs,h=>by simp only [ofConstL,KZ] at h;subst h;exact ⟨rfl,fun i v c hv=>by simp at hv⟩
 |v::r,cs,h=>by
  simp only [ofConstL] at h
  split at h
  ·rename_i a l h1 h2
   simp only [KZ] at h;subst h
   have ih:=pT (E:=E) h2
   refine ⟨by simp [ih.1],fun i u c hu hc=> ?_⟩
   cases i with
   |zero=>simp at hu hc;subst hu;subst hc;exact sF h1
   |succ i=>simp at hu hc;exact ih.2 i u c hu hc
  ·simp at h
theorem BK (h:ofConst v=some a):af E v a:=by
 unfold ofConst at h
 split at h
 ·rename_i cs
  cases hl:ofConstL cs.toList with
  |none=>simp [hl] at h
  |some l=>
   simp only [hl,Ld,KZ] at h
   subst h
   have:=pT (E:=E) hl
   exact .agg (by simpa using this.1) (fun i v c hv hc=>this.2 i v c (by simpa using hv) hc)
 ·exact sF h
theorem BL (f:FuncId):af E (.func (.func f) #[] #[]) (.fn f []):= .fn rfl (fun i v c hv=>by simp at hv)
def dC (E:Env) (aA:Operand->Value) (ρ:Arg->AV):Prop:=∀x ax,cArg x=some ax->af E (aA x) (ρ ax)
theorem dC.list {E:Env} {aA:Operand->Value} {ρ:Arg->AV} (h:dC E aA ρ):∀{xs:List Operand} {as_:List Arg},ks xs=some as_->xs.length=as_.length/\∀(i:Nat) v c,(xs.map aA)[i]? =some v->(as_.map ρ)[i]? =some c->af E v c
 |[],as_,he=>by simp only [ks,KZ] at he;subst he;exact ⟨rfl,fun i v c hv=>by simp at hv⟩
 |x::r,as_,he=>by
  simp only [ks] at he
  split at he
  ·rename_i a l h1 h2
   simp only [KZ] at he;subst he
   have ih:=h.list h2
   refine ⟨by simp [ih.1],fun i u c hu hc=> ?_⟩
   cases i with
   |zero=>simp at hu hc;subst hu;subst hc;exact h _ _ h1
   |succ i=>simp only [Lf,L2] at hu hc;exact ih.2 i u c hu hc
  ·simp at he
theorem wS (h:gJ P t=some m) (w:World):
  (isAgg t).run P w= .ok m.isSome w/\∀n,m=some n->(sizeOf t).run P w= .ok n w:=by
 unfold gJ at h
 have key:∀n,szOf P t=some n->(sizeOf t).run P w= .ok n w:=by
  intro n hn
  unfold szOf at hn
  cases hi:P.info? t with
  |none=>simp [hi] at hn
  |some i=>simp [hi] at hn;subst hn;simp [sizeOf,typeInfo,hi]
 split at h
 ·rename_i fs hu
  cases hz:szOf P t with
  |none=>simp [hz] at h
  |some n=>
   simp [hz] at h;subst h
   exact ⟨by simp [isAgg,run_underlying hu],fun k hk=>by simp at hk;subst hk;exact key _ hz⟩
 ·rename_i k e hu
  cases hz:szOf P t with
  |none=>simp [hz] at h
  |some n=>
   simp [hz] at h;subst h
   exact ⟨by simp [isAgg,run_underlying hu],fun k hk=>by simp at hk;subst hk;exact key _ hz⟩
 ·rename_i d wT nG hu
  split at h
  ·simp only [KZ] at h;subst h
   refine ⟨?_,fun k hk=>by simp at hk⟩
   cases hd:P.underlying t with
   |none=>simp_all
   |some d'=>
    have:d'=d:=by simp_all
    subst this
    cases d'<;>simp_all [isAgg,run_underlying hd]
  ·simp at h
 ·simp at h
theorem kx (h:szOf P t=some n) (w:World):(sizeOf t).run P w= .ok n w:=by
 unfold szOf at h
 cases hi:P.info? t with
 |none=>simp [hi] at h
 |some i=>simp [hi] at h;subst h;simp [sizeOf,typeInfo,hi]
theorem pU (ht:gJ P t=some m) (hq:q=off+o) (u:Nat->Value)
  (hu:∀(j:Nat) x,cs[j]? =some x->E.w.cell? ⟨b,off+j,none⟩=some (u j)) (hr:∀(j:Nat) x,cs[j]? =some x->af E (u j) x) (ha:getCells cs o m=some a):
  ∃v,(loadVar t ⟨b,q,none⟩).run P E.w= .ok v E.w/\af E v a:=by
 obtain ⟨h1,h2⟩:=wS ht E.w
 cases m with
 |none=>
  simp only [getCells] at ha
  have hc:=hu o a ha
  refine ⟨u o, ?_,hr o a ha⟩
  subst hq
  simp [loadVar,h1,hc]
 |some n=>
  simp only [getCells] at ha
  split at ha
  ·rename_i hle
   simp only [KZ] at ha;subst ha;subst hq
   have hl:=run_loadCells (P:=P) E.w ⟨b,off+o,none⟩ n (fun j=>u (o+j)) (fun j hj=>by
    rw [Md,Nat.add_assoc]
    exact hu (o+j) cs[o+j] (Lj (by omega)))
   refine ⟨.agg ((List.range n).map fun j=>u (o+j)).toArray,by simp [loadVar,h1,h2 n rfl,hl], .agg (by simp;omega) (fun i v c hv hc=> ?_)⟩
   have hi:i<n:=by
    have:=(LQ.1 hv).1
    simpa using this
   have hv':v=u (o+i):=by
    simp [hi] at hv;exact hv.symm
   have du:cs[o+i]? =some c:=by
    rw [Me] at hc
    simp [hi,Mf] at hc
    exact hc
   subst hv'
   exact hr _ _ du
  ·simp at ha
section
variable {P:Program} {E:Env} {J:Nat->Prop} {base:Nat} {g:Nat->Option Bk} {aA:Operand->Value} {ρ:Arg->AV} {fresh:Nat}
theorem lg {zs:List AV} (h:fu P t=some zs):∃i z,P.info? t=some i/\i.zero=some z/\i.size=zs.length/\z.cells.size=zs.length/\zs.all AV.one=true/\
  ∀(E:Env) (j:Nat) u c,z.cells[j]? =some u->zs[j]? =some c->af E u c:=by
 have E0:Env:=⟨default,fun _=>False,fun _=>none,fun _=>False,fun _=>False,fun _=>0,fun _=>False,fun _=>False⟩
 unfold fu at h
 split at h
 ·rename_i i hi
  split at h
  ·rename_i z hz
   split at h
   ·rename_i l hl
    split at h
    ·rename_i hc
     simp only [KZ] at h;subst h
     have h1:=pT (E:=E0) hl
     refine ⟨i,z,hi,hz,hc.1.symm,by simpa using h1.1,hc.2,fun E j u c hu fQ=>(pT (E:=E) hl).2 j u c (by simpa using hu) fQ⟩
    ·simp at h
   ·simp at h
  ·simp at h
 ·simp at h
theorem pV (hm:aD E J base g) (hf:¬E.kn fresh) (arr:Array Value) (t:TypeId) (B:Bk)
  (hr:r= .ok (.value v) (E.w.alloc (.cells arr t)))
  (hB:∀E':Env,E.Le E'->B.els.length*B.sz<=arr.size/\∀(i:Nat) cs,B.els[i]? =some cs->cs.length=B.sz/\∀(j:Nat) x,cs[j]? =some x->∃u,arr[i*B.sz+j]? =some u/\u.oneCell'=true/\af E' u x)
  (hv:∀E':Env,E'.w=E.w.alloc (.cells arr t)->E'.kn fresh->¬E'.dead fresh->E'.loc fresh=some E.w.heap.size->E'.ln fresh=B.els.length->af E' v val) (hz:B.sz≠0:=by first|assumption|(dsimp only;omega)):bB E J base g r val [(fresh,some B)]:=by
 obtain ⟨E',hw,hE,hM,k1,k2,k3,k4,k5⟩:=hm.alloc fresh hf arr t B hB hz
 refine ⟨.value v,v,E',by rw [hw];exact hr, .inl rfl,hE,hv E' hw k1 k2 k3 k5,hM, ?_,fun id hi=> ?_⟩
 ·rw [hw]
  exact (LN _ _).alloc hm.size _
 ·rcases k4 id hi with h|h
  ·exact .inl h
  ·exact .inr (by simp [h])
theorem wU {E:Env} (hl:vs.size=cs.length) (h:∀(j:Nat) u c,vs[j]? =some u->cs[j]? =some c->af E u c) (h1:∀u,u∈vs.toList->u.oneCell'=true) (E':Env) (hE:E.Le E'):
  [cs].length*cs.length<=vs.size/\∀(i:Nat) ds,[cs][i]? =some ds->ds.length=cs.length/\∀(j:Nat) x,ds[j]? =some x->∃u,vs[i*cs.length+j]? =some u/\u.oneCell'=true/\af E' u x:=by
 refine ⟨by simp [hl],fun i ds hi=> ?_⟩
 cases i with
 |zero=>
  simp only [LB,KZ] at hi
  subst hi
  refine ⟨rfl,fun j x hj=> ?_⟩
  have hY:j<vs.size:=by rw [hl];exact (K8.1 hj).1
  refine ⟨vs[j],by simp [hY],h1 _ (by simp),(h j vs[j] x (Lg hY) hj).step hE⟩
 |succ i=>simp at hi
theorem BM (hm:aD E J base g) (hf:¬E.kn fresh) {zs:List AV} (h:fu P t=some zs) (hz0:0<zs.length):
  bB E J base g ((do pure (Next.value (<-Instr.alloc t true (.tuple #[]))):Sem Next).run P E.w) (.ref fresh zs.length 0 0) [(fresh,some ⟨zs.length,[zs]⟩)]:=by
 obtain ⟨i,z,hi,hz,hs,hcs,dD,cI⟩:=lg h
 have h1:∀u,u∈z.cells.toList->u.oneCell'=true:=fun u hu=>by
  obtain ⟨j,hj,rfl⟩:=MK hu
  have hY:j<z.cells.size:=by simpa using hj
  have:=(cI E j z.cells[j] zs[j] (Lg hY) (Lj (by omega))).one (by simp only [K6] at dD;exact dD _ (List.getElem_mem _))
  simpa using this
 refine pV hm hf z.cells t ⟨zs.length,[zs]⟩ (v:= .pointer (some ⟨E.w.heap.size,0,none⟩)) ?_ (wU hcs (cI E) h1) (fun E' _ k1 k2 k3 _=> .ref k1 k2 k3 (by simp))
 simp [Instr.alloc,zeroValue,typeInfo,hi,hz,newVar,newRow]
theorem BN (hm:aD E J base g) (hf:¬E.kn fresh) (hv:af E v a) (hn:a.cells.length=n) (ho:a.cells.all AV.one=true) (hz0:0<n):
  bB E J base g ((do pure (Next.value (<-Instr.box t v)):Sem Next).run P E.w) (.ref fresh n 0 0) [(fresh,some ⟨n,[a.cells]⟩)]:=by
 obtain ⟨h1,h2,h3⟩:=hv.cells ho
 subst hn
 refine pV hm hf v.cells t ⟨a.cells.length,[a.cells]⟩ (v:= .pointer (some ⟨E.w.heap.size,0,none⟩)) ?_ (wU h1 h2 h3) (fun E' _ k1 k2 k3 _=> .ref k1 k2 k3 (by simp))
 simp [Instr.box,newVar,newRow]
theorem BO (hm:aD E J base g) (ht:gJ P t=some m) (hv:af E v (ρ x))
  (h:((AO.load m x).ae fresh ρ).run g=some (.done val ups)):bB E J base g ((do pure (Next.value (<-Instr.loadAt t v)):Sem Next).run P E.w) val ups:=by
 simp only [AO.ae] at h
 split at h
 ·rename_i cs o hx
  rw [hx] at hv
  cases hg:getCells cs o m with
  |none=>simp [hg,RM.opt,RM.run] at h
  |some a=>
   simp [hg,RM.opt,RM.run] at h
   obtain ⟨rfl,rfl⟩:=h
   cases hv with
   |pim u hb hq hu eK hr=>
    obtain ⟨v',hl,hr'⟩:=pU (P:=P) ht hq u hu hr hg
    exact bj hm (by simp [Instr.loadAt,Instr.sureAddr,hl]) hr'
 ·rename_i id sz i o hx
  rw [hx] at hv
  simp only [RM.run] at h
  cases hgi:g id with
  |none=>simp [hgi] at h
  |some B=>
   simp only [hgi] at h
   split at h
   ·rename_i hsz
    cases hei:B.els[i]? with
    |none=>simp [hei,RM.opt,RM.run] at h
    |some cs=>
     cases hg:getCells cs o m with
     |none=>simp [hei,hg,RM.opt,RM.run] at h
     |some a=>
      simp [hei,hg,RM.opt,RM.run] at h
      obtain ⟨rfl,rfl⟩:=h
      cases hv with
      | @ref _ _ _ _ b q hi hd hb hq=>
       have bQ:=hm.at_ id B hgi
       rw [hb] at bQ
       have hU:∀(j:Nat) (x:AV),cs[j]? =some x->∃u,E.w.cell? ⟨b,i*B.sz+j,none⟩=some u/\u.oneCell'=true/\af E u x:=fun j x hj=>bQ.cell hei hj
       obtain ⟨v',hl,hr'⟩:=pU (P:=P) (E:=E) (cs:=cs) ht (b:=b) (off:=i*sz) hq (fun j=>(E.w.cell? ⟨b,i*sz+j,none⟩).getD undef)
        (fun j x hj=>by obtain ⟨u,k1,_,_⟩:=hU j x hj;rw [hsz] at k1;simp [k1])
        (fun j x hj=>by obtain ⟨u,k1,_,k3⟩:=hU j x hj;rw [hsz] at k1;simpa [k1] using k3) hg
       exact bj hm (by simp [Instr.loadAt,Instr.sureAddr,hl]) hr'
      |ef hi hd=>exact absurd hd ((hm.live id).2 ⟨B,hgi⟩).2
   ·simp [RM.run] at h
 ·simp [RM.run] at h
theorem wV {ys:List AV} (h:o+ys.length<=cs.length) (j:Nat):(putCells cs o ys)[j]? =if j<o then cs[j]? else if j<o+ys.length then ys[j - o]? else cs[j]? :=by
 unfold putCells
 rw [Ml,MB,Mm,Nat.min_eq_left (by omega)]
 by_cases h1:j<o
 ·simp [h1]
 ·rw [K0 h1,K0 h1,MB]
  by_cases h2:j<o+ys.length
  ·rw [K1 (by omega),K1 h2]
  ·rw [K0 (by omega),K0 h2,Mf]
   congr 1;omega
theorem wW {ys:List AV} (h:o+ys.length<=cs.length):(putCells cs o ys).length=cs.length:=by
 unfold putCells;simp;omega
theorem BP (hm:aD E J base g) (ht:szOf P t=some n) (hv:af E v (ρ x)) (hvy:af E vy (ρ y))
  (h:((AO.store n x y).ae fresh ρ).run g=some (.done val ups)):bB E J base g ((do (Instr.storeAt t v vy);pure Next.skip:Sem Next).run P E.w) val ups:=by
 simp only [AO.ae] at h
 split at h
 ·rename_i id sz i o hx
  rw [hx] at hv
  simp only [RM.run] at h
  cases hgi:g id with
  |none=>simp [hgi] at h
  |some B=>
   simp only [hgi] at h
   split at h
   ·rename_i hc
    obtain ⟨hsz,hn,dD,ho⟩:=hc
    cases hei:B.els[i]? with
    |none=>simp [hei,RM.run] at h
    |some cs=>
     simp only [hei,RM.run,KZ,Out.done.injEq] at h
     obtain ⟨rfl,rfl⟩:=h
     obtain ⟨c1,c2,c3⟩:=hvy.cells dD
     cases hv with
     |ef hi hd=>exact absurd hd ((hm.live id).2 ⟨B,hgi⟩).2
     | @ref _ _ _ _ b q hi hd hb hq=>
      have bQ:=hm.at_ id B hgi
      rw [hb] at bQ
      obtain ⟨js,arr,t',ha,hlen,dv⟩:=bQ.cells (by omega)
      have hcs:=(dv i cs hei).1
      subst hsz
      have aH:i<B.els.length:=(K8.1 hei).1
      have hfit:i*B.sz+B.sz<=arr.size:=by
       have:(i+1)*B.sz<=B.els.length*B.sz:=Lv _ (by omega)
       rw [Lt] at this;omega
      have dO:=pS P b q t'.1 t'.2 vy.cells.toList 0 arr E.w ha (by simp;omega) c3
      simp only [L1,Array.length_toList] at dO
      obtain ⟨E',hw,hE,hM,ba⟩:=hm.set id b B ⟨B.sz,B.els.set i (putCells cs o (ρ y).cells)⟩ hgi hb arr
       (arr.toList.take q++vy.cells.toList++arr.toList.drop (q+vy.cells.size)).toArray t' ha
       (by simp;omega) (by simp) (fun E' hE=>by
        refine ⟨by simpa using hlen,fun i' ds eL=> ?_⟩
        dsimp only at eL ⊢
        simp only [List.getElem?_set] at eL
        have hZ:∀k,(arr.toList.take q++vy.cells.toList++arr.toList.drop (q+vy.cells.size)).toArray[k]? =if k<q then arr[k]? else if k<q+vy.cells.size then vy.cells[k - q]? else arr[k]? :=by
         intro k
         simp only [List.getElem?_toArray,Ml]
         rw [MB,Mm,Nat.min_eq_left (by simp;omega)]
         by_cases h1:k<q
         ·simp [h1]
         ·rw [K0 h1,K0 h1,MB]
          by_cases h2:k<q+vy.cells.size
          ·rw [K1 (by simp;omega),K1 h2];simp
          ·rw [K0 (by simp;omega),K0 h2,Mf]
           simp;congr 1;omega
        by_cases nH:i=i'
        ·subst nH
         simp only [K3,aH,KZ] at eL
         subst eL
         refine ⟨by rw [wW (by omega)];exact hcs,fun j x hj=> ?_⟩
         rw [wV (by omega)] at hj
         have aX:j<B.sz:=by
          by_cases h1:j<o
          ·omega
          ·rw [K0 h1] at hj
           by_cases h2:j<o+(ρ y).cells.length
           ·omega
           ·rw [K0 h2] at hj
            have:=(K8.1 hj).1;omega
         rw [hZ]
         by_cases h1:j<o
         ·rw [K1 h1] at hj
          rw [K1 (by omega)]
          obtain ⟨u,k1,k2,k3⟩:=(dv i cs hei).2 j x hj
          exact ⟨u,k1,k2,k3.step hE⟩
         ·rw [K0 h1] at hj
          by_cases h2:j<o+(ρ y).cells.length
          ·rw [K1 h2] at hj
           have hk:j - o<vy.cells.size:=by omega
           rw [K0 (by omega),K1 (by omega)]
           refine ⟨vy.cells[j - o], ?_,c3 _ (by simp),(c2 (j - o) _ x (Lg hk) hj).step hE⟩
           rw [show i*B.sz+j - q=j - o by omega]
           exact Lg hk
          ·rw [K0 h2] at hj
           rw [K0 (by omega),K0 (by omega)]
           obtain ⟨u,k1,k2,k3⟩:=(dv i cs hei).2 j x hj
           exact ⟨u,k1,k2,k3.step hE⟩
        ·simp only [nH,Lx] at eL
         refine ⟨(dv i' ds eL).1,fun j x hj=> ?_⟩
         obtain ⟨u,k1,k2,k3⟩:=(dv i' ds eL).2 j x hj
         have aX:j<B.sz:=by
          have:=(K8.1 hj).1
          rw [(dv i' ds eL).1] at this;exact this
         rw [hZ]
         have BQ:i'*B.sz+j<q\/q+vy.cells.size<=i'*B.sz+j:=by
          rcases LM i' i with h1|h1
          ·left
           have:(i'+1)*B.sz<=i*B.sz:=Lv _ (by omega)
           rw [Lt] at this;omega
          ·right
           have:(i+1)*B.sz<=i'*B.sz:=Lv _ (by omega)
           rw [Lt] at this;omega
         refine ⟨u, ?_,k2,k3.step hE⟩
         rcases BQ with h1|h1
         ·rw [K1 h1];exact k1
         ·rw [K0 (by omega),K0 (by omega)];exact k1)
      have BR:=kx ht E.w
      refine ⟨.skip,undef,E', ?_, .inr ⟨rfl,rfl⟩,hE, .v rfl,hM, ?_,fun ct h'=> .inl (ba ct h')⟩
      ·rw [hw]
       simp [Instr.storeAt,Instr.sureAddr,storeVar,BR,c1,hn,dO]
      ·rw [hw]
       refine ⟨rfl,rfl,rfl,by simp [World.setRow],fun k hk=>setRow_other _ _ _ _ (by omega)⟩
   ·simp [RM.run] at h
 ·simp [RM.run] at h
end
open Go.RowKit
section
variable {P:Program} {E:Env} {J:Nat->Prop} {base:Nat} {g:Nat->Option Bk} {aA:Operand->Value} {ρ:Arg->AV} {fresh:Nat}
theorem BS (op:BinOp) (t:TypeId) (x y:Operand) (k k':IntKind) (a b:Int) (w:World):(eqGuard op t x y (.int k a) (.int k' b)).run P w= .ok () w:=by
 cases op<;>simp [eqGuard]
theorem BT (op:BinOp) (t:TypeId) (x y:Operand) (a b:ByteArray) (w:World):(eqGuard op t x y (.string a) (.string b)).run P w= .ok () w:=by
 cases op<;>simp [eqGuard]
theorem BU (op:BinOp) (t:TypeId) (x y:Operand) (a b:Bool) (w:World):(eqGuard op t x y (.bool a) (.bool b)).run P w= .ok () w:=by
 cases op<;>simp [eqGuard]
theorem wX (a b:ByteArray):gr a b=(a.toList==b.toList):=by
 rw [ByteArray.toList_eq,ByteArray.toList_eq];rfl
theorem BV {op:BinOp} {x y:Operand} {a b:Value} (h:binA (boolT P t) op a b=some v) (w:World):
  (do eqGuard op t x y a b;binOp op t a b:Sem Value).run P w= .ok v w/\plainV v=true:=by
 unfold binA at h
 split at h
 ·rename_i k a k' b
  have jt:=BS (P:=P) op t x y k k' a b w
  split at h
  ·split at h
   ·simp at h
   ·rename_i h1
    simp only [KZ] at h;subst h
    refine ⟨?_,rfl⟩
    simp [jt,binOp,Op.shift,h1]
  ·split at h
   ·simp at h
   ·rename_i h1
    simp only [KZ] at h;subst h
    refine ⟨?_,rfl⟩
    simp [jt,binOp,Op.shift,h1]
  ·split at h
   ·rename_i hk
    subst hk
    split at h<;>first
     |(simp only [KZ] at h;subst h;exact ⟨by simp [jt,binOp,Op.intArith,Op.intBits,Op.intCmp,bits],rfl⟩)
     |(split at h
       ·simp at h
       ·rename_i h1;simp only [KZ] at h;subst h;exact ⟨by simp [jt,binOp,Op.intDiv,h1],rfl⟩)
     |simp at h
   ·simp at h
 ·rename_i a b
  have jt:=BT (P:=P) op t x y a b w
  split at h<;>first
   |(simp only [KZ] at h;subst h;exact ⟨by simp [jt,binOp,Op.stringOp,wX],rfl⟩)
   |(split at h
     ·simp at h
     ·rename_i h1;simp only [KZ] at h;subst h;exact ⟨by simp only [LO,jt,MA,binOp,Op.stringOp,Sem.run_ite,K0 h1];rfl,rfl⟩)
   |simp at h
 ·rename_i a b
  have jt:=BU (P:=P) op t x y a b w
  split at h
  ·rename_i hb
   have hu:P.underlying t=some .bool:=by
    unfold boolT at hb
    split at hb
    ·assumption
    ·simp at hb
   have he:(Op.equal t (.bool a) (.bool b)).run P w= .ok (a==b) w:=run_equalIn_bool' w _ t a b hu
   split at h<;>first
    |(simp only [KZ] at h;subst h;exact ⟨by simp [jt,binOp,he],rfl⟩)
    |simp at h
  ·simp at h
 ·simp at h
theorem BW {op:UnOp} {a:Value} (h:unA op a=some v) (w:World):(Op.unary op a).run P w= .ok v w/\plainV v=true:=by
 unfold unA at h
 split at h<;>first
  |(simp only [KZ] at h;subst h;exact ⟨by simp [Op.unary,Op.intArith,Op.intBits,bits],rfl⟩)
  |simp at h
theorem BX {mx:Bool} {a b:Value} (h:nE mx a b=some v) (w:World):plainV v=true/\
  (mx=false->∀ts t,(Builtin.min_ ts t #[a,b]).run P w= .ok v w)/\(mx=true->∀ts t,(Builtin.max_ ts t #[a,b]).run P w= .ok v w):=by
 unfold nE at h
 split at h
 ·rename_i k a k' b
  split at h
  ·rename_i hk
   subst hk
   simp only [KZ] at h;subst h
   exact ⟨rfl,fun hm ts t=>by simp [Builtin.min_,Builtin.min2,hm],fun hm ts t=>by simp [Builtin.max_,Builtin.max2,hm]⟩
  ·simp at h
 ·simp at h
def RC (E:Env) (vs:Array Value) (cs:List AV):Prop:=vs.size=cs.length/\∀(j:Nat) u c,vs[j]? =some u->cs[j]? =some c->af E u c
theorem af.rc (h:af E v a) (hs:a.fP=true):RC E v.cells a.cells:=by
 cases a with
 |agg cs=>cases h with|agg hl h=>exact ⟨hl,h⟩
 |_=>
  have h':=h.cells (by simpa [AV.cells,AV.fP] using hs)
  exact ⟨h'.1,h'.2.1⟩
theorem sG (off:Nat):∀(l:List Value) (n:Nat) (cells:Array Value),off+n+l.length<=cells.size->
  ((l.zipIdx n).foldl (fun cs (x:Value×Nat)=>cs.setIfInBounds (off+x.2) x.1) cells).size=cells.size/\
  ∀k,((l.zipIdx n).foldl (fun cs (x:Value×Nat)=>cs.setIfInBounds (off+x.2) x.1) cells)[k]? =if off+n<=k/\k<off+n+l.length then l[k - (off+n)]? else cells[k]?
 |[],n,cells,_=>⟨rfl,fun k=>by simp;intro h1 h2;omega⟩
 |v::l,n,cells,h=>by
  simp only [ML] at h
  have ih:=sG off l (n+1) (cells.setIfInBounds (off+n) v) (by simp;omega)
  simp only [List.zipIdx_cons,List.foldl_cons]
  refine ⟨by simpa using ih.1,fun k=> ?_⟩
  rw [ih.2 k]
  by_cases h1:off+(n+1)<=k/\k<off+(n+1)+l.length
  ·rw [K1 h1,K1 (by simp;omega),show k - (off+n)=k - (off+(n+1))+1 by omega,L2]
  ·rw [K0 h1]
   by_cases h2:k=off+n
   ·subst h2
    rw [K1 (by simp),MV]
    simp;omega
   ·rw [K0 (by simp;omega),MV,K0 (fun e=>h2 e.symm)]
theorem wY (ha:dC E aA ρ) (place:Nat->Option (Nat×Nat)):∀(parts:List (Nat×Operand)) (as_:List (Nat×Nat×Arg)) (cells:Array Value) (cs lh:List AV),lf place parts=some as_->RC E cells cs->fillA ρ cs as_=some lh->
  ∃eM,Instr.fill place cells (parts.map fun (i,x)=>(i,aA x))=some eM/\RC E eM lh
 |[],as_,cells,cs,lh,hp,hc,hf=>by
  simp only [lf,KZ] at hp;subst hp
  simp only [fillA,KZ] at hf;subst hf
  exact ⟨cells,rfl,hc⟩
 |(i,x)::r,as_,cells,cs,lh,hp,hc,hf=>by
  simp only [lf] at hp
  split at hp
  ·rename_i p a l h1 h2 h3
   simp only [KZ] at hp;subst hp
   simp only [fillA] at hf
   split at hf
   ·rename_i bR
    obtain ⟨c1,c2,c3⟩:=bR
    have b6:=(ha x a h2).rc c3
    have mu:=sG p.1 (aA x).cells.toList 0 cells (by simp [b6.1,hc.1];omega)
    have hsz:(aA x).cells.size=p.2:=b6.1.trans c1
    have iN:RC E ((aA x).cells.zipIdx.foldl (fun cs (x:Value×Nat)=>cs.setIfInBounds (p.1+x.2) x.1) cells) (putCells cs p.1 (ρ a).cells):=by
     rw [<-Array.foldl_toList,Array.toList_zipIdx]
     refine ⟨by rw [mu.1,wW (by omega)];exact hc.1,fun j u c hu fQ=> ?_⟩
     rw [mu.2 j] at hu
     rw [wV (by omega)] at fQ
     by_cases h4:j<p.1
     ·rw [K0 (by omega)] at hu;rw [K1 h4] at fQ
      exact hc.2 j u c hu fQ
     ·rw [K0 h4] at fQ
      by_cases h5:j<p.1+(ρ a).cells.length
      ·rw [K1 (by simp;omega)] at hu;rw [K1 h5] at fQ
       simp only [L1,Array.getElem?_toList] at hu
       exact b6.2 _ u c hu fQ
      ·rw [K0 (by simp;omega)] at hu;rw [K0 h5] at fQ
       exact hc.2 j u c hu fQ
    obtain ⟨eM,k1,k2⟩:=wY ha place r l _ _ lh h3 iN hf
    refine ⟨eM, ?_,k2⟩
    simp only [Lf,Instr.fill,h1]
    rw [K0 (by simp [hsz,hc.1];omega)]
    exact k1
   ·simp at hf
  ·simp at hp
theorem wZ (ha:dC E aA ρ) (hm:aD E J base g) {zs:List AV} {as_:List (Nat×Nat×Arg)} {place:Nat->Option (Nat×Nat)} (hz:fu P t=some zs) (hp:lf place parts.toList=some as_)
  (hb:∀z i,P.info? t=some i->i.zero=some z->∀ps,P.built t ps=Instr.fill place z.cells ps) (h:((AO.agg zs as_).ae fresh ρ).run g=some (.done val ups)):
  bB E J base g ((do pure (Next.value (<-Instr.build t (parts.map fun (i,x)=>(i,aA x)))):Sem Next).run P E.w) val ups:=by
 obtain ⟨i,z,hi,cG,hs,hcs,dD,cI⟩:=lg hz
 simp only [AO.ae] at h
 cases hf:fillA ρ zs as_ with
 |none=>simp [hf,RM.opt,RM.run] at h
 |some cs=>
  simp [hf,RM.opt,RM.run] at h
  obtain ⟨rfl,rfl⟩:=h
  obtain ⟨eM,k1,k2⟩:=wY ha place parts.toList as_ z.cells zs cs hp ⟨hcs,cI E⟩ hf
  have BY:P.built t (parts.map fun (i,x)=>(i,aA x)).toList=some eM:=by
   rw [hb z i hi cG];simpa using k1
  refine bj hm (v:= .agg eM) ?_ (.agg k2.1 k2.2)
  simp [run_build E.w t _ eM BY]
theorem xc (ha:dC E aA ρ) (sz:Nat) (hsz:0<sz):∀(parts:List (Nat×Operand)) (as_:List (Nat×Arg)) (cells:Array Value) (els fR:List (List AV)),mr parts=some as_->
  (cells.size=els.length*sz/\∀(i:Nat) cs,els[i]? =some cs->cs.length=sz/\∀(j:Nat) x,cs[j]? =some x->∃u,cells[i*sz+j]? =some u/\u.oneCell'=true/\af E u x)->fillE ρ sz els as_=some fR->
  ∃eM,Instr.fill (fun i=>some (i*sz,sz)) cells (parts.map fun (i,x)=>(i,aA x))=some eM/\fR.length=els.length/\
   (eM.size=fR.length*sz/\∀(i:Nat) cs,fR[i]? =some cs->cs.length=sz/\∀(j:Nat) x,cs[j]? =some x->∃u,eM[i*sz+j]? =some u/\u.oneCell'=true/\af E u x)
 |[],as_,cells,els,fR,hp,hc,hf=>by
  simp only [mr,KZ] at hp;subst hp
  simp only [fillE,KZ] at hf;subst hf
  exact ⟨cells,rfl,rfl,hc⟩
 |(i,x)::r,as_,cells,els,fR,hp,hc,hf=>by
  simp only [mr] at hp
  split at hp
  ·rename_i a l h2 h3
   simp only [KZ] at hp;subst hp
   simp only [fillE] at hf
   split at hf
   ·rename_i bR
    obtain ⟨c1,c2,c3⟩:=bR
    obtain ⟨r1,r2,r3⟩:=(ha x a h2).cells c3
    have hfit:i*sz+sz<=els.length*sz:=by
     have:(i+1)*sz<=els.length*sz:=Lv _ (by omega)
     rw [Lt] at this;omega
    have mu:=sG (i*sz) (aA x).cells.toList 0 cells (by simp [r1,hc.1,c1];omega)
    obtain ⟨eM,k1,k2,k3⟩:=xc ha sz hsz r l ((aA x).cells.zipIdx.foldl (fun cs (y:Value×Nat)=>cs.setIfInBounds (i*sz+y.2) y.1) cells) (els.set i (ρ a).cells) fR h3 (by
     rw [<-Array.foldl_toList,Array.toList_zipIdx]
     refine ⟨by rw [mu.1];simpa using hc.1,fun i' ds hd=> ?_⟩
     simp only [List.getElem?_set] at hd
     by_cases nH:i=i'
     ·subst nH
      simp only [K3,c2,KZ] at hd
      subst hd
      refine ⟨c1,fun j y hj=> ?_⟩
      have aX:j<(aA x).cells.size:=by rw [r1];exact (K8.1 hj).1
      refine ⟨(aA x).cells[j], ?_,r3 _ (by simp),r2 j _ y (Lg aX) hj⟩
      rw [mu.2,K1 (by simp;omega)]
      simp [aX]
     ·simp only [nH,Lx] at hd
      refine ⟨(hc.2 i' ds hd).1,fun j y hj=> ?_⟩
      obtain ⟨u,m1,m2,m3⟩:=(hc.2 i' ds hd).2 j y hj
      have aX:j<sz:=by
       have:=(K8.1 hj).1
       rw [(hc.2 i' ds hd).1] at this;exact this
      refine ⟨u, ?_,m2,m3⟩
      rw [mu.2,K0]
      ·exact m1
      ·simp only [Array.length_toList,r1,c1]
       rcases LM i' i with h1|h1
       ·have:(i'+1)*sz<=i*sz:=Lv _ (by omega)
        rw [Lt] at this;omega
       ·have:(i+1)*sz<=i'*sz:=Lv _ (by omega)
        rw [Lt] at this;omega) hf
    refine ⟨eM, ?_,by simpa using k2,k3⟩
    simp only [Lf,Instr.fill]
    rw [K0 (by simp [r1,c1,hc.1];omega)]
    exact k1
   ·simp at hf
  ·simp at hp
theorem BZ (ha:dC E aA ρ) (hm:aD E J base g) (hf:¬E.kn fresh) {zs:List AV} {as_:List (Nat×Arg)} (ht:P.underlying t=some (.slice e)) (hz:fu P e=some zs)
  (hl:len*zs.length<=16777216) (cU:0<zs.length) (hp:mr parts.toList=some as_) (h:((AO.bsl zs.length len zs as_).ae fresh ρ).run g=some (.done val ups)):
  bB E J base g ((do pure (Next.value (<-Instr.buildSlice t len (parts.map fun (i,x)=>(i,aA x)))):Sem Next).run P E.w) val ups:=by
 obtain ⟨i,z,hi,cG,hs,hcs,dD,cI⟩:=lg hz
 simp only [AO.ae] at h
 cases hfe:fillE ρ zs.length (List.replicate len zs) as_ with
 |none=>simp [hfe,RM.opt,RM.run] at h
 |some els=>
  simp [hfe,RM.opt,RM.run] at h
  obtain ⟨rfl,rfl⟩:=h
  obtain ⟨eM,k1,k2,k3,k4⟩:=xc ha zs.length cU parts.toList as_ ((Array.range (len*zs.length)).map (z.cells[· %z.cells.size]!)) (List.replicate len zs) els hp (by
   refine ⟨by simp,fun q cs hq=> ?_⟩
   have pW:q<len:=by have:=(K8.1 hq).1;simpa using this
   simp [pW] at hq
   subst hq
   refine ⟨rfl,fun j x hj=> ?_⟩
   have aX:j<zs.length:=(K8.1 hj).1
   have hfit:q*zs.length+zs.length<=len*zs.length:=by
    have:(q+1)*zs.length<=len*zs.length:=Lv _ (by omega)
    rw [Lt] at this;omega
   have ia:j<z.cells.size:=by omega
   have nI:(q*zs.length+j)%z.cells.size=j:=by rw [hcs,Mn,Nat.mul_add_mod];exact Mo aX
   refine ⟨z.cells[j], ?_, ?_,cI E j _ x (Lg ia) hj⟩
   ·rw [Lg (by simp;omega)]
    simp [nI,ia]
   ·refine (cI E j _ x (Lg ia) hj).one ?_
    simp only [K6] at dD
    have:=(K8.1 hj).2
    rw [<-this];exact dD _ (List.getElem_mem _)) hfe
  simp only [MW] at k2
  refine pV hm hf eM e ⟨zs.length,els⟩ (v:= .slice (some ⟨E.w.heap.size,0,none⟩) len len) ?_ (fun E' hE=>⟨by rw [k3];exact K4 _,fun q cs hq=>⟨(k4 q cs hq).1,fun j x hj=> ?_⟩⟩) (fun E' hw q1 q2 q3 q4=> ?_)
  ·have hz0:¬(len*zs.length>2^24):=by omega
   by_cases h0:len*zs.length=0
   ·have B5:len=0:=by
     rcases Nat.mul_eq_zero.1 h0 with h|h
     ·exact h
     ·omega
    subst B5
    have e0:Array.range 0= #[]:=rfl
    simp only [Nat.zero_mul,e0,Array.map_empty] at k1
    simp only [Instr.buildSlice,run_underlying ht,sizeOf,typeInfo,hi,hs,newRow,LO,MA,run_program,Sem.run_pure,bind_pure_comp,Sem.run_map,Nat.zero_mul]
    simp [e0,k1]
   ·have hz1:¬(16777216<len*zs.length):=by omega
    simp [Instr.buildSlice,run_underlying ht,sizeOf,typeInfo,zeroValue,hi,cG,hs,newRow,hz1]
    rw [K0 h0]
    simp at k1
    simp [hi,cG,k1]
  ·obtain ⟨u,m1,m2,m3⟩:=(k4 q cs hq).2 j x hj
   exact ⟨u,m1,m2,m3.step hE⟩
  ·refine .own q1 q2 q3 (.inl (by simp)) (t:=e) (m:=eM.size) ?_ (by rw [k3,k2];simp) (K4 _) (by have:=Nat.le_mul_of_pos_right len cU;omega) (by rw [q4];dsimp only;omega)
   rw [hw]
   unfold World.shape?
   rw [heap_alloc_new]
end
open Go.RowKit
section
variable {P:Program} {E:Env} {J:Nat->Prop} {base:Nat} {g:Nat->Option Bk} {aA:Operand->Value} {ρ:Arg->AV} {fresh:Nat}
theorem xd (ht:gJ P t=some m) (b6:RC E vs cs) (ha:getCells cs off m=some a):
  ∃v,(part t vs off).run P E.w= .ok v E.w/\af E v a:=by
 obtain ⟨h1,h2⟩:=wS ht E.w
 cases m with
 |none=>
  simp only [getCells] at ha
  have hl:off<vs.size:=by rw [b6.1];exact (K8.1 ha).1
  refine ⟨vs[off], ?_,b6.2 off _ a (Lg hl) ha⟩
  simp [part,h1,Lg hl]
 |some n=>
  simp only [getCells] at ha
  split at ha
  ·rename_i hle
   simp only [KZ] at ha;subst ha
   refine ⟨.agg (vs.extract off (off+n)),by simp [part,h1,h2 n rfl], .agg (by simp [b6.1];omega) (fun i v c hv hc=> ?_)⟩
   have hi:i<n:=by
    have:=(K8.1 hc).1
    simp at this;omega
   rw [Me,K1 hi,Mf] at hc
   rw [Array.getElem?_extract] at hv
   split at hv
   ·exact b6.2 _ v c hv hc
   ·simp at hv
  ·simp at ha
theorem alive {id:Nat} {B:Bk} (hm:aD E J base g) (h:g id=some B):¬E.dead id:=((hm.live id).2 ⟨B,h⟩).2
theorem gv {α:Type} {id:Nat} {k:RM α} {a:α} (h:(RM.lv id k).run g=some a):∃B,g id=some B/\k.run g=some a:=by
 simp only [RM.run] at h
 cases hg:g id with
 |none=>simp [hg] at h
 |some B=>simp only [hg] at h;exact ⟨B,rfl,h⟩
theorem xe (hm:aD E J base g) {str:Bool} (ht:if str=true then P.underlying t=some .string else ∃e,P.underlying t=some (.slice e)) (hv:af E v (ρ x)) (ty:TypeId)
  (h:((AO.len str x).ae fresh ρ).run g=some (.done val ups)):bB E J base g ((do pure (Next.value (<-Builtin.len_ #[t] ty #[v])):Sem Next).run P E.w) val ups:=by
 cases str with
 |true=>
  simp only [K3] at ht
  simp only [AO.ae] at h
  split at h
  ·rename_i s hx
   simp only [RM.run,KZ,Out.done.injEq] at h
   obtain ⟨rfl,rfl⟩:=h
   rw [hx] at hv
   cases hv with
   |v hp=>exact bj hm (v:=goInt s.size) (by simp [Builtin.len_,run_underlying ht]) (.v rfl)
  ·simp [RM.run] at h
 |false=>
  simp only [L4,Lx] at ht
  obtain ⟨e,hu⟩:=ht
  have slice:∀A n' c k,v=Value.slice A n' c->n'=k->(do pure (Next.value (<-Builtin.len_ #[t] ty #[v])):Sem Next).run P E.w= .ok (.value (goInt k)) E.w:=by
   intro A n' c k hv hn
   subst hv;subst hn;simp [Builtin.len_,run_underlying hu]
  simp only [AO.ae] at h
  split at h
  ·rename_i sz els hx
   simp only [RM.run,KZ,Out.done.injEq] at h
   obtain ⟨rfl,rfl⟩:=h
   rw [hx] at hv
   cases hv with
   |dA hc=>exact bj hm (slice _ _ _ _ rfl rfl) (.v rfl)
   |dR u hn=>exact bj hm (slice _ _ _ _ rfl hn) (.v rfl)
  ·rename_i sz els hx
   simp only [RM.run,KZ,Out.done.injEq] at h
   obtain ⟨rfl,rfl⟩:=h
   rw [hx] at hv
   cases hv with
   |cA h'=>
    cases h' with
    |dA hc=>exact bj hm (slice _ _ _ _ rfl rfl) (.v rfl)
    |dR u hn=>exact bj hm (slice _ _ _ _ rfl hn) (.v rfl)
  ·rename_i hx
   simp only [RM.run,KZ,Out.done.injEq] at h
   obtain ⟨rfl,rfl⟩:=h
   rw [hx] at hv
   cases hv with
   |emp=>exact bj hm (slice _ _ _ 0 rfl rfl) (.v rfl)
  ·rename_i id sz off n hx
   obtain ⟨B,hB,h⟩:=gv h
   simp only [RM.run,KZ,Out.done.injEq] at h
   obtain ⟨rfl,rfl⟩:=h
   rw [hx] at hv
   cases hv with
   |own hi eL hb hq hs dc dd hc=>exact bj hm (slice _ _ _ _ rfl rfl) (.v rfl)
   |bP hi eL hb=>exact bj hm (slice _ _ _ 0 rfl rfl) (.v rfl)
   |cr hi hd=>exact absurd hd (alive hm hB)
  ·simp [RM.run] at h
theorem B6 (hm:aD E J base g) (hv:af E v (ρ x)) {o:Oper} {xo:Operand} (ho:o.op= .nilCheck xo) (hx:aA xo=v)
  (h:((AO.nilc x).ae fresh ρ).run g=some (.done val ups)):bB E J base g ((execOp aA o).run P E.w) val ups:=by
 have key:∀a,v= .pointer (some a)->(execOp aA o).run P E.w= .ok (.value v) E.w:=by
  intro a ha
  unfold execOp
  simp [ho,hx,ha]
 simp only [AO.ae] at h
 split at h
 ·rename_i id sz i q cZ
  obtain ⟨B,hB,h⟩:=gv h
  simp only [RM.run,KZ,Out.done.injEq] at h
  obtain ⟨rfl,rfl⟩:=h
  rw [cZ] at hv
  have hv':=hv
  cases hv with
  |ref hi hd hb hq=>exact bj hm (key _ rfl) hv'
  |ef hi hd=>exact absurd hd (alive hm hB)
 ·rename_i cs q cZ
  simp only [RM.run,KZ,Out.done.injEq] at h
  obtain ⟨rfl,rfl⟩:=h
  rw [cZ] at hv
  have hv':=hv
  cases hv with
  |pim u hb hq hu eK hr=>exact bj hm (key _ rfl) hv'
 ·simp [RM.run] at h
theorem B7 (hm:aD E J base g) (hv:af E v (ρ x)) {n:Nat} (hu:P.underlying s=some (.struct fields)) (hf:fields[fi]? =some f) (hz:szOf P f.type=some n) (hn:n≠0)
  (h:((AO.fad f.offset x).ae fresh ρ).run g=some (.done val ups)):bB E J base g ((do pure (Next.value (<-Instr.fieldAt s v fi)):Sem Next).run P E.w) val ups:=by
 have hsz:=kx hz E.w
 have key:∀b q,v= .pointer (some ⟨b,q,none⟩)->(do pure (Next.value (<-Instr.fieldAt s v fi)):Sem Next).run P E.w= .ok (.value (.pointer (some ⟨b,q+f.offset,none⟩))) E.w:=by
  intro b q ha
  subst ha
  simp [Instr.fieldAt,run_underlying hu,hf,Instr.sureAddr,fieldPlace,hsz,hn,Md]
 simp only [AO.ae] at h
 split at h
 ·rename_i id sz i q cZ
  obtain ⟨B,hB,h⟩:=gv h
  simp only [RM.run,KZ,Out.done.injEq] at h
  obtain ⟨rfl,rfl⟩:=h
  rw [cZ] at hv
  cases hv with
  |ref hi hd hb hq=>exact bj hm (key _ _ rfl) (.ref hi hd hb (by omega))
  |ef hi hd=>exact absurd hd (alive hm hB)
 ·rename_i cs q cZ
  simp only [RM.run,KZ,Out.done.injEq] at h
  obtain ⟨rfl,rfl⟩:=h
  rw [cZ] at hv
  cases hv with
  |pim u hb hq nJ eK hr=>exact bj hm (key _ _ rfl) (.pim u hb (by omega) nJ eK hr)
 ·simp [RM.run] at h
theorem B8 (hm:aD E J base g) (hv:af E v (ρ x)) (hu:P.underlying s=some (.struct fields)) (hf:fields[fi]? =some f) (hz:gJ P f.type=some m)
  (h:((AO.fld f.offset m x).ae fresh ρ).run g=some (.done val ups)):bB E J base g ((do pure (Next.value (<-Instr.field s v fi)):Sem Next).run P E.w) val ups:=by
 simp only [AO.ae] at h
 split at h
 ·rename_i cs cZ
  rw [cZ] at hv
  cases hg:getCells cs f.offset m with
  |none=>simp [hg,RM.opt,RM.run] at h
  |some a=>
   simp [hg,RM.opt,RM.run] at h
   obtain ⟨rfl,rfl⟩:=h
   cases hv with
   |agg hl hr=>
    obtain ⟨v',k1,k2⟩:=xd (P:=P) hz ⟨hl,hr⟩ hg
    exact bj hm (by simp [Instr.field,run_underlying hu,hf,asAgg,k1]) k2
 ·simp [RM.run] at h
theorem B9 (hm:aD E J base g) (hv:af E v (ρ x)) (hvi:af E vi (ρ i)) (hu:P.underlying t=some (.array len e)) (hz:szOf P e=some sz)
  (h:((AO.iap sz len x i).ae fresh ρ).run g=some (.done val ups)):bB E J base g ((do pure (Next.value (<-Instr.indexAt t v vi)):Sem Next).run P E.w) val ups:=by
 have hsz:=kx hz E.w
 have key:∀b q k (m:Int),v= .pointer (some ⟨b,q,none⟩)->vi= .int k m->0<=m->m<len->(do pure (Next.value (<-Instr.indexAt t v vi)):Sem Next).run P E.w= .ok (.value (.pointer (some ⟨b,q+m.toNat*sz,none⟩))) E.w:=by
  intro b q k m hv hvi h1 h2
  subst hv;subst hvi
  simp [Instr.indexAt,asIntOf,Instr.sureAddr,run_underlying hu,h1,h2,hsz,Md]
 simp only [AO.ae] at h
 split at h
 ·rename_i id s q o k m hx hi
  split at h
  ·rename_i hc
   obtain ⟨h0,h1⟩:=hc
   obtain ⟨B,hB,h⟩:=gv h
   simp only [RM.run,KZ,Out.done.injEq] at h
   obtain ⟨rfl,rfl⟩:=h
   rw [hx] at hv;rw [hi] at hvi
   cases hvi with
   |v hp=>cases hv with
    |ref aH hd hb hq=>exact bj hm (key _ _ k m rfl rfl h0 h1) (.ref aH hd hb (by omega))
    |ef aH hd=>exact absurd hd (alive hm hB)
  ·simp [RM.run] at h
 ·rename_i cs o k m hx hi
  split at h
  ·rename_i hc
   obtain ⟨h0,h1⟩:=hc
   simp only [RM.run,KZ,Out.done.injEq] at h
   obtain ⟨rfl,rfl⟩:=h
   rw [hx] at hv;rw [hi] at hvi
   cases hvi with
   |v hp=>cases hv with
    |pim u hb hq nJ lj hr=>exact bj hm (key _ _ k m rfl rfl h0 h1) (.pim u hb (by omega) nJ lj hr)
  ·simp [RM.run] at h
 ·simp [RM.run] at h
theorem af.Ca {E:Env} {a:Value} (h:af E v (.v a)):v=a:=by cases h;rfl
theorem Cb (hm:aD E J base g) (hv:af E v (ρ x)) (hvi:af E vi (ρ i)) (hu:P.underlying t=some (.array len e)) (hz:szOf P e=some sz) (hg:gJ P e=some m)
  (h:((AO.ixa sz len m x i).ae fresh ρ).run g=some (.done val ups)):bB E J base g ((do pure (Next.value (<-Instr.index t v vi)):Sem Next).run P E.w) val ups:=by
 have hsz:=kx hz E.w
 simp only [AO.ae] at h
 split at h
 ·rename_i cs k n hx hi
  split at h
  ·rename_i hc
   cases hq:getCells cs (n.toNat*sz) m with
   |none=>simp [hq,RM.opt,RM.run] at h
   |some a=>
    simp [hq,RM.opt,RM.run] at h
    obtain ⟨rfl,rfl⟩:=h
    rw [hx] at hv;rw [hi] at hvi
    have ei:=hvi.Ca
    subst ei
    cases hv with
    |agg hl hr=>
     obtain ⟨v',k1,k2⟩:=xd (P:=P) hg ⟨hl,hr⟩ hq
     exact bj hm (by simp [Instr.index,asIntOf,run_underlying hu,hc.1,hc.2,hsz,k1]) k2
  ·simp [RM.run] at h
 ·simp [RM.run] at h
theorem Cc (hm:aD E J base g) (hv:af E v (ρ x)) (hvi:af E vi (ρ i)) (hu:P.underlying t=some (.slice e)) (hz:szOf P e=some sz) (cU:0<sz)
  (h:((AO.iad sz x i).ae fresh ρ).run g=some (.done val ups)):bB E J base g ((do pure (Next.value (<-Instr.indexAt t v vi)):Sem Next).run P E.w) val ups:=by
 have hsz:=kx hz E.w
 have key:∀b q n c k (m:Int),v= .slice (some ⟨b,q,none⟩) n c->vi= .int k m->0<=m->m<n->(do pure (Next.value (<-Instr.indexAt t v vi)):Sem Next).run P E.w= .ok (.value (.pointer (some ⟨b,q+m.toNat*sz,none⟩))) E.w:=by
  intro b q n c k m hv hvi h1 h2
  subst hv;subst hvi
  simp [Instr.indexAt,asIntOf,run_underlying hu,h1,h2,hsz,Md]
 have aP:∀v (els:List (List AV)) (m:Int),af E v (.aP sz els)->(∀b q n c,v= .slice (some ⟨b,q,none⟩) n c->(0<=m/\m<n->(do pure (Next.value (<-Instr.indexAt t v vi)):Sem Next).run P E.w= .ok (.value (.pointer (some ⟨b,q+m.toNat*sz,none⟩))) E.w))->0<=m->∀cs,els[m.toNat]? =some cs->
   bB E J base g ((do pure (Next.value (<-Instr.indexAt t v vi)):Sem Next).run P E.w) (.pim cs 0) []:=by
  intro v els m hr iO h0 cs hcs
  have hlt:m.toNat<els.length:=(K8.1 hcs).1
  cases hr with
  |dA hc=>simp at hlt
  | @dR b off n c _ _ u hn hl hc hb cG nJ eK hr'=>
   refine bj hm (iO b off n c rfl ⟨h0,by omega⟩) (.pim (off:=off+m.toNat*sz) (u m.toNat) hb rfl (fun j x hj=>nJ _ _ _ _ hcs hj) (fun j x hj=>(eK _ _ _ _ hcs hj).2) (fun j x hj=>hr' _ _ _ _ hcs hj))
 simp only [AO.ae] at h
 split at h
 ·rename_i s els k m hx hi
  split at h
  ·rename_i hc
   obtain ⟨rfl,h0⟩:=hc
   rw [hx] at hv;rw [hi] at hvi
   cases hcs:els[m.toNat]? with
   |none=>simp [hcs,RM.opt,RM.run] at h
   |some cs=>
    simp [hcs,RM.opt,RM.run] at h
    obtain ⟨rfl,rfl⟩:=h
    cases hvi with
    |v hp=>exact aP v els m hv (fun b q n c hv' hh=>key b q n c k m hv' rfl hh.1 hh.2) h0 cs hcs
  ·simp [RM.run] at h
 ·rename_i s els k m hx hi
  split at h
  ·rename_i hc
   obtain ⟨rfl,h0⟩:=hc
   rw [hx] at hv;rw [hi] at hvi
   cases hcs:els[m.toNat]? with
   |none=>simp [hcs,RM.opt,RM.run] at h
   |some cs=>
    simp [hcs,RM.opt,RM.run] at h
    obtain ⟨rfl,rfl⟩:=h
    cases hvi with
    |v hp=>cases hv with
     |cA hv=>exact aP _ els m hv (fun b q n c hv' hh=>key b q n c k m hv' rfl hh.1 hh.2) h0 cs hcs
  ·simp [RM.run] at h
 ·rename_i id s off ln k m hx hi
  split at h
  ·rename_i hc
   obtain ⟨rfl,h0,h1⟩:=hc
   obtain ⟨B,hB,h⟩:=gv h
   simp only [RM.run,KZ,Out.done.injEq] at h
   obtain ⟨rfl,rfl⟩:=h
   rw [hx] at hv;rw [hi] at hvi
   cases hvi with
   |v hp=>cases hv with
    | @own _ _ _ n c b q m' t' hi hd hb hq hs dc dd hc=>
     refine bj hm (key b q _ c k m rfl rfl h0 h1) (.ref hi hd hb ?_)
     rcases hq with hq|hq
     ·rw [hq,Lt];omega
     ·omega
    |bP hi eL hb=>simp at h1;omega
    |cr hi hd=>exact absurd hd (alive hm hB)
  ·simp [RM.run] at h
 ·simp [RM.run] at h
theorem Cd (hm:aD E J base g) {i:Nat} (hv:af E v (ρ x))
  (h:((AO.ext i x).ae fresh ρ).run g=some (.done val ups)):bB E J base g ((do pure (Next.value (<-Instr.extract v i)):Sem Next).run P E.w) val ups:=by
 simp only [AO.ae] at h
 split at h
 ·rename_i vs hx
  rw [hx] at hv
  cases hi:vs[i]? with
  |none=>simp [hi,RM.opt,RM.run] at h
  |some a=>
   simp [hi,RM.opt,RM.run] at h
   obtain ⟨rfl,rfl⟩:=h
   cases hv with
   | @aJ us _ hl hr=>
    have hlt:i<us.size:=by rw [hl];exact (K8.1 hi).1
    exact bj hm (by simp [Instr.extract,Lg hlt]) (hr i _ a (Lg hlt) hi)
 ·simp [RM.run] at h
theorem pX (hv:af E v a) (h:natOf a=some n):∃k,v= .int k (n:Int):=by
 unfold natOf at h
 split at h
 ·rename_i k m
  split at h
  ·simp only [KZ] at h
   subst h
   cases hv with
   |v hp=>exact ⟨k,by congr 1;omega⟩
  ·simp at h
 ·simp at h
theorem Ce (hm:aD E J base g) (hf:¬E.kn fresh) {zs:List AV} {i:TypeInfo} (ht:P.underlying t=some (.slice e)) (hz:fu P e=some zs) (hi:P.info? e=some i) (cU:0<zs.length) (lp:0<i.bytes) {vl vc:Value} {l c:Arg} (hl:af E vl (ρ l)) (hc:af E vc (ρ c))
 (h:((AO.msl zs.length i.bytes zs l c).ae fresh ρ).run g=some (.done val ups)):
  bB E J base g ((do pure (Next.value (<-Instr.makeSlice t vl vc)):Sem Next).run P E.w) val ups:=by
 obtain ⟨i',z,aH,cG,hs,hcs,dD,cI⟩:=lg hz
 obtain rfl:i=i':=by rw [hi] at aH;simpa using aH
 simp only [AO.ae] at h
 split at h
 ·rename_i n m h1 h2
  split at h
  ·rename_i bR
   obtain ⟨hle,hb⟩:=bR
   simp only [RM.run,KZ,Out.done.injEq] at h
   obtain ⟨rfl,rfl⟩:=h
   obtain ⟨kl,rfl⟩:=pX hl h1
   obtain ⟨kc,rfl⟩:=pX hc h2
   have xf:m<=m*i.bytes:=Nat.le_mul_of_pos_right _ lp
   have Cf:(i.bytes:Int)*(m:Int)<=281474976710656:=by
    have:((i.bytes*m:Nat):Int)<=281474976710656:=by rw [Mn];omega
    rwa [Int.natCast_mul] at this
   have hrun:=run_make (P:=P) E.w t e i z ht hi cG kl kc n m (by omega) (by omega) Cf (by omega)
   simp only [Mp] at hrun
   have hsz:(madeCells z.cells (m*i.size)).size=m*zs.length:=by rw [size_madeCells,hs]
   refine pV hm hf (madeCells z.cells (m*i.size)) e ⟨zs.length,List.replicate n zs⟩ (v:= .slice (some ⟨E.w.heap.size,0,none⟩) n m) (by simp [hrun]) (fun E' hE=>⟨?_,fun q cs hq=> ?_⟩) (fun E' hw q1 q2 q3 q4=> ?_)
   ·simp only [MW,hsz];exact Lv _ hle
   ·have pW:q<n:=by have:=(K8.1 hq).1;simpa using this
    simp [pW] at hq
    subst hq
    refine ⟨rfl,fun j x hj=> ?_⟩
    have aX:j<zs.length:=(K8.1 hj).1
    have hfit:q*zs.length+zs.length<=m*zs.length:=by
     have:(q+1)*zs.length<=m*zs.length:=Lv _ (by omega)
     rw [Lt] at this;omega
    have ia:j<z.cells.size:=by omega
    have nI:(q*zs.length+j)%z.cells.size=j:=by rw [hcs,Mn,Nat.mul_add_mod];exact Mo aX
    refine ⟨z.cells[j], ?_, ?_,(cI E j _ x (Lg ia) hj).step hE⟩
    ·dsimp only
     rw [Lg (by rw [hsz];omega)]
     simp [madeCells,nI,ia]
    ·refine (cI E j _ x (Lg ia) hj).one ?_
     simp only [K6] at dD
     have:=(K8.1 hj).2
     rw [<-this];exact dD _ (List.getElem_mem _)
   ·refine .own q1 q2 q3 (.inl (by simp)) (t:=e) (m:=(madeCells z.cells (m*i.size)).size) ?_ (by rw [hsz];simp) hle (by omega) (by rw [q4];simp;omega)
    rw [hw]
    unfold World.shape?
    rw [heap_alloc_new]
  ·simp [RM.run] at h
 ·simp [RM.run] at h
theorem pY (ha:dC E aA ρ) {x:Option Operand} {ax:Option Arg} (hx:eC x=some ax) {n:Option Nat} (h:cH ρ ax=some n):(x=none/\n=none)\/∃o m k,x=some o/\n=some m/\aA o= .int k (m:Int):=by
 cases x with
 |none=>
  simp [eC] at hx;subst hx
  simp [cH] at h;subst h
  exact .inl ⟨rfl,rfl⟩
 |some o=>
  simp only [eC] at hx
  cases hc:cArg o with
  |none=>simp [hc] at hx
  |some a=>
   simp [hc] at hx;subst hx
   simp only [cH] at h
   cases hn:natOf (ρ a) with
   |none=>simp [hn] at h
   |some m=>
    simp [hn] at h;subst h
    obtain ⟨k,hk⟩:=pX (ha o a hc) hn
    exact .inr ⟨o,m,k,rfl,rfl,hk⟩
theorem lq (ha:dC E aA ρ) {isS:Bool} {ln:Nat} (sH:ln<=cap) (h1:eC lo=some iJ) (h2:eC hi=some iK) (h3:eC mx=some amx) {nlo nhi nmx:Option Nat} (k1:cH ρ iJ=some nlo) (k2:cH ρ iK=some nhi) (k3:cH ρ amx=some nmx)
  (ju:mx.isSome=true->hi.isSome=true) {b:Nat×Nat} (hb:bounds ln nlo nhi=some b) (fS:∀m,nmx=some m->b.2<=m/\m<=ln):
  (Instr.sliceBounds isS ln cap (lo.map aA) (hi.map aA) (mx.map aA)).run P E.w= .ok (b.1,b.2,nmx.getD cap) E.w:=by
 have sb:∀(k:IntKind) (n y:Nat) (code:BoundsCode),n<=y->(Instr.sliceBound (.int k (n:Int)) y code).run P E.w= .ok n E.w:=by
  intro k n y code h
  simp [Instr.sliceBound,asIntOf,h]
 unfold bounds at hb
 split at hb
 ·rename_i hc
  simp only [KZ] at hb
  subst hb
  obtain ⟨c1,c2⟩:=hc
  simp only at fS
  rcases pY ha h3 k3 with ⟨rfl,rfl⟩|⟨om,m,km,rfl,rfl,em⟩<;>rcases pY ha h2 k2 with ⟨rfl,rfl⟩|⟨oh,hh,kh,rfl,rfl,eh⟩<;>rcases pY ha h1 k1 with ⟨rfl,rfl⟩|⟨ol,ll,kl,rfl,rfl,el⟩
  all_goals simp only [Mv,L8] at c1 c2 fS ⊢
  ·simp [Instr.sliceBounds]
  ·simp [Instr.sliceBounds,el,sb kl ll ln _ c1]
  ·simp [Instr.sliceBounds,eh,sb kh hh cap _ (by omega)]
  ·simp [Instr.sliceBounds,eh,el,sb kh hh cap _ (by omega),sb kl ll hh _ c1]
  ·simp at ju
  ·simp at ju
  ·have:=fS m rfl
   simp [Instr.sliceBounds,eh,em,sb km m cap _ (by omega),sb kh hh m _ (by omega)]
  ·have:=fS m rfl
   simp [Instr.sliceBounds,eh,em,el,sb km m cap _ (by omega),sb kh hh m _ (by omega),sb kl ll hh _ c1]
 ·simp at hb
theorem xg (hv:af E (.slice A n c) (.aP sz els)) (h1:l<=h) (h2:h<=els.length) (m:Nat) (pZ:h<=m) (ib:m<=c):
  af E (.slice (if m=l then A else A.map (·.add (l*sz))) (h - l) (m - l)) (.aP sz ((els.drop l).take (h - l))):=by
 by_cases h0:h - l=0
 ·rw [h0,List.take_zero]
  cases hv with
  |dA hc=>exact .dA (by omega)
  |dR u hn hl hc=>exact .dA (by omega)
 ·cases hv with
  |dA hc=>simp at h2;omega
  | @dR b off n c _ _ u hn hl hc hb hz hu eK hr=>
   rw [K0 (by omega)]
   simp only [Ld,Md]
   refine .dR (fun i j=>u (l+i) j) (by simp;omega) (by omega) (by omega) hb (fun i cs hi=> ?_) (fun i cs j x hi hj=> ?_) (fun i cs j x hi hj=> ?_) (fun i cs j x hi hj=> ?_)
   all_goals
    rw [Me] at hi
    split at hi
    ·rw [Mf] at hi
     first
      |exact hz _ cs hi
      |(rw [show off+l*sz+i*sz+j=off+(l+i)*sz+j by rw [Lt];omega];exact hu _ _ _ _ hi hj)
      |exact eK _ _ _ _ hi hj
      |exact hr _ _ _ _ hi hj
    ·simp at hi
theorem Cg {id s:Nat} {m:Nat} (hr:af E (.slice A n c) (.own id s off n)) (p8:¬E.dead id) (h1:l<=h) (pZ:h<=m) (ib:m<=c) (sI:E.ln id<=off+m):af E (.slice (if m=l then A else A.map (·.add (l*s))) (h - l) (m - l)) (.own id s (off+l) (h - l)):=by
 cases hr with
 | @own _ _ _ _ _ bb q mm t' aH hd hbl hq hs cV hl hcc bh=>
  by_cases e1:m=l
  ·rw [K1 e1]
   refine .own aH hd hbl (.inr (by omega)) hs (Lw (Lv _ (by omega)) cV) (by omega) (by omega) (by omega)
  ·rw [K0 e1]
   simp only [Ld,Md]
   refine .own aH hd hbl (.inl ?_) hs (Lw (Lv _ (by omega)) cV) (by omega) (by omega) (by omega)
   rcases hq with hq|hq
   ·rw [hq,Lt]
   ·omega
 |bP aH hd hbl bh=>
  have mv:l=0:=by omega
  have hb2:h=0:=by omega
  have fU:m=0:=by omega
  simp only [mv,hb2,fU,Nat.sub_self,L1,K3]
  exact .bP aH hd hbl bh
 |cr aH hd=>exact absurd hd p8
theorem Ci (ha:dC E aA ρ) (hm:aD E J base g) (hu:P.underlying t=some (.slice e)) (hz:szOf P e=some sz) {x:Operand} {ax:Arg} (hx:cArg x=some ax) (h1:eC lo=some iJ) (h2:eC hi=some iK) (h3:eC mx=some amx)
  (ju:mx.isSome=true->hi.isSome=true) (h:((AO.slc sz ax iJ iK amx).ae fresh ρ).run g=some (.done val ups)):
  bB E J base g ((do pure (Next.value (<-Instr.sliceAt t (aA x) (lo.map aA) (hi.map aA) (mx.map aA))):Sem Next).run P E.w) val ups:=by
 have hsz:=kx hz E.w
 have hv:=ha x ax hx
 have key:∀A n c l h m,aA x= .slice A n c->(Instr.sliceBounds true n c (lo.map aA) (hi.map aA) (mx.map aA)).run P E.w= .ok (l,h,m) E.w->
   (do pure (Next.value (<-Instr.sliceAt t (aA x) (lo.map aA) (hi.map aA) (mx.map aA))):Sem Next).run P E.w= .ok (.value (.slice (if m=l then A else A.map (·.add (l*sz))) (h - l) (m - l))) E.w:=by
  intro A n c l h m hv hb
  rw [hv]
  simp [Instr.sliceAt,Instr.slice,run_underlying hu,hb,hsz]
 have aP:∀A n c els s,aA x= .slice A n c->n=els.length->n<=c->af E (.slice A n c) (.aP s els)->s=sz->∀nlo nhi nmx b a,cH ρ iJ=some nlo->cH ρ iK=some nhi->cH ρ amx=some nmx->bounds els.length nlo nhi=some b->cutL sz els b.1 b.2 nmx=some a->
   bB E J base g ((do pure (Next.value (<-Instr.sliceAt t (aA x) (lo.map aA) (hi.map aA) (mx.map aA))):Sem Next).run P E.w) a []:=by
  intro A n c els s hvx hn eN hr hs nlo nhi nmx b a k1 k2 k3 hb hc
  subst hs;subst hn
  have hbb:b.1<=b.2/\b.2<=els.length:=by
   unfold bounds at hb
   split at hb
   ·rename_i bR;simp only [KZ] at hb;subst hb;exact bR
   ·simp at hb
  cases nmx with
  |none=>
   simp only [cutL,KZ] at hc;subst hc
   have eY:=lq (P:=P) (isS:=true) ha eN h1 h2 h3 k1 k2 k3 ju hb (fun m hm=>by simp at hm)
   exact bj hm (key A _ c b.1 b.2 c hvx eY) (xg hr hbb.1 hbb.2 c (by omega) (K4 _))
  |some m=>
   simp only [cutL] at hc
   split at hc
   ·rename_i bR
    simp only [KZ] at hc
    have eY:=lq (P:=P) (isS:=true) ha eN h1 h2 h3 k1 k2 k3 ju hb (fun m' dc=>by simp at dc;subst dc;exact bR)
    have cI:=xg hr hbb.1 hbb.2 m bR.1 (by omega)
    have iO:=key A _ c b.1 b.2 m hvx eY
    by_cases e1:m=b.1
    ·rw [K1 e1] at hc;subst hc
     refine bj hm iO ?_
     rw [show b.2 - b.1=0 by omega,show m - b.1=0 by omega]
     exact .emp
    ·rw [K0 e1] at hc
     by_cases e2:m=b.2
     ·rw [K1 e2] at hc;subst hc
      refine bj hm iO ?_
      rw [e2] at cI ⊢
      exact .cA cI
     ·rw [K0 e2] at hc;subst hc
      exact bj hm iO cI
   ·simp at hc
 simp only [AO.ae] at h
 split at h
 ·rename_i nlo nhi nmx k1 k2 k3
  split at h
  ·rename_i s els cZ
   rw [cZ] at hv
   split at h
   ·rename_i hs
    cases hb:bounds els.length nlo nhi with
    |none=>simp [hb,RM.opt,RM.run] at h
    |some b=>
     cases hc:cutL sz els b.1 b.2 nmx with
     |none=>simp [hb,hc,RM.opt,RM.run] at h
     |some a=>
      simp [hb,hc,RM.opt,RM.run] at h
      obtain ⟨rfl,rfl⟩:=h
      obtain ⟨vv,b7⟩:∃vv,vv=aA x:=⟨_,rfl⟩
      rw [<-b7] at hv
      have hv':=hv
      cases hv with
      |dA hcc=>exact aP _ _ _ _ s b7.symm rfl (by simp) hv' hs _ _ _ _ _ k1 k2 k3 hb hc
      |dR u hn hl hcc=>exact aP _ _ _ _ s b7.symm hn hl hv' hs _ _ _ _ _ k1 k2 k3 hb hc
   ·simp [RM.run] at h
  ·rename_i s els cZ
   rw [cZ] at hv
   split at h
   ·rename_i hs
    cases hb:bounds els.length nlo nhi with
    |none=>simp [hb,RM.opt,RM.run] at h
    |some b=>
     cases hc:cutL sz els b.1 b.2 nmx with
     |none=>simp [hb,hc,RM.opt,RM.run] at h
     |some a=>
      simp [hb,hc,RM.opt,RM.run] at h
      obtain ⟨rfl,rfl⟩:=h
      obtain ⟨vv,b7⟩:∃vv,vv=aA x:=⟨_,rfl⟩
      rw [<-b7] at hv
      cases hv with
      |cA hv=>
       have hv':=hv
       cases hv with
       |dA hcc=>exact aP _ _ _ _ s b7.symm rfl (by simp) hv' hs _ _ _ _ _ k1 k2 k3 hb hc
       |dR u hn hl hcc=>exact aP _ _ _ _ s b7.symm hn hl hv' hs _ _ _ _ _ k1 k2 k3 hb hc
   ·simp [RM.run] at h
  ·rename_i cZ
   rw [cZ] at hv
   cases hb:bounds 0 nlo nhi with
   |none=>simp [hb,RM.opt,RM.run] at h
   |some b=>
    by_cases hc:nmx.getD 0=0
    ·simp [hb,hc,RM.opt,RM.run] at h
     obtain ⟨rfl,rfl⟩:=h
     obtain ⟨vv,b7⟩:∃vv,vv=aA x:=⟨_,rfl⟩
     rw [<-b7] at hv
     have hbb:b.1=0/\b.2=0:=by
      unfold bounds at hb
      split at hb
      ·rename_i bR;simp only [KZ] at hb;subst hb;simp only;omega
      ·simp at hb
     have h0:∀m,nmx=some m->m=0:=fun m dc=>by rw [dc] at hc;simpa using hc
     cases hv with
     | @emp A=>
      have eY:=lq (P:=P) (isS:=true) ha (K4 0) h1 h2 h3 k1 k2 k3 ju hb (fun m hm=>by rw [h0 m hm,hbb.2];exact ⟨K4 _,K4 _⟩)
      refine bj hm (key A _ _ b.1 b.2 _ b7.symm eY) ?_
      rw [hbb.1,hbb.2,hc]
      exact .emp
    ·simp [hb,hc,RM.opt,RM.run] at h
  ·rename_i id s off n cZ
   obtain ⟨B,hB,h⟩:=gv h
   rw [cZ] at hv
   have hs:s=sz:=by
    cases nmx with
    |none=>simp only at h;split at h<;>first|assumption|simp [RM.run] at h
    |some m=>simp only [RM.run,hB] at h;split at h<;>first|(rename_i hc;exact hc.1)|simp [RM.run] at h
   ·subst hs
    cases hb:bounds n nlo nhi with
    |none=>
     cases nmx with
     |some m=>exfalso;simp [hb,hB,RM.opt,RM.run] at h
     |none=>
      cases nhi with
      |none=>exfalso;simp [hb,RM.run] at h
      |some hh=>
       simp only [hb,K3,RM.run,hB] at h
       by_cases iP:B.sz=s
       rotate_left
       ·rw [K0 iP] at h;simp [RM.run] at h
       rw [K1 iP] at h
       cases hb2:bounds (B.els.length - off) nlo (some hh) with
       |none=>simp [hb2,RM.opt,RM.run] at h
       |some b=>
        simp [hb2,RM.opt,RM.run] at h
        obtain ⟨rfl,rfl⟩:=h
        have hbb:b.1<=b.2/\b.2<=B.els.length - off:=by
         unfold bounds at hb2
         split at hb2
         ·rename_i bR;simp only [KZ] at hb2;subst hb2;exact bR
         ·simp at hb2
        obtain ⟨vv,b7⟩:∃vv,vv=aA x:=⟨_,rfl⟩
        rw [<-b7] at hv
        have hdd:=alive hm hB
        have hlen:=hm.len id B hB (by have:=hv.pO hdd;omega)
        have cd:∃A c,vv= .slice A n c/\n<=c/\E.ln id<=off+c:=by
         cases hv with
         |own aH hd hbl hq hs cV hl hcc bh=>exact ⟨_,_,rfl,hl,bh⟩
         |bP aH hd hbl bh=>exact ⟨_,_,rfl,K4 _,by omega⟩
         |cr aH hd=>exact absurd hd hdd
        obtain ⟨A,c,rfl,eN,sJ⟩:=cd
        have eY:=lq (P:=P) (isS:=true) (cap:=c) ha (by omega) h1 h2 h3 k1 k2 k3 ju hb2 (fun m hm=>by simp at hm)
        have dU:∃oh,hi=some oh:=by
         rcases pY ha h2 k2 with ⟨_,h⟩|⟨oh,_,_,h,_,_⟩
         ·simp at h
         ·exact ⟨oh,h⟩
        obtain ⟨oh,rfl⟩:=dU
        have Cj:(Instr.sliceBounds true n c (lo.map aA) ((some oh).map aA) (mx.map aA)).run P E.w= .ok (b.1,b.2,c) E.w:=by
         have e:Instr.sliceBounds true n c (lo.map aA) ((some oh).map aA) (mx.map aA)=Instr.sliceBounds true (B.els.length - off) c (lo.map aA) ((some oh).map aA) (mx.map aA):=by
          cases mx<;>rfl
         rw [e];exact eY
        exact bj hm (key A _ c b.1 b.2 c b7.symm Cj) (Cg hv hdd hbb.1 (by omega) (K4 _) sJ)
    |some b=>
     have hbb:b.1<=b.2/\b.2<=n:=by
      unfold bounds at hb
      split at hb
      ·rename_i bR;simp only [KZ] at hb;subst hb;exact bR
      ·simp at hb
     obtain ⟨vv,b7⟩:∃vv,vv=aA x:=⟨_,rfl⟩
     rw [<-b7] at hv
     have own:∀A c m,vv= .slice A n c->af E (.slice A n c) (.own id s off n)->b.2<=m->m<=c->E.ln id<=off+m->af E (.slice (if m=b.1 then A else A.map (·.add (b.1*s))) (b.2 - b.1) (m - b.1)) (.own id s (off+b.1) (b.2 - b.1)):=by
      intro A c m Kp hr pZ ib sI
      cases hr with
      | @own _ _ _ _ _ bb q mm t' aH hd hbl hq hs cV hl hcc bh=>
       by_cases e1:m=b.1
       ·rw [K1 e1]
        refine .own aH hd hbl (.inr (by omega)) hs (Lw (Lv _ (by omega)) cV) (by omega) (by omega) (by omega)
       ·rw [K0 e1]
        simp only [Ld,Md]
        refine .own aH hd hbl (.inl ?_) hs (Lw (Lv _ (by omega)) cV) (by omega) (by omega) (by omega)
        rcases hq with hq|hq
        ·rw [hq,Lt]
        ·omega
      |bP aH hd hbl bh=>
       have mv:b.1=0:=by omega
       have hb2:b.2=0:=by omega
       have fU:m=0:=by omega
       simp only [mv,hb2,fU,Nat.sub_self,L1,K3]
       exact .bP aH hd hbl bh
      |cr aH hd=>exact absurd hd (alive hm hB)
     have cd:∃A c,vv= .slice A n c/\n<=c:=by
      cases hv with
      |own aH hd hbl hq hs cV hl hcc=>exact ⟨_,_,rfl,hl⟩
      |bP aH hd hbl=>exact ⟨_,_,rfl,K4 _⟩
      |cr aH hd=>exact absurd hd (alive hm hB)
     obtain ⟨A,c,rfl,eN⟩:=cd
     cases nmx with
     |none=>
      simp [hb,RM.opt,RM.run] at h
      obtain ⟨rfl,rfl⟩:=h
      have eY:=lq (P:=P) (isS:=true) ha eN h1 h2 h3 k1 k2 k3 ju hb (fun m hm=>by simp at hm)
      refine bj hm (key A _ c b.1 b.2 c b7.symm eY) (own A c c rfl hv (by omega) (K4 _) ?_)
      cases hv with
      |own aH hd hbl hq hs cV hl hcc bh=>exact bh
      |bP aH hd hbl bh=>omega
      |cr aH hd=>exact absurd hd (alive hm hB)
     |some m=>
      simp only [RM.run,hB,true_and] at h
      split at h
      rotate_left
      ·simp [RM.run] at h
      rename_i sI
      simp only [hb,Mq] at h
      split at h
      ·rename_i bR
       simp [RM.opt,RM.run] at h
       obtain ⟨rfl,rfl⟩:=h
       have eY:=lq (P:=P) (isS:=true) ha eN h1 h2 h3 k1 k2 k3 ju hb (fun m' dc=>by simp at dc;subst dc;exact bR)
       refine bj hm (key A _ c b.1 b.2 m b7.symm eY) ?_
       by_cases e1:m=b.1
       ·rw [K1 e1,K1 e1]
        rw [show b.2 - b.1=0 by omega,show m - b.1=0 by omega]
        exact .emp
       ·rw [K0 e1]
        have:=own A c m rfl hv bR.1 (by omega) (by rw [<-hm.len id B hB (by have:=hv.pO (alive hm hB);omega)];exact sI.2)
        rw [K0 e1] at this
        rw [K0 e1]
        exact this
      ·simp [RM.opt,RM.run] at h
  ·simp [RM.run] at h
 ·simp [RM.run] at h
end
open Go.RowKit
section
variable {P:Program} {E:Env} {J:Nat->Prop} {base:Nat} {g:Nat->Option Bk} {aA:Operand->Value} {ρ:Arg->AV} {fresh:Nat}
def eD (E:Env) (sz:Nat) (news:List Value) (ys:List (List AV)):Prop:=
 news.length=ys.length*sz/\∀(i:Nat) cs,ys[i]? =some cs->cs.length=sz/\∀(j:Nat) x,cs[j]? =some x->∃u,news[i*sz+j]? =some u/\u.oneCell'=true/\af E u x
theorem eD.step {E E':Env} (hE:E.Le E') {sz:Nat} {news:List Value} {ys:List (List AV)} (h:eD E sz news ys):eD E' sz news ys:=
 ⟨h.1,fun i cs hi=>⟨(h.2 i cs hi).1,fun j x hj=>by obtain ⟨u,k1,k2,k3⟩:=(h.2 i cs hi).2 j x hj;exact ⟨u,k1,k2,k3.step hE⟩⟩⟩
theorem eD.append {E:Env} {n1 n2:List Value} {y1 y2:List (List AV)} (h1:eD E sz n1 y1) (h2:eD E sz n2 y2):eD E sz (n1++n2) (y1++y2):=by
 refine ⟨by simp [h1.1,h2.1,Lt],fun i cs hi=> ?_⟩
 by_cases hl:i<y1.length
 ·rw [L5 hl] at hi
  refine ⟨(h1.2 i cs hi).1,fun j x hj=> ?_⟩
  obtain ⟨u,k1,k2,k3⟩:=(h1.2 i cs hi).2 j x hj
  exact ⟨u,by rw [L5 (K8.1 k1).1];exact k1,k2,k3⟩
 ·rw [Mg (by omega)] at hi
  refine ⟨(h2.2 _ cs hi).1,fun j x hj=> ?_⟩
  obtain ⟨u,k1,k2,k3⟩:=(h2.2 _ cs hi).2 j x hj
  refine ⟨u, ?_,k2,k3⟩
  have hm:i*sz=y1.length*sz+(i - y1.length)*sz:=by rw [<-Lt];congr 1;omega
  rw [Mg (by rw [h1.1,hm];omega),h1.1,hm,show y1.length*sz+(i - y1.length)*sz+j - y1.length*sz=(i - y1.length)*sz+j by omega]
  exact k1
theorem eD.all {E:Env} (cU:0<sz) (h:eD E sz news ys):∀u,u∈news->u.oneCell'=true:=by
 intro u hu
 obtain ⟨k,hk,rfl⟩:=MK hu
 have hi:k / sz<ys.length:=by rw [h.1] at hk;exact Nat.div_lt_of_lt_mul (by rw [Mn];exact hk)
 have fv:=h.2 (k / sz) _ (Lj hi)
 have hj:k%sz<(ys[k / sz]).length:=by rw [fv.1];exact Nat.mod_lt _ cU
 obtain ⟨u,k1,k2,_⟩:=fv.2 (k%sz) _ (Lj hj)
 have nK:k / sz*sz+k%sz=k:=by rw [Mn];exact Nat.div_add_mod k sz
 rw [nK,Lj hk] at k1
 simp only [KZ] at k1
 rw [k1];exact k2
theorem mw (hm:aD E J base g) (cU:0<sz) (hv:af E v a) (h:(content sz a).run g=some ys):
  ∃A c news,v= .slice A ys.length c/\eD E sz news ys/\(ys.length=0\/∃ad,A=some ad/\∀(j:Nat) u,news[j]? =some u->E.w.cell? (ad.add j)=some u):=by
 have aP:∀v els,af E v (.aP sz els)->∃A c news,v= .slice A els.length c/\eD E sz news els/\(els.length=0\/∃ad,A=some ad/\∀(j:Nat) u,news[j]? =some u->E.w.cell? (ad.add j)=some u):=by
  intro v els hr
  cases hr with
  |dA hc=>exact ⟨_,_,[],rfl,⟨by simp,fun i cs hi=>by simp at hi⟩, .inl rfl⟩
  | @dR b off n c _ _ u hn hl hc hb hz hu eK hr=>
   subst hn
   refine ⟨_,c,(List.range (els.length*sz)).map fun k=>u (k / sz) (k%sz),rfl,⟨by simp,fun i cs hi=>⟨hz i cs hi,fun j x hj=> ?_⟩⟩, .inr ⟨_,rfl,fun k y hk=> ?_⟩⟩
   ·have aX:j<sz:=by have:=(K8.1 hj).1;rw [hz i cs hi] at this;exact this
    have cm:i<els.length:=(K8.1 hi).1
    have hfit:i*sz+sz<=els.length*sz:=by
     have:(i+1)*sz<=els.length*sz:=Lv _ (by omega)
     rw [Lt] at this;omega
    have h1:(i*sz+j) / sz=i:=by rw [Mn,Nat.mul_add_div cU,Nat.div_eq_of_lt aX];rfl
    have h2:(i*sz+j)%sz=j:=by rw [Mn,Nat.mul_add_mod];exact Mo aX
    refine ⟨u i j, ?_,(eK i cs j x hi hj).1,hr i cs j x hi hj⟩
    rw [Lu,List.getElem?_range (by omega)]
    simp [h1,h2]
   ·have xh:k<els.length*sz:=by have:=(K8.1 hk).1;simpa using this
    rw [Lu,List.getElem?_range xh] at hk
    simp only [Ld,KZ] at hk
    subst hk
    have hi:k / sz<els.length:=Nat.div_lt_of_lt_mul (by rw [Mn];exact xh)
    have fv:=Lj hi
    have hj:k%sz<(els[k / sz]).length:=by rw [hz _ _ fv];exact Nat.mod_lt _ cU
    have:=hu _ _ _ _ fv (Lj hj)
    have nK:k / sz*sz+k%sz=k:=by rw [Mn];exact Nat.div_add_mod k sz
    rw [Nat.add_assoc,nK] at this
    rw [Md];exact this
 unfold content at h
 split at h
 ·rename_i s els
  split at h
  ·rename_i hs;subst hs
   simp only [RM.run,KZ] at h;subst h
   exact aP _ _ hv
  ·simp [RM.run] at h
 ·rename_i s els
  split at h
  ·rename_i hs;subst hs
   simp only [RM.run,KZ] at h;subst h
   cases hv with
   |cA hv=>exact aP _ _ hv
  ·simp [RM.run] at h
 ·simp only [RM.run,KZ] at h;subst h
  cases hv with
  |emp=>exact ⟨_,_,[],rfl,⟨by simp,fun i cs hi=>by simp at hi⟩, .inl rfl⟩
 ·rename_i id s off n
  simp only [RM.run] at h
  cases hB:g id with
  |none=>simp [hB] at h
  |some B=>
   simp only [hB] at h
   split at h
   ·rename_i hc
    obtain ⟨h1,h2,h3⟩:=hc
    subst h1
    simp only [RM.run,KZ] at h;subst h
    have hlen:((B.els.drop off).take n).length=n:=by simp;omega
    rw [hlen]
    cases hv with
    |cr hi hd=>exact absurd hd (alive hm hB)
    | @bP _ _ A hi hd hb=>exact ⟨_,_,[],rfl,⟨by simp,fun i cs hi=>by simp at hi⟩, .inl rfl⟩
    | @own _ _ _ _ c b q mm t' hi hd hb hq hs cV hl hcc=>
     have bQ:=hm.at_ id B hB
     rw [hb] at bQ
     obtain ⟨js,arr,t,ha,hfit,dv⟩:=bQ.cells (by first|assumption|omega)
     rw [h2] at hfit dv
     refine ⟨_,c,(arr.toList.drop (off*s)).take (n*s),rfl,⟨?_,fun i cs hi=> ?_⟩, ?_⟩
     ·have:(off+n)*s<=arr.size:=Lw (Lv _ h3) hfit
      rw [Lt] at this
      simp [hlen];omega
     ·rw [Me] at hi
      split at hi
      ·rename_i fW
       rw [Mf] at hi
       refine ⟨(dv _ cs hi).1,fun j x hj=> ?_⟩
       obtain ⟨u,k1,k2,k3⟩:=(dv _ cs hi).2 j x hj
       have aX:j<s:=by have:=(K8.1 hj).1;rw [(dv _ cs hi).1] at this;exact this
       have jv:i*s+s<=n*s:=by
        have:(i+1)*s<=n*s:=Lv _ (by omega)
        rw [Lt] at this;omega
       refine ⟨u, ?_,k2,k3⟩
       rw [Me,K1 (by omega),Mf]
       rw [Lt,Nat.add_assoc] at k1
       simpa using k1
      ·simp at hi
     ·rcases MM n with h0|h0
      ·exact .inl h0
      ·refine .inr ⟨_,rfl,fun j u hj=> ?_⟩
       have gw:q=off*s:=by
        rcases hq with hq|hq
        ·exact hq
        ·omega
       subst gw
       rw [Md,cell_of_row _ _ _ _ _ _ ha]
       rw [Me] at hj
       split at hj
       ·rw [Mf] at hj
        simpa using hj
       ·simp at hj
   ·simp [RM.run] at h
 ·simp [RM.run] at h
end
open Go.RowKit
section
variable {P:Program} {E:Env} {J:Nat->Prop} {base:Nat} {g:Nat->Option Bk} {aA:Operand->Value} {ρ:Arg->AV} {fresh:Nat}
theorem aD.drew (hm:aD E J base g):∃E':Env,E'.w=E.w.drew/\E.Le E'/\aD E' J base g/\(∀id,E'.kn id->E.kn id)/\(∀id,E'.kn id↔E.kn id)/\E'.loc=E.loc/\E'.dead=E.dead:=by
 let E':Env:={ E with w:=E.w.drew }
 have hE:E.Le E':=⟨fun _ h=>h,fun b hb=>⟨hb,rfl⟩,fun _ _ h=>h,fun _ _ _=> .inr rfl,fun _ _ _ _ _=> .inr rfl,fun _ _ _=> .inr rfl,fun _ h=>h,fun _ h=>⟨h,rfl⟩⟩
 exact ⟨E',rfl,hE,⟨hm.live,fun id B hg=>(hm.at_ id B hg).bH hE fun _ _=>rfl,hm.apart,hm.out,hm.low,hm.size,hm.len,hm.gq,hm.xo⟩,fun _ h=>h,fun _=>Iff.rfl,rfl,rfl⟩
theorem aD.move (hm:aD E J base g) (hf:¬E.kn fresh) (id:Nat) (B B':Bk) (hg:g id=some B) (w':World) (hw:∀k,(∀b,E.loc id=some b->k≠b)->w'.heap[k]? =E.w.heap[k]?) (hsz:w'.heap.size=E.w.heap.size)
  (wQ:∀b,E.loc id=some b->w'.shape? b=E.w.shape? b) (hB:∀E':Env,E.Le E'->E'.w=w'->cx E' base B' (E.loc id)):
  ∃E':Env,E'.w=w'/\E.Le E'/\aD E' J base (au g [(id,none),(fresh,some B')])/\E'.kn fresh/\¬E'.dead fresh/\E'.loc fresh=E.loc id/\(∀k,E'.kn k->E.kn k\/k=fresh)/\E'.ln fresh=B'.els.length:=by
 have hid:E.kn id/\¬E.dead id:=(hm.live id).2 ⟨B,hg⟩
 have aC:∀k,E.kn k->k≠fresh:=fun k hi he=>hf (he▸hi)
 have Ck:=aC id hid.1
 let E':Env:={ w:=w',kn:=fun k=>E.kn k\/k=fresh,loc:=fun k=>if k=fresh then E.loc id else E.loc k,dead:=fun k=>(E.dead k\/k=id)/\k≠fresh,I:=E.I,ln:=fun k=>if k=fresh then B'.els.length else E.ln k,rg:=E.rg,X:=E.X }
 have hE:E.Le E':=by
  refine ⟨fun _ h=> .inl h,fun k hk=>⟨hk, ?_⟩,fun k hi hd=>⟨.inl hd,aC k hi⟩,fun k hi hd=> .inr (K0 (aC k hi)),fun k b hi hd hb=> ?_,fun k hi hd=> .inr (K0 (aC k hi)),fun _ h=>h,fun k hk=>⟨hk,hw k fun b hb he=>(hm.xo k hk).2.2 id B hg (he▸hb)⟩⟩
  ·exact hw k fun b hb he=>hm.out id b B hg hb (he▸hk)
  ·by_cases fq:k=id
   ·subst fq;exact .inl ⟨.inr rfl,Ck⟩
   ·right
    obtain ⟨Bk,Cm⟩:=(hm.live k).1 ⟨hi,hd⟩
    have:=hw b fun b' aY he=>fq (hm.apart k id b Bk B Cm hg hb (he▸aY))
    show w'.shape? b=_
    simp only [World.shape?,this]
 have dV:∀k,au g [(id,none),(fresh,some B')] k=if k=fresh then some B' else if k=id then none else g k:=by
  intro k
  simp only [au]
 refine ⟨E',rfl,hE,⟨fun k=> ?_,fun k Bk hk=> ?_,fun k k' b B1 B2 h1 h2 h3 h4=> ?_,fun k b B1 hk hb hI=> ?_,fun k hk=> ?_, ?_,fun k B1 hk cG=> ?_,hm.gq,fun b hb=>⟨by show b<w'.heap.size;rw [hsz];exact (hm.xo b hb).1,(hm.xo b hb).2.1,fun k B1 hk he=> ?_⟩⟩, .inr rfl,fun hd=>hd.2 rfl,K1 rfl,fun k hk=>hk,K1 rfl⟩
 ·rw [dV]
  by_cases h1:k=fresh
  ·subst h1;simp [E']
  ·by_cases h2:k=id
   ·subst h2;simp [E',h1]
   ·simp only [h1,h2,Lx, <-hm.live k]
    simp [E',h1,h2]
 ·rw [dV] at hk
  by_cases h1:k=fresh
  ·subst h1
   simp only [K3,KZ] at hk
   subst hk
   show cx E' base B' (if k=k then _ else _)
   rw [K1 rfl]
   exact hB E' hE rfl
  ·rw [K0 h1] at hk
   by_cases h2:k=id
   ·rw [K1 h2] at hk;simp at hk
   ·rw [K0 h2] at hk
    show cx E' base Bk (if k=fresh then _ else _)
    rw [K0 h1]
    exact (hm.at_ k Bk hk).bH hE fun b hb=>hw b fun b' aY he=>h2 (hm.apart k id b Bk B hk hg hb (he▸aY))
 ·rw [dV] at h1 h2
  have e3:(if k=fresh then E.loc id else E.loc k)=some b:=h3
  have e4:(if k'=fresh then E.loc id else E.loc k')=some b:=h4
  by_cases a1:k=fresh<;>by_cases a2:k'=fresh
  ·rw [a1,a2]
  ·rw [K1 a1] at e3;rw [K0 a2] at e4 h2
   by_cases a3:k'=id
   ·rw [K1 a3] at h2;simp at h2
   ·rw [K0 a3] at h2
    exact absurd (hm.apart k' id b B2 B h2 hg e4 e3) a3
  ·rw [K0 a1] at e3 h1;rw [K1 a2] at e4
   by_cases a3:k=id
   ·rw [K1 a3] at h1;simp at h1
   ·rw [K0 a3] at h1
    exact absurd (hm.apart k id b B1 B h1 hg e3 e4) a3
  ·rw [K0 a1] at e3 h1;rw [K0 a2] at e4 h2
   by_cases a3:k=id
   ·rw [K1 a3] at h1;simp at h1
   ·by_cases a4:k'=id
    ·rw [K1 a4] at h2;simp at h2
    ·rw [K0 a3] at h1;rw [K0 a4] at h2
     exact hm.apart k k' b B1 B2 h1 h2 e3 e4
 ·rw [dV] at hk
  have e3:(if k=fresh then E.loc id else E.loc k)=some b:=hb
  by_cases a1:k=fresh
  ·rw [K1 a1] at e3
   exact hm.out id b B hg e3 hI
  ·rw [K0 a1] at e3 hk
   by_cases a3:k=id
   ·rw [K1 a3] at hk;simp at hk
   ·rw [K0 a3] at hk
    exact hm.out k b B1 hk e3 hI
 ·have:=hm.low k hk
  exact ⟨by show k<w'.heap.size;rw [hsz];exact this.1,this.2⟩
 ·show base<=w'.heap.size
  rw [hsz];exact hm.size
 ·rw [dV] at hk
  show _=if k=fresh then _ else _
  by_cases a1:k=fresh
  ·rw [K1 a1] at hk ⊢
   simp only [KZ] at hk;rw [hk]
  ·rw [K0 a1] at hk ⊢
   by_cases a3:k=id
   ·rw [K1 a3] at hk;simp at hk
   ·rw [K0 a3] at hk
    exact hm.len k B1 hk cG
 ·rw [dV] at hk
  have e3:(if k=fresh then E.loc id else E.loc k)=some b:=he
  by_cases a1:k=fresh
  ·rw [K1 a1] at e3
   exact (hm.xo b hb).2.2 id B hg e3
  ·rw [K0 a1] at e3 hk
   by_cases a3:k=id
   ·rw [K1 a3] at hk;simp at hk
   ·rw [K0 a3] at hk
    exact (hm.xo b hb).2.2 k B1 hk e3
theorem aD.p9 (hm:aD E J base g) (hf:¬E.kn fresh) (sz:Nat):
  ∃E':Env,E'.w=E.w/\E.Le E'/\aD E' J base (au g [(fresh,some ⟨sz,[]⟩)])/\E'.kn fresh/\¬E'.dead fresh/\E'.loc fresh=none/\(∀k,E'.kn k->E.kn k\/k=fresh)/\E'.ln fresh=0:=by
 have aC:∀k,E.kn k->k≠fresh:=fun k hi he=>hf (he▸hi)
 let E':Env:={ w:=E.w,kn:=fun k=>E.kn k\/k=fresh,loc:=fun k=>if k=fresh then none else E.loc k,dead:=fun k=>E.dead k/\k≠fresh,I:=E.I,ln:=fun k=>if k=fresh then 0 else E.ln k,rg:=E.rg,X:=E.X }
 have hE:E.Le E':=⟨fun _ h=> .inl h,fun b hb=>⟨hb,rfl⟩,fun k hi hd=>⟨hd,aC k hi⟩,fun k hi hd=> .inr (K0 (aC k hi)),fun _ _ _ _ _=> .inr rfl,fun k hi hd=> .inr (K0 (aC k hi)),fun _ h=>h,fun _ h=>⟨h,rfl⟩⟩
 refine ⟨E',rfl,hE,⟨fun k=> ?_,fun k Bk hk=> ?_,fun k k' b B1 B2 h1 h2 h3 h4=> ?_,fun k b B1 hk hb hI=> ?_,hm.low,hm.size,fun k B1 hk cG=> ?_,hm.gq,fun b hb=>⟨(hm.xo b hb).1,(hm.xo b hb).2.1,fun k B1 hk he=> ?_⟩⟩, .inr rfl,fun hd=>hd.2 rfl,K1 rfl,fun k hk=>hk,K1 rfl⟩
 ·simp only [au]
  by_cases h1:k=fresh
  ·subst h1;simp [E']
  ·simp only [h1,Lx, <-hm.live k]
   simp [E',h1]
 ·simp only [au] at hk
  by_cases h1:k=fresh
  ·subst h1
   simp only [K3,KZ] at hk
   subst hk
   show cx E' base _ (if k=k then _ else _)
   rw [K1 rfl]
   rfl
  ·rw [K0 h1] at hk
   show cx E' base Bk (if k=fresh then _ else _)
   rw [K0 h1]
   exact (hm.at_ k Bk hk).bH hE fun _ _=>rfl
 ·simp only [au] at h1 h2
  have e3:(if k=fresh then none else E.loc k)=some b:=h3
  have e4:(if k'=fresh then none else E.loc k')=some b:=h4
  by_cases a1:k=fresh
  ·rw [K1 a1] at e3;simp at e3
  ·by_cases a2:k'=fresh
   ·rw [K1 a2] at e4;simp at e4
   ·rw [K0 a1] at e3 h1;rw [K0 a2] at e4 h2
    exact hm.apart k k' b B1 B2 h1 h2 e3 e4
 ·simp only [au] at hk
  have e3:(if k=fresh then none else E.loc k)=some b:=hb
  by_cases a1:k=fresh
  ·rw [K1 a1] at e3;simp at e3
  ·rw [K0 a1] at e3 hk
   exact hm.out k b B1 hk e3 hI
 ·simp only [au] at hk
  show _=if k=fresh then _ else _
  by_cases a1:k=fresh
  ·rw [K1 a1] at hk ⊢
   simp only [KZ] at hk;rw [<-hk];rfl
  ·rw [K0 a1] at hk ⊢
   exact hm.len k B1 hk cG
 ·simp only [au] at hk
  have e3:(if k=fresh then none else E.loc k)=some b:=he
  by_cases a1:k=fresh
  ·rw [K1 a1] at e3;simp at e3
  ·rw [K0 a1] at e3 hk
   exact (hm.xo b hb).2.2 k B1 hk e3
theorem cB {α β:Type} {g:Nat->Option Bk} {f:α->RM β} {y:β}:∀{m:RM α},(m.bind f).run g=some y->∃x,m.run g=some x/\(f x).run g=some y
 | .ret a,h=>⟨a,rfl,h⟩
 | .fail,h=>by simp [RM.bind,RM.run] at h
 | .rd id k,h=>by
  simp only [RM.bind,RM.run] at h ⊢
  cases hg:g id with
  |none=>simp [hg] at h
  |some B=>simp only [hg] at h ⊢; exact cB h
 | .lv id k,h=>by
  simp only [RM.bind,RM.run] at h ⊢
  cases hg:g id with
  |none=>simp [hg] at h
  |some B=>simp only [hg] at h ⊢; exact cB h
theorem sK {i:TypeInfo} {z:Value} (ht:P.underlying t=some (.slice e)) (hi:P.info? e=some i) (hz:i.zero=some z) (hs:i.size=sz) (hcs:z.cells.size=sz) (lp:0<i.bytes)
  (hm:aD E J base g) {es:List (List AV)} (ho:eD E sz olds es) (hn:n=es.length) (hA:n=0\/∃ad,A=some ad/\∀(j:Nat) u,olds[j]? =some u->E.w.cell? (ad.add j)=some u) (ky:A=none->c=0)
  {ad:Addr} {m:Nat} (hy:eD E sz news ys) (Co:m=ys.length) (fw:∀(j:Nat) u,news[j]? =some u->E.w.cell? (ad.add j)=some u) (cU:0<m) (hg:c<n+m) (hb:(n+m)*i.bytes<=140737488355328):
  ∃cap arr,(Builtin.append_ #[t,t] ty #[.slice A n c, .slice (some ad) m c2]).run P E.w= .ok (.slice (some ⟨E.w.heap.size,0,none⟩) (n+m) cap) (E.w.drew.alloc (.cells arr e))/\n+m<=cap/\cap<=9223372036854775807/\arr.size=cap*sz/\
   ∀(j:Nat) u,(olds++news)[j]? =some u->arr[j]? =some u:=by
 have hle:n+m<=(n+m)*i.bytes:=Nat.le_mul_of_pos_right _ lp
 have qc:olds.length=n*i.size:=by rw [ho.1,hn,hs]
 have nL:news.length=m*i.size:=by rw [hy.1,Co,hs]
 have Cp:=grownCap_ge E.w (n+m) c e
 have ic:=grownCap_le_maxLen E.w (n+m) c e (by simp only [maxLen];omega)
 have Cq:grownCap E.w (n+m) c e<=9223372036854775807:=by simp only [maxLen] at ic;omega
 have Cr:(olds.toArray++news.toArray++Builtin.zeroCells z.cells (grownCap E.w (n+m) c e - (n+m))).size=grownCap E.w (n+m) c e*sz:=by
  simp only [Array.size_append,List.size_toArray,size_zeroCells,hcs,qc,nL,hs, <-Lt]
  congr 1;omega
 refine ⟨grownCap E.w (n+m) c e,_, ?_,Cp,Cq,Cr,fun j u hj=> ?_⟩
 ·cases A with
  |some a=>
   refine run_append_grow (P:=P) E.w t ty e i z ht hi hz a n c olds qc ?_ ad m c2 news nL fw hg (by omega) (growslice_fits hg hb)
   rcases hA with h0|⟨xi,h1,h2⟩
   ·intro j v hj
    have:olds.length=0:=by rw [qc,h0];simp
    have kz:=Mr this
    subst kz;simp at hj
   ·simp only [KZ] at h1;subst h1;exact h2
  |none=>
   have hc0:=ky rfl
   have lu:n=0:=by
    rcases hA with h0|⟨_,h1,_⟩
    ·exact h0
    ·simp at h1
   have hole:olds=[]:=Mr (by rw [qc,lu];simp)
   have hbb:=hb
   rw [lu,Lh] at hbb
   have hr:=run_append_nil (P:=P) E.w t ty e i z ht hi hz ad m c2 news nL fw cU (by omega) (by omega)
   rw [lu,hc0,hole]
   simpa using hr
 ·have aX:j<(olds++news).length:=(K8.1 hj).1
  rw [MX (by simpa using aX)]
  simpa using hj
theorem sL (hm:aD E J base g) (hf:¬E.kn fresh) {arr:Array Value} (hn:n=els.length) (cu:eD E sz olds els) (sH:n<=cap) (sM:cap<=9223372036854775807) (hsz:arr.size=cap*sz) (hZ:∀(j:Nat) u,olds[j]? =some u->arr[j]? =some u)
 (hr:r= .ok (.value (.slice (some ⟨E.w.heap.size,0,none⟩) n cap)) (E.w.drew.alloc (.cells arr e))) (hz:sz≠0:=by first|assumption|omega):bB E J base g r (.own fresh sz 0 n) [(fresh,some ⟨sz,els⟩)]:=by
 obtain ⟨E1,fX,gK,hM1,_,nM,Cs,gx⟩:=hm.drew
 obtain ⟨E',hw,hE,hM,k1,k2,k3,k4,k5⟩:=hM1.alloc fresh (fun h=>hf ((nM _).1 h)) arr e ⟨sz,els⟩ (fun E' hE=>by
  refine ⟨by rw [hsz, <-hn];exact Lv _ sH,fun i cs hi=>⟨(cu.2 i cs hi).1,fun j x hj=> ?_⟩⟩
  obtain ⟨u,m1,m2,m3⟩:=(cu.2 i cs hi).2 j x hj
  exact ⟨u,hZ _ _ m1,m2,m3.step (gK.trans hE)⟩) hz
 rw [fX] at hw
 refine ⟨_, .slice (some ⟨E.w.heap.size,0,none⟩) n cap,E',by rw [hw];exact hr, .inl rfl,gK.trans hE, ?_,hM, ?_,fun id hi=> ?_⟩
 ·refine .own k1 k2 (b:=E.w.heap.size) (by rw [k3,fX];rfl) (.inl (by simp)) (t:=e) (m:=arr.size) ?_ (by rw [hsz];simp) sH sM (by rw [k5];dsimp only;omega)
  rw [hw]
  unfold World.shape?
  rw [show E.w.heap.size=E.w.drew.heap.size from rfl,heap_alloc_new]
 ·rw [hw]
  exact ((LN _ _).drew).alloc (by simpa using hm.size) _
 ·rcases k4 id hi with h|h
  ·exact .inl ((nM _).1 h)
  ·exact .inr (by simp [h])
theorem xj {α:Type} {cs ys:List α} (h:o+ys.length<=cs.length) (j:Nat):(cs.take o++ys++cs.drop (o+ys.length))[j]? =if j<o then cs[j]? else if j<o+ys.length then ys[j - o]? else cs[j]? :=by
 rw [Ml,MB,Mm,Nat.min_eq_left (by omega)]
 by_cases h1:j<o
 ·simp [h1]
 ·rw [K0 h1,K0 h1,MB]
  by_cases h2:j<o+ys.length
  ·rw [K1 (by omega),K1 h2]
  ·rw [K0 (by omega),K0 h2,Mf]
   congr 1;omega
theorem sN (hm:aD E J base g) {id:Nat} {B:Bk} (hB:g id=some B) (hl:E.loc id=some b) (cu:eD E B.sz news ys) (cU:0<B.sz) (hfit:off+ys.length<=B.els.length):
  ∃E',(storeCells ⟨b,off*B.sz,none⟩ news).run P E.w= .ok () E'.w/\E.Le E'/\aD E' J base (au g [(id,some ⟨B.sz,B.els.take off++ys++B.els.drop (off+ys.length)⟩)])/\Below base E.w E'.w/\(∀k,E'.kn k->E.kn k):=by
 have bQ:=hm.at_ id B hB
 rw [hl] at bQ
 obtain ⟨js,arr,t,ha,hlen,dv⟩:=bQ.cells (by first|assumption|omega)
 have nL:news.length=ys.length*B.sz:=cu.1
 have jv:off*B.sz+news.length<=arr.size:=by
  rw [nL, <-Lt]
  exact Lw (Lv _ hfit) hlen
 have dO:=pS P b (off*B.sz) t.1 t.2 news 0 arr E.w ha (by simpa using jv) (cu.all cU)
 simp only [L1] at dO
 obtain ⟨E',hw,hE,hM,ba⟩:=hm.set id b B ⟨B.sz,B.els.take off++ys++B.els.drop (off+ys.length)⟩ hB hl arr
  (arr.toList.take (off*B.sz)++news++arr.toList.drop (off*B.sz+news.length)).toArray t ha (by simp;omega) (by simp;omega) (fun E' hE=>by
   refine ⟨by simp;rw [show min off B.els.length+(ys.length+(B.els.length - (off+ys.length)))=B.els.length by omega];exact hlen,fun i cs hi=> ?_⟩
   dsimp only at hi ⊢
   rw [xj hfit] at hi
   have hZ:∀k,(arr.toList.take (off*B.sz)++news++arr.toList.drop (off*B.sz+news.length)).toArray[k]? =if k<off*B.sz then arr[k]? else if k<off*B.sz+news.length then news[k - off*B.sz]? else arr[k]? :=by
    intro k
    rw [List.getElem?_toArray,xj (by simpa using jv)]
    simp
   have aL:B.els[i]? =some cs->(i<off\/off+ys.length<=i)->cs.length=B.sz/\∀(j:Nat) x,cs[j]? =some x->∃u,(arr.toList.take (off*B.sz)++news++arr.toList.drop (off*B.sz+news.length)).toArray[i*B.sz+j]? =some u/\u.oneCell'=true/\af E' u x:=by
    intro hi Cu
    refine ⟨(dv i cs hi).1,fun j x hj=> ?_⟩
    obtain ⟨u,k1,k2,k3⟩:=(dv i cs hi).2 j x hj
    have aX:j<B.sz:=by rw [<-(dv i cs hi).1];exact (K8.1 hj).1
    refine ⟨u, ?_,k2,k3.step hE⟩
    rw [hZ]
    rcases Cu with h1|h1
    ·have:(i+1)*B.sz<=off*B.sz:=Lv _ (by omega)
     rw [Lt] at this
     rw [K1 (by omega)];exact k1
    ·have:(off+ys.length)*B.sz<=i*B.sz:=Lv _ h1
     rw [Lt] at this
     rw [K0 (by omega),K0 (by omega)];exact k1
   by_cases h1:i<off
   ·rw [K1 h1] at hi;exact aL hi (.inl h1)
   ·rw [K0 h1] at hi
    by_cases h2:i<off+ys.length
    ·rw [K1 h2] at hi
     refine ⟨(cu.2 _ cs hi).1,fun j x hj=> ?_⟩
     obtain ⟨u,m1,m2,m3⟩:=(cu.2 _ cs hi).2 j x hj
     have aX:j<B.sz:=by rw [<-(cu.2 _ cs hi).1];exact (K8.1 hj).1
     refine ⟨u, ?_,m2,m3.step hE⟩
     rw [hZ]
     have e1:off*B.sz<=i*B.sz:=Lv _ (by omega)
     have e2:(i - off)*B.sz=i*B.sz - off*B.sz:=Nat.sub_mul _ _ _
     rw [K0 (by omega),K1 (by have:=(K8.1 m1).1;omega),show i*B.sz+j - off*B.sz=(i - off)*B.sz+j by omega]
     exact m1
    ·rw [K0 h2] at hi
     exact aL hi (.inr (by omega)))
 refine ⟨E',by rw [hw];exact dO,hE,hM, ?_,ba⟩
 rw [hw]
 exact ⟨rfl,rfl,rfl,by simp [World.setRow],fun k hk=>setRow_other _ _ _ _ (by omega)⟩
theorem sO {g:Nat->Option Bk} {id:Nat} {B:Bk} (h:g id=some B):au g [(id,some B)]=g:=by
 funext k
 simp only [au]
 by_cases hk:k=id
 ·subst hk;rw [K1 rfl,h]
 ·rw [K0 hk]
theorem Cv {g:Nat->Option Bk} {fresh:Nat} (h:g fresh=none):au g [(fresh,none)]=g:=by
 funext k
 simp only [au]
 by_cases hk:k=fresh
 ·subst hk;rw [K1 rfl,h]
 ·rw [K0 hk]
theorem Cw {g:Nat->Option Bk} {id fresh:Nat} {B B':Bk} (hB:g id=some B) (h:g fresh=none):au g [(id,some B'),(fresh,none)]=au g [(id,some B')]:=by
 have:au g [(id,some B'),(fresh,none)]=au (au g [(id,some B')]) [(fresh,none)]:=rfl
 rw [this]
 refine Cv ?_
 simp only [au]
 by_cases hk:fresh=id
 ·subst hk;rw [hB] at h;simp at h
 ·rw [K0 hk];exact h
theorem Cx (hm:aD E J base g) (hf:¬E.kn fresh):g fresh=none:=by
 cases h:g fresh with
 |none=>rfl
 |some B=>exact absurd ((hm.live fresh).2 ⟨B,h⟩).1 hf
theorem Cy (hm:aD E J base g) (hf:¬E.kn fresh) {i:TypeInfo} (ht:P.underlying t=some (.slice e)) (hi:P.info? e=some i) (hs:i.size=sz) (cU:0<sz) {vs:Value} {id:Nat} (hvs:af E vs (.own id sz off n)) {A2:Option Addr}
  (cu:eD E sz news ys) (dE:ys.length=0\/∃ad,A2=some ad/\∀(j:Nat) u,news[j]? =some u->E.w.cell? (ad.add j)=some u) {B:Bk} (hB:g id=some B) (fY:B.sz=sz) (hfit:off+n+ys.length<=B.els.length)
  (stay:∀A n c,vs= .slice A n c->n<=c->ys.length=0->(Builtin.append_ #[t,t] ty #[vs, .slice A2 ys.length c2]).run P E.w= .ok vs E.w):
  bB E J base g ((do pure (Next.value (<-Builtin.append_ #[t,t] ty #[vs, .slice A2 ys.length c2])):Sem Next).run P E.w) (.own id sz off (n+ys.length)) [(id,some ⟨B.sz,B.els.take (off+n)++ys++B.els.drop (off+n+ys.length)⟩),(fresh,none)]:=by
 rw [bB,Cw hB (Cx hm hf)]
 have hlen:=hm.len id B hB (by omega)
 rcases MM ys.length with h0|h0
 ·have nN:ys=[]:=Mr h0
  have nO:(⟨B.sz,B.els.take (off+n)++ys++B.els.drop (off+n+ys.length)⟩:Bk)=B:=by
   rw [nN];simp
  rw [nO,sO hB]
  obtain ⟨A,c,rfl,eN⟩:∃A c,vs= .slice A n c/\n<=c:=by
   cases hvs with
   |own aH hd hbl hq gL cV hl hcc=>exact ⟨_,_,rfl,hl⟩
   |bP aH hd hbl=>exact ⟨_,_,rfl,K4 _⟩
   |cr aH hd=>exact absurd hd (alive hm hB)
  refine ⟨_, .slice A n c,E,by simp [stay A n c rfl eN h0], .inl rfl,Env.Le.refl E,by rw [h0];exact hvs,hm,LN _ _,fun _ h=> .inl h⟩
 ·obtain ⟨ad,rfl,fw⟩:=dE.resolve_left (by omega)
  have Cz:=hvs
  cases hvs with
  |cr aH hd=>exact absurd hd (alive hm hB)
  |bP aH hd hb bh=>omega
  | @own _ _ _ _ c b q mm t' aH hd hbl hq gL cV hl hcc bh=>
   have nP:n+ys.length<=c:=by omega
   have gw:q=off*sz:=by
    rcases hq with hq|hq
    ·exact hq
    ·omega
   subst gw
   subst fY
   obtain ⟨E',dO,hE,hM,nQ,ba⟩:=sN (P:=P) hm hB hbl cu cU hfit
   have gM:=run_firstCells_some (P:=P) E.w i.size ys.length ad ys.length c2 news (by rw [cu.1,hs]) fw
   rw [hs] at gM
   have nR:=(hM.live id).2 ⟨⟨B.sz,B.els.take (off+n)++ys++B.els.drop (off+n+ys.length)⟩,by simp [au]⟩
   have hr':=Cz.step hE
   refine ⟨_, .slice (some ⟨b,off*B.sz,none⟩) (n+ys.length) c,E', ?_, .inl rfl,hE, ?_,hM,nQ,fun ct aH=> .inl (ba _ aH)⟩
   ·rw [Lt] at dO
    simp [Builtin.append_,run_underlying ht,sizeOf,typeInfo,hi,Builtin.lenOf,nP,gM,Md,hs,dO]
   ·cases hr' with
    |cr aH hd=>exact absurd hd nR.2
    |bP=>omega
    |own a1 a2 a3 a4 a5 a6 a7 a8 a9=>exact .own a1 a2 a3 a4 a5 a6 nP a8 a9
theorem CA (hm:aD E J base g) {zs:List AV} (ht:P.underlying t=some (.slice e)) (hz:fu P e=some zs) (cU:0<zs.length) (hvx:af E vx (ρ x))
  (h:((AO.clr zs x).ae fresh ρ).run g=some (.done val ups)):bB E J base g ((do pure (Next.value (<-Builtin.clear_ #[t] ty #[vx])):Sem Next).run P E.w) val ups:=by
 obtain ⟨i,z,hi,cG,hs,hcs,dD,cI⟩:=lg hz
 simp only [AO.ae] at h
 split at h
 ·rename_i hx
  rw [hx] at hvx
  simp only [RM.run,KZ,Out.done.injEq] at h
  obtain ⟨rfl,rfl⟩:=h
  cases hvx with
  | @emp A=>
   refine bj hm (v:= .tuple #[]) ?_ (.v rfl)
   cases A<;>simp [Builtin.clear_,run_underlying ht]
 ·rename_i id s off n hx
  rw [hx] at hvx
  simp only [RM.run] at h
  cases hB:g id with
  |none=>simp [hB] at h
  |some B=>
   simp only [hB] at h
   split at h
   ·rename_i hc
    obtain ⟨rfl,fY,hfit⟩:=hc
    simp only [RM.run,KZ,Out.done.injEq] at h
    obtain ⟨rfl,rfl⟩:=h
    have nothing:n=0->bB E J base g (.ok (.value (.tuple #[])) E.w) (.v undef) [(id,some ⟨B.sz,B.els.take off++List.replicate n zs++B.els.drop (off+n)⟩)]:=by
     intro h0
     have nO:(⟨B.sz,B.els.take off++List.replicate n zs++B.els.drop (off+n)⟩:Bk)=B:=by subst h0;simp
     rw [nO,bB,sO hB]
     exact ⟨_, .tuple #[],E,rfl, .inl rfl,Env.Le.refl E, .v rfl,hm,LN _ _,fun _ h=> .inl h⟩
    cases hvx with
    |cr aH hd=>exact absurd hd (alive hm hB)
    | @bP _ _ A aH hd hb bh=>
     have:=nothing rfl
     cases A<;>simpa [Builtin.clear_,run_underlying ht] using this
    | @own _ _ _ _ c b q mm t' aH hd hbl hq gL cV hl hcc bh=>
     rcases MM n with h0|h0
     ·have:=nothing h0
      subst h0
      simpa [Builtin.clear_,run_underlying ht] using this
     ·have gw:q=off*zs.length:=by
       rcases hq with hq|hq
       ·exact hq
       ·omega
      subst gw
      have cu:eD E B.sz (Builtin.zeroCells z.cells n).toList (List.replicate n zs):=by
       rw [fY]
       refine ⟨by simp [size_zeroCells,hcs],fun i' cs aH=> ?_⟩
       have cm:i'<n:=by have:=(K8.1 aH).1;simpa using this
       simp [cm] at aH
       subst aH
       refine ⟨rfl,fun j x hj=> ?_⟩
       have aX:j<zs.length:=(K8.1 hj).1
       have ia:j<z.cells.size:=by omega
       have Kr:i'*zs.length+zs.length<=n*zs.length:=by
        have:(i'+1)*zs.length<=n*zs.length:=Lv _ (by omega)
        rw [Lt] at this;omega
       have nI:(i'*zs.length+j)%z.cells.size=j:=by rw [hcs,Mn,Nat.mul_add_mod];exact Mo aX
       refine ⟨z.cells[j], ?_, ?_,cI E j _ x (Lg ia) hj⟩
       ·rw [Array.getElem?_toList,Lg (by simp only [size_zeroCells,hcs];omega)]
        simp [Builtin.zeroCells,nI,ia]
       ·refine (cI E j _ x (Lg ia) hj).one ?_
        simp only [K6] at dD
        have:=(K8.1 hj).2
        rw [<-this];exact dD _ (List.getElem_mem _)
      obtain ⟨E',dO,hE,hM,nQ,ba⟩:=sN (P:=P) hm hB hbl cu (by omega) (off:=off) (by simpa using hfit)
      simp only [MW] at hM
      refine ⟨_, .tuple #[],E', ?_, .inl rfl,hE, .v rfl,hM,nQ,fun ct aH=> .inl (ba _ aH)⟩
      rw [fY] at dO
      obtain ⟨n',rfl⟩:∃n',n=n'+1:=⟨n - 1,by omega⟩
      simp [Builtin.clear_,run_underlying ht,zeroValue,typeInfo,hi,cG,dO]
   ·simp [RM.run] at h
 ·simp [RM.run] at h
theorem CB (hm:aD E J base g) {u:TypeId} (ht:P.underlying t=some (.slice e)) (hz:szOf P e=some sz) (cU:0<sz) (hvx:af E vx (ρ x)) (hvy:af E vy (ρ y))
  (h:((AO.cpy sz x y).ae fresh ρ).run g=some (.done val ups)) (sP:Array TypeId) (sQ:sP[0]? =some t):bB E J base g ((do pure (Next.value (<-Builtin.copy_ sP ty #[vx,vy])):Sem Next).run P E.w) val ups:=by
 have sR:=kx hz E.w
 simp only [AO.ae] at h
 have eY:=cB h
 clear h
 obtain ⟨ys,iQ,h⟩:=eY
 obtain ⟨A2,c2,news,rfl,cu,dE⟩:=mw hm cU hvy iQ
 split at h
 ·rename_i id s off n hx
  rw [hx] at hvx
  simp only [RM.run] at h
  cases hB:g id with
  |none=>simp [hB] at h
  |some B=>
   simp only [hB] at h
   split at h
   ·rename_i hc
    obtain ⟨rfl,fY,hfit⟩:=hc
    simp only [RM.run,KZ,Out.done.injEq] at h
    obtain ⟨rfl,rfl⟩:=h
    have Ks:Nat.min ys.length n=min ys.length n:=rfl
    have nothing:min ys.length n=0->bB E J base g (.ok (.value (goInt 0)) E.w) (.v (goInt (min ys.length n:Nat))) [(id,some ⟨B.sz,B.els.take off++ys.take n++B.els.drop (off+min ys.length n)⟩)]:=by
     intro h0
     have hy:ys.take n=[]:=by
      apply Mr;rw [Mm];omega
     have nO:(⟨B.sz,B.els.take off++ys.take n++B.els.drop (off+min ys.length n)⟩:Bk)=B:=by rw [hy,h0];simp
     rw [nO,bB,sO hB,h0]
     exact ⟨_,goInt 0,E,rfl, .inl rfl,Env.Le.refl E, .v rfl,hm,LN _ _,fun _ h=> .inl h⟩
    have my:∀A c,(Builtin.firstCells s 0 (.slice A ys.length c)).run P E.w= .ok #[] E.w:=by
     intro A c
     cases A with
     |none=>simp [Builtin.firstCells]
     |some a=>simp [Builtin.firstCells,loadCells,loadCellsFrom]
    have xk:∀A c,vx= .slice A n c->min ys.length n=0->(do pure (Next.value (<-Builtin.copy_ sP ty #[vx, .slice A2 ys.length c2])):Sem Next).run P E.w= .ok (.value (goInt 0)) E.w:=by
     intro A c hv h0
     have kz:Nat.min ys.length n=0:=h0
     subst hv
     cases A with
     |none=>simp [Builtin.copy_,sQ,run_underlying ht,sR,Builtin.lenOf,kz,my]
     |some a=>simp [Builtin.copy_,sQ,run_underlying ht,sR,Builtin.lenOf,kz,my,storeCells]
    cases hvx with
    |cr aH hd=>exact absurd hd (alive hm hB)
    | @bP _ _ A aH hd hb bh=>
     rw [xk A 0 rfl (by omega)];exact nothing (by omega)
    | @own _ _ _ _ c b q mm t' aH hd hbl hq gL cV hl hcc bh=>
     rcases MM (min ys.length n) with h0|h0
     ·rw [xk _ c rfl h0];exact nothing h0
     ·have gw:q=off*s:=by
       rcases hq with hq|hq
       ·exact hq
       ·omega
      subst gw
      obtain ⟨ad,rfl,fw⟩:=dE.resolve_left (by omega)
      subst fY
      have qd:(ys.take n).length=min ys.length n:=by rw [Mm];omega
      have xl:eD E B.sz (news.take (min ys.length n*B.sz)) (ys.take n):=by
       have hle:min ys.length n*B.sz<=ys.length*B.sz:=Lv _ (by omega)
       refine ⟨by rw [qd,Mm,cu.1];omega,fun i cs hi=> ?_⟩
       rw [Me] at hi
       split at hi
       ·rename_i fW
        have cm:=(K8.1 hi).1
        refine ⟨(cu.2 i cs hi).1,fun j x hj=> ?_⟩
        obtain ⟨u,m1,m2,m3⟩:=(cu.2 i cs hi).2 j x hj
        have aX:j<B.sz:=by rw [<-(cu.2 i cs hi).1];exact (K8.1 hj).1
        have jv:i*B.sz+B.sz<=min ys.length n*B.sz:=by
         have:(i+1)*B.sz<=min ys.length n*B.sz:=Lv _ (by omega)
         rw [Lt] at this;omega
        exact ⟨u,by rw [Me,K1 (by omega)];exact m1,m2,m3⟩
       ·simp at hi
      obtain ⟨E',dO,hE,hM,nQ,ba⟩:=sN (P:=P) hm hB hbl xl cU (off:=off) (by rw [qd];omega)
      rw [qd] at hM
      have gM:=run_firstCells_some (P:=P) E.w B.sz (min ys.length n) ad ys.length c2 (news.take (min ys.length n*B.sz)) (by rw [xl.1,qd]) (fun j u hj=>by
       rw [Me] at hj
       split at hj
       ·exact fw j u hj
       ·simp at hj)
      refine ⟨_,goInt (min ys.length n:Nat),E', ?_, .inl rfl,hE, .v rfl,hM,nQ,fun ct aH=> .inl (ba _ aH)⟩
      have CC:(Builtin.firstCells B.sz (Nat.min ys.length n) (.slice (some ad) ys.length c2)).run P E.w=_:=gM
      simp [Builtin.copy_,sQ,run_underlying ht,sR,Builtin.lenOf,CC,dO]
   ·simp [RM.run] at h
 ·simp [RM.run] at h
theorem CE (hm:aD E J base g) (hf:¬E.kn fresh) {i:TypeInfo} {zs:List AV} (ht:P.underlying t=some (.slice e)) (hz:fu P e=some zs) (hi:P.info? e=some i) (cU:0<zs.length) (lp:0<i.bytes) {vs:Value} {s:Arg} (hvs:af E vs (ρ s)) (hvx:af E vx (ρ x))
 (h:((AO.app zs.length i.bytes s x).ae fresh ρ).run g=some (.done val ups)):
  bB E J base g ((do pure (Next.value (<-Builtin.append_ #[t,t] ty #[vs,vx])):Sem Next).run P E.w) val ups:=by
 obtain ⟨i',z,aH,cG,hs,hcs,dD,cI⟩:=lg hz
 obtain rfl:i=i':=by rw [hi] at aH;simpa using aH
 simp only [AO.ae] at h
 obtain ⟨ys,iQ,h⟩:=cB h
 obtain ⟨A2,c2,news,rfl,cu,dE⟩:=mw hm cU hvx iQ
 -- nothing to append: ig slice stays
 have stay:∀A n c,vs= .slice A n c->n<=c->ys.length=0->(Builtin.append_ #[t,t] ty #[vs, .slice A2 ys.length c2]).run P E.w= .ok vs E.w:=by
  intro A n c hv eN h0
  subst hv
  have xm:(Builtin.firstCells i.size 0 (.slice A2 0 c2)).run P E.w= .ok #[] E.w:=by
   cases A2 with
   |none=>simp [Builtin.firstCells]
   |some a=>simp [Builtin.firstCells,loadCells,loadCellsFrom]
  rw [h0]
  cases A with
  |none=>simp [Builtin.append_,run_underlying ht,sizeOf,typeInfo,hi,Builtin.lenOf,eN,xm]
  |some a=>simp [Builtin.append_,run_underlying ht,sizeOf,typeInfo,hi,Builtin.lenOf,eN,xm,storeCells]
 have xn:∀{l:List (List AV)},l.length=0->l=[]:=fun h=>Mr h
 split at h
 ·rename_i hx
  rw [hx] at hvs
  split at h
  ·rename_i hb
   simp only [RM.run,KZ,Out.done.injEq] at h
   obtain ⟨rfl,rfl⟩:=h
   cases hvs with
   | @emp A=>
    rcases MM ys.length with h0|h0
    ·have nN:=xn h0
     obtain ⟨E',hw,hE,hM,k1,k2,k3,k4,k5⟩:=hm.p9 hf zs.length
     refine ⟨_, .slice A 0 0,E',by rw [hw];simp [stay A 0 0 rfl (K4 _) h0], .inl rfl,hE, ?_,by rw [nN];exact hM,by rw [hw];exact LN _ _,fun id aH=> ?_⟩
     ·rw [h0];exact .bP k1 k2 k3 k5
     ·rcases k4 id aH with h|h
      ·exact .inl h
      ·exact .inr (by simp [h])
    ·obtain ⟨ad,rfl,fw⟩:=dE.resolve_left (by omega)
     obtain ⟨cap,arr,hr,q1,q2,q3,q4⟩:=sK (P:=P) (ty:=ty) ht hi cG hs hcs lp hm (A:=A) (n:=0) (c:=0) (olds:=[]) (es:=[]) ⟨by simp,fun i cs hi=>by simp at hi⟩ rfl (.inl rfl) (fun _=>rfl) (c2:=c2) cu rfl fw h0 (by omega) (by simpa using hb)
     simp only [Lh,List.nil_append] at hr q1 q4
     exact sL (e:=e) hm hf rfl cu q1 q2 q3 q4 (by simp [hr])
  ·simp [RM.run] at h
 ·rename_i k els hx
  rw [hx] at hvs
  split at h
  ·rename_i hc
   obtain ⟨rfl,aC,hb⟩:=hc
   simp only [RM.run,KZ,Out.done.injEq] at h
   obtain ⟨rfl,rfl⟩:=h
   have h0:0<ys.length:=by
    cases ys with
    |nil=>simp at aC
    |cons a l=>simp
   cases hvs with
   | @cA A n _ _ hl=>
    have sS:RM.run g (content zs.length (.aP zs.length els))=some els:=by simp [content,RM.run]
    obtain ⟨A1,c1,olds,he,lx,nS⟩:=mw hm cU hl sS
    simp only [Value.slice.injEq] at he
    obtain ⟨rfl,rfl,rfl⟩:=he
    obtain ⟨ad,rfl,fw⟩:=dE.resolve_left (by omega)
    have ky:A=none->els.length=0:=fun hA=>by
     rcases nS with h|⟨_,h,_⟩
     ·exact h
     ·rw [hA] at h;simp at h
    obtain ⟨cap,arr,hr,q1,q2,q3,q4⟩:=sK (P:=P) (ty:=ty) ht hi cG hs hcs lp hm lx rfl nS ky (c2:=c2) cu rfl fw h0 (by omega) hb
    exact sL (e:=e) hm hf (by simp) (lx.append cu) q1 q2 q3 q4 (by simp [hr])
  ·simp [RM.run] at h
 ·rename_i id k off n hx
  rw [hx] at hvs
  simp only [RM.run] at h
  cases hB:g id with
  |none=>simp [hB] at h
  |some B=>
   simp only [hB] at h
   split at h
   ·rename_i hc
    obtain ⟨rfl,fY,rfl,lA,hb⟩:=hc
    simp only [RM.run,KZ,Out.done.injEq] at h
    obtain ⟨rfl,rfl⟩:=h
    have nT:E.kn id/\¬E.dead id:=(hm.live id).2 ⟨B,hB⟩
    have sS:RM.run g (content zs.length (.own id zs.length 0 n))=some B.els:=by simp [content,RM.run,hB,fY,lA]
    obtain ⟨A1,c1,olds,b7,lx,nS⟩:=mw hm cU hvs sS
    rw [b7] at hvs stay ⊢
    rw [<-lA] at hvs stay b7 ⊢
    -- a slice of ig same place, under ig new name
    have same:ys.length=0->bB E J base g ((do pure (Next.value (<-Builtin.append_ #[t,t] ty #[.slice A1 n c1, .slice A2 ys.length c2])):Sem Next).run P E.w) (.own fresh zs.length 0 (n+ys.length)) [(id,none),(fresh,some ⟨zs.length,B.els++ys⟩)]:=by
     intro h0
     have nN:=xn h0
     obtain ⟨E',hw,hE,hM,k1,k2,k3,k4,k5⟩:=hm.move hf id B ⟨zs.length,B.els++ys⟩ hB E.w (fun _ _=>rfl) rfl (fun _ _=>rfl) (fun E' hE hw=>by
      rw [nN,List.append_nil, <-fY]
      exact (hm.at_ id B hB).bH hE fun b hb=>by rw [hw])
     have eN:n<=c1:=by cases hvs with
      |own aH hd hbl hq hs cV hl hcc=>exact hl
      |bP=>exact K4 _
      |cr aH hd=>exact absurd hd nT.2
     refine ⟨_, .slice A1 n c1,E',by rw [hw];simp [stay A1 n c1 rfl eN h0], .inl rfl,hE, ?_,hM,by rw [hw];exact LN _ _,fun ct aH=> ?_⟩
     ·rw [h0]
      cases hvs with
      |own aH hd hbl hq hs cV hl hcc=>exact .own k1 k2 (k3.trans hbl) hq (by rw [hw];exact hs) cV hl hcc (by rw [k5];simp only [Ms];omega)
      |bP aH hd hbl=>exact .bP k1 k2 (k3.trans hbl) (by rw [k5];simp only [Ms];omega)
      |cr aH hd=>exact absurd hd nT.2
     ·rcases k4 ct aH with h|h
      ·exact .inl h
      ·exact .inr (by simp [h])
    rcases MM ys.length with h0|h0
    ·exact same h0
    ·obtain ⟨ad,rfl,fw⟩:=dE.resolve_left (by omega)
     by_cases nP:n+ys.length<=c1
     ·-- in place
      cases hvs with
      |cr aH hd=>exact absurd hd nT.2
      |bP=>omega
      | @own _ _ _ _ _ b q mm t' aH hd hbl hq gL cV hl hcc=>
       have CF:q=0:=by rcases hq with hq|hq<;>omega
       subst CF
       have bQ:=hm.at_ id B hB
       rw [hbl] at bQ
       obtain ⟨js,arr,t2,ha,hfit,dv⟩:=bQ.cells (by first|assumption|omega)
       have sT:mm=arr.size/\t'=t2.1:=by
        simp only [World.shape?,ha,KZ,Li] at gL
        exact ⟨gL.2.symm,gL.1.symm⟩
       have jv:n*zs.length+news.length<=arr.size:=by
        rw [cu.1, <-Lt, <-sT.1]
        exact Lw (Lv _ (by omega)) cV
       have dO:=pS P b (n*zs.length) t2.1 t2.2 news 0 arr E.w ha (by simpa using jv) (cu.all cU)
       simp only [L1] at dO
       have gM:=run_firstCells_some (P:=P) E.w i.size ys.length ad ys.length c2 news (by rw [cu.1,hs]) fw
       rw [hs] at gM
       let dB:=(arr.toList.take (n*zs.length)++news++arr.toList.drop (n*zs.length+news.length)).toArray
       have qe:dB.size=arr.size:=by simp [dB];omega
       have hZ:∀j:Nat,dB[j]? =if j<n*zs.length then arr[j]? else if j<n*zs.length+news.length then news[j - n*zs.length]? else arr[j]? :=by
        intro j
        simp only [dB,List.getElem?_toArray,Ml]
        rw [MB,Mm,Nat.min_eq_left (by simp;omega)]
        by_cases h1:j<n*zs.length
        ·simp [h1]
        ·rw [K0 h1,K0 h1,MB]
         by_cases h2:j<n*zs.length+news.length
         ·rw [K1 (by omega),K1 h2]
         ·rw [K0 (by omega),K0 h2,Mf]
          simp;congr 1;omega
       have hrow:(E.w.setRow b dB).heap[b]? =some (.cells dB t2.1 (gI dB.size t2.2)):=by rw [qe];exact setRow_heap E.w b arr dB t2.1 _ ha
       obtain ⟨E',hw,hE,hM,k1,k2,k3,k4,k5⟩:=hm.move hf id B ⟨zs.length,B.els++ys⟩ hB (E.w.setRow b dB) (fun k hk=>setRow_other _ _ _ _ (hk b hbl)) (by simp) (fun b' aY=>by
         rw [hbl] at aY;simp only [KZ] at aY;subst aY
         simp only [World.shape?,hrow,ha,qe]) (fun E' hE hw=>by
        rw [hbl]
        refine .iI ⟨js,dB,t2,by rw [hw];exact hrow, ?_, ?_⟩ (by dsimp only;omega)
        ·rw [qe];dsimp only
         rw [Ms, <-lA,Lt, <-cu.1];exact jv
        ·have xp:=(lx.append cu).step hE
         intro q cs hq
         refine ⟨(xp.2 q cs hq).1,fun j x hj=> ?_⟩
         obtain ⟨u,m1,m2,m3⟩:=(xp.2 q cs hq).2 j x hj
         refine ⟨u, ?_,m2,m3⟩
         dsimp only
         rw [hZ]
         have CG:olds.length=n*zs.length:=by rw [lx.1,lA]
         by_cases h1:q*zs.length+j<n*zs.length
         ·rw [K1 h1]
          rw [L5 (by omega)] at m1
          -- ig aL cells CH Kt of ig block
          have pW:q<n:=by
           rcases LM q n with h|h
           ·exact h
           ·have:=Lv zs.length h;omega
          rw [L5 (by omega)] at hq
          obtain ⟨u',w1,w2,w3⟩:=(dv q cs hq).2 j x hj
          rw [fY] at w1
          have hU:=cell_of_row E.w b (q*zs.length+j) arr t2.1 _ ha
          rcases nS with hz0|⟨xi,xq,du⟩
          ·omega
          ·simp only [KZ] at xq;subst xq
           have:=du _ _ m1
           rw [Md,Lh,hU] at this
           exact this
         ·rw [K0 h1]
          rw [Mg (by omega),CG] at m1
          rw [K1 (by have:=(K8.1 m1).1;omega)]
          exact m1)
       refine ⟨_, .slice (some ⟨b,0,none⟩) (n+ys.length) c1,E', ?_, .inl rfl,hE, ?_,hM, ?_,fun ct aH=> ?_⟩
       ·rw [hw]
        simp [Builtin.append_,run_underlying ht,sizeOf,typeInfo,hi,Builtin.lenOf,nP,gM,Md,hs,dO,dB]
       ·refine .own k1 k2 (k3.trans hbl) (.inl (by simp)) (t:=t2.1) (m:=dB.size) ?_ (by rw [qe, <-sT.1];exact cV) nP hcc (by rw [k5];simp only [Ms];omega)
        rw [hw]
        simp only [World.shape?,hrow]
       ·rw [hw]
        exact ⟨rfl,rfl,rfl,by simp,fun k hk=>setRow_other _ _ _ _ (by omega)⟩
       ·rcases k4 ct aH with h|h
        ·exact .inl h
        ·exact .inr (by simp [h])
     ·-- a new block
      have ky:A1=none->c1=0:=fun hA=>by
       cases hvs with
       |own=>simp at hA
       |bP=>rfl
       |cr aH hd=>exact absurd hd nT.2
      obtain ⟨cap,arr,hr,q1,q2,q3,q4⟩:=sK (P:=P) (ty:=ty) ht hi cG hs hcs lp hm lx lA (by rw [lA];exact nS) ky (c2:=c2) cu rfl fw h0 (by omega) hb
      obtain ⟨E1,fX,gK,hM1,hk1,_,_⟩:=hm.kill [id] (fun k hk=>by simp at hk;subst hk;exact nT.1)
      have:=sL (e:=e) hM1 (fun h=>hf (hk1 _ h)) (n:=n+ys.length) (by simp [lA]) ((lx.append cu).step gK) q1 q2 q3 q4 (r:=(do pure (Next.value (<-Builtin.append_ #[t,t] ty #[.slice A1 n c1, .slice (some ad) ys.length c2])):Sem Next).run P E.w) (by rw [fX];simp [hr])
      obtain ⟨n',v',E',w1,w2,w3,w4,w5,w6,w7⟩:=this
      refine ⟨n',v',E',w1,w2,gK.trans w3,w4,w5,by rw [<-fX];exact w6,fun ct aH=> ?_⟩
      rcases w7 ct aH with h|h
      ·exact .inl (hk1 _ h)
      ·exact .inr (by simp at h;simp [h])
   ·split at h
    rotate_left
    ·simp [RM.run] at h
    rename_i hc
    obtain ⟨rfl,fY,CI⟩:=hc
    simp only [RM.run,KZ,Out.done.injEq] at h
    obtain ⟨rfl,rfl⟩:=h
    exact Cy (ty:=ty) hm hf ht hi hs cU hvs cu dE hB fY CI (fun A n c=>stay A n c)
 ·simp [RM.run] at h
end
open Go.RowKit
section
variable {P:Program} {E:Env} {J:Nat->Prop} {base:Nat} {g:Nat->Option Bk} {aA:Operand->Value} {ρ:Arg->AV} {fresh:Nat}
theorem xr {kd:LK} (hd:P.underlying kt=some d) (hk:ku d=some kd) (k:Value) (e:Bool) (n:Nat) (w:World):(Instr.checkKey e (n+1) kt k).run P w= .ok () w:=by
 unfold Instr.checkKey
 simp only [LO,run_underlying hd,Result.andThen]
 cases d<;>simp_all [ku]
theorem CJ (hk:ku d=some kd) {a b:Value} {r:Bool} (h:keyEq kd a b=some r):Instr.sameNow d a b=some r:=by
 cases d<;>simp [ku] at hk<;>subst hk<;>cases a<;>cases b<;>simp_all [keyEq,Instr.sameNow]
theorem sU {d:TypeDesc} {kd:LK} (hk:ku d=some kd) {k:Value}:∀(es:List MapEntry) (els:List (List AV)) (i:Nat) (r:Option AV),es.length=els.length->
  (∀(j:Nat) e cs,es[j]? =some e->els[j]? =some cs->∃x,cs=[.v e.key,x]/\plainV e.key=true/\af E e.val x)->mfind kd k els=some r->
  (r=none/\Instr.findNow d k es i=some none)\/∃x j v,r=some x/\Instr.findNow d k es i=some (some (j,v))/\af E v x
 |[],[],i,r,_,_,h=>by
  simp only [mfind,KZ] at h;subst h
  exact .inl ⟨rfl,rfl⟩
 |[],_::_,_,_,hl,_,_=>by simp at hl
 |_::_,[],_,_,hl,_,_=>by simp at hl
 |e::es,cs::els,i,r,hl,he,h=>by
  obtain ⟨x,rfl,_,hr⟩:=he 0 e cs rfl rfl
  unfold mfind at h
  cases hq:keyEq kd k e.key with
  |none=>rw [hq] at h;simp at h
  |some b=>
   rw [hq] at h
   have hs:=CJ hk hq
   unfold Instr.findNow
   rw [hs]
   cases b with
   |true=>
    simp only [KZ] at h;subst h
    exact .inr ⟨x,i,e.val,rfl,rfl,hr⟩
   |false=>
    exact sU hk es els (i+1) r (by simpa using hl) (fun j e' lh h1 h2=>he (j+1) e' lh (by simpa using h1) (by simpa using h2)) h
theorem xt (hm:aD E J base g) (hf:¬E.kn fresh) (ht:P.underlying t=some (.map kt et)) {r:Option Value} (hr:r=none\/∃k n,r=some (.int k n)):
  bB E J base g ((do pure (Next.value (<-Instr.makeMap t r)):Sem Next).run P E.w) (.mp fresh) [(fresh,some ⟨0,[]⟩)]:=by
 obtain ⟨E',hw,hE,hM,k1,k2,k3,k4,k5⟩:=hm.sD fresh hf (.map #[] 0) ⟨0,[]⟩ fun E' hE hw=> .ofMap ⟨hm.size, #[],0,by rw [hw];exact heap_alloc_new E.w _,rfl,fun i e cs he=>by simp at he⟩ rfl
 refine ⟨.value (.map (some E.w.heap.size)), .map (some E.w.heap.size),E', ?_, .inl rfl,hE, .mp k1 k2 k3,hM, ?_,fun id hi=> ?_⟩
 ·rw [hw]
  rcases hr with rfl|⟨k,n,rfl⟩
  ·simp [Instr.makeMap]
  ·simp [Instr.makeMap,run_underlying ht,asInt,asIntOf]
 ·rw [hw];exact (LN _ _).alloc hm.size _
 ·rcases k4 id hi with h|h
  ·exact .inl h
  ·exact .inr (by simp [h])
theorem xu (hm:aD E J base g) {id:Nat} {B:Bk} (hv:af E v (.mp id)) (hB:g id=some B) (hz:B.sz=0):∃b,v= .map (some b)/\E.loc id=some b/\base<=b/\pP E B.els b:=by
 cases hv with
 |gH hi hd=>exact absurd hd (alive hm hB)
 | @mp _ b hi hd hb=>
  have bQ:=hm.at_ id B hB
  rw [hb] at bQ
  exact ⟨b,rfl,hb,(bQ.wO hz).1,(bQ.wO hz).2⟩
theorem CK (h:zeroOf P t=some z):∃i zz,P.info? t=some i/\i.zero=some zz/\af E zz z:=by
 unfold zeroOf at h
 cases hi:P.info? t with
 |none=>rw [hi] at h;simp at h
 |some i=>
  rw [hi] at h
  cases hz:i.zero with
  |none=>simp [hz] at h
  |some zz=>simp only [hz] at h;exact ⟨i,zz,rfl,hz,sF h⟩
theorem CL (hm:aD E J base g) (ht:P.underlying t=some (.map kt et)) (hk:keyT P kt=some kd) (hz:zeroOf P et=some z) (hvx:af E vx (ρ x)) (hvk:af E vk (ρ k))
  (h:((AO.mlk kd z x k).ae fresh ρ).run g=some (.done val ups)):bB E J base g ((do pure (Next.value (<-Instr.lookup t vx vk false)):Sem Next).run P E.w) val ups:=by
 obtain ⟨d,hd,hkd⟩:∃d,P.underlying kt=some d/\ku d=some kd:=by
  unfold keyT at hk
  cases hu:P.underlying kt with
  |none=>rw [hu] at hk;simp at hk
  |some d=>rw [hu] at hk;exact ⟨d,rfl,by simpa using hk⟩
 simp only [AO.ae] at h
 split at h
 ·rename_i id kv hx ij
  rw [hx] at hvx;rw [ij] at hvk
  have sV:vk=kv:=by cases hvk with|v _=>rfl
  subst sV
  simp only [RM.run] at h
  cases hB:g id with
  |none=>simp [hB] at h
  |some B=>
   simp only [hB] at h
   split at h
   ·rename_i hz0
    obtain ⟨b,rfl,hb,js,es,clock,hh,hl,qf⟩:=xu hm hvx hB hz0
    cases hf:mfind kd vk B.els with
    |none=>simp [hf,RM.opt,RM.run] at h
    |some r=>
     simp [hf,RM.opt,RM.run] at h
     obtain ⟨rfl,rfl⟩:=h
     have dW:=sU (E:=E) hkd es.toList B.els 0 r (by simpa using hl) (fun j e cs h1 h2=>qf j e cs (by simpa using h1) h2) hf
     have hck:=fun e=>xr hd hkd vk e 9999 E.w
     rcases dW with ⟨rfl,eO⟩|⟨y,j,v,rfl,eO,CM⟩
     ·obtain ⟨i,zz,hi,cG,CN⟩:=CK (E:=E) hz
      refine bj hm (v:=zz) ?_ CN
      simp [Instr.lookup,run_underlying ht,MapKept.run_getObj_map hh,hck,MapKept.run_findKey hd eO,Result.andThen,zeroValue,typeInfo,hi,cG]
     ·refine bj hm (v:=v) ?_ CM
      simp [Instr.lookup,run_underlying ht,MapKept.run_getObj_map hh,hck,MapKept.run_findKey hd eO,Result.andThen]
   ·simp [RM.run] at h
 ·simp [RM.run] at h
theorem xv (hm:aD E J base g) (ht:P.underlying t=some (.map kt et)) (hk:keyT P kt=some kd) (hvx:af E vx (ρ x)) (hvk:af E vk (ρ k)) (hvy:af E vy (ρ y))
  (h:((AO.mup kd x k y).ae fresh ρ).run g=some (.done val ups)):bB E J base g ((do (Instr.mapUpdate t vx vk vy);pure Next.skip:Sem Next).run P E.w) val ups:=by
 obtain ⟨d,hd,hkd⟩:∃d,P.underlying kt=some d/\ku d=some kd:=by
  unfold keyT at hk
  cases hu:P.underlying kt with
  |none=>rw [hu] at hk;simp at hk
  |some d=>rw [hu] at hk;exact ⟨d,rfl,by simpa using hk⟩
 simp only [AO.ae] at h
 split at h
 ·rename_i id kv hx ij
  rw [hx] at hvx;rw [ij] at hvk
  have sV:vk=kv:=by cases hvk with|v _=>rfl
  subst sV
  simp only [RM.run] at h
  cases hB:g id with
  |none=>simp [hB] at h
  |some B=>
   simp only [hB] at h
   split at h
   ·rename_i hz0
    obtain ⟨hz0,qg⟩:=hz0
    obtain ⟨b,rfl,hb,js,es,clock,hh,hl,qf⟩:=xu hm hvx hB hz0
    split at h
    ·rename_i hf
     simp only [RM.run,KZ,Out.done.injEq] at h
     obtain ⟨rfl,rfl⟩:=h
     have dW:=sU (E:=E) hkd es.toList B.els 0 none (by simpa using hl) (fun j e cs h1 h2=>qf j e cs (by simpa using h1) h2) hf
     have eO:Instr.findNow d vk es.toList 0=some none:=by
      rcases dW with ⟨_,eO⟩|⟨_,_,_,hc,_⟩
      ·exact eO
      ·simp at hc
     have hck:=fun e=>xr hd hkd vk e 9999 E.w
     obtain ⟨xw,xx⟩:=MapKept.heap_set (w:=E.w) (r:=b) (o':= .map (es.push { key:=vk,val:=vy,born:=clock }) (clock+1)) hh
     obtain ⟨E',hw,hE,hM,ba⟩:=hm.wP id b B ⟨0,B.els++[[.v vk,ρ y]]⟩ hB hb { E.w with heap:=E.w.heap.setIfInBounds b (.map (es.push { key:=vk,val:=vy,born:=clock }) (clock+1)) }
      xx (by simp) (by simp only [World.shape?,xw,hh]) (fun hh=>absurd rfl hh) (fun E' hE hw=> .ofMap ⟨js,es.push { key:=vk,val:=vy,born:=clock },clock+1,by rw [hw];exact xw,by simp [hl],fun i e cs he hi=>by
       by_cases lB:i<es.size
       ·rw [Array.getElem?_push_lt lB] at he
        dsimp only at hi
        rw [L5 (by omega)] at hi
        obtain ⟨u,k1,k2,k3⟩:=qf i e cs (by rw [Lg lB];exact he) hi
        exact ⟨u,k1,k2,k3.step hE⟩
       ·have CO:i=es.size:=by
         have:=(LQ.1 he).1;simp at this;omega
        subst CO
        simp only [Array.getElem?_push_size,KZ] at he
        subst he
        dsimp only at hi
        rw [Mg (by omega),hl,Nat.sub_self] at hi
        simp only [LB,KZ] at hi
        subst hi
        exact ⟨ρ y,rfl,qg,hvy.step hE⟩⟩ rfl)
     refine ⟨.skip,undef,E', ?_, .inr ⟨rfl,rfl⟩,hE, .v rfl,hM, ?_,fun ct h'=> .inl (ba ct h')⟩
     ·rw [hw]
      simp [Instr.mapUpdate,run_underlying ht,MapKept.run_getObj_map hh,hck,MapKept.run_findKey hd eO,MapKept.run_setObj_map _ hh,Result.andThen]
     ·rw [hw]
      refine ⟨rfl,rfl,rfl,by simp,fun k hk=>xx k (by omega)⟩
    ·simp [RM.run] at h
   ·simp [RM.run] at h
 ·simp [RM.run] at h
end
open Go.RowKit
theorem xy {P:Program} {w:World} {f:Value->ByteArray->Sem (ForInStep ByteArray)} (hf:∀n s,f (.int .u8 n) s=pure (ForInStep.yield (s.push (UInt8.ofNat n.toNat)))):∀(l:List Value) (bs:List UInt8) (s:ByteArray),(∀(i:Nat) (v:Value),l[i]? =some v->∃n:Int,v= .int .u8 n/\bs[i]? =some (UInt8.ofNat n.toNat))->bs.length=l.length->
  (forIn (m:=Sem) l s f).run P w= .ok (⟨s.data++bs.toArray⟩) w
 |[],bs,s,_,hl=>by
  have:bs=[]:=Mr (by simpa using hl)
  subst this
  simp
 |v::l,bs,s,h,hl=>by
  obtain ⟨n,rfl,hb⟩:=h 0 v rfl
  cases bs with
  |nil=>simp at hl
  |cons b bs=>
   simp at hb;subst hb
   have ih:=xy hf (P:=P) (w:=w) l bs (s.push (UInt8.ofNat n.toNat)) (fun i v hv=>h (i+1) v hv) (by simpa using hl)
   simp [List.forIn_cons,hf,ih]
theorem xz:∀{ys:List (List AV)} {l:List UInt8},strOf ys=some l->l.length=ys.length/\∀(i:Nat) (cs:List AV),ys[i]? =some cs->∃n:Int,cs=[.v (.int .u8 n)]/\l[i]? =some (UInt8.ofNat n.toNat)
 |[],l,h=>by
  simp only [strOf,KZ] at h;subst h
  exact ⟨rfl,fun i cs hi=>by simp at hi⟩
 |cs::r,l,h=>by
  unfold strOf at h
  split at h
  ·rename_i e;simp at e
  ·rename_i n r' e
   simp only [MN] at e
   obtain ⟨rfl,rfl⟩:=e
   cases hr:strOf r with
   |none=>rw [hr] at h;simp at h
   |some l'=>
    rw [hr] at h
    simp only [Ld,KZ] at h;subst h
    obtain ⟨h1,h2⟩:=xz hr
    refine ⟨by simp [h1],fun i cs hi=> ?_⟩
    cases i with
    |zero=>simp at hi;subst hi;exact ⟨n,rfl,rfl⟩
    |succ i=>exact h2 i cs (by simpa using hi)
  ·simp at h
theorem CP (hm:aD E J base g) (hv:af E v a) (h:(content 1 a).run g=some ys) {l:List UInt8} (hl:strOf ys=some l):
  (Conv.bytesToString v).run P E.w= .ok (.string ⟨l.toArray⟩) E.w:=by
 obtain ⟨A,c,news,rfl,cu,dE⟩:=mw hm Nat.zero_lt_one hv h
 obtain ⟨hlen,hZ⟩:=xz hl
 have hn:news.length=ys.length:=by have:=cu.1;omega
 have fw:∀(i:Nat) (u:Value),news[i]? =some u->∃n:Int,u= .int .u8 n/\l[i]? =some (UInt8.ofNat n.toNat):=fun i u hu=>by
  have hi:i<ys.length:=by have:=(K8.1 hu).1;omega
  obtain ⟨n,hcs,bh⟩:=hZ i _ (Lj hi)
  obtain ⟨_,h2⟩:=cu.2 i _ (Lj hi)
  obtain ⟨u',k1,_,k3⟩:=h2 0 (.v (.int .u8 n)) (by rw [hcs];rfl)
  rw [Nat.mul_one,L1,hu] at k1
  simp only [KZ] at k1;subst k1
  exact ⟨n,by cases k3 with|v _=>rfl,bh⟩
 cases A with
 |none=>
  rcases dE with h0|⟨ad,e,_⟩
  ·have:l=[]:=Mr (by omega)
   subst this
   simp [Conv.bytesToString];rfl
  ·simp at e
 |some ad=>
  have hc:(loadCells ad ys.length).run P E.w= .ok news.toArray E.w:=by
   rw [<-hn]
   refine run_loadCells_list E.w ad news fun j v hj=> ?_
   rcases dE with h0|⟨xi,e,h2⟩
   ·have:=(K8.1 hj).1;omega
   ·simp only [KZ] at e;subst e;exact h2 j v hj
  simp only [Conv.bytesToString]
  rw [LO,hc]
  simp only [Result.andThen,List.forIn_toArray]
  rw [LO,xy (fun n s=>rfl) news l ByteArray.empty fw (by omega)]
  simp only [Result.andThen]
  simp
theorem CQ (s:ByteArray) (h:s.size<=cap):(bytesRow s cap).size=cap:=by
 have:s.data.size=s.size:=rfl
 simp [bytesRow];omega
theorem CR (s:ByteArray) (cap:Nat) {i:Nat} {b:UInt8} (h:s.data.toList[i]? =some b):(bytesRow s cap)[i]? =some (.int .u8 b.toNat):=by
 have hi:=(K8.1 h).1
 unfold bytesRow
 rw [MX (by simpa using hi),Array.getElem?_map]
 rw [<-Array.getElem?_toList,h];rfl
theorem CS {P:Program} (hm:aD E J base g) (hf:¬E.kn fresh) {s:ByteArray} (hc:s.size<=cap) (sM:cap<=9223372036854775807)
  (hr:r= .ok (.value (.slice (some ⟨E.w.heap.size,0,none⟩) s.size cap)) (E.w.drew.alloc (.cells (bytesRow s cap) e ((bytesRow s cap).size,(bytesRow s cap).size+1)))):
  bB E J base g r (.own fresh 1 0 s.size) [(fresh,some ⟨1,s.data.toList.map fun b=>[.v (.int .u8 b.toNat)]⟩)]:=by
 obtain ⟨E1,fX,gK,hM1,_,nM,Cs,gx⟩:=hm.drew
 have hsz:=CQ s hc
 have Ku:s.data.toList.length=s.size:=rfl
 obtain ⟨E',hw,hE,hM,k1,k2,k3,k4,k5⟩:=hM1.sD fresh (fun h=>hf ((nM _).1 h)) (.cells (bytesRow s cap) e ((bytesRow s cap).size,(bytesRow s cap).size+1)) ⟨1,s.data.toList.map fun b=>[.v (.int .u8 b.toNat)]⟩ (fun E' hE hw=>by
  refine .iI ⟨hM1.size,bytesRow s cap,(e,1),by rw [hw];exact heap_alloc_new E1.w _,by simp only [Lq,Nat.mul_one];omega,fun i cs hi=> ?_⟩ (by simp)
  rw [Lu] at hi
  cases hb:s.data.toList[i]? with
  |none=>rw [hb] at hi;simp at hi
  |some b=>
   rw [hb] at hi
   simp only [Ld,KZ] at hi;subst hi
   refine ⟨rfl,fun j x hj=> ?_⟩
   cases j with
   |zero=>
    simp at hj;subst hj
    exact ⟨.int .u8 b.toNat,by simpa using CR s cap hb,rfl, .v rfl⟩
   |succ j=>simp at hj)
 rw [fX] at hw
 refine ⟨_, .slice (some ⟨E.w.heap.size,0,none⟩) s.size cap,E',by rw [hw];exact hr, .inl rfl,gK.trans hE, ?_,hM, ?_,fun id hi=> ?_⟩
 ·refine .own k1 k2 (b:=E.w.heap.size) (by rw [k3,fX];rfl) (.inl (by simp)) (t:=e) (m:=(bytesRow s cap).size) ?_ (by rw [hsz];simp) hc sM (by rw [k5];simp only [Lq];omega)
  rw [hw]
  unfold World.shape?
  rw [show E.w.heap.size=E.w.drew.heap.size from rfl,heap_alloc_new]
 ·rw [hw]
  exact ((LN _ _).drew).alloc (by simpa using hm.size) _
 ·rcases k4 id hi with h|h
  ·exact .inl ((nM _).1 h)
  ·exact .inr (by simp [h])
theorem CT (hm:aD E J base g) (hs:P.underlying src=some (.slice e)) (hd:P.underlying dst=some .string) (he:P.underlying e=some (.int .u8)) (hvx:af E vx (ρ x))
 (h:((AO.b2s x).ae fresh ρ).run g=some (.done val ups)):bB E J base g ((do pure (Next.value (<-convert src dst vx)):Sem Next).run P E.w) val ups:=by
 simp only [AO.ae] at h
 obtain ⟨ys,iQ,h⟩:=cB h
 cases hl:strOf ys with
 |none=>rw [hl] at h;simp [RM.opt,RM.run] at h
 |some l=>
  rw [hl] at h
  simp only [Ld,RM.opt,RM.run,KZ,Out.done.injEq] at h
  obtain ⟨rfl,rfl⟩:=h
  have hr:=CP (P:=P) hm hvx iQ hl
  obtain ⟨A,c,news,rfl,_,_⟩:=mw hm Nat.zero_lt_one hvx iQ
  refine bj hm (v:= .string ⟨l.toArray⟩) ?_ (.v rfl)
  have:(convert src dst (.slice A ys.length c)).run P E.w= .ok (.string ⟨l.toArray⟩) E.w:=by
   simp only [convert,LO,run_underlying hs,run_underlying hd,MA,run_underlying he]
   exact hr
  rw [LO,this];rfl
theorem CU (hm:aD E J base g) (hf:¬E.kn fresh) (hs:P.underlying src=some .string) (hd:P.underlying dst=some (.slice e)) (he:P.underlying e=some (.int .u8)) (hvx:af E vx (ρ x))
 (h:((AO.s2b x).ae fresh ρ).run g=some (.done val ups)):bB E J base g ((do pure (Next.value (<-convert src dst vx)):Sem Next).run P E.w) val ups:=by
 simp only [AO.ae] at h
 split at h
 ·rename_i s hx
  split at h
  ·rename_i hb
   simp only [RM.run,KZ,Out.done.injEq] at h
   obtain ⟨rfl,rfl⟩:=h
   rw [hx] at hvx
   have ex:vx= .string s:=by cases hvx with|v _=>rfl
   subst ex
   exact CS (P:=P) (e:=e) hm hf (grownCap_ge E.w s.size 0 e) (grownCap_le_maxLen E.w s.size 0 e (by unfold maxLen;omega)) (by rw [LO,run_bytes_of_string E.w src dst e s hs hd he];rfl)
  ·simp [RM.run] at h
 ·simp [RM.run] at h
end Go.Proofs.Ytpoikkflcpklgaa
