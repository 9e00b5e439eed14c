/- Regions of operations upon values with letters. No condition. -/
import Derived.WalkKit
import Derived.Lib.Hide
import Derived.Lib.QuietBelow
import Derived.BigQuiet
import Derived.Deep.Slices
import Derived.Below
import Derived.ShutString
import Derived.OpenShut
import Derived.SizedLaws
import Derived.Deep.OwnRows
import Derived.Test.YtpoikkflcpklgaaPAvNorm
import Derived.Laws.Bits64
set_option linter.unusedSimpArgs false
set_option linter.unusedVariables false
namespace Go.Proofs.Ytpoikkflcpklgaa
variable {ao:AO} {a:AV} {x y:Arg} {op:BinOp} {neg b l:Bool} {s:ByteArray} {f:FuncId} {c:Int} {k:IntKind} {as_:List AV} {vs:List Value} {kd:NK} {n j nm i o:Nat} {σ:Nat->AV} {g:Nat->Option Bk} {lo hi:Option Int} {m d:Option Nat} {P:Program} {α τ:Type} {R:Value->AV->Prop} {w:World} {A:List (Nat×List α)} {dn:τ->Type}
open Go.RowKit Go.Sort
abbrev K7:=@Option.map_eq_some_iff
abbrev Ll:=@forall_eq
abbrev Lp:=@and_self
abbrev Lz:=@List.mem_map
abbrev LP:=@List.map_nil
abbrev LX:=@List.map_append
abbrev Ma:=@List.not_mem_nil
abbrev Mt:=@List.map_set
abbrev Mw:=@BitVec.toNat_ofNat
abbrev Mx:=@forall_eq_or_imp
abbrev My:=@Option.bind_eq_some_iff
abbrev MF:=@List.take_of_length_le
abbrev MG:=@List.map_map
abbrev MH:=@Nat.lt_succ_of_lt
abbrev MR:=@Bool.eq_iff_iff
abbrev M1:=@Int.mul_le_mul_of_nonneg_left
abbrev B (x:UInt8):Value:= .int .u8 x.toNat
abbrev I (x:Int):Value:= .int .i64 x
theorem bt {a b:World} (h:Below w.heap.size w a) (k:Below a.heap.size a b):Below w.heap.size w b:=h.trans (k.mono h.size)
theorem yz (a:Nat) (ha:a<9223372036854775808):(BitVec.ofInt 64 (a:Int)).toNat=a:=by
 rw [BitVec.ofInt_natCast,Mw];exact Mo (by omega)
theorem F5 (a b:Nat) (ha:a<9223372036854775808) (hb:b<9223372036854775808):bits .or .i64 (a:Int) (b:Int)=((a|||b:Nat):Int):=by
 have hx:a|||b<2^63:=Nat.or_lt_two_pow (by omega) (by omega)
 show IntKind.i64.wrap ((BitVec.ofInt 64 (a:Int)|||BitVec.ofInt 64 (b:Int)).toNat:Int)=_
 rw [BitVec.toNat_or,yz a ha,yz b hb,IntKind.wrap_i64]
 omega
@[go_sem] theorem KI {a : Addr} {d : Nat} {os : Array Obj} (h : (w.cell? a).isSome = true) : (grow (redrawn w d) os).cell? a = w.cell? a := by
 obtain ⟨v,hv⟩:=MU.1 h
 rw [hv];exact cell_regrown hv d os
theorem r2 {x:Int×Int} {a b:Int} (h:x=(a,b)):Ending.returned (.tuple #[.int .i64 a, .int .i64 b])= .returned (.tuple #[.int .i64 x.1, .int .i64 x.2]):=by subst h;rfl
theorem ri {a b:Int} (h:a=b):Ending.returned (.int k a)=Ending.returned (.int k b):=by rw [h]
theorem rb {a:Bool} (h:a=b):Ending.returned (.bool a)=Ending.returned (.bool b):=by rw [h]
theorem F6 {a:Bool} (h:a=true) (k:b=true):(a&&b)=true:=by rw [h,k];rfl
open Go.RowKit Go.ChangeShapes Go.WideShapes Go.Deep
class aN (α:Type) where
 size:Nat
 rep:World->Nat->List Value->α->Prop
 len:∀{w B cs x},rep w B cs x->cs.length=size
 bH:∀{w w':World} {B cs x},rep w B cs x->(∀p:Addr,p.block<B->w'.cell? p=w.cell? p)->rep w' B cs x
 more:∀{w B B' cs x},rep w B cs x->B<=B'->rep w B' cs x
instance:aN Int where
 size:=1
 rep _ _ cs x:=cs=[I x]/\ -9223372036854775808<=x/\x<=9223372036854775807
 len h:=by rw [h.1];rfl
 bH h _:=h
 more h _:=h
instance:aN UInt8 where
 size:=1
 rep _ _ cs x:=cs=[B x]
 len h:=by rw [h];rfl
 bH h _:=h
 more h _:=h
structure dP where
 n:Nat
 lt:n<18446744073709551616
instance:aN dP where
 size:=1
 rep _ _ cs x:=cs=[.int .u64 (x.n:Int)]
 len h:=by rw [h];rfl
 bH h _:=h
 more h _:=h
instance:aN Bool where
 size:=1
 rep _ _ cs x:=cs=[.bool x]
 len h:=by rw [h];rfl
 bH h _:=h
 more h _:=h
instance:aN ByteArray where
 size:=1
 rep _ _ cs x:=cs=[.string x]/\x.size<=9223372036854775807
 len h:=by rw [h.1];rfl
 bH h _:=h
 more h _:=h
instance {α β:Type} [aN α] [aN β]:aN (α×β) where
 size:=aN.size α+aN.size β
 rep w B cs x:=∃c0 c1,cs=c0++c1/\aN.rep w B c0 x.1/\aN.rep w B c1 x.2
 len:=by rintro w B cs x ⟨c0,c1,rfl,h0,h1⟩;rw [Ms,aN.len h0,aN.len h1]
 bH:=by rintro w w' B cs x ⟨c0,c1,rfl,h0,h1⟩ hk;exact ⟨c0,c1,rfl,aN.bH h0 hk,aN.bH h1 hk⟩
 more:=by rintro w B B' cs x ⟨c0,c1,rfl,h0,h1⟩ hk;exact ⟨c0,c1,rfl,aN.more h0 hk,aN.more h1 hk⟩
def F7 [aN α] (w:World) (B b off:Nat) (xs:List α):Prop:=
 ∀i x,xs[i]? =some x->∃cs,aN.rep w B cs x/\∀j u,cs[j]? =some u->w.cell? ⟨b,off+i*aN.size α+j,none⟩=some u
instance {α:Type} [aN α]:aN (List α) where
 size:=1
 rep w B cs xs:=∃A n c,cs=[.slice A n c]/\n=xs.length/\n<=c/\c<=9223372036854775807/\(xs=[]\/∃b off,A=some ⟨b,off,none⟩/\b<B/\F7 w B b off xs)
 len:=by rintro w B cs x ⟨A,n,c,rfl,_⟩;rfl
 bH:=by
  rintro w w' B cs xs ⟨A,n,c,rfl,hn,hc,hm,h⟩ hk
  refine ⟨A,n,c,rfl,hn,hc,hm,h.imp id ?_⟩
  rintro ⟨b,off,hA,hb,hs⟩
  refine ⟨b,off,hA,hb,fun i x hx=> ?_⟩
  obtain ⟨cs,h1,h2⟩:=hs i x hx
  exact ⟨cs,aN.bH h1 hk,fun j u hu=>(hk _ hb).trans (h2 j u hu)⟩
 more:=by
  rintro w B B' cs xs ⟨A,n,c,rfl,hn,hc,hm,h⟩ hk
  refine ⟨A,n,c,rfl,hn,hc,hm,h.imp id ?_⟩
  rintro ⟨b,off,hA,hb,hs⟩
  refine ⟨b,off,hA,Lr hb hk,fun i x hx=> ?_⟩
  obtain ⟨cs,h1,h2⟩:=hs i x hx
  exact ⟨cs,aN.more h1 hk,h2⟩
@[reducible] def aN.via {β:Type} [aN β] (f : α -> β) : aN α where
 size:=aN.size β
 rep w B cs x:=aN.rep w B cs (f x)
 len h:=aN.len h
 bH h hk:=aN.bH h hk
 more h hk:=aN.more h hk
open Go.RowKit
@[ext] structure qB where
 nodes:Int
 data:Int
 more:Int
 turn:Int
instance:aN qB:=aN.via (fun x=>(x.nodes,x.data,x.more,x.turn))
@[go_sem, simp] theorem qB.eta (x : qB) : (⟨x.nodes, x.data, x.more, x.turn⟩ : qB) = x := rfl
@[ext] structure qC where
 holder:Int
 till:Int
 token:Int
instance:aN qC:=aN.via (fun x=>(x.holder,x.till,x.token))
@[go_sem, simp] theorem qC.eta (x : qC) : (⟨x.holder, x.till, x.token⟩ : qC) = x := rfl
@[ext] structure Fence where
 seen:Int
instance:aN Fence:=aN.via (fun x=>x.seen)
@[go_sem, simp] theorem Fence.eta (x : Fence) : (⟨x.seen⟩ : Fence) = x := rfl
@[ext] structure bI where
 time:Int
 who:Int
instance:aN bI:=aN.via (fun x=>(x.time,x.who))
@[go_sem, simp] theorem bI.eta (x : bI) : (⟨x.time, x.who⟩ : bI) = x := rfl
@[ext] structure cq where
 at_:bI
 data:ByteArray
instance:aN cq:=aN.via (fun x=>(x.at_,x.data))
@[go_sem, simp] theorem cq.eta (x : cq) : (⟨x.at_, x.data⟩ : cq) = x := rfl
@[ext] structure qD where
 level:Int
 now:Int
 burst:Int
 rate:Int
instance:aN qD:=aN.via (fun x=>(x.level,x.now,x.burst,x.rate))
@[go_sem, simp] theorem qD.eta (x : qD) : (⟨x.level, x.now, x.burst, x.rate⟩ : qD) = x := rfl
@[ext] structure Term where
 begin:Int
 end_:Int
instance:aN Term:=aN.via (fun x=>(x.begin,x.end_))
@[go_sem, simp] theorem Term.eta (x : Term) : (⟨x.begin, x.end_⟩ : Term) = x := rfl
@[ext] structure aF where
 kind:Int
 op:Int
 node:Int
 copy:cq
instance:aN aF:=aN.via (fun x=>(x.kind,x.op,x.node,x.copy))
@[go_sem, simp] theorem aF.eta (x : aF) : (⟨x.kind, x.op, x.node, x.copy⟩ : aF) = x := rfl
abbrev aF.v (x:aF):Value:= .agg #[I x.kind,I x.op,I x.node,I x.copy.at_.time,I x.copy.at_.who, .string x.copy.data]
@[ext] structure qE where
 no:Int
 members:dP
instance:aN qE:=aN.via (fun x=>(x.no,x.members))
@[go_sem, simp] theorem qE.eta (x : qE) : (⟨x.no, x.members⟩ : qE) = x := rfl
@[ext] structure qF where
 block:Int
 data:ByteArray
instance:aN qF:=aN.via (fun x=>(x.block,x.data))
@[go_sem, simp] theorem qF.eta (x : qF) : (⟨x.block, x.data⟩ : qF) = x := rfl
@[ext] structure Act where
 kind:Int
 n:Int
 data:ByteArray
instance:aN Act:=aN.via (fun x=>(x.kind,x.n,x.data))
@[go_sem, simp] theorem Act.eta (x : Act) : (⟨x.kind, x.n, x.data⟩ : Act) = x := rfl
@[ext] structure qG where
 kind:Int
 bid:Int
 node:Int
 copy:cq
instance:aN qG:=aN.via (fun x=>(x.kind,x.bid,x.node,x.copy))
@[go_sem, simp] theorem qG.eta (x : qG) : (⟨x.kind, x.bid, x.node, x.copy⟩ : qG) = x := rfl
@[ext] structure qH where
 promised:bI
 kept:cq
instance:aN qH:=aN.via (fun x=>(x.promised,x.kept))
@[go_sem, simp] theorem qH.eta (x : qH) : (⟨x.promised, x.kept⟩ : qH) = x := rfl
@[ext] structure qI where
 time:Int
 phase:Int
 own:ByteArray
 value:ByteArray
 best:cq
 heard:dP
instance:aN qI:=aN.via (fun x=>(x.time,x.phase,x.own,x.value,x.best,x.heard))
@[go_sem, simp] theorem qI.eta (x : qI) : (⟨x.time, x.phase, x.own, x.value, x.best, x.heard⟩ : qI) = x := rfl
@[ext] structure Ask where
 op:Int
 kind:Int
 phase:Int
 data:ByteArray
 best:cq
 heard:dP
instance:aN Ask:=aN.via (fun x=>(x.op,x.kind,x.phase,x.data,x.best,x.heard))
@[go_sem, simp] theorem Ask.eta (x : Ask) : (⟨x.op, x.kind, x.phase, x.data, x.best, x.heard⟩ : Ask) = x := rfl
@[ext] structure Step where
 kind:Int
 n:Int
 data:ByteArray
instance:aN Step:=aN.via (fun x=>(x.kind,x.n,x.data))
@[go_sem, simp] theorem Step.eta (x : Step) : (⟨x.kind, x.n, x.data⟩ : Step) = x := rfl
open Go.RowKit
inductive R2 (R:Value->AV->Prop):List Value->List AV->Prop
 |nil:R2 R [] []
 |cons {v:Value} {a:AV} {vs:List Value} {as_:List AV} (h:R v a) (t:R2 R vs as_):R2 R (v::vs) (a::as_)
theorem R2.len (h:R2 R vs as_):vs.length=as_.length:=by
 induction h with
 |nil=>rfl
 |cons _ _ ih=>simp [ih]
theorem R2.get (h:R2 R vs as_):∀(i:Nat) v a,vs[i]? =some v->as_[i]? =some a->R v a:=by
 induction h with
 |nil=>intro i v a hv;simp at hv
 |cons h _ ih=>
  intro i v a hv ha
  cases i with
  |zero=>simp at hv ha;subst hv;subst ha;exact h
  |succ i=>exact ih i v a (by simpa using hv) (by simpa using ha)
theorem R2.rc {E:Env} (h:R2 (af E) vs as_):RC E vs.toArray as_:=⟨by simpa using h.len,fun j u c hu hc=>h.get j u c (by simpa using hu) hc⟩
theorem F8 (h:Fn P f as_ (.v (.bool true))) (hG:dT (E0 w fun b=>b<w.heap.size)) (b6:R2 (af (E0 w fun b=>b<w.heap.size)) vs as_):
  Calls P f vs.toArray w fun e w'=>e= .returned (.bool true)/\Below w.heap.size w w':=
 (h w _ vs.toArray (fun _ h=>h) hG b6.rc).mono fun e w' ⟨v,he,hr,hb⟩=>⟨he.trans (by rw [hr.fy]),hb⟩
open Go.RowKit
inductive Cn where
 |lt (x y:Int)
 |le (x y:Int)
 |eq (x y:Int)
 |ey (x y:UInt8)
 |ly (x y:UInt8)
 |ez (x y:ByteArray)
 |lz (x y:ByteArray)
 |b (x:Bool)
 |eb (x y:Bool)
 |not (c:Cn)
 |and (c d:Cn)
 |or (c d:Cn)
def Cn.den:Cn->Bool
 | .lt x y=>decide (x<y)
 | .le x y=>decide (x<=y)
 | .eq x y=>x==y
 | .ey x y=>x==y
 | .ly x y=>decide (x<y)
 | .ez x y=>gr x y
 | .lz x y=>Op.bytesLess x.toList y.toList
 | .b x=>x
 | .eb x y=>x==y
 | .not c=> !c.den
 | .and c d=>c.den&&d.den
 | .or c d=>c.den||d.den
def Cn.tf:Cn->Bool->Prop
 | .lt x y,true=>x<y
 | .lt x y,false=>y<=x
 | .le x y,true=>x<=y
 | .le x y,false=>y<x
 | .eq x y,true=>x=y
 | .eq x y,false=>¬x=y
 | .ey x y,true=>x=y
 | .ey x y,false=>¬x=y
 | .ly x y,true=>x<y
 | .ly x y,false=>y<=x
 | .ez x y,true=>x=y
 | .ez x y,false=>¬x=y
 | .lz x y,p=>Op.bytesLess x.toList y.toList=p
 | .b x,p=>x=p
 | .eb x y,true=>x=y
 | .eb x y,false=>¬x=y
 | .not c,p=>c.tf (!p)
 | .and c d,true=>c.tf true/\d.tf true
 | .and c d,false=>c.tf false\/d.tf false
 | .or c d,true=>c.tf true\/d.tf true
 | .or c d,false=>c.tf false/\d.tf false
theorem mR {a b:ByteArray}:gr a b=true↔a=b:=by
 unfold gr
 rw [beq_iff_eq]
 constructor
 ·intro h
  have:a.data=b.data:=by rw [<-MO];exact h
  cases a;cases b;simp_all
 ·intro h;rw [h]
theorem Cn.gW (c:Cn) (p:Bool):c.tf p↔c.den=p:=by
 induction c generalizing p with
 |lt x y=>cases p<;>simp [tf,den]
 |le x y=>cases p<;>simp [tf,den]
 |eq x y=>cases p<;>simp [tf,den]
 |ey x y=>cases p<;>simp [tf,den]
 |ly x y=>cases p<;>simp [tf,den]
 |ez x y=>
  cases p
  ·simp only [tf,den,Bool.eq_false_iff,ne_eq,mR]
  ·simp only [tf,den,mR]
 |lz x y=>cases p<;>simp [tf,den]
 |b x=>cases p<;>simp [tf,den]
 |eb x y=>cases p<;>simp [tf,den]
 |not c ih=>simp only [tf,den,ih];cases c.den<;>cases p<;>simp
 |and c d ud ue=>cases p<;>simp [tf,den,ud,ue]<;>cases c.den<;>simp
 |or c d ud ue=>cases p<;>simp [tf,den,ud,ue]<;>cases c.den<;>simp
inductive RK where
 |nil
 |own
 |aP
structure Row (α:Type) where
 kd:RK
 id:Nat
 n:Nat
 xs:List α
variable {r:Row α}
def Row.no (α:Type):Row α:=⟨.nil,0,0,[]⟩
def Row.at (α:Type) (id n:Nat):Row α:=⟨.own,id,n,[]⟩
def Row.fix (α:Type) (xs:List α):Row α:=⟨.aP,0,0,xs⟩
inductive SV (τ:Type) (dn:τ->Type) where
 |vi (x:Int)
 |vn (x:Int)
 |vy (x:UInt8)
 |vu (x:dP)
 |vw (q:IntKind) (x:Int)
 |vb (c:Cn)
 |vt (x:Bool)
 |vz (s:ByteArray)
 |vo (x:Value)
 |agg (cs:List (SV τ dn))
 |aJ (cs:List (SV τ dn))
 |vl (t:τ) (xs:List (dn t))
 |vc (sz:Nat) (els:List (List (SV τ dn)))
 |emp
 |pim (cs:List (SV τ dn)) (o:Nat)
 |ref (nm sz i o:Nat)
 |own (nm sz:Nat)
 |part (nm sz off len:Nat)
 |fn (f:FuncId) (cs:List (SV τ dn))
 |bf (f:FuncId) (cs:List (SV τ dn))
 |mp (nm:Nat)
 |rw (t:τ) (r:Row (dn t))
 |cK (t:τ) (r:Row (dn t)) (i o:Nat)
 |vg (p:Bool) (c:Cn) (v:SV τ dn)
 |dead
section
variable {τ:Type} {dn:τ->Type}
mutual
def SV.fr (p:Nat->Bool):SV τ dn->Bool
 | .own nm _| .part nm _ _ _| .ref nm _ _ _| .mp nm=>p nm
 | .agg cs| .aJ cs| .pim cs _| .fn _ cs| .bf _ cs=>SV.db p cs
 | .vc _ els=>SV.jJ p els
 | .vg _ _ v=>SV.fr p v
 |_=>true
def SV.db (p:Nat->Bool):List (SV τ dn)->Bool
 |[]=>true
 |v::r=>SV.fr p v&&SV.db p r
def SV.jJ (p:Nat->Bool):List (List (SV τ dn))->Bool
 |[]=>true
 |cs::r=>SV.db p cs&&SV.jJ p r
end
end
structure TE (τ:Type) (dn:τ->Type) where
 sz:τ->Nat
 ea:(ρ:Nat->AV)->(t:τ)->dn t->List AV
structure aw where
 ι:Nat->Nat
 ln:Nat->Nat
 ρ:Nat->AV
variable {N:aw}
section
variable {τ:Type} {dn:τ->Type} (E:TE τ dn) (N:aw)
mutual
def SV.av:SV τ dn->AV
 | .vi x=> .v (.int .i64 x)
 | .vn x=> .v (.int .i64 x)
 | .vy x=> .v (.int .u8 x.toNat)
 | .vu x=> .v (.int .u64 (x.n:Int))
 | .vw q x=> .v (.int q x)
 | .vb c=> .v (.bool c.den)
 | .vt x=> .v (.bool x)
 | .vz s=> .v (.string s)
 | .vo x=> .v x
 | .agg cs=> .agg (SV.ck cs)
 | .aJ cs=> .aJ (SV.ck cs)
 | .vl ty xs=> .aP (E.sz ty) (xs.map (E.ea N.ρ ty))
 | .vc sz els=> .aP sz (SV.bE els)
 | .emp=> .emp
 | .pim cs o=> .pim (SV.ck cs) o
 | .ref nm sz i o=> .ref (N.ι nm) sz i o
 | .own nm sz=> .own (N.ι nm) sz 0 (N.ln nm)
 | .part nm sz off len=> .own (N.ι nm) sz off len
 | .fn f cs=> .fn f (SV.ck cs)
 | .bf f cs=> .bf f (SV.ck cs)
 | .mp nm=> .mp (N.ι nm)
 | .rw t r=>match r.kd with
  | .nil=> .emp
  | .own=> .own r.id (E.sz t) 0 r.n
  | .aP=> .aP (E.sz t) (r.xs.map (E.ea N.ρ t))
 | .cK t r i o=>match r.kd with
  | .nil=> .dead
  | .own=> .ref r.id (E.sz t) i o
  | .aP=>match r.xs[i]? with
   |some x=> .pim (E.ea N.ρ t x) o
   |none=> .dead
 | .vg p c v=>if c.den=p then SV.av v else .v undef
 | .dead=> .dead
def SV.ck:List (SV τ dn)->List AV
 |[]=>[]
 |v::r=>SV.av v::SV.ck r
def SV.bE:List (List (SV τ dn))->List (List AV)
 |[]=>[]
 |cs::r=>SV.ck cs::SV.bE r
end
theorem SV.bk (cs:List (SV τ dn)):SV.ck E N cs=cs.map (SV.av E N):=by
 induction cs with
 |nil=>simp [SV.ck]
 |cons v r ih=>simp [SV.ck,ih]
theorem SV.gB (els:List (List (SV τ dn))):SV.bE E N els=els.map fun cs=>cs.map (SV.av E N):=by
 induction els with
 |nil=>simp [SV.bE]
 |cons v r ih=>simp [SV.bE,ih,SV.bk]
inductive SB (τ:Type) (dn:τ->Type) where
 |bl (t:τ) (xs:List (dn t))
 |bc (sz:Nat) (els:List (List (SV τ dn)))
 |mc (els:List (List (SV τ dn)))
 |ar (t:τ) (A:List (Nat×List (dn t)))
def SB.av:SB τ dn->Bk
 | .bl ty xs=>⟨E.sz ty,xs.map (E.ea N.ρ ty)⟩
 | .bc sz els=>⟨sz,SV.bE E N els⟩
 | .mc els=>⟨0,SV.bE E N els⟩
 | .ar ty _=>⟨E.sz ty,[]⟩
def SB.len:SB τ dn->Nat
 | .bl _ xs=>xs.length
 | .bc _ els=>els.length
 | .mc _=>0
 | .ar _ _=>0
def SB.gC:SB τ dn->Bool
 | .ar _ _=>true
 |_=>false
def SB.uf:SB τ dn->Bool
 | .mc _=>true
 |_=>false
theorem SB.Ga (B:SB τ dn) (h:B.uf=false):(B.av E N).els.length=B.len:=by
 cases B with
 |bl t xs=>simp [SB.av,SB.len]
 |bc sz els=>simp [SB.av,SB.len,SV.gB]
 |mc els=>simp [SB.uf] at h
 |ar t A=>simp [SB.av,SB.len]
end
section
variable {τ:Type} {dn:τ->Type}
def SV.cells:SV τ dn->List (SV τ dn)
 | .agg cs=>cs
 |a=>[a]
def SV.one:SV τ dn->Bool
 | .agg _| .aJ _| .dead| .vg _ _ _| .cK _ _ _ _=>false
 | .vo x=>x.oneCell'
 |_=>true
def SV.fP:SV τ dn->Bool
 | .agg _=>true
 |a=>a.one
theorem SV.ov {E:TE τ dn} {v:SV τ dn} (h:v.fP=true):(v.av E N).cells=v.cells.map (SV.av E N):=by
 cases v<;>simp [SV.fP,SV.one] at h<;>first
  |(simp [SV.av,AV.cells,SV.cells,SV.bk];done)
  |(simp only [SV.av,SV.cells,Lf,LP];(repeat' split)<;>rfl)
theorem SV.Gb {E:TE τ dn} {v:SV τ dn} (h:v.one=true):(v.av E N).one=true:=by
 cases v<;>simp [SV.one] at h<;>first|exact h|rfl|(simp only [SV.av];(repeat' split)<;>rfl)
theorem SV.Gc {E:TE τ dn} {v:SV τ dn} (h:v.fP=true):(v.av E N).fP=true:=by
 cases v<;>simp [SV.fP,SV.one] at h<;>first|exact h|rfl|(simp only [SV.av];(repeat' split)<;>rfl)
end
section
variable {α:Type}
def dp (A:List (Nat×α)) (id:Nat):Prop:=id∈A.map Prod.fst
def yA (d:α):List (Nat×α)->Nat->α
 |[],_=>d
 |(j,x)::r,id=>if id=j then x else yA d r id
def eU (A:List (Nat×List α)) (id:Nat):List α:=yA [] A id
theorem yB {id:Nat}:¬dp ([]:List (Nat×α)) id:=by simp [dp]
theorem ox {x:α} {A:List (Nat×α)} {id:Nat}:dp ((j,x)::A) id↔id=j\/dp A id:=by simp [dp]
theorem yC {x:List α} {A:List (Nat×List α)} {id:Nat}:eU ((j,x)::A) id=if id=j then x else eU A id:=rfl
def Row.get (r:Row α) (A:List (Nat×List α)):List α:=match r.kd with
 | .nil=>[]
 | .own=>eU A r.id
 | .aP=>r.xs
def Row.ok (r:Row α) (A:List (Nat×List α)):Prop:=match r.kd with
 | .own=>dp A r.id/\(eU A r.id).length=r.n
 |_=>True
@[simp, grind =] theorem Row.KJ {id:Nat} : (Row.at α id n).id = id := rfl
@[simp, grind =] theorem Row.KK {id:Nat} : (Row.at α id n).n = n := rfl
@[simp, grind =] theorem Row.KL {id:Nat} : (Row.at α id n).kd = .own := rfl
@[simp, grind =] theorem Row.KM : (Row.no α).kd = .nil := rfl
@[simp, grind =] theorem Row.KN {xs : List α} : (Row.fix α xs).kd = .aP := rfl
@[simp, grind =] theorem Row.KO {xs : List α} : (Row.fix α xs).xs = xs := rfl
def Row.lQ (r:Row α) (A:List (Nat×List α)):Prop:=r.kd= .own/\dp A r.id/\(eU A r.id).length=r.n
end
open Go.RowKit
def bT (x:Int):Prop:= -9223372036854775808<=x/\x<=9223372036854775807
theorem bT.wr {x:Int} (h:bT x):IntKind.i64.wrap x=x:=by rw [IntKind.wrap_i64];unfold bT at h;omega
def uN (n:Nat):dP:=⟨n%18446744073709551616,Nat.mod_lt _ (by decide)⟩
theorem ug (h:n<18446744073709551616):(uN n).n=n:=Mo h
theorem wrap_u8 (x:Int):IntKind.u8.wrap x=x%256:=by simp [IntKind.wrap,IntKind.bits,IntKind.signed]
theorem wrap_u64 (x:Int):IntKind.u64.wrap x=x%18446744073709551616:=by simp [IntKind.wrap,IntKind.bits,IntKind.signed]
theorem bits_nat (op:BinOp) (k:IntKind) (a b:Nat):bits op k a b=k.wrap ((match op with
  | .and=>BitVec.ofNat k.bits a&&&BitVec.ofNat k.bits b
  | .or=>BitVec.ofNat k.bits a|||BitVec.ofNat k.bits b
  | .xor=>BitVec.ofNat k.bits a^^^BitVec.ofNat k.bits b
  |_=>BitVec.ofNat k.bits a&&& ~~~BitVec.ofNat k.bits b).toNat:Int):=by
 unfold bits;simp only [BitVec.ofInt_natCast]
 cases op<;>rfl
def gh:BinOp->Nat->Nat->Nat
 | .and,a,b=>a&&&b
 | .or,a,b=>a|||b
 | .xor,a,b=>a^^^b
 |_,a,b=>a&&&(a^^^b)
theorem Ge (a b:Nat) (n:Nat) (ha:a<2^n):(BitVec.ofNat n a&&& ~~~BitVec.ofNat n b).toNat=a&&&(a^^^(b%2^n)):=by
 rw [BitVec.toNat_and,BitVec.toNat_not,Mw,Mw,Mo ha]
 apply Nat.eq_of_testBit_eq
 intro i
 rw [Nat.testBit_and,Nat.testBit_and,Nat.testBit_xor,show 2^n - 1 - b%2^n=2^n - (b%2^n+1) by omega,Nat.testBit_two_pow_sub_succ (Nat.mod_lt _ (Nat.two_pow_pos n))]
 cases h:a.testBit i with
 |false=>simp
 |true=>
  have hi:i<n:=by
   by_cases hi:i<n
   ·exact hi
   ·exfalso
    have:a<2^i:=Lr ha (Nat.pow_le_pow_right (by decide) (by omega))
    rw [Nat.testBit_lt_two_pow this] at h;simp at h
  simp [hi]
theorem uh (op:BinOp) (k:IntKind) (a b:Nat) (ha:a<2^k.bits) (hb:b<2^k.bits):bits op k a b=k.wrap (gh op a b:Nat):=by
 rw [bits_nat]
 have h1:=Mo ha
 have h2:=Mo hb
 cases op<;>simp only [gh]<;>first
  |rw [BitVec.toNat_and,Mw,Mw,h1,h2]
  |rw [BitVec.toNat_or,Mw,Mw,h1,h2]
  |rw [BitVec.toNat_xor,Mw,Mw,h1,h2]
  |rw [Ge _ _ _ ha,h2]
theorem qJ (op:BinOp) {a b:Nat} (ha:a<2^n) (hb:b<2^n):gh op a b<2^n:=by
 cases op<;>simp only [gh]<;>first
  |exact Nat.or_lt_two_pow ha hb
  |exact Nat.xor_lt_two_pow ha hb
  |exact Nat.lt_of_le_of_lt Nat.and_le_left ha
theorem Gf (op:BinOp) (a b:Nat) (h:a<2^63) (h2:b<2^63):gh op a b<2^63:=qJ op h h2
theorem ui (op:BinOp) (x y:Int) (hx:0<=x) (hy:0<=y) (yD:bT x) (Gg:bT y):bits op .i64 x y=((gh op x.toNat y.toNat:Nat):Int):=by
 unfold bT at yD Gg
 have e1:((x.toNat:Nat):Int)=x:=by omega
 have e2:((y.toNat:Nat):Int)=y:=by omega
 have h1:x.toNat<2^63:=by omega
 have h2:y.toNat<2^63:=by omega
 have:=uh op .i64 x.toNat y.toNat (Nat.lt_trans h1 (by decide)) (Nat.lt_trans h2 (by decide))
 rw [e1,e2] at this
 rw [this]
 have h3:=Gf op _ _ h1 h2
 have h4:gh op x.toNat y.toNat<9223372036854775808:=h3
 exact bT.wr ⟨by omega,by omega⟩
def uj:BinOp->UInt8->UInt8->UInt8
 | .and,a,b=>a&&&b
 | .or,a,b=>a|||b
 | .xor,a,b=>a^^^b
 |_,a,b=>a&&&(a^^^b)
theorem Gh (op:BinOp) (a b:UInt8):(uj op a b).toNat=gh op a.toNat b.toNat:=by
 cases op<;>simp [uj,gh]
theorem uk (op:BinOp) (a b:UInt8):bits op .u8 (a.toNat:Int) (b.toNat:Int)=((uj op a b).toNat:Int):=by
 rw [uh op .u8 _ _ a.toNat_lt b.toNat_lt,Gh,wrap_u8]
 have:gh op a.toNat b.toNat<2^8:=qJ op a.toNat_lt b.toNat_lt
 omega
def lR (op:BinOp) (a b:dP):dP:=uN (gh op a.n b.n)
theorem Gi (op:BinOp) (a b:dP):(lR op a b).n=gh op a.n b.n:=ug (by
 have:gh op a.n b.n<2^64:=qJ op a.lt b.lt
 exact this)
theorem oy (op:BinOp) (a b:dP):bits op .u64 (a.n:Int) (b.n:Int)=((lR op a b).n:Int):=by
 rw [uh op .u64 _ _ a.lt b.lt,Gi,wrap_u64]
 have:gh op a.n b.n<2^64:=qJ op a.lt b.lt
 omega
theorem Gj (a b:UInt8):IntKind.u8.wrap ((a.toNat:Int)+b.toNat)=((a+b).toNat:Int):=by
 rw [wrap_u8,UInt8.toNat_add];omega
theorem Gk (a b:UInt8):IntKind.u8.wrap ((a.toNat:Int) - b.toNat)=((a - b).toNat:Int):=by
 rw [wrap_u8,UInt8.toNat_sub];have:=b.toNat_lt;omega
theorem Gl (a b:UInt8):IntKind.u8.wrap ((a.toNat:Int)*b.toNat)=((a*b).toNat:Int):=by
 rw [wrap_u8,UInt8.toNat_mul, <-Int.natCast_mul];omega
theorem Gm (a b:dP):IntKind.u64.wrap ((a.n:Int)+b.n)=((uN (a.n+b.n)).n:Int):=by
 rw [wrap_u64];show _=(((a.n+b.n)%18446744073709551616:Nat):Int);omega
theorem Gn (a b:dP):IntKind.u64.wrap ((a.n:Int) - b.n)=((uN (a.n+18446744073709551616 - b.n)).n:Int):=by
 have:=b.lt
 rw [wrap_u64];show _=(((a.n+18446744073709551616 - b.n)%18446744073709551616:Nat):Int);omega
theorem Gp (a b:dP):IntKind.u64.wrap ((a.n:Int)*b.n)=((uN (a.n*b.n)).n:Int):=by
 rw [wrap_u64, <-Int.natCast_mul];show _=(((a.n*b.n)%18446744073709551616:Nat):Int);omega
def oz (a:UInt8) (k:Nat):UInt8:=UInt8.ofNat (a.toNat*2^(min k 8))
def oA (a:UInt8) (k:Nat):UInt8:=UInt8.ofNat (a.toNat / 2^(min k 8))
theorem yE (a k:Nat):((a:Int)*2^k)=((a*2^k:Nat):Int):=by rw [Int.natCast_mul,Int.natCast_pow];rfl
theorem yF (a:UInt8) (k:Nat):IntKind.u8.wrap ((a.toNat:Int)*2^(min k IntKind.u8.bits))=((oz a k).toNat:Int):=by
 have e:(oz a k).toNat=a.toNat*2^min k 8%256:=by unfold oz;exact UInt8.toNat_ofNat ..
 rw [wrap_u8,e,show IntKind.u8.bits=8 from rfl,yE,Int.natCast_emod];rfl
theorem fdiv_pow (a k:Nat):((a:Int).fdiv (2^k))=((a / 2^k:Nat):Int):=by
 rw [show (2:Int)^k=((2^k:Nat):Int) by simp]
 exact Int.fdiv_eq_ediv_of_nonneg _ (Int.natCast_nonneg _)
theorem yG (a:UInt8) (k:Nat):((a.toNat:Int).fdiv (2^(min k IntKind.u8.bits)))=((oA a k).toNat:Int):=by
 have e:(oA a k).toNat=a.toNat / 2^min k 8%256:=by unfold oA;exact UInt8.toNat_ofNat ..
 have h:a.toNat / 2^min k 8<256:=Nat.lt_of_le_of_lt (Nat.div_le_self _ _) a.toNat_lt
 rw [e,Mo h,show IntKind.u8.bits=8 from rfl,fdiv_pow]
theorem yH (a:dP) (k:Nat):IntKind.u64.wrap ((a.n:Int)*2^(min k IntKind.u64.bits))=((uN (a.n*2^min k 64)).n:Int):=by
 rw [wrap_u64,show IntKind.u64.bits=64 from rfl,yE]
 show _=(((a.n*2^min k 64)%18446744073709551616:Nat):Int);rw [Int.natCast_emod];rfl
theorem yI (a:dP) (k:Nat):((a.n:Int).fdiv (2^(min k IntKind.u64.bits)))=((uN (a.n / 2^min k 64)).n:Int):=by
 have h:a.n / 2^min k 64<18446744073709551616:=Nat.lt_of_le_of_lt (Nat.div_le_self _ _) a.lt
 rw [ug h,show IntKind.u64.bits=64 from rfl,fdiv_pow]
theorem Gq (x:Int) (k:Nat) (h:bT (x*2^k)):IntKind.i64.wrap (x*2^(min k IntKind.i64.bits))=x*2^k:=by
 rw [show IntKind.i64.bits=64 from rfl]
 by_cases hk:k<=64
 ·rw [Nat.min_eq_left hk];exact h.wr
 ·rw [Nat.min_eq_right (by omega)]
  have h0:x=0:=by
   obtain ⟨j,rfl⟩:∃j,k=64+j:=⟨k - 64,by omega⟩
   have hp:(1:Int)<=2^j:=by exact_mod_cast Nat.two_pow_pos j
   unfold bT at h
   rw [Int.pow_add] at h
   by_cases hx:0<x
   ·exfalso
    have h2:x*(2^64*1)<=x*(2^64*2^j):=M1 (M1 hp (by decide)) (by omega)
    have:=h.2;omega
   ·by_cases yD:x<0
    ·exfalso
     have h2:(-x)*(2^64*1)<=(-x)*(2^64*2^j):=M1 (M1 hp (by decide)) (by omega)
     rw [Int.neg_mul (b:=2^64*2^j)] at h2
     have:=h.1;omega
    ·omega
  rw [h0];simp;exact bT.wr ⟨by decide,by decide⟩
theorem Gr (x:Int) (k:Nat) (h:k<=64):x.fdiv (2^(min k IntKind.i64.bits))=x / 2^k:=by
 rw [show IntKind.i64.bits=64 from rfl,Nat.min_eq_left h]
 exact Int.fdiv_eq_ediv_of_nonneg _ (Int.pow_nonneg (by decide))
theorem Gs {x y:Int} (h:0<=x/\0<y/\bT x):IntKind.i64.wrap (x.tdiv y)=x / y:=by
 rw [Int.tdiv_eq_ediv_of_nonneg h.1]
 have h1:=Int.ediv_nonneg (b:=y) h.1 (by omega)
 have h2:=Int.ediv_le_self y h.1
 have:=h.2.2
 unfold bT at this
 exact bT.wr ⟨by omega,by omega⟩
theorem Gt {x y:Int} (h:0<=x):x.tmod y=x%y:=Int.tmod_eq_emod_of_nonneg h
theorem um {x:Int} (h:0<=x):IntKind.u8.wrap x=((UInt8.ofNat x.toNat).toNat:Int):=by
 have e:(UInt8.ofNat x.toNat).toNat=x.toNat%256:=UInt8.toNat_ofNat ..
 rw [wrap_u8,e];omega
theorem yJ {x:Int} (h:0<=x):IntKind.u64.wrap x=((uN x.toNat).n:Int):=by
 rw [wrap_u64];show _=((x.toNat%18446744073709551616:Nat):Int);omega
open Go.RowKit
def gd (d:α) (xs:List α) (i:Nat):α:=(xs[i]?).getD d
theorem jK {α:Type} {d:α} {xs:List α} (h:i<xs.length):xs[i]? =some (gd d xs i):=by
 unfold gd;rw [Lj h];rfl
def gb (s:ByteArray) (i:Nat):UInt8:=(s[i]?).getD 0
structure TD (τ:Type) (dn:τ->Type) extends TE τ dn where
 df:(t:τ)->dn t
 es:(t:τ)->dn t->List (SV τ dn)
 ds:(t:τ)->List (SV τ dn)->Option (dn t)
 ag:τ->Bool
 pu:τ->Bool
 hint:Nat->Nat->Option τ
 neg:Bool
 em:τ->Bool:=fun _=>false
 ar:Option τ:=none
 hr:τ->Bool:=fun _=>false
 fz:(t ta:τ)->(A:List (Nat×List (dn ta)))->Option ((t':τ)×(dn t->dn t')×(dn t->Prop)):=fun _ _ _=>none
 bt:(t:τ)->Option ((dn t->UInt8)×(UInt8->dn t)):=fun _=>none
 th:(t t':τ)->Option (dn t->dn t'):=fun _ _=>none
def SV.ne:SV τ dn->Bool
 | .emp=>false
 |_=>true
def TD.lS (D:TD τ dn) (t:τ) (cs:List (SV τ dn)):Bool:=D.em t||cs.all SV.ne
structure aU {τ:Type} {dn:τ->Type} (D:TD τ dn):Prop where
 cO:∀(N:aw) (t:τ) (x:dn t),(D.es t x).map (SV.av D.toTE N)=D.ea N.ρ t x
 fb:∀(N:aw) (t:τ) (cs:List (SV τ dn)) (x:dn t),D.ds t cs=some x->dy (cs.map (SV.av D.toTE N)) (D.ea N.ρ t x)
 dY:∀(N:aw) (t:τ) (cs:List (SV τ dn)) (x:dn t),D.ds t cs=some x->D.lS t cs=true->cs.map (SV.av D.toTE N)=D.ea N.ρ t x
 len:∀(t:τ) (x:dn t),(D.es t x).length=D.sz t
 one:∀(t:τ) (x:dn t),(D.es t x).all SV.one=true
 nf:∀(p:Nat->Bool) (t:τ) (x:dn t),SV.db p (D.es t x)=true
 fc:∀(ρ gD:Nat->AV) (t:τ) (x:dn t),D.pu t=true->D.ea ρ t x=D.ea gD t x
 pu1:∀(N:aw) (t:τ) (x:dn t),D.pu t=true->(D.ea N.ρ t x).all AV.pu1=true
 bt:∀(N:aw) (t:τ) (p:(dn t->UInt8)×(UInt8->dn t)),D.bt t=some p->(∀x,D.ea N.ρ t x=[.v (.int .u8 (p.1 x).toNat)])/\∀b,p.1 (p.2 b)=b
 th:∀(ρ:Nat->AV) (t t':τ) (f:dn t->dn t'),D.th t t'=some f->D.sz t'=D.sz t/\∀x,D.ea ρ t' (f x)=D.ea ρ t x
 fz:∀(N:aw) (φ:AV->AV) (t ta:τ) (A:List (Nat×List (dn ta))) (t':τ) (f:dn t->dn t') (O:dn t->Prop),D.fz t ta A=some ⟨t',f,O⟩->(∀a,a.pu1=true->φ a=a)->
  (∀id n,dp A id->(eU A id).length=n->φ (.own id (D.sz ta) 0 n)= .aP (D.sz ta) ((eU A id).map (D.ea N.ρ ta)))->D.sz t'=D.sz t/\∀x,O x->(D.ea N.ρ t x).map φ=D.ea N.ρ t' (f x)
theorem aU.oB {D:TD τ dn} (ok:aU D) (N:aw) (t:τ) (cs:List (SV τ dn)) (x:dn t) (h:D.ds t cs=some x) (hn:cs.all SV.ne=true):cs.map (SV.av D.toTE N)=D.ea N.ρ t x:=
 ok.dY N t cs x h (by unfold TD.lS;rw [hn,Bool.or_true])
def getS {α:Type}:List (Nat×α)->Nat->Option α
 |[],_=>none
 |(j,v)::r,i=>bif Nat.beq i j then some v else getS r i
structure SS (τ:Type) (dn:τ->Type) where
 rt:List (Nat×SV τ dn)
 rm:List (Nat×Option (SB τ dn))
 t:List (Nat×SV τ dn)
 m:List (Nat×Option (SB τ dn))
 nx:Nat
section
variable {τ:Type} {dn:τ->Type} [DecidableEq τ]
def mS:Value->Option (SV τ dn)
 | .int .i64 k=>some (.vn k)
 | .int .u8 k=>if 0<=k/\k<256 then some (.vy (UInt8.ofNat k.toNat)) else none
 | .int .u64 k=>if 0<=k/\k<18446744073709551616 then some (.vu (uN k.toNat)) else none
 | .int q k=>some (.vw q k)
 | .bool b=>some (.vt b)
 | .string s=>some (.vz s)
 | .nilFunc=>some (.vo .nilFunc)
 | .nilIface=>some (.vo .nilIface)
 | .pointer none=>some (.vo (.pointer none))
 | .tuple vs=>if vs.isEmpty=true then some (.vo undef) else none
 |_=>none
mutual
def iw:AV->Option (SV τ dn)
 | .v x=>mS x
 | .agg cs=>(ix cs).map .agg
 | .emp=>some .emp
 | .fn f cs=>(ix cs).map (.fn f)
 | .pim cs o=>(ix cs).map (.pim · o)
 | .dead=>some .dead
 |_=>none
def ix:List AV->Option (List (SV τ dn))
 |[]=>some []
 |a::r=>match iw a,ix r with
  |some v,some l=>some (v::l)
  |_,_=>none
end
def SS.gt (st:SS τ dn) (i:Nat):Option (SV τ dn):=match getS st.t i with
 |some v=>some v
 |none=>getS st.rt i
def SS.gm (st:SS τ dn) (nm:Nat):Option (SB τ dn):=match getS st.m nm with
 |some b=>b
 |none=>(getS st.rm nm).join
def SS.ev (st:SS τ dn):Arg->Option (SV τ dn)
 | .s i=>st.gt i
 | .c a=>iw a
def SS.rw (st:SS τ dn) (nm:Nat):Bool:=(match getS st.m nm with|some (some _)=>true|_=>false)&&(getS st.rm nm).isNone
inductive SR (τ:Type) (dn:τ->Type) where
 |val (O:List Prop) (v:SV τ dn)
 |new (O:List Prop) (v:SV τ dn) (B:SB τ dn)
 |put (O:List Prop) (v:SV τ dn) (nm:Nat) (B:SB τ dn)
 |mov (O:List Prop) (v:SV τ dn) (aL:Nat) (B:SB τ dn)
 |ff (O:List Prop) (v:SV τ dn) (ns:List Nat)
 |dZ (O:List Prop) (v:SV τ dn) (id:Nat) (t:τ) (row:List (dn t)) (A:List (Nat×List (dn t)))
def SV.int:SV τ dn->Option (Int×Bool)
 | .vi x=>some (x,false)
 | .vn x=>some (x,true)
 |_=>none
def oC:SV τ dn->Option (SV τ dn)
 | .vb c=>some (.vb (.not c))
 | .vt b=>some (.vt !b)
 |_=>none
def uo:SV τ dn->SV τ dn->Option (SV τ dn)
 | .vt true,a=>some a
 | .vt false, .vb _=>some (.vt false)
 | .vt false, .vt _=>some (.vt false)
 | .vb c, .vt true=>some (.vb c)
 | .vb _, .vt false=>some (.vt false)
 | .vb c, .vb d=>some (.vb (.and c d))
 |_,_=>none
def SV.lit:SV τ dn->Option Value
 | .vn x=>some (.int .i64 x)
 | .vt b=>some (.bool b)
 |_=>none
def oD (bt:Bool) (op:BinOp) (a b:SV τ dn):Option (SV τ dn):=
 match a.lit,b.lit with
 |some x,some y=>match binA bt op x y with
  |some v=>mS v
  |none=>none
 |_,_=>none
def oE (neg:Bool) (op:BinOp) (x y:Int):Option (SR τ dn):=
 match op with
 | .add=>some (.val [bT (x+y)] (.vi (x+y)))
 | .sub=>some (.val [bT (x - y)] (.vi (x - y)))
 | .mul=>some (.val [bT (x*y)] (.vi (x*y)))
 | .quo=>bif neg then some (.val [y≠0,bT (x.tdiv y)] (.vi (x.tdiv y))) else some (.val [0<=x/\0<y/\bT x] (.vi (x / y)))
 | .rem=>bif neg then some (.val [y≠0] (.vi (x.tmod y))) else some (.val [0<=x/\y≠0] (.vi (x%y)))
 | .and=>some (.val [0<=x/\0<=y/\bT x/\bT y] (.vi ((x.toNat&&&y.toNat:Nat):Int)))
 | .or=>some (.val [0<=x/\0<=y/\bT x/\bT y] (.vi ((x.toNat|||y.toNat:Nat):Int)))
 | .xor=>some (.val [0<=x/\0<=y/\bT x/\bT y] (.vi ((x.toNat^^^y.toNat:Nat):Int)))
 | .shl=>some (.val [0<=y/\bT (x*2^y.toNat)] (.vi (x*2^y.toNat)))
 | .shr=>some (.val [0<=y/\y<=64] (.vi (x / 2^y.toNat)))
 | .eql=>some (.val [] (.vb (.eq x y)))
 | .neq=>some (.val [] (.vb (.not (.eq x y))))
 | .lss=>some (.val [] (.vb (.lt x y)))
 | .leq=>some (.val [] (.vb (.le x y)))
 | .gtr=>some (.val [] (.vb (.lt y x)))
 | .geq=>some (.val [] (.vb (.le y x)))
 |_=>none
def oY (op:BinOp) (x y:UInt8):Option (SV τ dn):=
 match op with
 | .add=>some (.vy (x+y))
 | .sub=>some (.vy (x - y))
 | .mul=>some (.vy (x*y))
 | .and=>some (.vy (x&&&y))
 | .or=>some (.vy (x|||y))
 | .xor=>some (.vy (x^^^y))
 | .eql=>some (.vb (.ey x y))
 | .neq=>some (.vb (.not (.ey x y)))
 | .lss=>some (.vb (.ly x y))
 | .leq=>some (.vb (.not (.ly y x)))
 | .gtr=>some (.vb (.ly y x))
 | .geq=>some (.vb (.not (.ly x y)))
 |_=>none
def oU (op:BinOp) (x y:dP):Option (SV τ dn):=
 match op with
 | .add=>some (.vu (uN (x.n+y.n)))
 | .sub=>some (.vu (uN (x.n+18446744073709551616 - y.n)))
 | .mul=>some (.vu (uN (x.n*y.n)))
 | .and=>some (.vu (lR .and x y))
 | .or=>some (.vu (lR .or x y))
 | .xor=>some (.vu (lR .xor x y))
 | .andNot=>some (.vu (lR .andNot x y))
 | .eql=>some (.vb (.eq x.n y.n))
 | .neq=>some (.vb (.not (.eq x.n y.n)))
 | .lss=>some (.vb (.lt x.n y.n))
 | .leq=>some (.vb (.le x.n y.n))
 | .gtr=>some (.vb (.lt y.n x.n))
 | .geq=>some (.vb (.le y.n x.n))
 |_=>none
def oZ (op:BinOp) (x y:ByteArray):Option (SR τ dn):=
 match op with
 | .eql=>some (.val [] (.vb (.ez x y)))
 | .neq=>some (.val [] (.vb (.not (.ez x y))))
 | .lss=>some (.val [] (.vb (.lz x y)))
 | .add=>some (.val [((x.size+y.size:Nat):Int)<=9223372036854775807] (.vz (x++y)))
 |_=>none
def oF:SV τ dn->SV τ dn->Option (SV τ dn)
 | .vb c, .vt b=>some (.vb (if b then c else .not c))
 | .vt b, .vb c=>some (.vb (if b then c else .not c))
 | .vb c, .vb d=>some (.vb (.eb c.den d.den))
 |_,_=>none
def oG (neg bt:Bool) (op:BinOp) (a b:SV τ dn):Option (SR τ dn):=
 match oD bt op a b with
 |some v=>some (.val [] v)
 |none=>match a.int,b.int with
  |some (x,_),some (y,_)=>oE neg op x y
  |_,_=>match a,b with
   | .vy x, .vy y=>(oY op x y).map (.val [])
   | .vu x, .vu y=>(oU op x y).map (.val [])
   | .vz x, .vz y=>oZ op x y
   | .vy x, .vi y=>match op with
    | .shl=>some (.val [0<=y] (.vy (oz x y.toNat)))
    | .shr=>some (.val [0<=y] (.vy (oA x y.toNat)))
    |_=>none
   | .vy x, .vn y=>match op with
    | .shl=>some (.val [0<=y] (.vy (oz x y.toNat)))
    | .shr=>some (.val [0<=y] (.vy (oA x y.toNat)))
    |_=>none
   | .vu x, .vi y=>match op with
    | .shl=>some (.val [0<=y] (.vu (uN (x.n*2^min y.toNat 64))))
    | .shr=>some (.val [0<=y] (.vu (uN (x.n / 2^min y.toNat 64))))
    |_=>none
   | .vu x, .vn y=>match op with
    | .shl=>some (.val [0<=y] (.vu (uN (x.n*2^min y.toNat 64))))
    | .shr=>some (.val [0<=y] (.vu (uN (x.n / 2^min y.toNat 64))))
    |_=>none
   | .vw q x, .vw q' y=>if q=q' then (match op with
    | .and=>some (.val [] (.vw q (bits .and q x y)))
    | .or=>some (.val [] (.vw q (bits .or q x y)))
    | .xor=>some (.val [] (.vw q (bits .xor q x y)))
    | .add=>some (.val [] (.vw q (q.wrap (x+y))))
    | .sub=>some (.val [] (.vw q (q.wrap (x - y))))
    | .mul=>some (.val [] (.vw q (q.wrap (x*y))))
    | .eql=>some (.val [] (.vb (.eq x y)))
    | .neq=>some (.val [] (.vb (.not (.eq x y))))
    | .lss=>some (.val [] (.vb (.lt x y)))
    | .leq=>some (.val [] (.vb (.le x y)))
    | .gtr=>some (.val [] (.vb (.lt y x)))
    | .geq=>some (.val [] (.vb (.le y x)))
    |_=>none) else none
   | .vw q x, .vi y=>match op with
    | .shl=>some (.val [0<=y] (.vw q (q.wrap (x*2^(min y.toNat q.bits)))))
    | .shr=>some (.val [0<=y] (.vw q (x.fdiv (2^(min y.toNat q.bits)))))
    |_=>none
   | .vw q x, .vn y=>match op with
    | .shl=>some (.val [0<=y] (.vw q (q.wrap (x*2^(min y.toNat q.bits)))))
    | .shr=>some (.val [0<=y] (.vw q (x.fdiv (2^(min y.toNat q.bits)))))
    |_=>none
   | .vw q x, .vu y=>match op with
    | .shl=>some (.val [] (.vw q (q.wrap (x*2^(min y.n q.bits)))))
    | .shr=>some (.val [] (.vw q (x.fdiv (2^(min y.n q.bits)))))
    |_=>none
   |a,b=>if bt=true then (match op with
    | .eql=>(oF a b).map (.val [])
    | .neq=>((oF a b).bind oC).map (.val [])
    |_=>none) else none
def oH (op:UnOp) (a:SV τ dn):Option (SR τ dn):=
 match op,a with
 | .neg, .vn x=>(mS (.int .i64 (IntKind.i64.wrap (0 - x)))).map (.val [])
 | .neg, .vi x=>some (.val [bT (0 - x)] (.vi (0 - x)))
 | .xor, .vu x=>some (.val [] (.vu (lR .xor (uN 18446744073709551615) x)))
 | .not,a=>(oC a).map (.val [])
 |_,_=>none
def oI (k:IntKind) (a:SV τ dn):Option (SR τ dn):=
 match k,a with
 |k, .vn x=>(mS (.int k (k.wrap x))).map (.val [])
 | .i64, .vi x=>some (.val [bT x] (.vi x))
 | .i64, .vy x=>some (.val [] (.vi x.toNat))
 | .i64, .vu x=>some (.val [bT x.n] (.vi x.n))
 | .i64, .vw _ x=>some (.val [bT x] (.vi x))
 | .u8, .vi x=>some (.val [0<=x] (.vy (UInt8.ofNat x.toNat)))
 | .u8, .vu x=>some (.val [] (.vy (UInt8.ofNat x.n)))
 | .u8, .vw _ x=>some (.val [0<=x] (.vy (UInt8.ofNat x.toNat)))
 | .u64, .vi x=>some (.val [0<=x] (.vu (uN x.toNat)))
 | .u64, .vy x=>some (.val [] (.vu (uN x.toNat)))
 | .u16, .vi x=>some (.val [] (.vw .u16 (IntKind.u16.wrap x)))
 | .u16, .vy x=>some (.val [] (.vw .u16 (IntKind.u16.wrap x.toNat)))
 | .u16, .vw _ x=>some (.val [] (.vw .u16 (IntKind.u16.wrap x)))
 |_,_=>none
def jL (cs:List (SV τ dn)) (o:Nat):Option Nat->Option (SV τ dn)
 |none=>cs[o]?
 |some n=>if o+n<=cs.length then some (.agg ((cs.drop o).take n)) else none
def kL (cs:List (SV τ dn)) (o:Nat) (ys:List (SV τ dn)):List (SV τ dn):=cs.take o++ys++cs.drop (o+ys.length)
def oJ (st:SS τ dn) (cells:List (SV τ dn)):List (Nat×Nat×Arg)->Option (List (SV τ dn))
 |[]=>some cells
 |(off,n,x)::r=>match st.ev x with
  |some v=>if v.cells.length=n/\off+n<=cells.length/\v.fP=true then oJ st (kL cells off v.cells) r else none
  |none=>none
def kM (st:SS τ dn) (sz:Nat) (els:List (List (SV τ dn))):List (Nat×Arg)->Option (List (List (SV τ dn)))
 |[]=>some els
 |(i,x)::r=>match st.ev x with
  |some v=>if v.cells.length=sz/\i<els.length/\v.fP=true/\v.cells.all SV.one=true then kM st sz (els.set i v.cells) r else none
  |none=>none
def uq:LK->SV τ dn->SV τ dn->Option (SV τ dn)
 | .int,a,b=>match oD false .eql a b with
  |some v=>some v
  |none=>match a.int,b.int with
   |some (x,_),some (y,_)=>some (.vb (.eq x y))
   |_,_=>match a,b with
    | .vu x, .vu y=>some (.vb (.eq x.n y.n))
    | .vy x, .vy y=>some (.vb (.ey x y))
    |_,_=>none
 | .str, .vz a, .vz b=>some (.vb (.ez a b))
 | .bool, .vt a, .vt b=>some (.vt (a==b))
 | .bool,a,b=>oF a b
 |_,_,_=>none
def oK (cs ds:List (SV τ dn)):List (Nat×LK)->Option (SV τ dn)
 |[]=>some (.vt true)
 |(o,k)::r=>match cs[o]?,ds[o]? with
  |some a,some b=>match uq k a b,oK cs ds r with
   |some x,some y=>uo x y
   |_,_=>none
  |_,_=>none
inductive Ct (τ:Type) (dn:τ->Type) where
 |ty (t:τ) (xs:List (dn t))
 |li (els:List (List (SV τ dn)))
def Ct.len:Ct τ dn->Nat
 | .ty _ xs=>xs.length
 | .li els=>els.length
variable (D:TD τ dn)
def SS.cont (st:SS τ dn) (sz:Nat):SV τ dn->Option (Ct τ dn)
 | .vl ty xs=>if D.sz ty=sz then some (.ty ty xs) else none
 | .vc k els=>if k=sz then some (.li els) else none
 | .emp=>some (.li [])
 | .own nm k=>if k=sz then (match st.gm nm with
  |some (.bl ty xs)=>if D.sz ty=sz then some (.ty ty xs) else none
  |some (.bc q els)=>if q=sz then some (.li els) else none
  |_=>none) else none
 |_=>none
def iZ (ty:τ):List (List (SV τ dn))->Option (List (dn ty))
 |[]=>some []
 |cs::r=>if D.lS ty cs=true then (match D.ds ty cs,iZ ty r with
  |some x,some l=>some (x::l)
  |_,_=>none) else none
def lT (sz:Nat):SB τ dn->Ct τ dn->Option (SB τ dn)
 | .bl ty xs, .ty kN ys=>if h:kN=ty then some (.bl ty (xs++h▸ys)) else none
 | .bl ty xs, .li els=>(iZ D ty els).map fun ys=> .bl ty (xs++ys)
 | .bc q els, .ty ty ys=>if q=D.sz ty then (iZ D ty els).map fun xs=> .bl ty (xs++ys) else none
 | .bc q els, .li fs=>if q=sz then some (.bc q (els++fs)) else none
 | .mc _,_=>none
 | .ar _ _,_=>none
def Ct.ja (sz:Nat):Ct τ dn->SB τ dn
 | .ty t xs=> .bl t xs
 | .li els=> .bc sz els
def SB.sz:SB τ dn->Nat
 | .bl ty _=>D.sz ty
 | .bc sz _=>sz
 | .mc _=>0
 | .ar ty _=>D.sz ty
def SB.yK:SB τ dn->SV τ dn
 | .bl _ xs=> .vi (xs.length:Int)
 | .bc _ els=> .vn (els.length:Int)
 | .mc _=> .vn 0
 | .ar _ _=> .vn 0
def jM (st:SS τ dn):Option Arg->Option (Option Int)
 |none=>some none
 |some x=>match st.ev x with
  |some v=>match v.int with
   |some (k,_)=>some (some k)
   |none=>none
  |none=>none
def ur (xs:List α):Option Int->Option Int->List α
 |none,none=>xs
 |some l,none=>xs.drop l.toNat
 |none,some h=>xs.take h.toNat
 |some l,some h=>(xs.drop l.toNat).take (h.toNat - l.toNat)
def jN (len:Int):Option Int->Option Int->List Prop
 |none,none=>[]
 |some l,none=>[0<=l/\l<=len]
 |none,some h=>[0<=h/\h<=len]
 |some l,some h=>[0<=l/\l<=h/\h<=len]
def lU (st:SS τ dn) (m:Option Nat):SV τ dn->Option (SR τ dn)
 | .pim cs o=>(jL cs o m).map (.val [])
 | .ref nm sz i o=>match st.gm nm with
  |some (.bl ty xs)=>if D.sz ty=sz then (jL (D.es ty (gd (D.df ty) xs i)) o m).map (.val [i<xs.length]) else none
  |some (.bc q els)=>if q=sz then (match els[i]? with
   |some cs=>(jL cs o m).map (.val [])
   |none=>none) else none
  |_=>none
 |_=>none
def qK (st:SS τ dn) (n:Nat) (a y:SV τ dn):Option (SR τ dn):=
 if y.cells.length=n/\y.fP=true/\y.cells.all SV.one=true then match a with
 | .ref nm sz i o=>if o+n<=sz/\st.rw nm=true then (match st.gm nm with
  |some (.bl ty xs)=>if D.sz ty=sz/\D.lS ty (kL (D.es ty (gd (D.df ty) xs i)) o y.cells)=true then (match D.ds ty (kL (D.es ty (gd (D.df ty) xs i)) o y.cells) with
   |some z=>some (.put [i<xs.length] (.vo undef) nm (.bl ty (xs.set i z)))
   |none=>none) else none
  |some (.bc q els)=>if q=sz then (match els[i]? with
   |some cs=>some (.put [] (.vo undef) nm (.bc q (els.set i (kL cs o y.cells))))
   |none=>none) else none
  |_=>none) else none
 |_=>none
 else none
def oL (st:SS τ dn) (sz:Nat) (a:SV τ dn) (x:Int) (lit:Bool):Option (SR τ dn):=
 match a with
 | .vl ty xs=>if D.sz ty=sz then some (.val [0<=x/\x<xs.length] (.pim (D.es ty (gd (D.df ty) xs x.toNat)) 0)) else none
 | .vc q els=>bif lit then (if q=sz/\0<=x then (els[x.toNat]?).map fun cs=> .val [] (.pim cs 0) else none) else none
 | .own nm q=>if q=sz then (match st.gm nm with
  |some (.bl _ xs)=>some (.val [0<=x/\x<xs.length] (.ref nm sz x.toNat 0))
  |some (.bc _ els)=>bif lit then (if 0<=x/\x<els.length then some (.val [] (.ref nm sz x.toNat 0)) else none) else some (.val [0<=x/\x<els.length] (.ref nm sz x.toNat 0))
  |_=>none) else none
 | .part nm q off len=>if q=sz then (st.gm nm).map fun _=> .val [0<=x/\x<len] (.ref nm sz (off+x.toNat) 0) else none
 |_=>none
def oM (st:SS τ dn):Bool->SV τ dn->Option (SR τ dn)
 |true, .vz s=>some (.val [] (.vi (s.size:Int)))
 |false, .vl _ xs=>some (.val [] (.vi (xs.length:Int)))
 |false, .vc _ els=>some (.val [] (.vn (els.length:Int)))
 |false, .emp=>some (.val [] (.vn 0))
 |false, .own nm _=>(st.gm nm).map fun B=> .val [] B.yK
 |false, .part nm _ _ n=>(st.gm nm).map fun _=> .val [] (.vi (n:Int))
 |_,_=>none
def oN (st:SS τ dn):NK->Bool->SV τ dn->Option (SR τ dn)
 | .fn,neg, .fn _ _=>some (.val [] (.vt neg))
 | .fn,neg, .bf _ _=>some (.val [] (.vt neg))
 | .fn,neg, .vo .nilFunc=>some (.val [] (.vt !neg))
 | .pt,neg, .ref nm _ _ _=>(st.gm nm).map fun _=> .val [] (.vt neg)
 | .pt,neg, .pim _ _=>some (.val [] (.vt neg))
 | .pt,neg, .vo (.pointer none)=>some (.val [] (.vt !neg))
 | .sl,neg, .vl _ xs=>some (.val [xs≠[]] (.vt neg))
 |_,_,_=>none
def oO (st:SS τ dn) (sz:Nat) (a:SV τ dn) (lo hi:Option Int):Option (SR τ dn):=
 match a with
 | .vl ty xs=>if D.sz ty=sz then some (.val (jN xs.length lo hi) (.vl ty (ur xs lo hi))) else none
 | .emp=>match lo,hi with
  |none,none=>some (.val [] .emp)
  |_,_=>none
 | .own nm q=>if q=sz then (match lo,hi with
  |none,none=>(st.gm nm).map fun _=> .val [] (.own nm q)
  |_,_=>(st.gm nm).map fun B=> .val (jN B.len lo hi) (.part nm sz (lo.getD 0).toNat ((hi.getD B.len).toNat - (lo.getD 0).toNat))) else none
 |_=>none
def qL (st:SS τ dn) (sz bytes:Nat) (s x:SV τ dn):Option (SR τ dn):=
 match st.cont D sz x with
 |some ys=>match s with
  | .emp=>some (.new [ys.len*bytes<=140737488355328] (.own st.nx sz) (ys.ja sz))
  | .own nm q=>if q=sz/\st.rw nm=true then (match st.gm nm with
   |some B=>if B.sz D=sz then (lT D sz B ys).map fun B'=> .mov [(B.len+ys.len)*bytes<=140737488355328] (.own st.nx sz) nm B' else none
   |none=>none) else none
  |_=>none
 |none=>none
def Gu (bytes:Nat):List AV->Nat
 | .v (.bool _)::_=>1000+bytes
 |_=>bytes
def oP:List (List (SV τ dn))->Option (List UInt8)
 |[]=>some []
 |[.vy b]::r=>match oP r with
  |some l=>some (b::l)
  |none=>none
 |_=>none
def oQ (st:SS τ dn) (v:SV τ dn):Option (SR τ dn):=match st.cont D 1 v with
 |some (.ty t xs)=>match D.bt t with
  |some p=>some (.val [] (.vz ⟨(xs.map p.1).toArray⟩))
  |none=>none
 |some (.li els)=>match oP els with
  |some l=>some (.val [] (.vz ⟨l.toArray⟩))
  |none=>none
 |none=>none
def oR (st:SS τ dn) (s:ByteArray):Option (SR τ dn):=match D.hint 1 1 with
 |some t=>match D.bt t with
  |some p=>if D.sz t=1 then some (.new [s.size<=140737488355328] (.own st.nx 1) (.bl t (s.data.toList.map p.2))) else none
  |none=>none
 |none=>none
def oS (st:SS τ dn) (sz bytes:Nat) (zs:List AV) (l c:Int):Option (SR τ dn):=
 match D.hint sz (Gu bytes zs),ix zs with
 |some ty,some cs=>if D.sz ty=sz/\D.lS ty cs=true then (match D.ds ty cs with
  |some z=>some (.new [0<=l/\l<=c/\c*bytes<=140737488355328] (.own st.nx sz) (.bl ty (List.replicate l.toNat z)))
  |none=>none) else none
 |_,_=>none
def qM (st:SS τ dn) (sz:Nat) (x y:SV τ dn):Option (SR τ dn):=
 match x,st.cont D sz y with
 | .own nm q,some (.ty ty ys)=>if q=sz/\st.rw nm=true then (match st.gm nm with
  |some (.bl kN xs)=>if h:ty=kN then (if D.sz kN=sz then some (.put [] (.vi ((min ys.length xs.length:Nat):Int)) nm (.bl kN (((h▸ys):List (dn kN)).take xs.length++xs.drop (min ys.length xs.length)))) else none) else none
  |_=>none) else none
 |_,_=>none
def SV.key:SV τ dn->Option Value
 | .vn x=>some (.int .i64 x)
 | .vt b=>some (.bool b)
 | .vz s=>some (.string s)
 |_=>none
def jO (kd:LK) (k:Value):List (List (SV τ dn))->Option (Option (SV τ dn))
 |[]=>some none
 |[kv,x]::r=>match kv.key with
  |some k'=>match keyEq kd k k' with
   |some true=>some (some x)
   |some false=>jO kd k r
   |none=>none
  |none=>none
 |_=>none
def jP:List (List (SV τ dn))->Option (List (Int×Int))
 |[]=>some []
 |[.vn k,x]::r=>match x.int,jP r with
  |some (v,_),some l=>some ((k,v)::l)
  |_,_=>none
 |_=>none
def qN (z x:Int):List (Int×Int)->Int
 |[]=>z
 |(k,v)::r=>if x=k then v else qN z x r
def qO (st:SS τ dn) (kd:LK) (x k y:SV τ dn):Option (SR τ dn):=
 match x,k.key with
 | .mp nm,some key=>match st.gm nm with
  |some (.mc els)=>bif st.rw nm&&plainV key then (match jO kd key els with
   |some none=>some (.put [] (.vo undef) nm (.mc (els++[[k,y]])))
   |_=>none) else none
  |_=>none
 |_,_=>none
def qP (st:SS τ dn) (kd:LK) (z:AV) (x k:SV τ dn):Option (SR τ dn):=
 match x,iw z with
 | .mp nm,some zs=>match st.gm nm with
  |some (.mc els)=>match k with
   | .vi n=>match kd,jP els,zs.int with
    | .int,some l,some (zi,_)=>some (.val [] (.vi (qN zi n l)))
    |_,_,_=>none
   |k=>match k.key with
    |some key=>(jO kd key els).map fun r=> .val [] (r.getD zs)
    |none=>none
  |_=>none
 |_,_=>none
def sx (st:SS τ dn):AO->Option (SR τ dn)
 | .mov x=>(st.ev x).map (.val [])
 | .new zs=>(ix zs).map fun cs=> .new [] (.ref st.nx zs.length 0 0) (.bc zs.length [cs])
 | .box n x=>match st.ev x with
  |some v=>if v.cells.length=n/\v.fP=true/\v.cells.all SV.one=true then some (.new [] (.ref st.nx n 0 0) (.bc n [v.cells])) else none
  |none=>none
 | .agg zs parts=>match ix zs with
  |some cs=>(oJ st cs parts).map fun cs=> .val [] (.agg cs)
  |none=>none
 | .bsl sz ln zs parts=>match ix zs with
  |some cs=>(kM st sz (List.replicate ln cs) parts).map fun els=> .new [] (.own st.nx sz) (.bc sz els)
  |none=>none
 | .load m x=>(st.ev x).bind (lU D st m)
 | .store n x y=>match st.ev x,st.ev y with
  |some a,some b=>qK D st n a b
  |_,_=>none
 | .nilc x=>match st.ev x with
  |some (.ref nm sz i o)=>(st.gm nm).map fun _=> .val [] (.ref nm sz i o)
  |some (.pim cs o)=>some (.val [] (.pim cs o))
  |_=>none
 | .bin bt op x y=>match st.ev x,st.ev y with
  |some a,some b=>oG D.neg bt op a b
  |_,_=>none
 | .un op x=>(st.ev x).bind (oH op)
 | .conv k x=>(st.ev x).bind (oI k)
 | .fad off x=>match st.ev x with
  |some (.ref nm sz i o)=>(st.gm nm).map fun _=> .val [] (.ref nm sz i (o+off))
  |some (.pim cs o)=>some (.val [] (.pim cs (o+off)))
  |_=>none
 | .fld off m x=>match st.ev x with
  |some (.agg cs)=>(jL cs off m).map (.val [])
  |_=>none
 | .iad sz x i=>match st.ev x,st.ev i with
  |some a,some b=>match b.int with
   |some (k,lit)=>oL D st sz a k lit
   |none=>none
  |_,_=>none
 | .iap sz ln x i=>match st.ev x,st.ev i with
  |some (.ref nm s e o),some (.vn k)=>if 0<=k/\k<ln/\(st.gm nm).isSome=true then some (.val [] (.ref nm s e (o+k.toNat*sz))) else none
  |some (.pim cs o),some (.vn k)=>if 0<=k/\k<ln then some (.val [] (.pim cs (o+k.toNat*sz))) else none
  |_,_=>none
 | .ixa sz ln m x i=>match st.ev x,st.ev i with
  |some (.agg cs),some (.vn k)=>if 0<=k/\k<ln then (jL cs (k.toNat*sz) m).map (.val []) else none
  |_,_=>none
 | .mkm=>some (.new [] (.mp st.nx) (.mc []))
 | .mup kd x k y=>match st.ev x,st.ev k,st.ev y with
  |some a,some b,some c=>qO st kd a b c
  |_,_,_=>none
 | .mlk kd z x k=>match st.ev x,st.ev k with
  |some a,some b=>qP st kd z a b
  |_,_=>none
 | .ext i x=>match st.ev x with
  |some (.aJ vs)=>(vs[i]?).map (.val [])
  |_=>none
 | .len s x=>(st.ev x).bind (oM st s)
 | .isn kd neg x=>(st.ev x).bind (oN st kd neg)
 | .mnx mx x y=>match st.ev x,st.ev y with
  |some a,some b=>match a.int,b.int with
   |some (x,_),some (y,_)=>some (.val [] (.vi (if mx then max x y else min x y)))
   |_,_=>none
  |_,_=>none
 | .eqs neg n L x y=>match st.ev x,st.ev y with
  |some (.agg cs),some (.agg ds)=>if cs.length=n/\ds.length=n then (match oK cs ds L with
   |some v=>(if neg then oC v else some v).map (.val [])
   |none=>none) else none
  |_,_=>none
 | .msl sz bytes zs l c=>match st.ev l,st.ev c with
  |some a,some b=>match a.int,b.int with
   |some (x,_),some (y,_)=>oS D st sz bytes zs x y
   |_,_=>none
  |_,_=>none
 | .slc sz x lo hi none=>match st.ev x,jM st lo,jM st hi with
  |some a,some l,some h=>oO D st sz a l h
  |_,_,_=>none
 | .sls x lo hi=>match st.ev x,jM st lo,jM st hi with
  |some (.vz s),some l,some h=>some (.val (jN s.size l h) (.vz (s.extract (l.getD 0).toNat (h.getD s.size).toNat)))
  |_,_,_=>none
 | .six x i=>match st.ev x,st.ev i with
  |some (.vz s),some b=>match b.int with
   |some (k,_)=>some (.val [0<=k/\k<s.size] (.vy (gb s k.toNat)))
   |none=>match b with
    | .vw _ k=>some (.val [0<=k/\k<s.size] (.vy (gb s k.toNat)))
    | .vy y=>some (.val [y.toNat<s.size] (.vy (gb s y.toNat)))
    |_=>none
  |_,_=>none
 | .b2s x=>match st.ev x with
  |some v=>oQ D st v
  |none=>none
 | .s2b x=>match st.ev x with
  |some (.vz s)=>oR D st s
  |_=>none
 | .app sz bytes s x=>match st.ev s,st.ev x with
  |some a,some b=>qL D st sz bytes a b
  |_,_=>none
 | .cpy sz x y=>match st.ev x,st.ev y with
  |some a,some b=>qM D st sz a b
  |_,_=>none
 | .mkf f caps=>(caps.mapM st.ev).map fun cs=> .val [] (.fn f cs)
 | .mkb f caps=>(caps.mapM st.ev).map fun cs=> .val [] (.bf f cs)
 |_=>none
end
open Go.RowKit
section
variable {τ:Type} {dn:τ->Type} (E:TE τ dn) (N:aw)
theorem qQ {x:Value} {v:SV τ dn} (h:mS x=some v):v.av E N= .v x:=by
 unfold mS at h
 split at h<;>first
  |(simp only [KZ] at h;subst h;rfl)
  |skip
 ·split at h
  ·rename_i k hk
   simp only [KZ] at h;subst h
   have e:(UInt8.ofNat k.toNat).toNat=k.toNat%256:=UInt8.toNat_ofNat ..
   simp only [SV.av,e]
   congr 2;omega
  ·simp at h
 ·split at h
  ·rename_i k hk
   simp only [KZ] at h;subst h
   have e:(uN k.toNat).n=k.toNat:=ug (by omega)
   simp only [SV.av,e]
   congr 2;omega
  ·simp at h
 ·split at h
  ·rename_i vs hk
   simp only [KZ] at h;subst h
   simp only [SV.av,undef]
   congr 2
   simpa using hk.symm
  ·simp at h
 ·simp at h
mutual
theorem uu:∀{a:AV} {v:SV τ dn},iw a=some v->v.av E N=a
 | .v x,v,h=>by simp only [iw] at h;exact qQ E N h
 | .agg cs,v,h=>by
  simp only [iw,K7] at h
  obtain ⟨l,hl,rfl⟩:=h
  simp only [SV.av,kO hl]
 | .emp,v,h=>by simp only [iw,KZ] at h;subst h;rfl
 | .fn f cs,v,h=>by
  simp only [iw,K7] at h
  obtain ⟨l,hl,rfl⟩:=h
  simp only [SV.av,kO hl]
 | .pim cs o,v,h=>by
  simp only [iw,K7] at h
  obtain ⟨l,hl,rfl⟩:=h
  simp only [SV.av,kO hl]
 | .dead,v,h=>by simp only [iw,KZ] at h;subst h;rfl
 | .aJ _,v,h| .aP _ _,v,h| .cA _ _,v,h| .ref _ _ _ _,v,h| .own _ _ _ _,v,h| .bf _ _,v,h| .ee _ _,v,h| .mp _,v,h| .dt,v,h=>by simp [iw] at h
theorem kO:∀{as_:List AV} {l:List (SV τ dn)},ix as_=some l->SV.ck E N l=as_
 |[],l,h=>by simp only [ix,KZ] at h;subst h;rfl
 |a::r,l,h=>by
  simp only [ix] at h
  split at h
  ·rename_i v l' h1 h2
   simp only [KZ] at h;subst h
   simp only [SV.ck,uu h1,kO h2]
  ·simp at h
end
end
section
variable {τ:Type} {dn:τ->Type} {D:TD τ dn} {N:aw} {st:SS τ dn} {σ:Nat->AV} {g:Nat->Option Bk}
def SS.bm (st:SS τ dn) (nm:Nat) (B:SB τ dn):Prop:=getS st.m nm=some (some B)\/getS st.rm nm=some (some B)
theorem fI {st:SS τ dn} {B:SB τ dn} (h:st.gm nm=some B):st.bm nm B:=by
 unfold SS.gm at h
 split at h
 ·rename_i b hb;subst h;exact .inl hb
 ·rw [Option.join_eq_some_iff] at h;exact .inr h
structure aW (D:TD τ dn) (N:aw) (st:SS τ dn) (σ:Nat->AV) (g:Nat->Option Bk):Prop where
 sl:∀i v,getS st.t i=some v->σ i=v.av D.toTE N
 rs:∀i v,getS st.rt i=some v->σ i=v.av D.toTE N
 bl:∀nm B,getS st.m nm=some (some B)->g (N.ι nm)=some (B.av D.toTE N)/\N.ln nm=B.len
 rb:∀nm B,getS st.rm nm=some (some B)->g (N.ι nm)=some (B.av D.toTE N)/\N.ln nm=B.len
 ar:∀t A,st.bm 0 (.ar t A)->∀id,dp A id->g id=some ⟨D.sz t,(eU A id).map (D.ea N.ρ t)⟩
theorem aW.gt (R:aW D N st σ g) {i:Nat} {v:SV τ dn} (h:st.gt i=some v):σ i=v.av D.toTE N:=by
 unfold SS.gt at h
 split at h
 ·rename_i w hw;simp only [KZ] at h;subst h;exact R.sl i _ hw
 ·exact R.rs i v h
theorem aW.gm (R:aW D N st σ g) {nm:Nat} {B:SB τ dn} (h:st.gm nm=some B):g (N.ι nm)=some (B.av D.toTE N)/\N.ln nm=B.len:=by
 unfold SS.gm at h
 split at h
 ·rename_i b hb;subst h;exact R.bl nm B hb
 ·rw [Option.join_eq_some_iff] at h;exact R.rb nm B h
theorem aW.ev (R:aW D N st σ g) {a:Arg} {v:SV τ dn} (h:st.ev a=some v):aE σ a=v.av D.toTE N:=by
 cases a with
 |s i=>exact R.gt h
 |c a=>exact (uu _ _ h).symm
def SR.O:SR τ dn->List Prop
 | .val O _| .new O _ _| .put O _ _ _| .mov O _ _ _| .ff O _ _| .dZ O _ _ _ _ _=>O
def SR.v:SR τ dn->SV τ dn
 | .val _ v| .new _ v _| .put _ v _ _| .mov _ v _ _| .ff _ v _| .dZ _ v _ _ _ _=>v
def SR.ups (D:TD τ dn) (N:aw) (k:Nat):SR τ dn->List (Nat×Option Bk)
 | .val _ _=>[]
 | .new _ _ B=>[(k,some (B.av D.toTE N))]
 | .put _ _ nm B=>[(N.ι nm,some (B.av D.toTE N))]
 | .mov _ _ aL B=>[(N.ι aL,none),(k,some (B.av D.toTE N))]
 | .ff _ _ ns=>(ns.map N.ι).map fun i=>(i,none)
 | .dZ _ _ id t row _=>[(id,some ⟨D.sz t,row.map (D.ea N.ρ t)⟩)]
def SR.fresh (N:aw) (nx k:Nat):SR τ dn->Prop
 | .new _ _ B| .mov _ _ _ B=>N.ι nx=k/\N.ln nx=B.len
 |_=>True
def SR.Good (D:TD τ dn) (N:aw) (nx:Nat) (σ:Nat->AV) (g:Nat->Option Bk) (ao:AO) (r:SR τ dn):Prop:=
 ∀k,(∀p,p∈r.O->p)->r.fresh N nx k->(ao.ae k (aE σ)).run g=some (.done (r.v.av D.toTE N) (r.ups D N k))
theorem qR {a:SV τ dn} {x:Value} (h:a.lit=some x):a.av D.toTE N= .v x:=by
 cases a<;>simp [SV.lit] at h<;>subst h<;>rfl
theorem ec {a:SV τ dn} {x:Int} (h:a.int=some (x,l)):a.av D.toTE N= .v (.int .i64 x):=by
 cases a<;>simp [SV.int] at h<;>obtain ⟨rfl,_⟩:=h<;>rfl
theorem yL {bt:Bool} {a b v:SV τ dn} (h:oD bt op a b=some v):∃x y w,a.av D.toTE N= .v x/\b.av D.toTE N= .v y/\binA bt op x y=some w/\v.av D.toTE N= .v w:=by
 unfold oD at h
 split at h
 ·rename_i x y h1 h2
  split at h
  ·rename_i w h3
   exact ⟨x,y,w,qR h1,qR h2,h3,qQ _ _ h⟩
  ·simp at h
 ·simp at h
def oT (D:TD τ dn) (N:aw) (bt:Bool) (op:BinOp) (a b:SV τ dn) (r:SR τ dn):Prop:=
 (∀p,p∈r.O->p)->∃O v x y w,r= .val O v/\a.av D.toTE N= .v x/\b.av D.toTE N= .v y/\binA bt op x y=some w/\v.av D.toTE N= .v w
theorem Gv {bt:Bool} {a b:SV τ dn} {x y:Int} {l':Bool} (ha:a.int=some (x,l)) (hb:b.int=some (y,l')) {r:SR τ dn} (h:oE neg op x y=some r):oT D N bt op a b r:=by
 have h1:=ec (D:=D) (N:=N) ha
 have h2:=ec (D:=D) (N:=N) hb
 intro hO
 have key:∀O v,r= .val O v->(∃w,binA bt op (.int .i64 x) (.int .i64 y)=some w/\v.av D.toTE N= .v w)->∃O v x y w,r= .val O v/\a.av D.toTE N= .v x/\b.av D.toTE N= .v y/\binA bt op x y=some w/\v.av D.toTE N= .v w:=
  fun O v hr ⟨w,fX,hw2⟩=>⟨O,v,_,_,w,hr,h1,h2,fX,hw2⟩
 cases op<;>simp only [oE,KZ,reduceCtorEq] at h
 case add=>subst h;exact key _ _ rfl ⟨_,rfl,by simp only [SR.O,K9,Ll] at hO;rw [hO.wr];rfl⟩
 case sub=>subst h;exact key _ _ rfl ⟨_,rfl,by simp only [SR.O,K9,Ll] at hO;rw [hO.wr];rfl⟩
 case mul=>subst h;exact key _ _ rfl ⟨_,rfl,by simp only [SR.O,K9,Ll] at hO;rw [hO.wr];rfl⟩
 case quo=>
  cases neg with
  |true=>
   simp only [K5,KZ] at h;subst h
   simp only [SR.O,Lc,Ma,or_false,Mx,Ll] at hO
   exact key _ _ rfl ⟨_,by simp only [binA,K3];rw [K0 hO.1],by rw [hO.2.wr];rfl⟩
  |false=>
   simp only [Ln,KZ] at h;subst h
   simp only [SR.O,K9,Ll] at hO
   exact key _ _ rfl ⟨_,by simp only [binA,K3];rw [K0 (by omega)],by rw [Gs hO];rfl⟩
 case rem=>
  cases neg with
  |true=>
   simp only [K5,KZ] at h;subst h
   simp only [SR.O,K9,Ll] at hO
   exact key _ _ rfl ⟨_,by simp only [binA,K3];rw [K0 hO],rfl⟩
  |false=>
   simp only [Ln,KZ] at h;subst h
   simp only [SR.O,K9,Ll] at hO
   exact key _ _ rfl ⟨_,by simp only [binA,K3];rw [K0 hO.2],by rw [Gt hO.1];rfl⟩
 case and=>subst h;simp only [SR.O,K9,Ll] at hO;exact key _ _ rfl ⟨_,rfl,by rw [ui _ _ _ hO.1 hO.2.1 hO.2.2.1 hO.2.2.2];rfl⟩
 case or=>subst h;simp only [SR.O,K9,Ll] at hO;exact key _ _ rfl ⟨_,rfl,by rw [ui _ _ _ hO.1 hO.2.1 hO.2.2.1 hO.2.2.2];rfl⟩
 case xor=>subst h;simp only [SR.O,K9,Ll] at hO;exact key _ _ rfl ⟨_,rfl,by rw [ui _ _ _ hO.1 hO.2.1 hO.2.2.1 hO.2.2.2];rfl⟩
 case shl=>subst h;simp only [SR.O,K9,Ll] at hO;exact key _ _ rfl ⟨_,by simp only [binA];rw [K0 (by omega)],by rw [Gq _ _ hO.2];rfl⟩
 case shr=>subst h;simp only [SR.O,K9,Ll] at hO;exact key _ _ rfl ⟨_,by simp only [binA];rw [K0 (by omega)],by rw [Gr _ _ (by omega)];rfl⟩
 case eql=>subst h;exact key _ _ rfl ⟨_,rfl,rfl⟩
 case neq=>subst h;exact key _ _ rfl ⟨_,rfl,rfl⟩
 case lss=>subst h;exact key _ _ rfl ⟨_,rfl,rfl⟩
 case leq=>subst h;exact key _ _ rfl ⟨_,rfl,rfl⟩
 case gtr=>subst h;exact key _ _ rfl ⟨_,rfl,rfl⟩
 case geq=>subst h;exact key _ _ rfl ⟨_,rfl,rfl⟩
theorem Gw {bt:Bool} {x y:UInt8} {v:SV τ dn} (h:oY op x y=some v):oT D N bt op (.vy x) (.vy y) (.val [] v):=by
 intro _
 have key:(∃w,binA bt op (.int .u8 (x.toNat:Int)) (.int .u8 (y.toNat:Int))=some w/\v.av D.toTE N= .v w)->∃O v' x' y' w,(SR.val [] v:SR τ dn)= .val O v'/\(SV.vy x:SV τ dn).av D.toTE N= .v x'/\(SV.vy y:SV τ dn).av D.toTE N= .v y'/\binA bt op x' y'=some w/\v'.av D.toTE N= .v w:=
  fun ⟨w,h1,h2⟩=>⟨_,_,_,_,w,rfl,rfl,rfl,h1,h2⟩
 refine key ?_
 cases op<;>simp only [oY,KZ,reduceCtorEq] at h<;>subst h
 case add=>exact ⟨_,rfl,by rw [Gj];rfl⟩
 case sub=>exact ⟨_,rfl,by rw [Gk];rfl⟩
 case mul=>exact ⟨_,rfl,by rw [Gl];rfl⟩
 case and=>exact ⟨_,rfl,by rw [uk];rfl⟩
 case or=>exact ⟨_,rfl,by rw [uk];rfl⟩
 case xor=>exact ⟨_,rfl,by rw [uk];rfl⟩
 case eql=>exact ⟨_,rfl,by simp only [SV.av,Cn.den];congr 2;rw [MR];simp [<-UInt8.toNat_inj];omega⟩
 case neq=>exact ⟨_,rfl,by simp only [SV.av,Cn.den];congr 2;rw [MR];simp [<-UInt8.toNat_inj];omega⟩
 case lss=>exact ⟨_,rfl,by simp only [SV.av,Cn.den];congr 2;rw [MR];simp [UInt8.lt_iff_toNat_lt]⟩
 case leq=>exact ⟨_,rfl,by simp only [SV.av,Cn.den];congr 2;rw [MR];simp [UInt8.le_iff_toNat_le]⟩
 case gtr=>exact ⟨_,rfl,by simp only [SV.av,Cn.den];congr 2;rw [MR];simp [UInt8.lt_iff_toNat_lt]⟩
 case geq=>exact ⟨_,rfl,by simp only [SV.av,Cn.den];congr 2;rw [MR];simp [UInt8.le_iff_toNat_le]⟩
theorem Gx {bt:Bool} {x y:dP} {v:SV τ dn} (h:oU op x y=some v):oT D N bt op (.vu x) (.vu y) (.val [] v):=by
 intro _
 have key:(∃w,binA bt op (.int .u64 (x.n:Int)) (.int .u64 (y.n:Int))=some w/\v.av D.toTE N= .v w)->∃O v' x' y' w,(SR.val [] v:SR τ dn)= .val O v'/\(SV.vu x:SV τ dn).av D.toTE N= .v x'/\(SV.vu y:SV τ dn).av D.toTE N= .v y'/\binA bt op x' y'=some w/\v'.av D.toTE N= .v w:=
  fun ⟨w,h1,h2⟩=>⟨_,_,_,_,w,rfl,rfl,rfl,h1,h2⟩
 refine key ?_
 cases op<;>simp only [oU,KZ,reduceCtorEq] at h<;>subst h
 case add=>exact ⟨_,rfl,by rw [Gm];rfl⟩
 case sub=>exact ⟨_,rfl,by rw [Gn];rfl⟩
 case mul=>exact ⟨_,rfl,by rw [Gp];rfl⟩
 case and=>exact ⟨_,rfl,by rw [oy];rfl⟩
 case or=>exact ⟨_,rfl,by rw [oy];rfl⟩
 case xor=>exact ⟨_,rfl,by rw [oy];rfl⟩
 case andNot=>exact ⟨_,rfl,by rw [oy];rfl⟩
 all_goals exact ⟨_,rfl,rfl⟩
theorem Gy {bt:Bool} {x y:ByteArray} {r:SR τ dn} (h:oZ op x y=some r):oT D N bt op (.vz x) (.vz y) r:=by
 intro hO
 cases op<;>simp only [oZ,KZ,reduceCtorEq] at h<;>subst h
 case add=>
  simp only [SR.O,K9,Ll] at hO
  exact ⟨_,_,_,_,_,rfl,rfl,rfl,by simp only [binA];rw [K0 (by rw [show IntKind.i64.max=9223372036854775807 from rfl];omega)],rfl⟩
 all_goals exact ⟨_,_,_,_,_,rfl,rfl,rfl,rfl,rfl⟩
theorem uv {a b v:SV τ dn} (h:oF a b=some v):∃x y,a.av D.toTE N= .v (.bool x)/\b.av D.toTE N= .v (.bool y)/\v.av D.toTE N= .v (.bool (x==y)):=by
 unfold oF at h
 split at h<;>simp only [KZ,reduceCtorEq] at h<;>subst h
 ·rename_i c b;exact ⟨_,_,rfl,rfl,by cases b<;>simp [SV.av,Cn.den]⟩
 ·rename_i b c;exact ⟨_,_,rfl,rfl,by cases b<;>simp [SV.av,Cn.den]<;>cases c.den<;>rfl⟩
 ·exact ⟨_,_,rfl,rfl,rfl⟩
theorem uw {a v:SV τ dn} (h:oC a=some v):∃x,a.av D.toTE N= .v (.bool x)/\v.av D.toTE N= .v (.bool !x):=by
 unfold oC at h
 split at h<;>simp only [KZ,reduceCtorEq] at h<;>subst h
 ·exact ⟨_,rfl,rfl⟩
 ·exact ⟨_,rfl,rfl⟩
theorem Gz {bt:Bool} {a b:SV τ dn} {r:SR τ dn} (h:oG neg bt op a b=some r):oT D N bt op a b r:=by
 unfold oG at h
 split at h
 ·rename_i v hv
  simp only [KZ] at h;subst h
  intro _
  obtain ⟨x,y,w,h1,h2,h3,h4⟩:=yL (D:=D) (N:=N) hv
  exact ⟨_,_,_,_,_,rfl,h1,h2,h3,h4⟩
 ·split at h
  ·rename_i ha hb;exact Gv ha hb h
  ·split at h
   ·simp only [K7] at h;obtain ⟨v,hv,rfl⟩:=h;exact Gw hv
   ·simp only [K7] at h;obtain ⟨v,hv,rfl⟩:=h;exact Gx hv
   ·exact Gy h
   ·split at h<;>simp only [KZ,reduceCtorEq] at h<;>subst h<;>intro hO<;>simp only [SR.O,K9,Ll] at hO
    ·exact ⟨_,_,_,_,_,rfl,rfl,rfl,by simp only [binA];rw [K0 (by omega)],by rw [yF];rfl⟩
    ·exact ⟨_,_,_,_,_,rfl,rfl,rfl,by simp only [binA];rw [K0 (by omega)],by rw [yG];rfl⟩
   ·split at h<;>simp only [KZ,reduceCtorEq] at h<;>subst h<;>intro hO<;>simp only [SR.O,K9,Ll] at hO
    ·exact ⟨_,_,_,_,_,rfl,rfl,rfl,by simp only [binA];rw [K0 (by omega)],by rw [yF];rfl⟩
    ·exact ⟨_,_,_,_,_,rfl,rfl,rfl,by simp only [binA];rw [K0 (by omega)],by rw [yG];rfl⟩
   ·split at h<;>simp only [KZ,reduceCtorEq] at h<;>subst h<;>intro hO<;>simp only [SR.O,K9,Ll] at hO
    ·exact ⟨_,_,_,_,_,rfl,rfl,rfl,by simp only [binA];rw [K0 (by omega)],by rw [yH];rfl⟩
    ·exact ⟨_,_,_,_,_,rfl,rfl,rfl,by simp only [binA];rw [K0 (by omega)],by rw [yI];rfl⟩
   ·split at h<;>simp only [KZ,reduceCtorEq] at h<;>subst h<;>intro hO<;>simp only [SR.O,K9,Ll] at hO
    ·exact ⟨_,_,_,_,_,rfl,rfl,rfl,by simp only [binA];rw [K0 (by omega)],by rw [yH];rfl⟩
    ·exact ⟨_,_,_,_,_,rfl,rfl,rfl,by simp only [binA];rw [K0 (by omega)],by rw [yI];rfl⟩
   ·split at h
    ·rename_i hq
     subst hq
     split at h<;>simp only [KZ,reduceCtorEq] at h<;>subst h<;>intro _<;>exact ⟨_,_,_,_,_,rfl,rfl,rfl,by simp only [binA,K3]<;>rfl,rfl⟩
    ·simp at h
   ·split at h<;>simp only [KZ,reduceCtorEq] at h<;>subst h<;>intro hO<;>simp only [SR.O,K9,Ll] at hO
    ·exact ⟨_,_,_,_,_,rfl,rfl,rfl,by simp only [binA];rw [K0 (by omega)],rfl⟩
    ·exact ⟨_,_,_,_,_,rfl,rfl,rfl,by simp only [binA];rw [K0 (by omega)],rfl⟩
   ·split at h<;>simp only [KZ,reduceCtorEq] at h<;>subst h<;>intro hO<;>simp only [SR.O,K9,Ll] at hO
    ·exact ⟨_,_,_,_,_,rfl,rfl,rfl,by simp only [binA];rw [K0 (by omega)],rfl⟩
    ·exact ⟨_,_,_,_,_,rfl,rfl,rfl,by simp only [binA];rw [K0 (by omega)],rfl⟩
   ·split at h<;>simp only [KZ,reduceCtorEq] at h<;>subst h<;>intro _
    ·exact ⟨_,_,_,_,_,rfl,rfl,rfl,by simp only [binA];rw [K0 (by omega)],by rw [Mp];rfl⟩
    ·exact ⟨_,_,_,_,_,rfl,rfl,rfl,by simp only [binA];rw [K0 (by omega)],by rw [Mp];rfl⟩
   ·split at h
    ·rename_i GA
     subst GA
     split at h
     ·simp only [K7] at h;obtain ⟨v,hv,rfl⟩:=h
      obtain ⟨x,y,h1,h2,h3⟩:=uv (D:=D) (N:=N) hv
      intro _;exact ⟨_,_,_,_,_,rfl,h1,h2,rfl,h3⟩
     ·simp only [K7,My] at h;obtain ⟨v,⟨w,hw,hv⟩,rfl⟩:=h
      obtain ⟨x,y,h1,h2,h3⟩:=uv (D:=D) (N:=N) hw
      obtain ⟨z,h4,h5⟩:=uw (D:=D) (N:=N) hv
      rw [h3] at h4;simp only [AV.v.injEq,Value.bool.injEq] at h4;subst h4
      intro _;exact ⟨_,_,_,_,_,rfl,h1,h2,rfl,h5⟩
     ·simp at h
    ·simp at h
theorem GB {op:UnOp} {a:SV τ dn} {r:SR τ dn} (h:oH op a=some r):(∀p,p∈r.O->p)->∃O v x w,r= .val O v/\a.av D.toTE N= .v x/\unA op x=some w/\v.av D.toTE N= .v w:=by
 intro hO
 unfold oH at h
 split at h
 ·simp only [K7] at h;obtain ⟨v,hv,rfl⟩:=h
  exact ⟨_,_,_,_,rfl,rfl,rfl,qQ _ _ hv⟩
 ·simp only [KZ] at h;subst h
  simp only [SR.O,K9,Ll] at hO
  exact ⟨_,_,_,_,rfl,rfl,rfl,by rw [hO.wr];rfl⟩
 ·simp only [KZ] at h;subst h
  rename_i x
  refine ⟨_,_,_,_,rfl,rfl,rfl, ?_⟩
  have e:(if IntKind.u64.signed=true then (-1:Int) else IntKind.u64.max)=((uN 18446744073709551615).n:Int):=rfl
  rw [e,oy];rfl
 ·simp only [K7] at h;obtain ⟨v,hv,rfl⟩:=h
  obtain ⟨x,h1,h2⟩:=uw (D:=D) (N:=N) hv
  exact ⟨_,_,_,_,rfl,h1,rfl,h2⟩
 ·simp at h
theorem GC {a:SV τ dn} {r:SR τ dn} (h:oI k a=some r):(∀p,p∈r.O->p)->∃O v q x,r= .val O v/\a.av D.toTE N= .v (.int q x)/\v.av D.toTE N= .v (.int k (k.wrap x)):=by
 intro hO
 unfold oI at h
 split at h<;>simp only [K7,KZ,reduceCtorEq] at h
 ·obtain ⟨v,hv,rfl⟩:=h
  exact ⟨_,_,_,_,rfl,rfl,qQ _ _ hv⟩
 all_goals subst h;try simp only [SR.O,K9,Ll] at hO
 ·exact ⟨_,_,_,_,rfl,rfl,by rw [hO.wr];rfl⟩
 ·rename_i x;exact ⟨_,_,_,_,rfl,rfl,by rw [bT.wr (x:=(x.toNat:Int)) (by have:=x.toNat_lt;exact ⟨by omega,by omega⟩)];rfl⟩
 ·exact ⟨_,_,_,_,rfl,rfl,by rw [hO.wr];rfl⟩
 ·exact ⟨_,_,_,_,rfl,rfl,by rw [hO.wr];rfl⟩
 ·exact ⟨_,_,_,_,rfl,rfl,by rw [um hO];rfl⟩
 ·rename_i x;exact ⟨_,_,_,_,rfl,rfl,by rw [um (Int.natCast_nonneg _)];rfl⟩
 ·exact ⟨_,_,_,_,rfl,rfl,by rw [um hO];rfl⟩
 ·exact ⟨_,_,_,_,rfl,rfl,by rw [yJ hO];rfl⟩
 ·rename_i x;exact ⟨_,_,_,_,rfl,rfl,by rw [yJ (Int.natCast_nonneg _)];rfl⟩
 all_goals exact ⟨_,_,_,_,rfl,rfl,rfl⟩
theorem mT {cs:List (SV τ dn)} {v:SV τ dn} (h:jL cs o m=some v):getCells (cs.map (SV.av D.toTE N)) o m=some (v.av D.toTE N):=by
 cases m with
 |none=>simp only [jL] at h;simp only [getCells,Lu,h];rfl
 |some n=>
  simp only [jL] at h
  split at h
  ·rename_i hl
   simp only [KZ] at h;subst h
   simp only [getCells,Lq,K1 hl,SV.av,SV.bk,List.map_take,List.map_drop]
  ·simp at h
theorem qS {cs:List (SV τ dn)} {ys:List (SV τ dn)}:(kL cs o ys).map (SV.av D.toTE N)=putCells (cs.map (SV.av D.toTE N)) o (ys.map (SV.av D.toTE N)):=by
 simp only [kL,putCells,LX,List.map_take,List.map_drop,Lq]
theorem qT {cs:List (SV τ dn)} (h:cs.all SV.one=true):(cs.map (SV.av D.toTE N)).all AV.one=true:=by
 simp only [K6,Lz] at h ⊢
 rintro _ ⟨v,hv,rfl⟩
 exact SV.Gb (h v hv)
theorem yM (R:aW D N st σ g):∀{parts:List (Nat×Nat×Arg)} {cells l:List (SV τ dn)},oJ st cells parts=some l->fillA (aE σ) (cells.map (SV.av D.toTE N)) parts=some (l.map (SV.av D.toTE N))
 |[],cells,l,h=>by simp only [oJ,KZ] at h;subst h;rfl
 |(off,n,x)::r,cells,l,h=>by
  simp only [oJ] at h
  split at h
  ·rename_i v hv
   split at h
   ·rename_i hc
    have hs:=SV.ov (E:=D.toTE) (N:=N) hc.2.2
    simp only [fillA,R.ev hv,hs,Lq,hc.1,hc.2.1,SV.Gc hc.2.2,Lp,K3]
    rw [<-qS];exact yM R h
   ·simp at h
  ·simp at h
theorem yN (R:aW D N st σ g) {sz:Nat}:∀{parts:List (Nat×Arg)} {els l:List (List (SV τ dn))},kM st sz els parts=some l->fillE (aE σ) sz (els.map fun cs=>cs.map (SV.av D.toTE N)) parts=some (l.map fun cs=>cs.map (SV.av D.toTE N))
 |[],els,l,h=>by simp only [kM,KZ] at h;subst h;rfl
 |(i,x)::r,els,l,h=>by
  simp only [kM] at h
  split at h
  ·rename_i v hv
   split at h
   ·rename_i hc
    have hs:=SV.ov (E:=D.toTE) (N:=N) hc.2.2.1
    simp only [fillE,R.ev hv,hs,Lq,hc.1,hc.2.1,qT hc.2.2.2,Lp,K3]
    have:=yN R h
    rw [Mt] at this;exact this
   ·simp at h
  ·simp at h
theorem GD {k:LK} {a b v:SV τ dn} (h:uq k a b=some v):∃x,v.av D.toTE N= .v (.bool x)/\iL k (a.av D.toTE N) (b.av D.toTE N)=some x:=by
 unfold uq at h
 split at h
 ·split at h
  ·rename_i v hv
   simp only [KZ] at h;subst h
   obtain ⟨x,y,w,h1,h2,h3,h4⟩:=yL (D:=D) (N:=N) hv
   rw [h1,h2]
   unfold oD at hv
   split at hv
   ·rename_i x' y' g1 g2
    rw [qR (D:=D) (N:=N) g1] at h1;rw [qR (D:=D) (N:=N) g2] at h2
    simp only [AV.v.injEq] at h1 h2;subst h1;subst h2
    clear hv
    cases a<;>simp only [SV.lit,KZ,reduceCtorEq] at g1<;>subst g1<;>cases b<;>simp only [SV.lit,KZ,reduceCtorEq] at g2<;>subst g2
    ·simp only [binA,K3,KZ] at h3;subst h3
     exact ⟨_,h4,by simp [iL]⟩
    all_goals simp [binA] at h3
   ·simp at hv
  ·split at h
   ·rename_i ha hb
    simp only [KZ] at h;subst h
    rw [ec ha,ec hb]
    exact ⟨_,rfl,by simp [iL,Cn.den]⟩
   ·split at h<;>simp only [KZ,reduceCtorEq] at h<;>subst h
    ·exact ⟨_,rfl,by simp [iL,SV.av,Cn.den]⟩
    ·refine ⟨_,rfl, ?_⟩
     simp only [iL,SV.av,Cn.den,K3,KZ]
     rw [MR];simp [<-UInt8.toNat_inj];omega
 ·simp only [KZ] at h;subst h;exact ⟨_,rfl,rfl⟩
 ·simp only [KZ] at h;subst h;exact ⟨_,rfl,rfl⟩
 ·obtain ⟨x,y,h1,h2,h3⟩:=uv (D:=D) (N:=N) h
  exact ⟨_,h3,by rw [h1,h2];rfl⟩
 ·simp at h
theorem GF {a b v:SV τ dn} (h:uo a b=some v) {x y:Bool} (hx:a.av D.toTE N= .v (.bool x)) (hy:b.av D.toTE N= .v (.bool y)):v.av D.toTE N= .v (.bool (x&&y)):=by
 unfold uo at h
 split at h<;>simp only [KZ,reduceCtorEq] at h<;>subst h<;>simp only [SV.av,AV.v.injEq,Value.bool.injEq,Cn.den] at hx hy ⊢
 ·subst hx;rw [hy];simp
 ·subst hx;simp
 ·subst hx;simp
 ·subst hx;subst hy;simp
 ·subst hx;subst hy;simp
 ·subst hx;subst hy;rfl
theorem yO:∀{L:List (Nat×LK)} {cs ds:List (SV τ dn)} {v:SV τ dn},oK cs ds L=some v->∃x,v.av D.toTE N= .v (.bool x)/\eqA (cs.map (SV.av D.toTE N)) (ds.map (SV.av D.toTE N)) L=some x
 |[],cs,ds,v,h=>by simp only [oK,KZ] at h;subst h;exact ⟨_,rfl,rfl⟩
 |(o,k)::r,cs,ds,v,h=>by
  simp only [oK] at h
  split at h
  ·rename_i a b ha hb
   split at h
   ·rename_i x y hx hy
    obtain ⟨p,h1,h2⟩:=GD (D:=D) (N:=N) hx
    obtain ⟨q,h3,h4⟩:=yO hy
    refine ⟨_,GF h h1 h3, ?_⟩
    simp only [eqA,Lu,ha,hb,Ld,h2,h4]
   ·simp at h
  ·simp at h
end
open Go.RowKit
section
variable {τ:Type} {dn:τ->Type} {D:TD τ dn} {N:aw} {st:SS τ dn} {σ:Nat->AV} {g:Nat->Option Bk}
theorem jb (R:aW D N st σ g) {x:Option Arg} {r:Option Int} (h:jM st x=some r) (h0:∀l,r=some l->0<=l):cH (aE σ) x=some (r.map Int.toNat):=by
 cases x with
 |none=>simp only [jM,KZ] at h;subst h;rfl
 |some x=>
  simp only [jM] at h
  split at h
  ·rename_i v hv
   split at h
   ·rename_i k l hk
    simp only [KZ] at h;subst h
    have:=h0 k rfl
    simp only [cH,R.ev hv,ec hk,natOf,this,K3,Ld]
   ·simp at h
  ·simp at h
theorem yP (ok:aU D) (R:aW D N st σ g) {v:SV τ dn} (hx:st.ev x=some v) {r:SR τ dn} (h:lU D st m v=some r):r.Good D N st.nx σ g (.load m x):=by
 intro k hO hf
 unfold lU at h
 split at h
 ·rename_i cs o
  simp only [K7] at h;obtain ⟨w,hw,rfl⟩:=h
  have:=mT (D:=D) (N:=N) hw
  simp only [AO.ae,R.ev hx,SV.av,SV.bk,this,Ld,RM.opt,RM.run,SR.v,SR.ups]
 ·rename_i nm sz i o
  split at h
  ·rename_i ty xs hB
   split at h
   ·rename_i hs
    simp only [K7] at h;obtain ⟨w,hw,rfl⟩:=h
    simp only [SR.O,K9,Ll] at hO
    have hg:=(R.gm hB).1
    have hq:=mT (D:=D) (N:=N) hw
    rw [ok.cO] at hq
    simp only [AO.ae,R.ev hx,SV.av,RM.run,hg,SB.av,hs,K3,Lu,jK (d:=D.df ty) hO,Ld,Mq,hq,RM.opt,SR.v,SR.ups]
   ·simp at h
  ·rename_i q els hB
   split at h
   ·rename_i hs
    split at h
    ·rename_i cs hcs
     simp only [K7] at h;obtain ⟨w,hw,rfl⟩:=h
     have hg:=(R.gm hB).1
     have hq:=mT (D:=D) (N:=N) hw
     simp only [AO.ae,R.ev hx,SV.av,RM.run,hg,SB.av,hs,K3,SV.gB,Lu,hcs,Ld,Mq,hq,RM.opt,SR.v,SR.ups]
    ·simp at h
   ·simp at h
  ·simp at h
 ·simp at h
theorem GG (ok:aU D) (R:aW D N st σ g) {a b:SV τ dn} (hx:st.ev x=some a) (hy:st.ev y=some b) {r:SR τ dn} (h:qK D st n a b=some r):r.Good D N st.nx σ g (.store n x y):=by
 intro k hO hf
 unfold qK at h
 split at h
 case isFalse=>simp at h
 rename_i hc
 have bS:=SV.ov (E:=D.toTE) (N:=N) hc.2.1
 have dD:=qT (D:=D) (N:=N) hc.2.2
 split at h
 ·rename_i nm sz i o
  split at h
  case isFalse=>simp at h
  rename_i hn
  have hle:=hn.1
  split at h
  ·rename_i ty xs hB
   split at h
   ·rename_i hs
    split at h
    ·rename_i z hz
     simp only [KZ] at h;subst h
     simp only [SR.O,K9,Ll] at hO
     have hg:=(R.gm hB).1
     have he:=ok.dY N ty _ z hz hs.2
     rw [qS,ok.cO] at he
     simp only [AO.ae,R.ev hx,R.ev hy,SV.av,RM.run,hg,SB.av,hs.1,bS,Lq,hc.1,dD,hle,Lp,K3,Lu,jK (d:=D.df ty) hO,Ld,SR.v,SR.ups,he,Mt]
    ·simp at h
   ·simp at h
  ·rename_i q els hB
   split at h
   ·rename_i hs
    split at h
    ·rename_i cs hcs
     simp only [KZ] at h;subst h
     have hg:=(R.gm hB).1
     simp only [AO.ae,R.ev hx,R.ev hy,SV.av,RM.run,hg,SB.av,hs,bS,Lq,hc.1,dD,hle,Lp,K3,SV.gB,Lu,hcs,Ld,SR.v,SR.ups,Mt,qS]
    ·simp at h
   ·simp at h
  ·simp at h
 ·simp at h
theorem GH (ok:aU D) (R:aW D N st σ g) {sz:Nat} {a b:SV τ dn} {n:Int} (hx:st.ev x=some a) (hy:st.ev y=some b) (hb:b.int=some (n,l)) {r:SR τ dn} (h:oL D st sz a n l=some r):r.Good D N st.nx σ g (.iad sz x y):=by
 intro k hO hf
 unfold oL at h
 split at h
 ·rename_i ty xs
  split at h
  ·rename_i hs
   simp only [KZ] at h;subst h
   simp only [SR.O,K9,Ll] at hO
   have hl:n.toNat<xs.length:=by omega
   simp only [AO.ae,R.ev hx,R.ev hy,ec hb,SV.av,hs,hO.1,Lp,K3,Lu,jK (d:=D.df ty) hl,Ld,RM.opt,RM.run,SR.v,SR.ups,SV.bk,ok.cO]
  ·simp at h
 ·rename_i q els
  cases l with
  |false=>simp at h
  |true=>
   simp only [K5] at h
   split at h
   ·rename_i hs
    simp only [K7] at h;obtain ⟨cs,hcs,rfl⟩:=h
    simp only [AO.ae,R.ev hx,R.ev hy,ec hb,SV.av,hs.1,hs.2,Lp,K3,SV.gB,Lu,hcs,Ld,RM.opt,RM.run,SR.v,SR.ups,SV.bk]
   ·simp at h
 ·rename_i nm q
  split at h
  case isFalse=>simp at h
  rename_i hs
  have key:∀B,st.gm nm=some B->0<=n/\n<B.len->r= .val r.O (.ref nm sz n.toNat 0)->(AO.ae k (aE σ) (.iad sz x y)).run g=some (.done (r.v.av D.toTE N) (r.ups D N k)):=by
   intro B hB hr he
   obtain ⟨g1,g2⟩:=R.gm hB
   have:n<(N.ln nm:Int):=by rw [g2];exact hr.2
   rw [he]
   simp only [AO.ae,R.ev hx,R.ev hy,ec hb,SV.av,hs,hr.1,this,Lp,K3,RM.run,g1,SR.v,SR.ups,Lh]
  split at h
  ·rename_i ty xs hB
   simp only [KZ] at h;subst h
   simp only [SR.O,K9,Ll] at hO
   exact key _ hB hO rfl
  ·rename_i q' els hB
   cases l with
   |true=>
    simp only [K5] at h
    split at h
    ·rename_i hr
     simp only [KZ] at h;subst h
     exact key _ hB hr rfl
    ·simp at h
   |false=>
    simp only [Ln,KZ] at h;subst h
    simp only [SR.O,K9,Ll] at hO
    exact key _ hB hO rfl
  ·simp at h
 ·rename_i nm q off len
  split at h
  case isFalse=>simp at h
  rename_i hs
  simp only [K7] at h;obtain ⟨B,hB,rfl⟩:=h
  simp only [SR.O,K9,Ll] at hO
  obtain ⟨g1,g2⟩:=R.gm hB
  simp only [AO.ae,R.ev hx,R.ev hy,ec hb,SV.av,hs,hO.1,hO.2,Lp,K3,RM.run,g1,SR.v,SR.ups]
 ·simp at h
theorem GI (B:SB τ dn):B.yK.av D.toTE N= .v (goInt B.len):=by cases B<;>rfl
theorem GJ (R:aW D N st σ g) {s:Bool} {v:SV τ dn} (hx:st.ev x=some v) {r:SR τ dn} (h:oM st s v=some r):r.Good D N st.nx σ g (.len s x):=by
 intro k hO hf
 unfold oM at h
 split at h
 ·simp only [KZ] at h;subst h;simp only [AO.ae,R.ev hx,SV.av,RM.run,SR.v,SR.ups,goInt]
 ·simp only [KZ] at h;subst h;simp only [AO.ae,R.ev hx,SV.av,RM.run,SR.v,SR.ups,goInt,Lq]
 ·simp only [KZ] at h;subst h;simp only [AO.ae,R.ev hx,SV.av,RM.run,SR.v,SR.ups,goInt,SV.gB,Lq]
 ·simp only [KZ] at h;subst h;simp only [AO.ae,R.ev hx,SV.av,RM.run,SR.v,SR.ups,goInt]
 ·rename_i nm _
  simp only [K7] at h;obtain ⟨B,hB,rfl⟩:=h
  obtain ⟨g1,g2⟩:=R.gm hB
  simp only [AO.ae,R.ev hx,SV.av,RM.run,g1,g2,SR.v,SR.ups,GI]
 ·rename_i nm _ _ n
  simp only [K7] at h;obtain ⟨B,hB,rfl⟩:=h
  obtain ⟨g1,g2⟩:=R.gm hB
  simp only [AO.ae,R.ev hx,SV.av,RM.run,g1,SR.v,SR.ups,goInt]
 ·simp at h
theorem GK (R:aW D N st σ g) {v:SV τ dn} (hx:st.ev x=some v) {r:SR τ dn} (h:oN st kd neg v=some r):r.Good D N st.nx σ g (.isn kd neg x):=by
 intro k hO hf
 unfold oN at h
 split at h
 ·simp only [KZ] at h;subst h;simp only [AO.ae,R.ev hx,SV.av,RM.run,SR.v,SR.ups]
 ·simp only [KZ] at h;subst h;simp only [AO.ae,R.ev hx,SV.av,RM.run,SR.v,SR.ups]
 ·simp only [KZ] at h;subst h;simp only [AO.ae,R.ev hx,SV.av,RM.run,SR.v,SR.ups]
 ·rename_i nm _ _ _
  simp only [K7] at h;obtain ⟨B,hB,rfl⟩:=h
  obtain ⟨g1,g2⟩:=R.gm hB
  simp only [AO.ae,R.ev hx,SV.av,RM.run,g1,SR.v,SR.ups]
 ·simp only [KZ] at h;subst h;simp only [AO.ae,R.ev hx,SV.av,RM.run,SR.v,SR.ups]
 ·simp only [KZ] at h;subst h;simp only [AO.ae,R.ev hx,SV.av,RM.run,SR.v,SR.ups]
 ·rename_i ty xs
  simp only [KZ] at h;subst h
  simp only [SR.O,K9,Ll] at hO
  cases xs with
  |nil=>exact absurd rfl hO
  |cons a l=>simp only [AO.ae,R.ev hx,SV.av,RM.run,SR.v,SR.ups,Lf,List.isEmpty_cons,L4,Lx]
 ·simp at h
theorem ux {len:Int} (h:∀p,p∈jN len lo hi->p):(∀l,lo=some l->0<=l)/\(∀l,hi=some l->0<=l)/\((lo.getD 0:Int)<=hi.getD len\/(lo=none/\hi=none))/\(hi.getD len<=len):=by
 cases lo<;>cases hi<;>simp only [jN,K9,Ll,Ma,false_implies,implies_true] at h<;>simp<;>omega
theorem uy (h:∀p,p∈jN (n:Int) lo hi->p):bounds n (lo.map Int.toNat) (hi.map Int.toNat)=some ((lo.getD 0).toNat,(hi.getD (n:Int)).toNat):=by
 cases lo<;>cases hi<;>simp only [jN,K9,Ll,Ma,false_implies,implies_true] at h<;>simp only [bounds,Option.map_none,Ld,Mv,L8]
 ·rw [K1 (by omega)];simp
 ·rw [K1 (by omega)];simp
 ·rw [K1 (by omega)];simp
 ·rw [K1 (by omega)]
theorem GL {α:Type} {xs:List α} (h:∀p,p∈jN (xs.length:Int) lo hi->p):ur xs lo hi=(xs.drop (lo.getD 0).toNat).take ((hi.getD (xs.length:Int)).toNat - (lo.getD 0).toNat):=by
 cases lo<;>cases hi<;>simp only [jN,K9,Ll,Ma,false_implies,implies_true] at h<;>simp only [ur,Mv,L8]
 ·simp
 ·simp
 ·rw [MF (by simp)]
theorem GM (R:aW D N st σ g) {sz:Nat} {lo hi:Option Arg} {v:SV τ dn} {l h':Option Int} (hx:st.ev x=some v) (hl:jM st lo=some l) (hh:jM st hi=some h') {r:SR τ dn} (h:oO D st sz v l h'=some r):r.Good D N st.nx σ g (.slc sz x lo hi none):=by
 intro k hO hf
 have hn:cH (aE σ) none=some none:=rfl
 unfold oO at h
 split at h
 ·rename_i ty xs
  split at h
  ·rename_i hs
   simp only [KZ] at h;subst h
   simp only [SR.O] at hO
   have nn:=ux hO
   have e1:=jb R hl nn.1
   have e2:=jb R hh nn.2.1
   have hb:=uy hO
   simp only [AO.ae,e1,e2,hn,R.ev hx,SV.av,hs,K3,Lq,hb,Mq,cutL,Ld,RM.opt,RM.run,SR.v,SR.ups,GL hO,List.map_take,List.map_drop]
  ·simp at h
 ·split at h
  ·simp only [KZ] at h;subst h
   have e1:=jb R hl (by simp)
   have e2:=jb R hh (by simp)
   simp only [AO.ae,e1,e2,hn,R.ev hx,SV.av,Option.map_none,bounds,Mv,K4,Lp,K3,Mq,RM.opt,RM.run,SR.v,SR.ups]
  ·simp at h
 ·rename_i nm q
  split at h
  case isFalse=>simp at h
  rename_i hs
  split at h
  ·simp only [K7] at h;obtain ⟨B,hB,rfl⟩:=h
   obtain ⟨g1,g2⟩:=R.gm hB
   have e1:=jb R hl (by simp)
   have e2:=jb R hh (by simp)
   simp only [AO.ae,e1,e2,hn,R.ev hx,SV.av,Option.map_none,RM.run,g1,hs,K3,bounds,Mv,Nat.zero_le,K4,Lp,SR.v,SR.ups,Lh,Nat.sub_zero]
  ·simp only [K7] at h;obtain ⟨B,hB,rfl⟩:=h
   obtain ⟨g1,g2⟩:=R.gm hB
   simp only [SR.O] at hO
   have nn:=ux hO
   have e1:=jb R hl nn.1
   have e2:=jb R hh nn.2.1
   have hb:=uy hO
   simp only [AO.ae,e1,e2,hn,R.ev hx,SV.av,RM.run,g1,hs,K3,g2,hb,SR.v,SR.ups,Lh]
 ·simp at h
theorem qU [DecidableEq τ] (ok:aU D) {ty:τ}:∀{els:List (List (SV τ dn))} {xs:List (dn ty)},iZ D ty els=some xs->(SV.bE D.toTE N els)=xs.map (D.ea N.ρ ty)
 |[],xs,h=>by simp only [iZ,KZ] at h;subst h;rfl
 |cs::r,xs,h=>by
  simp only [iZ] at h
  split at h
  ·rename_i hn
   split at h
   ·rename_i x l h1 h2
    simp only [KZ] at h;subst h
    have e1:=ok.dY N ty _ _ h1 hn
    have e2:=qU ok h2
    simp only [SV.bE,SV.bk,e1,e2,Lf]
   ·simp at h
  ·simp at h
theorem qV [DecidableEq τ] {ty:τ}:∀{els:List (List (SV τ dn))} {xs:List (dn ty)},iZ D ty els=some xs->els.length=xs.length
 |[],xs,h=>by simp only [iZ,KZ] at h;subst h;rfl
 |cs::r,xs,h=>by
  simp only [iZ] at h
  split at h
  ·split at h
   ·rename_i x l h1 h2
    simp only [KZ] at h;subst h
    simp [qV h2]
   ·simp at h
  ·simp at h
theorem uz {a:SV τ dn} {x:Value} (h:a.key=some x):a.av D.toTE N= .v x:=by
 cases a<;>simp [SV.key] at h<;>subst h<;>rfl
theorem uA {kd:LK} {k:Value}:∀{els:List (List (SV τ dn))} {r:Option (SV τ dn)},jO kd k els=some r->mfind kd k (SV.bE D.toTE N els)=some (r.map (SV.av D.toTE N))
 |[],r,h=>by simp only [jO,KZ] at h;subst h;rfl
 |[kv,x]::l,r,h=>by
  simp only [jO] at h
  split at h
  ·rename_i k' hk
   simp only [SV.bE,SV.ck,uz hk,mfind]
   split at h
   ·rename_i he
    simp only [KZ] at h;subst h
    simp only [he];rfl
   ·rename_i he
    simp only [he];exact uA h
   ·simp at h
  ·simp at h
 |[]::l,r,h=>by simp [jO] at h
 |[_]::l,r,h=>by simp [jO] at h
 |(_::_::_::_)::l,r,h=>by simp [jO] at h
theorem yQ {n z:Int}:∀{els:List (List (SV τ dn))} {l:List (Int×Int)},jP els=some l->∃r,mfind .int (.int .i64 n) (SV.bE D.toTE N els)=some r/\r.getD (.v (.int .i64 z))= .v (.int .i64 (qN z n l))
 |[],l,h=>by simp only [jP,KZ] at h;subst h;exact ⟨none,rfl,rfl⟩
 |[kv,x]::els,l,h=>by
  cases kv with
  |vn k=>
   simp only [jP] at h
   split at h
   ·rename_i v b l' h1 h2
    simp only [KZ] at h;subst h
    obtain ⟨r,q1,q2⟩:=yQ (n:=n) (z:=z) h2
    simp only [SV.bE,SV.ck,SV.av,ec h1,mfind,keyEq,K3,qN]
    by_cases hk:n=k
    ·subst hk;exact ⟨some (.v (.int .i64 v)),by simp,by simp⟩
    ·have:(n==k)=false:=by simpa using hk
     rw [this,K0 hk];exact ⟨r,q1,q2⟩
   ·simp at h
  |_=>simp [jP] at h
 |[]::l,r,h=>by simp [jP] at h
 |[_]::l,r,h=>by simp [jP] at h
 |(_::_::_::_)::l,r,h=>by simp [jP] at h
theorem GN (R:aW D N st σ g) {kd:LK} {k:Arg} {a b c:SV τ dn} (hx:st.ev x=some a) (hk:st.ev k=some b) (hy:st.ev y=some c) {r:SR τ dn} (h:qO st kd a b c=some r):r.Good D N st.nx σ g (.mup kd x k y):=by
 unfold qO at h
 split at h
 case h_2=>simp at h
 rename_i nm key iO
 split at h
 case h_2=>simp at h
 rename_i els hB
 cases hb:(st.rw nm&&plainV key) with
 |false=>rw [hb] at h;simp at h
 |true=>
  rw [hb,K5] at h
  rw [K2] at hb
  split at h
  case h_2=>simp at h
  rename_i hf
  simp only [KZ] at h;subst h
  intro k' hO dW
  have g1:=(R.gm hB).1
  have hm:=uA (D:=D) (N:=N) hf
  rw [SV.gB] at hm
  simp only [AO.ae,R.ev hx,R.ev hk,R.ev hy,uz iO,SV.av,RM.run,g1,SB.av,hb.2,Lp,K3,hm,Option.map_none,SR.v,SR.ups,SV.gB,LX,Lf,LP]
theorem GO (R:aW D N st σ g) {kd:LK} {z:AV} {k:Arg} {a b:SV τ dn} (hx:st.ev x=some a) (hk:st.ev k=some b) {r:SR τ dn} (h:qP st kd z a b=some r):r.Good D N st.nx σ g (.mlk kd z x k):=by
 unfold qP at h
 split at h
 case h_2=>simp at h
 rename_i nm zs hz
 have ez:zs.av D.toTE N=z:=uu _ _ hz
 split at h
 case h_2=>simp at h
 rename_i els hB
 have g1:=(R.gm hB).1
 split at h
 ·rename_i n
  split at h
  case h_2=>simp at h
  rename_i l zi b' hl GP
  simp only [KZ] at h;subst h
  intro k' hO dW
  obtain ⟨q,q1,q2⟩:=yQ (D:=D) (N:=N) (n:=n) (z:=zi) hl
  rw [ec GP] at ez
  subst ez
  simp only [AO.ae,R.ev hx,R.ev hk,SV.av,RM.run,g1,SB.av,K3,q1,Ld,RM.opt,q2,SR.v,SR.ups]
 ·split at h
  ·rename_i key iO
   simp only [K7] at h;obtain ⟨q,hq,rfl⟩:=h
   intro k' hO dW
   have hm:=uA (D:=D) (N:=N) hq
   simp only [AO.ae,R.ev hx,R.ev hk,uz iO,SV.av,RM.run,g1,SB.av,K3,hm,Ld,RM.opt,SR.v,SR.ups]
   cases q with
   |none=>simp [ez]
   |some w=>simp
  ·simp at h
def Ct.els (D:TD τ dn) (N:aw):Ct τ dn->List (List AV)
 | .ty t xs=>xs.map (D.ea N.ρ t)
 | .li els=>SV.bE D.toTE N els
theorem Ct.GQ (c:Ct τ dn):(c.els D N).length=c.len:=by
 cases c with
 |ty t xs=>simp [Ct.els,Ct.len]
 |li els=>simp [Ct.els,Ct.len,SV.gB]
theorem lV (R:aW D N st σ g) {sz:Nat} {v:SV τ dn} {c:Ct τ dn} (h:st.cont D sz v=some c):(content sz (v.av D.toTE N)).run g=some (c.els D N)/\(∀t xs,c= .ty t xs->D.sz t=sz):=by
 unfold SS.cont at h
 split at h
 ·split at h
  ·rename_i ty xs hs
   simp only [KZ] at h;subst h
   refine ⟨by simp only [SV.av,content,hs,K3,RM.run,Ct.els],fun t ys e=> ?_⟩
   simp only [Ct.ty.injEq] at e;obtain ⟨rfl,_⟩:=e;exact hs
  ·simp at h
 ·split at h
  ·rename_i k els hs
   simp only [KZ] at h;subst h
   exact ⟨by simp only [SV.av,content,hs,K3,RM.run,Ct.els],fun t ys e=>by simp at e⟩
  ·simp at h
 ·simp only [KZ] at h;subst h
  exact ⟨rfl,fun t ys e=>by simp at e⟩
 ·rename_i nm k
  split at h
  case isFalse=>simp at h
  rename_i hs
  subst hs
  split at h
  ·rename_i ty xs hB
   split at h
   ·rename_i hs
    simp only [KZ] at h;subst h
    obtain ⟨g1,g2⟩:=R.gm hB
    refine ⟨?_,fun t ys e=> ?_⟩
    ·simp only [SV.av,content,RM.run,g1,SB.av,hs,g2,SB.len,Lh,Lq,K4,Lp,K3,MQ,Ct.els]
     rw [MF (by simp)]
    ·simp only [Ct.ty.injEq] at e;obtain ⟨rfl,_⟩:=e;exact hs
   ·simp at h
  ·rename_i q els hB
   split at h
   ·rename_i hs
    simp only [KZ] at h;subst h
    obtain ⟨g1,g2⟩:=R.gm hB
    refine ⟨?_,fun t ys e=>by simp at e⟩
    have e:(SV.bE D.toTE N els).length=els.length:=by simp [SV.gB]
    simp only [SV.av,content,RM.run,g1,SB.av,hs,g2,SB.len,Lh,e,K4,Lp,K3,MQ,Ct.els]
    rw [MF (by rw [e];exact K4 _)]
   ·simp at h
  ·simp at h
 ·simp at h
theorem GR [DecidableEq τ] {D:TD τ dn} {sz:Nat} {B B':SB τ dn} {c:Ct τ dn} (h:lT D sz B c=some B'):B.uf=false:=by
 cases B with
 |mc els=>simp [lT] at h
 |_=>rfl
theorem GS [DecidableEq τ] (ok:aU D) {sz:Nat} {B B':SB τ dn} {c:Ct τ dn} (h:lT D sz B c=some B') (hs:B.sz D=sz) (hc:∀t xs,c= .ty t xs->D.sz t=sz):B'.av D.toTE N=⟨sz,(B.av D.toTE N).els++c.els D N⟩/\B'.len=B.len+c.len:=by
 unfold lT at h
 split at h
 ·split at h
  ·rename_i ty xs kN ys he
   simp only [KZ] at h;subst h
   subst he
   simp only [SB.sz] at hs
   refine ⟨?_, ?_⟩
   ·simp only [SB.av,Ct.els,LX,hs]
   ·simp [SB.len,Ct.len]
  ·simp at h
 ·simp only [K7] at h;obtain ⟨ys,hy,rfl⟩:=h
  simp only [SB.sz] at hs
  have e:=qU (N:=N) ok hy
  have e2:=qV hy
  refine ⟨?_, ?_⟩
  ·simp only [SB.av,Ct.els,LX,hs,e]
  ·simp [SB.len,Ct.len,e2]
 ·split at h
  ·rename_i q els ty ys hq
   simp only [K7] at h;obtain ⟨xs,hx,rfl⟩:=h
   simp only [SB.sz] at hs
   have e:=qU (N:=N) ok hx
   have e2:=qV hx
   refine ⟨?_, ?_⟩
   ·simp only [SB.av,Ct.els,LX, <-hq,hs,e]
   ·simp [SB.len,Ct.len,e2]
  ·simp at h
 ·split at h
  ·rename_i q els fs hq
   simp only [KZ] at h;subst h
   refine ⟨?_, ?_⟩
   ·simp only [SB.av,Ct.els,SV.gB,LX,hq]
   ·simp [SB.len,Ct.len]
  ·simp at h
 ·simp at h
 ·simp at h
theorem GU {sz:Nat} {c:Ct τ dn} (hc:∀t xs,c= .ty t xs->D.sz t=sz):(c.ja sz).av D.toTE N=⟨sz,c.els D N⟩/\(c.ja sz).len=c.len:=by
 cases c with
 |ty t xs=>simp only [Ct.ja,SB.av,Ct.els,hc t xs rfl,SB.len,Ct.len,Lp]
 |li els=>simp only [Ct.ja,SB.av,Ct.els,SB.len,Ct.len,Lp]
theorem GV (B:SB τ dn):(B.av D.toTE N).sz=B.sz D:=by cases B<;>rfl
theorem di {β:Type} {f:α->RM β} {m:RM α} {a:α} (h:m.run g=some a):(m.bind f).run g=(f a).run g:=(run_bind m h).1
theorem GW [DecidableEq τ] (ok:aU D) (R:aW D N st σ g) {sz bytes:Nat} {s v:SV τ dn} (hx:st.ev x=some s) (hy:st.ev y=some v) {r:SR τ dn} (h:qL D st sz bytes s v=some r):r.Good D N st.nx σ g (.app sz bytes x y):=by
 intro k hO hf
 unfold qL at h
 split at h
 case h_2=>simp at h
 rename_i c hc
 obtain ⟨c1,c2⟩:=lV R hc
 have cl:(c.els D N).length=c.len:=c.GQ
 have e0:(AO.ae k (aE σ) (.app sz bytes x y)).run g=_:=di (by rw [R.ev hy];exact c1)
 rw [e0,R.ev hx]
 clear e0
 split at h
 ·simp only [KZ] at h;subst h
  simp only [SR.O,K9,Ll] at hO
  obtain ⟨b1,b2⟩:=GU (N:=N) c2
  obtain ⟨f1,f2⟩:=hf
  simp only [SV.av,cl,hO,K3,RM.run,SR.v,SR.ups,b1,f1,f2,b2]
 ·rename_i nm q
  split at h
  case isFalse=>simp at h
  rename_i hs
  split at h
  ·rename_i B hB
   split at h
   ·rename_i hz
    simp only [K7] at h;obtain ⟨B',aR,rfl⟩:=h
    simp only [SR.O,K9,Ll] at hO
    obtain ⟨g1,g2⟩:=R.gm hB
    obtain ⟨b1,b2⟩:=GS (N:=N) ok aR hz c2
    obtain ⟨f1,f2⟩:=hf
    have e1:=B.Ga D.toTE N (GR aR)
    simp only [SV.av,RM.run,g1,GV,hz,hs.1,g2,e1,cl,hO,Lp,K3,SR.v,SR.ups,b1,f1,f2,b2]
   ·simp at h
  ·simp at h
 ·simp at h
theorem GX [DecidableEq τ] (ok:aU D) (R:aW D N st σ g) {sz bytes:Nat} {zs:List AV} {a b:SV τ dn} {l:Int} {p q:Bool} (hx:st.ev x=some a) (hy:st.ev y=some b) (ha:a.int=some (l,p)) (hb:b.int=some (c,q)) {r:SR τ dn} (h:oS D st sz bytes zs l c=some r):r.Good D N st.nx σ g (.msl sz bytes zs x y):=by
 intro k hO hf
 unfold oS at h
 split at h
 ·rename_i ty cs h1 h2
  split at h
  ·rename_i hs
   split at h
   ·rename_i z hz
    simp only [KZ] at h;subst h
    simp only [SR.O,K9,Ll] at hO
    have e1:=kO D.toTE N h2
    have e2:=ok.dY N ty cs z hz hs.2
    rw [SV.bk] at e1
    rw [e1] at e2
    obtain ⟨f1,f2⟩:=hf
    have h0:0<=c:=by omega
    have hb2:c.toNat*bytes<=140737488355328:=by
     have:=hO.2.2
     obtain ⟨m,rfl⟩:=Int.eq_ofNat_of_zero_le h0
     rw [<-Int.natCast_mul] at this
     exact Int.ofNat_le.1 this
    simp only [AO.ae,R.ev hx,R.ev hy,ec ha,ec hb,natOf,hO.1,h0,K3,Int.toNat_le_toNat hO.2.1,hb2,Lp,RM.run,SR.v,SR.ups,SV.av,f1,f2,SB.len,MW,SB.av,hs.1,List.map_replicate,e2]
   ·simp at h
  ·simp at h
 ·simp at h
theorem GY [DecidableEq τ] (R:aW D N st σ g) {sz:Nat} {a b:SV τ dn} (hx:st.ev x=some a) (hy:st.ev y=some b) {r:SR τ dn} (h:qM D st sz a b=some r):r.Good D N st.nx σ g (.cpy sz x y):=by
 intro k hO hf
 unfold qM at h
 split at h
 ·rename_i nm q ty ys hc
  obtain ⟨c1,c2⟩:=lV R hc
  split at h
  case isFalse=>simp at h
  rename_i hs
  split at h
  ·rename_i kN xs hB
   split at h
   ·rename_i he
    subst he
    split at h
    ·rename_i hz
     simp only [KZ] at h;subst h
     obtain ⟨g1,g2⟩:=R.gm hB
     have e0:(AO.ae k (aE σ) (.cpy sz x y)).run g=_:=di (by rw [R.ev hy];exact c1)
     rw [e0,R.ev hx]
     simp only [SV.av,RM.run,g1,SB.av,hz,hs.1,g2,SB.len,Lq,Lh,K4,Lp,K3,Ct.els,SR.v,SR.ups,List.take_zero,List.nil_append,goInt,LX,List.map_take,List.map_drop]
    ·simp at h
   ·simp at h
  ·simp at h
 ·simp at h
theorem yR (ok:aU D) {t:τ} {p:(dn t->UInt8)×(UInt8->dn t)} (h:D.bt t=some p):∀xs:List (dn t),strOf (xs.map (D.ea N.ρ t))=some (xs.map p.1)
 |[]=>rfl
 |x::r=>by
  rw [Lf,(ok.bt N t p h).1 x,strOf,yR ok h r,Mp,UInt8.ofNat_toNat];rfl
theorem yS:∀{els:List (List (SV τ dn))} {l:List UInt8},oP els=some l->strOf (SV.bE D.toTE N els)=some l
 |[],l,h=>by simp only [oP,KZ] at h;subst h;rfl
 |cs::r,l,h=>by
  unfold oP at h
  split at h
  ·rename_i e;simp at e
  ·rename_i b r' e
   simp only [MN] at e
   obtain ⟨rfl,rfl⟩:=e
   split at h
   ·rename_i l' hl
    simp only [KZ] at h;subst h
    have:=yS hl
    simp only [SV.bE,SV.ck,SV.av,strOf,this,Ld,Mp,UInt8.ofNat_toNat]
   ·simp at h
  ·simp at h
theorem GZ [DecidableEq τ] (ok:aU D) (R:aW D N st σ g) {v:SV τ dn} (hx:st.ev x=some v) {r:SR τ dn} (h:oQ D st v=some r):r.Good D N st.nx σ g (.b2s x):=by
 intro k hO hf
 unfold oQ at h
 split at h
 ·rename_i t xs hc
  obtain ⟨c1,_⟩:=lV R hc
  split at h
  ·rename_i p hp
   simp only [KZ] at h;subst h
   have e0:(AO.ae k (aE σ) (.b2s x)).run g=_:=di (by rw [R.ev hx];exact c1)
   rw [e0]
   simp only [Ct.els,yR ok hp,Ld,RM.opt,RM.run,SR.v,SR.ups,SV.av]
  ·simp at h
 ·rename_i els hc
  obtain ⟨c1,_⟩:=lV R hc
  split at h
  ·rename_i l hl
   simp only [KZ] at h;subst h
   have e0:(AO.ae k (aE σ) (.b2s x)).run g=_:=di (by rw [R.ev hx];exact c1)
   rw [e0]
   simp only [Ct.els,yS hl,Ld,RM.opt,RM.run,SR.v,SR.ups,SV.av]
  ·simp at h
 ·simp at h
theorem G0 [DecidableEq τ] (ok:aU D) (R:aW D N st σ g) (hx:st.ev x=some (.vz s)) {r:SR τ dn} (h:oR D st s=some r):r.Good D N st.nx σ g (.s2b x):=by
 intro k hO hf
 unfold oR at h
 split at h
 ·rename_i t ht
  split at h
  ·rename_i p hp
   split at h
   ·rename_i hs
    simp only [KZ] at h;subst h
    simp only [SR.O,K9,Ll] at hO
    obtain ⟨f1,f2⟩:=hf
    have hl:s.data.toList.length=s.size:=rfl
    have e:(s.data.toList.map p.2).map (D.ea N.ρ t)=s.data.toList.map fun b=>[AV.v (.int .u8 b.toNat)]:=by
     rw [MG]
     refine MY fun b _=> ?_
     show D.ea N.ρ t (p.2 b)=_
     rw [(ok.bt N t p hp).1,(ok.bt N t p hp).2]
    simp only [AO.ae,R.ev hx,SV.av,hO,K3,RM.run,SR.v,SR.ups,f1,f2,SB.len,Lq,SB.av,hs,e,hl]
   ·simp at h
  ·simp at h
 ·simp at h
theorem oV (R:aW D N st σ g):∀{l:List Arg} {cs:List (SV τ dn)},l.mapM st.ev=some cs->l.map (aE σ)=cs.map (SV.av D.toTE N)
 |[],cs,h=>by simp at h;subst h;rfl
 |x::r,cs,h=>by
  simp only [List.mapM_cons,Option.pure_def,Option.bind_eq_bind,My,KZ] at h
  obtain ⟨v,hv,l,hl,rfl⟩:=h
  simp only [Lf,R.ev hv,oV R hl]
theorem G1 [DecidableEq τ] (ok:aU D) (R:aW D N st σ g):∀{ao:AO} {r:SR τ dn},sx D st ao=some r->r.Good D N st.nx σ g ao:=by
 intro ao r h
 cases ao<;>simp only [sx] at h
 case mov x=>
  simp only [K7] at h;obtain ⟨v,hv,rfl⟩:=h
  intro k hO hf
  simp only [AO.ae,R.ev hv,RM.run,SR.v,SR.ups]
 case pick=>simp at h
 case new zs=>
  simp only [K7] at h;obtain ⟨cs,hcs,rfl⟩:=h
  intro k hO hf
  obtain ⟨f1,f2⟩:=hf
  simp only [AO.ae,RM.run,SR.v,SR.ups,SV.av,f1,SB.av,SV.bE,kO D.toTE N hcs]
 case box n x=>
  split at h
  ·rename_i v hv
   split at h
   ·rename_i hc
    simp only [KZ] at h;subst h
    intro k hO hf
    obtain ⟨f1,f2⟩:=hf
    have bS:=SV.ov (E:=D.toTE) (N:=N) hc.2.1
    simp only [AO.ae,R.ev hv,bS,Lq,hc.1,qT hc.2.2,Lp,K3,RM.run,SR.v,SR.ups,SV.av,f1,SB.av,SV.bE,SV.bk]
   ·simp at h
  ·simp at h
 case agg zs parts=>
  split at h
  ·rename_i cs hcs
   simp only [K7] at h;obtain ⟨l,hl,rfl⟩:=h
   intro k hO hf
   have e1:=kO D.toTE N hcs
   rw [SV.bk] at e1
   have:=yM R hl
   rw [e1] at this
   simp only [AO.ae,this,Ld,RM.opt,RM.run,SR.v,SR.ups,SV.av,SV.bk]
  ·simp at h
 case bsl sz ln zs parts=>
  split at h
  ·rename_i cs hcs
   simp only [K7] at h;obtain ⟨l,hl,rfl⟩:=h
   intro k hO hf
   obtain ⟨f1,f2⟩:=hf
   have e1:=kO D.toTE N hcs
   rw [SV.bk] at e1
   have:=yN R hl
   rw [List.map_replicate,e1] at this
   have hlen:l.length=ln:=by
    have:∀(parts:List (Nat×Arg)) (els l:List (List (SV τ dn))),kM st sz els parts=some l->l.length=els.length:=by
     intro parts
     induction parts with
     |nil=>intro els l h;simp only [kM,KZ] at h;subst h;rfl
     |cons p r ih=>
      intro els l h
      obtain ⟨i,x⟩:=p
      simp only [kM] at h
      split at h
      ·split at h
       ·have:=ih _ _ h;simpa using this
       ·simp at h
      ·simp at h
    have:=this _ _ _ hl
    simpa using this
   simp only [AO.ae,this,Ld,RM.opt,RM.run,SR.v,SR.ups,SV.av,f1,f2,SB.len,hlen,SB.av,SV.gB]
  ·simp at h
 case load m x=>
  simp only [My] at h;obtain ⟨v,hv,h⟩:=h
  exact yP ok R hv h
 case store n x y=>
  split at h
  ·rename_i a b ha hb;exact GG ok R ha hb h
  ·simp at h
 case nilc x=>
  split at h
  ·rename_i nm sz i o hv
   simp only [K7] at h;obtain ⟨B,hB,rfl⟩:=h
   intro k hO hf
   obtain ⟨g1,g2⟩:=R.gm hB
   simp only [AO.ae,R.ev hv,SV.av,RM.run,g1,SR.v,SR.ups]
  ·rename_i cs o hv
   simp only [KZ] at h;subst h
   intro k hO hf
   simp only [AO.ae,R.ev hv,SV.av,RM.run,SR.v,SR.ups]
  ·simp at h
 case bin bt op x y=>
  split at h
  ·rename_i a b ha hb
   intro k hO hf
   obtain ⟨O,v,p,q,w,rfl,h1,h2,h3,h4⟩:=Gz (D:=D) (N:=N) h hO
   simp only [AO.ae,R.ev ha,R.ev hb,h1,h2,h3,Ld,RM.opt,RM.run,SR.v,SR.ups,h4]
  ·simp at h
 case un op x=>
  simp only [My] at h;obtain ⟨a,ha,h⟩:=h
  intro k hO hf
  obtain ⟨O,v,p,w,rfl,h1,h3,h4⟩:=GB (D:=D) (N:=N) h hO
  simp only [AO.ae,R.ev ha,h1,h3,Ld,RM.opt,RM.run,SR.v,SR.ups,h4]
 case conv q x=>
  simp only [My] at h;obtain ⟨a,ha,h⟩:=h
  intro k hO hf
  obtain ⟨O,v,p,w,rfl,h1,h4⟩:=GC (D:=D) (N:=N) h hO
  simp only [AO.ae,R.ev ha,h1,RM.run,SR.v,SR.ups,h4]
 case fad off x=>
  split at h
  ·rename_i nm sz i o hv
   simp only [K7] at h;obtain ⟨B,hB,rfl⟩:=h
   intro k hO hf
   obtain ⟨g1,g2⟩:=R.gm hB
   simp only [AO.ae,R.ev hv,SV.av,RM.run,g1,SR.v,SR.ups]
  ·rename_i cs o hv
   simp only [KZ] at h;subst h
   intro k hO hf
   simp only [AO.ae,R.ev hv,SV.av,RM.run,SR.v,SR.ups]
  ·simp at h
 case fld off m x=>
  split at h
  ·rename_i cs hv
   simp only [K7] at h;obtain ⟨w,hw,rfl⟩:=h
   intro k hO hf
   have:=mT (D:=D) (N:=N) hw
   simp only [AO.ae,R.ev hv,SV.av,SV.bk,this,Ld,RM.opt,RM.run,SR.v,SR.ups]
  ·simp at h
 case iad sz x i=>
  split at h
  ·rename_i a b ha hb
   split at h
   ·rename_i n l hn;exact GH ok R ha hb hn h
   ·simp at h
  ·simp at h
 case ext i x=>
  split at h
  ·rename_i vs hv
   simp only [K7] at h;obtain ⟨w,hw,rfl⟩:=h
   intro k hO hf
   simp only [AO.ae,R.ev hv,SV.av,SV.bk,Lu,hw,Ld,RM.opt,RM.run,SR.v,SR.ups]
  ·simp at h
 case len s x=>
  simp only [My] at h;obtain ⟨v,hv,h⟩:=h
  exact GJ R hv h
 case isn kd neg x=>
  simp only [My] at h;obtain ⟨v,hv,h⟩:=h
  exact GK R hv h
 case mnx mx x y=>
  split at h
  ·rename_i a b ha hb
   split at h
   ·rename_i p _ q _ h1 h2
    simp only [KZ] at h;subst h
    intro k hO hf
    simp only [AO.ae,R.ev ha,R.ev hb,ec h1,ec h2,nE,K3,Ld,RM.opt,RM.run,SR.v,SR.ups,SV.av]
    congr 5
    all_goals (simp only [Int.max_def,Int.min_def];(repeat' split)<;>omega)
   ·simp at h
  ·simp at h
 case eqs ng n L x y=>
  split at h
  ·rename_i cs ds hc hd
   split at h
   ·rename_i hl
    split at h
    ·rename_i v hv
     simp only [K7] at h;obtain ⟨w,hw,rfl⟩:=h
     intro k hO hf
     obtain ⟨p,h1,h2⟩:=yO (D:=D) (N:=N) hv
     have h3:w.av D.toTE N= .v (.bool (if ng then !p else p)):=by
      cases ng with
      |true=>
       simp only [K3] at hw ⊢
       obtain ⟨z,q1,q2⟩:=uw (D:=D) (N:=N) hw
       rw [h1] at q1;simp only [AV.v.injEq,Value.bool.injEq] at q1;subst q1;exact q2
      |false=>simp only [L4,Lx,KZ] at hw ⊢; subst hw;exact h1
     simp only [AO.ae,R.ev hc,R.ev hd,SV.av,SV.bk,Lq,hl.1,hl.2,Lp,K3,h2,Ld,RM.opt,RM.run,SR.v,SR.ups,h3]
    ·simp at h
   ·simp at h
  ·simp at h
 case b2s x=>
  split at h
  ·rename_i v hv;exact GZ ok R hv h
  ·simp at h
 case s2b x=>
  split at h
  ·rename_i s hs;exact G0 ok R hs h
  ·simp at h
 case msl sz by_ zs x y=>
  split at h
  ·rename_i a b ha hb
   split at h
   ·rename_i p _ q _ h1 h2;exact GX ok R ha hb h1 h2 h
   ·simp at h
  ·simp at h
 case slc sz x lo hi mx=>
  cases mx with
  |some m=>simp at h
  |none=>
   simp only at h
   split at h
   ·rename_i a l h' ha hl hh;exact GM R ha hl hh h
   ·simp at h
 case sls x lo hi=>
  split at h
  ·rename_i s l h' hs hl hh
   simp only [KZ] at h;subst h
   intro k hO hf
   simp only [SR.O] at hO
   have nn:=ux hO
   have e1:=jb R hl nn.1
   have e2:=jb R hh nn.2.1
   have hb:=uy hO
   simp only [AO.ae,e1,e2,R.ev hs,SV.av,hb,Ld,RM.opt,RM.run,SR.v,SR.ups]
  ·simp at h
 case six x i=>
  split at h
  ·rename_i s b hs hb
   split at h
   ·rename_i n _ h1
    simp only [KZ] at h;subst h
    intro k hO hf
    simp only [SR.O,K9,Ll] at hO
    have hl:n.toNat<s.size:=by omega
    have e:s[n.toNat]? =some (gb s n.toNat):=by unfold gb;rw [getElem?_pos s n.toNat hl];rfl
    simp only [AO.ae,R.ev hs,R.ev hb,ec h1,SV.av,natOf,hO.1,K3,e,Ld,RM.opt,RM.run,SR.v,SR.ups]
   ·split at h
    ·rename_i q n _
     simp only [KZ] at h;subst h
     intro k hO hf
     simp only [SR.O,K9,Ll] at hO
     have hl:n.toNat<s.size:=by omega
     have e:s[n.toNat]? =some (gb s n.toNat):=by unfold gb;rw [getElem?_pos s n.toNat hl];rfl
     simp only [AO.ae,R.ev hs,R.ev hb,SV.av,natOf,hO.1,K3,e,Ld,RM.opt,RM.run,SR.v,SR.ups]
    ·rename_i y _
     simp only [KZ] at h;subst h
     intro k hO hf
     simp only [SR.O,K9,Ll] at hO
     have e:s[y.toNat]? =some (gb s y.toNat):=by unfold gb;rw [getElem?_pos s y.toNat hO];rfl
     have h0:(0:Int)<=(y.toNat:Int):=by omega
     simp only [AO.ae,R.ev hs,R.ev hb,SV.av,natOf,h0,K3,Mp,e,Ld,RM.opt,RM.run,SR.v,SR.ups]
    ·simp at h
  ·simp at h
 case app sz by_ x y=>
  split at h
  ·rename_i a b ha hb;exact GW ok R ha hb h
  ·simp at h
 case cpy sz x y=>
  split at h
  ·rename_i a b ha hb;exact GY R ha hb h
  ·simp at h
 case mkf f caps=>
  simp only [K7] at h;obtain ⟨cs,hcs,rfl⟩:=h
  intro k hO hf
  simp only [AO.ae,oV R hcs,RM.run,SR.v,SR.ups,SV.av,SV.bk]
 case mkb f caps=>
  simp only [K7] at h;obtain ⟨cs,hcs,rfl⟩:=h
  intro k hO hf
  simp only [AO.ae,oV R hcs,RM.run,SR.v,SR.ups,SV.av,SV.bk]
 case iap sz ln x i=>
  split at h
  ·rename_i nm s e o n hv hn
   split at h
   ·rename_i hc
    simp only [KZ] at h;subst h
    intro k hO hf
    obtain ⟨B,hB⟩:=MU.1 hc.2.2
    obtain ⟨g1,g2⟩:=R.gm hB
    simp only [AO.ae,R.ev hv,R.ev hn,SV.av,hc.1,hc.2.1,Lp,K3,RM.run,g1,SR.v,SR.ups]
   ·simp at h
  ·rename_i cs o n hv hn
   split at h
   ·rename_i hc
    simp only [KZ] at h;subst h
    intro k hO hf
    simp only [AO.ae,R.ev hv,R.ev hn,SV.av,hc.1,hc.2,Lp,K3,RM.run,SR.v,SR.ups]
   ·simp at h
  ·simp at h
 case ixa sz ln m x i=>
  split at h
  ·rename_i cs n hv hn
   split at h
   ·rename_i hc
    simp only [K7] at h;obtain ⟨w,hw,rfl⟩:=h
    intro k hO hf
    simp only [AO.ae,R.ev hv,R.ev hn,SV.av,hc.1,hc.2,Lp,K3,SV.bk,mT hw,Ld,RM.opt,RM.run,SR.v,SR.ups]
   ·simp at h
  ·simp at h
 case mkm=>
  simp only [KZ] at h;subst h
  intro k hO hf
  simp only [AO.ae,RM.run,SR.v,SR.ups,SV.av,SB.av,SV.bE,hf.1]
 case mup kd x key y=>
  split at h
  ·rename_i a b c ha hb hc;exact GN R ha hb hc h
  ·simp at h
 case mlk kd z x key=>
  split at h
  ·rename_i a b ha hb;exact GO R ha hb h
  ·simp at h
 all_goals simp at h
end
open Go.RowKit
section
variable {τ:Type} {dn:τ->Type}
def SV.isRw:SV τ dn->Bool
 | .rw _ _| .cK _ _ _ _=>true
 |_=>false
def AO.lk:AO->List Arg
 | .load _ x| .nilc x| .fad _ x| .len _ x| .isn _ _ x| .clr _ x| .b2s x=>[x]
 | .store _ x _| .iad _ x _| .iap _ _ x _| .slc _ x _ _ _| .mup _ x _ _| .mlk _ _ x _=>[x]
 | .app _ _ s x=>[x,s]
 | .cpy _ x y=>[y,x]
 |_=>[]
def SS.rwa (st:SS τ dn) (x:Arg):Bool:=match st.ev x with
 |some v=>v.isRw
 |none=>false
variable [DecidableEq τ]
def SS.fg (st:SS τ dn) (t:τ):Option (List (Nat×List (dn t))):=match st.gm 0 with
 |some (.ar t' A)=>if h:t'=t then some (h▸A) else none
 |_=>none
theorem kP {st:SS τ dn} {t:τ} {A:List (Nat×List (dn t))} (h:st.fg t=some A):st.gm 0=some (.ar t A):=by
 unfold SS.fg at h
 split at h
 ·rename_i t' A' hB
  split at h
  ·rename_i he
   subst he
   simp only [KZ] at h;subst h;exact hB
  ·simp at h
 ·simp at h
variable (D:TD τ dn)
def oW (st:SS τ dn) (sz:Nat):SV τ dn->Option (List Prop×Ct τ dn)
 | .rw t r=>match st.fg t with
  |some A=>if D.sz t=sz then some ([r.ok A], .ty t (r.get A)) else none
  |none=>none
 |v=>(st.cont D sz v).map fun c=>([],c)
def jQ (st:SS τ dn):AO->Option (SR τ dn)
 | .load m x=>match st.ev x with
  |some (.cK t r i o)=>match st.fg t with
   |some A=>(jL (D.es t (gd (D.df t) (r.get A) i)) o m).map (.val [r.ok A,i<(r.get A).length])
   |none=>none
  |_=>none
 | .store n x y=>match st.ev x,st.ev y with
  |some (.cK t r i o),some y=>match st.fg t with
   |some A=>if (y.cells.length=n/\y.fP=true/\y.cells.all SV.one=true)/\o+n<=D.sz t/\st.rw 0=true/\D.lS t (kL (D.es t (gd (D.df t) (r.get A) i)) o y.cells)=true then (match D.ds t (kL (D.es t (gd (D.df t) (r.get A) i)) o y.cells) with
    |some z=>some (.dZ [r.lQ A,i<(r.get A).length] (.vo undef) r.id t ((r.get A).set i z) A)
    |none=>none) else none
   |none=>none
  |_,_=>none
 | .nilc x=>match st.ev x with
  |some (.cK t r i o)=>match st.fg t with
   |some A=>some (.val [r.ok A,i<(r.get A).length] (.cK t r i o))
   |none=>none
  |_=>none
 | .fad off x=>match st.ev x with
  |some (.cK t r i o)=>match st.fg t with
   |some A=>some (.val [r.ok A,i<(r.get A).length] (.cK t r i (o+off)))
   |none=>none
  |_=>none
 | .iad sz x y=>match st.ev x,st.ev y with
  |some (.rw t r),some b=>match st.fg t,b.int with
   |some A,some (n,_)=>if D.sz t=sz then some (.val [r.ok A,0<=n/\n<(r.get A).length] (.cK t r n.toNat 0)) else none
   |_,_=>none
  |_,_=>none
 | .len false x=>match st.ev x with
  |some (.rw t r)=>match st.fg t with
   |some A=>some (.val [r.ok A] (.vi ((r.get A).length:Int)))
   |none=>none
  |_=>none
 | .cpy sz x y=>match st.ev x,st.ev y with
  |some (.rw t r),some b=>match st.fg t,oW D st sz b with
   |some A,some (O, .ty t' ys)=>if h:t'=t then (if D.sz t=sz/\st.rw 0=true then some (.dZ (O++[r.lQ A]) (.vi ((min ys.length (r.get A).length:Nat):Int)) r.id t (((h▸ys):List (dn t)).take (r.get A).length++(r.get A).drop (min ys.length (r.get A).length)) A) else none) else none
   |_,_=>none
  |_,_=>none
 |_=>none
end
section
variable {τ:Type} {dn:τ->Type} {D:TD τ dn} {N:aw} {st:SS τ dn} {σ:Nat->AV} {g:Nat->Option Bk} [DecidableEq τ]
theorem jR (R:aW D N st σ g) {t:τ} {A:List (Nat×List (dn t))} (h:st.fg t=some A) {r:Row (dn t)} (hr:r.ok A) (hk:r.kd= .own):r.get A=eU A r.id/\r.n=(r.get A).length/\g r.id=some ⟨D.sz t,(r.get A).map (D.ea N.ρ t)⟩:=by
 unfold Row.ok at hr
 rw [hk] at hr
 have e:r.get A=eU A r.id:=by unfold Row.get;rw [hk]
 rw [e]
 exact ⟨rfl,hr.2.symm,R.ar t A (fI (kP h)) _ hr.1⟩
theorem mU (hk:r.kd= .nil):r.get A=[]:=by unfold Row.get;rw [hk]
theorem lW (hk:r.kd= .aP):r.get A=r.xs:=by unfold Row.get;rw [hk]
theorem Row.lQ.ok {α:Type} {A:List (Nat×List α)} {r:Row α} (h:r.lQ A):r.ok A:=by unfold Row.ok;rw [h.1];exact h.2
theorem G2 (R:aW D N st σ g) {sz:Nat} {v:SV τ dn} {O:List Prop} {c:Ct τ dn} (h:oW D st sz v=some (O,c)) (hO:∀p,p∈O->p):(content sz (v.av D.toTE N)).run g=some (c.els D N)/\(∀t xs,c= .ty t xs->D.sz t=sz):=by
 have other:∀{v:SV τ dn},((st.cont D sz v).map fun c=>(([]:List Prop),c))=some (O,c)->(content sz (v.av D.toTE N)).run g=some (c.els D N)/\(∀t xs,c= .ty t xs->D.sz t=sz):=fun h=>by
  simp only [K7,Li] at h
  obtain ⟨c',h1,_,rfl⟩:=h
  exact lV R h1
 cases v with
 |rw t r=>
  simp only [oW] at h
  split at h
  ·rename_i A hA
   split at h
   ·rename_i hs
    simp only [KZ,Li] at h
    obtain ⟨rfl,rfl⟩:=h
    simp only [K9,Ll] at hO
    refine ⟨?_,fun t' ys e=>by simp only [Ct.ty.injEq] at e;obtain ⟨rfl,_⟩:=e;exact hs⟩
    cases hk:r.kd with
    |nil=>simp only [SV.av,hk,content,RM.run,Ct.els,mU hk,LP]
    |aP=>simp only [SV.av,hk,content,hs,K3,RM.run,Ct.els,lW hk]
    |own=>
     obtain ⟨e1,e2,e3⟩:=jR R hA hO hk
     simp only [SV.av,hk,content,RM.run,e3,hs,e2,Lh,Lq,K4,Lp,K3,MQ,Ct.els]
     rw [MF (by simp)]
   ·simp at h
  ·simp at h
 |_=>exact other h
theorem G3 (ok:aU D) (R:aW D N st σ g) {r:SR τ dn} (h:jQ D st ao=some r):r.Good D N st.nx σ g ao:=by
 intro k hO hf
 cases ao<;>simp only [jQ,reduceCtorEq] at h
 case load m x=>
  split at h
  case h_2=>simp at h
  rename_i t q i o hx
  split at h
  case h_2=>simp at h
  rename_i A hA
  simp only [K7] at h;obtain ⟨w,hw,rfl⟩:=h
  simp only [SR.O,Lc,Ma,or_false,Mx,Ll] at hO
  have hq:=mT (D:=D) (N:=N) hw
  rw [ok.cO] at hq
  cases hk:q.kd with
  |nil=>rw [mU hk] at hO;simp at hO
  |aP=>
   rw [lW hk] at hq hO
   simp only [AO.ae,R.ev hx,SV.av,hk,jK (d:=D.df t) hO.2,hq,Ld,RM.opt,RM.run,SR.v,SR.ups]
  |own=>
   obtain ⟨e1,e2,e3⟩:=jR R hA hO.1 hk
   simp only [AO.ae,R.ev hx,SV.av,hk,RM.run,e3,K3,Lu,jK (d:=D.df t) hO.2,Ld,Mq,hq,RM.opt,SR.v,SR.ups]
 case store n x y=>
  split at h
  case h_2=>simp at h
  rename_i t q i o b hx hy
  split at h
  case h_2=>simp at h
  rename_i A hA
  split at h
  case isFalse=>simp at h
  rename_i hc
  split at h
  case h_2=>simp at h
  rename_i z hz
  simp only [KZ] at h;subst h
  simp only [SR.O,Lc,Ma,or_false,Mx,Ll] at hO
  have bS:=SV.ov (E:=D.toTE) (N:=N) hc.1.2.1
  have dD:=qT (D:=D) (N:=N) hc.1.2.2
  obtain ⟨e1,e2,e3⟩:=jR R hA hO.1.ok hO.1.1
  have he:=ok.dY N t _ z hz hc.2.2.2
  rw [qS,ok.cO] at he
  simp only [AO.ae,R.ev hx,R.ev hy,SV.av,hO.1.1,RM.run,e3,bS,Lq,hc.1.1,dD,hc.2.1,Lp,K3,Lu,jK (d:=D.df t) hO.2,Ld,SR.v,SR.ups,he,Mt]
 case nilc x=>
  split at h
  case h_2=>simp at h
  rename_i t q i o hx
  split at h
  case h_2=>simp at h
  rename_i A hA
  simp only [KZ] at h;subst h
  simp only [SR.O,Lc,Ma,or_false,Mx,Ll] at hO
  cases hk:q.kd with
  |nil=>rw [mU hk] at hO;simp at hO
  |aP=>rw [lW hk] at hO;simp only [AO.ae,R.ev hx,SV.av,hk,jK (d:=D.df t) hO.2,RM.run,SR.v,SR.ups]
  |own=>
   obtain ⟨e1,e2,e3⟩:=jR R hA hO.1 hk
   simp only [AO.ae,R.ev hx,SV.av,hk,RM.run,e3,SR.v,SR.ups]
 case fad off x=>
  split at h
  case h_2=>simp at h
  rename_i t q i o hx
  split at h
  case h_2=>simp at h
  rename_i A hA
  simp only [KZ] at h;subst h
  simp only [SR.O,Lc,Ma,or_false,Mx,Ll] at hO
  cases hk:q.kd with
  |nil=>rw [mU hk] at hO;simp at hO
  |aP=>rw [lW hk] at hO;simp only [AO.ae,R.ev hx,SV.av,hk,jK (d:=D.df t) hO.2,RM.run,SR.v,SR.ups]
  |own=>
   obtain ⟨e1,e2,e3⟩:=jR R hA hO.1 hk
   simp only [AO.ae,R.ev hx,SV.av,hk,RM.run,e3,SR.v,SR.ups]
 case iad sz x y=>
  split at h
  case h_2=>simp at h
  rename_i t q b hx hy
  split at h
  case h_2=>simp at h
  rename_i A n l hA hb
  split at h
  case isFalse=>simp at h
  rename_i hs
  simp only [KZ] at h;subst h
  simp only [SR.O,Lc,Ma,or_false,Mx,Ll] at hO
  have hl:n.toNat<(q.get A).length:=by omega
  cases hk:q.kd with
  |nil=>rw [mU hk] at hl;simp at hl
  |aP=>
   rw [lW hk] at hl
   simp only [AO.ae,R.ev hx,R.ev hy,ec hb,SV.av,hk,hs,hO.2.1,Lp,K3,Lu,jK (d:=D.df t) hl,Ld,RM.opt,RM.run,SR.v,SR.ups]
  |own=>
   obtain ⟨e1,e2,e3⟩:=jR R hA hO.1 hk
   have:n<(q.n:Int):=by rw [e2];exact hO.2.2
   simp only [AO.ae,R.ev hx,R.ev hy,ec hb,SV.av,hk,hs,hO.2.1,this,Lp,K3,RM.run,e3,SR.v,SR.ups,Lh]
 case len s x=>
  cases s with
  |true=>simp at h
  |false=>
   simp only at h
   split at h
   case h_2=>simp at h
   rename_i t q hx
   split at h
   case h_2=>simp at h
   rename_i A hA
   simp only [KZ] at h;subst h
   simp only [SR.O,K9,Ll] at hO
   cases hk:q.kd with
   |nil=>simp only [AO.ae,R.ev hx,SV.av,hk,RM.run,SR.v,SR.ups,goInt,mU hk,List.length_nil];rfl
   |aP=>simp only [AO.ae,R.ev hx,SV.av,hk,RM.run,SR.v,SR.ups,goInt,lW hk,Lq]
   |own=>
    obtain ⟨e1,e2,e3⟩:=jR R hA hO hk
    simp only [AO.ae,R.ev hx,SV.av,hk,RM.run,e3,SR.v,SR.ups,goInt,e2]
 case cpy sz x y=>
  split at h
  case h_2=>simp at h
  rename_i t q b hx hy
  split at h
  case h_2=>simp at h
  rename_i A O t' ys hA dE
  split at h
  case isFalse=>simp at h
  rename_i ht
  subst ht
  split at h
  case isFalse=>simp at h
  rename_i hs
  simp only [KZ] at h;subst h
  simp only [SR.O,LD,K9] at hO
  have hm:=hO _ (.inr rfl)
  obtain ⟨c1,c2⟩:=G2 R dE fun p hp=>hO p (.inl hp)
  obtain ⟨e1,e2,e3⟩:=jR R hA hm.ok hm.1
  have e0:(AO.ae k (aE σ) (.cpy sz x y)).run g=_:=di (by rw [R.ev hy];exact c1)
  rw [e0,R.ev hx]
  simp only [SV.av,hm.1,RM.run,e3,hs.1,e2,Lq,Lh,K4,Lp,K3,Ct.els,SR.v,SR.ups,List.take_zero,List.nil_append,goInt,LX,List.map_take,List.map_drop]
theorem G4 (R:aW D N st σ g) {r:SR τ dn} (h:jQ D st ao=some r) (hO:∀p,p∈r.O->p) {v:SV τ dn} (hx:x∈ao.lk) (hv:st.ev x=some v) (hr:v.isRw=true):∀id,id∈(match v.av D.toTE N with| .own id _ _ _| .ref id _ _ _| .mp id=>[id]|_=>[])->∃t A,st.gm 0=some (.ar t A)/\dp A id:=by
 have qW:∀{t:τ} {A:List (Nat×List (dn t))} {q:Row (dn t)},st.fg t=some A->q.ok A->v= .rw t q->∀id,id∈(match v.av D.toTE N with| .own id _ _ _| .ref id _ _ _| .mp id=>[id]|_=>[])->∃t A,st.gm 0=some (.ar t A)/\dp A id:=by
  rintro t A q hA hq rfl id hid
  cases hk:q.kd with
  |nil=>simp [SV.av,hk] at hid
  |aP=>simp [SV.av,hk] at hid
  |own=>
   simp only [SV.av,hk,K9] at hid
   unfold Row.ok at hq
   rw [hk] at hq
   exact ⟨t,A,kP hA,hid▸hq.1⟩
 have qX:∀{t:τ} {A:List (Nat×List (dn t))} {q:Row (dn t)} {i o:Nat},st.fg t=some A->q.ok A->v= .cK t q i o->∀id,id∈(match v.av D.toTE N with| .own id _ _ _| .ref id _ _ _| .mp id=>[id]|_=>[])->∃t A,st.gm 0=some (.ar t A)/\dp A id:=by
  rintro t A q i o hA hq rfl id hid
  cases hk:q.kd with
  |nil=>simp [SV.av,hk] at hid
  |aP=>
   simp only [SV.av,hk] at hid
   exfalso
   revert hid
   cases q.xs[i]? <;>simp
  |own=>
   simp only [SV.av,hk,K9] at hid
   unfold Row.ok at hq
   rw [hk] at hq
   exact ⟨t,A,kP hA,hid▸hq.1⟩
 cases ao<;>simp only [jQ,reduceCtorEq] at h<;>simp only [AO.lk,K9,Lc,Ma,or_false] at hx
 case load m x'=>
  subst hx
  rw [hv] at h
  split at h
  case h_2=>simp at h
  rename_i t q i o he
  simp only [KZ] at he
  split at h
  case h_2=>simp at h
  rename_i A hA
  simp only [K7] at h;obtain ⟨w,hw,rfl⟩:=h
  exact qX hA (hO _ (by simp [SR.O])) he
 case store n x' y=>
  subst hx
  rw [hv] at h
  split at h
  case h_2=>simp at h
  rename_i t q i o b he hy
  simp only [KZ] at he
  split at h
  case h_2=>simp at h
  rename_i A hA
  split at h
  case isFalse=>simp at h
  split at h
  case h_2=>simp at h
  simp only [KZ] at h;subst h
  exact qX hA (hO _ (L7 ..):q.lQ A).ok he
 case nilc x'=>
  subst hx
  rw [hv] at h
  split at h
  case h_2=>simp at h
  rename_i t q i o he
  simp only [KZ] at he
  split at h
  case h_2=>simp at h
  rename_i A hA
  simp only [KZ] at h;subst h
  exact qX hA (hO _ (by simp [SR.O])) he
 case fad off x'=>
  subst hx
  rw [hv] at h
  split at h
  case h_2=>simp at h
  rename_i t q i o he
  simp only [KZ] at he
  split at h
  case h_2=>simp at h
  rename_i A hA
  simp only [KZ] at h;subst h
  exact qX hA (hO _ (by simp [SR.O])) he
 case iad sz x' y=>
  subst hx
  rw [hv] at h
  split at h
  case h_2=>simp at h
  rename_i t q b he hy
  simp only [KZ] at he
  split at h
  case h_2=>simp at h
  rename_i A n l hA hb
  split at h
  case isFalse=>simp at h
  simp only [KZ] at h;subst h
  exact qW hA (hO _ (by simp [SR.O])) he
 case len s x'=>
  subst hx
  cases s with
  |true=>simp at h
  |false=>
   simp only at h
   rw [hv] at h
   split at h
   case h_2=>simp at h
   rename_i t q he
   simp only [KZ] at he
   split at h
   case h_2=>simp at h
   rename_i A hA
   simp only [KZ] at h;subst h
   exact qW hA (hO _ (by simp [SR.O])) he
 case cpy sz x' y=>
  split at h
  case h_2=>simp at h
  rename_i t q b cZ hy
  split at h
  case h_2=>simp at h
  rename_i A O t' ys hA dE
  split at h
  case isFalse=>simp at h
  rename_i ht
  subst ht
  split at h
  case isFalse=>simp at h
  simp only [KZ] at h;subst h
  simp only [SR.O,LD,K9] at hO
  rcases hx with rfl|rfl
  ·rw [hv] at hy
   simp only [KZ] at hy;subst hy
   cases v with
   |rw t2 q2=>
    simp only [oW] at dE
    split at dE
    ·rename_i A2 G5
     split at dE
     ·simp only [KZ,Li] at dE
      obtain ⟨rfl,_⟩:=dE
      exact qW G5 (hO _ (.inl (K9.2 rfl))) rfl
     ·simp at dE
    ·simp at dE
   |cK t2 q2 i o=>simp [oW,SS.cont] at dE
   |_=>simp [SV.isRw] at hr
  ·rw [hv] at cZ
   simp only [KZ] at cZ
   exact qW hA (hO _ (.inr rfl):q.lQ A).ok cZ
end
open Go.RowKit
def aw.aZ (n:Nat) (N N':aw):Prop:=(∀a,a<n->N'.ι a=N.ι a/\N'.ln a=N.ln a)/\N'.ρ=N.ρ
theorem aw.dJ (n:Nat) (N:aw):N.aZ n N:=⟨fun _ _=>⟨rfl,rfl⟩,rfl⟩
theorem aw.ep {m:Nat} {N' bJ:aw} (h:N.aZ n N') (k:N'.aZ m bJ) (hm:n<=m):N.aZ n bJ:=
 ⟨fun a ha=>⟨((k.1 a (by omega)).1).trans (h.1 a ha).1,((k.1 a (by omega)).2).trans (h.1 a ha).2⟩,k.2.trans h.2⟩
def aw.cS (N:aw) (nm id ln:Nat):aw:=⟨fun a=>if a=nm then id else N.ι a,fun a=>if a=nm then ln else N.ln a,N.ρ⟩
theorem aw.jS (N:aw) (nm id ln:Nat):N.aZ nm (N.cS nm id ln):=
 ⟨fun a ha=>⟨K0 (by omega),K0 (by omega)⟩,rfl⟩
section
variable {τ:Type} {dn:τ->Type} {D:TD τ dn}
structure Rel (D:TD τ dn) (N:aw) (st:SS τ dn) (s:S3):Prop where
 at_:∀N',N.aZ st.nx N'->aW D N' st s.σ s.g
 inj:∀a b,a<st.nx->b<st.nx->N.ι a=N.ι b->a=b
 lt:∀a,a<st.nx->N.ι a<s.k
 ml:∀nm B,getS st.m nm=some B->nm<st.nx
 rl:∀nm B,getS st.rm nm=some B->nm<st.nx
 sp:∀t A,st.bm 0 (.ar t A)->∀id,dp A id->id<s.k/\∀nm B,st.bm nm B->N.ι nm≠id
theorem Rel.here {st:SS τ dn} {s:S3} (R:Rel D N st s):aW D N st s.σ s.g:=R.at_ N (N.dJ _)
def dstS (n:Nat) (rt:List (Nat×SV τ dn)):Option Nat->Bool
 |none=>true
 |some d=>Nat.blt d n&&(getS rt d).isNone
def gi (t:List (Nat×SV τ dn)):Option Nat->SV τ dn->List (Nat×SV τ dn)
 |none,_=>t
 |some d,v=>(d,v)::t
theorem aV {v:α} {r:List (Nat×α)}:getS ((j,v)::r) i=if i=j then some v else getS r i:=by
 simp only [getS]
 by_cases h:i=j
 ·subst h;simp
 ·have:Nat.beq i j=false:=by
   cases hb:Nat.beq i j with
   |false=>rfl
   |true=>exact absurd (Lk hb) h
  simp [this,h]
theorem kQ {rt t:List (Nat×SV τ dn)} {v:SV τ dn} (hd:dstS n rt d=true)
  (h1:∀i v,getS t i=some v->σ i=v.av D.toTE N) (h2:∀i v,getS rt i=some v->σ i=v.av D.toTE N) (ha:a=v.av D.toTE N):
  (∀i w,getS (gi t d v) i=some w->bw n d a σ i=w.av D.toTE N)/\(∀i w,getS rt i=some w->bw n d a σ i=w.av D.toTE N):=by
 cases d with
 |none=>exact ⟨fun i w h=>by simp only [bw];rw [K0 (by simp)];exact h1 i w h,fun i w h=>by simp only [bw];rw [K0 (by simp)];exact h2 i w h⟩
 |some d=>
  simp only [dstS,K2] at hd
  have tx:d<n:=LV hd.1
  refine ⟨fun i w h=> ?_,fun i w h=> ?_⟩
  ·simp only [gi,aV] at h
   simp only [bw,KZ]
   by_cases hi:i=d
   ·subst hi
    rw [K1 rfl,KZ] at h
    rw [K1 ⟨rfl,tx⟩,ha,h]
   ·rw [K0 hi] at h
    rw [K0 (fun hh=>hi hh.1.symm)];exact h1 i w h
  ·simp only [bw,KZ]
   have hi:¬d=i:=fun e=>by subst e;rw [h] at hd;simp at hd
   rw [K0 (fun hh=>hi hh.1)];exact h2 i w h
def SR.st (st:SS τ dn) (d:Option Nat):SR τ dn->SS τ dn
 | .val _ v=>⟨st.rt,st.rm,gi st.t d v,st.m,st.nx⟩
 | .new _ v B=>⟨st.rt,st.rm,gi st.t d v,(st.nx,some B)::st.m,st.nx+1⟩
 | .put _ v nm B=>⟨st.rt,st.rm,gi st.t d v,(nm,some B)::st.m,st.nx⟩
 | .mov _ v aL B=>⟨st.rt,st.rm,gi st.t d v,(st.nx,some B)::(aL,none)::st.m,st.nx+1⟩
 | .ff _ v ns=>⟨st.rt,st.rm,gi st.t d v,(ns.map fun a=>(a,none))++st.m,st.nx⟩
 | .dZ _ v id t row A=>⟨st.rt,st.rm,gi st.t d v,(0,some (.ar t ((id,row)::A)))::st.m,st.nx⟩
def SR.keys (st:SS τ dn):SR τ dn->List Nat
 | .val _ _=>[]
 | .new _ _ _=>[st.nx]
 | .put _ _ nm _=>[nm]
 | .mov _ _ aL _=>[aL,st.nx]
 | .ff _ _ ns=>ns
 | .dZ _ _ _ _ _ _=>[0]
def SR.may (D:TD τ dn) (N:aw) (st:SS τ dn):SR τ dn->Prop
 | .put _ _ nm B=>(∃B0,getS st.m nm=some (some B0)/\N.ln nm=B.len)/\getS st.rm nm=none/\B.gC=false
 | .mov _ _ aL B=>(∃B0,getS st.m aL=some (some B0))/\getS st.rm aL=none/\B.gC=false
 | .ff _ _ ns=>∀a,a∈ns->(∃B0,getS st.m a=some (some B0))/\getS st.rm a=none
 | .new _ _ B=>B.gC=false
 | .dZ _ _ id t _ A=>getS st.m 0=some (some (.ar t A))/\getS st.rm 0=none/\dp A id
 | .val _ _=>True
def SR.up (N:aw) (st:SS τ dn) (k:Nat):SR τ dn->aw
 | .new _ _ B| .mov _ _ _ B=>N.cS st.nx k B.len
 |_=>N
def SR.k1 (k:Nat):SR τ dn->Nat
 | .new _ _ _| .mov _ _ _ _=>k+1
 |_=>k
theorem oX:∀(l:List Nat) (g:Nat->Option Bk) (id:Nat),au g (l.map fun i=>(i,none)) id=if id∈l then none else g id
 |[],g,id=>by simp [au]
 |a::r,g,id=>by
  rw [Lf,au,oX r]
  by_cases h1:id∈r<;>by_cases h2:id=a<;>simp [h1,h2]
theorem o0 {α:Type} {m:List (Nat×Option α)}:∀{ns:List Nat} {i:Nat} {B:Option α},getS ((ns.map fun a=>(a,none))++m) i=some B->(i∈ns/\B=none)\/(¬i∈ns/\getS m i=some B)
 |[],i,B,h=> .inr ⟨by simp,h⟩
 |a::r,i,B,h=>by
  rw [Lf,Mj,aV] at h
  by_cases hi:i=a
  ·rw [K1 hi,KZ] at h;exact .inl ⟨by simp [hi],h.symm⟩
  ·rw [K0 hi] at h
   rcases o0 h with ⟨h1,h2⟩|⟨h1,h2⟩
   ·exact .inl ⟨by simp [h1],h2⟩
   ·exact .inr ⟨by simp [hi,h1],h2⟩
theorem yT {rt rt' t t':List (Nat×SV τ dn)} {rm m:List (Nat×Option (SB τ dn))} {nx nx' dH:Nat} {x:Option (SB τ dn)} (nm:Nat):(⟨rt,rm,t,(dH,x)::m,nx⟩:SS τ dn).gm nm=if nm=dH then x else (⟨rt',rm,t',m,nx'⟩:SS τ dn).gm nm:=by
 unfold SS.gm
 simp only [aV]
 by_cases h:nm=dH
 ·rw [K1 h,K1 h]
 ·rw [K0 h,K0 h]
theorem kR {st:SS τ dn} {x:Option (SB τ dn)} (h:getS st.m nm=some x):st.gm nm=x:=by unfold SS.gm;rw [h]
theorem Rel.go {st:SS τ dn} {s:S3} (R:Rel D N st s) (hd:dstS n st.rt d=true) {r:SR τ dn} (hm:r.may D N st) {val:AV} (hv:∀N',(r.up N st s.k).aZ (r.st st d).nx N'->val=r.v.av D.toTE N') {ups:List (Nat×Option Bk)} (hu:∀N',(r.up N st s.k).aZ (r.st st d).nx N'->ups=r.ups D N' s.k):
  Rel D (r.up N st s.k) (r.st st d) ⟨bw n d val s.σ,au s.g ups,r.k1 s.k⟩:=by
 have yU:∀(N':aw) (nm:Nat) (B:SB τ dn) (id:Nat) (x:Option Bk),getS st.rm nm=some (some B)->aW D N' st s.σ s.g->¬N'.ι nm=id->(if N'.ι nm=id then x else s.g (N'.ι nm))=some (B.av D.toTE N')/\N'.ln nm=B.len:=fun N' nm B id x h A aC=>by rw [K0 aC];exact A.rb nm B h
 cases r with
 |val O v=>
  refine ⟨fun N' hN=> ?_,R.inj,R.lt,R.ml,R.rl,R.sp⟩
  have A:=R.at_ N' hN
  obtain ⟨q1,q2⟩:=kQ (D:=D) (n:=n) (v:=v) (a:=val) hd A.sl A.rs (hv N' hN)
  have e:=hu N' hN
  simp only [SR.ups] at e
  subst e
  exact ⟨q1,q2,A.bl,A.rb,A.ar⟩
 |new O v B=>
  have dF:∀N',(N.cS st.nx s.k B.len).aZ (st.nx+1) N'->N.aZ st.nx N'/\N'.ι st.nx=s.k/\N'.ln st.nx=B.len:=fun N' hN=>by
   refine ⟨aw.ep (N.jS st.nx s.k B.len) hN (by omega), ?_, ?_⟩
   ·rw [(hN.1 st.nx (by omega)).1];exact K1 rfl
   ·rw [(hN.1 st.nx (by omega)).2];exact K1 rfl
  have iy:∀t A,(SR.st st d (SR.new O v B:SR τ dn)).bm 0 (.ar t A)->st.bm 0 (.ar t A):=fun t A h=>by
   rcases h with h|h
   ·simp only [SR.st,aV] at h
    by_cases h0:0=st.nx
    ·rw [K1 h0,KZ,KZ] at h
     have dc:B.gC=false:=hm
     subst h;simp [SB.gC] at dc
    ·rw [K0 h0] at h;exact .inl h
   ·exact .inr h
  refine ⟨fun N' hN=> ?_,fun a b ha hb he=> ?_,fun a ha=> ?_,fun nm B' h=> ?_,fun nm B' h=>MH (R.rl nm B' h),fun t A h id hid=> ?_⟩
  ·obtain ⟨h1,h2,h3⟩:=dF N' hN
   have A:=R.at_ N' h1
   obtain ⟨q1,q2⟩:=kQ (D:=D) (n:=n) (v:=v) (a:=val) hd A.sl A.rs (hv N' hN)
   have e:=hu N' hN
   simp only [SR.ups] at e
   subst e
   have aC:∀nm,nm<st.nx->¬N'.ι nm=s.k:=fun nm eV he=>by
    rw [(h1.1 nm eV).1] at he;have:=R.lt nm eV;omega
   refine ⟨q1,q2,fun nm B' h=> ?_,fun nm B' h=> ?_,fun t A' h id hid=> ?_⟩
   ·simp only [SR.st,aV] at h
    simp only [au]
    by_cases hn:nm=st.nx
    ·subst hn
     rw [K1 rfl,KZ,KZ] at h
     subst h
     rw [K1 h2];exact ⟨rfl,h3⟩
    ·rw [K0 hn] at h
     rw [K0 (aC nm (R.ml nm _ h))];exact A.bl nm B' h
   ·simp only [au];exact yU N' nm B' _ _ h A (aC nm (R.rl nm _ h))
   ·have h':=iy t A' h
    simp only [au]
    rw [K0 (fun e=>by have:=(R.sp t A' h' id hid).1;omega)]
    exact A.ar t A' h' id hid
  ·simp only [SR.st] at ha hb
   simp only [SR.up,aw.cS] at he
   by_cases h1:a=st.nx<;>by_cases h2:b=st.nx
   ·rw [h1,h2]
   ·rw [K1 h1,K0 h2] at he;have:=R.lt b (by omega);omega
   ·rw [K0 h1,K1 h2] at he;have:=R.lt a (by omega);omega
   ·rw [K0 h1,K0 h2] at he;exact R.inj a b (by omega) (by omega) he
  ·simp only [SR.st] at ha
   simp only [SR.up,aw.cS,SR.k1]
   by_cases h1:a=st.nx
   ·rw [K1 h1];omega
   ·rw [K0 h1];have:=R.lt a (by omega);omega
  ·simp only [SR.st,aV] at h ⊢
   by_cases hn:nm=st.nx
   ·omega
   ·rw [K0 hn] at h;have:=R.ml nm _ h;omega
  ·have h':=iy t A h
   obtain ⟨h1,h2⟩:=R.sp t A h' id hid
   refine ⟨MH h1,fun nm B' aR=> ?_⟩
   simp only [SR.up,aw.cS]
   by_cases hn:nm=st.nx
   ·rw [K1 hn];omega
   ·rw [K0 hn]
    simp only [SS.bm,SR.st,aV] at aR
    rw [K0 hn] at aR
    exact h2 nm B' aR
 |put O v dH B=>
  obtain ⟨⟨B0,bY,bh⟩,mP,uB⟩:=hm
  have h0:=R.ml dH _ bY
  have iy:∀t A,(SR.st st d (SR.put O v dH B:SR τ dn)).bm 0 (.ar t A)->st.bm 0 (.ar t A):=fun t A h=>by
   rcases h with h|h
   ·simp only [SR.st,aV] at h
    by_cases h1:0=dH
    ·rw [K1 h1,KZ,KZ] at h
     subst h;simp [SB.gC] at uB
    ·rw [K0 h1] at h;exact .inl h
   ·exact .inr h
  refine ⟨fun N' hN=> ?_,R.inj,R.lt,fun nm B' h=> ?_,R.rl,fun t A h id hid=> ?_⟩
  ·have A:=R.at_ N' hN
   obtain ⟨q1,q2⟩:=kQ (D:=D) (n:=n) (v:=v) (a:=val) hd A.sl A.rs (hv N' hN)
   have e:=hu N' hN
   simp only [SR.ups] at e
   subst e
   have aC:∀nm,nm<st.nx->¬nm=dH->¬N'.ι nm=N'.ι dH:=fun nm eV hx he=>by
    rw [(hN.1 nm eV).1,(hN.1 dH h0).1] at he;exact hx (R.inj _ _ eV h0 he)
   refine ⟨q1,q2,fun nm B' h=> ?_,fun nm B' h=> ?_,fun t A' h id hid=> ?_⟩
   ·simp only [SR.st,aV] at h
    simp only [au]
    by_cases hn:nm=dH
    ·subst hn
     rw [K1 rfl,KZ,KZ] at h
     subst h
     rw [K1 rfl];exact ⟨rfl,by rw [(hN.1 nm h0).2];exact bh⟩
    ·rw [K0 hn] at h
     rw [K0 (aC nm (R.ml nm _ h) hn)];exact A.bl nm B' h
   ·simp only [au]
    have h':getS st.rm nm=some (some B'):=h
    by_cases hn:nm=dH
    ·subst hn;rw [mP] at h';simp at h'
    ·exact yU N' nm B' _ _ h' A (aC nm (R.rl nm _ h') hn)
   ·have h':=iy t A' h
    simp only [au]
    rw [K0 (fun e=>(R.sp t A' h' id hid).2 dH B0 (.inl bY) (((hN.1 dH h0).1).symm.trans e.symm))]
    exact A.ar t A' h' id hid
  ·simp only [SR.st,aV] at h ⊢
   by_cases hn:nm=dH
   ·subst hn;exact h0
   ·rw [K0 hn] at h;exact R.ml nm _ h
  ·obtain ⟨h1,h2⟩:=R.sp t A (iy t A h) id hid
   refine ⟨h1,fun nm B' aR=> ?_⟩
   simp only [SS.bm,SR.st,aV] at aR
   by_cases hn:nm=dH
   ·subst hn;exact h2 nm B0 (.inl bY)
   ·rw [K0 hn] at aR;exact h2 nm B' aR
 |ff O v ns=>
  have hal:∀nm B',(SR.st st d (SR.ff O v ns:SR τ dn)).bm nm B'->st.bm nm B':=fun nm B' h=>by
   rcases h with h|h
   ·rcases o0 h with ⟨_,h2⟩|⟨_,h2⟩
    ·simp at h2
    ·exact .inl h2
   ·exact .inr h
  have iy:∀t A,(SR.st st d (SR.ff O v ns:SR τ dn)).bm 0 (.ar t A)->st.bm 0 (.ar t A):=fun t A h=>hal 0 _ h
  refine ⟨fun N' hN=> ?_,R.inj,R.lt,fun nm B' h=> ?_,R.rl,fun t A h id hid=> ?_⟩
  ·have A:=R.at_ N' hN
   obtain ⟨q1,q2⟩:=kQ (D:=D) (n:=n) (v:=v) (a:=val) hd A.sl A.rs (hv N' hN)
   have e:=hu N' hN
   simp only [SR.ups] at e
   subst e
   have aC:∀nm,nm<st.nx->¬nm∈ns->¬N'.ι nm∈ns.map N'.ι:=fun nm eV hx he=>by
    obtain ⟨a,ha,e⟩:=Lz.1 he
    obtain ⟨⟨B0,bY⟩,_⟩:=hm a ha
    have h0:=R.ml a _ bY
    rw [(hN.1 nm eV).1,(hN.1 a h0).1] at e
    have:=R.inj _ _ h0 eV e
    subst this;exact hx ha
   refine ⟨q1,q2,fun nm B' h=> ?_,fun nm B' h=> ?_,fun t A' h id hid=> ?_⟩
   ·rcases o0 h with ⟨_,h2⟩|⟨h1,h2⟩
    ·simp at h2
    ·show au s.g _ _=_/\_
     rw [oX,K0 (aC nm (R.ml nm _ h2) h1)];exact A.bl nm B' h2
   ·have h':getS st.rm nm=some (some B'):=h
    have hx:¬nm∈ns:=fun hh=>by have:=(hm nm hh).2;rw [this] at h';simp at h'
    show au s.g _ _=_/\_
    rw [oX,K0 (aC nm (R.rl nm _ h') hx)];exact A.rb nm B' h'
   ·have h':=iy t A' h
    show au s.g _ _=_
    rw [oX,K0]
    ·exact A.ar t A' h' id hid
    ·intro fW
     obtain ⟨a,ha,e⟩:=Lz.1 fW
     obtain ⟨⟨B0,bY⟩,_⟩:=hm a ha
     exact (R.sp t A' h' id hid).2 a B0 (.inl bY) (((hN.1 a (R.ml a _ bY)).1).symm.trans e)
  ·rcases o0 h with ⟨h1,h2⟩|⟨h1,h2⟩
   ·obtain ⟨⟨B0,bY⟩,_⟩:=hm nm h1
    exact R.ml nm _ bY
   ·exact R.ml nm _ h2
  ·obtain ⟨h1,h2⟩:=R.sp t A (iy t A h) id hid
   exact ⟨h1,fun nm B' aR=>h2 nm B' (hal nm B' aR)⟩
 |mov O v aL B=>
  obtain ⟨⟨B0,bY⟩,mP,uB⟩:=hm
  have h0:=R.ml aL _ bY
  have dF:∀N',(N.cS st.nx s.k B.len).aZ (st.nx+1) N'->N.aZ st.nx N'/\N'.ι st.nx=s.k/\N'.ln st.nx=B.len:=fun N' hN=>by
   refine ⟨aw.ep (N.jS st.nx s.k B.len) hN (by omega), ?_, ?_⟩
   ·rw [(hN.1 st.nx (by omega)).1];exact K1 rfl
   ·rw [(hN.1 st.nx (by omega)).2];exact K1 rfl
  have iy:∀t A,(SR.st st d (SR.mov O v aL B:SR τ dn)).bm 0 (.ar t A)->st.bm 0 (.ar t A):=fun t A h=>by
   rcases h with h|h
   ·simp only [SR.st,aV] at h
    by_cases h1:0=st.nx
    ·rw [K1 h1,KZ,KZ] at h
     subst h;simp [SB.gC] at uB
    ·rw [K0 h1] at h
     by_cases h2:0=aL
     ·rw [K1 h2] at h;simp at h
     ·rw [K0 h2] at h;exact .inl h
   ·exact .inr h
  refine ⟨fun N' hN=> ?_,fun a b ha hb he=> ?_,fun a ha=> ?_,fun nm B' h=> ?_,fun nm B' h=>MH (R.rl nm B' h),fun t A h id hid=> ?_⟩
  ·obtain ⟨h1,h2,h3⟩:=dF N' hN
   have A:=R.at_ N' h1
   obtain ⟨q1,q2⟩:=kQ (D:=D) (n:=n) (v:=v) (a:=val) hd A.sl A.rs (hv N' hN)
   have e:=hu N' hN
   simp only [SR.ups] at e
   subst e
   have aC:∀nm,nm<st.nx->¬N'.ι nm=s.k:=fun nm eV he=>by
    rw [(h1.1 nm eV).1] at he;have:=R.lt nm eV;omega
   have yV:∀nm,nm<st.nx->¬nm=aL->¬N'.ι nm=N'.ι aL:=fun nm eV hx he=>by
    rw [(h1.1 nm eV).1,(h1.1 aL h0).1] at he;exact hx (R.inj _ _ eV h0 he)
   refine ⟨q1,q2,fun nm B' h=> ?_,fun nm B' h=> ?_,fun t A' h id hid=> ?_⟩
   ·simp only [SR.st,aV] at h
    simp only [au]
    by_cases hn:nm=st.nx
    ·subst hn
     rw [K1 rfl,KZ,KZ] at h
     subst h
     rw [K1 h2];exact ⟨rfl,h3⟩
    ·rw [K0 hn] at h
     by_cases ho:nm=aL
     ·rw [K1 ho] at h;simp at h
     ·rw [K0 ho] at h
      rw [K0 (aC nm (R.ml nm _ h)),K0 (yV nm (R.ml nm _ h) ho)];exact A.bl nm B' h
   ·simp only [au]
    have h':getS st.rm nm=some (some B'):=h
    by_cases ho:nm=aL
    ·subst ho;rw [mP] at h';simp at h'
    ·rw [K0 (aC nm (R.rl nm _ h')),K0 (yV nm (R.rl nm _ h') ho)];exact A.rb nm B' h'
   ·have h':=iy t A' h
    simp only [au]
    rw [K0 (fun e=>by have:=(R.sp t A' h' id hid).1;omega),K0 (fun e=>(R.sp t A' h' id hid).2 aL B0 (.inl bY) (by rw [<-(h1.1 aL h0).1];exact e.symm))]
    exact A.ar t A' h' id hid
  ·simp only [SR.st] at ha hb
   simp only [SR.up,aw.cS] at he
   by_cases h1:a=st.nx<;>by_cases h2:b=st.nx
   ·rw [h1,h2]
   ·rw [K1 h1,K0 h2] at he;have:=R.lt b (by omega);omega
   ·rw [K0 h1,K1 h2] at he;have:=R.lt a (by omega);omega
   ·rw [K0 h1,K0 h2] at he;exact R.inj a b (by omega) (by omega) he
  ·simp only [SR.st] at ha
   simp only [SR.up,aw.cS,SR.k1]
   by_cases h1:a=st.nx
   ·rw [K1 h1];omega
   ·rw [K0 h1];have:=R.lt a (by omega);omega
  ·simp only [SR.st,aV] at h ⊢
   by_cases hn:nm=st.nx
   ·omega
   ·rw [K0 hn] at h
    by_cases ho:nm=aL
    ·omega
    ·rw [K0 ho] at h;have:=R.ml nm _ h;omega
  ·obtain ⟨h1,h2⟩:=R.sp t A (iy t A h) id hid
   refine ⟨MH h1,fun nm B' aR=> ?_⟩
   simp only [SR.up,aw.cS]
   by_cases hn:nm=st.nx
   ·rw [K1 hn];omega
   ·rw [K0 hn]
    simp only [SS.bm,SR.st,aV] at aR
    rw [K0 hn] at aR
    by_cases ho:nm=aL
    ·subst ho;exact h2 nm B0 (.inl bY)
    ·rw [K0 ho] at aR;exact h2 nm B' aR
 |dZ O v jT t0 row A0=>
  obtain ⟨hg0,mP,yW⟩:=hm
  have ic:=kR hg0
  have yX:=R.ml 0 _ hg0
  have uC:st.bm 0 (.ar t0 A0):= .inl hg0
  obtain ⟨hk0,G6⟩:=R.sp t0 A0 uC jT yW
  have yY:∀t A,(SR.st st d (SR.dZ O v jT t0 row A0:SR τ dn)).bm 0 (.ar t A)->(SB.ar t A:SB τ dn)= .ar t0 ((jT,row)::A0):=fun t A h=>by
   rcases h with h|h
   ·simp only [SR.st,aV,K3,KZ] at h;exact h.symm
   ·have h':getS st.rm 0=some (some (.ar t A)):=h
    rw [mP] at h';simp at h'
  have aC:∀(N':aw),N.aZ st.nx N'->∀nm B',st.bm nm B'->nm<st.nx->¬N'.ι nm=jT:=fun N' hN nm B' aR hlt e=>G6 nm B' aR (by rw [<-(hN.1 nm hlt).1];exact e)
  refine ⟨fun N' hN=> ?_,R.inj,R.lt,fun nm B' h=> ?_,R.rl,fun t A h id hid=> ?_⟩
  ·have A:=R.at_ N' hN
   obtain ⟨q1,q2⟩:=kQ (D:=D) (n:=n) (v:=v) (a:=val) hd A.sl A.rs (hv N' hN)
   have e:=hu N' hN
   simp only [SR.ups] at e
   subst e
   refine ⟨q1,q2,fun nm B' h=> ?_,fun nm B' h=> ?_,fun t A' h id hid=> ?_⟩
   ·simp only [SR.st,aV] at h
    simp only [au]
    by_cases hn:nm=0
    ·subst hn
     rw [K1 rfl,KZ,KZ] at h
     subst h
     rw [K0 (aC N' hN 0 _ (.inl hg0) yX)]
     have q:=A.bl 0 _ hg0
     exact ⟨q.1,q.2⟩
    ·rw [K0 hn] at h
     rw [K0 (aC N' hN nm _ (.inl h) (R.ml nm _ h))];exact A.bl nm B' h
   ·simp only [au]
    have h':getS st.rm nm=some (some B'):=h
    rw [K0 (aC N' hN nm _ (.inr h') (R.rl nm _ h'))];exact A.rb nm B' h'
   ·have h:=yY t A' h
    simp only [SB.ar.injEq] at h
    obtain ⟨rfl,h⟩:=h
    have h:=eq_of_heq h
    subst h
    simp only [au]
    rw [yC]
    by_cases hi:id=jT
    ·rw [K1 hi,K1 hi]
    ·rw [K0 hi,K0 hi]
     rcases ox.1 hid with hh|hh
     ·exact absurd hh hi
     ·exact A.ar _ A0 uC id hh
  ·simp only [SR.st,aV] at h ⊢
   by_cases hn:nm=0
   ·subst hn;exact yX
   ·rw [K0 hn] at h;exact R.ml nm _ h
  ·have h:=yY t A h
   simp only [SB.ar.injEq] at h
   obtain ⟨rfl,h⟩:=h
   have h:=eq_of_heq h
   subst h
   have hH:dp A0 id:=by
    rcases ox.1 hid with hh|hh
    ·subst hh;exact yW
    ·exact hh
   obtain ⟨h1,h2⟩:=R.sp _ A0 uC id hH
   refine ⟨h1,fun nm B' aR=> ?_⟩
   simp only [SS.bm,SR.st,aV] at aR
   by_cases hn:nm=0
   ·subst hn;exact h2 0 _ (.inl hg0)
   ·rw [K0 hn] at aR;exact h2 nm B' aR
def SR.fh:SR τ dn->Bool
 | .val _ _=>true
 | .new _ _ B=> !B.gC
 |_=>false
theorem qY {st:SS τ dn} {r:SR τ dn} (h:r.fh=true):r.may D N st:=by cases r<;>first|trivial|(simp [SR.fh] at h;done)|(simpa [SR.fh,SR.may] using h)
theorem G7 {x y:Int} {r:SR τ dn} (h:oE neg op x y=some r):r.fh=true:=by
 unfold oE at h
 cases neg<;>simp only [K5,Ln] at h
 repeat' split at h
 all_goals first|(simp at h;done)|(simp only [KZ] at h;subst h;rfl)|(simp only [K7] at h;obtain ⟨_,_,rfl⟩:=h;rfl)
theorem G8 {x y:ByteArray} {r:SR τ dn} (h:oZ op x y=some r):r.fh=true:=by
 unfold oZ at h
 repeat' split at h
 all_goals first|(simp at h;done)|(simp only [KZ] at h;subst h;rfl)|(simp only [K7] at h;obtain ⟨_,_,rfl⟩:=h;rfl)
theorem G9 {op:UnOp} {a:SV τ dn} {r:SR τ dn} (h:oH op a=some r):r.fh=true:=by
 unfold oH at h
 repeat' split at h
 all_goals first|(simp at h;done)|(simp only [KZ] at h;subst h;rfl)|(simp only [K7] at h;obtain ⟨_,_,rfl⟩:=h;rfl)
theorem Ha {a:SV τ dn} {r:SR τ dn} (h:oI k a=some r):r.fh=true:=by
 unfold oI at h
 repeat' split at h
 all_goals first|(simp at h;done)|(simp only [KZ] at h;subst h;rfl)|(simp only [K7] at h;obtain ⟨_,_,rfl⟩:=h;rfl)
theorem Hb {st:SS τ dn} {v:SV τ dn} {r:SR τ dn} (h:lU D st m v=some r):r.fh=true:=by
 unfold lU at h
 repeat' split at h
 all_goals first|(simp at h;done)|(simp only [KZ] at h;subst h;rfl)|(simp only [K7] at h;obtain ⟨_,_,rfl⟩:=h;rfl)
theorem Hc {st:SS τ dn} {sz:Nat} {v:SV τ dn} {n:Int} {r:SR τ dn} (h:oL D st sz v n l=some r):r.fh=true:=by
 unfold oL at h
 cases l<;>simp only [K5,Ln] at h
 repeat' split at h
 all_goals first|(simp at h;done)|(simp only [KZ] at h;subst h;rfl)|(simp only [K7] at h;obtain ⟨_,_,rfl⟩:=h;rfl)
theorem Hd {st:SS τ dn} {v:SV τ dn} {r:SR τ dn} (h:oM st b v=some r):r.fh=true:=by
 unfold oM at h
 repeat' split at h
 all_goals first|(simp at h;done)|(simp only [KZ] at h;subst h;rfl)|(simp only [K7] at h;obtain ⟨_,_,rfl⟩:=h;rfl)
theorem He {st:SS τ dn} {v:SV τ dn} {r:SR τ dn} (h:oN st kd neg v=some r):r.fh=true:=by
 unfold oN at h
 repeat' split at h
 all_goals first|(simp at h;done)|(simp only [KZ] at h;subst h;rfl)|(simp only [K7] at h;obtain ⟨_,_,rfl⟩:=h;rfl)
theorem yZ {st:SS τ dn} {sz:Nat} {v:SV τ dn} {r:SR τ dn} (h:oO D st sz v lo hi=some r):r.fh=true:=by
 unfold oO at h
 repeat' split at h
 all_goals first|(simp at h;done)|(simp only [KZ] at h;subst h;rfl)|(simp only [K7] at h;obtain ⟨_,_,rfl⟩:=h;rfl)
theorem Hf {st:SS τ dn} {v:SV τ dn} {r:SR τ dn} (h:oQ D st v=some r):r.fh=true:=by
 unfold oQ at h
 repeat' split at h
 all_goals first|(simp at h;done)|(simp only [KZ] at h;subst h;rfl)
theorem Hg {st:SS τ dn} {r:SR τ dn} (h:oR D st s=some r):r.fh=true:=by
 unfold oR at h
 repeat' split at h
 all_goals first|(simp at h;done)|(simp only [KZ] at h;subst h;rfl)
theorem Hh {st:SS τ dn} {sz by_:Nat} {zs:List AV} {l:Int} {r:SR τ dn} (h:oS D st sz by_ zs l c=some r):r.fh=true:=by
 unfold oS at h
 repeat' split at h
 all_goals first|(simp at h;done)|(simp only [KZ] at h;subst h;rfl)|(simp only [K7] at h;obtain ⟨_,_,rfl⟩:=h;rfl)
theorem Hi {bt:Bool} {a b:SV τ dn} {r:SR τ dn} (h:oG neg bt op a b=some r):r.fh=true:=by
 unfold oG at h
 repeat' split at h
 all_goals first|exact G7 h|exact G8 h|first|(simp at h;done)|(simp only [KZ] at h;subst h;rfl)|(simp only [K7] at h;obtain ⟨_,_,rfl⟩:=h;rfl)
theorem iz {st:SS τ dn} (h:st.rw nm=true):(∃B0,getS st.m nm=some (some B0))/\getS st.rm nm=none:=by
 unfold SS.rw at h
 rw [K2] at h
 refine ⟨?_,by simpa using h.2⟩
 have h1:=h.1
 split at h1
 ·rename_i B hB;exact ⟨B,hB⟩
 ·simp at h1
theorem Hj (sz:Nat) (c:Ct τ dn):(c.ja sz).gC=false:=by cases c<;>rfl
theorem Hk [DecidableEq τ] {sz:Nat} {B B':SB τ dn} {c:Ct τ dn} (h:lT D sz B c=some B'):B'.gC=false:=by
 unfold lT at h
 repeat' split at h
 all_goals first|(simp at h;done)|(simp only [KZ] at h;subst h;rfl)|(simp only [K7] at h;obtain ⟨_,_,rfl⟩:=h;rfl)
theorem Hl [DecidableEq τ] {st:SS τ dn} (R:aW D N st σ g):∀{ao:AO} {r:SR τ dn},sx D st ao=some r->r.may D N st:=by
 intro ao r h
 have val:∀{O:List Prop} {v:SV τ dn},(SR.val O v).may D N st:=trivial
 have dV:∀{O:List Prop} {v:SV τ dn} {nm:Nat} {B0 B:SB τ dn},st.rw nm=true->st.gm nm=some B0->B.len=B0.len->(hb:B.gC=false:=by rfl)->(SR.put O v nm B).may D N st:=fun h1 h2 h3 hb=>by
  obtain ⟨⟨B1,h4⟩,h5⟩:=iz h1
  exact ⟨⟨B1,h4,by rw [h3];exact (R.gm h2).2⟩,h5,hb⟩
 cases ao<;>simp only [sx] at h
 case store n x y=>
  split at h
  ·unfold qK at h
   split at h
   ·split at h
    ·split at h
     ·rename_i hc
      split at h
      ·rename_i hB
       split at h
       ·split at h
        ·simp only [KZ] at h;subst h;exact dV hc.2 hB (by simp [SB.len])
        ·simp at h
       ·simp at h
      ·rename_i hB
       split at h
       ·split at h
        ·simp only [KZ] at h;subst h;exact dV hc.2 hB (by simp [SB.len])
        ·simp at h
       ·simp at h
      ·simp at h
     ·simp at h
    ·simp at h
   ·simp at h
  ·simp at h
 case app sz by_ x y=>
  split at h
  ·unfold qL at h
   split at h
   ·split at h
    ·simp only [KZ] at h;subst h;exact Hj _ _
    ·split at h
     ·rename_i hc
      split at h
      ·split at h
       ·simp only [K7] at h;obtain ⟨B',aR,rfl⟩:=h;exact ⟨(iz hc.2).1,(iz hc.2).2,Hk aR⟩
       ·simp at h
      ·simp at h
     ·simp at h
    ·simp at h
   ·simp at h
  ·simp at h
 case cpy sz x y=>
  split at h
  ·unfold qM at h
   split at h
   ·split at h
    ·rename_i hc
     split at h
     ·rename_i hB
      split at h
      ·rename_i he
       subst he
       split at h
       ·simp only [KZ] at h;subst h
        exact dV hc.2 hB (by simp only [SB.len,Ms,Mm,List.length_drop];omega)
       ·simp at h
      ·simp at h
     ·simp at h
    ·simp at h
   ·simp at h
  ·simp at h
 case mup kd x k y=>
  split at h
  ·unfold qO at h
   split at h
   case h_2=>simp at h
   rename_i nm key iO _
   split at h
   case h_2=>simp at h
   rename_i els hB
   cases hb:(st.rw nm&&plainV key) with
   |false=>rw [hb] at h;simp at h
   |true=>
    rw [hb,K5] at h
    rw [K2] at hb
    split at h
    case h_2=>simp at h
    simp only [KZ] at h;subst h
    exact dV hb.1 hB rfl
  ·simp at h
 case mlk kd z x k=>
  split at h
  ·unfold qP at h
   refine qY ?_
   repeat' split at h
   all_goals first|(simp at h;done)|(simp only [KZ] at h;subst h;rfl)|(simp only [K7] at h;obtain ⟨_,_,rfl⟩:=h;rfl)
  ·simp at h
 case slc sz x lo hi mx=>
  refine qY ?_
  cases mx with
  |some m=>simp at h
  |none=>
   simp only at h
   split at h
   ·exact yZ h
   ·simp at h
 all_goals refine qY ?_
 all_goals try (simp only [My] at h;obtain ⟨_,_,h⟩:=h)
 all_goals repeat' split at h
 all_goals first|exact Hi h|exact G9 h|exact Ha h|exact Hb h|exact Hc h|exact Hd h|exact He h|exact yZ h|exact Hh h|exact Hf h|exact Hg h|(simp at h;done)|(simp only [KZ] at h;subst h;rfl)|(simp only [K7] at h;obtain ⟨_,_,rfl⟩:=h;rfl)|(subst h;rfl)
end
open Go.RowKit
def eW:List Prop->Prop->Prop
 |[],K=>K
 |p::r,K=>p/\eW r K
theorem iA {K:Prop}:∀{O:List Prop},eW O K↔(∀p,p∈O->p)/\K
 |[]=>by simp [eW]
 |p::r=>by simp only [eW,iA (O:=r),Lc,Mx,and_assoc]
def Cn.pol (c:Cn):Bool->Cn
 |true=>c
 |false=> .not c
theorem Cn.y9 (c:Cn) (p:Bool):(c.pol p).den=(c.den==p):=by cases p<;>cases h:c.den<;>simp [pol,den,h]
section
variable {τ:Type} {dn:τ->Type} {D:TD τ dn} {N:aw} {st:SS τ dn} {σ:Nat->AV} {g:Nat->Option Bk}
inductive Gd where
 |yes
 |no
 |jU (e:Cn)
 |bad
def SS.gd (st:SS τ dn):Option (Nat×Bool)->Gd
 |none=> .yes
 |some (i,w)=>match st.gt i with
  |some (.vt b)=>bif b==w then .yes else .no
  |some (.vo (.tuple _))=> .no
  |some (.vb c)=> .jU (c.pol w)
  |some (.vg p c (.vb c2))=> .jU (.and (c.pol p) (c2.pol w))
  |some (.vg p c (.vt b))=>bif b==w then .jU (c.pol p) else .no
  |_=> .bad
theorem Hm (R:aW D N st σ g) {x:Option (Nat×Bool)}:(st.gd x= .yes->bL σ x=some true)/\(st.gd x= .no->bL σ x=some false)/\(∀e,st.gd x= .jU e->bL σ x=some e.den):=by
 cases x with
 |none=>exact ⟨fun _=>rfl,fun h=>by simp [SS.gd] at h,fun e h=>by simp [SS.gd] at h⟩
 |some x=>
  obtain ⟨i,w⟩:=x
  simp only [SS.gd]
  split
  ·rename_i b h
   have e:=R.gt h
   simp only [SV.av] at e
   simp only [bL,e]
   cases b<;>cases w<;>simp
  ·rename_i vs h
   have e:=R.gt h
   simp only [SV.av] at e
   simp [bL,e]
  ·rename_i c h
   have e:=R.gt h
   simp only [SV.av] at e
   simp [bL,e,Cn.y9]
  ·rename_i p c c2 h
   have e:=R.gt h
   simp only [SV.av] at e
   refine ⟨by simp,by simp,fun e' he=> ?_⟩
   simp only [Gd.jU.injEq] at he;subst he
   simp only [bL,e,Cn.den,Cn.y9]
   cases c.den<;>cases p<;>simp [undef]
  ·rename_i p c b h
   have e:=R.gt h
   simp only [SV.av] at e
   simp only [bL,e]
   cases hc:c.den<;>cases p<;>cases b<;>cases w<;>simp [undef,Cn.pol,Cn.den,hc]
  ·exact ⟨by simp,by simp,by simp⟩
def o6 (st:SS τ dn):List Nat->List (Nat×SV τ dn)
 |[]=>st.t
 |i::r=>match st.gt i with
  |some (.vg _ _ v)=>(i,v)::o6 st r
  |_=>o6 st r
def SS.unw (st:SS τ dn) (ss:List Nat):SS τ dn:=⟨st.rt,st.rm,o6 st ss,st.m,st.nx⟩
def gX (st:SS τ dn) (e:Cn):List Nat->List Prop
 |[]=>[]
 |i::r=>match st.gt i with
  |some (.vg p c _)=>(e.tf true->c.tf p)::gX st e r
  |_=>gX st e r
theorem za (R:aW D N st σ g) {e:Cn} (he:e.den=true) {ss:List Nat} (h:∀p,p∈gX st e ss->p):aW D N (st.unw ss) σ g:=by
 refine ⟨?_,R.rs,R.bl,R.rb,R.ar⟩
 show ∀i v,getS (o6 st ss) i=some v->σ i=v.av D.toTE N
 have et:=(Cn.gW e true).2 he
 induction ss with
 |nil=>exact R.sl
 |cons j r ih=>
  simp only [o6]
  simp only [gX] at h
  split
  ·rename_i p c v hj
   rw [hj] at h
   simp only [Lc,Mx] at h
   intro i w hw
   rw [aV] at hw
   by_cases hi:i=j
   ·rw [K1 hi,KZ] at hw
    subst hw;subst hi
    rw [R.gt hj,SV.av,K1 ((Cn.gW c p).1 (h.1 et))]
   ·rw [K0 hi] at hw;exact ih h.2 i w hw
  ·rename_i hj
   have:gX st e (j::r)=gX st e r:=by
    simp only [gX]
   refine ih ?_
   intro p hp
   refine h p ?_
   split
   ·rename_i q c v hq;exact absurd hq (hj _ _ _)
   ·exact hp
def lX (c:Cn) (b:Bool):SV τ dn->List Prop×SV τ dn
 | .vg p c' v=>([c.tf b->c'.tf p],v)
 |v=>([],v)
theorem zb {c:Cn} {v:SV τ dn} (hc:c.den=b) (h:∀p,p∈(lX c b v).1->p):v.av D.toTE N=(lX c b v).2.av D.toTE N:=by
 unfold lX at h ⊢
 split
 ·rename_i p c' v
  simp only [K9,Ll] at h
  rw [SV.av,K1 ((Cn.gW c' p).1 (h ((Cn.gW c b).2 hc)))]
 ·rfl
def o7 (c:Cn):SV τ dn->SV τ dn->Option (SV τ dn)
 | .vt true, .vt true=>some (.vt true)
 | .vt false, .vt false=>some (.vt false)
 | .vt true, .vt false=>some (.vb c)
 | .vt false, .vt true=>some (.vb (.not c))
 | .vb x, .vt false=>some (.vb (.and c x))
 | .vb x, .vt true=>some (.vb (.or (.not c) x))
 | .vt true, .vb y=>some (.vb (.or c y))
 | .vt false, .vb y=>some (.vb (.and (.not c) y))
 | .vb x, .vb y=>some (.vb (.or (.and c x) (.and (.not c) y)))
 |_,_=>none
theorem uD {c:Cn} {a b v:SV τ dn} (h:o7 c a b=some v):v.av D.toTE N=if c.den=true then a.av D.toTE N else b.av D.toTE N:=by
 unfold o7 at h
 split at h<;>simp only [KZ,reduceCtorEq] at h<;>subst h<;>cases hc:c.den<;>simp [SV.av,Cn.den,hc]
def uE (st:SS τ dn) (c a b:Arg):Option (SR τ dn):=
 match st.ev c with
 |some (.vt true)=>(st.ev a).map (.val [])
 |some (.vt false)=>(st.ev b).map (.val [])
 |some (.vb cc)=>match st.ev a,st.ev b with
  |some va,some vb=>(o7 cc (lX cc true va).2 (lX cc false vb).2).map (.val ((lX cc true va).1++(lX cc false vb).1))
  |_,_=>none
 |_=>none
theorem Hn (R:aW D N st σ g) {c a b:Arg} {r:SR τ dn} (h:uE st c a b=some r):r.Good D N st.nx σ g (.pick c a b)/\r.may D N st:=by
 unfold uE at h
 split at h
 ·rename_i hc
  simp only [K7] at h;obtain ⟨v,hv,rfl⟩:=h
  refine ⟨fun k hO hf=> ?_,trivial⟩
  simp only [AO.ae,R.ev hc,SV.av,K3,R.ev hv,RM.run,SR.v,SR.ups]
 ·rename_i hc
  simp only [K7] at h;obtain ⟨v,hv,rfl⟩:=h
  refine ⟨fun k hO hf=> ?_,trivial⟩
  simp only [AO.ae,R.ev hc,SV.av,L4,Lx,R.ev hv,RM.run,SR.v,SR.ups]
 ·rename_i cc hc
  split at h
  ·rename_i va vb ha hb
   simp only [K7] at h;obtain ⟨v,hv,rfl⟩:=h
   refine ⟨fun k hO hf=> ?_,trivial⟩
   simp only [SR.O,LD] at hO
   simp only [AO.ae,R.ev hc,SV.av,RM.run,SR.v,SR.ups,uD hv,R.ev ha,R.ev hb]
   cases hcc:cc.den with
   |true=>simp only [K3];rw [<-zb hcc fun p hp=>hO p (.inl hp)]
   |false=>simp only [L4,Lx];rw [<-zb hcc fun p hp=>hO p (.inr hp)]
  ·simp at h
 ·simp at h
variable [DecidableEq τ]
def kS (D:TD τ dn) (st:SS τ dn) (ao:AO):Option (SR τ dn):=
 match ao with
 | .pick c a b=>uE st c a b
 |ao=>bif ao.lk.any st.rwa then jQ D st ao else sx D st ao
theorem Ho {r:SR τ dn} (h:jQ D st ao=some r) (hO:∀p,p∈r.O->p):r.may D N st:=by
 have dZ:∀{O:List Prop} {v:SV τ dn} {t:τ} {A:List (Nat×List (dn t))} {q:Row (dn t)} {row:List (dn t)},st.fg t=some A->st.rw 0=true->q.lQ A->(SR.dZ O v q.id t row A).may D N st:=fun hA hw hm=>by
  obtain ⟨⟨B1,h4⟩,h5⟩:=iz hw
  have:=kP hA
  have h6:=kR h4
  rw [h6] at this
  simp only [KZ] at this;subst this
  exact ⟨h4,h5,hm.2.1⟩
 cases ao<;>simp only [jQ,reduceCtorEq] at h
 case store n x y=>
  split at h
  case h_2=>simp at h
  rename_i t q i o b hx hy
  split at h
  case h_2=>simp at h
  rename_i A hA
  split at h
  case isFalse=>simp at h
  rename_i hc
  split at h
  case h_2=>simp at h
  simp only [KZ] at h;subst h
  exact dZ hA hc.2.2.1 (hO _ (L7 ..))
 case cpy sz x y=>
  split at h
  case h_2=>simp at h
  rename_i t q b cZ hy
  split at h
  case h_2=>simp at h
  rename_i A O t' ys hA dE
  split at h
  case isFalse=>simp at h
  rename_i ht
  subst ht
  split at h
  case isFalse=>simp at h
  rename_i hs
  simp only [KZ] at h;subst h
  simp only [SR.O,LD,K9] at hO
  exact dZ hA hs.2 (hO _ (.inr rfl))
 all_goals refine qY ?_
 case len s x=>
  cases s with
  |true=>simp at h
  |false=>
   simp only at h
   split at h
   case h_2=>simp at h
   split at h
   case h_2=>simp at h
   simp only [KZ] at h;subst h;rfl
 case iad sz x y=>
  split at h
  case h_2=>simp at h
  split at h
  case h_2=>simp at h
  split at h
  case isFalse=>simp at h
  simp only [KZ] at h;subst h;rfl
 all_goals repeat' split at h
 all_goals first|(simp at h;done)|(simp only [KZ] at h;subst h;rfl)|(simp only [K7] at h;obtain ⟨_,_,rfl⟩:=h;rfl)
theorem uF (ok:aU D) (R:aW D N st σ g) {r:SR τ dn} (h:kS D st ao=some r) (hO:∀p,p∈r.O->p):r.Good D N st.nx σ g ao/\r.may D N st:=by
 unfold kS at h
 split at h
 ·exact Hn R h
 ·cases hb:(ao.lk.any st.rwa) with
  |true=>rw [hb,K5] at h;exact ⟨G3 ok R h,Ho h hO⟩
  |false=>rw [hb,Ln] at h;exact ⟨G1 ok R h,Hl R h⟩
end
section
variable {τ:Type} {dn:τ->Type} {D:TD τ dn} {N:aw} {st:SS τ dn} {σ:Nat->AV} {g:Nat->Option Bk}
def SV.pu1:SV τ dn->Bool
 | .vi _| .vn _| .vy _| .vu _| .vw _ _| .vb _| .vt _| .vz _| .vo _| .emp| .vl _ _| .vc _ _| .pim _ _| .dead=>true
 | .fn _ cs=>cs.isEmpty
 |_=>false
theorem zc {v:SV τ dn} (h:v.pu1=true):(v.av D.toTE N).pu1=true:=by
 cases v<;>simp [SV.pu1] at h<;>simp [SV.av,AV.pu1]
 subst h;rfl
def uG [DecidableEq τ] (D:TD τ dn) (st:SS τ dn) (t:τ) (r:Row (dn t)):Option (List Prop×SV τ dn):=match st.fg t with
 |some A=>bif D.pu t then some ([r.ok A,r.kd≠ .nil], .vl t (r.get A)) else none
 |none=>none
def snap1S (D:TD τ dn) (st:SS τ dn):SV τ dn->Option (SV τ dn)
 | .own nm sz=>match st.cont D sz (.own nm sz) with
  |some (.ty t xs)=>bif D.pu t then some (.vl t xs) else none
  |some (.li els)=>bif els.all (fun cs=>cs.all SV.pu1) then some (.vc sz els) else none
  |none=>none
 | .ref nm sz i o=>match st.gm nm with
  |some (.bc q els)=>if q=sz then (match els[i]? with
   |some cs=>bif cs.all SV.pu1 then some (.pim cs o) else none
   |none=>none) else none
  |_=>none
 |v=>bif v.pu1 then some v else none
theorem zd {cs:List (SV τ dn)} (h:cs.all SV.pu1=true):(cs.map (SV.av D.toTE N)).all AV.pu1=true:=by
 simp only [K6,Lz] at h ⊢
 rintro _ ⟨v,hv,rfl⟩;exact zc (h v hv)
theorem qZ (ok:aU D) (R:aW D N st σ g) {v w:SV τ dn} (h:snap1S D st v=some w):(snap1 (v.av D.toTE N)).run g=some (w.av D.toTE N):=by
 have other:∀{v:SV τ dn},(bif v.pu1 then some v else none)=some w->(∀a,a=v.av D.toTE N->snap1 a=if a.pu1=true then .ret a else .fail)->(snap1 (v.av D.toTE N)).run g=some (w.av D.toTE N):=by
  intro v h h2
  cases hp:v.pu1 with
  |false=>rw [hp] at h;simp at h
  |true=>
   rw [hp,K5,KZ] at h;subst h
   rw [h2 _ rfl,K1 (zc hp)];rfl
 cases v with
 |own nm sz=>
  simp only [snap1S] at h
  have ea:(((SV.own nm sz:SV τ dn).av D.toTE N)= .own (N.ι nm) sz 0 (N.ln nm)):=rfl
  split at h
  ·rename_i t xs hc
   obtain ⟨c1,c2⟩:=lV R hc
   cases hp:D.pu t with
   |false=>rw [hp] at h;simp at h
   |true=>
    rw [hp,K5,KZ] at h;subst h
    have hz:=c2 t xs rfl
    rw [ea] at c1 ⊢
    simp only [snap1]
    rw [di c1]
    have bz:((xs.map (D.ea N.ρ t)).all fun cs=>cs.all AV.pu1)=true:=by
     simp only [K6,Lz]
     rintro _ ⟨y,_,rfl⟩
     have:=ok.pu1 N t y hp
     simpa [K6] using this
    simp only [Ct.els,bz,K3,RM.run,SV.av,hz]
  ·rename_i els hc
   obtain ⟨c1,c2⟩:=lV R hc
   cases hp:els.all (fun cs=>cs.all SV.pu1) with
   |false=>rw [hp] at h;simp at h
   |true=>
    rw [hp,K5,KZ] at h;subst h
    rw [ea] at c1 ⊢
    simp only [snap1]
    rw [di c1]
    have bz:((els.map fun cs=>cs.map (SV.av D.toTE N)).all fun cs=>cs.all AV.pu1)=true:=by
     simp only [K6,Lz]
     rintro _ ⟨cs,hcs,rfl⟩
     have h1:=(K6.1 hp) cs hcs
     have:=zd (D:=D) (N:=N) h1
     simpa [K6] using this
    simp only [Ct.els,SV.gB,bz,K3,RM.run,SV.av]
  ·simp at h
 |ref nm sz i o=>
  simp only [snap1S] at h
  split at h
  ·rename_i q els hB
   split at h
   ·rename_i hq
    split at h
    ·rename_i cs hcs
     cases hp:cs.all SV.pu1 with
     |false=>rw [hp] at h;simp at h
     |true=>
      rw [hp,K5,KZ] at h;subst h
      have g1:=(R.gm hB).1
      simp only [SV.av,snap1,RM.run,g1,SB.av,hq,K3,SV.gB,Lu,hcs,Ld,zd hp,SV.bk]
    ·simp at h
   ·simp at h
  ·simp at h
 |_=>first
  |exact other h fun a ha=>by subst ha;rfl
  |(simp [snap1S,SV.pu1] at h)
def jV (D:TD τ dn) (st:SS τ dn):List (SV τ dn)->Option (List (SV τ dn))
 |[]=>some []
 |v::r=>match snap1S D st v,jV D st r with
  |some x,some l=>some (x::l)
  |_,_=>none
theorem q8 (ok:aU D) (R:aW D N st σ g):∀{vs ws:List (SV τ dn)},jV D st vs=some ws->(fB (vs.map (SV.av D.toTE N))).run g=some (ws.map (SV.av D.toTE N))
 |[],ws,h=>by simp only [jV,KZ] at h;subst h;rfl
 |v::r,ws,h=>by
  simp only [jV] at h
  split at h
  ·rename_i x l h1 h2
   simp only [KZ] at h;subst h
   simp only [Lf,fB]
   rw [di (qZ ok R h1),di (q8 ok R h2)];rfl
  ·simp at h
def fJ (D:TD τ dn) (st:SS τ dn):SV τ dn->Option (SV τ dn)
 | .agg cs=>(jV D st cs).map .agg
 | .fn f cs=>(jV D st cs).map (.fn f)
 | .bf f cs=>(jV D st cs).map (.bf f)
 |v=>snap1S D st v
theorem uH (ok:aU D) (R:aW D N st σ g) {v w:SV τ dn} (h:fJ D st v=some w):(dk (v.av D.toTE N)).run g=some (w.av D.toTE N):=by
 cases v with
 |agg cs=>
  simp only [fJ,K7] at h;obtain ⟨l,hl,rfl⟩:=h
  simp only [SV.av,SV.bk,dk]
  rw [di (q8 ok R hl)];rfl
 |fn f cs=>
  simp only [fJ,K7] at h;obtain ⟨l,hl,rfl⟩:=h
  simp only [SV.av,SV.bk,dk]
  rw [di (q8 ok R hl)];rfl
 |bf f cs=>
  simp only [fJ,K7] at h;obtain ⟨l,hl,rfl⟩:=h
  simp only [SV.av,SV.bk,dk]
  rw [di (q8 ok R hl)];rfl
 |vg p c v=>simp [fJ,snap1S,SV.pu1] at h
 |rw t r=>simp [fJ,snap1S,SV.pu1] at h
 |cK t r i o=>simp [fJ,snap1S,SV.pu1] at h
 |_=>
  simp only [fJ] at h
  exact qZ ok R h
def iB (D:TD τ dn) (st:SS τ dn):List (SV τ dn)->Option (List (SV τ dn))
 |[]=>some []
 |v::r=>match fJ D st v,iB D st r with
  |some x,some l=>some (x::l)
  |_,_=>none
theorem ze (ok:aU D) (R:aW D N st σ g):∀{vs ws:List (SV τ dn)},iB D st vs=some ws->(dw (vs.map (SV.av D.toTE N))).run g=some (ws.map (SV.av D.toTE N))
 |[],ws,h=>by simp only [iB,KZ] at h;subst h;rfl
 |v::r,ws,h=>by
  simp only [iB] at h
  split at h
  ·rename_i x l h1 h2
   simp only [KZ] at h;subst h
   simp only [Lf,dw]
   rw [di (uH ok R h1),di (ze ok R h2)];rfl
  ·simp at h
variable [DecidableEq τ]
def q9 (D:TD τ dn) (st:SS τ dn):SV τ dn->Option (List Prop×SV τ dn)
 | .rw t r=>uG D st t r
 |v=>(fJ D st v).map fun w=>([],w)
theorem Hp (ok:aU D) (R:aW D N st σ g) {v w:SV τ dn} {O:List Prop} (h:q9 D st v=some (O,w)) (hO:∀p,p∈O->p):(dk (v.av D.toTE N)).run g=some (w.av D.toTE N):=by
 have other:∀{v:SV τ dn},((fJ D st v).map fun w=>(([]:List Prop),w))=some (O,w)->(dk (v.av D.toTE N)).run g=some (w.av D.toTE N):=fun h=>by
  simp only [K7,Li] at h
  obtain ⟨c',h1,_,rfl⟩:=h
  exact uH ok R h1
 cases v with
 |rw t r=>
  simp only [q9,uG] at h
  split at h
  ·rename_i A hA
   cases hp:D.pu t with
   |false=>rw [hp] at h;simp at h
   |true=>
    rw [hp,K5] at h
    simp only [KZ,Li] at h
    obtain ⟨rfl,rfl⟩:=h
    simp only [Lc,Ma,or_false,Mx,Ll] at hO
    cases hk:r.kd with
    |nil=>exact absurd hk hO.2
    |aP=>simp only [SV.av,hk,dk,snap1,AV.pu1,K3,RM.run,lW hk]
    |own=>
     obtain ⟨e1,e2,e3⟩:=jR R hA hO.1 hk
     have c1:(content (D.sz t) (.own r.id (D.sz t) 0 r.n)).run g=some ((r.get A).map (D.ea N.ρ t)):=by
      simp only [content,RM.run,e3,e2,Lh,Lq,K4,Lp,K3,MQ]
      rw [MF (by simp)]
     simp only [SV.av,hk,dk,snap1]
     rw [di c1]
     have bz:(((r.get A).map (D.ea N.ρ t)).all fun cs=>cs.all AV.pu1)=true:=by
      simp only [K6,Lz]
      rintro _ ⟨y,_,rfl⟩
      have:=ok.pu1 N t y hp
      simpa [K6] using this
     simp only [bz,K3,RM.run]
  ·simp at h
 |_=>exact other h
def lY (D:TD τ dn) (st:SS τ dn):List (SV τ dn)->Option (List Prop×List (SV τ dn))
 |[]=>some ([],[])
 |v::r=>match q9 D st v,lY D st r with
  |some (O,x),some (O',l)=>some (O++O',x::l)
  |_,_=>none
theorem re (ok:aU D) (R:aW D N st σ g):∀{vs ws:List (SV τ dn)} {O:List Prop},lY D st vs=some (O,ws)->(∀p,p∈O->p)->(dw (vs.map (SV.av D.toTE N))).run g=some (ws.map (SV.av D.toTE N))
 |[],ws,O,h,hO=>by simp only [lY,KZ,Li] at h;obtain ⟨_,rfl⟩:=h;rfl
 |v::r,ws,O,h,hO=>by
  simp only [lY] at h
  split at h
  ·rename_i O1 x O2 l h1 h2
   simp only [KZ,Li] at h
   obtain ⟨rfl,rfl⟩:=h
   simp only [Lf,dw]
   rw [di (Hp ok R h1 fun p hp=>hO p (LL _ hp)),di (re ok R h2 fun p hp=>hO p (LF _ hp))];rfl
  ·simp at h
end
open Go.RowKit
section
variable {τ:Type} {dn:τ->Type}
inductive Pt (τ:Type) where
 |ty (t:τ)
 |ptr (t:τ)
 |mV (f:FuncId) (cs:List (Bool×τ))
abbrev CD (dn:τ->Type):List (Bool×τ)->Type
 |[]=>Unit
 |p::r=>dn p.2×CD dn r
abbrev Pt.T (dn:τ->Type):Pt τ->Type
 | .ty t=>dn t
 | .ptr t=>dn t
 | .mV _ cs=>CD dn cs
abbrev PD (dn:τ->Type):List (Pt τ)->Type
 |[]=>Unit
 |p::r=>p.T dn×PD dn r
abbrev RD (dn:τ->Type):List τ->Type
 |[]=>Unit
 |[t]=>dn t
 |t::s::r=>dn t×RD dn (s::r)
variable (D:TD τ dn) {N:aw}
def TD.en (t:τ) (x:dn t):SV τ dn:=bif D.ag t then .agg (D.es t x) else (D.es t x).headD .dead
def jW (t:τ) (v:SV τ dn):Option (dn t):=bif D.ag t then (match v with
 | .agg cs=>D.ds t cs
 |_=>none) else D.ds t [v]
def jX:(cs:List (Bool×τ))->CD dn cs->List (SV τ dn)
 |[],_=>[]
 |(false,t)::r,x=>D.en t x.1::jX r x.2
 |(true,t)::r,x=> .pim (D.es t x.1) 0::jX r x.2
def rf (t:τ):SV τ dn->Option (dn t)
 | .pim cs 0=>bif cs.all SV.ne then D.ds t cs else none
 |_=>none
def jY:(cs:List (Bool×τ))->List (SV τ dn)->Option (CD dn cs)
 |[],[]=>some ()
 |(false,t)::r,v::l=>bif v.cells.all SV.ne then (match jW D t v,jY r l with
  |some x,some y=>some (x,y)
  |_,_=>none) else none
 |(true,t)::r,v::l=>match rf D t v,jY r l with
  |some x,some y=>some (x,y)
  |_,_=>none
 |_,_=>none
def Pt.enc:(p:Pt τ)->p.T dn->SV τ dn
 | .ty t,x=>D.en t x
 | .ptr t,x=> .pim (D.es t x) 0
 | .mV f cs,x=> .fn f (jX D cs x)
def Pt.dec:(p:Pt τ)->SV τ dn->Option (p.T dn)
 | .ty t,v=>jW D t v
 | .ptr t,v=>rf D t v
 | .mV f cs, .fn f' l=>bif Nat.beq f f' then jY D cs l else none
 | .mV _ _,_=>none
def jZ:(ps:List (Pt τ))->PD dn ps->List (SV τ dn)
 |[],_=>[]
 |p::r,x=>p.enc D x.1::jZ r x.2
def iC:(ps:List (Pt τ))->List (SV τ dn)->Option (PD dn ps)
 |[],[]=>some ()
 |p::r,v::l=>match p.dec D v,iC r l with
  |some x,some y=>some (x,y)
  |_,_=>none
 |_,_=>none
def gE:(rs:List τ)->RD dn rs->List (SV τ dn)
 |[],_=>[]
 |[t],x=>[D.en t x]
 |t::s::r,x=>D.en t x.1::gE (s::r) x.2
def jc:(rs:List τ)->List (SV τ dn)->Option (RD dn rs)
 |[],[]=>some ()
 |[t],[v]=>jW D t v
 |t::s::r,v::l=>match jW D t v,jc (s::r) l with
  |some x,some y=>some (x,y)
  |_,_=>none
 |_,_=>none
def kT:List (SV τ dn)->SV τ dn
 |[v]=>v
 |l=> .aJ l
end
section
variable {τ:Type} {dn:τ->Type} {D:TD τ dn} {N:aw}
theorem Hq {l:List AV} (h:dy [a] l):∃b,l=[b]/\bN a b:=by
 cases h with
 |cons h t=>cases t;exact ⟨_,rfl,h⟩
theorem rh {t:τ} {x:dn t} (h:D.ag t=true):D.en t x= .agg (D.es t x):=by unfold TD.en;rw [h];rfl
theorem uI (ok:aU D) {t:τ} {x:dn t} (h:D.ag t=false) {b:AV} (hb:D.ea N.ρ t x=[b]):(D.en t x).av D.toTE N=b:=by
 unfold TD.en
 rw [h,Ln]
 have:=ok.cO N t x
 rw [hb] at this
 cases he:D.es t x with
 |nil=>rw [he] at this;simp at this
 |cons v r=>rw [he] at this;simp at this;rw [List.headD_cons];exact this.1
theorem rk (ok:aU D) {t:τ} {v:SV τ dn} {x:dn t} (h:jW D t v=some x):bN (v.av D.toTE N) ((D.en t x).av D.toTE N):=by
 unfold jW at h
 cases ha:D.ag t with
 |true=>
  rw [ha,K5] at h
  split at h
  ·rw [rh ha,SV.av,SV.av,SV.bk,SV.bk,ok.cO]
   exact bN.agg (ok.fb N t _ _ h)
  ·simp at h
 |false=>
  rw [ha,Ln] at h
  obtain ⟨b,hb,hle⟩:=Hq (ok.fb N t _ _ h)
  rw [uI ok ha hb];exact hle
theorem Hr (ok:aU D) {t:τ} {v:SV τ dn} {x:dn t} (h:jW D t v=some x) (hn:v.cells.all SV.ne=true):v.av D.toTE N=(D.en t x).av D.toTE N:=by
 unfold jW at h
 cases ha:D.ag t with
 |true=>
  rw [ha,K5] at h
  split at h
  ·rw [rh ha,SV.av,SV.av,SV.bk,SV.bk,ok.cO,ok.oB N t _ _ h hn]
  ·simp at h
 |false=>
  rw [ha,Ln] at h
  have Hs:[v].all SV.ne=true:=by
   cases v<;>first|exact hn|rfl
  have:=ok.oB N t _ _ h Hs
  rw [uI ok ha (b:=v.av D.toTE N) this.symm]
theorem zf (ok:aU D) {t:τ} {v:SV τ dn} {x:dn t} (h:rf D t v=some x):v.av D.toTE N=(SV.pim (D.es t x) 0:SV τ dn).av D.toTE N:=by
 unfold rf at h
 split at h
 ·rename_i cs
  cases hn:cs.all SV.ne with
  |false=>rw [hn] at h;simp at h
  |true=>
   rw [hn,K5] at h
   rw [SV.av,SV.av,SV.bk,SV.bk,ok.cO,ok.oB N t _ _ h hn]
 ·simp at h
theorem uJ (ok:aU D):∀{cs:List (Bool×τ)} {l:List (SV τ dn)} {x:CD dn cs},jY D cs l=some x->SV.ck D.toTE N l=SV.ck D.toTE N (jX D cs x)
 |[],[],x,h=>rfl
 |[],v::l,x,h=>by simp [jY] at h
 |(false,t)::r,[],x,h=>by simp [jY] at h
 |(true,t)::r,[],x,h=>by simp [jY] at h
 |(false,t)::r,v::l,x,h=>by
  simp only [jY] at h
  cases hn:v.cells.all SV.ne with
  |false=>rw [hn] at h;simp at h
  |true=>
   rw [hn,K5] at h
   split at h
   ·rename_i a b h1 h2
    simp only [KZ] at h;subst h
    simp only [SV.ck,jX,Hr ok h1 hn,uJ ok h2]
   ·simp at h
 |(true,t)::r,v::l,x,h=>by
  simp only [jY] at h
  split at h
  ·rename_i a b h1 h2
   simp only [KZ] at h;subst h
   simp only [SV.ck,jX,zf ok h1,uJ ok h2]
  ·simp at h
theorem Ht (ok:aU D) {p:Pt τ} {v:SV τ dn} {x:p.T dn} (h:p.dec D v=some x):bN (v.av D.toTE N) ((p.enc D x).av D.toTE N):=by
 cases p with
 |ty t=>exact rk ok h
 |ptr t=>exact bN.of_eq (zf ok h)
 |mV f cs=>
  cases v<;>simp only [Pt.dec,reduceCtorEq] at h
  rename_i f' l
  cases hb:Nat.beq f f' with
  |false=>rw [hb] at h;simp at h
  |true=>
   rw [hb,K5] at h
   have:=Lk hb
   subst this
   exact bN.of_eq (by simp only [SV.av,Pt.enc,uJ ok h])
theorem rn (ok:aU D):∀{ps:List (Pt τ)} {l:List (SV τ dn)} {x:PD dn ps},iC D ps l=some x->dy (l.map (SV.av D.toTE N)) ((jZ D ps x).map (SV.av D.toTE N))
 |[],[],x,h=> .nil
 |[],v::l,x,h=>by simp [iC] at h
 |p::r,[],x,h=>by simp [iC] at h
 |p::r,v::l,x,h=>by
  simp only [iC] at h
  split at h
  ·rename_i a b h1 h2
   simp only [KZ] at h;subst h
   exact .cons (Ht ok h1) (rn ok h2)
  ·simp at h
theorem zg (ok:aU D):∀{rs:List τ} {l:List (SV τ dn)} {x:RD dn rs},jc D rs l=some x->dy (l.map (SV.av D.toTE N)) ((gE D rs x).map (SV.av D.toTE N))
 |[],[],x,h=> .nil
 |[],v::l,x,h=>by simp [jc] at h
 |[t],[],x,h=>by simp [jc] at h
 |[t],[v],x,h=> .cons (rk ok h) .nil
 |[t],v::w::l,x,h=>by simp [jc] at h
 |t::s::r,[],x,h=>by simp [jc] at h
 |t::s::r,v::l,x,h=>by
  simp only [jc] at h
  split at h
  ·rename_i a b h1 h2
   simp only [KZ] at h;subst h
   exact .cons (rk ok h1) (zg ok h2)
  ·simp at h
theorem rp (l:List (SV τ dn)):(kT l).av D.toTE N=jE (l.map (SV.av D.toTE N)):=by
 match l with
 |[]=>rfl
 |[v]=>rfl
 |v::w::r=>simp only [kT,SV.av,SV.bk];rfl
theorem Hu {a b:List AV} (h:dy a b):bN (jE a) (jE b):=by
 cases h with
 |nil=>exact bN.refl
 |cons h t=>
  cases t with
  |nil=>exact h
  |cons h2 t2=>exact bN.aJ (.cons h (.cons h2 t2))
def SV.uK:SV τ dn->Bool
 | .vi _| .vn _| .vy _| .vu _| .vw _ _| .vb _| .vt _| .vz _| .vo _=>true
 |_=>false
theorem Hv {E:TE τ dn} {N:aw} {v:SV τ dn} (h:v.uK=true):(v.av E N).c8=true:=by
 cases v<;>simp [SV.uK] at h<;>simp [SV.av,AV.c8]
structure bZ (τ:Type) (dn:τ->Type) where
 f:FuncId
 ps:List (Pt τ)
 pre:PD dn ps->Prop
 rs:List τ
 res:PD dn ps->RD dn rs
def bZ.val (D:TD τ dn) (c:bZ τ dn) (x:PD dn c.ps):SV τ dn:=kT (gE D c.rs (c.res x))
def bZ.Ok (P:Program) (D:TD τ dn) (c:bZ τ dn):Prop:=bW P c.f=true/\∀(x:PD dn c.ps) (N:aw),c.pre x->Fn P c.f ((jZ D c.ps x).map (SV.av D.toTE N)) ((c.val D x).av D.toTE N)
theorem Hw {bV:List AV} {sz:Nat} {els:List (List AV)} (h:Fo P f as_ sz els) (ha:dy bV as_):Fo P f bV sz els:=fun w J vs hJ hG b6=>
 h w J vs hJ hG ⟨b6.1.trans ha.get.1,fun i u c hu hc=>let ⟨a,h1,h2⟩:=ha.get.2 i c hc;h2 _ _ (b6.2 i u a hu h1)⟩
structure gY (τ:Type) (dn:τ->Type) where
 f:FuncId
 ps:List (Pt τ)
 pre:PD dn ps->Prop
 t:τ
 res:PD dn ps->List (dn t)
def gY.Ok (P:Program) (D:TD τ dn) (c:gY τ dn):Prop:=(bW P c.f=true/\∀x:dn c.t,(D.es c.t x).all (fun v=>v.uK)=true)/\∀(x:PD dn c.ps) (N:aw),c.pre x->Fo P c.f ((jZ D c.ps x).map (SV.av D.toTE N)) (D.sz c.t) ((c.res x).map (D.ea N.ρ c.t))
end
open Go.RowKit
def AV.bn:AV->List Nat
 | .own id _ _ _| .ref id _ _ _| .mp id=>[id]
 |_=>[]
def AO.refs (ρ:Arg->AV):AO->List Nat
 | .load _ x| .nilc x| .fad _ x| .len _ x| .isn _ _ x| .clr _ x| .b2s x=>(ρ x).bn
 | .store _ x _| .iad _ x _| .iap _ _ x _| .slc _ x _ _ _| .mup _ x _ _| .mlk _ _ x _=>(ρ x).bn
 | .app _ _ s x=>(ρ x).bn++(ρ s).bn
 | .cpy _ x y=>(ρ y).bn++(ρ x).bn
 |_=>[]
theorem gZ {x:Option α}:(RM.opt x).acc g=[]/\(RM.opt x).see g=[]:=by cases x<;>exact ⟨rfl,rfl⟩
theorem gj {α β:Type} {g:Nat->Option Bk} {f:α->RM β} {L:List Nat}:∀(m:RM α),(∀id,id∈m.acc g++m.see g->id∈L)->(∀a id,id∈(f a).acc g++(f a).see g->id∈L)->∀id,id∈(m.bind f).acc g++(m.bind f).see g->id∈L
 | .ret a,_,h2,id,h=>h2 a id h
 | .fail,_,_,id,h=>by simp [RM.bind,RM.acc,RM.see] at h
 | .rd i k,h1,h2,id,h=>by
  cases hg:g i with
  |none=>
   simp only [RM.bind,RM.acc,RM.see,hg,List.append_nil,K9] at h
   exact h1 id (by simp [RM.acc,hg,h])
  |some B=>
   simp only [RM.bind,RM.acc,RM.see,hg,Mj,Lc] at h
   rcases h with h|h
   ·exact h1 id (by simp [RM.acc,hg,h])
   ·exact gj (k B) (fun j hj=>h1 j (by simp only [RM.acc,RM.see,hg,Mj,Lc];exact .inr hj)) h2 id h
 | .lv i k,h1,h2,id,h=>by
  simp only [RM.bind,RM.acc,RM.see,LD,Lc] at h
  rcases h with h|h|h
  ·exact gj k (fun j hj=>h1 j (by simp only [RM.acc,RM.see,LD,Lc] at hj ⊢; rcases hj with hj|hj<;>simp [hj])) h2 id (LL _ h)
  ·exact h1 id (by simp [RM.see,h])
  ·exact gj k (fun j hj=>h1 j (by simp only [RM.acc,RM.see,LD,Lc] at hj ⊢; rcases hj with hj|hj<;>simp [hj])) h2 id (LF _ h)
theorem rq {sz:Nat}:∀id,id∈(content sz a).acc g++(content sz a).see g->id∈a.bn:=by
 intro id h
 cases a<;>simp only [content] at h
 case own i s off n=>
  cases hg:g i with
  |none=>simp [RM.acc,RM.see,hg] at h;simp [AV.bn,h]
  |some B=>
   simp only [RM.acc,RM.see,hg] at h
   split at h<;>(simp [RM.acc,RM.see] at h;simp [AV.bn,h])
 all_goals first
  |(split at h<;>simp [RM.acc,RM.see] at h)
  |(simp [RM.acc,RM.see] at h)
theorem rr {k:Nat} {ρ:Arg->AV}:∀id,id∈(ao.ae k ρ).acc g++(ao.ae k ρ).see g->id∈ao.refs ρ:=by
 intro id h
 have no:∀{x:Option Out},id∈(RM.opt x).acc g++(RM.opt x).see g->False:=fun {x} h=>by rw [gZ.1,gZ.2] at h;simp at h
 have nr:∀{x:Out},id∈(RM.ret x).acc g++(RM.ret x).see g->False:=fun {x} h=>by simp [RM.acc,RM.see] at h
 have nf:id∈(RM.fail:RM Out).acc g++(RM.fail:RM Out).see g->False:=fun h=>by simp [RM.acc,RM.see] at h
 cases ao<;>simp only [AO.ae] at h<;>simp only [AO.refs]
 case b2s x=>
  refine gj (L:=(ρ x).bn) _ (fun j hj=>rq j hj) (fun ys j hj=> ?_) id h
  rw [gZ.1,gZ.2] at hj;simp at hj
 case app sz by_ s x=>
  refine gj (L:=(ρ x).bn++(ρ s).bn) _ (fun j hj=>LL _ (rq j hj)) (fun ys j hj=> ?_) id h
  cases hs:ρ s<;>rw [hs] at hj<;>simp only at hj
  case own i q off n=>
   cases hg:g i with
   |none=>simp [RM.acc,RM.see,hg] at hj;simp [AV.bn,hj]
   |some B=>
    simp only [RM.acc,RM.see,hg] at hj
    split at hj
    ·simp [RM.acc,RM.see] at hj;simp [AV.bn,hj]
    ·split at hj<;>(simp [RM.acc,RM.see] at hj;simp [AV.bn,hj])
  all_goals first
   |(split at hj<;>simp [RM.acc,RM.see] at hj)
   |(simp [RM.acc,RM.see] at hj)
 case cpy sz x y=>
  refine gj (L:=(ρ y).bn++(ρ x).bn) _ (fun j hj=>LL _ (rq j hj)) (fun ys j hj=> ?_) id h
  cases hs:ρ x<;>rw [hs] at hj<;>simp only at hj
  case own i q off n=>
   cases hg:g i with
   |none=>simp [RM.acc,RM.see,hg] at hj;simp [AV.bn,hj]
   |some B=>
    simp only [RM.acc,RM.see,hg] at hj
    split at hj<;>(simp [RM.acc,RM.see] at hj;simp [AV.bn,hj])
  all_goals (simp [RM.acc,RM.see] at hj)
 case load m x=>
  cases hs:ρ x<;>rw [hs] at h<;>simp only at h
  case ref i q a b=>
   cases hg:g i with
   |none=>simp [RM.acc,RM.see,hg] at h;simp [AV.bn,h]
   |some B=>
    simp only [RM.acc,RM.see,hg] at h
    split at h
    ·rw [gZ.1,gZ.2] at h;simpa [AV.bn] using h
    ·simp [RM.acc,RM.see] at h;simp [AV.bn,h]
  all_goals first|exact (no h).elim|exact (nf h).elim
 case store n x y=>
  cases hs:ρ x<;>rw [hs] at h<;>simp only at h
  case ref i q a b=>
   cases hg:g i with
   |none=>simp [RM.acc,RM.see,hg] at h;simp [AV.bn,h]
   |some B=>
    simp only [RM.acc,RM.see,hg] at h
    split at h
    ·split at h<;>(simp [RM.acc,RM.see] at h;simp [AV.bn,h])
    ·simp [RM.acc,RM.see] at h;simp [AV.bn,h]
  all_goals exact (nf h).elim
 case slc sz x lo hi mx=>
  split at h
  ·rename_i iv aH mx' _ _ _
   cases hs:ρ x<;>rw [hs] at h<;>simp only at h
   case own i q off n=>
    cases mx' with
    |none=>
     simp only at h
     split at h
     ·split at h
      ·simp [RM.acc,RM.see] at h;simp [AV.bn,h]
      ·cases hg:g i with
       |none=>simp [RM.acc,RM.see,hg] at h;simp [AV.bn,h]
       |some B=>
        simp only [RM.acc,RM.see,hg] at h
        split at h
        ·rw [gZ.1,gZ.2] at h;simpa [AV.bn] using h
        ·simp [RM.acc,RM.see] at h;simp [AV.bn,h]
      ·simp [RM.acc,RM.see] at h;simp [AV.bn,h]
     ·simp [RM.acc,RM.see] at h;simp [AV.bn,h]
    |some m=>
     simp only at h
     cases hg:g i with
     |none=>simp [RM.acc,RM.see,hg] at h;simp [AV.bn,h]
     |some B=>
      simp only [RM.acc,RM.see,hg] at h
      split at h
      ·rw [gZ.1,gZ.2] at h;simpa [AV.bn] using h
      ·simp [RM.acc,RM.see] at h;simp [AV.bn,h]
   all_goals first
    |exact (no h).elim
    |exact (nf h).elim
    |(split at h<;>first|exact (no h).elim|exact (nf h).elim)
  ·exact (nf h).elim
 case mup kd x k y=>
  split at h
  ·rename_i i k' hx hk
   cases hg:g i with
   |none=>simp [RM.acc,RM.see,hg] at h;simp [AV.bn,hx,h]
   |some B=>
    simp only [RM.acc,RM.see,hg] at h
    split at h
    ·split at h<;>(simp [RM.acc,RM.see] at h;simp [AV.bn,hx,h])
    ·simp [RM.acc,RM.see] at h;simp [AV.bn,hx,h]
  ·exact (nf h).elim
 case mlk kd z x k=>
  split at h
  ·rename_i i k' hx hk
   cases hg:g i with
   |none=>simp [RM.acc,RM.see,hg] at h;simp [AV.bn,hx,h]
   |some B=>
    simp only [RM.acc,RM.see,hg] at h
    split at h
    ·rw [gZ.1,gZ.2] at h;simpa [AV.bn,hx] using h
    ·simp [RM.acc,RM.see] at h;simp [AV.bn,hx,h]
  ·exact (nf h).elim
 case clr zs x=>
  cases hs:ρ x<;>rw [hs] at h<;>simp only at h
  case own i q off n=>
   cases hg:g i with
   |none=>simp [RM.acc,RM.see,hg] at h;simp [AV.bn,h]
   |some B=>
    simp only [RM.acc,RM.see,hg] at h
    split at h<;>(simp [RM.acc,RM.see] at h;simp [AV.bn,h])
  all_goals first|exact (nr h).elim|exact (nf h).elim
 case len s x=>
  cases s<;>simp only [AO.ae] at h<;>cases hs:ρ x<;>rw [hs] at h<;>(try simp only at h)
  all_goals first
   |exact (nr h).elim
   |exact (nf h).elim
   |(split at h<;>first|exact (nr h).elim|exact (nf h).elim)
   |(simp [RM.acc,RM.see] at h;simp [AV.bn,h];done)
   |(split at h<;>first|exact (nr h).elim|exact (nf h).elim|(exfalso;simp_all;done))
 case isn kd neg x=>
  cases kd<;>simp only [AO.ae] at h<;>cases hs:ρ x<;>rw [hs] at h<;>(try simp only at h)
  all_goals first
   |exact (nr h).elim
   |exact (nf h).elim
   |(split at h<;>first|exact (nr h).elim|exact (nf h).elim)
   |(simp [RM.acc,RM.see] at h;simp [AV.bn,h];done)
   |(split at h<;>first|exact (nr h).elim|exact (nf h).elim|(exfalso;simp_all;done))
 all_goals repeat' split at h
 all_goals first
  |exact (nr h).elim
  |exact (nf h).elim
  |exact (no h).elim
  |(simp [RM.acc,RM.see] at h;simp [AV.bn, *];done)
theorem zh:∀id,id∈(snap1 a).acc g++(snap1 a).see g->id∈a.bF:=by
 intro id h
 cases a<;>simp only [snap1] at h
 case own i s off n=>
  refine gj (L:=[i]) _ (fun j hj=> ?_) (fun els j hj=> ?_) id h
  ·have:=rq j hj;simpa [AV.bn] using this
  ·split at hj<;>simp [RM.acc,RM.see] at hj
 case ref i s a b=>
  cases hg:g i with
  |none=>simp [RM.acc,RM.see,hg] at h;simp [AV.bF,h]
  |some B=>
   simp only [RM.acc,RM.see,hg] at h
   split at h
   ·split at h
    ·split at h<;>(simp [RM.acc,RM.see] at h;simp [AV.bF,h])
    ·simp [RM.acc,RM.see] at h;simp [AV.bF,h]
   ·simp [RM.acc,RM.see] at h;simp [AV.bF,h]
 all_goals (split at h<;>simp [RM.acc,RM.see] at h)
theorem ru {g:Nat->Option Bk}:∀{l:List AV},∀id,id∈(fB l).acc g++(fB l).see g->id∈l.flatMap AV.bF
 |[],id,h=>by simp [fB,RM.acc,RM.see] at h
 |a::r,id,h=>by
  simp only [fB] at h
  refine gj (L:=(a::r).flatMap AV.bF) _ (fun j hj=> ?_) (fun x j hj=> ?_) id h
  ·rw [L6];exact LL _ (zh j hj)
  ·refine gj (L:=(a::r).flatMap AV.bF) _ (fun j hj=> ?_) (fun x j hj=> ?_) j hj
   ·rw [L6];exact LF _ (ru j hj)
   ·simp [RM.acc,RM.see] at hj
theorem Hx:∀id,id∈(dk a).acc g++(dk a).see g->id∈a.ids:=by
 intro id h
 cases a<;>simp only [dk] at h
 case agg cs=>exact gj (L:=cs.flatMap AV.bF) _ ru (fun x j hj=>by simp [RM.acc,RM.see] at hj) id h
 case fn f cs=>exact gj (L:=cs.flatMap AV.bF) _ ru (fun x j hj=>by simp [RM.acc,RM.see] at hj) id h
 case bf f cs=>exact gj (L:=cs.flatMap AV.bF) _ ru (fun x j hj=>by simp [RM.acc,RM.see] at hj) id h
 all_goals exact zh id h
theorem rv {g:Nat->Option Bk}:∀{l:List AV},∀id,id∈(dw l).acc g++(dw l).see g->id∈l.flatMap AV.ids
 |[],id,h=>by simp [dw,RM.acc,RM.see] at h
 |a::r,id,h=>by
  simp only [dw] at h
  refine gj (L:=(a::r).flatMap AV.ids) _ (fun j hj=> ?_) (fun x j hj=> ?_) id h
  ·rw [L6];exact LL _ (Hx j hj)
  ·refine gj (L:=(a::r).flatMap AV.ids) _ (fun j hj=> ?_) (fun x j hj=> ?_) j hj
   ·rw [L6];exact LF _ (rv j hj)
   ·simp [RM.acc,RM.see] at hj
section
variable {τ:Type} {dn:τ->Type} {D:TD τ dn} {N:aw} {st:SS τ dn} {σ:Nat->AV} {g:Nat->Option Bk}
def SV.nr:SV τ dn->List Nat
 | .own nm _| .part nm _ _ _| .ref nm _ _ _| .mp nm=>[nm]
 | .rw _ _| .cK _ _ _ _=>[0]
 |_=>[]
def SV.n1:SV τ dn->List Nat
 | .own nm _| .part nm _ _ _| .ref nm _ _ _=>[nm]
 | .rw _ _| .cK _ _ _ _=>[0]
 |_=>[]
def SV.nms:SV τ dn->List Nat
 | .agg cs=>cs.flatMap SV.n1
 | .fn _ cs=>cs.flatMap SV.n1
 | .bf _ cs=>cs.flatMap SV.n1
 |a=>a.n1
def SV.fK:SV τ dn->Bool
 | .rw _ _| .cK _ _ _ _| .vg _ _ _=>false
 |_=>true
def SV.pl:SV τ dn->Bool
 | .agg cs| .fn _ cs| .bf _ cs=>cs.all SV.fK
 |a=>a.fK
theorem Hy:∀(v:SV τ dn) (id:Nat),v.fK=true->id∈(v.av D.toTE N).bn->∃nm,nm∈v.nr/\id=N.ι nm
 | .vg p c v,id,hp,h| .rw _ _,id,hp,h| .cK _ _ _ _,id,hp,h=>by simp [SV.fK] at hp
 | .own nm _,id,hp,h| .part nm _ _ _,id,hp,h| .ref nm _ _ _,id,hp,h| .mp nm,id,hp,h=>by
  simp only [SV.av,AV.bn,K9] at h;exact ⟨nm,by simp [SV.nr],h⟩
 | .vi _,id,hp,h| .vn _,id,hp,h| .vy _,id,hp,h| .vu _,id,hp,h| .vw _ _,id,hp,h| .vb _,id,hp,h| .vt _,id,hp,h| .vz _,id,hp,h| .vo _,id,hp,h| .agg _,id,hp,h| .aJ _,id,hp,h| .vl _ _,id,hp,h| .vc _ _,id,hp,h| .emp,id,hp,h| .pim _ _,id,hp,h| .fn _ _,id,hp,h| .bf _ _,id,hp,h| .dead,id,hp,h=>by simp [SV.av,AV.bn] at h
theorem Hz:∀(v:SV τ dn) (id:Nat),v.fK=true->id∈(v.av D.toTE N).bF->∃nm,nm∈v.n1/\id=N.ι nm
 | .vg p c v,id,hp,h| .rw _ _,id,hp,h| .cK _ _ _ _,id,hp,h=>by simp [SV.fK] at hp
 | .own nm _,id,hp,h| .part nm _ _ _,id,hp,h| .ref nm _ _ _,id,hp,h=>by
  simp only [SV.av,AV.bF,K9] at h;exact ⟨nm,by simp [SV.n1],h⟩
 | .vi _,id,hp,h| .vn _,id,hp,h| .vy _,id,hp,h| .vu _,id,hp,h| .vw _ _,id,hp,h| .vb _,id,hp,h| .vt _,id,hp,h| .vz _,id,hp,h| .vo _,id,hp,h| .agg _,id,hp,h| .aJ _,id,hp,h| .vl _ _,id,hp,h| .vc _ _,id,hp,h| .emp,id,hp,h| .pim _ _,id,hp,h| .fn _ _,id,hp,h| .bf _ _,id,hp,h| .dead,id,hp,h| .mp _,id,hp,h=>by simp [SV.av,AV.bF] at h
theorem HA {cs:List (SV τ dn)} {id:Nat} (hp:cs.all SV.fK=true) (h:id∈(SV.ck D.toTE N cs).flatMap AV.bF):∃nm,nm∈cs.flatMap SV.n1/\id=N.ι nm:=by
 rw [SV.bk] at h
 simp only [List.mem_flatMap,Lz] at h
 obtain ⟨_,⟨v,hv,rfl⟩,h⟩:=h
 obtain ⟨nm,h1,h2⟩:=Hz v id (K6.1 hp v hv) h
 exact ⟨nm,List.mem_flatMap.2 ⟨v,hv,h1⟩,h2⟩
theorem HB:∀(v:SV τ dn) (id:Nat),v.pl=true->id∈(v.av D.toTE N).ids->∃nm,nm∈v.nms/\id=N.ι nm
 | .vg p c v,id,hp,h| .rw _ _,id,hp,h| .cK _ _ _ _,id,hp,h=>by simp [SV.pl,SV.fK] at hp
 | .agg cs,id,hp,h| .fn _ cs,id,hp,h| .bf _ cs,id,hp,h=>by simp only [SV.av,AV.ids] at h;exact HA hp h
 | .own nm _,id,hp,h| .part nm _ _ _,id,hp,h| .ref nm _ _ _,id,hp,h=>by
  simp only [SV.av,AV.ids,AV.bF,K9] at h;exact ⟨nm,by simp [SV.nms,SV.n1],h⟩
 | .vi _,id,hp,h| .vn _,id,hp,h| .vy _,id,hp,h| .vu _,id,hp,h| .vw _ _,id,hp,h| .vb _,id,hp,h| .vt _,id,hp,h| .vz _,id,hp,h| .vo _,id,hp,h| .aJ _,id,hp,h| .vl _ _,id,hp,h| .vc _ _,id,hp,h| .emp,id,hp,h| .pim _ _,id,hp,h| .dead,id,hp,h| .mp _,id,hp,h=>by simp [SV.av,AV.ids,AV.bF] at h
theorem HC {v w:SV τ dn} (h:snap1S D st v=some w):v.fK=true:=by
 cases v<;>first|rfl|(simp [snap1S,SV.pu1] at h)
theorem zj:∀{vs ws:List (SV τ dn)},jV D st vs=some ws->vs.all SV.fK=true
 |[],ws,h=>rfl
 |v::r,ws,h=>by
  simp only [jV] at h
  split at h
  ·rename_i x l h1 h2
   rw [List.all_cons,HC h1,zj h2];rfl
  ·simp at h
theorem HD {v w:SV τ dn} (h:fJ D st v=some w):v.pl=true:=by
 cases v with
 |agg cs|fn f cs|bf f cs=>
  simp only [fJ,K7] at h;obtain ⟨l,hl,rfl⟩:=h
  exact zj hl
 |_=>first|rfl|(simp [fJ,snap1S,SV.pu1] at h)
def fL (st:SS τ dn) (id:Nat):Prop:=∃t A,st.gm 0=some (.ar t A)/\dp A id
theorem o8 [DecidableEq τ]:∀{vs ws:List (SV τ dn)} {O:List Prop},lY D st vs=some (O,ws)->(∀p,p∈O->p)->∀id,id∈(vs.map (SV.av D.toTE N)).flatMap AV.ids->∃nm,nm∈vs.flatMap SV.nms/\(id=N.ι nm\/(nm=0/\fL st id))
 |[],ws,O,h,hO,id,hid=>by simp at hid
 |v::r,ws,O,h,hO,id,hid=>by
  simp only [lY] at h
  split at h
  ·rename_i O1 x O2 l h1 h2
   simp only [KZ,Li] at h
   obtain ⟨rfl,rfl⟩:=h
   simp only [Lf,L6,LD] at hid ⊢
   rcases hid with hid|hid
   ·have other:((fJ D st v).map fun w=>(([]:List Prop),w))=some (O1,x)->∃nm,(nm∈v.nms\/nm∈r.flatMap SV.nms)/\(id=N.ι nm\/(nm=0/\fL st id)):=fun h=>by
     simp only [K7,Li] at h
     obtain ⟨c',h3,_,rfl⟩:=h
     obtain ⟨nm,q1,q2⟩:=HB v id (HD h3) hid
     exact ⟨nm, .inl q1, .inl q2⟩
    cases v with
    |rw t q=>
     refine ⟨0, .inl (by simp [SV.nms,SV.n1]), .inr ⟨rfl, ?_⟩⟩
     simp only [q9,uG] at h1
     split at h1
     ·rename_i A hA
      cases hp:D.pu t with
      |false=>rw [hp] at h1;simp at h1
      |true=>
       rw [hp,K5] at h1
       simp only [KZ,Li] at h1
       obtain ⟨rfl,rfl⟩:=h1
       have hq:q.ok A:=hO _ (by simp)
       cases hk:q.kd with
       |nil=>simp [SV.av,hk,AV.ids,AV.bF] at hid
       |aP=>simp [SV.av,hk,AV.ids,AV.bF] at hid
       |own=>
        simp only [SV.av,hk,AV.ids,AV.bF,K9] at hid
        unfold Row.ok at hq
        rw [hk] at hq
        exact ⟨t,A,kP hA,hid▸hq.1⟩
     ·simp at h1
    |_=>exact other h1
   ·obtain ⟨nm,q1,q2⟩:=o8 h2 (fun p hp=>hO p (LF _ hp)) id hid
    exact ⟨nm, .inr q1,q2⟩
  ·simp at h
def SV.kU (v:SV τ dn):Bool:=v.fK
def SV.nvg:SV τ dn->Bool
 | .agg cs| .fn _ cs| .bf _ cs=>cs.all SV.kU
 |a=>a.kU
theorem HE {v:SV τ dn} (h:v.kU=true):(v.av D.toTE N).bF=v.n1.map N.ι:=by
 cases v<;>simp [SV.kU,SV.fK] at h<;>simp [SV.av,AV.bF,SV.n1]
theorem ry:∀{cs:List (SV τ dn)},cs.all SV.kU=true->(cs.map (SV.av D.toTE N)).flatMap AV.bF=(cs.flatMap SV.n1).map N.ι
 |[],_=>rfl
 |v::r,h=>by
  rw [List.all_cons,K2] at h
  rw [Lf,L6,L6,LX,HE h.1,ry h.2]
theorem HF {v:SV τ dn} (h:v.nvg=true):(v.av D.toTE N).ids=v.nms.map N.ι:=by
 cases v with
 |agg cs=>simp only [SV.av,AV.ids,SV.nms,SV.bk];exact ry h
 |fn f cs=>simp only [SV.av,AV.ids,SV.nms,SV.bk];exact ry h
 |bf f cs=>simp only [SV.av,AV.ids,SV.nms,SV.bk];exact ry h
 |vg p c v=>simp [SV.nvg,SV.kU,SV.fK] at h
 |rw t r=>simp [SV.nvg,SV.kU,SV.fK] at h
 |cK t r i o=>simp [SV.nvg,SV.kU,SV.fK] at h
 |_=>simp [SV.av,AV.ids,AV.bF,SV.nms,SV.n1]
theorem zk:∀{vs:List (SV τ dn)},vs.all SV.nvg=true->(vs.map (SV.av D.toTE N)).flatMap AV.ids=(vs.flatMap SV.nms).map N.ι
 |[],_=>rfl
 |v::r,h=>by
  rw [List.all_cons,K2] at h
  rw [Lf,L6,L6,LX,HF h.1,zk h.2]
def SV.mW:SV τ dn->Bool
 | .vl _ _=>true
 |_=>false
def SV.mX:SV τ dn->Bool
 | .agg cs=>cs.any SV.mW
 |a=>a.mW
def SV.lb:SV τ dn->Bool
 | .aJ vs=>vs.any SV.mX
 |a=>a.mX
theorem HG {v:SV τ dn} (h:v.mW=true):(v.av D.toTE N).c8=false:=by
 cases v<;>simp [SV.mW] at h<;>rfl
theorem zl {v:SV τ dn} (h:v.mX=true):(v.av D.toTE N).dx=false:=by
 cases v with
 |agg cs=>
  simp only [SV.mX,MT] at h
  obtain ⟨c,hc,h⟩:=h
  simp only [SV.av,AV.dx,SV.bk]
  rw [Bool.eq_false_iff];intro hh
  rw [K6] at hh
  have:=hh _ (List.mem_map_of_mem hc)
  rw [HG h] at this;simp at this
 |vl t xs=>rfl
 |_=>simp [SV.mX,SV.mW] at h
theorem HH {v:SV τ dn} (h:v.lb=true):(v.av D.toTE N).nob=false:=by
 cases v with
 |aJ cs=>
  simp only [SV.lb,MT] at h
  obtain ⟨c,hc,h⟩:=h
  simp only [SV.av,AV.nob,SV.bk]
  rw [Bool.eq_false_iff];intro hh
  rw [K6] at hh
  have:=hh _ (List.mem_map_of_mem hc)
  rw [zl h] at this;simp at this
 |agg cs=>exact zl (v:= .agg cs) h
 |vl t xs=>rfl
 |_=>simp [SV.lb,SV.mX,SV.mW] at h
def SS.nr (st:SS τ dn) (x:Arg):List Nat:=match st.ev x with
 |some v=>v.nr
 |none=>[]
def AO.nrs (st:SS τ dn):AO->List Nat
 | .load _ x| .nilc x| .fad _ x| .len _ x| .isn _ _ x| .clr _ x| .b2s x=>st.nr x
 | .store _ x _| .iad _ x _| .iap _ _ x _| .slc _ x _ _ _| .mup _ x _ _| .mlk _ _ x _=>st.nr x
 | .app _ _ s x=>st.nr x++st.nr s
 | .cpy _ x y=>st.nr y++st.nr x
 |_=>[]
def AO.kn (st:SS τ dn):AO->Bool
 | .load _ x| .nilc x| .fad _ x| .len _ x| .isn _ _ x| .clr _ x| .b2s x=>(st.ev x).isSome
 | .store _ x _| .iad _ x _| .iap _ _ x _| .slc _ x _ _ _| .mup _ x _ _| .mlk _ _ x _=>(st.ev x).isSome
 | .app _ _ s x=>(st.ev x).isSome&&(st.ev s).isSome
 | .cpy _ x y=>(st.ev y).isSome&&(st.ev x).isSome
 |_=>true
def SS.ngd (st:SS τ dn) (x:Arg):Bool:=match st.ev x with
 |some (.vg _ _ _)=>false
 |_=>true
theorem HI (R:aW D N st σ g) {k:Nat} (hk:ao.kn st=true) (hg:ao.lk.all st.ngd=true) (hrow:∀x,x∈ao.lk->∀v,st.ev x=some v->v.isRw=true->∀id,id∈(v.av D.toTE N).bn->fL st id):∀id,id∈(ao.ae k (aE σ)).acc g++(ao.ae k (aE σ)).see g->∃nm,nm∈ao.nrs st/\(id=N.ι nm\/(nm=0/\fL st id)):=by
 intro id h
 have h:=rr id h
 have one:∀{x:Arg},x∈ao.lk->(st.ev x).isSome=true->id∈(aE σ x).bn->∃nm,nm∈st.nr x/\(id=N.ι nm\/(nm=0/\fL st id)):=fun {x} hm hx h=>by
  obtain ⟨v,hv⟩:=MU.1 hx
  rw [R.ev hv] at h
  have uL:=K6.1 hg x hm
  unfold SS.ngd at uL
  rw [hv] at uL
  have HJ:st.nr x=v.nr:=by unfold SS.nr;rw [hv]
  rw [HJ]
  cases hr:v.isRw with
  |true=>
   refine ⟨0, ?_, .inr ⟨rfl,hrow x hm v hv hr id h⟩⟩
   cases v<;>first|(simp [SV.isRw] at hr;done)|simp [SV.nr]
  |false=>
   obtain ⟨nm,h1,h2⟩:=Hy v id (by cases v<;>first|rfl|(simp at uL;done)|(simp [SV.isRw] at hr;done)) h
   exact ⟨nm,h1, .inl h2⟩
 cases ao<;>simp only [AO.refs] at h<;>simp only [AO.kn] at hk<;>simp only [AO.nrs]<;>first
  |exact one (by simp [AO.lk]) hk h
  |(simp at h;done)
  |skip
 ·simp only [K2] at hk
  rcases LD.1 h with h|h
  ·obtain ⟨nm,h1,h2⟩:=one (by simp [AO.lk]) hk.1 h;exact ⟨nm,LL _ h1,h2⟩
  ·obtain ⟨nm,h1,h2⟩:=one (by simp [AO.lk]) hk.2 h;exact ⟨nm,LF _ h1,h2⟩
 ·simp only [K2] at hk
  rcases LD.1 h with h|h
  ·obtain ⟨nm,h1,h2⟩:=one (by simp [AO.lk]) hk.1 h;exact ⟨nm,LL _ h1,h2⟩
  ·obtain ⟨nm,h1,h2⟩:=one (by simp [AO.lk]) hk.2 h;exact ⟨nm,LF _ h1,h2⟩
theorem HK [DecidableEq τ] {r:SR τ dn} (h:kS D st ao=some r):ao.kn st=true:=by
 cases ao<;>first
  |rfl
  |skip
 case slc sz x lo hi mx=>
  simp only [AO.kn]
  simp only [kS] at h
  cases hb:(AO.lk (.slc sz x lo hi mx)).any st.rwa with
  |true=>rw [hb,K5] at h;simp [jQ] at h
  |false=>
   rw [hb,Ln] at h
   cases mx with
   |some m=>simp [sx] at h
   |none=>
    simp only [sx] at h
    split at h
    ·rename_i a _ _ h1 _ _;rw [h1];rfl
    ·simp at h
 all_goals simp only [AO.kn]
 all_goals simp only [kS] at h
 all_goals
  cases hb:(AO.lk _).any st.rwa with
  |true=>
   rw [hb,K5] at h
   simp only [jQ] at h
   first
    |(simp at h;done)
    |(split at h<;>first|(simp at h;done)|(simp_all;done)|(split at h<;>first|(simp at h;done)|(simp_all;done)))
  |false=>
   rw [hb,Ln] at h
   simp only [sx] at h
   first
    |(simp at h;done)
    |(simp only [My] at h;obtain ⟨_,h1,_⟩:=h;rw [h1];rfl)
    |(split at h<;>first|(simp at h;done)|(simp_all;done))
end
end Go.Proofs.Ytpoikkflcpklgaa
