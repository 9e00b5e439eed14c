/- Regions of operations upon values with letters. No condition. -/
import Derived.WalkKit
import Derived.Lib.Hide
import Derived.Lib.QuietBelow
import Derived.BigQuiet
import Derived.Deep.Slices
import Derived.Below
import Derived.ShutString
import Derived.OpenShut
import Derived.SizedLaws
import Derived.Deep.OwnRows
import Derived.Test.YtimomnfobfjggaaPAvRng
import Derived.Laws.Bits64
set_option linter.unusedSimpArgs false
set_option linter.unusedVariables false
namespace Go.Proofs.Ytimomnfobfjggaa
variable {ao:AO} {a:AV} {x y:Arg} {op:BinOp} {neg b l:Bool} {s:ByteArray} {f:FuncId} {c:Int} {k:IntKind} {as_:List AV} {vs:List Value} {kd:NK} {n j nm i o:Nat} {σ:Nat->AV} {g:Nat->Option Bk} {lo hi:Option Int} {m d:Option Nat} {P:Program} {α τ:Type} {R:Value->AV->Prop} {w:World} {A:List (Nat×List α)} {dn:τ->Type}
open Go.RowKit Go.Sort
abbrev Ou:=@forall_eq
abbrev Ow:=@and_self
abbrev OU:=@List.map_nil
abbrev Pa:=@List.not_mem_nil
abbrev Pv:=@List.map_set
abbrev PB:=@forall_eq_or_imp
abbrev PC:=@Bool.eq_iff_iff
abbrev PE:=@Option.bind_eq_some_iff
abbrev PK:=@BitVec.toNat_ofNat
abbrev PL:=@List.map_map
abbrev PM:=@Nat.lt_succ_of_lt
abbrev PW:=@Nat.lt_of_le_of_lt
abbrev P1:=@Bool.eq_false_iff
abbrev P8:=@Int.mul_le_mul_of_nonneg_left
abbrev B (x:UInt8):Value:= .int .u8 x.toNat
abbrev I (x:Int):Value:= .int .i64 x
theorem bt {a b:World} (h:Below w.heap.size w a) (k:Below a.heap.size a b):Below w.heap.size w b:=h.trans (k.mono h.size)
@[go_sem] theorem NJ {a : Addr} {d : Nat} {os : Array Obj} (h : (w.cell? a).isSome = true) : (grow (redrawn w d) os).cell? a = w.cell? a := by
 obtain ⟨v,hv⟩:=P2.1 h
 rw [hv];exact cell_regrown hv d os
theorem r2 {x:Int×Int} {a b:Int} (h:x=(a,b)):Ending.returned (.tuple #[.int .i64 a, .int .i64 b])= .returned (.tuple #[.int .i64 x.1, .int .i64 x.2]):=by subst h;rfl
theorem ri {a b:Int} (h:a=b):Ending.returned (.int k a)=Ending.returned (.int k b):=by rw [h]
theorem rb {a:Bool} (h:a=b):Ending.returned (.bool a)=Ending.returned (.bool b):=by rw [h]
theorem I1 {a:Bool} (h:a=true) (k:b=true):(a&&b)=true:=by rw [h,k];rfl
open Go.RowKit Go.ChangeShapes Go.WideShapes Go.Deep
class aY (α:Type) where
 size:Nat
 rep:World->Nat->List Value->α->Prop
 len:∀{w B cs x},rep w B cs x->cs.length=size
 bL:∀{w w':World} {B cs x},rep w B cs x->(∀p:Addr,p.block<B->w'.cell? p=w.cell? p)->rep w' B cs x
 more:∀{w B B' cs x},rep w B cs x->B<=B'->rep w B' cs x
instance:aY Int where
 size:=1
 rep _ _ cs x:=cs=[I x]/\ -9223372036854775808<=x/\x<=9223372036854775807
 len h:=by rw [h.1];rfl
 bL h _:=h
 more h _:=h
instance:aY UInt8 where
 size:=1
 rep _ _ cs x:=cs=[B x]
 len h:=by rw [h];rfl
 bL h _:=h
 more h _:=h
structure ec where
 n:Nat
 lt:n<18446744073709551616
instance:aY ec where
 size:=1
 rep _ _ cs x:=cs=[.int .u64 (x.n:Int)]
 len h:=by rw [h];rfl
 bL h _:=h
 more h _:=h
instance:aY Bool where
 size:=1
 rep _ _ cs x:=cs=[.bool x]
 len h:=by rw [h];rfl
 bL h _:=h
 more h _:=h
instance:aY ByteArray where
 size:=1
 rep _ _ cs x:=cs=[.string x]/\x.size<=9223372036854775807
 len h:=by rw [h.1];rfl
 bL h _:=h
 more h _:=h
instance {α β:Type} [aY α] [aY β]:aY (α×β) where
 size:=aY.size α+aY.size β
 rep w B cs x:=∃c0 c1,cs=c0++c1/\aY.rep w B c0 x.1/\aY.rep w B c1 x.2
 len:=by rintro w B cs x ⟨c0,c1,rfl,h0,h1⟩;rw [Pk,aY.len h0,aY.len h1]
 bL:=by rintro w w' B cs x ⟨c0,c1,rfl,h0,h1⟩ hk;exact ⟨c0,c1,rfl,aY.bL h0 hk,aY.bL h1 hk⟩
 more:=by rintro w B B' cs x ⟨c0,c1,rfl,h0,h1⟩ hk;exact ⟨c0,c1,rfl,aY.more h0 hk,aY.more h1 hk⟩
def I2 [aY α] (w:World) (B b off:Nat) (xs:List α):Prop:=
 ∀i x,xs[i]? =some x->∃cs,aY.rep w B cs x/\∀j u,cs[j]? =some u->w.cell? ⟨b,off+i*aY.size α+j,none⟩=some u
instance {α:Type} [aY α]:aY (List α) where
 size:=1
 rep w B cs xs:=∃A n c,cs=[.slice A n c]/\n=xs.length/\n<=c/\c<=9223372036854775807/\(xs=[]\/∃b off,A=some ⟨b,off,none⟩/\b<B/\I2 w B b off xs)
 len:=by rintro w B cs x ⟨A,n,c,rfl,_⟩;rfl
 bL:=by
  rintro w w' B cs xs ⟨A,n,c,rfl,hn,hc,hm,h⟩ hk
  refine ⟨A,n,c,rfl,hn,hc,hm,h.imp id ?_⟩
  rintro ⟨b,off,hA,hb,hs⟩
  refine ⟨b,off,hA,hb,fun i x hx=> ?_⟩
  obtain ⟨cs,h1,h2⟩:=hs i x hx
  exact ⟨cs,aY.bL h1 hk,fun j u hu=>(hk _ hb).trans (h2 j u hu)⟩
 more:=by
  rintro w B B' cs xs ⟨A,n,c,rfl,hn,hc,hm,h⟩ hk
  refine ⟨A,n,c,rfl,hn,hc,hm,h.imp id ?_⟩
  rintro ⟨b,off,hA,hb,hs⟩
  refine ⟨b,off,hA,Oz hb hk,fun i x hx=> ?_⟩
  obtain ⟨cs,h1,h2⟩:=hs i x hx
  exact ⟨cs,aY.more h1 hk,h2⟩
@[reducible] def aY.via {β:Type} [aY β] (f : α -> β) : aY α where
 size:=aY.size β
 rep w B cs x:=aY.rep w B cs (f x)
 len h:=aY.len h
 bL h hk:=aY.bL h hk
 more h hk:=aY.more h hk
open Go.RowKit
@[ext] structure tp where
 nodes:Int
 data:Int
 more:Int
 turn:Int
instance:aY tp:=aY.via (fun x=>(x.nodes,x.data,x.more,x.turn))
@[go_sem, simp] theorem tp.eta (x : tp) : (⟨x.nodes, x.data, x.more, x.turn⟩ : tp) = x := rfl
@[ext] structure tq where
 holder:Int
 till:Int
 token:Int
instance:aY tq:=aY.via (fun x=>(x.holder,x.till,x.token))
@[go_sem, simp] theorem tq.eta (x : tq) : (⟨x.holder, x.till, x.token⟩ : tq) = x := rfl
@[ext] structure Fence where
 seen:Int
instance:aY Fence:=aY.via (fun x=>x.seen)
@[go_sem, simp] theorem Fence.eta (x : Fence) : (⟨x.seen⟩ : Fence) = x := rfl
@[ext] structure o7 where
 time:Int
 who:Int
instance:aY o7:=aY.via (fun x=>(x.time,x.who))
@[go_sem, simp] theorem o7.eta (x : o7) : (⟨x.time, x.who⟩ : o7) = x := rfl
@[ext] structure la where
 at_:o7
 data:ByteArray
instance:aY la:=aY.via (fun x=>(x.at_,x.data))
@[go_sem, simp] theorem la.eta (x : la) : (⟨x.at_, x.data⟩ : la) = x := rfl
@[ext] structure tr where
 level:Int
 now:Int
 burst:Int
 rate:Int
instance:aY tr:=aY.via (fun x=>(x.level,x.now,x.burst,x.rate))
@[go_sem, simp] theorem tr.eta (x : tr) : (⟨x.level, x.now, x.burst, x.rate⟩ : tr) = x := rfl
@[ext] structure Term where
 begin:Int
 end_:Int
instance:aY Term:=aY.via (fun x=>(x.begin,x.end_))
@[go_sem, simp] theorem Term.eta (x : Term) : (⟨x.begin, x.end_⟩ : Term) = x := rfl
@[ext] structure tt where
 kind:Int
 op:Int
 node:Int
 copy:la
instance:aY tt:=aY.via (fun x=>(x.kind,x.op,x.node,x.copy))
@[go_sem, simp] theorem tt.eta (x : tt) : (⟨x.kind, x.op, x.node, x.copy⟩ : tt) = x := rfl
@[ext] structure tu where
 no:Int
 members:ec
instance:aY tu:=aY.via (fun x=>(x.no,x.members))
@[go_sem, simp] theorem tu.eta (x : tu) : (⟨x.no, x.members⟩ : tu) = x := rfl
@[ext] structure tv where
 block:Int
 data:ByteArray
instance:aY tv:=aY.via (fun x=>(x.block,x.data))
@[go_sem, simp] theorem tv.eta (x : tv) : (⟨x.block, x.data⟩ : tv) = x := rfl
@[ext] structure Act where
 kind:Int
 n:Int
 data:ByteArray
instance:aY Act:=aY.via (fun x=>(x.kind,x.n,x.data))
@[go_sem, simp] theorem Act.eta (x : Act) : (⟨x.kind, x.n, x.data⟩ : Act) = x := rfl
@[ext] structure tw where
 kind:Int
 bid:Int
 node:Int
 copy:la
instance:aY tw:=aY.via (fun x=>(x.kind,x.bid,x.node,x.copy))
@[go_sem, simp] theorem tw.eta (x : tw) : (⟨x.kind, x.bid, x.node, x.copy⟩ : tw) = x := rfl
@[ext] structure tx where
 promised:o7
 kept:la
instance:aY tx:=aY.via (fun x=>(x.promised,x.kept))
@[go_sem, simp] theorem tx.eta (x : tx) : (⟨x.promised, x.kept⟩ : tx) = x := rfl
@[ext] structure tz where
 time:Int
 phase:Int
 own:ByteArray
 value:ByteArray
 best:la
 heard:ec
instance:aY tz:=aY.via (fun x=>(x.time,x.phase,x.own,x.value,x.best,x.heard))
@[go_sem, simp] theorem tz.eta (x : tz) : (⟨x.time, x.phase, x.own, x.value, x.best, x.heard⟩ : tz) = x := rfl
@[ext] structure Ask where
 op:Int
 kind:Int
 phase:Int
 data:ByteArray
 best:la
 heard:ec
instance:aY Ask:=aY.via (fun x=>(x.op,x.kind,x.phase,x.data,x.best,x.heard))
@[go_sem, simp] theorem Ask.eta (x : Ask) : (⟨x.op, x.kind, x.phase, x.data, x.best, x.heard⟩ : Ask) = x := rfl
@[ext] structure Step where
 kind:Int
 n:Int
 data:ByteArray
instance:aY Step:=aY.via (fun x=>(x.kind,x.n,x.data))
@[go_sem, simp] theorem Step.eta (x : Step) : (⟨x.kind, x.n, x.data⟩ : Step) = x := rfl
open Go.RowKit
inductive R2 (R:Value->AV->Prop):List Value->List AV->Prop
 |nil:R2 R [] []
 |cons {v:Value} {a:AV} {vs:List Value} {as_:List AV} (h:R v a) (t:R2 R vs as_):R2 R (v::vs) (a::as_)
theorem R2.len (h:R2 R vs as_):vs.length=as_.length:=by
 induction h with
 |nil=>rfl
 |cons _ _ ih=>simp [ih]
theorem R2.get (h:R2 R vs as_):∀(i:Nat) v a,vs[i]? =some v->as_[i]? =some a->R v a:=by
 induction h with
 |nil=>intro i v a hv;simp at hv
 |cons h _ ih=>
  intro i v a hv ha
  cases i with
  |zero=>simp at hv ha;subst hv;subst ha;exact h
  |succ i=>exact ih i v a (by simpa using hv) (by simpa using ha)
theorem R2.rc {E:Env} (h:R2 (aj E) vs as_):RC E vs.toArray as_:=⟨by simpa using h.len,fun j u c hu hc=>h.get j u c (by simpa using hu) hc⟩
theorem I3 (h:Fn P f as_ (.v (.bool true))) (hG:dW (E0 w fun b=>b<w.heap.size)) (bF:R2 (aj (E0 w fun b=>b<w.heap.size)) vs as_):
  Calls P f vs.toArray w fun e w'=>e= .returned (.bool true)/\Below w.heap.size w w':=
 (h w _ vs.toArray (fun _ h=>h) hG bF.rc).mono fun e w' ⟨v,he,hr,hb⟩=>⟨he.trans (by rw [hr.iw]),hb⟩
open Go.RowKit
inductive Cn where
 |lt (x y:Int)
 |le (x y:Int)
 |eq (x y:Int)
 |ey (x y:UInt8)
 |ly (x y:UInt8)
 |ez (x y:ByteArray)
 |lz (x y:ByteArray)
 |b (x:Bool)
 |eb (x y:Bool)
 |not (c:Cn)
 |and (c d:Cn)
 |or (c d:Cn)
def Cn.den:Cn->Bool
 | .lt x y=>decide (x<y)
 | .le x y=>decide (x<=y)
 | .eq x y=>x==y
 | .ey x y=>x==y
 | .ly x y=>decide (x<y)
 | .ez x y=>lZ x y
 | .lz x y=>Op.bytesLess x.toList y.toList
 | .b x=>x
 | .eb x y=>x==y
 | .not c=> !c.den
 | .and c d=>c.den&&d.den
 | .or c d=>c.den||d.den
def Cn.tf:Cn->Bool->Prop
 | .lt x y,true=>x<y
 | .lt x y,false=>y<=x
 | .le x y,true=>x<=y
 | .le x y,false=>y<x
 | .eq x y,true=>x=y
 | .eq x y,false=>¬x=y
 | .ey x y,true=>x=y
 | .ey x y,false=>¬x=y
 | .ly x y,true=>x<y
 | .ly x y,false=>y<=x
 | .ez x y,true=>x=y
 | .ez x y,false=>¬x=y
 | .lz x y,p=>Op.bytesLess x.toList y.toList=p
 | .b x,p=>x=p
 | .eb x y,true=>x=y
 | .eb x y,false=>¬x=y
 | .not c,p=>c.tf (!p)
 | .and c d,true=>c.tf true/\d.tf true
 | .and c d,false=>c.tf false\/d.tf false
 | .or c d,true=>c.tf true\/d.tf true
 | .or c d,false=>c.tf false/\d.tf false
theorem BP {a b:ByteArray}:lZ a b=true↔a=b:=by
 unfold lZ
 rw [beq_iff_eq]
 constructor
 ·intro h
  have:a.data=b.data:=by rw [<-PT];exact h
  cases a;cases b;simp_all
 ·intro h;rw [h]
theorem Cn.iY (c:Cn) (p:Bool):c.tf p↔c.den=p:=by
 induction c generalizing p with
 |lt x y=>cases p<;>simp [tf,den]
 |le x y=>cases p<;>simp [tf,den]
 |eq x y=>cases p<;>simp [tf,den]
 |ey x y=>cases p<;>simp [tf,den]
 |ly x y=>cases p<;>simp [tf,den]
 |ez x y=>
  cases p
  ·simp only [tf,den,P1,ne_eq,BP]
  ·simp only [tf,den,BP]
 |lz x y=>cases p<;>simp [tf,den]
 |b x=>cases p<;>simp [tf,den]
 |eb x y=>cases p<;>simp [tf,den]
 |not c ih=>simp only [tf,den,ih];cases c.den<;>cases p<;>simp
 |and c d xG xH=>cases p<;>simp [tf,den,xG,xH]<;>cases c.den<;>simp
 |or c d xG xH=>cases p<;>simp [tf,den,xG,xH]<;>cases c.den<;>simp
inductive RK where
 |nil
 |own
 |aU
structure Row (α:Type) where
 kd:RK
 id:Nat
 n:Nat
 xs:List α
variable {r:Row α}
def Row.no (α:Type):Row α:=⟨.nil,0,0,[]⟩
def Row.at (α:Type) (id n:Nat):Row α:=⟨.own,id,n,[]⟩
def Row.fix (α:Type) (xs:List α):Row α:=⟨.aU,0,0,xs⟩
inductive SV (τ:Type) (dn:τ->Type) where
 |vi (x:Int)
 |vn (x:Int)
 |vy (x:UInt8)
 |vu (x:ec)
 |vw (q:IntKind) (x:Int)
 |vb (c:Cn)
 |vt (x:Bool)
 |vz (s:ByteArray)
 |vo (x:Value)
 |agg (cs:List (SV τ dn))
 |aK (cs:List (SV τ dn))
 |vl (t:τ) (xs:List (dn t))
 |vc (sz:Nat) (els:List (List (SV τ dn)))
 |emp
 |pim (cs:List (SV τ dn)) (o:Nat)
 |ref (nm sz i o:Nat)
 |own (nm sz:Nat)
 |part (nm sz off len:Nat)
 |fn (f:FuncId) (cs:List (SV τ dn))
 |bf (f:FuncId) (cs:List (SV τ dn))
 |mp (nm:Nat)
 |rw (t:τ) (r:Row (dn t))
 |cQ (t:τ) (r:Row (dn t)) (i o:Nat)
 |vg (p:Bool) (c:Cn) (v:SV τ dn)
 |dead
section
variable {τ:Type} {dn:τ->Type}
mutual
def SV.fr (p:Nat->Bool):SV τ dn->Bool
 | .own nm _| .part nm _ _ _| .ref nm _ _ _| .mp nm=>p nm
 | .agg cs| .aK cs| .pim cs _| .fn _ cs| .bf _ cs=>SV.dM p cs
 | .vc _ els=>SV.ld p els
 | .vg _ _ v=>SV.fr p v
 |_=>true
def SV.dM (p:Nat->Bool):List (SV τ dn)->Bool
 |[]=>true
 |v::r=>SV.fr p v&&SV.dM p r
def SV.ld (p:Nat->Bool):List (List (SV τ dn))->Bool
 |[]=>true
 |cs::r=>SV.dM p cs&&SV.ld p r
end
end
structure TE (τ:Type) (dn:τ->Type) where
 sz:τ->Nat
 ea:(ρ:Nat->AV)->(t:τ)->dn t->List AV
structure aC where
 ι:Nat->Nat
 ln:Nat->Nat
 ρ:Nat->AV
variable {N:aC}
section
variable {τ:Type} {dn:τ->Type} (E:TE τ dn) (N:aC)
mutual
def SV.av:SV τ dn->AV
 | .vi x=> .v (.int .i64 x)
 | .vn x=> .v (.int .i64 x)
 | .vy x=> .v (.int .u8 x.toNat)
 | .vu x=> .v (.int .u64 (x.n:Int))
 | .vw q x=> .v (.int q x)
 | .vb c=> .v (.bool c.den)
 | .vt x=> .v (.bool x)
 | .vz s=> .v (.string s)
 | .vo x=> .v x
 | .agg cs=> .agg (SV.cu cs)
 | .aK cs=> .aK (SV.cu cs)
 | .vl ty xs=> .aU (E.sz ty) (xs.map (E.ea N.ρ ty))
 | .vc sz els=> .aU sz (SV.bR els)
 | .emp=> .emp
 | .pim cs o=> .pim (SV.cu cs) o
 | .ref nm sz i o=> .ref (N.ι nm) sz i o
 | .own nm sz=> .own (N.ι nm) sz 0 (N.ln nm)
 | .part nm sz off len=> .own (N.ι nm) sz off len
 | .fn f cs=> .fn f (SV.cu cs)
 | .bf f cs=> .bf f (SV.cu cs)
 | .mp nm=> .mp (N.ι nm)
 | .rw t r=>match r.kd with
  | .nil=> .emp
  | .own=> .own r.id (E.sz t) 0 r.n
  | .aU=> .aU (E.sz t) (r.xs.map (E.ea N.ρ t))
 | .cQ t r i o=>match r.kd with
  | .nil=> .dead
  | .own=> .ref r.id (E.sz t) i o
  | .aU=>match r.xs[i]? with
   |some x=> .pim (E.ea N.ρ t x) o
   |none=> .dead
 | .vg p c v=>if c.den=p then SV.av v else .v undef
 | .dead=> .dead
def SV.cu:List (SV τ dn)->List AV
 |[]=>[]
 |v::r=>SV.av v::SV.cu r
def SV.bR:List (List (SV τ dn))->List (List AV)
 |[]=>[]
 |cs::r=>SV.cu cs::SV.bR r
end
theorem SV.bu (cs:List (SV τ dn)):SV.cu E N cs=cs.map (SV.av E N):=by
 induction cs with
 |nil=>simp [SV.cu]
 |cons v r ih=>simp [SV.cu,ih]
theorem SV.iE (els:List (List (SV τ dn))):SV.bR E N els=els.map fun cs=>cs.map (SV.av E N):=by
 induction els with
 |nil=>simp [SV.bR]
 |cons v r ih=>simp [SV.bR,ih,SV.bu]
inductive SB (τ:Type) (dn:τ->Type) where
 |bl (t:τ) (xs:List (dn t))
 |bc (sz:Nat) (els:List (List (SV τ dn)))
 |mc (els:List (List (SV τ dn)))
 |ar (t:τ) (A:List (Nat×List (dn t)))
def SB.av:SB τ dn->Bk
 | .bl ty xs=>⟨E.sz ty,xs.map (E.ea N.ρ ty)⟩
 | .bc sz els=>⟨sz,SV.bR E N els⟩
 | .mc els=>⟨0,SV.bR E N els⟩
 | .ar ty _=>⟨E.sz ty,[]⟩
def SB.len:SB τ dn->Nat
 | .bl _ xs=>xs.length
 | .bc _ els=>els.length
 | .mc _=>0
 | .ar _ _=>0
def SB.iF:SB τ dn->Bool
 | .ar _ _=>true
 |_=>false
def SB.xI:SB τ dn->Bool
 | .mc _=>true
 |_=>false
theorem SB.I4 (B:SB τ dn) (h:B.xI=false):(B.av E N).els.length=B.len:=by
 cases B with
 |bl t xs=>simp [SB.av,SB.len]
 |bc sz els=>simp [SB.av,SB.len,SV.iE]
 |mc els=>simp [SB.xI] at h
 |ar t A=>simp [SB.av,SB.len]
end
section
variable {τ:Type} {dn:τ->Type}
def SV.cells:SV τ dn->List (SV τ dn)
 | .agg cs=>cs
 |a=>[a]
def SV.one:SV τ dn->Bool
 | .agg _| .aK _| .dead| .vg _ _ _| .cQ _ _ _ _=>false
 | .vo x=>x.oneCell'
 |_=>true
def SV.gN:SV τ dn->Bool
 | .agg _=>true
 |a=>a.one
theorem SV.qP {E:TE τ dn} {v:SV τ dn} (h:v.gN=true):(v.av E N).cells=v.cells.map (SV.av E N):=by
 cases v<;>simp [SV.gN,SV.one] at h<;>first
  |(simp [SV.av,AV.cells,SV.cells,SV.bu];done)
  |(simp only [SV.av,SV.cells,Om,OU];(repeat' split)<;>rfl)
theorem SV.I5 {E:TE τ dn} {v:SV τ dn} (h:v.one=true):(v.av E N).one=true:=by
 cases v<;>simp [SV.one] at h<;>first|exact h|rfl|(simp only [SV.av];(repeat' split)<;>rfl)
theorem SV.I6 {E:TE τ dn} {v:SV τ dn} (h:v.gN=true):(v.av E N).gN=true:=by
 cases v<;>simp [SV.gN,SV.one] at h<;>first|exact h|rfl|(simp only [SV.av];(repeat' split)<;>rfl)
end
section
variable {α:Type}
def dw (A:List (Nat×α)) (id:Nat):Prop:=id∈A.map Prod.fst
def BQ (d:α):List (Nat×α)->Nat->α
 |[],_=>d
 |(j,x)::r,id=>if id=j then x else BQ d r id
def fy (A:List (Nat×List α)) (id:Nat):List α:=BQ [] A id
theorem BR {id:Nat}:¬dw ([]:List (Nat×α)) id:=by simp [dw]
theorem qQ {x:α} {A:List (Nat×α)} {id:Nat}:dw ((j,x)::A) id↔id=j\/dw A id:=by simp [dw]
theorem BS {x:List α} {A:List (Nat×List α)} {id:Nat}:fy ((j,x)::A) id=if id=j then x else fy A id:=rfl
def Row.get (r:Row α) (A:List (Nat×List α)):List α:=match r.kd with
 | .nil=>[]
 | .own=>fy A r.id
 | .aU=>r.xs
def Row.ok (r:Row α) (A:List (Nat×List α)):Prop:=match r.kd with
 | .own=>dw A r.id/\(fy A r.id).length=r.n
 |_=>True
@[simp, grind =] theorem Row.NL {id:Nat} : (Row.at α id n).id = id := rfl
@[simp, grind =] theorem Row.NM {id:Nat} : (Row.at α id n).n = n := rfl
@[simp, grind =] theorem Row.NN {id:Nat} : (Row.at α id n).kd = .own := rfl
@[simp, grind =] theorem Row.NO : (Row.no α).kd = .nil := rfl
@[simp, grind =] theorem Row.NP {xs : List α} : (Row.fix α xs).kd = .aU := rfl
@[simp, grind =] theorem Row.NQ {xs : List α} : (Row.fix α xs).xs = xs := rfl
def Row.nO (r:Row α) (A:List (Nat×List α)):Prop:=r.kd= .own/\dw A r.id/\(fy A r.id).length=r.n
end
open Go.RowKit
def bJ (x:Int):Prop:= -9223372036854775808<=x/\x<=9223372036854775807
theorem bJ.wr {x:Int} (h:bJ x):IntKind.i64.wrap x=x:=by rw [IntKind.wrap_i64];unfold bJ at h;omega
def uN (n:Nat):ec:=⟨n%18446744073709551616,Nat.mod_lt _ (by decide)⟩
theorem xJ (h:n<18446744073709551616):(uN n).n=n:=Pr h
theorem wrap_u8 (x:Int):IntKind.u8.wrap x=x%256:=by simp [IntKind.wrap,IntKind.bits,IntKind.signed]
theorem wrap_u64 (x:Int):IntKind.u64.wrap x=x%18446744073709551616:=by simp [IntKind.wrap,IntKind.bits,IntKind.signed]
theorem bits_nat (op:BinOp) (k:IntKind) (a b:Nat):bits op k a b=k.wrap ((match op with
  | .and=>BitVec.ofNat k.bits a&&&BitVec.ofNat k.bits b
  | .or=>BitVec.ofNat k.bits a|||BitVec.ofNat k.bits b
  | .xor=>BitVec.ofNat k.bits a^^^BitVec.ofNat k.bits b
  |_=>BitVec.ofNat k.bits a&&& ~~~BitVec.ofNat k.bits b).toNat:Int):=by
 unfold bits;simp only [BitVec.ofInt_natCast]
 cases op<;>rfl
def hZ:BinOp->Nat->Nat->Nat
 | .and,a,b=>a&&&b
 | .or,a,b=>a|||b
 | .xor,a,b=>a^^^b
 |_,a,b=>a&&&(a^^^b)
theorem I7 (a b:Nat) (n:Nat) (ha:a<2^n):(BitVec.ofNat n a&&& ~~~BitVec.ofNat n b).toNat=a&&&(a^^^(b%2^n)):=by
 rw [BitVec.toNat_and,BitVec.toNat_not,PK,PK,Pr ha]
 apply Nat.eq_of_testBit_eq
 intro i
 rw [Nat.testBit_and,Nat.testBit_and,Nat.testBit_xor,show 2^n - 1 - b%2^n=2^n - (b%2^n+1) by omega,Nat.testBit_two_pow_sub_succ (Nat.mod_lt _ (Nat.two_pow_pos n))]
 cases h:a.testBit i with
 |false=>simp
 |true=>
  have hi:i<n:=by
   by_cases hi:i<n
   ·exact hi
   ·exfalso
    have:a<2^i:=Oz ha (Nat.pow_le_pow_right (by decide) (by omega))
    rw [Nat.testBit_lt_two_pow this] at h;simp at h
  simp [hi]
theorem xK (op:BinOp) (k:IntKind) (a b:Nat) (ha:a<2^k.bits) (hb:b<2^k.bits):bits op k a b=k.wrap (hZ op a b:Nat):=by
 rw [bits_nat]
 have h1:=Pr ha
 have h2:=Pr hb
 cases op<;>simp only [hZ]<;>first
  |rw [BitVec.toNat_and,PK,PK,h1,h2]
  |rw [BitVec.toNat_or,PK,PK,h1,h2]
  |rw [BitVec.toNat_xor,PK,PK,h1,h2]
  |rw [I7 _ _ _ ha,h2]
theorem tA (op:BinOp) {a b:Nat} (ha:a<2^n) (hb:b<2^n):hZ op a b<2^n:=by
 cases op<;>simp only [hZ]<;>first
  |exact Nat.or_lt_two_pow ha hb
  |exact Nat.xor_lt_two_pow ha hb
  |exact PW Nat.and_le_left ha
theorem I8 (op:BinOp) (a b:Nat) (h:a<2^63) (h2:b<2^63):hZ op a b<2^63:=tA op h h2
theorem xL (op:BinOp) (x y:Int) (hx:0<=x) (hy:0<=y) (BT:bJ x) (I9:bJ y):bits op .i64 x y=((hZ op x.toNat y.toNat:Nat):Int):=by
 unfold bJ at BT I9
 have e1:((x.toNat:Nat):Int)=x:=by omega
 have e2:((y.toNat:Nat):Int)=y:=by omega
 have h1:x.toNat<2^63:=by omega
 have h2:y.toNat<2^63:=by omega
 have:=xK op .i64 x.toNat y.toNat (Nat.lt_trans h1 (by decide)) (Nat.lt_trans h2 (by decide))
 rw [e1,e2] at this
 rw [this]
 have h3:=I8 op _ _ h1 h2
 have h4:hZ op x.toNat y.toNat<9223372036854775808:=h3
 exact bJ.wr ⟨by omega,by omega⟩
def xM:BinOp->UInt8->UInt8->UInt8
 | .and,a,b=>a&&&b
 | .or,a,b=>a|||b
 | .xor,a,b=>a^^^b
 |_,a,b=>a&&&(a^^^b)
theorem Ja (op:BinOp) (a b:UInt8):(xM op a b).toNat=hZ op a.toNat b.toNat:=by
 cases op<;>simp [xM,hZ]
theorem xN (op:BinOp) (a b:UInt8):bits op .u8 (a.toNat:Int) (b.toNat:Int)=((xM op a b).toNat:Int):=by
 rw [xK op .u8 _ _ a.toNat_lt b.toNat_lt,Ja,wrap_u8]
 have:hZ op a.toNat b.toNat<2^8:=tA op a.toNat_lt b.toNat_lt
 omega
def nP (op:BinOp) (a b:ec):ec:=uN (hZ op a.n b.n)
theorem Jb (op:BinOp) (a b:ec):(nP op a b).n=hZ op a.n b.n:=xJ (by
 have:hZ op a.n b.n<2^64:=tA op a.lt b.lt
 exact this)
theorem qR (op:BinOp) (a b:ec):bits op .u64 (a.n:Int) (b.n:Int)=((nP op a b).n:Int):=by
 rw [xK op .u64 _ _ a.lt b.lt,Jb,wrap_u64]
 have:hZ op a.n b.n<2^64:=tA op a.lt b.lt
 omega
theorem Jc (a b:UInt8):IntKind.u8.wrap ((a.toNat:Int)+b.toNat)=((a+b).toNat:Int):=by
 rw [wrap_u8,UInt8.toNat_add];omega
theorem Jd (a b:UInt8):IntKind.u8.wrap ((a.toNat:Int) - b.toNat)=((a - b).toNat:Int):=by
 rw [wrap_u8,UInt8.toNat_sub];have:=b.toNat_lt;omega
theorem Je (a b:UInt8):IntKind.u8.wrap ((a.toNat:Int)*b.toNat)=((a*b).toNat:Int):=by
 rw [wrap_u8,UInt8.toNat_mul, <-Int.natCast_mul];omega
theorem Jf (a b:ec):IntKind.u64.wrap ((a.n:Int)+b.n)=((uN (a.n+b.n)).n:Int):=by
 rw [wrap_u64];show _=(((a.n+b.n)%18446744073709551616:Nat):Int);omega
theorem Jg (a b:ec):IntKind.u64.wrap ((a.n:Int) - b.n)=((uN (a.n+18446744073709551616 - b.n)).n:Int):=by
 have:=b.lt
 rw [wrap_u64];show _=(((a.n+18446744073709551616 - b.n)%18446744073709551616:Nat):Int);omega
theorem Jh (a b:ec):IntKind.u64.wrap ((a.n:Int)*b.n)=((uN (a.n*b.n)).n:Int):=by
 rw [wrap_u64, <-Int.natCast_mul];show _=(((a.n*b.n)%18446744073709551616:Nat):Int);omega
def qS (a:UInt8) (k:Nat):UInt8:=UInt8.ofNat (a.toNat*2^(min k 8))
def qT (a:UInt8) (k:Nat):UInt8:=UInt8.ofNat (a.toNat / 2^(min k 8))
theorem BU (a k:Nat):((a:Int)*2^k)=((a*2^k:Nat):Int):=by rw [Int.natCast_mul,Int.natCast_pow];rfl
theorem BV (a:UInt8) (k:Nat):IntKind.u8.wrap ((a.toNat:Int)*2^(min k IntKind.u8.bits))=((qS a k).toNat:Int):=by
 have e:(qS a k).toNat=a.toNat*2^min k 8%256:=by unfold qS;exact UInt8.toNat_ofNat ..
 rw [wrap_u8,e,show IntKind.u8.bits=8 from rfl,BU,Int.natCast_emod];rfl
theorem fdiv_pow (a k:Nat):((a:Int).fdiv (2^k))=((a / 2^k:Nat):Int):=by
 rw [show (2:Int)^k=((2^k:Nat):Int) by simp]
 exact Int.fdiv_eq_ediv_of_nonneg _ (Int.natCast_nonneg _)
theorem BW (a:UInt8) (k:Nat):((a.toNat:Int).fdiv (2^(min k IntKind.u8.bits)))=((qT a k).toNat:Int):=by
 have e:(qT a k).toNat=a.toNat / 2^min k 8%256:=by unfold qT;exact UInt8.toNat_ofNat ..
 have h:a.toNat / 2^min k 8<256:=PW (Nat.div_le_self _ _) a.toNat_lt
 rw [e,Pr h,show IntKind.u8.bits=8 from rfl,fdiv_pow]
theorem BX (a:ec) (k:Nat):IntKind.u64.wrap ((a.n:Int)*2^(min k IntKind.u64.bits))=((uN (a.n*2^min k 64)).n:Int):=by
 rw [wrap_u64,show IntKind.u64.bits=64 from rfl,BU]
 show _=(((a.n*2^min k 64)%18446744073709551616:Nat):Int);rw [Int.natCast_emod];rfl
theorem BY (a:ec) (k:Nat):((a.n:Int).fdiv (2^(min k IntKind.u64.bits)))=((uN (a.n / 2^min k 64)).n:Int):=by
 have h:a.n / 2^min k 64<18446744073709551616:=PW (Nat.div_le_self _ _) a.lt
 rw [xJ h,show IntKind.u64.bits=64 from rfl,fdiv_pow]
theorem Ji (x:Int) (k:Nat) (h:bJ (x*2^k)):IntKind.i64.wrap (x*2^(min k IntKind.i64.bits))=x*2^k:=by
 rw [show IntKind.i64.bits=64 from rfl]
 by_cases hk:k<=64
 ·rw [PQ hk];exact h.wr
 ·rw [Nat.min_eq_right (by omega)]
  have h0:x=0:=by
   obtain ⟨j,rfl⟩:∃j,k=64+j:=⟨k - 64,by omega⟩
   have hp:(1:Int)<=2^j:=by exact_mod_cast Nat.two_pow_pos j
   unfold bJ at h
   rw [Int.pow_add] at h
   by_cases hx:0<x
   ·exfalso
    have h2:x*(2^64*1)<=x*(2^64*2^j):=P8 (P8 hp (by decide)) (by omega)
    have:=h.2;omega
   ·by_cases BT:x<0
    ·exfalso
     have h2:(-x)*(2^64*1)<=(-x)*(2^64*2^j):=P8 (P8 hp (by decide)) (by omega)
     rw [Int.neg_mul (b:=2^64*2^j)] at h2
     have:=h.1;omega
    ·omega
  rw [h0];simp;exact bJ.wr ⟨by decide,by decide⟩
theorem Jj (x:Int) (k:Nat) (h:k<=64):x.fdiv (2^(min k IntKind.i64.bits))=x / 2^k:=by
 rw [show IntKind.i64.bits=64 from rfl,PQ h]
 exact Int.fdiv_eq_ediv_of_nonneg _ (Int.pow_nonneg (by decide))
theorem Jk {x y:Int} (h:0<=x/\0<y/\bJ x):IntKind.i64.wrap (x.tdiv y)=x / y:=by
 rw [Int.tdiv_eq_ediv_of_nonneg h.1]
 have h1:=Int.ediv_nonneg (b:=y) h.1 (by omega)
 have h2:=Int.ediv_le_self y h.1
 have:=h.2.2
 unfold bJ at this
 exact bJ.wr ⟨by omega,by omega⟩
theorem Jl {x y:Int} (h:0<=x):x.tmod y=x%y:=Int.tmod_eq_emod_of_nonneg h
theorem xO {x:Int} (h:0<=x):IntKind.u8.wrap x=((UInt8.ofNat x.toNat).toNat:Int):=by
 have e:(UInt8.ofNat x.toNat).toNat=x.toNat%256:=UInt8.toNat_ofNat ..
 rw [wrap_u8,e];omega
theorem BZ {x:Int} (h:0<=x):IntKind.u64.wrap x=((uN x.toNat).n:Int):=by
 rw [wrap_u64];show _=((x.toNat%18446744073709551616:Nat):Int);omega
open Go.RowKit
def gd (d:α) (xs:List α) (i:Nat):α:=(xs[i]?).getD d
theorem lf {α:Type} {d:α} {xs:List α} (h:i<xs.length):xs[i]? =some (gd d xs i):=by
 unfold gd;rw [Oq h];rfl
def gb (s:ByteArray) (i:Nat):UInt8:=(s[i]?).getD 0
structure TD (τ:Type) (dn:τ->Type) extends TE τ dn where
 df:(t:τ)->dn t
 es:(t:τ)->dn t->List (SV τ dn)
 ds:(t:τ)->List (SV τ dn)->Option (dn t)
 ag:τ->Bool
 pu:τ->Bool
 hint:Nat->Nat->Option τ
 neg:Bool
 em:τ->Bool:=fun _=>false
 ar:Option τ:=none
 hr:τ->Bool:=fun _=>false
 fz:(t ta:τ)->(A:List (Nat×List (dn ta)))->Option ((t':τ)×(dn t->dn t')×(dn t->Prop)):=fun _ _ _=>none
 bt:(t:τ)->Option ((dn t->UInt8)×(UInt8->dn t)):=fun _=>none
 th:(t t':τ)->Option (dn t->dn t'):=fun _ _=>none
def SV.ne:SV τ dn->Bool
 | .emp=>false
 |_=>true
def TD.nQ (D:TD τ dn) (t:τ) (cs:List (SV τ dn)):Bool:=D.em t||cs.all SV.ne
structure aZ {τ:Type} {dn:τ->Type} (D:TD τ dn):Prop where
 dp:∀(N:aC) (t:τ) (x:dn t),(D.es t x).map (SV.av D.toTE N)=D.ea N.ρ t x
 iZ:∀(N:aC) (t:τ) (cs:List (SV τ dn)) (x:dn t),D.ds t cs=some x->dY (cs.map (SV.av D.toTE N)) (D.ea N.ρ t x)
 fR:∀(N:aC) (t:τ) (cs:List (SV τ dn)) (x:dn t),D.ds t cs=some x->D.nQ t cs=true->cs.map (SV.av D.toTE N)=D.ea N.ρ t x
 len:∀(t:τ) (x:dn t),(D.es t x).length=D.sz t
 one:∀(t:τ) (x:dn t),(D.es t x).all SV.one=true
 nf:∀(p:Nat->Bool) (t:τ) (x:dn t),SV.dM p (D.es t x)=true
 ja:∀(ρ mu:Nat->AV) (t:τ) (x:dn t),D.pu t=true->D.ea ρ t x=D.ea mu t x
 pu1:∀(N:aC) (t:τ) (x:dn t),D.pu t=true->(D.ea N.ρ t x).all AV.pu1=true
 bt:∀(N:aC) (t:τ) (p:(dn t->UInt8)×(UInt8->dn t)),D.bt t=some p->(∀x,D.ea N.ρ t x=[.v (.int .u8 (p.1 x).toNat)])/\∀b,p.1 (p.2 b)=b
 th:∀(ρ:Nat->AV) (t t':τ) (f:dn t->dn t'),D.th t t'=some f->D.sz t'=D.sz t/\∀x,D.ea ρ t' (f x)=D.ea ρ t x
 fz:∀(N:aC) (φ:AV->AV) (t ta:τ) (A:List (Nat×List (dn ta))) (t':τ) (f:dn t->dn t') (O:dn t->Prop),D.fz t ta A=some ⟨t',f,O⟩->(∀a,a.pu1=true->φ a=a)->
  (∀id n,dw A id->(fy A id).length=n->φ (.own id (D.sz ta) 0 n)= .aU (D.sz ta) ((fy A id).map (D.ea N.ρ ta)))->D.sz t'=D.sz t/\∀x,O x->(D.ea N.ρ t x).map φ=D.ea N.ρ t' (f x)
theorem aZ.qU {D:TD τ dn} (ok:aZ D) (N:aC) (t:τ) (cs:List (SV τ dn)) (x:dn t) (h:D.ds t cs=some x) (hn:cs.all SV.ne=true):cs.map (SV.av D.toTE N)=D.ea N.ρ t x:=
 ok.fR N t cs x h (by unfold TD.nQ;rw [hn,Bool.or_true])
def getS {α:Type}:List (Nat×α)->Nat->Option α
 |[],_=>none
 |(j,v)::r,i=>bif Nat.beq i j then some v else getS r i
structure SS (τ:Type) (dn:τ->Type) where
 rt:List (Nat×SV τ dn)
 rm:List (Nat×Option (SB τ dn))
 t:List (Nat×SV τ dn)
 m:List (Nat×Option (SB τ dn))
 nx:Nat
section
variable {τ:Type} {dn:τ->Type} [DecidableEq τ]
def o8:Value->Option (SV τ dn)
 | .int .i64 k=>some (.vn k)
 | .int .u8 k=>if 0<=k/\k<256 then some (.vy (UInt8.ofNat k.toNat)) else none
 | .int .u64 k=>if 0<=k/\k<18446744073709551616 then some (.vu (uN k.toNat)) else none
 | .int q k=>some (.vw q k)
 | .bool b=>some (.vt b)
 | .string s=>some (.vz s)
 | .nilFunc=>some (.vo .nilFunc)
 | .nilIface=>some (.vo .nilIface)
 | .pointer none=>some (.vo (.pointer none))
 | .tuple vs=>if vs.isEmpty=true then some (.vo undef) else none
 |_=>none
mutual
def jJ:AV->Option (SV τ dn)
 | .v x=>o8 x
 | .agg cs=>(jK cs).map .agg
 | .emp=>some .emp
 | .fn f cs=>(jK cs).map (.fn f)
 | .pim cs o=>(jK cs).map (.pim · o)
 | .dead=>some .dead
 |_=>none
def jK:List AV->Option (List (SV τ dn))
 |[]=>some []
 |a::r=>match jJ a,jK r with
  |some v,some l=>some (v::l)
  |_,_=>none
end
def SS.gt (st:SS τ dn) (i:Nat):Option (SV τ dn):=match getS st.t i with
 |some v=>some v
 |none=>getS st.rt i
def SS.gm (st:SS τ dn) (nm:Nat):Option (SB τ dn):=match getS st.m nm with
 |some b=>b
 |none=>(getS st.rm nm).join
def SS.ev (st:SS τ dn):Arg->Option (SV τ dn)
 | .s i=>st.gt i
 | .c a=>jJ a
def SS.rw (st:SS τ dn) (nm:Nat):Bool:=(match getS st.m nm with|some (some _)=>true|_=>false)&&(getS st.rm nm).isNone
inductive SR (τ:Type) (dn:τ->Type) where
 |val (O:List Prop) (v:SV τ dn)
 |new (O:List Prop) (v:SV τ dn) (B:SB τ dn)
 |put (O:List Prop) (v:SV τ dn) (nm:Nat) (B:SB τ dn)
 |mov (O:List Prop) (v:SV τ dn) (old:Nat) (B:SB τ dn)
 |fS (O:List Prop) (v:SV τ dn) (ns:List Nat)
 |ew (O:List Prop) (v:SV τ dn) (id:Nat) (t:τ) (row:List (dn t)) (A:List (Nat×List (dn t)))
def SV.int:SV τ dn->Option (Int×Bool)
 | .vi x=>some (x,false)
 | .vn x=>some (x,true)
 |_=>none
def qV:SV τ dn->Option (SV τ dn)
 | .vb c=>some (.vb (.not c))
 | .vt b=>some (.vt !b)
 |_=>none
def xP:SV τ dn->SV τ dn->Option (SV τ dn)
 | .vt true,a=>some a
 | .vt false, .vb _=>some (.vt false)
 | .vt false, .vt _=>some (.vt false)
 | .vb c, .vt true=>some (.vb c)
 | .vb _, .vt false=>some (.vt false)
 | .vb c, .vb d=>some (.vb (.and c d))
 |_,_=>none
def SV.lit:SV τ dn->Option Value
 | .vn x=>some (.int .i64 x)
 | .vt b=>some (.bool b)
 |_=>none
def qW (bt:Bool) (op:BinOp) (a b:SV τ dn):Option (SV τ dn):=
 match a.lit,b.lit with
 |some x,some y=>match binA bt op x y with
  |some v=>o8 v
  |none=>none
 |_,_=>none
def qX (neg:Bool) (op:BinOp) (x y:Int):Option (SR τ dn):=
 match op with
 | .add=>some (.val [bJ (x+y)] (.vi (x+y)))
 | .sub=>some (.val [bJ (x - y)] (.vi (x - y)))
 | .mul=>some (.val [bJ (x*y)] (.vi (x*y)))
 | .quo=>bif neg then some (.val [y≠0,bJ (x.tdiv y)] (.vi (x.tdiv y))) else some (.val [0<=x/\0<y/\bJ x] (.vi (x / y)))
 | .rem=>bif neg then some (.val [y≠0] (.vi (x.tmod y))) else some (.val [0<=x/\y≠0] (.vi (x%y)))
 | .and=>some (.val [0<=x/\0<=y/\bJ x/\bJ y] (.vi ((x.toNat&&&y.toNat:Nat):Int)))
 | .or=>some (.val [0<=x/\0<=y/\bJ x/\bJ y] (.vi ((x.toNat|||y.toNat:Nat):Int)))
 | .xor=>some (.val [0<=x/\0<=y/\bJ x/\bJ y] (.vi ((x.toNat^^^y.toNat:Nat):Int)))
 | .shl=>some (.val [0<=y/\bJ (x*2^y.toNat)] (.vi (x*2^y.toNat)))
 | .shr=>some (.val [0<=y/\y<=64] (.vi (x / 2^y.toNat)))
 | .eql=>some (.val [] (.vb (.eq x y)))
 | .neq=>some (.val [] (.vb (.not (.eq x y))))
 | .lss=>some (.val [] (.vb (.lt x y)))
 | .leq=>some (.val [] (.vb (.le x y)))
 | .gtr=>some (.val [] (.vb (.lt y x)))
 | .geq=>some (.val [] (.vb (.le y x)))
 |_=>none
def oY (op:BinOp) (x y:UInt8):Option (SV τ dn):=
 match op with
 | .add=>some (.vy (x+y))
 | .sub=>some (.vy (x - y))
 | .mul=>some (.vy (x*y))
 | .and=>some (.vy (x&&&y))
 | .or=>some (.vy (x|||y))
 | .xor=>some (.vy (x^^^y))
 | .eql=>some (.vb (.ey x y))
 | .neq=>some (.vb (.not (.ey x y)))
 | .lss=>some (.vb (.ly x y))
 | .leq=>some (.vb (.not (.ly y x)))
 | .gtr=>some (.vb (.ly y x))
 | .geq=>some (.vb (.not (.ly x y)))
 |_=>none
def oU (op:BinOp) (x y:ec):Option (SV τ dn):=
 match op with
 | .add=>some (.vu (uN (x.n+y.n)))
 | .sub=>some (.vu (uN (x.n+18446744073709551616 - y.n)))
 | .mul=>some (.vu (uN (x.n*y.n)))
 | .and=>some (.vu (nP .and x y))
 | .or=>some (.vu (nP .or x y))
 | .xor=>some (.vu (nP .xor x y))
 | .andNot=>some (.vu (nP .andNot x y))
 | .eql=>some (.vb (.eq x.n y.n))
 | .neq=>some (.vb (.not (.eq x.n y.n)))
 | .lss=>some (.vb (.lt x.n y.n))
 | .leq=>some (.vb (.le x.n y.n))
 | .gtr=>some (.vb (.lt y.n x.n))
 | .geq=>some (.vb (.le y.n x.n))
 |_=>none
def oZ (op:BinOp) (x y:ByteArray):Option (SR τ dn):=
 match op with
 | .eql=>some (.val [] (.vb (.ez x y)))
 | .neq=>some (.val [] (.vb (.not (.ez x y))))
 | .lss=>some (.val [] (.vb (.lz x y)))
 | .add=>some (.val [((x.size+y.size:Nat):Int)<=9223372036854775807] (.vz (x++y)))
 |_=>none
def qY:SV τ dn->SV τ dn->Option (SV τ dn)
 | .vb c, .vt b=>some (.vb (if b then c else .not c))
 | .vt b, .vb c=>some (.vb (if b then c else .not c))
 | .vb c, .vb d=>some (.vb (.eb c.den d.den))
 |_,_=>none
def qZ (neg bt:Bool) (op:BinOp) (a b:SV τ dn):Option (SR τ dn):=
 match qW bt op a b with
 |some v=>some (.val [] v)
 |none=>match a.int,b.int with
  |some (x,_),some (y,_)=>qX neg op x y
  |_,_=>match a,b with
   | .vy x, .vy y=>(oY op x y).map (.val [])
   | .vu x, .vu y=>(oU op x y).map (.val [])
   | .vz x, .vz y=>oZ op x y
   | .vy x, .vi y=>match op with
    | .shl=>some (.val [0<=y] (.vy (qS x y.toNat)))
    | .shr=>some (.val [0<=y] (.vy (qT x y.toNat)))
    |_=>none
   | .vy x, .vn y=>match op with
    | .shl=>some (.val [0<=y] (.vy (qS x y.toNat)))
    | .shr=>some (.val [0<=y] (.vy (qT x y.toNat)))
    |_=>none
   | .vu x, .vi y=>match op with
    | .shl=>some (.val [0<=y] (.vu (uN (x.n*2^min y.toNat 64))))
    | .shr=>some (.val [0<=y] (.vu (uN (x.n / 2^min y.toNat 64))))
    |_=>none
   | .vu x, .vn y=>match op with
    | .shl=>some (.val [0<=y] (.vu (uN (x.n*2^min y.toNat 64))))
    | .shr=>some (.val [0<=y] (.vu (uN (x.n / 2^min y.toNat 64))))
    |_=>none
   | .vw q x, .vw q' y=>if q=q' then (match op with
    | .and=>some (.val [] (.vw q (bits .and q x y)))
    | .or=>some (.val [] (.vw q (bits .or q x y)))
    | .xor=>some (.val [] (.vw q (bits .xor q x y)))
    | .add=>some (.val [] (.vw q (q.wrap (x+y))))
    | .sub=>some (.val [] (.vw q (q.wrap (x - y))))
    | .mul=>some (.val [] (.vw q (q.wrap (x*y))))
    | .eql=>some (.val [] (.vb (.eq x y)))
    | .neq=>some (.val [] (.vb (.not (.eq x y))))
    | .lss=>some (.val [] (.vb (.lt x y)))
    | .leq=>some (.val [] (.vb (.le x y)))
    | .gtr=>some (.val [] (.vb (.lt y x)))
    | .geq=>some (.val [] (.vb (.le y x)))
    |_=>none) else none
   | .vw q x, .vi y=>match op with
    | .shl=>some (.val [0<=y] (.vw q (q.wrap (x*2^(min y.toNat q.bits)))))
    | .shr=>some (.val [0<=y] (.vw q (x.fdiv (2^(min y.toNat q.bits)))))
    |_=>none
   | .vw q x, .vn y=>match op with
    | .shl=>some (.val [0<=y] (.vw q (q.wrap (x*2^(min y.toNat q.bits)))))
    | .shr=>some (.val [0<=y] (.vw q (x.fdiv (2^(min y.toNat q.bits)))))
    |_=>none
   | .vw q x, .vu y=>match op with
    | .shl=>some (.val [] (.vw q (q.wrap (x*2^(min y.n q.bits)))))
    | .shr=>some (.val [] (.vw q (x.fdiv (2^(min y.n q.bits)))))
    |_=>none
   |a,b=>if bt=true then (match op with
    | .eql=>(qY a b).map (.val [])
    | .neq=>((qY a b).bind qV).map (.val [])
    |_=>none) else none
def q8 (op:UnOp) (a:SV τ dn):Option (SR τ dn):=
 match op,a with
 | .neg, .vn x=>(o8 (.int .i64 (IntKind.i64.wrap (0 - x)))).map (.val [])
 | .neg, .vi x=>some (.val [bJ (0 - x)] (.vi (0 - x)))
 | .xor, .vu x=>some (.val [] (.vu (nP .xor (uN 18446744073709551615) x)))
 | .not,a=>(qV a).map (.val [])
 |_,_=>none
def q9 (k:IntKind) (a:SV τ dn):Option (SR τ dn):=
 match k,a with
 |k, .vn x=>(o8 (.int k (k.wrap x))).map (.val [])
 | .i64, .vi x=>some (.val [bJ x] (.vi x))
 | .i64, .vy x=>some (.val [] (.vi x.toNat))
 | .i64, .vu x=>some (.val [bJ x.n] (.vi x.n))
 | .i64, .vw _ x=>some (.val [bJ x] (.vi x))
 | .u8, .vi x=>some (.val [0<=x] (.vy (UInt8.ofNat x.toNat)))
 | .u8, .vu x=>some (.val [] (.vy (UInt8.ofNat x.n)))
 | .u8, .vw _ x=>some (.val [0<=x] (.vy (UInt8.ofNat x.toNat)))
 | .u64, .vi x=>some (.val [0<=x] (.vu (uN x.toNat)))
 | .u64, .vy x=>some (.val [] (.vu (uN x.toNat)))
 | .u16, .vi x=>some (.val [] (.vw .u16 (IntKind.u16.wrap x)))
 | .u16, .vy x=>some (.val [] (.vw .u16 (IntKind.u16.wrap x.toNat)))
 | .u16, .vw _ x=>some (.val [] (.vw .u16 (IntKind.u16.wrap x)))
 |_,_=>none
def lg (cs:List (SV τ dn)) (o:Nat):Option Nat->Option (SV τ dn)
 |none=>cs[o]?
 |some n=>if o+n<=cs.length then some (.agg ((cs.drop o).take n)) else none
def mv (cs:List (SV τ dn)) (o:Nat) (ys:List (SV τ dn)):List (SV τ dn):=cs.take o++ys++cs.drop (o+ys.length)
def re (st:SS τ dn) (cells:List (SV τ dn)):List (Nat×Nat×Arg)->Option (List (SV τ dn))
 |[]=>some cells
 |(off,n,x)::r=>match st.ev x with
  |some v=>if v.cells.length=n/\off+n<=cells.length/\v.gN=true then re st (mv cells off v.cells) r else none
  |none=>none
def mw (st:SS τ dn) (sz:Nat) (els:List (List (SV τ dn))):List (Nat×Arg)->Option (List (List (SV τ dn)))
 |[]=>some els
 |(i,x)::r=>match st.ev x with
  |some v=>if v.cells.length=sz/\i<els.length/\v.gN=true/\v.cells.all SV.one=true then mw st sz (els.set i v.cells) r else none
  |none=>none
def xQ:LK->SV τ dn->SV τ dn->Option (SV τ dn)
 | .int,a,b=>match qW false .eql a b with
  |some v=>some v
  |none=>match a.int,b.int with
   |some (x,_),some (y,_)=>some (.vb (.eq x y))
   |_,_=>match a,b with
    | .vu x, .vu y=>some (.vb (.eq x.n y.n))
    | .vy x, .vy y=>some (.vb (.ey x y))
    |_,_=>none
 | .str, .vz a, .vz b=>some (.vb (.ez a b))
 | .bool, .vt a, .vt b=>some (.vt (a==b))
 | .bool,a,b=>qY a b
 |_,_,_=>none
def rf (cs ds:List (SV τ dn)):List (Nat×LK)->Option (SV τ dn)
 |[]=>some (.vt true)
 |(o,k)::r=>match cs[o]?,ds[o]? with
  |some a,some b=>match xQ k a b,rf cs ds r with
   |some x,some y=>xP x y
   |_,_=>none
  |_,_=>none
inductive Ct (τ:Type) (dn:τ->Type) where
 |ty (t:τ) (xs:List (dn t))
 |li (els:List (List (SV τ dn)))
def Ct.len:Ct τ dn->Nat
 | .ty _ xs=>xs.length
 | .li els=>els.length
variable (D:TD τ dn)
def SS.cont (st:SS τ dn) (sz:Nat):SV τ dn->Option (Ct τ dn)
 | .vl ty xs=>if D.sz ty=sz then some (.ty ty xs) else none
 | .vc k els=>if k=sz then some (.li els) else none
 | .emp=>some (.li [])
 | .own nm k=>if k=sz then (match st.gm nm with
  |some (.bl ty xs)=>if D.sz ty=sz then some (.ty ty xs) else none
  |some (.bc q els)=>if q=sz then some (.li els) else none
  |_=>none) else none
 |_=>none
def kj (ty:τ):List (List (SV τ dn))->Option (List (dn ty))
 |[]=>some []
 |cs::r=>if D.nQ ty cs=true then (match D.ds ty cs,kj ty r with
  |some x,some l=>some (x::l)
  |_,_=>none) else none
def nR (sz:Nat):SB τ dn->Ct τ dn->Option (SB τ dn)
 | .bl ty xs, .ty my ys=>if h:my=ty then some (.bl ty (xs++h▸ys)) else none
 | .bl ty xs, .li els=>(kj D ty els).map fun ys=> .bl ty (xs++ys)
 | .bc q els, .ty ty ys=>if q=D.sz ty then (kj D ty els).map fun xs=> .bl ty (xs++ys) else none
 | .bc q els, .li fs=>if q=sz then some (.bc q (els++fs)) else none
 | .mc _,_=>none
 | .ar _ _,_=>none
def Ct.ko (sz:Nat):Ct τ dn->SB τ dn
 | .ty t xs=> .bl t xs
 | .li els=> .bc sz els
def SB.sz:SB τ dn->Nat
 | .bl ty _=>D.sz ty
 | .bc sz _=>sz
 | .mc _=>0
 | .ar ty _=>D.sz ty
def SB.B5:SB τ dn->SV τ dn
 | .bl _ xs=> .vi (xs.length:Int)
 | .bc _ els=> .vn (els.length:Int)
 | .mc _=> .vn 0
 | .ar _ _=> .vn 0
def lh (st:SS τ dn):Option Arg->Option (Option Int)
 |none=>some none
 |some x=>match st.ev x with
  |some v=>match v.int with
   |some (k,_)=>some (some k)
   |none=>none
  |none=>none
def xR (xs:List α):Option Int->Option Int->List α
 |none,none=>xs
 |some l,none=>xs.drop l.toNat
 |none,some h=>xs.take h.toNat
 |some l,some h=>(xs.drop l.toNat).take (h.toNat - l.toNat)
def lj (len:Int):Option Int->Option Int->List Prop
 |none,none=>[]
 |some l,none=>[0<=l/\l<=len]
 |none,some h=>[0<=h/\h<=len]
 |some l,some h=>[0<=l/\l<=h/\h<=len]
def nS (st:SS τ dn) (m:Option Nat):SV τ dn->Option (SR τ dn)
 | .pim cs o=>(lg cs o m).map (.val [])
 | .ref nm sz i o=>match st.gm nm with
  |some (.bl ty xs)=>if D.sz ty=sz then (lg (D.es ty (gd (D.df ty) xs i)) o m).map (.val [i<xs.length]) else none
  |some (.bc q els)=>if q=sz then (match els[i]? with
   |some cs=>(lg cs o m).map (.val [])
   |none=>none) else none
  |_=>none
 |_=>none
def tB (st:SS τ dn) (n:Nat) (a y:SV τ dn):Option (SR τ dn):=
 if y.cells.length=n/\y.gN=true/\y.cells.all SV.one=true then match a with
 | .ref nm sz i o=>if o+n<=sz/\st.rw nm=true then (match st.gm nm with
  |some (.bl ty xs)=>if D.sz ty=sz/\D.nQ ty (mv (D.es ty (gd (D.df ty) xs i)) o y.cells)=true then (match D.ds ty (mv (D.es ty (gd (D.df ty) xs i)) o y.cells) with
   |some z=>some (.put [i<xs.length] (.vo undef) nm (.bl ty (xs.set i z)))
   |none=>none) else none
  |some (.bc q els)=>if q=sz then (match els[i]? with
   |some cs=>some (.put [] (.vo undef) nm (.bc q (els.set i (mv cs o y.cells))))
   |none=>none) else none
  |_=>none) else none
 |_=>none
 else none
def rh (st:SS τ dn) (sz:Nat) (a:SV τ dn) (x:Int) (lit:Bool):Option (SR τ dn):=
 match a with
 | .vl ty xs=>if D.sz ty=sz then some (.val [0<=x/\x<xs.length] (.pim (D.es ty (gd (D.df ty) xs x.toNat)) 0)) else none
 | .vc q els=>bif lit then (if q=sz/\0<=x then (els[x.toNat]?).map fun cs=> .val [] (.pim cs 0) else none) else none
 | .own nm q=>if q=sz then (match st.gm nm with
  |some (.bl _ xs)=>some (.val [0<=x/\x<xs.length] (.ref nm sz x.toNat 0))
  |some (.bc _ els)=>bif lit then (if 0<=x/\x<els.length then some (.val [] (.ref nm sz x.toNat 0)) else none) else some (.val [0<=x/\x<els.length] (.ref nm sz x.toNat 0))
  |_=>none) else none
 | .part nm q off len=>if q=sz then (st.gm nm).map fun _=> .val [0<=x/\x<len] (.ref nm sz (off+x.toNat) 0) else none
 |_=>none
def rk (st:SS τ dn):Bool->SV τ dn->Option (SR τ dn)
 |true, .vz s=>some (.val [] (.vi (s.size:Int)))
 |false, .vl _ xs=>some (.val [] (.vi (xs.length:Int)))
 |false, .vc _ els=>some (.val [] (.vn (els.length:Int)))
 |false, .emp=>some (.val [] (.vn 0))
 |false, .own nm _=>(st.gm nm).map fun B=> .val [] B.B5
 |false, .part nm _ _ n=>(st.gm nm).map fun _=> .val [] (.vi (n:Int))
 |_,_=>none
def rn (st:SS τ dn):NK->Bool->SV τ dn->Option (SR τ dn)
 | .fn,neg, .fn _ _=>some (.val [] (.vt neg))
 | .fn,neg, .bf _ _=>some (.val [] (.vt neg))
 | .fn,neg, .vo .nilFunc=>some (.val [] (.vt !neg))
 | .pt,neg, .ref nm _ _ _=>(st.gm nm).map fun _=> .val [] (.vt neg)
 | .pt,neg, .pim _ _=>some (.val [] (.vt neg))
 | .pt,neg, .vo (.pointer none)=>some (.val [] (.vt !neg))
 | .sl,neg, .vl _ xs=>some (.val [xs≠[]] (.vt neg))
 |_,_,_=>none
def rp (st:SS τ dn) (sz:Nat) (a:SV τ dn) (lo hi:Option Int):Option (SR τ dn):=
 match a with
 | .vl ty xs=>if D.sz ty=sz then some (.val (lj xs.length lo hi) (.vl ty (xR xs lo hi))) else none
 | .emp=>match lo,hi with
  |none,none=>some (.val [] .emp)
  |_,_=>none
 | .own nm q=>if q=sz then (match lo,hi with
  |none,none=>(st.gm nm).map fun _=> .val [] (.own nm q)
  |_,_=>(st.gm nm).map fun B=> .val (lj B.len lo hi) (.part nm sz (lo.getD 0).toNat ((hi.getD B.len).toNat - (lo.getD 0).toNat))) else none
 |_=>none
def tC (st:SS τ dn) (sz bytes:Nat) (s x:SV τ dn):Option (SR τ dn):=
 match st.cont D sz x with
 |some ys=>match s with
  | .emp=>some (.new [ys.len*bytes<=140737488355328] (.own st.nx sz) (ys.ko sz))
  | .own nm q=>if q=sz/\st.rw nm=true then (match st.gm nm with
   |some B=>if B.sz D=sz then (nR D sz B ys).map fun B'=> .mov [(B.len+ys.len)*bytes<=140737488355328] (.own st.nx sz) nm B' else none
   |none=>none) else none
  |_=>none
 |none=>none
def Jm (bytes:Nat):List AV->Nat
 | .v (.bool _)::_=>1000+bytes
 |_=>bytes
def rq:List (List (SV τ dn))->Option (List UInt8)
 |[]=>some []
 |[.vy b]::r=>match rq r with
  |some l=>some (b::l)
  |none=>none
 |_=>none
def rr (st:SS τ dn) (v:SV τ dn):Option (SR τ dn):=match st.cont D 1 v with
 |some (.ty t xs)=>match D.bt t with
  |some p=>some (.val [] (.vz ⟨(xs.map p.1).toArray⟩))
  |none=>none
 |some (.li els)=>match rq els with
  |some l=>some (.val [] (.vz ⟨l.toArray⟩))
  |none=>none
 |none=>none
def ru (st:SS τ dn) (s:ByteArray):Option (SR τ dn):=match D.hint 1 1 with
 |some t=>match D.bt t with
  |some p=>if D.sz t=1 then some (.new [s.size<=140737488355328] (.own st.nx 1) (.bl t (s.data.toList.map p.2))) else none
  |none=>none
 |none=>none
def rv (st:SS τ dn) (sz bytes:Nat) (zs:List AV) (l c:Int):Option (SR τ dn):=
 match D.hint sz (Jm bytes zs),jK zs with
 |some ty,some cs=>if D.sz ty=sz/\D.nQ ty cs=true then (match D.ds ty cs with
  |some z=>some (.new [0<=l/\l<=c/\c*bytes<=140737488355328] (.own st.nx sz) (.bl ty (List.replicate l.toNat z)))
  |none=>none) else none
 |_,_=>none
def tF (st:SS τ dn) (sz:Nat) (x y:SV τ dn):Option (SR τ dn):=
 match x,st.cont D sz y with
 | .own nm q,some (.ty ty ys)=>if q=sz/\st.rw nm=true then (match st.gm nm with
  |some (.bl my xs)=>if h:ty=my then (if D.sz my=sz then some (.put [] (.vi ((min ys.length xs.length:Nat):Int)) nm (.bl my (((h▸ys):List (dn my)).take xs.length++xs.drop (min ys.length xs.length)))) else none) else none
  |_=>none) else none
 |_,_=>none
def SV.key:SV τ dn->Option Value
 | .vn x=>some (.int .i64 x)
 | .vt b=>some (.bool b)
 | .vz s=>some (.string s)
 |_=>none
def lp (kd:LK) (k:Value):List (List (SV τ dn))->Option (Option (SV τ dn))
 |[]=>some none
 |[kv,x]::r=>match kv.key with
  |some k'=>match keyEq kd k k' with
   |some true=>some (some x)
   |some false=>lp kd k r
   |none=>none
  |none=>none
 |_=>none
def lq:List (List (SV τ dn))->Option (List (Int×Int))
 |[]=>some []
 |[.vn k,x]::r=>match x.int,lq r with
  |some (v,_),some l=>some ((k,v)::l)
  |_,_=>none
 |_=>none
def tG (z x:Int):List (Int×Int)->Int
 |[]=>z
 |(k,v)::r=>if x=k then v else tG z x r
def tH (st:SS τ dn) (kd:LK) (x k y:SV τ dn):Option (SR τ dn):=
 match x,k.key with
 | .mp nm,some key=>match st.gm nm with
  |some (.mc els)=>bif st.rw nm&&plainV key then (match lp kd key els with
   |some none=>some (.put [] (.vo undef) nm (.mc (els++[[k,y]])))
   |_=>none) else none
  |_=>none
 |_,_=>none
def tI (st:SS τ dn) (kd:LK) (z:AV) (x k:SV τ dn):Option (SR τ dn):=
 match x,jJ z with
 | .mp nm,some zs=>match st.gm nm with
  |some (.mc els)=>match k with
   | .vi n=>match kd,lq els,zs.int with
    | .int,some l,some (zi,_)=>some (.val [] (.vi (tG zi n l)))
    |_,_,_=>none
   |k=>match k.key with
    |some key=>(lp kd key els).map fun r=> .val [] (r.getD zs)
    |none=>none
  |_=>none
 |_,_=>none
def sx (st:SS τ dn):AO->Option (SR τ dn)
 | .mov x=>(st.ev x).map (.val [])
 | .new zs=>(jK zs).map fun cs=> .new [] (.ref st.nx zs.length 0 0) (.bc zs.length [cs])
 | .box n x=>match st.ev x with
  |some v=>if v.cells.length=n/\v.gN=true/\v.cells.all SV.one=true then some (.new [] (.ref st.nx n 0 0) (.bc n [v.cells])) else none
  |none=>none
 | .agg zs parts=>match jK zs with
  |some cs=>(re st cs parts).map fun cs=> .val [] (.agg cs)
  |none=>none
 | .bsl sz ln zs parts=>match jK zs with
  |some cs=>(mw st sz (List.replicate ln cs) parts).map fun els=> .new [] (.own st.nx sz) (.bc sz els)
  |none=>none
 | .load m x=>(st.ev x).bind (nS D st m)
 | .store n x y=>match st.ev x,st.ev y with
  |some a,some b=>tB D st n a b
  |_,_=>none
 | .nilc x=>match st.ev x with
  |some (.ref nm sz i o)=>(st.gm nm).map fun _=> .val [] (.ref nm sz i o)
  |some (.pim cs o)=>some (.val [] (.pim cs o))
  |_=>none
 | .bin bt op x y=>match st.ev x,st.ev y with
  |some a,some b=>qZ D.neg bt op a b
  |_,_=>none
 | .un op x=>(st.ev x).bind (q8 op)
 | .conv k x=>(st.ev x).bind (q9 k)
 | .fad off x=>match st.ev x with
  |some (.ref nm sz i o)=>(st.gm nm).map fun _=> .val [] (.ref nm sz i (o+off))
  |some (.pim cs o)=>some (.val [] (.pim cs (o+off)))
  |_=>none
 | .fld off m x=>match st.ev x with
  |some (.agg cs)=>(lg cs off m).map (.val [])
  |_=>none
 | .iad sz x i=>match st.ev x,st.ev i with
  |some a,some b=>match b.int with
   |some (k,lit)=>rh D st sz a k lit
   |none=>none
  |_,_=>none
 | .iap sz ln x i=>match st.ev x,st.ev i with
  |some (.ref nm s e o),some (.vn k)=>if 0<=k/\k<ln/\(st.gm nm).isSome=true then some (.val [] (.ref nm s e (o+k.toNat*sz))) else none
  |some (.pim cs o),some (.vn k)=>if 0<=k/\k<ln then some (.val [] (.pim cs (o+k.toNat*sz))) else none
  |_,_=>none
 | .ixa sz ln m x i=>match st.ev x,st.ev i with
  |some (.agg cs),some (.vn k)=>if 0<=k/\k<ln then (lg cs (k.toNat*sz) m).map (.val []) else none
  |_,_=>none
 | .mkm=>some (.new [] (.mp st.nx) (.mc []))
 | .mup kd x k y=>match st.ev x,st.ev k,st.ev y with
  |some a,some b,some c=>tH st kd a b c
  |_,_,_=>none
 | .mlk kd z x k=>match st.ev x,st.ev k with
  |some a,some b=>tI st kd z a b
  |_,_=>none
 | .ext i x=>match st.ev x with
  |some (.aK vs)=>(vs[i]?).map (.val [])
  |_=>none
 | .len s x=>(st.ev x).bind (rk st s)
 | .isn kd neg x=>(st.ev x).bind (rn st kd neg)
 | .mnx mx x y=>match st.ev x,st.ev y with
  |some a,some b=>match a.int,b.int with
   |some (x,_),some (y,_)=>some (.val [] (.vi (if mx then max x y else min x y)))
   |_,_=>none
  |_,_=>none
 | .eqs neg n L x y=>match st.ev x,st.ev y with
  |some (.agg cs),some (.agg ds)=>if cs.length=n/\ds.length=n then (match rf cs ds L with
   |some v=>(if neg then qV v else some v).map (.val [])
   |none=>none) else none
  |_,_=>none
 | .msl sz bytes zs l c=>match st.ev l,st.ev c with
  |some a,some b=>match a.int,b.int with
   |some (x,_),some (y,_)=>rv D st sz bytes zs x y
   |_,_=>none
  |_,_=>none
 | .slc sz x lo hi none=>match st.ev x,lh st lo,lh st hi with
  |some a,some l,some h=>rp D st sz a l h
  |_,_,_=>none
 | .sls x lo hi=>match st.ev x,lh st lo,lh st hi with
  |some (.vz s),some l,some h=>some (.val (lj s.size l h) (.vz (s.extract (l.getD 0).toNat (h.getD s.size).toNat)))
  |_,_,_=>none
 | .six x i=>match st.ev x,st.ev i with
  |some (.vz s),some b=>match b.int with
   |some (k,_)=>some (.val [0<=k/\k<s.size] (.vy (gb s k.toNat)))
   |none=>match b with
    | .vw _ k=>some (.val [0<=k/\k<s.size] (.vy (gb s k.toNat)))
    | .vy y=>some (.val [y.toNat<s.size] (.vy (gb s y.toNat)))
    |_=>none
  |_,_=>none
 | .b2s x=>match st.ev x with
  |some v=>rr D st v
  |none=>none
 | .s2b x=>match st.ev x with
  |some (.vz s)=>ru D st s
  |_=>none
 | .app sz bytes s x=>match st.ev s,st.ev x with
  |some a,some b=>tC D st sz bytes a b
  |_,_=>none
 | .cpy sz x y=>match st.ev x,st.ev y with
  |some a,some b=>tF D st sz a b
  |_,_=>none
 | .mkf f caps=>(caps.mapM st.ev).map fun cs=> .val [] (.fn f cs)
 | .mkb f caps=>(caps.mapM st.ev).map fun cs=> .val [] (.bf f cs)
 |_=>none
end
open Go.RowKit
section
variable {τ:Type} {dn:τ->Type} (E:TE τ dn) (N:aC)
theorem tJ {x:Value} {v:SV τ dn} (h:o8 x=some v):v.av E N= .v x:=by
 unfold o8 at h
 split at h<;>first
  |(simp only [N6] at h;subst h;rfl)
  |skip
 ·split at h
  ·rename_i k hk
   simp only [N6] at h;subst h
   have e:(UInt8.ofNat k.toNat).toNat=k.toNat%256:=UInt8.toNat_ofNat ..
   simp only [SV.av,e]
   congr 2;omega
  ·simp at h
 ·split at h
  ·rename_i k hk
   simp only [N6] at h;subst h
   have e:(uN k.toNat).n=k.toNat:=xJ (by omega)
   simp only [SV.av,e]
   congr 2;omega
  ·simp at h
 ·split at h
  ·rename_i vs hk
   simp only [N6] at h;subst h
   simp only [SV.av,undef]
   congr 2
   simpa using hk.symm
  ·simp at h
 ·simp at h
mutual
theorem xS:∀{a:AV} {v:SV τ dn},jJ a=some v->v.av E N=a
 | .v x,v,h=>by simp only [jJ] at h;exact tJ E N h
 | .agg cs,v,h=>by
  simp only [jJ,Od] at h
  obtain ⟨l,hl,rfl⟩:=h
  simp only [SV.av,mz hl]
 | .emp,v,h=>by simp only [jJ,N6] at h;subst h;rfl
 | .fn f cs,v,h=>by
  simp only [jJ,Od] at h
  obtain ⟨l,hl,rfl⟩:=h
  simp only [SV.av,mz hl]
 | .pim cs o,v,h=>by
  simp only [jJ,Od] at h
  obtain ⟨l,hl,rfl⟩:=h
  simp only [SV.av,mz hl]
 | .dead,v,h=>by simp only [jJ,N6] at h;subst h;rfl
 | .aK _,v,h| .aU _ _,v,h| .ck _ _,v,h| .ref _ _ _ _,v,h| .own _ _ _ _,v,h| .bf _ _,v,h| .af _ _,v,h| .mp _,v,h| .cZ,v,h=>by simp [jJ] at h
theorem mz:∀{as_:List AV} {l:List (SV τ dn)},jK as_=some l->SV.cu E N l=as_
 |[],l,h=>by simp only [jK,N6] at h;subst h;rfl
 |a::r,l,h=>by
  simp only [jK] at h
  split at h
  ·rename_i v l' h1 h2
   simp only [N6] at h;subst h
   simp only [SV.cu,xS h1,mz h2]
  ·simp at h
end
end
section
variable {τ:Type} {dn:τ->Type} {D:TD τ dn} {N:aC} {st:SS τ dn} {σ:Nat->AV} {g:Nat->Option Bk}
def SS.bw (st:SS τ dn) (nm:Nat) (B:SB τ dn):Prop:=getS st.m nm=some (some B)\/getS st.rm nm=some (some B)
theorem gG {st:SS τ dn} {B:SB τ dn} (h:st.gm nm=some B):st.bw nm B:=by
 unfold SS.gm at h
 split at h
 ·rename_i b hb;subst h;exact .inl hb
 ·rw [Option.join_eq_some_iff] at h;exact .inr h
structure bg (D:TD τ dn) (N:aC) (st:SS τ dn) (σ:Nat->AV) (g:Nat->Option Bk):Prop where
 sl:∀i v,getS st.t i=some v->σ i=v.av D.toTE N
 rs:∀i v,getS st.rt i=some v->σ i=v.av D.toTE N
 bl:∀nm B,getS st.m nm=some (some B)->g (N.ι nm)=some (B.av D.toTE N)/\N.ln nm=B.len
 rb:∀nm B,getS st.rm nm=some (some B)->g (N.ι nm)=some (B.av D.toTE N)/\N.ln nm=B.len
 ar:∀t A,st.bw 0 (.ar t A)->∀id,dw A id->g id=some ⟨D.sz t,(fy A id).map (D.ea N.ρ t)⟩
theorem bg.gt (R:bg D N st σ g) {i:Nat} {v:SV τ dn} (h:st.gt i=some v):σ i=v.av D.toTE N:=by
 unfold SS.gt at h
 split at h
 ·rename_i w hw;simp only [N6] at h;subst h;exact R.sl i _ hw
 ·exact R.rs i v h
theorem bg.gm (R:bg D N st σ g) {nm:Nat} {B:SB τ dn} (h:st.gm nm=some B):g (N.ι nm)=some (B.av D.toTE N)/\N.ln nm=B.len:=by
 unfold SS.gm at h
 split at h
 ·rename_i b hb;subst h;exact R.bl nm B hb
 ·rw [Option.join_eq_some_iff] at h;exact R.rb nm B h
theorem bg.ev (R:bg D N st σ g) {a:Arg} {v:SV τ dn} (h:st.ev a=some v):aG σ a=v.av D.toTE N:=by
 cases a with
 |s i=>exact R.gt h
 |c a=>exact (xS _ _ h).symm
def SR.O:SR τ dn->List Prop
 | .val O _| .new O _ _| .put O _ _ _| .mov O _ _ _| .fS O _ _| .ew O _ _ _ _ _=>O
def SR.v:SR τ dn->SV τ dn
 | .val _ v| .new _ v _| .put _ v _ _| .mov _ v _ _| .fS _ v _| .ew _ v _ _ _ _=>v
def SR.ups (D:TD τ dn) (N:aC) (k:Nat):SR τ dn->List (Nat×Option Bk)
 | .val _ _=>[]
 | .new _ _ B=>[(k,some (B.av D.toTE N))]
 | .put _ _ nm B=>[(N.ι nm,some (B.av D.toTE N))]
 | .mov _ _ old B=>[(N.ι old,none),(k,some (B.av D.toTE N))]
 | .fS _ _ ns=>(ns.map N.ι).map fun i=>(i,none)
 | .ew _ _ id t row _=>[(id,some ⟨D.sz t,row.map (D.ea N.ρ t)⟩)]
def SR.fresh (N:aC) (nx k:Nat):SR τ dn->Prop
 | .new _ _ B| .mov _ _ _ B=>N.ι nx=k/\N.ln nx=B.len
 |_=>True
def SR.Good (D:TD τ dn) (N:aC) (nx:Nat) (σ:Nat->AV) (g:Nat->Option Bk) (ao:AO) (r:SR τ dn):Prop:=
 ∀k,(∀p,p∈r.O->p)->r.fresh N nx k->(ao.au k (aG σ)).run g=some (.done (r.v.av D.toTE N) (r.ups D N k))
theorem tK {a:SV τ dn} {x:Value} (h:a.lit=some x):a.av D.toTE N= .v x:=by
 cases a<;>simp [SV.lit] at h<;>subst h<;>rfl
theorem eA {a:SV τ dn} {x:Int} (h:a.int=some (x,l)):a.av D.toTE N= .v (.int .i64 x):=by
 cases a<;>simp [SV.int] at h<;>obtain ⟨rfl,_⟩:=h<;>rfl
theorem B6 {bt:Bool} {a b v:SV τ dn} (h:qW bt op a b=some v):∃x y w,a.av D.toTE N= .v x/\b.av D.toTE N= .v y/\binA bt op x y=some w/\v.av D.toTE N= .v w:=by
 unfold qW at h
 split at h
 ·rename_i x y h1 h2
  split at h
  ·rename_i w h3
   exact ⟨x,y,w,tK h1,tK h2,h3,tJ _ _ h⟩
  ·simp at h
 ·simp at h
def ry (D:TD τ dn) (N:aC) (bt:Bool) (op:BinOp) (a b:SV τ dn) (r:SR τ dn):Prop:=
 (∀p,p∈r.O->p)->∃O v x y w,r= .val O v/\a.av D.toTE N= .v x/\b.av D.toTE N= .v y/\binA bt op x y=some w/\v.av D.toTE N= .v w
theorem Jn {bt:Bool} {a b:SV τ dn} {x y:Int} {l':Bool} (ha:a.int=some (x,l)) (hb:b.int=some (y,l')) {r:SR τ dn} (h:qX neg op x y=some r):ry D N bt op a b r:=by
 have h1:=eA (D:=D) (N:=N) ha
 have h2:=eA (D:=D) (N:=N) hb
 intro hO
 have key:∀O v,r= .val O v->(∃w,binA bt op (.int .i64 x) (.int .i64 y)=some w/\v.av D.toTE N= .v w)->∃O v x y w,r= .val O v/\a.av D.toTE N= .v x/\b.av D.toTE N= .v y/\binA bt op x y=some w/\v.av D.toTE N= .v w:=
  fun O v hr ⟨w,gT,hw2⟩=>⟨O,v,_,_,w,hr,h1,h2,gT,hw2⟩
 cases op<;>simp only [qX,N6,reduceCtorEq] at h
 case add=>subst h;exact key _ _ rfl ⟨_,rfl,by simp only [SR.O,Of,Ou] at hO;rw [hO.wr];rfl⟩
 case sub=>subst h;exact key _ _ rfl ⟨_,rfl,by simp only [SR.O,Of,Ou] at hO;rw [hO.wr];rfl⟩
 case mul=>subst h;exact key _ _ rfl ⟨_,rfl,by simp only [SR.O,Of,Ou] at hO;rw [hO.wr];rfl⟩
 case quo=>
  cases neg with
  |true=>
   simp only [Ob,N6] at h;subst h
   simp only [SR.O,Oj,Pa,or_false,PB,Ou] at hO
   exact key _ _ rfl ⟨_,by simp only [binA,Oa];rw [N7 hO.1],by rw [hO.2.wr];rfl⟩
  |false=>
   simp only [Ot,N6] at h;subst h
   simp only [SR.O,Of,Ou] at hO
   exact key _ _ rfl ⟨_,by simp only [binA,Oa];rw [N7 (by omega)],by rw [Jk hO];rfl⟩
 case rem=>
  cases neg with
  |true=>
   simp only [Ob,N6] at h;subst h
   simp only [SR.O,Of,Ou] at hO
   exact key _ _ rfl ⟨_,by simp only [binA,Oa];rw [N7 hO],rfl⟩
  |false=>
   simp only [Ot,N6] at h;subst h
   simp only [SR.O,Of,Ou] at hO
   exact key _ _ rfl ⟨_,by simp only [binA,Oa];rw [N7 hO.2],by rw [Jl hO.1];rfl⟩
 case and=>subst h;simp only [SR.O,Of,Ou] at hO;exact key _ _ rfl ⟨_,rfl,by rw [xL _ _ _ hO.1 hO.2.1 hO.2.2.1 hO.2.2.2];rfl⟩
 case or=>subst h;simp only [SR.O,Of,Ou] at hO;exact key _ _ rfl ⟨_,rfl,by rw [xL _ _ _ hO.1 hO.2.1 hO.2.2.1 hO.2.2.2];rfl⟩
 case xor=>subst h;simp only [SR.O,Of,Ou] at hO;exact key _ _ rfl ⟨_,rfl,by rw [xL _ _ _ hO.1 hO.2.1 hO.2.2.1 hO.2.2.2];rfl⟩
 case shl=>subst h;simp only [SR.O,Of,Ou] at hO;exact key _ _ rfl ⟨_,by simp only [binA];rw [N7 (by omega)],by rw [Ji _ _ hO.2];rfl⟩
 case shr=>subst h;simp only [SR.O,Of,Ou] at hO;exact key _ _ rfl ⟨_,by simp only [binA];rw [N7 (by omega)],by rw [Jj _ _ (by omega)];rfl⟩
 case eql=>subst h;exact key _ _ rfl ⟨_,rfl,rfl⟩
 case neq=>subst h;exact key _ _ rfl ⟨_,rfl,rfl⟩
 case lss=>subst h;exact key _ _ rfl ⟨_,rfl,rfl⟩
 case leq=>subst h;exact key _ _ rfl ⟨_,rfl,rfl⟩
 case gtr=>subst h;exact key _ _ rfl ⟨_,rfl,rfl⟩
 case geq=>subst h;exact key _ _ rfl ⟨_,rfl,rfl⟩
theorem Jo {bt:Bool} {x y:UInt8} {v:SV τ dn} (h:oY op x y=some v):ry D N bt op (.vy x) (.vy y) (.val [] v):=by
 intro _
 have key:(∃w,binA bt op (.int .u8 (x.toNat:Int)) (.int .u8 (y.toNat:Int))=some w/\v.av D.toTE N= .v w)->∃O v' x' y' w,(SR.val [] v:SR τ dn)= .val O v'/\(SV.vy x:SV τ dn).av D.toTE N= .v x'/\(SV.vy y:SV τ dn).av D.toTE N= .v y'/\binA bt op x' y'=some w/\v'.av D.toTE N= .v w:=
  fun ⟨w,h1,h2⟩=>⟨_,_,_,_,w,rfl,rfl,rfl,h1,h2⟩
 refine key ?_
 cases op<;>simp only [oY,N6,reduceCtorEq] at h<;>subst h
 case add=>exact ⟨_,rfl,by rw [Jc];rfl⟩
 case sub=>exact ⟨_,rfl,by rw [Jd];rfl⟩
 case mul=>exact ⟨_,rfl,by rw [Je];rfl⟩
 case and=>exact ⟨_,rfl,by rw [xN];rfl⟩
 case or=>exact ⟨_,rfl,by rw [xN];rfl⟩
 case xor=>exact ⟨_,rfl,by rw [xN];rfl⟩
 case eql=>exact ⟨_,rfl,by simp only [SV.av,Cn.den];congr 2;rw [PC];simp [<-UInt8.toNat_inj];omega⟩
 case neq=>exact ⟨_,rfl,by simp only [SV.av,Cn.den];congr 2;rw [PC];simp [<-UInt8.toNat_inj];omega⟩
 case lss=>exact ⟨_,rfl,by simp only [SV.av,Cn.den];congr 2;rw [PC];simp [UInt8.lt_iff_toNat_lt]⟩
 case leq=>exact ⟨_,rfl,by simp only [SV.av,Cn.den];congr 2;rw [PC];simp [UInt8.le_iff_toNat_le]⟩
 case gtr=>exact ⟨_,rfl,by simp only [SV.av,Cn.den];congr 2;rw [PC];simp [UInt8.lt_iff_toNat_lt]⟩
 case geq=>exact ⟨_,rfl,by simp only [SV.av,Cn.den];congr 2;rw [PC];simp [UInt8.le_iff_toNat_le]⟩
theorem Jp {bt:Bool} {x y:ec} {v:SV τ dn} (h:oU op x y=some v):ry D N bt op (.vu x) (.vu y) (.val [] v):=by
 intro _
 have key:(∃w,binA bt op (.int .u64 (x.n:Int)) (.int .u64 (y.n:Int))=some w/\v.av D.toTE N= .v w)->∃O v' x' y' w,(SR.val [] v:SR τ dn)= .val O v'/\(SV.vu x:SV τ dn).av D.toTE N= .v x'/\(SV.vu y:SV τ dn).av D.toTE N= .v y'/\binA bt op x' y'=some w/\v'.av D.toTE N= .v w:=
  fun ⟨w,h1,h2⟩=>⟨_,_,_,_,w,rfl,rfl,rfl,h1,h2⟩
 refine key ?_
 cases op<;>simp only [oU,N6,reduceCtorEq] at h<;>subst h
 case add=>exact ⟨_,rfl,by rw [Jf];rfl⟩
 case sub=>exact ⟨_,rfl,by rw [Jg];rfl⟩
 case mul=>exact ⟨_,rfl,by rw [Jh];rfl⟩
 case and=>exact ⟨_,rfl,by rw [qR];rfl⟩
 case or=>exact ⟨_,rfl,by rw [qR];rfl⟩
 case xor=>exact ⟨_,rfl,by rw [qR];rfl⟩
 case andNot=>exact ⟨_,rfl,by rw [qR];rfl⟩
 all_goals exact ⟨_,rfl,rfl⟩
theorem Jq {bt:Bool} {x y:ByteArray} {r:SR τ dn} (h:oZ op x y=some r):ry D N bt op (.vz x) (.vz y) r:=by
 intro hO
 cases op<;>simp only [oZ,N6,reduceCtorEq] at h<;>subst h
 case add=>
  simp only [SR.O,Of,Ou] at hO
  exact ⟨_,_,_,_,_,rfl,rfl,rfl,by simp only [binA];rw [N7 (by rw [show IntKind.i64.max=9223372036854775807 from rfl];omega)],rfl⟩
 all_goals exact ⟨_,_,_,_,_,rfl,rfl,rfl,rfl,rfl⟩
theorem xT {a b v:SV τ dn} (h:qY a b=some v):∃x y,a.av D.toTE N= .v (.bool x)/\b.av D.toTE N= .v (.bool y)/\v.av D.toTE N= .v (.bool (x==y)):=by
 unfold qY at h
 split at h<;>simp only [N6,reduceCtorEq] at h<;>subst h
 ·rename_i c b;exact ⟨_,_,rfl,rfl,by cases b<;>simp [SV.av,Cn.den]⟩
 ·rename_i b c;exact ⟨_,_,rfl,rfl,by cases b<;>simp [SV.av,Cn.den]<;>cases c.den<;>rfl⟩
 ·exact ⟨_,_,rfl,rfl,rfl⟩
theorem xU {a v:SV τ dn} (h:qV a=some v):∃x,a.av D.toTE N= .v (.bool x)/\v.av D.toTE N= .v (.bool !x):=by
 unfold qV at h
 split at h<;>simp only [N6,reduceCtorEq] at h<;>subst h
 ·exact ⟨_,rfl,rfl⟩
 ·exact ⟨_,rfl,rfl⟩
theorem Jr {bt:Bool} {a b:SV τ dn} {r:SR τ dn} (h:qZ neg bt op a b=some r):ry D N bt op a b r:=by
 unfold qZ at h
 split at h
 ·rename_i v hv
  simp only [N6] at h;subst h
  intro _
  obtain ⟨x,y,w,h1,h2,h3,h4⟩:=B6 (D:=D) (N:=N) hv
  exact ⟨_,_,_,_,_,rfl,h1,h2,h3,h4⟩
 ·split at h
  ·rename_i ha hb;exact Jn ha hb h
  ·split at h
   ·simp only [Od] at h;obtain ⟨v,hv,rfl⟩:=h;exact Jo hv
   ·simp only [Od] at h;obtain ⟨v,hv,rfl⟩:=h;exact Jp hv
   ·exact Jq h
   ·split at h<;>simp only [N6,reduceCtorEq] at h<;>subst h<;>intro hO<;>simp only [SR.O,Of,Ou] at hO
    ·exact ⟨_,_,_,_,_,rfl,rfl,rfl,by simp only [binA];rw [N7 (by omega)],by rw [BV];rfl⟩
    ·exact ⟨_,_,_,_,_,rfl,rfl,rfl,by simp only [binA];rw [N7 (by omega)],by rw [BW];rfl⟩
   ·split at h<;>simp only [N6,reduceCtorEq] at h<;>subst h<;>intro hO<;>simp only [SR.O,Of,Ou] at hO
    ·exact ⟨_,_,_,_,_,rfl,rfl,rfl,by simp only [binA];rw [N7 (by omega)],by rw [BV];rfl⟩
    ·exact ⟨_,_,_,_,_,rfl,rfl,rfl,by simp only [binA];rw [N7 (by omega)],by rw [BW];rfl⟩
   ·split at h<;>simp only [N6,reduceCtorEq] at h<;>subst h<;>intro hO<;>simp only [SR.O,Of,Ou] at hO
    ·exact ⟨_,_,_,_,_,rfl,rfl,rfl,by simp only [binA];rw [N7 (by omega)],by rw [BX];rfl⟩
    ·exact ⟨_,_,_,_,_,rfl,rfl,rfl,by simp only [binA];rw [N7 (by omega)],by rw [BY];rfl⟩
   ·split at h<;>simp only [N6,reduceCtorEq] at h<;>subst h<;>intro hO<;>simp only [SR.O,Of,Ou] at hO
    ·exact ⟨_,_,_,_,_,rfl,rfl,rfl,by simp only [binA];rw [N7 (by omega)],by rw [BX];rfl⟩
    ·exact ⟨_,_,_,_,_,rfl,rfl,rfl,by simp only [binA];rw [N7 (by omega)],by rw [BY];rfl⟩
   ·split at h
    ·rename_i hq
     subst hq
     split at h<;>simp only [N6,reduceCtorEq] at h<;>subst h<;>intro _<;>exact ⟨_,_,_,_,_,rfl,rfl,rfl,by simp only [binA,Oa]<;>rfl,rfl⟩
    ·simp at h
   ·split at h<;>simp only [N6,reduceCtorEq] at h<;>subst h<;>intro hO<;>simp only [SR.O,Of,Ou] at hO
    ·exact ⟨_,_,_,_,_,rfl,rfl,rfl,by simp only [binA];rw [N7 (by omega)],rfl⟩
    ·exact ⟨_,_,_,_,_,rfl,rfl,rfl,by simp only [binA];rw [N7 (by omega)],rfl⟩
   ·split at h<;>simp only [N6,reduceCtorEq] at h<;>subst h<;>intro hO<;>simp only [SR.O,Of,Ou] at hO
    ·exact ⟨_,_,_,_,_,rfl,rfl,rfl,by simp only [binA];rw [N7 (by omega)],rfl⟩
    ·exact ⟨_,_,_,_,_,rfl,rfl,rfl,by simp only [binA];rw [N7 (by omega)],rfl⟩
   ·split at h<;>simp only [N6,reduceCtorEq] at h<;>subst h<;>intro _
    ·exact ⟨_,_,_,_,_,rfl,rfl,rfl,by simp only [binA];rw [N7 (by omega)],by rw [O3];rfl⟩
    ·exact ⟨_,_,_,_,_,rfl,rfl,rfl,by simp only [binA];rw [N7 (by omega)],by rw [O3];rfl⟩
   ·split at h
    ·rename_i Js
     subst Js
     split at h
     ·simp only [Od] at h;obtain ⟨v,hv,rfl⟩:=h
      obtain ⟨x,y,h1,h2,h3⟩:=xT (D:=D) (N:=N) hv
      intro _;exact ⟨_,_,_,_,_,rfl,h1,h2,rfl,h3⟩
     ·simp only [Od,PE] at h;obtain ⟨v,⟨w,hw,hv⟩,rfl⟩:=h
      obtain ⟨x,y,h1,h2,h3⟩:=xT (D:=D) (N:=N) hw
      obtain ⟨z,h4,h5⟩:=xU (D:=D) (N:=N) hv
      rw [h3] at h4;simp only [AV.v.injEq,Value.bool.injEq] at h4;subst h4
      intro _;exact ⟨_,_,_,_,_,rfl,h1,h2,rfl,h5⟩
     ·simp at h
    ·simp at h
theorem Jt {op:UnOp} {a:SV τ dn} {r:SR τ dn} (h:q8 op a=some r):(∀p,p∈r.O->p)->∃O v x w,r= .val O v/\a.av D.toTE N= .v x/\unA op x=some w/\v.av D.toTE N= .v w:=by
 intro hO
 unfold q8 at h
 split at h
 ·simp only [Od] at h;obtain ⟨v,hv,rfl⟩:=h
  exact ⟨_,_,_,_,rfl,rfl,rfl,tJ _ _ hv⟩
 ·simp only [N6] at h;subst h
  simp only [SR.O,Of,Ou] at hO
  exact ⟨_,_,_,_,rfl,rfl,rfl,by rw [hO.wr];rfl⟩
 ·simp only [N6] at h;subst h
  rename_i x
  refine ⟨_,_,_,_,rfl,rfl,rfl, ?_⟩
  have e:(if IntKind.u64.signed=true then (-1:Int) else IntKind.u64.max)=((uN 18446744073709551615).n:Int):=rfl
  rw [e,qR];rfl
 ·simp only [Od] at h;obtain ⟨v,hv,rfl⟩:=h
  obtain ⟨x,h1,h2⟩:=xU (D:=D) (N:=N) hv
  exact ⟨_,_,_,_,rfl,h1,rfl,h2⟩
 ·simp at h
theorem Ju {a:SV τ dn} {r:SR τ dn} (h:q9 k a=some r):(∀p,p∈r.O->p)->∃O v q x,r= .val O v/\a.av D.toTE N= .v (.int q x)/\v.av D.toTE N= .v (.int k (k.wrap x)):=by
 intro hO
 unfold q9 at h
 split at h<;>simp only [Od,N6,reduceCtorEq] at h
 ·obtain ⟨v,hv,rfl⟩:=h
  exact ⟨_,_,_,_,rfl,rfl,tJ _ _ hv⟩
 all_goals subst h;try simp only [SR.O,Of,Ou] at hO
 ·exact ⟨_,_,_,_,rfl,rfl,by rw [hO.wr];rfl⟩
 ·rename_i x;exact ⟨_,_,_,_,rfl,rfl,by rw [bJ.wr (x:=(x.toNat:Int)) (by have:=x.toNat_lt;exact ⟨by omega,by omega⟩)];rfl⟩
 ·exact ⟨_,_,_,_,rfl,rfl,by rw [hO.wr];rfl⟩
 ·exact ⟨_,_,_,_,rfl,rfl,by rw [hO.wr];rfl⟩
 ·exact ⟨_,_,_,_,rfl,rfl,by rw [xO hO];rfl⟩
 ·rename_i x;exact ⟨_,_,_,_,rfl,rfl,by rw [xO (Int.natCast_nonneg _)];rfl⟩
 ·exact ⟨_,_,_,_,rfl,rfl,by rw [xO hO];rfl⟩
 ·exact ⟨_,_,_,_,rfl,rfl,by rw [BZ hO];rfl⟩
 ·rename_i x;exact ⟨_,_,_,_,rfl,rfl,by rw [BZ (Int.natCast_nonneg _)];rfl⟩
 all_goals exact ⟨_,_,_,_,rfl,rfl,rfl⟩
theorem o9 {cs:List (SV τ dn)} {v:SV τ dn} (h:lg cs o m=some v):getCells (cs.map (SV.av D.toTE N)) o m=some (v.av D.toTE N):=by
 cases m with
 |none=>simp only [lg] at h;simp only [getCells,Oy,h];rfl
 |some n=>
  simp only [lg] at h
  split at h
  ·rename_i hl
   simp only [N6] at h;subst h
   simp only [getCells,Ox,N8 hl,SV.av,SV.bu,List.map_take,List.map_drop]
  ·simp at h
theorem tL {cs:List (SV τ dn)} {ys:List (SV τ dn)}:(mv cs o ys).map (SV.av D.toTE N)=putCells (cs.map (SV.av D.toTE N)) o (ys.map (SV.av D.toTE N)):=by
 simp only [mv,putCells,O9,List.map_take,List.map_drop,Ox]
theorem tM {cs:List (SV τ dn)} (h:cs.all SV.one=true):(cs.map (SV.av D.toTE N)).all AV.one=true:=by
 simp only [Oc,OE] at h ⊢
 rintro _ ⟨v,hv,rfl⟩
 exact SV.I5 (h v hv)
theorem B7 (R:bg D N st σ g):∀{parts:List (Nat×Nat×Arg)} {cells l:List (SV τ dn)},re st cells parts=some l->fillA (aG σ) (cells.map (SV.av D.toTE N)) parts=some (l.map (SV.av D.toTE N))
 |[],cells,l,h=>by simp only [re,N6] at h;subst h;rfl
 |(off,n,x)::r,cells,l,h=>by
  simp only [re] at h
  split at h
  ·rename_i v hv
   split at h
   ·rename_i hc
    have hs:=SV.qP (E:=D.toTE) (N:=N) hc.2.2
    simp only [fillA,R.ev hv,hs,Ox,hc.1,hc.2.1,SV.I6 hc.2.2,Ow,Oa]
    rw [<-tL];exact B7 R h
   ·simp at h
  ·simp at h
theorem B8 (R:bg D N st σ g) {sz:Nat}:∀{parts:List (Nat×Arg)} {els l:List (List (SV τ dn))},mw st sz els parts=some l->fillE (aG σ) sz (els.map fun cs=>cs.map (SV.av D.toTE N)) parts=some (l.map fun cs=>cs.map (SV.av D.toTE N))
 |[],els,l,h=>by simp only [mw,N6] at h;subst h;rfl
 |(i,x)::r,els,l,h=>by
  simp only [mw] at h
  split at h
  ·rename_i v hv
   split at h
   ·rename_i hc
    have hs:=SV.qP (E:=D.toTE) (N:=N) hc.2.2.1
    simp only [fillE,R.ev hv,hs,Ox,hc.1,hc.2.1,tM hc.2.2.2,Ow,Oa]
    have:=B8 R h
    rw [Pv] at this;exact this
   ·simp at h
  ·simp at h
theorem Jv {k:LK} {a b v:SV τ dn} (h:xQ k a b=some v):∃x,v.av D.toTE N= .v (.bool x)/\jY k (a.av D.toTE N) (b.av D.toTE N)=some x:=by
 unfold xQ at h
 split at h
 ·split at h
  ·rename_i v hv
   simp only [N6] at h;subst h
   obtain ⟨x,y,w,h1,h2,h3,h4⟩:=B6 (D:=D) (N:=N) hv
   rw [h1,h2]
   unfold qW at hv
   split at hv
   ·rename_i x' y' g1 g2
    rw [tK (D:=D) (N:=N) g1] at h1;rw [tK (D:=D) (N:=N) g2] at h2
    simp only [AV.v.injEq] at h1 h2;subst h1;subst h2
    clear hv
    cases a<;>simp only [SV.lit,N6,reduceCtorEq] at g1<;>subst g1<;>cases b<;>simp only [SV.lit,N6,reduceCtorEq] at g2<;>subst g2
    ·simp only [binA,Oa,N6] at h3;subst h3
     exact ⟨_,h4,by simp [jY]⟩
    all_goals simp [binA] at h3
   ·simp at hv
  ·split at h
   ·rename_i ha hb
    simp only [N6] at h;subst h
    rw [eA ha,eA hb]
    exact ⟨_,rfl,by simp [jY,Cn.den]⟩
   ·split at h<;>simp only [N6,reduceCtorEq] at h<;>subst h
    ·exact ⟨_,rfl,by simp [jY,SV.av,Cn.den]⟩
    ·refine ⟨_,rfl, ?_⟩
     simp only [jY,SV.av,Cn.den,Oa,N6]
     rw [PC];simp [<-UInt8.toNat_inj];omega
 ·simp only [N6] at h;subst h;exact ⟨_,rfl,rfl⟩
 ·simp only [N6] at h;subst h;exact ⟨_,rfl,rfl⟩
 ·obtain ⟨x,y,h1,h2,h3⟩:=xT (D:=D) (N:=N) h
  exact ⟨_,h3,by rw [h1,h2];rfl⟩
 ·simp at h
theorem Jw {a b v:SV τ dn} (h:xP a b=some v) {x y:Bool} (hx:a.av D.toTE N= .v (.bool x)) (hy:b.av D.toTE N= .v (.bool y)):v.av D.toTE N= .v (.bool (x&&y)):=by
 unfold xP at h
 split at h<;>simp only [N6,reduceCtorEq] at h<;>subst h<;>simp only [SV.av,AV.v.injEq,Value.bool.injEq,Cn.den] at hx hy ⊢
 ·subst hx;rw [hy];simp
 ·subst hx;simp
 ·subst hx;simp
 ·subst hx;subst hy;simp
 ·subst hx;subst hy;simp
 ·subst hx;subst hy;rfl
theorem B9:∀{L:List (Nat×LK)} {cs ds:List (SV τ dn)} {v:SV τ dn},rf cs ds L=some v->∃x,v.av D.toTE N= .v (.bool x)/\eqA (cs.map (SV.av D.toTE N)) (ds.map (SV.av D.toTE N)) L=some x
 |[],cs,ds,v,h=>by simp only [rf,N6] at h;subst h;exact ⟨_,rfl,rfl⟩
 |(o,k)::r,cs,ds,v,h=>by
  simp only [rf] at h
  split at h
  ·rename_i a b ha hb
   split at h
   ·rename_i x y hx hy
    obtain ⟨p,h1,h2⟩:=Jv (D:=D) (N:=N) hx
    obtain ⟨q,h3,h4⟩:=B9 hy
    refine ⟨_,Jw h h1 h3, ?_⟩
    simp only [eqA,Oy,ha,hb,Oh,h2,h4]
   ·simp at h
  ·simp at h
end
open Go.RowKit
section
variable {τ:Type} {dn:τ->Type} {D:TD τ dn} {N:aC} {st:SS τ dn} {σ:Nat->AV} {g:Nat->Option Bk}
theorem kr (R:bg D N st σ g) {x:Option Arg} {r:Option Int} (h:lh st x=some r) (h0:∀l,r=some l->0<=l):cN (aG σ) x=some (r.map Int.toNat):=by
 cases x with
 |none=>simp only [lh,N6] at h;subst h;rfl
 |some x=>
  simp only [lh] at h
  split at h
  ·rename_i v hv
   split at h
   ·rename_i k l hk
    simp only [N6] at h;subst h
    have:=h0 k rfl
    simp only [cN,R.ev hv,eA hk,natOf,this,Oa,Oh]
   ·simp at h
  ·simp at h
theorem Ca (ok:aZ D) (R:bg D N st σ g) {v:SV τ dn} (hx:st.ev x=some v) {r:SR τ dn} (h:nS D st m v=some r):r.Good D N st.nx σ g (.load m x):=by
 intro k hO hf
 unfold nS at h
 split at h
 ·rename_i cs o
  simp only [Od] at h;obtain ⟨w,hw,rfl⟩:=h
  have:=o9 (D:=D) (N:=N) hw
  simp only [AO.au,R.ev hx,SV.av,SV.bu,this,Oh,RM.opt,RM.run,SR.v,SR.ups]
 ·rename_i nm sz i o
  split at h
  ·rename_i ty xs hB
   split at h
   ·rename_i hs
    simp only [Od] at h;obtain ⟨w,hw,rfl⟩:=h
    simp only [SR.O,Of,Ou] at hO
    have hg:=(R.gm hB).1
    have hq:=o9 (D:=D) (N:=N) hw
    rw [ok.dp] at hq
    simp only [AO.au,R.ev hx,SV.av,RM.run,hg,SB.av,hs,Oa,Oy,lf (d:=D.df ty) hO,Oh,Pg,hq,RM.opt,SR.v,SR.ups]
   ·simp at h
  ·rename_i q els hB
   split at h
   ·rename_i hs
    split at h
    ·rename_i cs hcs
     simp only [Od] at h;obtain ⟨w,hw,rfl⟩:=h
     have hg:=(R.gm hB).1
     have hq:=o9 (D:=D) (N:=N) hw
     simp only [AO.au,R.ev hx,SV.av,RM.run,hg,SB.av,hs,Oa,SV.iE,Oy,hcs,Oh,Pg,hq,RM.opt,SR.v,SR.ups]
    ·simp at h
   ·simp at h
  ·simp at h
 ·simp at h
theorem Jx (ok:aZ D) (R:bg D N st σ g) {a b:SV τ dn} (hx:st.ev x=some a) (hy:st.ev y=some b) {r:SR τ dn} (h:tB D st n a b=some r):r.Good D N st.nx σ g (.store n x y):=by
 intro k hO hf
 unfold tB at h
 split at h
 case isFalse=>simp at h
 rename_i hc
 have bY:=SV.qP (E:=D.toTE) (N:=N) hc.2.1
 have dF:=tM (D:=D) (N:=N) hc.2.2
 split at h
 ·rename_i nm sz i o
  split at h
  case isFalse=>simp at h
  rename_i hn
  have hle:=hn.1
  split at h
  ·rename_i ty xs hB
   split at h
   ·rename_i hs
    split at h
    ·rename_i z hz
     simp only [N6] at h;subst h
     simp only [SR.O,Of,Ou] at hO
     have hg:=(R.gm hB).1
     have he:=ok.fR N ty _ z hz hs.2
     rw [tL,ok.dp] at he
     simp only [AO.au,R.ev hx,R.ev hy,SV.av,RM.run,hg,SB.av,hs.1,bY,Ox,hc.1,dF,hle,Ow,Oa,Oy,lf (d:=D.df ty) hO,Oh,SR.v,SR.ups,he,Pv]
    ·simp at h
   ·simp at h
  ·rename_i q els hB
   split at h
   ·rename_i hs
    split at h
    ·rename_i cs hcs
     simp only [N6] at h;subst h
     have hg:=(R.gm hB).1
     simp only [AO.au,R.ev hx,R.ev hy,SV.av,RM.run,hg,SB.av,hs,bY,Ox,hc.1,dF,hle,Ow,Oa,SV.iE,Oy,hcs,Oh,SR.v,SR.ups,Pv,tL]
    ·simp at h
   ·simp at h
  ·simp at h
 ·simp at h
theorem Jy (ok:aZ D) (R:bg D N st σ g) {sz:Nat} {a b:SV τ dn} {n:Int} (hx:st.ev x=some a) (hy:st.ev y=some b) (hb:b.int=some (n,l)) {r:SR τ dn} (h:rh D st sz a n l=some r):r.Good D N st.nx σ g (.iad sz x y):=by
 intro k hO hf
 unfold rh at h
 split at h
 ·rename_i ty xs
  split at h
  ·rename_i hs
   simp only [N6] at h;subst h
   simp only [SR.O,Of,Ou] at hO
   have hl:n.toNat<xs.length:=by omega
   simp only [AO.au,R.ev hx,R.ev hy,eA hb,SV.av,hs,hO.1,Ow,Oa,Oy,lf (d:=D.df ty) hl,Oh,RM.opt,RM.run,SR.v,SR.ups,SV.bu,ok.dp]
  ·simp at h
 ·rename_i q els
  cases l with
  |false=>simp at h
  |true=>
   simp only [Ob] at h
   split at h
   ·rename_i hs
    simp only [Od] at h;obtain ⟨cs,hcs,rfl⟩:=h
    simp only [AO.au,R.ev hx,R.ev hy,eA hb,SV.av,hs.1,hs.2,Ow,Oa,SV.iE,Oy,hcs,Oh,RM.opt,RM.run,SR.v,SR.ups,SV.bu]
   ·simp at h
 ·rename_i nm q
  split at h
  case isFalse=>simp at h
  rename_i hs
  have key:∀B,st.gm nm=some B->0<=n/\n<B.len->r= .val r.O (.ref nm sz n.toNat 0)->(AO.au k (aG σ) (.iad sz x y)).run g=some (.done (r.v.av D.toTE N) (r.ups D N k)):=by
   intro B hB hr he
   obtain ⟨g1,g2⟩:=R.gm hB
   have:n<(N.ln nm:Int):=by rw [g2];exact hr.2
   rw [he]
   simp only [AO.au,R.ev hx,R.ev hy,eA hb,SV.av,hs,hr.1,this,Ow,Oa,RM.run,g1,SR.v,SR.ups,On]
  split at h
  ·rename_i ty xs hB
   simp only [N6] at h;subst h
   simp only [SR.O,Of,Ou] at hO
   exact key _ hB hO rfl
  ·rename_i q' els hB
   cases l with
   |true=>
    simp only [Ob] at h
    split at h
    ·rename_i hr
     simp only [N6] at h;subst h
     exact key _ hB hr rfl
    ·simp at h
   |false=>
    simp only [Ot,N6] at h;subst h
    simp only [SR.O,Of,Ou] at hO
    exact key _ hB hO rfl
  ·simp at h
 ·rename_i nm q off len
  split at h
  case isFalse=>simp at h
  rename_i hs
  simp only [Od] at h;obtain ⟨B,hB,rfl⟩:=h
  simp only [SR.O,Of,Ou] at hO
  obtain ⟨g1,g2⟩:=R.gm hB
  simp only [AO.au,R.ev hx,R.ev hy,eA hb,SV.av,hs,hO.1,hO.2,Ow,Oa,RM.run,g1,SR.v,SR.ups]
 ·simp at h
theorem Jz (B:SB τ dn):B.B5.av D.toTE N= .v (goInt B.len):=by cases B<;>rfl
theorem JA (R:bg D N st σ g) {s:Bool} {v:SV τ dn} (hx:st.ev x=some v) {r:SR τ dn} (h:rk st s v=some r):r.Good D N st.nx σ g (.len s x):=by
 intro k hO hf
 unfold rk at h
 split at h
 ·simp only [N6] at h;subst h;simp only [AO.au,R.ev hx,SV.av,RM.run,SR.v,SR.ups,goInt]
 ·simp only [N6] at h;subst h;simp only [AO.au,R.ev hx,SV.av,RM.run,SR.v,SR.ups,goInt,Ox]
 ·simp only [N6] at h;subst h;simp only [AO.au,R.ev hx,SV.av,RM.run,SR.v,SR.ups,goInt,SV.iE,Ox]
 ·simp only [N6] at h;subst h;simp only [AO.au,R.ev hx,SV.av,RM.run,SR.v,SR.ups,goInt]
 ·rename_i nm _
  simp only [Od] at h;obtain ⟨B,hB,rfl⟩:=h
  obtain ⟨g1,g2⟩:=R.gm hB
  simp only [AO.au,R.ev hx,SV.av,RM.run,g1,g2,SR.v,SR.ups,Jz]
 ·rename_i nm _ _ n
  simp only [Od] at h;obtain ⟨B,hB,rfl⟩:=h
  obtain ⟨g1,g2⟩:=R.gm hB
  simp only [AO.au,R.ev hx,SV.av,RM.run,g1,SR.v,SR.ups,goInt]
 ·simp at h
theorem JB (R:bg D N st σ g) {v:SV τ dn} (hx:st.ev x=some v) {r:SR τ dn} (h:rn st kd neg v=some r):r.Good D N st.nx σ g (.isn kd neg x):=by
 intro k hO hf
 unfold rn at h
 split at h
 ·simp only [N6] at h;subst h;simp only [AO.au,R.ev hx,SV.av,RM.run,SR.v,SR.ups]
 ·simp only [N6] at h;subst h;simp only [AO.au,R.ev hx,SV.av,RM.run,SR.v,SR.ups]
 ·simp only [N6] at h;subst h;simp only [AO.au,R.ev hx,SV.av,RM.run,SR.v,SR.ups]
 ·rename_i nm _ _ _
  simp only [Od] at h;obtain ⟨B,hB,rfl⟩:=h
  obtain ⟨g1,g2⟩:=R.gm hB
  simp only [AO.au,R.ev hx,SV.av,RM.run,g1,SR.v,SR.ups]
 ·simp only [N6] at h;subst h;simp only [AO.au,R.ev hx,SV.av,RM.run,SR.v,SR.ups]
 ·simp only [N6] at h;subst h;simp only [AO.au,R.ev hx,SV.av,RM.run,SR.v,SR.ups]
 ·rename_i ty xs
  simp only [N6] at h;subst h
  simp only [SR.O,Of,Ou] at hO
  cases xs with
  |nil=>exact absurd rfl hO
  |cons a l=>simp only [AO.au,R.ev hx,SV.av,RM.run,SR.v,SR.ups,Om,List.isEmpty_cons,O0,OH]
 ·simp at h
theorem xV {len:Int} (h:∀p,p∈lj len lo hi->p):(∀l,lo=some l->0<=l)/\(∀l,hi=some l->0<=l)/\((lo.getD 0:Int)<=hi.getD len\/(lo=none/\hi=none))/\(hi.getD len<=len):=by
 cases lo<;>cases hi<;>simp only [lj,Of,Ou,Pa,false_implies,implies_true] at h<;>simp<;>omega
theorem xW (h:∀p,p∈lj (n:Int) lo hi->p):bounds n (lo.map Int.toNat) (hi.map Int.toNat)=some ((lo.getD 0).toNat,(hi.getD (n:Int)).toNat):=by
 cases lo<;>cases hi<;>simp only [lj,Of,Ou,Pa,false_implies,implies_true] at h<;>simp only [bounds,Option.map_none,Oh,Py,O8]
 ·rw [N8 (by omega)];simp
 ·rw [N8 (by omega)];simp
 ·rw [N8 (by omega)];simp
 ·rw [N8 (by omega)]
theorem JC {α:Type} {xs:List α} (h:∀p,p∈lj (xs.length:Int) lo hi->p):xR xs lo hi=(xs.drop (lo.getD 0).toNat).take ((hi.getD (xs.length:Int)).toNat - (lo.getD 0).toNat):=by
 cases lo<;>cases hi<;>simp only [lj,Of,Ou,Pa,false_implies,implies_true] at h<;>simp only [xR,Py,O8]
 ·simp
 ·simp
 ·rw [PA (by simp)]
theorem JD (R:bg D N st σ g) {sz:Nat} {lo hi:Option Arg} {v:SV τ dn} {l h':Option Int} (hx:st.ev x=some v) (hl:lh st lo=some l) (hh:lh st hi=some h') {r:SR τ dn} (h:rp D st sz v l h'=some r):r.Good D N st.nx σ g (.slc sz x lo hi none):=by
 intro k hO hf
 have hn:cN (aG σ) none=some none:=rfl
 unfold rp at h
 split at h
 ·rename_i ty xs
  split at h
  ·rename_i hs
   simp only [N6] at h;subst h
   simp only [SR.O] at hO
   have nn:=xV hO
   have e1:=kr R hl nn.1
   have e2:=kr R hh nn.2.1
   have hb:=xW hO
   simp only [AO.au,e1,e2,hn,R.ev hx,SV.av,hs,Oa,Ox,hb,Pg,cutL,Oh,RM.opt,RM.run,SR.v,SR.ups,JC hO,List.map_take,List.map_drop]
  ·simp at h
 ·split at h
  ·simp only [N6] at h;subst h
   have e1:=kr R hl (by simp)
   have e2:=kr R hh (by simp)
   simp only [AO.au,e1,e2,hn,R.ev hx,SV.av,Option.map_none,bounds,Py,Og,Ow,Oa,Pg,RM.opt,RM.run,SR.v,SR.ups]
  ·simp at h
 ·rename_i nm q
  split at h
  case isFalse=>simp at h
  rename_i hs
  split at h
  ·simp only [Od] at h;obtain ⟨B,hB,rfl⟩:=h
   obtain ⟨g1,g2⟩:=R.gm hB
   have e1:=kr R hl (by simp)
   have e2:=kr R hh (by simp)
   simp only [AO.au,e1,e2,hn,R.ev hx,SV.av,Option.map_none,RM.run,g1,hs,Oa,bounds,Py,Nat.zero_le,Og,Ow,SR.v,SR.ups,On,Nat.sub_zero]
  ·simp only [Od] at h;obtain ⟨B,hB,rfl⟩:=h
   obtain ⟨g1,g2⟩:=R.gm hB
   simp only [SR.O] at hO
   have nn:=xV hO
   have e1:=kr R hl nn.1
   have e2:=kr R hh nn.2.1
   have hb:=xW hO
   simp only [AO.au,e1,e2,hn,R.ev hx,SV.av,RM.run,g1,hs,Oa,g2,hb,SR.v,SR.ups,On]
 ·simp at h
theorem tO [DecidableEq τ] (ok:aZ D) {ty:τ}:∀{els:List (List (SV τ dn))} {xs:List (dn ty)},kj D ty els=some xs->(SV.bR D.toTE N els)=xs.map (D.ea N.ρ ty)
 |[],xs,h=>by simp only [kj,N6] at h;subst h;rfl
 |cs::r,xs,h=>by
  simp only [kj] at h
  split at h
  ·rename_i hn
   split at h
   ·rename_i x l h1 h2
    simp only [N6] at h;subst h
    have e1:=ok.fR N ty _ _ h1 hn
    have e2:=tO ok h2
    simp only [SV.bR,SV.bu,e1,e2,Om]
   ·simp at h
  ·simp at h
theorem tP [DecidableEq τ] {ty:τ}:∀{els:List (List (SV τ dn))} {xs:List (dn ty)},kj D ty els=some xs->els.length=xs.length
 |[],xs,h=>by simp only [kj,N6] at h;subst h;rfl
 |cs::r,xs,h=>by
  simp only [kj] at h
  split at h
  ·split at h
   ·rename_i x l h1 h2
    simp only [N6] at h;subst h
    simp [tP h2]
   ·simp at h
  ·simp at h
theorem xX {a:SV τ dn} {x:Value} (h:a.key=some x):a.av D.toTE N= .v x:=by
 cases a<;>simp [SV.key] at h<;>subst h<;>rfl
theorem xY {kd:LK} {k:Value}:∀{els:List (List (SV τ dn))} {r:Option (SV τ dn)},lp kd k els=some r->mfind kd k (SV.bR D.toTE N els)=some (r.map (SV.av D.toTE N))
 |[],r,h=>by simp only [lp,N6] at h;subst h;rfl
 |[kv,x]::l,r,h=>by
  simp only [lp] at h
  split at h
  ·rename_i k' hk
   simp only [SV.bR,SV.cu,xX hk,mfind]
   split at h
   ·rename_i he
    simp only [N6] at h;subst h
    simp only [he];rfl
   ·rename_i he
    simp only [he];exact xY h
   ·simp at h
  ·simp at h
 |[]::l,r,h=>by simp [lp] at h
 |[_]::l,r,h=>by simp [lp] at h
 |(_::_::_::_)::l,r,h=>by simp [lp] at h
theorem Cb {n z:Int}:∀{els:List (List (SV τ dn))} {l:List (Int×Int)},lq els=some l->∃r,mfind .int (.int .i64 n) (SV.bR D.toTE N els)=some r/\r.getD (.v (.int .i64 z))= .v (.int .i64 (tG z n l))
 |[],l,h=>by simp only [lq,N6] at h;subst h;exact ⟨none,rfl,rfl⟩
 |[kv,x]::els,l,h=>by
  cases kv with
  |vn k=>
   simp only [lq] at h
   split at h
   ·rename_i v b l' h1 h2
    simp only [N6] at h;subst h
    obtain ⟨r,q1,q2⟩:=Cb (n:=n) (z:=z) h2
    simp only [SV.bR,SV.cu,SV.av,eA h1,mfind,keyEq,Oa,tG]
    by_cases hk:n=k
    ·subst hk;exact ⟨some (.v (.int .i64 v)),by simp,by simp⟩
    ·have:(n==k)=false:=by simpa using hk
     rw [this,N7 hk];exact ⟨r,q1,q2⟩
   ·simp at h
  |_=>simp [lq] at h
 |[]::l,r,h=>by simp [lq] at h
 |[_]::l,r,h=>by simp [lq] at h
 |(_::_::_::_)::l,r,h=>by simp [lq] at h
theorem JE (R:bg D N st σ g) {kd:LK} {k:Arg} {a b c:SV τ dn} (hx:st.ev x=some a) (hk:st.ev k=some b) (hy:st.ev y=some c) {r:SR τ dn} (h:tH st kd a b c=some r):r.Good D N st.nx σ g (.mup kd x k y):=by
 unfold tH at h
 split at h
 case h_2=>simp at h
 rename_i nm key j1
 split at h
 case h_2=>simp at h
 rename_i els hB
 cases hb:(st.rw nm&&plainV key) with
 |false=>rw [hb] at h;simp at h
 |true=>
  rw [hb,Ob] at h
  rw [N9] at hb
  split at h
  case h_2=>simp at h
  rename_i hf
  simp only [N6] at h;subst h
  intro k' hO ep
  have g1:=(R.gm hB).1
  have hm:=xY (D:=D) (N:=N) hf
  rw [SV.iE] at hm
  simp only [AO.au,R.ev hx,R.ev hk,R.ev hy,xX j1,SV.av,RM.run,g1,SB.av,hb.2,Ow,Oa,hm,Option.map_none,SR.v,SR.ups,SV.iE,O9,Om,OU]
theorem JF (R:bg D N st σ g) {kd:LK} {z:AV} {k:Arg} {a b:SV τ dn} (hx:st.ev x=some a) (hk:st.ev k=some b) {r:SR τ dn} (h:tI st kd z a b=some r):r.Good D N st.nx σ g (.mlk kd z x k):=by
 unfold tI at h
 split at h
 case h_2=>simp at h
 rename_i nm zs hz
 have ez:zs.av D.toTE N=z:=xS _ _ hz
 split at h
 case h_2=>simp at h
 rename_i els hB
 have g1:=(R.gm hB).1
 split at h
 ·rename_i n
  split at h
  case h_2=>simp at h
  rename_i l zi b' hl JG
  simp only [N6] at h;subst h
  intro k' hO ep
  obtain ⟨q,q1,q2⟩:=Cb (D:=D) (N:=N) (n:=n) (z:=zi) hl
  rw [eA JG] at ez
  subst ez
  simp only [AO.au,R.ev hx,R.ev hk,SV.av,RM.run,g1,SB.av,Oa,q1,Oh,RM.opt,q2,SR.v,SR.ups]
 ·split at h
  ·rename_i key j1
   simp only [Od] at h;obtain ⟨q,hq,rfl⟩:=h
   intro k' hO ep
   have hm:=xY (D:=D) (N:=N) hq
   simp only [AO.au,R.ev hx,R.ev hk,xX j1,SV.av,RM.run,g1,SB.av,Oa,hm,Oh,RM.opt,SR.v,SR.ups]
   cases q with
   |none=>simp [ez]
   |some w=>simp
  ·simp at h
def Ct.els (D:TD τ dn) (N:aC):Ct τ dn->List (List AV)
 | .ty t xs=>xs.map (D.ea N.ρ t)
 | .li els=>SV.bR D.toTE N els
theorem Ct.JH (c:Ct τ dn):(c.els D N).length=c.len:=by
 cases c with
 |ty t xs=>simp [Ct.els,Ct.len]
 |li els=>simp [Ct.els,Ct.len,SV.iE]
theorem nT (R:bg D N st σ g) {sz:Nat} {v:SV τ dn} {c:Ct τ dn} (h:st.cont D sz v=some c):(content sz (v.av D.toTE N)).run g=some (c.els D N)/\(∀t xs,c= .ty t xs->D.sz t=sz):=by
 unfold SS.cont at h
 split at h
 ·split at h
  ·rename_i ty xs hs
   simp only [N6] at h;subst h
   refine ⟨by simp only [SV.av,content,hs,Oa,RM.run,Ct.els],fun t ys e=> ?_⟩
   simp only [Ct.ty.injEq] at e;obtain ⟨rfl,_⟩:=e;exact hs
  ·simp at h
 ·split at h
  ·rename_i k els hs
   simp only [N6] at h;subst h
   exact ⟨by simp only [SV.av,content,hs,Oa,RM.run,Ct.els],fun t ys e=>by simp at e⟩
  ·simp at h
 ·simp only [N6] at h;subst h
  exact ⟨rfl,fun t ys e=>by simp at e⟩
 ·rename_i nm k
  split at h
  case isFalse=>simp at h
  rename_i hs
  subst hs
  split at h
  ·rename_i ty xs hB
   split at h
   ·rename_i hs
    simp only [N6] at h;subst h
    obtain ⟨g1,g2⟩:=R.gm hB
    refine ⟨?_,fun t ys e=> ?_⟩
    ·simp only [SV.av,content,RM.run,g1,SB.av,hs,g2,SB.len,On,Ox,Og,Ow,Oa,PV,Ct.els]
     rw [PA (by simp)]
    ·simp only [Ct.ty.injEq] at e;obtain ⟨rfl,_⟩:=e;exact hs
   ·simp at h
  ·rename_i q els hB
   split at h
   ·rename_i hs
    simp only [N6] at h;subst h
    obtain ⟨g1,g2⟩:=R.gm hB
    refine ⟨?_,fun t ys e=>by simp at e⟩
    have e:(SV.bR D.toTE N els).length=els.length:=by simp [SV.iE]
    simp only [SV.av,content,RM.run,g1,SB.av,hs,g2,SB.len,On,e,Og,Ow,Oa,PV,Ct.els]
    rw [PA (by rw [e];exact Og _)]
   ·simp at h
  ·simp at h
 ·simp at h
theorem JI [DecidableEq τ] {D:TD τ dn} {sz:Nat} {B B':SB τ dn} {c:Ct τ dn} (h:nR D sz B c=some B'):B.xI=false:=by
 cases B with
 |mc els=>simp [nR] at h
 |_=>rfl
theorem JJ [DecidableEq τ] (ok:aZ D) {sz:Nat} {B B':SB τ dn} {c:Ct τ dn} (h:nR D sz B c=some B') (hs:B.sz D=sz) (hc:∀t xs,c= .ty t xs->D.sz t=sz):B'.av D.toTE N=⟨sz,(B.av D.toTE N).els++c.els D N⟩/\B'.len=B.len+c.len:=by
 unfold nR at h
 split at h
 ·split at h
  ·rename_i ty xs my ys he
   simp only [N6] at h;subst h
   subst he
   simp only [SB.sz] at hs
   refine ⟨?_, ?_⟩
   ·simp only [SB.av,Ct.els,O9,hs]
   ·simp [SB.len,Ct.len]
  ·simp at h
 ·simp only [Od] at h;obtain ⟨ys,hy,rfl⟩:=h
  simp only [SB.sz] at hs
  have e:=tO (N:=N) ok hy
  have e2:=tP hy
  refine ⟨?_, ?_⟩
  ·simp only [SB.av,Ct.els,O9,hs,e]
  ·simp [SB.len,Ct.len,e2]
 ·split at h
  ·rename_i q els ty ys hq
   simp only [Od] at h;obtain ⟨xs,hx,rfl⟩:=h
   simp only [SB.sz] at hs
   have e:=tO (N:=N) ok hx
   have e2:=tP hx
   refine ⟨?_, ?_⟩
   ·simp only [SB.av,Ct.els,O9, <-hq,hs,e]
   ·simp [SB.len,Ct.len,e2]
  ·simp at h
 ·split at h
  ·rename_i q els fs hq
   simp only [N6] at h;subst h
   refine ⟨?_, ?_⟩
   ·simp only [SB.av,Ct.els,SV.iE,O9,hq]
   ·simp [SB.len,Ct.len]
  ·simp at h
 ·simp at h
 ·simp at h
theorem JK {sz:Nat} {c:Ct τ dn} (hc:∀t xs,c= .ty t xs->D.sz t=sz):(c.ko sz).av D.toTE N=⟨sz,c.els D N⟩/\(c.ko sz).len=c.len:=by
 cases c with
 |ty t xs=>simp only [Ct.ko,SB.av,Ct.els,hc t xs rfl,SB.len,Ct.len,Ow]
 |li els=>simp only [Ct.ko,SB.av,Ct.els,SB.len,Ct.len,Ow]
theorem JL (B:SB τ dn):(B.av D.toTE N).sz=B.sz D:=by cases B<;>rfl
theorem dq {β:Type} {f:α->RM β} {m:RM α} {a:α} (h:m.run g=some a):(m.bind f).run g=(f a).run g:=(run_bind m h).1
theorem JM [DecidableEq τ] (ok:aZ D) (R:bg D N st σ g) {sz bytes:Nat} {s v:SV τ dn} (hx:st.ev x=some s) (hy:st.ev y=some v) {r:SR τ dn} (h:tC D st sz bytes s v=some r):r.Good D N st.nx σ g (.app sz bytes x y):=by
 intro k hO hf
 unfold tC at h
 split at h
 case h_2=>simp at h
 rename_i c hc
 obtain ⟨c1,c2⟩:=nT R hc
 have cl:(c.els D N).length=c.len:=c.JH
 have e0:(AO.au k (aG σ) (.app sz bytes x y)).run g=_:=dq (by rw [R.ev hy];exact c1)
 rw [e0,R.ev hx]
 clear e0
 split at h
 ·simp only [N6] at h;subst h
  simp only [SR.O,Of,Ou] at hO
  obtain ⟨b1,b2⟩:=JK (N:=N) c2
  obtain ⟨f1,f2⟩:=hf
  simp only [SV.av,cl,hO,Oa,RM.run,SR.v,SR.ups,b1,f1,f2,b2]
 ·rename_i nm q
  split at h
  case isFalse=>simp at h
  rename_i hs
  split at h
  ·rename_i B hB
   split at h
   ·rename_i hz
    simp only [Od] at h;obtain ⟨B',aL,rfl⟩:=h
    simp only [SR.O,Of,Ou] at hO
    obtain ⟨g1,g2⟩:=R.gm hB
    obtain ⟨b1,b2⟩:=JJ (N:=N) ok aL hz c2
    obtain ⟨f1,f2⟩:=hf
    have e1:=B.I4 D.toTE N (JI aL)
    simp only [SV.av,RM.run,g1,JL,hz,hs.1,g2,e1,cl,hO,Ow,Oa,SR.v,SR.ups,b1,f1,f2,b2]
   ·simp at h
  ·simp at h
 ·simp at h
theorem JN [DecidableEq τ] (ok:aZ D) (R:bg D N st σ g) {sz bytes:Nat} {zs:List AV} {a b:SV τ dn} {l:Int} {p q:Bool} (hx:st.ev x=some a) (hy:st.ev y=some b) (ha:a.int=some (l,p)) (hb:b.int=some (c,q)) {r:SR τ dn} (h:rv D st sz bytes zs l c=some r):r.Good D N st.nx σ g (.msl sz bytes zs x y):=by
 intro k hO hf
 unfold rv at h
 split at h
 ·rename_i ty cs h1 h2
  split at h
  ·rename_i hs
   split at h
   ·rename_i z hz
    simp only [N6] at h;subst h
    simp only [SR.O,Of,Ou] at hO
    have e1:=mz D.toTE N h2
    have e2:=ok.fR N ty cs z hz hs.2
    rw [SV.bu] at e1
    rw [e1] at e2
    obtain ⟨f1,f2⟩:=hf
    have h0:0<=c:=by omega
    have hb2:c.toNat*bytes<=140737488355328:=by
     have:=hO.2.2
     obtain ⟨m,rfl⟩:=Int.eq_ofNat_of_zero_le h0
     rw [<-Int.natCast_mul] at this
     exact Int.ofNat_le.1 this
    simp only [AO.au,R.ev hx,R.ev hy,eA ha,eA hb,natOf,hO.1,h0,Oa,Int.toNat_le_toNat hO.2.1,hb2,Ow,RM.run,SR.v,SR.ups,SV.av,f1,f2,SB.len,P3,SB.av,hs.1,List.map_replicate,e2]
   ·simp at h
  ·simp at h
 ·simp at h
theorem JO [DecidableEq τ] (R:bg D N st σ g) {sz:Nat} {a b:SV τ dn} (hx:st.ev x=some a) (hy:st.ev y=some b) {r:SR τ dn} (h:tF D st sz a b=some r):r.Good D N st.nx σ g (.cpy sz x y):=by
 intro k hO hf
 unfold tF at h
 split at h
 ·rename_i nm q ty ys hc
  obtain ⟨c1,c2⟩:=nT R hc
  split at h
  case isFalse=>simp at h
  rename_i hs
  split at h
  ·rename_i my xs hB
   split at h
   ·rename_i he
    subst he
    split at h
    ·rename_i hz
     simp only [N6] at h;subst h
     obtain ⟨g1,g2⟩:=R.gm hB
     have e0:(AO.au k (aG σ) (.cpy sz x y)).run g=_:=dq (by rw [R.ev hy];exact c1)
     rw [e0,R.ev hx]
     simp only [SV.av,RM.run,g1,SB.av,hz,hs.1,g2,SB.len,Ox,On,Og,Ow,Oa,Ct.els,SR.v,SR.ups,List.take_zero,List.nil_append,goInt,O9,List.map_take,List.map_drop]
    ·simp at h
   ·simp at h
  ·simp at h
 ·simp at h
theorem Cc (ok:aZ D) {t:τ} {p:(dn t->UInt8)×(UInt8->dn t)} (h:D.bt t=some p):∀xs:List (dn t),strOf (xs.map (D.ea N.ρ t))=some (xs.map p.1)
 |[]=>rfl
 |x::r=>by
  rw [Om,(ok.bt N t p h).1 x,strOf,Cc ok h r,O3,UInt8.ofNat_toNat];rfl
theorem Cd:∀{els:List (List (SV τ dn))} {l:List UInt8},rq els=some l->strOf (SV.bR D.toTE N els)=some l
 |[],l,h=>by simp only [rq,N6] at h;subst h;rfl
 |cs::r,l,h=>by
  unfold rq at h
  split at h
  ·rename_i e;simp at e
  ·rename_i b r' e
   simp only [PS] at e
   obtain ⟨rfl,rfl⟩:=e
   split at h
   ·rename_i l' hl
    simp only [N6] at h;subst h
    have:=Cd hl
    simp only [SV.bR,SV.cu,SV.av,strOf,this,Oh,O3,UInt8.ofNat_toNat]
   ·simp at h
  ·simp at h
theorem JP [DecidableEq τ] (ok:aZ D) (R:bg D N st σ g) {v:SV τ dn} (hx:st.ev x=some v) {r:SR τ dn} (h:rr D st v=some r):r.Good D N st.nx σ g (.b2s x):=by
 intro k hO hf
 unfold rr at h
 split at h
 ·rename_i t xs hc
  obtain ⟨c1,_⟩:=nT R hc
  split at h
  ·rename_i p hp
   simp only [N6] at h;subst h
   have e0:(AO.au k (aG σ) (.b2s x)).run g=_:=dq (by rw [R.ev hx];exact c1)
   rw [e0]
   simp only [Ct.els,Cc ok hp,Oh,RM.opt,RM.run,SR.v,SR.ups,SV.av]
  ·simp at h
 ·rename_i els hc
  obtain ⟨c1,_⟩:=nT R hc
  split at h
  ·rename_i l hl
   simp only [N6] at h;subst h
   have e0:(AO.au k (aG σ) (.b2s x)).run g=_:=dq (by rw [R.ev hx];exact c1)
   rw [e0]
   simp only [Ct.els,Cd hl,Oh,RM.opt,RM.run,SR.v,SR.ups,SV.av]
  ·simp at h
 ·simp at h
theorem JQ [DecidableEq τ] (ok:aZ D) (R:bg D N st σ g) (hx:st.ev x=some (.vz s)) {r:SR τ dn} (h:ru D st s=some r):r.Good D N st.nx σ g (.s2b x):=by
 intro k hO hf
 unfold ru at h
 split at h
 ·rename_i t ht
  split at h
  ·rename_i p hp
   split at h
   ·rename_i hs
    simp only [N6] at h;subst h
    simp only [SR.O,Of,Ou] at hO
    obtain ⟨f1,f2⟩:=hf
    have hl:s.data.toList.length=s.size:=rfl
    have e:(s.data.toList.map p.2).map (D.ea N.ρ t)=s.data.toList.map fun b=>[AV.v (.int .u8 b.toNat)]:=by
     rw [PL]
     refine P4 fun b _=> ?_
     show D.ea N.ρ t (p.2 b)=_
     rw [(ok.bt N t p hp).1,(ok.bt N t p hp).2]
    simp only [AO.au,R.ev hx,SV.av,hO,Oa,RM.run,SR.v,SR.ups,f1,f2,SB.len,Ox,SB.av,hs,e,hl]
   ·simp at h
  ·simp at h
 ·simp at h
theorem rz (R:bg D N st σ g):∀{l:List Arg} {cs:List (SV τ dn)},l.mapM st.ev=some cs->l.map (aG σ)=cs.map (SV.av D.toTE N)
 |[],cs,h=>by simp at h;subst h;rfl
 |x::r,cs,h=>by
  simp only [List.mapM_cons,Option.pure_def,Option.bind_eq_bind,PE,N6] at h
  obtain ⟨v,hv,l,hl,rfl⟩:=h
  simp only [Om,R.ev hv,rz R hl]
theorem JR [DecidableEq τ] (ok:aZ D) (R:bg D N st σ g):∀{ao:AO} {r:SR τ dn},sx D st ao=some r->r.Good D N st.nx σ g ao:=by
 intro ao r h
 cases ao<;>simp only [sx] at h
 case mov x=>
  simp only [Od] at h;obtain ⟨v,hv,rfl⟩:=h
  intro k hO hf
  simp only [AO.au,R.ev hv,RM.run,SR.v,SR.ups]
 case pick=>simp at h
 case new zs=>
  simp only [Od] at h;obtain ⟨cs,hcs,rfl⟩:=h
  intro k hO hf
  obtain ⟨f1,f2⟩:=hf
  simp only [AO.au,RM.run,SR.v,SR.ups,SV.av,f1,SB.av,SV.bR,mz D.toTE N hcs]
 case box n x=>
  split at h
  ·rename_i v hv
   split at h
   ·rename_i hc
    simp only [N6] at h;subst h
    intro k hO hf
    obtain ⟨f1,f2⟩:=hf
    have bY:=SV.qP (E:=D.toTE) (N:=N) hc.2.1
    simp only [AO.au,R.ev hv,bY,Ox,hc.1,tM hc.2.2,Ow,Oa,RM.run,SR.v,SR.ups,SV.av,f1,SB.av,SV.bR,SV.bu]
   ·simp at h
  ·simp at h
 case agg zs parts=>
  split at h
  ·rename_i cs hcs
   simp only [Od] at h;obtain ⟨l,hl,rfl⟩:=h
   intro k hO hf
   have e1:=mz D.toTE N hcs
   rw [SV.bu] at e1
   have:=B7 R hl
   rw [e1] at this
   simp only [AO.au,this,Oh,RM.opt,RM.run,SR.v,SR.ups,SV.av,SV.bu]
  ·simp at h
 case bsl sz ln zs parts=>
  split at h
  ·rename_i cs hcs
   simp only [Od] at h;obtain ⟨l,hl,rfl⟩:=h
   intro k hO hf
   obtain ⟨f1,f2⟩:=hf
   have e1:=mz D.toTE N hcs
   rw [SV.bu] at e1
   have:=B8 R hl
   rw [List.map_replicate,e1] at this
   have hlen:l.length=ln:=by
    have:∀(parts:List (Nat×Arg)) (els l:List (List (SV τ dn))),mw st sz els parts=some l->l.length=els.length:=by
     intro parts
     induction parts with
     |nil=>intro els l h;simp only [mw,N6] at h;subst h;rfl
     |cons p r ih=>
      intro els l h
      obtain ⟨i,x⟩:=p
      simp only [mw] at h
      split at h
      ·split at h
       ·have:=ih _ _ h;simpa using this
       ·simp at h
      ·simp at h
    have:=this _ _ _ hl
    simpa using this
   simp only [AO.au,this,Oh,RM.opt,RM.run,SR.v,SR.ups,SV.av,f1,f2,SB.len,hlen,SB.av,SV.iE]
  ·simp at h
 case load m x=>
  simp only [PE] at h;obtain ⟨v,hv,h⟩:=h
  exact Ca ok R hv h
 case store n x y=>
  split at h
  ·rename_i a b ha hb;exact Jx ok R ha hb h
  ·simp at h
 case nilc x=>
  split at h
  ·rename_i nm sz i o hv
   simp only [Od] at h;obtain ⟨B,hB,rfl⟩:=h
   intro k hO hf
   obtain ⟨g1,g2⟩:=R.gm hB
   simp only [AO.au,R.ev hv,SV.av,RM.run,g1,SR.v,SR.ups]
  ·rename_i cs o hv
   simp only [N6] at h;subst h
   intro k hO hf
   simp only [AO.au,R.ev hv,SV.av,RM.run,SR.v,SR.ups]
  ·simp at h
 case bin bt op x y=>
  split at h
  ·rename_i a b ha hb
   intro k hO hf
   obtain ⟨O,v,p,q,w,rfl,h1,h2,h3,h4⟩:=Jr (D:=D) (N:=N) h hO
   simp only [AO.au,R.ev ha,R.ev hb,h1,h2,h3,Oh,RM.opt,RM.run,SR.v,SR.ups,h4]
  ·simp at h
 case un op x=>
  simp only [PE] at h;obtain ⟨a,ha,h⟩:=h
  intro k hO hf
  obtain ⟨O,v,p,w,rfl,h1,h3,h4⟩:=Jt (D:=D) (N:=N) h hO
  simp only [AO.au,R.ev ha,h1,h3,Oh,RM.opt,RM.run,SR.v,SR.ups,h4]
 case conv q x=>
  simp only [PE] at h;obtain ⟨a,ha,h⟩:=h
  intro k hO hf
  obtain ⟨O,v,p,w,rfl,h1,h4⟩:=Ju (D:=D) (N:=N) h hO
  simp only [AO.au,R.ev ha,h1,RM.run,SR.v,SR.ups,h4]
 case fad off x=>
  split at h
  ·rename_i nm sz i o hv
   simp only [Od] at h;obtain ⟨B,hB,rfl⟩:=h
   intro k hO hf
   obtain ⟨g1,g2⟩:=R.gm hB
   simp only [AO.au,R.ev hv,SV.av,RM.run,g1,SR.v,SR.ups]
  ·rename_i cs o hv
   simp only [N6] at h;subst h
   intro k hO hf
   simp only [AO.au,R.ev hv,SV.av,RM.run,SR.v,SR.ups]
  ·simp at h
 case fld off m x=>
  split at h
  ·rename_i cs hv
   simp only [Od] at h;obtain ⟨w,hw,rfl⟩:=h
   intro k hO hf
   have:=o9 (D:=D) (N:=N) hw
   simp only [AO.au,R.ev hv,SV.av,SV.bu,this,Oh,RM.opt,RM.run,SR.v,SR.ups]
  ·simp at h
 case iad sz x i=>
  split at h
  ·rename_i a b ha hb
   split at h
   ·rename_i n l hn;exact Jy ok R ha hb hn h
   ·simp at h
  ·simp at h
 case ext i x=>
  split at h
  ·rename_i vs hv
   simp only [Od] at h;obtain ⟨w,hw,rfl⟩:=h
   intro k hO hf
   simp only [AO.au,R.ev hv,SV.av,SV.bu,Oy,hw,Oh,RM.opt,RM.run,SR.v,SR.ups]
  ·simp at h
 case len s x=>
  simp only [PE] at h;obtain ⟨v,hv,h⟩:=h
  exact JA R hv h
 case isn kd neg x=>
  simp only [PE] at h;obtain ⟨v,hv,h⟩:=h
  exact JB R hv h
 case mnx mx x y=>
  split at h
  ·rename_i a b ha hb
   split at h
   ·rename_i p _ q _ h1 h2
    simp only [N6] at h;subst h
    intro k hO hf
    simp only [AO.au,R.ev ha,R.ev hb,eA h1,eA h2,pO,Oa,Oh,RM.opt,RM.run,SR.v,SR.ups,SV.av]
    congr 5
    all_goals (simp only [Int.max_def,Int.min_def];(repeat' split)<;>omega)
   ·simp at h
  ·simp at h
 case eqs ng n L x y=>
  split at h
  ·rename_i cs ds hc hd
   split at h
   ·rename_i hl
    split at h
    ·rename_i v hv
     simp only [Od] at h;obtain ⟨w,hw,rfl⟩:=h
     intro k hO hf
     obtain ⟨p,h1,h2⟩:=B9 (D:=D) (N:=N) hv
     have h3:w.av D.toTE N= .v (.bool (if ng then !p else p)):=by
      cases ng with
      |true=>
       simp only [Oa] at hw ⊢
       obtain ⟨z,q1,q2⟩:=xU (D:=D) (N:=N) hw
       rw [h1] at q1;simp only [AV.v.injEq,Value.bool.injEq] at q1;subst q1;exact q2
      |false=>simp only [O0,OH,N6] at hw ⊢; subst hw;exact h1
     simp only [AO.au,R.ev hc,R.ev hd,SV.av,SV.bu,Ox,hl.1,hl.2,Ow,Oa,h2,Oh,RM.opt,RM.run,SR.v,SR.ups,h3]
    ·simp at h
   ·simp at h
  ·simp at h
 case b2s x=>
  split at h
  ·rename_i v hv;exact JP ok R hv h
  ·simp at h
 case s2b x=>
  split at h
  ·rename_i s hs;exact JQ ok R hs h
  ·simp at h
 case msl sz by_ zs x y=>
  split at h
  ·rename_i a b ha hb
   split at h
   ·rename_i p _ q _ h1 h2;exact JN ok R ha hb h1 h2 h
   ·simp at h
  ·simp at h
 case slc sz x lo hi mx=>
  cases mx with
  |some m=>simp at h
  |none=>
   simp only at h
   split at h
   ·rename_i a l h' ha hl hh;exact JD R ha hl hh h
   ·simp at h
 case sls x lo hi=>
  split at h
  ·rename_i s l h' hs hl hh
   simp only [N6] at h;subst h
   intro k hO hf
   simp only [SR.O] at hO
   have nn:=xV hO
   have e1:=kr R hl nn.1
   have e2:=kr R hh nn.2.1
   have hb:=xW hO
   simp only [AO.au,e1,e2,R.ev hs,SV.av,hb,Oh,RM.opt,RM.run,SR.v,SR.ups]
  ·simp at h
 case six x i=>
  split at h
  ·rename_i s b hs hb
   split at h
   ·rename_i n _ h1
    simp only [N6] at h;subst h
    intro k hO hf
    simp only [SR.O,Of,Ou] at hO
    have hl:n.toNat<s.size:=by omega
    have e:s[n.toNat]? =some (gb s n.toNat):=by unfold gb;rw [getElem?_pos s n.toNat hl];rfl
    simp only [AO.au,R.ev hs,R.ev hb,eA h1,SV.av,natOf,hO.1,Oa,e,Oh,RM.opt,RM.run,SR.v,SR.ups]
   ·split at h
    ·rename_i q n _
     simp only [N6] at h;subst h
     intro k hO hf
     simp only [SR.O,Of,Ou] at hO
     have hl:n.toNat<s.size:=by omega
     have e:s[n.toNat]? =some (gb s n.toNat):=by unfold gb;rw [getElem?_pos s n.toNat hl];rfl
     simp only [AO.au,R.ev hs,R.ev hb,SV.av,natOf,hO.1,Oa,e,Oh,RM.opt,RM.run,SR.v,SR.ups]
    ·rename_i y _
     simp only [N6] at h;subst h
     intro k hO hf
     simp only [SR.O,Of,Ou] at hO
     have e:s[y.toNat]? =some (gb s y.toNat):=by unfold gb;rw [getElem?_pos s y.toNat hO];rfl
     have h0:(0:Int)<=(y.toNat:Int):=by omega
     simp only [AO.au,R.ev hs,R.ev hb,SV.av,natOf,h0,Oa,O3,e,Oh,RM.opt,RM.run,SR.v,SR.ups]
    ·simp at h
  ·simp at h
 case app sz by_ x y=>
  split at h
  ·rename_i a b ha hb;exact JM ok R ha hb h
  ·simp at h
 case cpy sz x y=>
  split at h
  ·rename_i a b ha hb;exact JO R ha hb h
  ·simp at h
 case mkf f caps=>
  simp only [Od] at h;obtain ⟨cs,hcs,rfl⟩:=h
  intro k hO hf
  simp only [AO.au,rz R hcs,RM.run,SR.v,SR.ups,SV.av,SV.bu]
 case mkb f caps=>
  simp only [Od] at h;obtain ⟨cs,hcs,rfl⟩:=h
  intro k hO hf
  simp only [AO.au,rz R hcs,RM.run,SR.v,SR.ups,SV.av,SV.bu]
 case iap sz ln x i=>
  split at h
  ·rename_i nm s e o n hv hn
   split at h
   ·rename_i hc
    simp only [N6] at h;subst h
    intro k hO hf
    obtain ⟨B,hB⟩:=P2.1 hc.2.2
    obtain ⟨g1,g2⟩:=R.gm hB
    simp only [AO.au,R.ev hv,R.ev hn,SV.av,hc.1,hc.2.1,Ow,Oa,RM.run,g1,SR.v,SR.ups]
   ·simp at h
  ·rename_i cs o n hv hn
   split at h
   ·rename_i hc
    simp only [N6] at h;subst h
    intro k hO hf
    simp only [AO.au,R.ev hv,R.ev hn,SV.av,hc.1,hc.2,Ow,Oa,RM.run,SR.v,SR.ups]
   ·simp at h
  ·simp at h
 case ixa sz ln m x i=>
  split at h
  ·rename_i cs n hv hn
   split at h
   ·rename_i hc
    simp only [Od] at h;obtain ⟨w,hw,rfl⟩:=h
    intro k hO hf
    simp only [AO.au,R.ev hv,R.ev hn,SV.av,hc.1,hc.2,Ow,Oa,SV.bu,o9 hw,Oh,RM.opt,RM.run,SR.v,SR.ups]
   ·simp at h
  ·simp at h
 case mkm=>
  simp only [N6] at h;subst h
  intro k hO hf
  simp only [AO.au,RM.run,SR.v,SR.ups,SV.av,SB.av,SV.bR,hf.1]
 case mup kd x key y=>
  split at h
  ·rename_i a b c ha hb hc;exact JE R ha hb hc h
  ·simp at h
 case mlk kd z x key=>
  split at h
  ·rename_i a b ha hb;exact JF R ha hb h
  ·simp at h
 all_goals simp at h
end
open Go.RowKit
section
variable {τ:Type} {dn:τ->Type}
def SV.isRw:SV τ dn->Bool
 | .rw _ _| .cQ _ _ _ _=>true
 |_=>false
def AO.lk:AO->List Arg
 | .load _ x| .nilc x| .fad _ x| .len _ x| .isn _ _ x| .clr _ x| .b2s x=>[x]
 | .store _ x _| .iad _ x _| .iap _ _ x _| .slc _ x _ _ _| .mup _ x _ _| .mlk _ _ x _=>[x]
 | .app _ _ s x=>[x,s]
 | .cpy _ x y=>[y,x]
 |_=>[]
def SS.rwa (st:SS τ dn) (x:Arg):Bool:=match st.ev x with
 |some v=>v.isRw
 |none=>false
variable [DecidableEq τ]
def SS.fU (st:SS τ dn) (t:τ):Option (List (Nat×List (dn t))):=match st.gm 0 with
 |some (.ar t' A)=>if h:t'=t then some (h▸A) else none
 |_=>none
theorem mA {st:SS τ dn} {t:τ} {A:List (Nat×List (dn t))} (h:st.fU t=some A):st.gm 0=some (.ar t A):=by
 unfold SS.fU at h
 split at h
 ·rename_i t' A' hB
  split at h
  ·rename_i he
   subst he
   simp only [N6] at h;subst h;exact hB
  ·simp at h
 ·simp at h
variable (D:TD τ dn)
def rA (st:SS τ dn) (sz:Nat):SV τ dn->Option (List Prop×Ct τ dn)
 | .rw t r=>match st.fU t with
  |some A=>if D.sz t=sz then some ([r.ok A], .ty t (r.get A)) else none
  |none=>none
 |v=>(st.cont D sz v).map fun c=>([],c)
def lu (st:SS τ dn):AO->Option (SR τ dn)
 | .load m x=>match st.ev x with
  |some (.cQ t r i o)=>match st.fU t with
   |some A=>(lg (D.es t (gd (D.df t) (r.get A) i)) o m).map (.val [r.ok A,i<(r.get A).length])
   |none=>none
  |_=>none
 | .store n x y=>match st.ev x,st.ev y with
  |some (.cQ t r i o),some y=>match st.fU t with
   |some A=>if (y.cells.length=n/\y.gN=true/\y.cells.all SV.one=true)/\o+n<=D.sz t/\st.rw 0=true/\D.nQ t (mv (D.es t (gd (D.df t) (r.get A) i)) o y.cells)=true then (match D.ds t (mv (D.es t (gd (D.df t) (r.get A) i)) o y.cells) with
    |some z=>some (.ew [r.nO A,i<(r.get A).length] (.vo undef) r.id t ((r.get A).set i z) A)
    |none=>none) else none
   |none=>none
  |_,_=>none
 | .nilc x=>match st.ev x with
  |some (.cQ t r i o)=>match st.fU t with
   |some A=>some (.val [r.ok A,i<(r.get A).length] (.cQ t r i o))
   |none=>none
  |_=>none
 | .fad off x=>match st.ev x with
  |some (.cQ t r i o)=>match st.fU t with
   |some A=>some (.val [r.ok A,i<(r.get A).length] (.cQ t r i (o+off)))
   |none=>none
  |_=>none
 | .iad sz x y=>match st.ev x,st.ev y with
  |some (.rw t r),some b=>match st.fU t,b.int with
   |some A,some (n,_)=>if D.sz t=sz then some (.val [r.ok A,0<=n/\n<(r.get A).length] (.cQ t r n.toNat 0)) else none
   |_,_=>none
  |_,_=>none
 | .len false x=>match st.ev x with
  |some (.rw t r)=>match st.fU t with
   |some A=>some (.val [r.ok A] (.vi ((r.get A).length:Int)))
   |none=>none
  |_=>none
 | .cpy sz x y=>match st.ev x,st.ev y with
  |some (.rw t r),some b=>match st.fU t,rA D st sz b with
   |some A,some (O, .ty t' ys)=>if h:t'=t then (if D.sz t=sz/\st.rw 0=true then some (.ew (O++[r.nO A]) (.vi ((min ys.length (r.get A).length:Nat):Int)) r.id t (((h▸ys):List (dn t)).take (r.get A).length++(r.get A).drop (min ys.length (r.get A).length)) A) else none) else none
   |_,_=>none
  |_,_=>none
 |_=>none
end
section
variable {τ:Type} {dn:τ->Type} {D:TD τ dn} {N:aC} {st:SS τ dn} {σ:Nat->AV} {g:Nat->Option Bk} [DecidableEq τ]
theorem lx (R:bg D N st σ g) {t:τ} {A:List (Nat×List (dn t))} (h:st.fU t=some A) {r:Row (dn t)} (hr:r.ok A) (hk:r.kd= .own):r.get A=fy A r.id/\r.n=(r.get A).length/\g r.id=some ⟨D.sz t,(r.get A).map (D.ea N.ρ t)⟩:=by
 unfold Row.ok at hr
 rw [hk] at hr
 have e:r.get A=fy A r.id:=by unfold Row.get;rw [hk]
 rw [e]
 exact ⟨rfl,hr.2.symm,R.ar t A (gG (mA h)) _ hr.1⟩
theorem pa (hk:r.kd= .nil):r.get A=[]:=by unfold Row.get;rw [hk]
theorem nU (hk:r.kd= .aU):r.get A=r.xs:=by unfold Row.get;rw [hk]
theorem Row.nO.ok {α:Type} {A:List (Nat×List α)} {r:Row α} (h:r.nO A):r.ok A:=by unfold Row.ok;rw [h.1];exact h.2
theorem JS (R:bg D N st σ g) {sz:Nat} {v:SV τ dn} {O:List Prop} {c:Ct τ dn} (h:rA D st sz v=some (O,c)) (hO:∀p,p∈O->p):(content sz (v.av D.toTE N)).run g=some (c.els D N)/\(∀t xs,c= .ty t xs->D.sz t=sz):=by
 have other:∀{v:SV τ dn},((st.cont D sz v).map fun c=>(([]:List Prop),c))=some (O,c)->(content sz (v.av D.toTE N)).run g=some (c.els D N)/\(∀t xs,c= .ty t xs->D.sz t=sz):=fun h=>by
  simp only [Od,Oi] at h
  obtain ⟨c',h1,_,rfl⟩:=h
  exact nT R h1
 cases v with
 |rw t r=>
  simp only [rA] at h
  split at h
  ·rename_i A hA
   split at h
   ·rename_i hs
    simp only [N6,Oi] at h
    obtain ⟨rfl,rfl⟩:=h
    simp only [Of,Ou] at hO
    refine ⟨?_,fun t' ys e=>by simp only [Ct.ty.injEq] at e;obtain ⟨rfl,_⟩:=e;exact hs⟩
    cases hk:r.kd with
    |nil=>simp only [SV.av,hk,content,RM.run,Ct.els,pa hk,OU]
    |aU=>simp only [SV.av,hk,content,hs,Oa,RM.run,Ct.els,nU hk]
    |own=>
     obtain ⟨e1,e2,e3⟩:=lx R hA hO hk
     simp only [SV.av,hk,content,RM.run,e3,hs,e2,On,Ox,Og,Ow,Oa,PV,Ct.els]
     rw [PA (by simp)]
   ·simp at h
  ·simp at h
 |_=>exact other h
theorem JT (ok:aZ D) (R:bg D N st σ g) {r:SR τ dn} (h:lu D st ao=some r):r.Good D N st.nx σ g ao:=by
 intro k hO hf
 cases ao<;>simp only [lu,reduceCtorEq] at h
 case load m x=>
  split at h
  case h_2=>simp at h
  rename_i t q i o hx
  split at h
  case h_2=>simp at h
  rename_i A hA
  simp only [Od] at h;obtain ⟨w,hw,rfl⟩:=h
  simp only [SR.O,Oj,Pa,or_false,PB,Ou] at hO
  have hq:=o9 (D:=D) (N:=N) hw
  rw [ok.dp] at hq
  cases hk:q.kd with
  |nil=>rw [pa hk] at hO;simp at hO
  |aU=>
   rw [nU hk] at hq hO
   simp only [AO.au,R.ev hx,SV.av,hk,lf (d:=D.df t) hO.2,hq,Oh,RM.opt,RM.run,SR.v,SR.ups]
  |own=>
   obtain ⟨e1,e2,e3⟩:=lx R hA hO.1 hk
   simp only [AO.au,R.ev hx,SV.av,hk,RM.run,e3,Oa,Oy,lf (d:=D.df t) hO.2,Oh,Pg,hq,RM.opt,SR.v,SR.ups]
 case store n x y=>
  split at h
  case h_2=>simp at h
  rename_i t q i o b hx hy
  split at h
  case h_2=>simp at h
  rename_i A hA
  split at h
  case isFalse=>simp at h
  rename_i hc
  split at h
  case h_2=>simp at h
  rename_i z hz
  simp only [N6] at h;subst h
  simp only [SR.O,Oj,Pa,or_false,PB,Ou] at hO
  have bY:=SV.qP (E:=D.toTE) (N:=N) hc.1.2.1
  have dF:=tM (D:=D) (N:=N) hc.1.2.2
  obtain ⟨e1,e2,e3⟩:=lx R hA hO.1.ok hO.1.1
  have he:=ok.fR N t _ z hz hc.2.2.2
  rw [tL,ok.dp] at he
  simp only [AO.au,R.ev hx,R.ev hy,SV.av,hO.1.1,RM.run,e3,bY,Ox,hc.1.1,dF,hc.2.1,Ow,Oa,Oy,lf (d:=D.df t) hO.2,Oh,SR.v,SR.ups,he,Pv]
 case nilc x=>
  split at h
  case h_2=>simp at h
  rename_i t q i o hx
  split at h
  case h_2=>simp at h
  rename_i A hA
  simp only [N6] at h;subst h
  simp only [SR.O,Oj,Pa,or_false,PB,Ou] at hO
  cases hk:q.kd with
  |nil=>rw [pa hk] at hO;simp at hO
  |aU=>rw [nU hk] at hO;simp only [AO.au,R.ev hx,SV.av,hk,lf (d:=D.df t) hO.2,RM.run,SR.v,SR.ups]
  |own=>
   obtain ⟨e1,e2,e3⟩:=lx R hA hO.1 hk
   simp only [AO.au,R.ev hx,SV.av,hk,RM.run,e3,SR.v,SR.ups]
 case fad off x=>
  split at h
  case h_2=>simp at h
  rename_i t q i o hx
  split at h
  case h_2=>simp at h
  rename_i A hA
  simp only [N6] at h;subst h
  simp only [SR.O,Oj,Pa,or_false,PB,Ou] at hO
  cases hk:q.kd with
  |nil=>rw [pa hk] at hO;simp at hO
  |aU=>rw [nU hk] at hO;simp only [AO.au,R.ev hx,SV.av,hk,lf (d:=D.df t) hO.2,RM.run,SR.v,SR.ups]
  |own=>
   obtain ⟨e1,e2,e3⟩:=lx R hA hO.1 hk
   simp only [AO.au,R.ev hx,SV.av,hk,RM.run,e3,SR.v,SR.ups]
 case iad sz x y=>
  split at h
  case h_2=>simp at h
  rename_i t q b hx hy
  split at h
  case h_2=>simp at h
  rename_i A n l hA hb
  split at h
  case isFalse=>simp at h
  rename_i hs
  simp only [N6] at h;subst h
  simp only [SR.O,Oj,Pa,or_false,PB,Ou] at hO
  have hl:n.toNat<(q.get A).length:=by omega
  cases hk:q.kd with
  |nil=>rw [pa hk] at hl;simp at hl
  |aU=>
   rw [nU hk] at hl
   simp only [AO.au,R.ev hx,R.ev hy,eA hb,SV.av,hk,hs,hO.2.1,Ow,Oa,Oy,lf (d:=D.df t) hl,Oh,RM.opt,RM.run,SR.v,SR.ups]
  |own=>
   obtain ⟨e1,e2,e3⟩:=lx R hA hO.1 hk
   have:n<(q.n:Int):=by rw [e2];exact hO.2.2
   simp only [AO.au,R.ev hx,R.ev hy,eA hb,SV.av,hk,hs,hO.2.1,this,Ow,Oa,RM.run,e3,SR.v,SR.ups,On]
 case len s x=>
  cases s with
  |true=>simp at h
  |false=>
   simp only at h
   split at h
   case h_2=>simp at h
   rename_i t q hx
   split at h
   case h_2=>simp at h
   rename_i A hA
   simp only [N6] at h;subst h
   simp only [SR.O,Of,Ou] at hO
   cases hk:q.kd with
   |nil=>simp only [AO.au,R.ev hx,SV.av,hk,RM.run,SR.v,SR.ups,goInt,pa hk,List.length_nil];rfl
   |aU=>simp only [AO.au,R.ev hx,SV.av,hk,RM.run,SR.v,SR.ups,goInt,nU hk,Ox]
   |own=>
    obtain ⟨e1,e2,e3⟩:=lx R hA hO hk
    simp only [AO.au,R.ev hx,SV.av,hk,RM.run,e3,SR.v,SR.ups,goInt,e2]
 case cpy sz x y=>
  split at h
  case h_2=>simp at h
  rename_i t q b hx hy
  split at h
  case h_2=>simp at h
  rename_i A O t' ys hA dG
  split at h
  case isFalse=>simp at h
  rename_i ht
  subst ht
  split at h
  case isFalse=>simp at h
  rename_i hs
  simp only [N6] at h;subst h
  simp only [SR.O,OM,Of] at hO
  have hm:=hO _ (.inr rfl)
  obtain ⟨c1,c2⟩:=JS R dG fun p hp=>hO p (.inl hp)
  obtain ⟨e1,e2,e3⟩:=lx R hA hm.ok hm.1
  have e0:(AO.au k (aG σ) (.cpy sz x y)).run g=_:=dq (by rw [R.ev hy];exact c1)
  rw [e0,R.ev hx]
  simp only [SV.av,hm.1,RM.run,e3,hs.1,e2,Ox,On,Og,Ow,Oa,Ct.els,SR.v,SR.ups,List.take_zero,List.nil_append,goInt,O9,List.map_take,List.map_drop]
theorem JV (R:bg D N st σ g) {r:SR τ dn} (h:lu D st ao=some r) (hO:∀p,p∈r.O->p) {v:SV τ dn} (hx:x∈ao.lk) (hv:st.ev x=some v) (hr:v.isRw=true):∀id,id∈(match v.av D.toTE N with| .own id _ _ _| .ref id _ _ _| .mp id=>[id]|_=>[])->∃t A,st.gm 0=some (.ar t A)/\dw A id:=by
 have tQ:∀{t:τ} {A:List (Nat×List (dn t))} {q:Row (dn t)},st.fU t=some A->q.ok A->v= .rw t q->∀id,id∈(match v.av D.toTE N with| .own id _ _ _| .ref id _ _ _| .mp id=>[id]|_=>[])->∃t A,st.gm 0=some (.ar t A)/\dw A id:=by
  rintro t A q hA hq rfl id hid
  cases hk:q.kd with
  |nil=>simp [SV.av,hk] at hid
  |aU=>simp [SV.av,hk] at hid
  |own=>
   simp only [SV.av,hk,Of] at hid
   unfold Row.ok at hq
   rw [hk] at hq
   exact ⟨t,A,mA hA,hid▸hq.1⟩
 have tS:∀{t:τ} {A:List (Nat×List (dn t))} {q:Row (dn t)} {i o:Nat},st.fU t=some A->q.ok A->v= .cQ t q i o->∀id,id∈(match v.av D.toTE N with| .own id _ _ _| .ref id _ _ _| .mp id=>[id]|_=>[])->∃t A,st.gm 0=some (.ar t A)/\dw A id:=by
  rintro t A q i o hA hq rfl id hid
  cases hk:q.kd with
  |nil=>simp [SV.av,hk] at hid
  |aU=>
   simp only [SV.av,hk] at hid
   exfalso
   revert hid
   cases q.xs[i]? <;>simp
  |own=>
   simp only [SV.av,hk,Of] at hid
   unfold Row.ok at hq
   rw [hk] at hq
   exact ⟨t,A,mA hA,hid▸hq.1⟩
 cases ao<;>simp only [lu,reduceCtorEq] at h<;>simp only [AO.lk,Of,Oj,Pa,or_false] at hx
 case load m x'=>
  subst hx
  rw [hv] at h
  split at h
  case h_2=>simp at h
  rename_i t q i o he
  simp only [N6] at he
  split at h
  case h_2=>simp at h
  rename_i A hA
  simp only [Od] at h;obtain ⟨w,hw,rfl⟩:=h
  exact tS hA (hO _ (by simp [SR.O])) he
 case store n x' y=>
  subst hx
  rw [hv] at h
  split at h
  case h_2=>simp at h
  rename_i t q i o b he hy
  simp only [N6] at he
  split at h
  case h_2=>simp at h
  rename_i A hA
  split at h
  case isFalse=>simp at h
  split at h
  case h_2=>simp at h
  simp only [N6] at h;subst h
  exact tS hA (hO _ (O6 ..):q.nO A).ok he
 case nilc x'=>
  subst hx
  rw [hv] at h
  split at h
  case h_2=>simp at h
  rename_i t q i o he
  simp only [N6] at he
  split at h
  case h_2=>simp at h
  rename_i A hA
  simp only [N6] at h;subst h
  exact tS hA (hO _ (by simp [SR.O])) he
 case fad off x'=>
  subst hx
  rw [hv] at h
  split at h
  case h_2=>simp at h
  rename_i t q i o he
  simp only [N6] at he
  split at h
  case h_2=>simp at h
  rename_i A hA
  simp only [N6] at h;subst h
  exact tS hA (hO _ (by simp [SR.O])) he
 case iad sz x' y=>
  subst hx
  rw [hv] at h
  split at h
  case h_2=>simp at h
  rename_i t q b he hy
  simp only [N6] at he
  split at h
  case h_2=>simp at h
  rename_i A n l hA hb
  split at h
  case isFalse=>simp at h
  simp only [N6] at h;subst h
  exact tQ hA (hO _ (by simp [SR.O])) he
 case len s x'=>
  subst hx
  cases s with
  |true=>simp at h
  |false=>
   simp only at h
   rw [hv] at h
   split at h
   case h_2=>simp at h
   rename_i t q he
   simp only [N6] at he
   split at h
   case h_2=>simp at h
   rename_i A hA
   simp only [N6] at h;subst h
   exact tQ hA (hO _ (by simp [SR.O])) he
 case cpy sz x' y=>
  split at h
  case h_2=>simp at h
  rename_i t q b cF hy
  split at h
  case h_2=>simp at h
  rename_i A O t' ys hA dG
  split at h
  case isFalse=>simp at h
  rename_i ht
  subst ht
  split at h
  case isFalse=>simp at h
  simp only [N6] at h;subst h
  simp only [SR.O,OM,Of] at hO
  rcases hx with rfl|rfl
  ·rw [hv] at hy
   simp only [N6] at hy;subst hy
   cases v with
   |rw t2 q2=>
    simp only [rA] at dG
    split at dG
    ·rename_i A2 JX
     split at dG
     ·simp only [N6,Oi] at dG
      obtain ⟨rfl,_⟩:=dG
      exact tQ JX (hO _ (.inl (Of.2 rfl))) rfl
     ·simp at dG
    ·simp at dG
   |cQ t2 q2 i o=>simp [rA,SS.cont] at dG
   |_=>simp [SV.isRw] at hr
  ·rw [hv] at cF
   simp only [N6] at cF
   exact tQ hA (hO _ (.inr rfl):q.nO A).ok cF
end
open Go.RowKit
def aC.agree (n:Nat) (N N':aC):Prop:=(∀a,a<n->N'.ι a=N.ι a/\N'.ln a=N.ln a)/\N'.ρ=N.ρ
theorem aC.dN (n:Nat) (N:aC):N.agree n N:=⟨fun _ _=>⟨rfl,rfl⟩,rfl⟩
theorem aC.eH {m:Nat} {N' bT:aC} (h:N.agree n N') (k:N'.agree m bT) (hm:n<=m):N.agree n bT:=
 ⟨fun a ha=>⟨((k.1 a (by omega)).1).trans (h.1 a ha).1,((k.1 a (by omega)).2).trans (h.1 a ha).2⟩,k.2.trans h.2⟩
def aC.cX (N:aC) (nm id ln:Nat):aC:=⟨fun a=>if a=nm then id else N.ι a,fun a=>if a=nm then ln else N.ln a,N.ρ⟩
theorem aC.lA (N:aC) (nm id ln:Nat):N.agree nm (N.cX nm id ln):=
 ⟨fun a ha=>⟨N7 (by omega),N7 (by omega)⟩,rfl⟩
section
variable {τ:Type} {dn:τ->Type} {D:TD τ dn}
structure Rel (D:TD τ dn) (N:aC) (st:SS τ dn) (s:S3):Prop where
 at_:∀N',N.agree st.nx N'->bg D N' st s.σ s.g
 inj:∀a b,a<st.nx->b<st.nx->N.ι a=N.ι b->a=b
 lt:∀a,a<st.nx->N.ι a<s.k
 ml:∀nm B,getS st.m nm=some B->nm<st.nx
 rl:∀nm B,getS st.rm nm=some B->nm<st.nx
 sp:∀t A,st.bw 0 (.ar t A)->∀id,dw A id->id<s.k/\∀nm B,st.bw nm B->N.ι nm≠id
theorem Rel.here {st:SS τ dn} {s:S3} (R:Rel D N st s):bg D N st s.σ s.g:=R.at_ N (N.dN _)
def dstS (n:Nat) (rt:List (Nat×SV τ dn)):Option Nat->Bool
 |none=>true
 |some d=>Nat.blt d n&&(getS rt d).isNone
def ia (t:List (Nat×SV τ dn)):Option Nat->SV τ dn->List (Nat×SV τ dn)
 |none,_=>t
 |some d,v=>(d,v)::t
theorem ba {v:α} {r:List (Nat×α)}:getS ((j,v)::r) i=if i=j then some v else getS r i:=by
 simp only [getS]
 by_cases h:i=j
 ·subst h;simp
 ·have:Nat.beq i j=false:=by
   cases hb:Nat.beq i j with
   |false=>rfl
   |true=>exact absurd (Ol hb) h
  simp [this,h]
theorem mB {rt t:List (Nat×SV τ dn)} {v:SV τ dn} (hd:dstS n rt d=true)
  (h1:∀i v,getS t i=some v->σ i=v.av D.toTE N) (h2:∀i v,getS rt i=some v->σ i=v.av D.toTE N) (ha:a=v.av D.toTE N):
  (∀i w,getS (ia t d v) i=some w->bD n d a σ i=w.av D.toTE N)/\(∀i w,getS rt i=some w->bD n d a σ i=w.av D.toTE N):=by
 cases d with
 |none=>exact ⟨fun i w h=>by simp only [bD];rw [N7 (by simp)];exact h1 i w h,fun i w h=>by simp only [bD];rw [N7 (by simp)];exact h2 i w h⟩
 |some d=>
  simp only [dstS,N9] at hd
  have wP:d<n:=ON hd.1
  refine ⟨fun i w h=> ?_,fun i w h=> ?_⟩
  ·simp only [ia,ba] at h
   simp only [bD,N6]
   by_cases hi:i=d
   ·subst hi
    rw [N8 rfl,N6] at h
    rw [N8 ⟨rfl,wP⟩,ha,h]
   ·rw [N7 hi] at h
    rw [N7 (fun hh=>hi hh.1.symm)];exact h1 i w h
  ·simp only [bD,N6]
   have hi:¬d=i:=fun e=>by subst e;rw [h] at hd;simp at hd
   rw [N7 (fun hh=>hi hh.1)];exact h2 i w h
def SR.st (st:SS τ dn) (d:Option Nat):SR τ dn->SS τ dn
 | .val _ v=>⟨st.rt,st.rm,ia st.t d v,st.m,st.nx⟩
 | .new _ v B=>⟨st.rt,st.rm,ia st.t d v,(st.nx,some B)::st.m,st.nx+1⟩
 | .put _ v nm B=>⟨st.rt,st.rm,ia st.t d v,(nm,some B)::st.m,st.nx⟩
 | .mov _ v old B=>⟨st.rt,st.rm,ia st.t d v,(st.nx,some B)::(old,none)::st.m,st.nx+1⟩
 | .fS _ v ns=>⟨st.rt,st.rm,ia st.t d v,(ns.map fun a=>(a,none))++st.m,st.nx⟩
 | .ew _ v id t row A=>⟨st.rt,st.rm,ia st.t d v,(0,some (.ar t ((id,row)::A)))::st.m,st.nx⟩
def SR.keys (st:SS τ dn):SR τ dn->List Nat
 | .val _ _=>[]
 | .new _ _ _=>[st.nx]
 | .put _ _ nm _=>[nm]
 | .mov _ _ old _=>[old,st.nx]
 | .fS _ _ ns=>ns
 | .ew _ _ _ _ _ _=>[0]
def SR.may (D:TD τ dn) (N:aC) (st:SS τ dn):SR τ dn->Prop
 | .put _ _ nm B=>(∃B0,getS st.m nm=some (some B0)/\N.ln nm=B.len)/\getS st.rm nm=none/\B.iF=false
 | .mov _ _ old B=>(∃B0,getS st.m old=some (some B0))/\getS st.rm old=none/\B.iF=false
 | .fS _ _ ns=>∀a,a∈ns->(∃B0,getS st.m a=some (some B0))/\getS st.rm a=none
 | .new _ _ B=>B.iF=false
 | .ew _ _ id t _ A=>getS st.m 0=some (some (.ar t A))/\getS st.rm 0=none/\dw A id
 | .val _ _=>True
def SR.up (N:aC) (st:SS τ dn) (k:Nat):SR τ dn->aC
 | .new _ _ B| .mov _ _ _ B=>N.cX st.nx k B.len
 |_=>N
def SR.k1 (k:Nat):SR τ dn->Nat
 | .new _ _ _| .mov _ _ _ _=>k+1
 |_=>k
theorem rB:∀(l:List Nat) (g:Nat->Option Bk) (id:Nat),aA g (l.map fun i=>(i,none)) id=if id∈l then none else g id
 |[],g,id=>by simp [aA]
 |a::r,g,id=>by
  rw [Om,aA,rB r]
  by_cases h1:id∈r<;>by_cases h2:id=a<;>simp [h1,h2]
theorem rC {α:Type} {m:List (Nat×Option α)}:∀{ns:List Nat} {i:Nat} {B:Option α},getS ((ns.map fun a=>(a,none))++m) i=some B->(i∈ns/\B=none)\/(¬i∈ns/\getS m i=some B)
 |[],i,B,h=> .inr ⟨by simp,h⟩
 |a::r,i,B,h=>by
  rw [Om,Ps,ba] at h
  by_cases hi:i=a
  ·rw [N8 hi,N6] at h;exact .inl ⟨by simp [hi],h.symm⟩
  ·rw [N7 hi] at h
   rcases rC h with ⟨h1,h2⟩|⟨h1,h2⟩
   ·exact .inl ⟨by simp [h1],h2⟩
   ·exact .inr ⟨by simp [hi,h1],h2⟩
theorem Ce {rt rt' t t':List (Nat×SV τ dn)} {rm m:List (Nat×Option (SB τ dn))} {nx nx' dJ:Nat} {x:Option (SB τ dn)} (nm:Nat):(⟨rt,rm,t,(dJ,x)::m,nx⟩:SS τ dn).gm nm=if nm=dJ then x else (⟨rt',rm,t',m,nx'⟩:SS τ dn).gm nm:=by
 unfold SS.gm
 simp only [ba]
 by_cases h:nm=dJ
 ·rw [N8 h,N8 h]
 ·rw [N7 h,N7 h]
theorem mC {st:SS τ dn} {x:Option (SB τ dn)} (h:getS st.m nm=some x):st.gm nm=x:=by unfold SS.gm;rw [h]
theorem Rel.go {st:SS τ dn} {s:S3} (R:Rel D N st s) (hd:dstS n st.rt d=true) {r:SR τ dn} (hm:r.may D N st) {val:AV} (hv:∀N',(r.up N st s.k).agree (r.st st d).nx N'->val=r.v.av D.toTE N') {ups:List (Nat×Option Bk)} (hu:∀N',(r.up N st s.k).agree (r.st st d).nx N'->ups=r.ups D N' s.k):
  Rel D (r.up N st s.k) (r.st st d) ⟨bD n d val s.σ,aA s.g ups,r.k1 s.k⟩:=by
 have qN:∀(N':aC) (nm:Nat) (B:SB τ dn) (id:Nat) (x:Option Bk),getS st.rm nm=some (some B)->bg D N' st s.σ s.g->¬N'.ι nm=id->(if N'.ι nm=id then x else s.g (N'.ι nm))=some (B.av D.toTE N')/\N'.ln nm=B.len:=fun N' nm B id x h A hne=>by rw [N7 hne];exact A.rb nm B h
 cases r with
 |val O v=>
  refine ⟨fun N' hN=> ?_,R.inj,R.lt,R.ml,R.rl,R.sp⟩
  have A:=R.at_ N' hN
  obtain ⟨q1,q2⟩:=mB (D:=D) (n:=n) (v:=v) (a:=val) hd A.sl A.rs (hv N' hN)
  have e:=hu N' hN
  simp only [SR.ups] at e
  subst e
  exact ⟨q1,q2,A.bl,A.rb,A.ar⟩
 |new O v B=>
  have dH:∀N',(N.cX st.nx s.k B.len).agree (st.nx+1) N'->N.agree st.nx N'/\N'.ι st.nx=s.k/\N'.ln st.nx=B.len:=fun N' hN=>by
   refine ⟨aC.eH (N.lA st.nx s.k B.len) hN (by omega), ?_, ?_⟩
   ·rw [(hN.1 st.nx (by omega)).1];exact N8 rfl
   ·rw [(hN.1 st.nx (by omega)).2];exact N8 rfl
  have jL:∀t A,(SR.st st d (SR.new O v B:SR τ dn)).bw 0 (.ar t A)->st.bw 0 (.ar t A):=fun t A h=>by
   rcases h with h|h
   ·simp only [SR.st,ba] at h
    by_cases h0:0=st.nx
    ·rw [N8 h0,N6,N6] at h
     have di:B.iF=false:=hm
     subst h;simp [SB.iF] at di
    ·rw [N7 h0] at h;exact .inl h
   ·exact .inr h
  refine ⟨fun N' hN=> ?_,fun a b ha hb he=> ?_,fun a ha=> ?_,fun nm B' h=> ?_,fun nm B' h=>PM (R.rl nm B' h),fun t A h id hid=> ?_⟩
  ·obtain ⟨h1,h2,h3⟩:=dH N' hN
   have A:=R.at_ N' h1
   obtain ⟨q1,q2⟩:=mB (D:=D) (n:=n) (v:=v) (a:=val) hd A.sl A.rs (hv N' hN)
   have e:=hu N' hN
   simp only [SR.ups] at e
   subst e
   have hne:∀nm,nm<st.nx->¬N'.ι nm=s.k:=fun nm fA he=>by
    rw [(h1.1 nm fA).1] at he;have:=R.lt nm fA;omega
   refine ⟨q1,q2,fun nm B' h=> ?_,fun nm B' h=> ?_,fun t A' h id hid=> ?_⟩
   ·simp only [SR.st,ba] at h
    simp only [aA]
    by_cases hn:nm=st.nx
    ·subst hn
     rw [N8 rfl,N6,N6] at h
     subst h
     rw [N8 h2];exact ⟨rfl,h3⟩
    ·rw [N7 hn] at h
     rw [N7 (hne nm (R.ml nm _ h))];exact A.bl nm B' h
   ·simp only [aA];exact qN N' nm B' _ _ h A (hne nm (R.rl nm _ h))
   ·have h':=jL t A' h
    simp only [aA]
    rw [N7 (fun e=>by have:=(R.sp t A' h' id hid).1;omega)]
    exact A.ar t A' h' id hid
  ·simp only [SR.st] at ha hb
   simp only [SR.up,aC.cX] at he
   by_cases h1:a=st.nx<;>by_cases h2:b=st.nx
   ·rw [h1,h2]
   ·rw [N8 h1,N7 h2] at he;have:=R.lt b (by omega);omega
   ·rw [N7 h1,N8 h2] at he;have:=R.lt a (by omega);omega
   ·rw [N7 h1,N7 h2] at he;exact R.inj a b (by omega) (by omega) he
  ·simp only [SR.st] at ha
   simp only [SR.up,aC.cX,SR.k1]
   by_cases h1:a=st.nx
   ·rw [N8 h1];omega
   ·rw [N7 h1];have:=R.lt a (by omega);omega
  ·simp only [SR.st,ba] at h ⊢
   by_cases hn:nm=st.nx
   ·omega
   ·rw [N7 hn] at h;have:=R.ml nm _ h;omega
  ·have h':=jL t A h
   obtain ⟨h1,h2⟩:=R.sp t A h' id hid
   refine ⟨PM h1,fun nm B' aL=> ?_⟩
   simp only [SR.up,aC.cX]
   by_cases hn:nm=st.nx
   ·rw [N8 hn];omega
   ·rw [N7 hn]
    simp only [SS.bw,SR.st,ba] at aL
    rw [N7 hn] at aL
    exact h2 nm B' aL
 |put O v dJ B=>
  obtain ⟨⟨B0,cj,bh⟩,oT,xZ⟩:=hm
  have h0:=R.ml dJ _ cj
  have jL:∀t A,(SR.st st d (SR.put O v dJ B:SR τ dn)).bw 0 (.ar t A)->st.bw 0 (.ar t A):=fun t A h=>by
   rcases h with h|h
   ·simp only [SR.st,ba] at h
    by_cases h1:0=dJ
    ·rw [N8 h1,N6,N6] at h
     subst h;simp [SB.iF] at xZ
    ·rw [N7 h1] at h;exact .inl h
   ·exact .inr h
  refine ⟨fun N' hN=> ?_,R.inj,R.lt,fun nm B' h=> ?_,R.rl,fun t A h id hid=> ?_⟩
  ·have A:=R.at_ N' hN
   obtain ⟨q1,q2⟩:=mB (D:=D) (n:=n) (v:=v) (a:=val) hd A.sl A.rs (hv N' hN)
   have e:=hu N' hN
   simp only [SR.ups] at e
   subst e
   have hne:∀nm,nm<st.nx->¬nm=dJ->¬N'.ι nm=N'.ι dJ:=fun nm fA hx he=>by
    rw [(hN.1 nm fA).1,(hN.1 dJ h0).1] at he;exact hx (R.inj _ _ fA h0 he)
   refine ⟨q1,q2,fun nm B' h=> ?_,fun nm B' h=> ?_,fun t A' h id hid=> ?_⟩
   ·simp only [SR.st,ba] at h
    simp only [aA]
    by_cases hn:nm=dJ
    ·subst hn
     rw [N8 rfl,N6,N6] at h
     subst h
     rw [N8 rfl];exact ⟨rfl,by rw [(hN.1 nm h0).2];exact bh⟩
    ·rw [N7 hn] at h
     rw [N7 (hne nm (R.ml nm _ h) hn)];exact A.bl nm B' h
   ·simp only [aA]
    have h':getS st.rm nm=some (some B'):=h
    by_cases hn:nm=dJ
    ·subst hn;rw [oT] at h';simp at h'
    ·exact qN N' nm B' _ _ h' A (hne nm (R.rl nm _ h') hn)
   ·have h':=jL t A' h
    simp only [aA]
    rw [N7 (fun e=>(R.sp t A' h' id hid).2 dJ B0 (.inl cj) (((hN.1 dJ h0).1).symm.trans e.symm))]
    exact A.ar t A' h' id hid
  ·simp only [SR.st,ba] at h ⊢
   by_cases hn:nm=dJ
   ·subst hn;exact h0
   ·rw [N7 hn] at h;exact R.ml nm _ h
  ·obtain ⟨h1,h2⟩:=R.sp t A (jL t A h) id hid
   refine ⟨h1,fun nm B' aL=> ?_⟩
   simp only [SS.bw,SR.st,ba] at aL
   by_cases hn:nm=dJ
   ·subst hn;exact h2 nm B0 (.inl cj)
   ·rw [N7 hn] at aL;exact h2 nm B' aL
 |fS O v ns=>
  have hal:∀nm B',(SR.st st d (SR.fS O v ns:SR τ dn)).bw nm B'->st.bw nm B':=fun nm B' h=>by
   rcases h with h|h
   ·rcases rC h with ⟨_,h2⟩|⟨_,h2⟩
    ·simp at h2
    ·exact .inl h2
   ·exact .inr h
  have jL:∀t A,(SR.st st d (SR.fS O v ns:SR τ dn)).bw 0 (.ar t A)->st.bw 0 (.ar t A):=fun t A h=>hal 0 _ h
  refine ⟨fun N' hN=> ?_,R.inj,R.lt,fun nm B' h=> ?_,R.rl,fun t A h id hid=> ?_⟩
  ·have A:=R.at_ N' hN
   obtain ⟨q1,q2⟩:=mB (D:=D) (n:=n) (v:=v) (a:=val) hd A.sl A.rs (hv N' hN)
   have e:=hu N' hN
   simp only [SR.ups] at e
   subst e
   have hne:∀nm,nm<st.nx->¬nm∈ns->¬N'.ι nm∈ns.map N'.ι:=fun nm fA hx he=>by
    obtain ⟨a,ha,e⟩:=OE.1 he
    obtain ⟨⟨B0,cj⟩,_⟩:=hm a ha
    have h0:=R.ml a _ cj
    rw [(hN.1 nm fA).1,(hN.1 a h0).1] at e
    have:=R.inj _ _ h0 fA e
    subst this;exact hx ha
   refine ⟨q1,q2,fun nm B' h=> ?_,fun nm B' h=> ?_,fun t A' h id hid=> ?_⟩
   ·rcases rC h with ⟨_,h2⟩|⟨h1,h2⟩
    ·simp at h2
    ·show aA s.g _ _=_/\_
     rw [rB,N7 (hne nm (R.ml nm _ h2) h1)];exact A.bl nm B' h2
   ·have h':getS st.rm nm=some (some B'):=h
    have hx:¬nm∈ns:=fun hh=>by have:=(hm nm hh).2;rw [this] at h';simp at h'
    show aA s.g _ _=_/\_
    rw [rB,N7 (hne nm (R.rl nm _ h') hx)];exact A.rb nm B' h'
   ·have h':=jL t A' h
    show aA s.g _ _=_
    rw [rB,N7]
    ·exact A.ar t A' h' id hid
    ·intro gS
     obtain ⟨a,ha,e⟩:=OE.1 gS
     obtain ⟨⟨B0,cj⟩,_⟩:=hm a ha
     exact (R.sp t A' h' id hid).2 a B0 (.inl cj) (((hN.1 a (R.ml a _ cj)).1).symm.trans e)
  ·rcases rC h with ⟨h1,h2⟩|⟨h1,h2⟩
   ·obtain ⟨⟨B0,cj⟩,_⟩:=hm nm h1
    exact R.ml nm _ cj
   ·exact R.ml nm _ h2
  ·obtain ⟨h1,h2⟩:=R.sp t A (jL t A h) id hid
   exact ⟨h1,fun nm B' aL=>h2 nm B' (hal nm B' aL)⟩
 |mov O v old B=>
  obtain ⟨⟨B0,cj⟩,oT,xZ⟩:=hm
  have h0:=R.ml old _ cj
  have dH:∀N',(N.cX st.nx s.k B.len).agree (st.nx+1) N'->N.agree st.nx N'/\N'.ι st.nx=s.k/\N'.ln st.nx=B.len:=fun N' hN=>by
   refine ⟨aC.eH (N.lA st.nx s.k B.len) hN (by omega), ?_, ?_⟩
   ·rw [(hN.1 st.nx (by omega)).1];exact N8 rfl
   ·rw [(hN.1 st.nx (by omega)).2];exact N8 rfl
  have jL:∀t A,(SR.st st d (SR.mov O v old B:SR τ dn)).bw 0 (.ar t A)->st.bw 0 (.ar t A):=fun t A h=>by
   rcases h with h|h
   ·simp only [SR.st,ba] at h
    by_cases h1:0=st.nx
    ·rw [N8 h1,N6,N6] at h
     subst h;simp [SB.iF] at xZ
    ·rw [N7 h1] at h
     by_cases h2:0=old
     ·rw [N8 h2] at h;simp at h
     ·rw [N7 h2] at h;exact .inl h
   ·exact .inr h
  refine ⟨fun N' hN=> ?_,fun a b ha hb he=> ?_,fun a ha=> ?_,fun nm B' h=> ?_,fun nm B' h=>PM (R.rl nm B' h),fun t A h id hid=> ?_⟩
  ·obtain ⟨h1,h2,h3⟩:=dH N' hN
   have A:=R.at_ N' h1
   obtain ⟨q1,q2⟩:=mB (D:=D) (n:=n) (v:=v) (a:=val) hd A.sl A.rs (hv N' hN)
   have e:=hu N' hN
   simp only [SR.ups] at e
   subst e
   have hne:∀nm,nm<st.nx->¬N'.ι nm=s.k:=fun nm fA he=>by
    rw [(h1.1 nm fA).1] at he;have:=R.lt nm fA;omega
   have Cf:∀nm,nm<st.nx->¬nm=old->¬N'.ι nm=N'.ι old:=fun nm fA hx he=>by
    rw [(h1.1 nm fA).1,(h1.1 old h0).1] at he;exact hx (R.inj _ _ fA h0 he)
   refine ⟨q1,q2,fun nm B' h=> ?_,fun nm B' h=> ?_,fun t A' h id hid=> ?_⟩
   ·simp only [SR.st,ba] at h
    simp only [aA]
    by_cases hn:nm=st.nx
    ·subst hn
     rw [N8 rfl,N6,N6] at h
     subst h
     rw [N8 h2];exact ⟨rfl,h3⟩
    ·rw [N7 hn] at h
     by_cases ho:nm=old
     ·rw [N8 ho] at h;simp at h
     ·rw [N7 ho] at h
      rw [N7 (hne nm (R.ml nm _ h)),N7 (Cf nm (R.ml nm _ h) ho)];exact A.bl nm B' h
   ·simp only [aA]
    have h':getS st.rm nm=some (some B'):=h
    by_cases ho:nm=old
    ·subst ho;rw [oT] at h';simp at h'
    ·rw [N7 (hne nm (R.rl nm _ h')),N7 (Cf nm (R.rl nm _ h') ho)];exact A.rb nm B' h'
   ·have h':=jL t A' h
    simp only [aA]
    rw [N7 (fun e=>by have:=(R.sp t A' h' id hid).1;omega),N7 (fun e=>(R.sp t A' h' id hid).2 old B0 (.inl cj) (by rw [<-(h1.1 old h0).1];exact e.symm))]
    exact A.ar t A' h' id hid
  ·simp only [SR.st] at ha hb
   simp only [SR.up,aC.cX] at he
   by_cases h1:a=st.nx<;>by_cases h2:b=st.nx
   ·rw [h1,h2]
   ·rw [N8 h1,N7 h2] at he;have:=R.lt b (by omega);omega
   ·rw [N7 h1,N8 h2] at he;have:=R.lt a (by omega);omega
   ·rw [N7 h1,N7 h2] at he;exact R.inj a b (by omega) (by omega) he
  ·simp only [SR.st] at ha
   simp only [SR.up,aC.cX,SR.k1]
   by_cases h1:a=st.nx
   ·rw [N8 h1];omega
   ·rw [N7 h1];have:=R.lt a (by omega);omega
  ·simp only [SR.st,ba] at h ⊢
   by_cases hn:nm=st.nx
   ·omega
   ·rw [N7 hn] at h
    by_cases ho:nm=old
    ·omega
    ·rw [N7 ho] at h;have:=R.ml nm _ h;omega
  ·obtain ⟨h1,h2⟩:=R.sp t A (jL t A h) id hid
   refine ⟨PM h1,fun nm B' aL=> ?_⟩
   simp only [SR.up,aC.cX]
   by_cases hn:nm=st.nx
   ·rw [N8 hn];omega
   ·rw [N7 hn]
    simp only [SS.bw,SR.st,ba] at aL
    rw [N7 hn] at aL
    by_cases ho:nm=old
    ·subst ho;exact h2 nm B0 (.inl cj)
    ·rw [N7 ho] at aL;exact h2 nm B' aL
 |ew O v lB t0 row A0=>
  obtain ⟨hg0,oT,Cg⟩:=hm
  have jz:=mC hg0
  have Ci:=R.ml 0 _ hg0
  have x4:st.bw 0 (.ar t0 A0):= .inl hg0
  obtain ⟨nd,JY⟩:=R.sp t0 A0 x4 lB Cg
  have Cj:∀t A,(SR.st st d (SR.ew O v lB t0 row A0:SR τ dn)).bw 0 (.ar t A)->(SB.ar t A:SB τ dn)= .ar t0 ((lB,row)::A0):=fun t A h=>by
   rcases h with h|h
   ·simp only [SR.st,ba,Oa,N6] at h;exact h.symm
   ·have h':getS st.rm 0=some (some (.ar t A)):=h
    rw [oT] at h';simp at h'
  have hne:∀(N':aC),N.agree st.nx N'->∀nm B',st.bw nm B'->nm<st.nx->¬N'.ι nm=lB:=fun N' hN nm B' aL hlt e=>JY nm B' aL (by rw [<-(hN.1 nm hlt).1];exact e)
  refine ⟨fun N' hN=> ?_,R.inj,R.lt,fun nm B' h=> ?_,R.rl,fun t A h id hid=> ?_⟩
  ·have A:=R.at_ N' hN
   obtain ⟨q1,q2⟩:=mB (D:=D) (n:=n) (v:=v) (a:=val) hd A.sl A.rs (hv N' hN)
   have e:=hu N' hN
   simp only [SR.ups] at e
   subst e
   refine ⟨q1,q2,fun nm B' h=> ?_,fun nm B' h=> ?_,fun t A' h id hid=> ?_⟩
   ·simp only [SR.st,ba] at h
    simp only [aA]
    by_cases hn:nm=0
    ·subst hn
     rw [N8 rfl,N6,N6] at h
     subst h
     rw [N7 (hne N' hN 0 _ (.inl hg0) Ci)]
     have q:=A.bl 0 _ hg0
     exact ⟨q.1,q.2⟩
    ·rw [N7 hn] at h
     rw [N7 (hne N' hN nm _ (.inl h) (R.ml nm _ h))];exact A.bl nm B' h
   ·simp only [aA]
    have h':getS st.rm nm=some (some B'):=h
    rw [N7 (hne N' hN nm _ (.inr h') (R.rl nm _ h'))];exact A.rb nm B' h'
   ·have h:=Cj t A' h
    simp only [SB.ar.injEq] at h
    obtain ⟨rfl,h⟩:=h
    have h:=eq_of_heq h
    subst h
    simp only [aA]
    rw [BS]
    by_cases hi:id=lB
    ·rw [N8 hi,N8 hi]
    ·rw [N7 hi,N7 hi]
     rcases qQ.1 hid with hh|hh
     ·exact absurd hh hi
     ·exact A.ar _ A0 x4 id hh
  ·simp only [SR.st,ba] at h ⊢
   by_cases hn:nm=0
   ·subst hn;exact Ci
   ·rw [N7 hn] at h;exact R.ml nm _ h
  ·have h:=Cj t A h
   simp only [SB.ar.injEq] at h
   obtain ⟨rfl,h⟩:=h
   have h:=eq_of_heq h
   subst h
   have jw:dw A0 id:=by
    rcases qQ.1 hid with hh|hh
    ·subst hh;exact Cg
    ·exact hh
   obtain ⟨h1,h2⟩:=R.sp _ A0 x4 id jw
   refine ⟨h1,fun nm B' aL=> ?_⟩
   simp only [SS.bw,SR.st,ba] at aL
   by_cases hn:nm=0
   ·subst hn;exact h2 0 _ (.inl hg0)
   ·rw [N7 hn] at aL;exact h2 nm B' aL
def SR.fX:SR τ dn->Bool
 | .val _ _=>true
 | .new _ _ B=> !B.iF
 |_=>false
theorem tT {st:SS τ dn} {r:SR τ dn} (h:r.fX=true):r.may D N st:=by cases r<;>first|trivial|(simp [SR.fX] at h;done)|(simpa [SR.fX,SR.may] using h)
theorem JZ {x y:Int} {r:SR τ dn} (h:qX neg op x y=some r):r.fX=true:=by
 unfold qX at h
 cases neg<;>simp only [Ob,Ot] at h
 repeat' split at h
 all_goals first|(simp at h;done)|(simp only [N6] at h;subst h;rfl)|(simp only [Od] at h;obtain ⟨_,_,rfl⟩:=h;rfl)
theorem J0 {x y:ByteArray} {r:SR τ dn} (h:oZ op x y=some r):r.fX=true:=by
 unfold oZ at h
 repeat' split at h
 all_goals first|(simp at h;done)|(simp only [N6] at h;subst h;rfl)|(simp only [Od] at h;obtain ⟨_,_,rfl⟩:=h;rfl)
theorem J1 {op:UnOp} {a:SV τ dn} {r:SR τ dn} (h:q8 op a=some r):r.fX=true:=by
 unfold q8 at h
 repeat' split at h
 all_goals first|(simp at h;done)|(simp only [N6] at h;subst h;rfl)|(simp only [Od] at h;obtain ⟨_,_,rfl⟩:=h;rfl)
theorem J2 {a:SV τ dn} {r:SR τ dn} (h:q9 k a=some r):r.fX=true:=by
 unfold q9 at h
 repeat' split at h
 all_goals first|(simp at h;done)|(simp only [N6] at h;subst h;rfl)|(simp only [Od] at h;obtain ⟨_,_,rfl⟩:=h;rfl)
theorem J3 {st:SS τ dn} {v:SV τ dn} {r:SR τ dn} (h:nS D st m v=some r):r.fX=true:=by
 unfold nS at h
 repeat' split at h
 all_goals first|(simp at h;done)|(simp only [N6] at h;subst h;rfl)|(simp only [Od] at h;obtain ⟨_,_,rfl⟩:=h;rfl)
theorem J4 {st:SS τ dn} {sz:Nat} {v:SV τ dn} {n:Int} {r:SR τ dn} (h:rh D st sz v n l=some r):r.fX=true:=by
 unfold rh at h
 cases l<;>simp only [Ob,Ot] at h
 repeat' split at h
 all_goals first|(simp at h;done)|(simp only [N6] at h;subst h;rfl)|(simp only [Od] at h;obtain ⟨_,_,rfl⟩:=h;rfl)
theorem J5 {st:SS τ dn} {v:SV τ dn} {r:SR τ dn} (h:rk st b v=some r):r.fX=true:=by
 unfold rk at h
 repeat' split at h
 all_goals first|(simp at h;done)|(simp only [N6] at h;subst h;rfl)|(simp only [Od] at h;obtain ⟨_,_,rfl⟩:=h;rfl)
theorem J6 {st:SS τ dn} {v:SV τ dn} {r:SR τ dn} (h:rn st kd neg v=some r):r.fX=true:=by
 unfold rn at h
 repeat' split at h
 all_goals first|(simp at h;done)|(simp only [N6] at h;subst h;rfl)|(simp only [Od] at h;obtain ⟨_,_,rfl⟩:=h;rfl)
theorem Ck {st:SS τ dn} {sz:Nat} {v:SV τ dn} {r:SR τ dn} (h:rp D st sz v lo hi=some r):r.fX=true:=by
 unfold rp at h
 repeat' split at h
 all_goals first|(simp at h;done)|(simp only [N6] at h;subst h;rfl)|(simp only [Od] at h;obtain ⟨_,_,rfl⟩:=h;rfl)
theorem J7 {st:SS τ dn} {v:SV τ dn} {r:SR τ dn} (h:rr D st v=some r):r.fX=true:=by
 unfold rr at h
 repeat' split at h
 all_goals first|(simp at h;done)|(simp only [N6] at h;subst h;rfl)
theorem J8 {st:SS τ dn} {r:SR τ dn} (h:ru D st s=some r):r.fX=true:=by
 unfold ru at h
 repeat' split at h
 all_goals first|(simp at h;done)|(simp only [N6] at h;subst h;rfl)
theorem J9 {st:SS τ dn} {sz by_:Nat} {zs:List AV} {l:Int} {r:SR τ dn} (h:rv D st sz by_ zs l c=some r):r.fX=true:=by
 unfold rv at h
 repeat' split at h
 all_goals first|(simp at h;done)|(simp only [N6] at h;subst h;rfl)|(simp only [Od] at h;obtain ⟨_,_,rfl⟩:=h;rfl)
theorem Ka {bt:Bool} {a b:SV τ dn} {r:SR τ dn} (h:qZ neg bt op a b=some r):r.fX=true:=by
 unfold qZ at h
 repeat' split at h
 all_goals first|exact JZ h|exact J0 h|first|(simp at h;done)|(simp only [N6] at h;subst h;rfl)|(simp only [Od] at h;obtain ⟨_,_,rfl⟩:=h;rfl)
theorem jM {st:SS τ dn} (h:st.rw nm=true):(∃B0,getS st.m nm=some (some B0))/\getS st.rm nm=none:=by
 unfold SS.rw at h
 rw [N9] at h
 refine ⟨?_,by simpa using h.2⟩
 have h1:=h.1
 split at h1
 ·rename_i B hB;exact ⟨B,hB⟩
 ·simp at h1
theorem Kb (sz:Nat) (c:Ct τ dn):(c.ko sz).iF=false:=by cases c<;>rfl
theorem Kc [DecidableEq τ] {sz:Nat} {B B':SB τ dn} {c:Ct τ dn} (h:nR D sz B c=some B'):B'.iF=false:=by
 unfold nR at h
 repeat' split at h
 all_goals first|(simp at h;done)|(simp only [N6] at h;subst h;rfl)|(simp only [Od] at h;obtain ⟨_,_,rfl⟩:=h;rfl)
theorem Kd [DecidableEq τ] {st:SS τ dn} (R:bg D N st σ g):∀{ao:AO} {r:SR τ dn},sx D st ao=some r->r.may D N st:=by
 intro ao r h
 have val:∀{O:List Prop} {v:SV τ dn},(SR.val O v).may D N st:=trivial
 have eo:∀{O:List Prop} {v:SV τ dn} {nm:Nat} {B0 B:SB τ dn},st.rw nm=true->st.gm nm=some B0->B.len=B0.len->(hb:B.iF=false:=by rfl)->(SR.put O v nm B).may D N st:=fun h1 h2 h3 hb=>by
  obtain ⟨⟨B1,h4⟩,h5⟩:=jM h1
  exact ⟨⟨B1,h4,by rw [h3];exact (R.gm h2).2⟩,h5,hb⟩
 cases ao<;>simp only [sx] at h
 case store n x y=>
  split at h
  ·unfold tB at h
   split at h
   ·split at h
    ·split at h
     ·rename_i hc
      split at h
      ·rename_i hB
       split at h
       ·split at h
        ·simp only [N6] at h;subst h;exact eo hc.2 hB (by simp [SB.len])
        ·simp at h
       ·simp at h
      ·rename_i hB
       split at h
       ·split at h
        ·simp only [N6] at h;subst h;exact eo hc.2 hB (by simp [SB.len])
        ·simp at h
       ·simp at h
      ·simp at h
     ·simp at h
    ·simp at h
   ·simp at h
  ·simp at h
 case app sz by_ x y=>
  split at h
  ·unfold tC at h
   split at h
   ·split at h
    ·simp only [N6] at h;subst h;exact Kb _ _
    ·split at h
     ·rename_i hc
      split at h
      ·split at h
       ·simp only [Od] at h;obtain ⟨B',aL,rfl⟩:=h;exact ⟨(jM hc.2).1,(jM hc.2).2,Kc aL⟩
       ·simp at h
      ·simp at h
     ·simp at h
    ·simp at h
   ·simp at h
  ·simp at h
 case cpy sz x y=>
  split at h
  ·unfold tF at h
   split at h
   ·split at h
    ·rename_i hc
     split at h
     ·rename_i hB
      split at h
      ·rename_i he
       subst he
       split at h
       ·simp only [N6] at h;subst h
        exact eo hc.2 hB (by simp only [SB.len,Pk,Pp,List.length_drop];omega)
       ·simp at h
      ·simp at h
     ·simp at h
    ·simp at h
   ·simp at h
  ·simp at h
 case mup kd x k y=>
  split at h
  ·unfold tH at h
   split at h
   case h_2=>simp at h
   rename_i nm key j1 _
   split at h
   case h_2=>simp at h
   rename_i els hB
   cases hb:(st.rw nm&&plainV key) with
   |false=>rw [hb] at h;simp at h
   |true=>
    rw [hb,Ob] at h
    rw [N9] at hb
    split at h
    case h_2=>simp at h
    simp only [N6] at h;subst h
    exact eo hb.1 hB rfl
  ·simp at h
 case mlk kd z x k=>
  split at h
  ·unfold tI at h
   refine tT ?_
   repeat' split at h
   all_goals first|(simp at h;done)|(simp only [N6] at h;subst h;rfl)|(simp only [Od] at h;obtain ⟨_,_,rfl⟩:=h;rfl)
  ·simp at h
 case slc sz x lo hi mx=>
  refine tT ?_
  cases mx with
  |some m=>simp at h
  |none=>
   simp only at h
   split at h
   ·exact Ck h
   ·simp at h
 all_goals refine tT ?_
 all_goals try (simp only [PE] at h;obtain ⟨_,_,h⟩:=h)
 all_goals repeat' split at h
 all_goals first|exact Ka h|exact J1 h|exact J2 h|exact J3 h|exact J4 h|exact J5 h|exact J6 h|exact Ck h|exact J9 h|exact J7 h|exact J8 h|(simp at h;done)|(simp only [N6] at h;subst h;rfl)|(simp only [Od] at h;obtain ⟨_,_,rfl⟩:=h;rfl)|(subst h;rfl)
end
open Go.RowKit
def fB:List Prop->Prop->Prop
 |[],K=>K
 |p::r,K=>p/\fB r K
theorem jN {K:Prop}:∀{O:List Prop},fB O K↔(∀p,p∈O->p)/\K
 |[]=>by simp [fB]
 |p::r=>by simp only [fB,jN (O:=r),Oj,PB,and_assoc]
def Cn.pol (c:Cn):Bool->Cn
 |true=>c
 |false=> .not c
theorem Cn.Cl (c:Cn) (p:Bool):(c.pol p).den=(c.den==p):=by cases p<;>cases h:c.den<;>simp [pol,den,h]
section
variable {τ:Type} {dn:τ->Type} {D:TD τ dn} {N:aC} {st:SS τ dn} {σ:Nat->AV} {g:Nat->Option Bk}
inductive Gd where
 |yes
 |no
 |lC (e:Cn)
 |bad
def SS.gd (st:SS τ dn):Option (Nat×Bool)->Gd
 |none=> .yes
 |some (i,w)=>match st.gt i with
  |some (.vt b)=>bif b==w then .yes else .no
  |some (.vo (.tuple _))=> .no
  |some (.vb c)=> .lC (c.pol w)
  |some (.vg p c (.vb c2))=> .lC (.and (c.pol p) (c2.pol w))
  |some (.vg p c (.vt b))=>bif b==w then .lC (c.pol p) else .no
  |_=> .bad
theorem Ke (R:bg D N st σ g) {x:Option (Nat×Bool)}:(st.gd x= .yes->bO σ x=some true)/\(st.gd x= .no->bO σ x=some false)/\(∀e,st.gd x= .lC e->bO σ x=some e.den):=by
 cases x with
 |none=>exact ⟨fun _=>rfl,fun h=>by simp [SS.gd] at h,fun e h=>by simp [SS.gd] at h⟩
 |some x=>
  obtain ⟨i,w⟩:=x
  simp only [SS.gd]
  split
  ·rename_i b h
   have e:=R.gt h
   simp only [SV.av] at e
   simp only [bO,e]
   cases b<;>cases w<;>simp
  ·rename_i vs h
   have e:=R.gt h
   simp only [SV.av] at e
   simp [bO,e]
  ·rename_i c h
   have e:=R.gt h
   simp only [SV.av] at e
   simp [bO,e,Cn.Cl]
  ·rename_i p c c2 h
   have e:=R.gt h
   simp only [SV.av] at e
   refine ⟨by simp,by simp,fun e' he=> ?_⟩
   simp only [Gd.lC.injEq] at he;subst he
   simp only [bO,e,Cn.den,Cn.Cl]
   cases c.den<;>cases p<;>simp [undef]
  ·rename_i p c b h
   have e:=R.gt h
   simp only [SV.av] at e
   simp only [bO,e]
   cases hc:c.den<;>cases p<;>cases b<;>cases w<;>simp [undef,Cn.pol,Cn.den,hc]
  ·exact ⟨by simp,by simp,by simp⟩
def rD (st:SS τ dn):List Nat->List (Nat×SV τ dn)
 |[]=>st.t
 |i::r=>match st.gt i with
  |some (.vg _ _ v)=>(i,v)::rD st r
  |_=>rD st r
def SS.unw (st:SS τ dn) (ss:List Nat):SS τ dn:=⟨st.rt,st.rm,rD st ss,st.m,st.nx⟩
def jb (st:SS τ dn) (e:Cn):List Nat->List Prop
 |[]=>[]
 |i::r=>match st.gt i with
  |some (.vg p c _)=>(e.tf true->c.tf p)::jb st e r
  |_=>jb st e r
theorem Cm (R:bg D N st σ g) {e:Cn} (he:e.den=true) {ss:List Nat} (h:∀p,p∈jb st e ss->p):bg D N (st.unw ss) σ g:=by
 refine ⟨?_,R.rs,R.bl,R.rb,R.ar⟩
 show ∀i v,getS (rD st ss) i=some v->σ i=v.av D.toTE N
 have et:=(Cn.iY e true).2 he
 induction ss with
 |nil=>exact R.sl
 |cons j r ih=>
  simp only [rD]
  simp only [jb] at h
  split
  ·rename_i p c v hj
   rw [hj] at h
   simp only [Oj,PB] at h
   intro i w hw
   rw [ba] at hw
   by_cases hi:i=j
   ·rw [N8 hi,N6] at hw
    subst hw;subst hi
    rw [R.gt hj,SV.av,N8 ((Cn.iY c p).1 (h.1 et))]
   ·rw [N7 hi] at hw;exact ih h.2 i w hw
  ·rename_i hj
   have:jb st e (j::r)=jb st e r:=by
    simp only [jb]
   refine ih ?_
   intro p hp
   refine h p ?_
   split
   ·rename_i q c v hq;exact absurd hq (hj _ _ _)
   ·exact hp
def nV (c:Cn) (b:Bool):SV τ dn->List Prop×SV τ dn
 | .vg p c' v=>([c.tf b->c'.tf p],v)
 |v=>([],v)
theorem Co {c:Cn} {v:SV τ dn} (hc:c.den=b) (h:∀p,p∈(nV c b v).1->p):v.av D.toTE N=(nV c b v).2.av D.toTE N:=by
 unfold nV at h ⊢
 split
 ·rename_i p c' v
  simp only [Of,Ou] at h
  rw [SV.av,N8 ((Cn.iY c' p).1 (h ((Cn.iY c b).2 hc)))]
 ·rfl
def rE (c:Cn):SV τ dn->SV τ dn->Option (SV τ dn)
 | .vt true, .vt true=>some (.vt true)
 | .vt false, .vt false=>some (.vt false)
 | .vt true, .vt false=>some (.vb c)
 | .vt false, .vt true=>some (.vb (.not c))
 | .vb x, .vt false=>some (.vb (.and c x))
 | .vb x, .vt true=>some (.vb (.or (.not c) x))
 | .vt true, .vb y=>some (.vb (.or c y))
 | .vt false, .vb y=>some (.vb (.and (.not c) y))
 | .vb x, .vb y=>some (.vb (.or (.and c x) (.and (.not c) y)))
 |_,_=>none
theorem x5 {c:Cn} {a b v:SV τ dn} (h:rE c a b=some v):v.av D.toTE N=if c.den=true then a.av D.toTE N else b.av D.toTE N:=by
 unfold rE at h
 split at h<;>simp only [N6,reduceCtorEq] at h<;>subst h<;>cases hc:c.den<;>simp [SV.av,Cn.den,hc]
def x6 (st:SS τ dn) (c a b:Arg):Option (SR τ dn):=
 match st.ev c with
 |some (.vt true)=>(st.ev a).map (.val [])
 |some (.vt false)=>(st.ev b).map (.val [])
 |some (.vb cc)=>match st.ev a,st.ev b with
  |some va,some vb=>(rE cc (nV cc true va).2 (nV cc false vb).2).map (.val ((nV cc true va).1++(nV cc false vb).1))
  |_,_=>none
 |_=>none
theorem Kf (R:bg D N st σ g) {c a b:Arg} {r:SR τ dn} (h:x6 st c a b=some r):r.Good D N st.nx σ g (.pick c a b)/\r.may D N st:=by
 unfold x6 at h
 split at h
 ·rename_i hc
  simp only [Od] at h;obtain ⟨v,hv,rfl⟩:=h
  refine ⟨fun k hO hf=> ?_,trivial⟩
  simp only [AO.au,R.ev hc,SV.av,Oa,R.ev hv,RM.run,SR.v,SR.ups]
 ·rename_i hc
  simp only [Od] at h;obtain ⟨v,hv,rfl⟩:=h
  refine ⟨fun k hO hf=> ?_,trivial⟩
  simp only [AO.au,R.ev hc,SV.av,O0,OH,R.ev hv,RM.run,SR.v,SR.ups]
 ·rename_i cc hc
  split at h
  ·rename_i va vb ha hb
   simp only [Od] at h;obtain ⟨v,hv,rfl⟩:=h
   refine ⟨fun k hO hf=> ?_,trivial⟩
   simp only [SR.O,OM] at hO
   simp only [AO.au,R.ev hc,SV.av,RM.run,SR.v,SR.ups,x5 hv,R.ev ha,R.ev hb]
   cases hcc:cc.den with
   |true=>simp only [Oa];rw [<-Co hcc fun p hp=>hO p (.inl hp)]
   |false=>simp only [O0,OH];rw [<-Co hcc fun p hp=>hO p (.inr hp)]
  ·simp at h
 ·simp at h
variable [DecidableEq τ]
def mD (D:TD τ dn) (st:SS τ dn) (ao:AO):Option (SR τ dn):=
 match ao with
 | .pick c a b=>x6 st c a b
 |ao=>bif ao.lk.any st.rwa then lu D st ao else sx D st ao
theorem Kg {r:SR τ dn} (h:lu D st ao=some r) (hO:∀p,p∈r.O->p):r.may D N st:=by
 have ew:∀{O:List Prop} {v:SV τ dn} {t:τ} {A:List (Nat×List (dn t))} {q:Row (dn t)} {row:List (dn t)},st.fU t=some A->st.rw 0=true->q.nO A->(SR.ew O v q.id t row A).may D N st:=fun hA hw hm=>by
  obtain ⟨⟨B1,h4⟩,h5⟩:=jM hw
  have:=mA hA
  have h6:=mC h4
  rw [h6] at this
  simp only [N6] at this;subst this
  exact ⟨h4,h5,hm.2.1⟩
 cases ao<;>simp only [lu,reduceCtorEq] at h
 case store n x y=>
  split at h
  case h_2=>simp at h
  rename_i t q i o b hx hy
  split at h
  case h_2=>simp at h
  rename_i A hA
  split at h
  case isFalse=>simp at h
  rename_i hc
  split at h
  case h_2=>simp at h
  simp only [N6] at h;subst h
  exact ew hA hc.2.2.1 (hO _ (O6 ..))
 case cpy sz x y=>
  split at h
  case h_2=>simp at h
  rename_i t q b cF hy
  split at h
  case h_2=>simp at h
  rename_i A O t' ys hA dG
  split at h
  case isFalse=>simp at h
  rename_i ht
  subst ht
  split at h
  case isFalse=>simp at h
  rename_i hs
  simp only [N6] at h;subst h
  simp only [SR.O,OM,Of] at hO
  exact ew hA hs.2 (hO _ (.inr rfl))
 all_goals refine tT ?_
 case len s x=>
  cases s with
  |true=>simp at h
  |false=>
   simp only at h
   split at h
   case h_2=>simp at h
   split at h
   case h_2=>simp at h
   simp only [N6] at h;subst h;rfl
 case iad sz x y=>
  split at h
  case h_2=>simp at h
  split at h
  case h_2=>simp at h
  split at h
  case isFalse=>simp at h
  simp only [N6] at h;subst h;rfl
 all_goals repeat' split at h
 all_goals first|(simp at h;done)|(simp only [N6] at h;subst h;rfl)|(simp only [Od] at h;obtain ⟨_,_,rfl⟩:=h;rfl)
theorem x7 (ok:aZ D) (R:bg D N st σ g) {r:SR τ dn} (h:mD D st ao=some r) (hO:∀p,p∈r.O->p):r.Good D N st.nx σ g ao/\r.may D N st:=by
 unfold mD at h
 split at h
 ·exact Kf R h
 ·cases hb:(ao.lk.any st.rwa) with
  |true=>rw [hb,Ob] at h;exact ⟨JT ok R h,Kg h hO⟩
  |false=>rw [hb,Ot] at h;exact ⟨JR ok R h,Kd R h⟩
end
section
variable {τ:Type} {dn:τ->Type} {D:TD τ dn} {N:aC} {st:SS τ dn} {σ:Nat->AV} {g:Nat->Option Bk}
def SV.pu1:SV τ dn->Bool
 | .vi _| .vn _| .vy _| .vu _| .vw _ _| .vb _| .vt _| .vz _| .vo _| .emp| .vl _ _| .vc _ _| .pim _ _| .dead=>true
 | .fn _ cs=>cs.isEmpty
 |_=>false
theorem Cp {v:SV τ dn} (h:v.pu1=true):(v.av D.toTE N).pu1=true:=by
 cases v<;>simp [SV.pu1] at h<;>simp [SV.av,AV.pu1]
 subst h;rfl
def x8 [DecidableEq τ] (D:TD τ dn) (st:SS τ dn) (t:τ) (r:Row (dn t)):Option (List Prop×SV τ dn):=match st.fU t with
 |some A=>bif D.pu t then some ([r.ok A,r.kd≠ .nil], .vl t (r.get A)) else none
 |none=>none
def snap1S (D:TD τ dn) (st:SS τ dn):SV τ dn->Option (SV τ dn)
 | .own nm sz=>match st.cont D sz (.own nm sz) with
  |some (.ty t xs)=>bif D.pu t then some (.vl t xs) else none
  |some (.li els)=>bif els.all (fun cs=>cs.all SV.pu1) then some (.vc sz els) else none
  |none=>none
 | .ref nm sz i o=>match st.gm nm with
  |some (.bc q els)=>if q=sz then (match els[i]? with
   |some cs=>bif cs.all SV.pu1 then some (.pim cs o) else none
   |none=>none) else none
  |_=>none
 |v=>bif v.pu1 then some v else none
theorem Cq {cs:List (SV τ dn)} (h:cs.all SV.pu1=true):(cs.map (SV.av D.toTE N)).all AV.pu1=true:=by
 simp only [Oc,OE] at h ⊢
 rintro _ ⟨v,hv,rfl⟩;exact Cp (h v hv)
theorem tU (ok:aZ D) (R:bg D N st σ g) {v w:SV τ dn} (h:snap1S D st v=some w):(snap1 (v.av D.toTE N)).run g=some (w.av D.toTE N):=by
 have other:∀{v:SV τ dn},(bif v.pu1 then some v else none)=some w->(∀a,a=v.av D.toTE N->snap1 a=if a.pu1=true then .ret a else .fail)->(snap1 (v.av D.toTE N)).run g=some (w.av D.toTE N):=by
  intro v h h2
  cases hp:v.pu1 with
  |false=>rw [hp] at h;simp at h
  |true=>
   rw [hp,Ob,N6] at h;subst h
   rw [h2 _ rfl,N8 (Cp hp)];rfl
 cases v with
 |own nm sz=>
  simp only [snap1S] at h
  have ea:(((SV.own nm sz:SV τ dn).av D.toTE N)= .own (N.ι nm) sz 0 (N.ln nm)):=rfl
  split at h
  ·rename_i t xs hc
   obtain ⟨c1,c2⟩:=nT R hc
   cases hp:D.pu t with
   |false=>rw [hp] at h;simp at h
   |true=>
    rw [hp,Ob,N6] at h;subst h
    have hz:=c2 t xs rfl
    rw [ea] at c1 ⊢
    simp only [snap1]
    rw [dq c1]
    have bI:((xs.map (D.ea N.ρ t)).all fun cs=>cs.all AV.pu1)=true:=by
     simp only [Oc,OE]
     rintro _ ⟨y,_,rfl⟩
     have:=ok.pu1 N t y hp
     simpa [Oc] using this
    simp only [Ct.els,bI,Oa,RM.run,SV.av,hz]
  ·rename_i els hc
   obtain ⟨c1,c2⟩:=nT R hc
   cases hp:els.all (fun cs=>cs.all SV.pu1) with
   |false=>rw [hp] at h;simp at h
   |true=>
    rw [hp,Ob,N6] at h;subst h
    rw [ea] at c1 ⊢
    simp only [snap1]
    rw [dq c1]
    have bI:((els.map fun cs=>cs.map (SV.av D.toTE N)).all fun cs=>cs.all AV.pu1)=true:=by
     simp only [Oc,OE]
     rintro _ ⟨cs,hcs,rfl⟩
     have h1:=(Oc.1 hp) cs hcs
     have:=Cq (D:=D) (N:=N) h1
     simpa [Oc] using this
    simp only [Ct.els,SV.iE,bI,Oa,RM.run,SV.av]
  ·simp at h
 |ref nm sz i o=>
  simp only [snap1S] at h
  split at h
  ·rename_i q els hB
   split at h
   ·rename_i hq
    split at h
    ·rename_i cs hcs
     cases hp:cs.all SV.pu1 with
     |false=>rw [hp] at h;simp at h
     |true=>
      rw [hp,Ob,N6] at h;subst h
      have g1:=(R.gm hB).1
      simp only [SV.av,snap1,RM.run,g1,SB.av,hq,Oa,SV.iE,Oy,hcs,Oh,Cq hp,SV.bu]
    ·simp at h
   ·simp at h
  ·simp at h
 |_=>first
  |exact other h fun a ha=>by subst ha;rfl
  |(simp [snap1S,SV.pu1] at h)
def lD (D:TD τ dn) (st:SS τ dn):List (SV τ dn)->Option (List (SV τ dn))
 |[]=>some []
 |v::r=>match snap1S D st v,lD D st r with
  |some x,some l=>some (x::l)
  |_,_=>none
theorem tV (ok:aZ D) (R:bg D N st σ g):∀{vs ws:List (SV τ dn)},lD D st vs=some ws->(gu (vs.map (SV.av D.toTE N))).run g=some (ws.map (SV.av D.toTE N))
 |[],ws,h=>by simp only [lD,N6] at h;subst h;rfl
 |v::r,ws,h=>by
  simp only [lD] at h
  split at h
  ·rename_i x l h1 h2
   simp only [N6] at h;subst h
   simp only [Om,gu]
   rw [dq (tU ok R h1),dq (tV ok R h2)];rfl
  ·simp at h
def gH (D:TD τ dn) (st:SS τ dn):SV τ dn->Option (SV τ dn)
 | .agg cs=>(lD D st cs).map .agg
 | .fn f cs=>(lD D st cs).map (.fn f)
 | .bf f cs=>(lD D st cs).map (.bf f)
 |v=>snap1S D st v
theorem x9 (ok:aZ D) (R:bg D N st σ g) {v w:SV τ dn} (h:gH D st v=some w):(du (v.av D.toTE N)).run g=some (w.av D.toTE N):=by
 cases v with
 |agg cs=>
  simp only [gH,Od] at h;obtain ⟨l,hl,rfl⟩:=h
  simp only [SV.av,SV.bu,du]
  rw [dq (tV ok R hl)];rfl
 |fn f cs=>
  simp only [gH,Od] at h;obtain ⟨l,hl,rfl⟩:=h
  simp only [SV.av,SV.bu,du]
  rw [dq (tV ok R hl)];rfl
 |bf f cs=>
  simp only [gH,Od] at h;obtain ⟨l,hl,rfl⟩:=h
  simp only [SV.av,SV.bu,du]
  rw [dq (tV ok R hl)];rfl
 |vg p c v=>simp [gH,snap1S,SV.pu1] at h
 |rw t r=>simp [gH,snap1S,SV.pu1] at h
 |cQ t r i o=>simp [gH,snap1S,SV.pu1] at h
 |_=>
  simp only [gH] at h
  exact tU ok R h
def jO (D:TD τ dn) (st:SS τ dn):List (SV τ dn)->Option (List (SV τ dn))
 |[]=>some []
 |v::r=>match gH D st v,jO D st r with
  |some x,some l=>some (x::l)
  |_,_=>none
theorem Cr (ok:aZ D) (R:bg D N st σ g):∀{vs ws:List (SV τ dn)},jO D st vs=some ws->(cO (vs.map (SV.av D.toTE N))).run g=some (ws.map (SV.av D.toTE N))
 |[],ws,h=>by simp only [jO,N6] at h;subst h;rfl
 |v::r,ws,h=>by
  simp only [jO] at h
  split at h
  ·rename_i x l h1 h2
   simp only [N6] at h;subst h
   simp only [Om,cO]
   rw [dq (x9 ok R h1),dq (Cr ok R h2)];rfl
  ·simp at h
variable [DecidableEq τ]
def tW (D:TD τ dn) (st:SS τ dn):SV τ dn->Option (List Prop×SV τ dn)
 | .rw t r=>x8 D st t r
 |v=>(gH D st v).map fun w=>([],w)
theorem Kh (ok:aZ D) (R:bg D N st σ g) {v w:SV τ dn} {O:List Prop} (h:tW D st v=some (O,w)) (hO:∀p,p∈O->p):(du (v.av D.toTE N)).run g=some (w.av D.toTE N):=by
 have other:∀{v:SV τ dn},((gH D st v).map fun w=>(([]:List Prop),w))=some (O,w)->(du (v.av D.toTE N)).run g=some (w.av D.toTE N):=fun h=>by
  simp only [Od,Oi] at h
  obtain ⟨c',h1,_,rfl⟩:=h
  exact x9 ok R h1
 cases v with
 |rw t r=>
  simp only [tW,x8] at h
  split at h
  ·rename_i A hA
   cases hp:D.pu t with
   |false=>rw [hp] at h;simp at h
   |true=>
    rw [hp,Ob] at h
    simp only [N6,Oi] at h
    obtain ⟨rfl,rfl⟩:=h
    simp only [Oj,Pa,or_false,PB,Ou] at hO
    cases hk:r.kd with
    |nil=>exact absurd hk hO.2
    |aU=>simp only [SV.av,hk,du,snap1,AV.pu1,Oa,RM.run,nU hk]
    |own=>
     obtain ⟨e1,e2,e3⟩:=lx R hA hO.1 hk
     have c1:(content (D.sz t) (.own r.id (D.sz t) 0 r.n)).run g=some ((r.get A).map (D.ea N.ρ t)):=by
      simp only [content,RM.run,e3,e2,On,Ox,Og,Ow,Oa,PV]
      rw [PA (by simp)]
     simp only [SV.av,hk,du,snap1]
     rw [dq c1]
     have bI:(((r.get A).map (D.ea N.ρ t)).all fun cs=>cs.all AV.pu1)=true:=by
      simp only [Oc,OE]
      rintro _ ⟨y,_,rfl⟩
      have:=ok.pu1 N t y hp
      simpa [Oc] using this
     simp only [bI,Oa,RM.run]
  ·simp at h
 |_=>exact other h
def nW (D:TD τ dn) (st:SS τ dn):List (SV τ dn)->Option (List Prop×List (SV τ dn))
 |[]=>some ([],[])
 |v::r=>match tW D st v,nW D st r with
  |some (O,x),some (O',l)=>some (O++O',x::l)
  |_,_=>none
theorem tY (ok:aZ D) (R:bg D N st σ g):∀{vs ws:List (SV τ dn)} {O:List Prop},nW D st vs=some (O,ws)->(∀p,p∈O->p)->(cO (vs.map (SV.av D.toTE N))).run g=some (ws.map (SV.av D.toTE N))
 |[],ws,O,h,hO=>by simp only [nW,N6,Oi] at h;obtain ⟨_,rfl⟩:=h;rfl
 |v::r,ws,O,h,hO=>by
  simp only [nW] at h
  split at h
  ·rename_i O1 x O2 l h1 h2
   simp only [N6,Oi] at h
   obtain ⟨rfl,rfl⟩:=h
   simp only [Om,cO]
   rw [dq (Kh ok R h1 fun p hp=>hO p (OR _ hp)),dq (tY ok R h2 fun p hp=>hO p (OO _ hp))];rfl
  ·simp at h
end
open Go.RowKit
section
variable {τ:Type} {dn:τ->Type}
inductive Pt (τ:Type) where
 |ty (t:τ)
 |ptr (t:τ)
 |pb (f:FuncId) (cs:List (Bool×τ))
abbrev CD (dn:τ->Type):List (Bool×τ)->Type
 |[]=>Unit
 |p::r=>dn p.2×CD dn r
abbrev Pt.T (dn:τ->Type):Pt τ->Type
 | .ty t=>dn t
 | .ptr t=>dn t
 | .pb _ cs=>CD dn cs
abbrev PD (dn:τ->Type):List (Pt τ)->Type
 |[]=>Unit
 |p::r=>p.T dn×PD dn r
abbrev RD (dn:τ->Type):List τ->Type
 |[]=>Unit
 |[t]=>dn t
 |t::s::r=>dn t×RD dn (s::r)
variable (D:TD τ dn) {N:aC}
def TD.en (t:τ) (x:dn t):SV τ dn:=bif D.ag t then .agg (D.es t x) else (D.es t x).headD .dead
def lE (t:τ) (v:SV τ dn):Option (dn t):=bif D.ag t then (match v with
 | .agg cs=>D.ds t cs
 |_=>none) else D.ds t [v]
def lF:(cs:List (Bool×τ))->CD dn cs->List (SV τ dn)
 |[],_=>[]
 |(false,t)::r,x=>D.en t x.1::lF r x.2
 |(true,t)::r,x=> .pim (D.es t x.1) 0::lF r x.2
def tZ (t:τ):SV τ dn->Option (dn t)
 | .pim cs 0=>bif cs.all SV.ne then D.ds t cs else none
 |_=>none
def lG:(cs:List (Bool×τ))->List (SV τ dn)->Option (CD dn cs)
 |[],[]=>some ()
 |(false,t)::r,v::l=>bif v.cells.all SV.ne then (match lE D t v,lG r l with
  |some x,some y=>some (x,y)
  |_,_=>none) else none
 |(true,t)::r,v::l=>match tZ D t v,lG r l with
  |some x,some y=>some (x,y)
  |_,_=>none
 |_,_=>none
def Pt.enc:(p:Pt τ)->p.T dn->SV τ dn
 | .ty t,x=>D.en t x
 | .ptr t,x=> .pim (D.es t x) 0
 | .pb f cs,x=> .fn f (lF D cs x)
def Pt.dec:(p:Pt τ)->SV τ dn->Option (p.T dn)
 | .ty t,v=>lE D t v
 | .ptr t,v=>tZ D t v
 | .pb f cs, .fn f' l=>bif Nat.beq f f' then lG D cs l else none
 | .pb _ _,_=>none
def lH:(ps:List (Pt τ))->PD dn ps->List (SV τ dn)
 |[],_=>[]
 |p::r,x=>p.enc D x.1::lH r x.2
def jP:(ps:List (Pt τ))->List (SV τ dn)->Option (PD dn ps)
 |[],[]=>some ()
 |p::r,v::l=>match p.dec D v,jP r l with
  |some x,some y=>some (x,y)
  |_,_=>none
 |_,_=>none
def iG:(rs:List τ)->RD dn rs->List (SV τ dn)
 |[],_=>[]
 |[t],x=>[D.en t x]
 |t::s::r,x=>D.en t x.1::iG (s::r) x.2
def ks:(rs:List τ)->List (SV τ dn)->Option (RD dn rs)
 |[],[]=>some ()
 |[t],[v]=>lE D t v
 |t::s::r,v::l=>match lE D t v,ks (s::r) l with
  |some x,some y=>some (x,y)
  |_,_=>none
 |_,_=>none
def mE:List (SV τ dn)->SV τ dn
 |[v]=>v
 |l=> .aK l
end
section
variable {τ:Type} {dn:τ->Type} {D:TD τ dn} {N:aC}
theorem Ki {l:List AV} (h:dY [a] l):∃b,l=[b]/\aP a b:=by
 cases h with
 |cons h t=>cases t;exact ⟨_,rfl,h⟩
theorem ua {t:τ} {x:dn t} (h:D.ag t=true):D.en t x= .agg (D.es t x):=by unfold TD.en;rw [h];rfl
theorem ya (ok:aZ D) {t:τ} {x:dn t} (h:D.ag t=false) {b:AV} (hb:D.ea N.ρ t x=[b]):(D.en t x).av D.toTE N=b:=by
 unfold TD.en
 rw [h,Ot]
 have:=ok.dp N t x
 rw [hb] at this
 cases he:D.es t x with
 |nil=>rw [he] at this;simp at this
 |cons v r=>rw [he] at this;simp at this;rw [List.headD_cons];exact this.1
theorem ub (ok:aZ D) {t:τ} {v:SV τ dn} {x:dn t} (h:lE D t v=some x):aP (v.av D.toTE N) ((D.en t x).av D.toTE N):=by
 unfold lE at h
 cases ha:D.ag t with
 |true=>
  rw [ha,Ob] at h
  split at h
  ·rw [ua ha,SV.av,SV.av,SV.bu,SV.bu,ok.dp]
   exact aP.agg (ok.iZ N t _ _ h)
  ·simp at h
 |false=>
  rw [ha,Ot] at h
  obtain ⟨b,hb,hle⟩:=Ki (ok.iZ N t _ _ h)
  rw [ya ok ha hb];exact hle
theorem Kj (ok:aZ D) {t:τ} {v:SV τ dn} {x:dn t} (h:lE D t v=some x) (hn:v.cells.all SV.ne=true):v.av D.toTE N=(D.en t x).av D.toTE N:=by
 unfold lE at h
 cases ha:D.ag t with
 |true=>
  rw [ha,Ob] at h
  split at h
  ·rw [ua ha,SV.av,SV.av,SV.bu,SV.bu,ok.dp,ok.qU N t _ _ h hn]
  ·simp at h
 |false=>
  rw [ha,Ot] at h
  have Kk:[v].all SV.ne=true:=by
   cases v<;>first|exact hn|rfl
  have:=ok.qU N t _ _ h Kk
  rw [ya ok ha (b:=v.av D.toTE N) this.symm]
theorem Cs (ok:aZ D) {t:τ} {v:SV τ dn} {x:dn t} (h:tZ D t v=some x):v.av D.toTE N=(SV.pim (D.es t x) 0:SV τ dn).av D.toTE N:=by
 unfold tZ at h
 split at h
 ·rename_i cs
  cases hn:cs.all SV.ne with
  |false=>rw [hn] at h;simp at h
  |true=>
   rw [hn,Ob] at h
   rw [SV.av,SV.av,SV.bu,SV.bu,ok.dp,ok.qU N t _ _ h hn]
 ·simp at h
theorem yb (ok:aZ D):∀{cs:List (Bool×τ)} {l:List (SV τ dn)} {x:CD dn cs},lG D cs l=some x->SV.cu D.toTE N l=SV.cu D.toTE N (lF D cs x)
 |[],[],x,h=>rfl
 |[],v::l,x,h=>by simp [lG] at h
 |(false,t)::r,[],x,h=>by simp [lG] at h
 |(true,t)::r,[],x,h=>by simp [lG] at h
 |(false,t)::r,v::l,x,h=>by
  simp only [lG] at h
  cases hn:v.cells.all SV.ne with
  |false=>rw [hn] at h;simp at h
  |true=>
   rw [hn,Ob] at h
   split at h
   ·rename_i a b h1 h2
    simp only [N6] at h;subst h
    simp only [SV.cu,lF,Kj ok h1 hn,yb ok h2]
   ·simp at h
 |(true,t)::r,v::l,x,h=>by
  simp only [lG] at h
  split at h
  ·rename_i a b h1 h2
   simp only [N6] at h;subst h
   simp only [SV.cu,lF,Cs ok h1,yb ok h2]
  ·simp at h
theorem Kl (ok:aZ D) {p:Pt τ} {v:SV τ dn} {x:p.T dn} (h:p.dec D v=some x):aP (v.av D.toTE N) ((p.enc D x).av D.toTE N):=by
 cases p with
 |ty t=>exact ub ok h
 |ptr t=>exact aP.of_eq (Cs ok h)
 |pb f cs=>
  cases v<;>simp only [Pt.dec,reduceCtorEq] at h
  rename_i f' l
  cases hb:Nat.beq f f' with
  |false=>rw [hb] at h;simp at h
  |true=>
   rw [hb,Ob] at h
   have:=Ol hb
   subst this
   exact aP.of_eq (by simp only [SV.av,Pt.enc,yb ok h])
theorem uc (ok:aZ D):∀{ps:List (Pt τ)} {l:List (SV τ dn)} {x:PD dn ps},jP D ps l=some x->dY (l.map (SV.av D.toTE N)) ((lH D ps x).map (SV.av D.toTE N))
 |[],[],x,h=> .nil
 |[],v::l,x,h=>by simp [jP] at h
 |p::r,[],x,h=>by simp [jP] at h
 |p::r,v::l,x,h=>by
  simp only [jP] at h
  split at h
  ·rename_i a b h1 h2
   simp only [N6] at h;subst h
   exact .cons (Kl ok h1) (uc ok h2)
  ·simp at h
theorem Cu (ok:aZ D):∀{rs:List τ} {l:List (SV τ dn)} {x:RD dn rs},ks D rs l=some x->dY (l.map (SV.av D.toTE N)) ((iG D rs x).map (SV.av D.toTE N))
 |[],[],x,h=> .nil
 |[],v::l,x,h=>by simp [ks] at h
 |[t],[],x,h=>by simp [ks] at h
 |[t],[v],x,h=> .cons (ub ok h) .nil
 |[t],v::w::l,x,h=>by simp [ks] at h
 |t::s::r,[],x,h=>by simp [ks] at h
 |t::s::r,v::l,x,h=>by
  simp only [ks] at h
  split at h
  ·rename_i a b h1 h2
   simp only [N6] at h;subst h
   exact .cons (ub ok h1) (Cu ok h2)
  ·simp at h
theorem ud (l:List (SV τ dn)):(mE l).av D.toTE N=kS (l.map (SV.av D.toTE N)):=by
 match l with
 |[]=>rfl
 |[v]=>rfl
 |v::w::r=>simp only [mE,SV.av,SV.bu];rfl
theorem Km {a b:List AV} (h:dY a b):aP (kS a) (kS b):=by
 cases h with
 |nil=>exact aP.refl
 |cons h t=>
  cases t with
  |nil=>exact h
  |cons h2 t2=>exact aP.aK (.cons h (.cons h2 t2))
def SV.yc:SV τ dn->Bool
 | .vi _| .vn _| .vy _| .vu _| .vw _ _| .vb _| .vt _| .vz _| .vo _=>true
 |_=>false
theorem Kn {E:TE τ dn} {N:aC} {v:SV τ dn} (h:v.yc=true):(v.av E N).de=true:=by
 cases v<;>simp [SV.yc] at h<;>simp [SV.av,AV.de]
structure dr (τ:Type) (dn:τ->Type) where
 f:FuncId
 ps:List (Pt τ)
 pre:PD dn ps->Prop
 rs:List τ
 res:PD dn ps->RD dn rs
def dr.val (D:TD τ dn) (c:dr τ dn) (x:PD dn c.ps):SV τ dn:=mE (iG D c.rs (c.res x))
def dr.Ok (P:Program) (D:TD τ dn) (c:dr τ dn):Prop:=bH P c.f=true/\∀(x:PD dn c.ps) (N:aC),c.pre x->Fn P c.f ((lH D c.ps x).map (SV.av D.toTE N)) ((c.val D x).av D.toTE N)
theorem Ko {bq:List AV} {sz:Nat} {els:List (List AV)} (h:Fo P f as_ sz els) (ha:dY bq as_):Fo P f bq sz els:=fun w J vs hJ hG bF=>
 h w J vs hJ hG ⟨bF.1.trans ha.get.1,fun i u c hu hc=>let ⟨a,h1,h2⟩:=ha.get.2 i c hc;h2 _ _ (bF.2 i u a hu h1)⟩
structure jc (τ:Type) (dn:τ->Type) where
 f:FuncId
 ps:List (Pt τ)
 pre:PD dn ps->Prop
 t:τ
 res:PD dn ps->List (dn t)
def jc.Ok (P:Program) (D:TD τ dn) (c:jc τ dn):Prop:=(bH P c.f=true/\∀x:dn c.t,(D.es c.t x).all (fun v=>v.yc)=true)/\∀(x:PD dn c.ps) (N:aC),c.pre x->Fo P c.f ((lH D c.ps x).map (SV.av D.toTE N)) (D.sz c.t) ((c.res x).map (D.ea N.ρ c.t))
end
open Go.RowKit
def AV.bz:AV->List Nat
 | .own id _ _ _| .ref id _ _ _| .mp id=>[id]
 |_=>[]
def AO.refs (ρ:Arg->AV):AO->List Nat
 | .load _ x| .nilc x| .fad _ x| .len _ x| .isn _ _ x| .clr _ x| .b2s x=>(ρ x).bz
 | .store _ x _| .iad _ x _| .iap _ _ x _| .slc _ x _ _ _| .mup _ x _ _| .mlk _ _ x _=>(ρ x).bz
 | .app _ _ s x=>(ρ x).bz++(ρ s).bz
 | .cpy _ x y=>(ρ y).bz++(ρ x).bz
 |_=>[]
theorem jd {x:Option α}:(RM.opt x).acc g=[]/\(RM.opt x).see g=[]:=by cases x<;>exact ⟨rfl,rfl⟩
theorem ib {α β:Type} {g:Nat->Option Bk} {f:α->RM β} {L:List Nat}:∀(m:RM α),(∀id,id∈m.acc g++m.see g->id∈L)->(∀a id,id∈(f a).acc g++(f a).see g->id∈L)->∀id,id∈(m.bind f).acc g++(m.bind f).see g->id∈L
 | .ret a,_,h2,id,h=>h2 a id h
 | .fail,_,_,id,h=>by simp [RM.bind,RM.acc,RM.see] at h
 | .rd i k,h1,h2,id,h=>by
  cases hg:g i with
  |none=>
   simp only [RM.bind,RM.acc,RM.see,hg,List.append_nil,Of] at h
   exact h1 id (by simp [RM.acc,hg,h])
  |some B=>
   simp only [RM.bind,RM.acc,RM.see,hg,Ps,Oj] at h
   rcases h with h|h
   ·exact h1 id (by simp [RM.acc,hg,h])
   ·exact ib (k B) (fun j hj=>h1 j (by simp only [RM.acc,RM.see,hg,Ps,Oj];exact .inr hj)) h2 id h
 | .lv i k,h1,h2,id,h=>by
  simp only [RM.bind,RM.acc,RM.see,OM,Oj] at h
  rcases h with h|h|h
  ·exact ib k (fun j hj=>h1 j (by simp only [RM.acc,RM.see,OM,Oj] at hj ⊢; rcases hj with hj|hj<;>simp [hj])) h2 id (OR _ h)
  ·exact h1 id (by simp [RM.see,h])
  ·exact ib k (fun j hj=>h1 j (by simp only [RM.acc,RM.see,OM,Oj] at hj ⊢; rcases hj with hj|hj<;>simp [hj])) h2 id (OO _ h)
theorem ue {sz:Nat}:∀id,id∈(content sz a).acc g++(content sz a).see g->id∈a.bz:=by
 intro id h
 cases a<;>simp only [content] at h
 case own i s off n=>
  cases hg:g i with
  |none=>simp [RM.acc,RM.see,hg] at h;simp [AV.bz,h]
  |some B=>
   simp only [RM.acc,RM.see,hg] at h
   split at h<;>(simp [RM.acc,RM.see] at h;simp [AV.bz,h])
 all_goals first
  |(split at h<;>simp [RM.acc,RM.see] at h)
  |(simp [RM.acc,RM.see] at h)
theorem ug {k:Nat} {ρ:Arg->AV}:∀id,id∈(ao.au k ρ).acc g++(ao.au k ρ).see g->id∈ao.refs ρ:=by
 intro id h
 have no:∀{x:Option Out},id∈(RM.opt x).acc g++(RM.opt x).see g->False:=fun {x} h=>by rw [jd.1,jd.2] at h;simp at h
 have nr:∀{x:Out},id∈(RM.ret x).acc g++(RM.ret x).see g->False:=fun {x} h=>by simp [RM.acc,RM.see] at h
 have nf:id∈(RM.fail:RM Out).acc g++(RM.fail:RM Out).see g->False:=fun h=>by simp [RM.acc,RM.see] at h
 cases ao<;>simp only [AO.au] at h<;>simp only [AO.refs]
 case b2s x=>
  refine ib (L:=(ρ x).bz) _ (fun j hj=>ue j hj) (fun ys j hj=> ?_) id h
  rw [jd.1,jd.2] at hj;simp at hj
 case app sz by_ s x=>
  refine ib (L:=(ρ x).bz++(ρ s).bz) _ (fun j hj=>OR _ (ue j hj)) (fun ys j hj=> ?_) id h
  cases hs:ρ s<;>rw [hs] at hj<;>simp only at hj
  case own i q off n=>
   cases hg:g i with
   |none=>simp [RM.acc,RM.see,hg] at hj;simp [AV.bz,hj]
   |some B=>
    simp only [RM.acc,RM.see,hg] at hj
    split at hj
    ·simp [RM.acc,RM.see] at hj;simp [AV.bz,hj]
    ·split at hj<;>(simp [RM.acc,RM.see] at hj;simp [AV.bz,hj])
  all_goals first
   |(split at hj<;>simp [RM.acc,RM.see] at hj)
   |(simp [RM.acc,RM.see] at hj)
 case cpy sz x y=>
  refine ib (L:=(ρ y).bz++(ρ x).bz) _ (fun j hj=>OR _ (ue j hj)) (fun ys j hj=> ?_) id h
  cases hs:ρ x<;>rw [hs] at hj<;>simp only at hj
  case own i q off n=>
   cases hg:g i with
   |none=>simp [RM.acc,RM.see,hg] at hj;simp [AV.bz,hj]
   |some B=>
    simp only [RM.acc,RM.see,hg] at hj
    split at hj<;>(simp [RM.acc,RM.see] at hj;simp [AV.bz,hj])
  all_goals (simp [RM.acc,RM.see] at hj)
 case load m x=>
  cases hs:ρ x<;>rw [hs] at h<;>simp only at h
  case ref i q a b=>
   cases hg:g i with
   |none=>simp [RM.acc,RM.see,hg] at h;simp [AV.bz,h]
   |some B=>
    simp only [RM.acc,RM.see,hg] at h
    split at h
    ·rw [jd.1,jd.2] at h;simpa [AV.bz] using h
    ·simp [RM.acc,RM.see] at h;simp [AV.bz,h]
  all_goals first|exact (no h).elim|exact (nf h).elim
 case store n x y=>
  cases hs:ρ x<;>rw [hs] at h<;>simp only at h
  case ref i q a b=>
   cases hg:g i with
   |none=>simp [RM.acc,RM.see,hg] at h;simp [AV.bz,h]
   |some B=>
    simp only [RM.acc,RM.see,hg] at h
    split at h
    ·split at h<;>(simp [RM.acc,RM.see] at h;simp [AV.bz,h])
    ·simp [RM.acc,RM.see] at h;simp [AV.bz,h]
  all_goals exact (nf h).elim
 case slc sz x lo hi mx=>
  split at h
  ·rename_i jH aN mx' _ _ _
   cases hs:ρ x<;>rw [hs] at h<;>simp only at h
   case own i q off n=>
    cases mx' with
    |none=>
     simp only at h
     split at h
     ·split at h
      ·simp [RM.acc,RM.see] at h;simp [AV.bz,h]
      ·cases hg:g i with
       |none=>simp [RM.acc,RM.see,hg] at h;simp [AV.bz,h]
       |some B=>
        simp only [RM.acc,RM.see,hg] at h
        split at h
        ·rw [jd.1,jd.2] at h;simpa [AV.bz] using h
        ·simp [RM.acc,RM.see] at h;simp [AV.bz,h]
      ·simp [RM.acc,RM.see] at h;simp [AV.bz,h]
     ·simp [RM.acc,RM.see] at h;simp [AV.bz,h]
    |some m=>
     simp only at h
     cases hg:g i with
     |none=>simp [RM.acc,RM.see,hg] at h;simp [AV.bz,h]
     |some B=>
      simp only [RM.acc,RM.see,hg] at h
      split at h
      ·rw [jd.1,jd.2] at h;simpa [AV.bz] using h
      ·simp [RM.acc,RM.see] at h;simp [AV.bz,h]
   all_goals first
    |exact (no h).elim
    |exact (nf h).elim
    |(split at h<;>first|exact (no h).elim|exact (nf h).elim)
  ·exact (nf h).elim
 case mup kd x k y=>
  split at h
  ·rename_i i k' hx hk
   cases hg:g i with
   |none=>simp [RM.acc,RM.see,hg] at h;simp [AV.bz,hx,h]
   |some B=>
    simp only [RM.acc,RM.see,hg] at h
    split at h
    ·split at h<;>(simp [RM.acc,RM.see] at h;simp [AV.bz,hx,h])
    ·simp [RM.acc,RM.see] at h;simp [AV.bz,hx,h]
  ·exact (nf h).elim
 case mlk kd z x k=>
  split at h
  ·rename_i i k' hx hk
   cases hg:g i with
   |none=>simp [RM.acc,RM.see,hg] at h;simp [AV.bz,hx,h]
   |some B=>
    simp only [RM.acc,RM.see,hg] at h
    split at h
    ·rw [jd.1,jd.2] at h;simpa [AV.bz,hx] using h
    ·simp [RM.acc,RM.see] at h;simp [AV.bz,hx,h]
  ·exact (nf h).elim
 case clr zs x=>
  cases hs:ρ x<;>rw [hs] at h<;>simp only at h
  case own i q off n=>
   cases hg:g i with
   |none=>simp [RM.acc,RM.see,hg] at h;simp [AV.bz,h]
   |some B=>
    simp only [RM.acc,RM.see,hg] at h
    split at h<;>(simp [RM.acc,RM.see] at h;simp [AV.bz,h])
  all_goals first|exact (nr h).elim|exact (nf h).elim
 case len s x=>
  cases s<;>simp only [AO.au] at h<;>cases hs:ρ x<;>rw [hs] at h<;>(try simp only at h)
  all_goals first
   |exact (nr h).elim
   |exact (nf h).elim
   |(split at h<;>first|exact (nr h).elim|exact (nf h).elim)
   |(simp [RM.acc,RM.see] at h;simp [AV.bz,h];done)
   |(split at h<;>first|exact (nr h).elim|exact (nf h).elim|(exfalso;simp_all;done))
 case isn kd neg x=>
  cases kd<;>simp only [AO.au] at h<;>cases hs:ρ x<;>rw [hs] at h<;>(try simp only at h)
  all_goals first
   |exact (nr h).elim
   |exact (nf h).elim
   |(split at h<;>first|exact (nr h).elim|exact (nf h).elim)
   |(simp [RM.acc,RM.see] at h;simp [AV.bz,h];done)
   |(split at h<;>first|exact (nr h).elim|exact (nf h).elim|(exfalso;simp_all;done))
 all_goals repeat' split at h
 all_goals first
  |exact (nr h).elim
  |exact (nf h).elim
  |exact (no h).elim
  |(simp [RM.acc,RM.see] at h;simp [AV.bz, *];done)
theorem Cv:∀id,id∈(snap1 a).acc g++(snap1 a).see g->id∈a.bS:=by
 intro id h
 cases a<;>simp only [snap1] at h
 case own i s off n=>
  refine ib (L:=[i]) _ (fun j hj=> ?_) (fun els j hj=> ?_) id h
  ·have:=ue j hj;simpa [AV.bz] using this
  ·split at hj<;>simp [RM.acc,RM.see] at hj
 case ref i s a b=>
  cases hg:g i with
  |none=>simp [RM.acc,RM.see,hg] at h;simp [AV.bS,h]
  |some B=>
   simp only [RM.acc,RM.see,hg] at h
   split at h
   ·split at h
    ·split at h<;>(simp [RM.acc,RM.see] at h;simp [AV.bS,h])
    ·simp [RM.acc,RM.see] at h;simp [AV.bS,h]
   ·simp [RM.acc,RM.see] at h;simp [AV.bS,h]
 all_goals (split at h<;>simp [RM.acc,RM.see] at h)
theorem uh {g:Nat->Option Bk}:∀{l:List AV},∀id,id∈(gu l).acc g++(gu l).see g->id∈l.flatMap AV.bS
 |[],id,h=>by simp [gu,RM.acc,RM.see] at h
 |a::r,id,h=>by
  simp only [gu] at h
  refine ib (L:=(a::r).flatMap AV.bS) _ (fun j hj=> ?_) (fun x j hj=> ?_) id h
  ·rw [O5];exact OR _ (Cv j hj)
  ·refine ib (L:=(a::r).flatMap AV.bS) _ (fun j hj=> ?_) (fun x j hj=> ?_) j hj
   ·rw [O5];exact OO _ (uh j hj)
   ·simp [RM.acc,RM.see] at hj
theorem Kq:∀id,id∈(du a).acc g++(du a).see g->id∈a.ids:=by
 intro id h
 cases a<;>simp only [du] at h
 case agg cs=>exact ib (L:=cs.flatMap AV.bS) _ uh (fun x j hj=>by simp [RM.acc,RM.see] at hj) id h
 case fn f cs=>exact ib (L:=cs.flatMap AV.bS) _ uh (fun x j hj=>by simp [RM.acc,RM.see] at hj) id h
 case bf f cs=>exact ib (L:=cs.flatMap AV.bS) _ uh (fun x j hj=>by simp [RM.acc,RM.see] at hj) id h
 all_goals exact Cv id h
theorem ui {g:Nat->Option Bk}:∀{l:List AV},∀id,id∈(cO l).acc g++(cO l).see g->id∈l.flatMap AV.ids
 |[],id,h=>by simp [cO,RM.acc,RM.see] at h
 |a::r,id,h=>by
  simp only [cO] at h
  refine ib (L:=(a::r).flatMap AV.ids) _ (fun j hj=> ?_) (fun x j hj=> ?_) id h
  ·rw [O5];exact OR _ (Kq j hj)
  ·refine ib (L:=(a::r).flatMap AV.ids) _ (fun j hj=> ?_) (fun x j hj=> ?_) j hj
   ·rw [O5];exact OO _ (ui j hj)
   ·simp [RM.acc,RM.see] at hj
section
variable {τ:Type} {dn:τ->Type} {D:TD τ dn} {N:aC} {st:SS τ dn} {σ:Nat->AV} {g:Nat->Option Bk}
def SV.nr:SV τ dn->List Nat
 | .own nm _| .part nm _ _ _| .ref nm _ _ _| .mp nm=>[nm]
 | .rw _ _| .cQ _ _ _ _=>[0]
 |_=>[]
def SV.n1:SV τ dn->List Nat
 | .own nm _| .part nm _ _ _| .ref nm _ _ _=>[nm]
 | .rw _ _| .cQ _ _ _ _=>[0]
 |_=>[]
def SV.nms:SV τ dn->List Nat
 | .agg cs=>cs.flatMap SV.n1
 | .fn _ cs=>cs.flatMap SV.n1
 | .bf _ cs=>cs.flatMap SV.n1
 |a=>a.n1
def SV.gI:SV τ dn->Bool
 | .rw _ _| .cQ _ _ _ _| .vg _ _ _=>false
 |_=>true
def SV.pl:SV τ dn->Bool
 | .agg cs| .fn _ cs| .bf _ cs=>cs.all SV.gI
 |a=>a.gI
theorem Kr:∀(v:SV τ dn) (id:Nat),v.gI=true->id∈(v.av D.toTE N).bz->∃nm,nm∈v.nr/\id=N.ι nm
 | .vg p c v,id,hp,h| .rw _ _,id,hp,h| .cQ _ _ _ _,id,hp,h=>by simp [SV.gI] at hp
 | .own nm _,id,hp,h| .part nm _ _ _,id,hp,h| .ref nm _ _ _,id,hp,h| .mp nm,id,hp,h=>by
  simp only [SV.av,AV.bz,Of] at h;exact ⟨nm,by simp [SV.nr],h⟩
 | .vi _,id,hp,h| .vn _,id,hp,h| .vy _,id,hp,h| .vu _,id,hp,h| .vw _ _,id,hp,h| .vb _,id,hp,h| .vt _,id,hp,h| .vz _,id,hp,h| .vo _,id,hp,h| .agg _,id,hp,h| .aK _,id,hp,h| .vl _ _,id,hp,h| .vc _ _,id,hp,h| .emp,id,hp,h| .pim _ _,id,hp,h| .fn _ _,id,hp,h| .bf _ _,id,hp,h| .dead,id,hp,h=>by simp [SV.av,AV.bz] at h
theorem Ks:∀(v:SV τ dn) (id:Nat),v.gI=true->id∈(v.av D.toTE N).bS->∃nm,nm∈v.n1/\id=N.ι nm
 | .vg p c v,id,hp,h| .rw _ _,id,hp,h| .cQ _ _ _ _,id,hp,h=>by simp [SV.gI] at hp
 | .own nm _,id,hp,h| .part nm _ _ _,id,hp,h| .ref nm _ _ _,id,hp,h=>by
  simp only [SV.av,AV.bS,Of] at h;exact ⟨nm,by simp [SV.n1],h⟩
 | .vi _,id,hp,h| .vn _,id,hp,h| .vy _,id,hp,h| .vu _,id,hp,h| .vw _ _,id,hp,h| .vb _,id,hp,h| .vt _,id,hp,h| .vz _,id,hp,h| .vo _,id,hp,h| .agg _,id,hp,h| .aK _,id,hp,h| .vl _ _,id,hp,h| .vc _ _,id,hp,h| .emp,id,hp,h| .pim _ _,id,hp,h| .fn _ _,id,hp,h| .bf _ _,id,hp,h| .dead,id,hp,h| .mp _,id,hp,h=>by simp [SV.av,AV.bS] at h
theorem Kt {cs:List (SV τ dn)} {id:Nat} (hp:cs.all SV.gI=true) (h:id∈(SV.cu D.toTE N cs).flatMap AV.bS):∃nm,nm∈cs.flatMap SV.n1/\id=N.ι nm:=by
 rw [SV.bu] at h
 simp only [List.mem_flatMap,OE] at h
 obtain ⟨_,⟨v,hv,rfl⟩,h⟩:=h
 obtain ⟨nm,h1,h2⟩:=Ks v id (Oc.1 hp v hv) h
 exact ⟨nm,List.mem_flatMap.2 ⟨v,hv,h1⟩,h2⟩
theorem Ku:∀(v:SV τ dn) (id:Nat),v.pl=true->id∈(v.av D.toTE N).ids->∃nm,nm∈v.nms/\id=N.ι nm
 | .vg p c v,id,hp,h| .rw _ _,id,hp,h| .cQ _ _ _ _,id,hp,h=>by simp [SV.pl,SV.gI] at hp
 | .agg cs,id,hp,h| .fn _ cs,id,hp,h| .bf _ cs,id,hp,h=>by simp only [SV.av,AV.ids] at h;exact Kt hp h
 | .own nm _,id,hp,h| .part nm _ _ _,id,hp,h| .ref nm _ _ _,id,hp,h=>by
  simp only [SV.av,AV.ids,AV.bS,Of] at h;exact ⟨nm,by simp [SV.nms,SV.n1],h⟩
 | .vi _,id,hp,h| .vn _,id,hp,h| .vy _,id,hp,h| .vu _,id,hp,h| .vw _ _,id,hp,h| .vb _,id,hp,h| .vt _,id,hp,h| .vz _,id,hp,h| .vo _,id,hp,h| .aK _,id,hp,h| .vl _ _,id,hp,h| .vc _ _,id,hp,h| .emp,id,hp,h| .pim _ _,id,hp,h| .dead,id,hp,h| .mp _,id,hp,h=>by simp [SV.av,AV.ids,AV.bS] at h
theorem Kv {v w:SV τ dn} (h:snap1S D st v=some w):v.gI=true:=by
 cases v<;>first|rfl|(simp [snap1S,SV.pu1] at h)
theorem Cw:∀{vs ws:List (SV τ dn)},lD D st vs=some ws->vs.all SV.gI=true
 |[],ws,h=>rfl
 |v::r,ws,h=>by
  simp only [lD] at h
  split at h
  ·rename_i x l h1 h2
   rw [PJ,Kv h1,Cw h2];rfl
  ·simp at h
theorem Kw {v w:SV τ dn} (h:gH D st v=some w):v.pl=true:=by
 cases v with
 |agg cs|fn f cs|bf f cs=>
  simp only [gH,Od] at h;obtain ⟨l,hl,rfl⟩:=h
  exact Cw hl
 |_=>first|rfl|(simp [gH,snap1S,SV.pu1] at h)
def gJ (st:SS τ dn) (id:Nat):Prop:=∃t A,st.gm 0=some (.ar t A)/\dw A id
theorem rF [DecidableEq τ]:∀{vs ws:List (SV τ dn)} {O:List Prop},nW D st vs=some (O,ws)->(∀p,p∈O->p)->∀id,id∈(vs.map (SV.av D.toTE N)).flatMap AV.ids->∃nm,nm∈vs.flatMap SV.nms/\(id=N.ι nm\/(nm=0/\gJ st id))
 |[],ws,O,h,hO,id,hid=>by simp at hid
 |v::r,ws,O,h,hO,id,hid=>by
  simp only [nW] at h
  split at h
  ·rename_i O1 x O2 l h1 h2
   simp only [N6,Oi] at h
   obtain ⟨rfl,rfl⟩:=h
   simp only [Om,O5,OM] at hid ⊢
   rcases hid with hid|hid
   ·have other:((gH D st v).map fun w=>(([]:List Prop),w))=some (O1,x)->∃nm,(nm∈v.nms\/nm∈r.flatMap SV.nms)/\(id=N.ι nm\/(nm=0/\gJ st id)):=fun h=>by
     simp only [Od,Oi] at h
     obtain ⟨c',h3,_,rfl⟩:=h
     obtain ⟨nm,q1,q2⟩:=Ku v id (Kw h3) hid
     exact ⟨nm, .inl q1, .inl q2⟩
    cases v with
    |rw t q=>
     refine ⟨0, .inl (by simp [SV.nms,SV.n1]), .inr ⟨rfl, ?_⟩⟩
     simp only [tW,x8] at h1
     split at h1
     ·rename_i A hA
      cases hp:D.pu t with
      |false=>rw [hp] at h1;simp at h1
      |true=>
       rw [hp,Ob] at h1
       simp only [N6,Oi] at h1
       obtain ⟨rfl,rfl⟩:=h1
       have hq:q.ok A:=hO _ (by simp)
       cases hk:q.kd with
       |nil=>simp [SV.av,hk,AV.ids,AV.bS] at hid
       |aU=>simp [SV.av,hk,AV.ids,AV.bS] at hid
       |own=>
        simp only [SV.av,hk,AV.ids,AV.bS,Of] at hid
        unfold Row.ok at hq
        rw [hk] at hq
        exact ⟨t,A,mA hA,hid▸hq.1⟩
     ·simp at h1
    |_=>exact other h1
   ·obtain ⟨nm,q1,q2⟩:=rF h2 (fun p hp=>hO p (OO _ hp)) id hid
    exact ⟨nm, .inr q1,q2⟩
  ·simp at h
def SV.mF (v:SV τ dn):Bool:=v.gI
def SV.nvg:SV τ dn->Bool
 | .agg cs| .fn _ cs| .bf _ cs=>cs.all SV.mF
 |a=>a.mF
theorem Kx {v:SV τ dn} (h:v.mF=true):(v.av D.toTE N).bS=v.n1.map N.ι:=by
 cases v<;>simp [SV.mF,SV.gI] at h<;>simp [SV.av,AV.bS,SV.n1]
theorem uj:∀{cs:List (SV τ dn)},cs.all SV.mF=true->(cs.map (SV.av D.toTE N)).flatMap AV.bS=(cs.flatMap SV.n1).map N.ι
 |[],_=>rfl
 |v::r,h=>by
  rw [PJ,N9] at h
  rw [Om,O5,O5,O9,Kx h.1,uj h.2]
theorem Ky {v:SV τ dn} (h:v.nvg=true):(v.av D.toTE N).ids=v.nms.map N.ι:=by
 cases v with
 |agg cs=>simp only [SV.av,AV.ids,SV.nms,SV.bu];exact uj h
 |fn f cs=>simp only [SV.av,AV.ids,SV.nms,SV.bu];exact uj h
 |bf f cs=>simp only [SV.av,AV.ids,SV.nms,SV.bu];exact uj h
 |vg p c v=>simp [SV.nvg,SV.mF,SV.gI] at h
 |rw t r=>simp [SV.nvg,SV.mF,SV.gI] at h
 |cQ t r i o=>simp [SV.nvg,SV.mF,SV.gI] at h
 |_=>simp [SV.av,AV.ids,AV.bS,SV.nms,SV.n1]
theorem Cx:∀{vs:List (SV τ dn)},vs.all SV.nvg=true->(vs.map (SV.av D.toTE N)).flatMap AV.ids=(vs.flatMap SV.nms).map N.ι
 |[],_=>rfl
 |v::r,h=>by
  rw [PJ,N9] at h
  rw [Om,O5,O5,O9,Ky h.1,Cx h.2]
def SV.pc:SV τ dn->Bool
 | .vl _ _=>true
 |_=>false
def SV.pe:SV τ dn->Bool
 | .agg cs=>cs.any SV.pc
 |a=>a.pc
def SV.lb:SV τ dn->Bool
 | .aK vs=>vs.any SV.pe
 |a=>a.pe
theorem Kz {v:SV τ dn} (h:v.pc=true):(v.av D.toTE N).de=false:=by
 cases v<;>simp [SV.pc] at h<;>rfl
theorem Cy {v:SV τ dn} (h:v.pe=true):(v.av D.toTE N).dA=false:=by
 cases v with
 |agg cs=>
  simp only [SV.pe,PU] at h
  obtain ⟨c,hc,h⟩:=h
  simp only [SV.av,AV.dA,SV.bu]
  rw [P1];intro hh
  rw [Oc] at hh
  have:=hh _ (List.mem_map_of_mem hc)
  rw [Kz h] at this;simp at this
 |vl t xs=>rfl
 |_=>simp [SV.pe,SV.pc] at h
theorem KA {v:SV τ dn} (h:v.lb=true):(v.av D.toTE N).nob=false:=by
 cases v with
 |aK cs=>
  simp only [SV.lb,PU] at h
  obtain ⟨c,hc,h⟩:=h
  simp only [SV.av,AV.nob,SV.bu]
  rw [P1];intro hh
  rw [Oc] at hh
  have:=hh _ (List.mem_map_of_mem hc)
  rw [Cy h] at this;simp at this
 |agg cs=>exact Cy (v:= .agg cs) h
 |vl t xs=>rfl
 |_=>simp [SV.lb,SV.pe,SV.pc] at h
def SS.nr (st:SS τ dn) (x:Arg):List Nat:=match st.ev x with
 |some v=>v.nr
 |none=>[]
def AO.nrs (st:SS τ dn):AO->List Nat
 | .load _ x| .nilc x| .fad _ x| .len _ x| .isn _ _ x| .clr _ x| .b2s x=>st.nr x
 | .store _ x _| .iad _ x _| .iap _ _ x _| .slc _ x _ _ _| .mup _ x _ _| .mlk _ _ x _=>st.nr x
 | .app _ _ s x=>st.nr x++st.nr s
 | .cpy _ x y=>st.nr y++st.nr x
 |_=>[]
def AO.kn (st:SS τ dn):AO->Bool
 | .load _ x| .nilc x| .fad _ x| .len _ x| .isn _ _ x| .clr _ x| .b2s x=>(st.ev x).isSome
 | .store _ x _| .iad _ x _| .iap _ _ x _| .slc _ x _ _ _| .mup _ x _ _| .mlk _ _ x _=>(st.ev x).isSome
 | .app _ _ s x=>(st.ev x).isSome&&(st.ev s).isSome
 | .cpy _ x y=>(st.ev y).isSome&&(st.ev x).isSome
 |_=>true
def SS.ngd (st:SS τ dn) (x:Arg):Bool:=match st.ev x with
 |some (.vg _ _ _)=>false
 |_=>true
theorem KB (R:bg D N st σ g) {k:Nat} (hk:ao.kn st=true) (hg:ao.lk.all st.ngd=true) (hrow:∀x,x∈ao.lk->∀v,st.ev x=some v->v.isRw=true->∀id,id∈(v.av D.toTE N).bz->gJ st id):∀id,id∈(ao.au k (aG σ)).acc g++(ao.au k (aG σ)).see g->∃nm,nm∈ao.nrs st/\(id=N.ι nm\/(nm=0/\gJ st id)):=by
 intro id h
 have h:=ug id h
 have one:∀{x:Arg},x∈ao.lk->(st.ev x).isSome=true->id∈(aG σ x).bz->∃nm,nm∈st.nr x/\(id=N.ι nm\/(nm=0/\gJ st id)):=fun {x} hm hx h=>by
  obtain ⟨v,hv⟩:=P2.1 hx
  rw [R.ev hv] at h
  have yd:=Oc.1 hg x hm
  unfold SS.ngd at yd
  rw [hv] at yd
  have KC:st.nr x=v.nr:=by unfold SS.nr;rw [hv]
  rw [KC]
  cases hr:v.isRw with
  |true=>
   refine ⟨0, ?_, .inr ⟨rfl,hrow x hm v hv hr id h⟩⟩
   cases v<;>first|(simp [SV.isRw] at hr;done)|simp [SV.nr]
  |false=>
   obtain ⟨nm,h1,h2⟩:=Kr v id (by cases v<;>first|rfl|(simp at yd;done)|(simp [SV.isRw] at hr;done)) h
   exact ⟨nm,h1, .inl h2⟩
 cases ao<;>simp only [AO.refs] at h<;>simp only [AO.kn] at hk<;>simp only [AO.nrs]<;>first
  |exact one (by simp [AO.lk]) hk h
  |(simp at h;done)
  |skip
 ·simp only [N9] at hk
  rcases OM.1 h with h|h
  ·obtain ⟨nm,h1,h2⟩:=one (by simp [AO.lk]) hk.1 h;exact ⟨nm,OR _ h1,h2⟩
  ·obtain ⟨nm,h1,h2⟩:=one (by simp [AO.lk]) hk.2 h;exact ⟨nm,OO _ h1,h2⟩
 ·simp only [N9] at hk
  rcases OM.1 h with h|h
  ·obtain ⟨nm,h1,h2⟩:=one (by simp [AO.lk]) hk.1 h;exact ⟨nm,OR _ h1,h2⟩
  ·obtain ⟨nm,h1,h2⟩:=one (by simp [AO.lk]) hk.2 h;exact ⟨nm,OO _ h1,h2⟩
theorem KD [DecidableEq τ] {r:SR τ dn} (h:mD D st ao=some r):ao.kn st=true:=by
 cases ao<;>first
  |rfl
  |skip
 case slc sz x lo hi mx=>
  simp only [AO.kn]
  simp only [mD] at h
  cases hb:(AO.lk (.slc sz x lo hi mx)).any st.rwa with
  |true=>rw [hb,Ob] at h;simp [lu] at h
  |false=>
   rw [hb,Ot] at h
   cases mx with
   |some m=>simp [sx] at h
   |none=>
    simp only [sx] at h
    split at h
    ·rename_i a _ _ h1 _ _;rw [h1];rfl
    ·simp at h
 all_goals simp only [AO.kn]
 all_goals simp only [mD] at h
 all_goals
  cases hb:(AO.lk _).any st.rwa with
  |true=>
   rw [hb,Ob] at h
   simp only [lu] at h
   first
    |(simp at h;done)
    |(split at h<;>first|(simp at h;done)|(simp_all;done)|(split at h<;>first|(simp at h;done)|(simp_all;done)))
  |false=>
   rw [hb,Ot] at h
   simp only [sx] at h
   first
    |(simp at h;done)
    |(simp only [PE] at h;obtain ⟨_,h1,_⟩:=h;rw [h1];rfl)
    |(split at h<;>first|(simp at h;done)|(simp_all;done))
end
end Go.Proofs.Ytimomnfobfjggaa
