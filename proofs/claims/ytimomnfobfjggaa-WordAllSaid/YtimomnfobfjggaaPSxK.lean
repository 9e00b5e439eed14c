/- What functions answer, said with letters. No condition. -/
import Derived.WalkKit
import Derived.Lib.Hide
import Derived.Lib.QuietBelow
import Derived.BigQuiet
import Derived.Deep.Slices
import Derived.Below
import Derived.ShutString
import Derived.OpenShut
import Derived.SizedLaws
import Derived.Deep.OwnRows
import Derived.Test.YtimomnfobfjggaaPAvRng
import Derived.Laws.Bits64
set_option linter.unusedSimpArgs false
set_option linter.unusedVariables false
namespace Go.Proofs.Ytimomnfobfjggaa
variable {ao:AO} {x y:Arg} {op:BinOp} {neg b l:Bool} {s:ByteArray} {f:FuncId} {a c:Int} {k:IntKind} {as_:List AV} {vs:List Value} {kd:NK} {n j nm i o:Nat} {σ:Nat->AV} {lo hi:Option Int} {m d:Option Nat} {P:Program} {α τ:Type} {t e:TypeId} {R:Value->AV->Prop} {w:World} {A:List (Nat×List α)} {dn:τ->Type}
open Go.RowKit Go.Sort
abbrev O3:=@forall_eq
abbrev O5:=@and_self
abbrev Pw:=@List.map_nil
abbrev PM:=@List.not_mem_nil
abbrev P4:=@Bool.eq_iff_iff
abbrev P5:=@List.map_set
abbrev Qb:=@forall_eq_or_imp
abbrev Qc:=@Option.bind_eq_some_iff
abbrev Qj:=@BitVec.toNat_ofNat
abbrev Qk:=@List.map_map
abbrev Ql:=@Nat.lt_succ_of_lt
abbrev Qy:=@Bool.eq_false_iff
abbrev Qz:=@Nat.lt_of_le_of_lt
abbrev QG:=@Int.mul_le_mul_of_nonneg_left
abbrev B (x:UInt8):Value:= .int .u8 x.toNat
abbrev I (x:Int):Value:= .int .i64 x
theorem bt {a b:World} (h:Below w.heap.size w a) (k:Below a.heap.size a b):Below w.heap.size w b:=h.trans (k.mono h.size)
theorem Jj {n:Int} (h:(Lit.int .i64 n).wf=true): -9223372036854775808<=n/\n<=9223372036854775807:=by
 simp only [Lit.wf,OJ,PG] at h
 have h1:IntKind.i64.min= -9223372036854775808:=rfl
 have h2:IntKind.i64.max=9223372036854775807:=rfl
 omega
@[go_sem] theorem Oj {a : Addr} {d : Nat} {os : Array Obj} (h : (w.cell? a).isSome = true) : (grow (redrawn w d) os).cell? a = w.cell? a := by
 obtain ⟨v,hv⟩:=QA.1 h
 rw [hv];exact cell_regrown hv d os
theorem r2 {x:Int×Int} {b:Int} (h:x=(a,b)):Ending.returned (.tuple #[.int .i64 a, .int .i64 b])= .returned (.tuple #[.int .i64 x.1, .int .i64 x.2]):=by subst h;rfl
theorem ri {b:Int} (h:a=b):Ending.returned (.int k a)=Ending.returned (.int k b):=by rw [h]
theorem rb {a:Bool} (h:a=b):Ending.returned (.bool a)=Ending.returned (.bool b):=by rw [h]
theorem Jk {a:Bool} (h:a=true) (k:b=true):(a&&b)=true:=by rw [h,k];rfl
open Go.RowKit Go.ChangeShapes Go.WideShapes Go.Deep
class aN (α:Type) where
 size:Nat
 rep:World->Nat->List Value->α->Prop
 len:∀{w B cs x},rep w B cs x->cs.length=size
 bO:∀{w w':World} {B cs x},rep w B cs x->(∀p:Addr,p.block<B->w'.cell? p=w.cell? p)->rep w' B cs x
 more:∀{w B B' cs x},rep w B cs x->B<=B'->rep w B' cs x
instance:aN Int where
 size:=1
 rep _ _ cs x:=cs=[I x]/\ -9223372036854775808<=x/\x<=9223372036854775807
 len h:=by rw [h.1];rfl
 bO h _:=h
 more h _:=h
instance:aN UInt8 where
 size:=1
 rep _ _ cs x:=cs=[B x]
 len h:=by rw [h];rfl
 bO h _:=h
 more h _:=h
structure eo where
 n:Nat
 lt:n<18446744073709551616
instance:aN eo where
 size:=1
 rep _ _ cs x:=cs=[.int .u64 (x.n:Int)]
 len h:=by rw [h];rfl
 bO h _:=h
 more h _:=h
instance:aN Bool where
 size:=1
 rep _ _ cs x:=cs=[.bool x]
 len h:=by rw [h];rfl
 bO h _:=h
 more h _:=h
instance:aN ByteArray where
 size:=1
 rep _ _ cs x:=cs=[.string x]/\x.size<=9223372036854775807
 len h:=by rw [h.1];rfl
 bO h _:=h
 more h _:=h
instance {α β:Type} [aN α] [aN β]:aN (α×β) where
 size:=aN.size α+aN.size β
 rep w B cs x:=∃c0 c1,cs=c0++c1/\aN.rep w B c0 x.1/\aN.rep w B c1 x.2
 len:=by rintro w B cs x ⟨c0,c1,rfl,h0,h1⟩;rw [PV,aN.len h0,aN.len h1]
 bO:=by rintro w w' B cs x ⟨c0,c1,rfl,h0,h1⟩ hk;exact ⟨c0,c1,rfl,aN.bO h0 hk,aN.bO h1 hk⟩
 more:=by rintro w B B' cs x ⟨c0,c1,rfl,h0,h1⟩ hk;exact ⟨c0,c1,rfl,aN.more h0 hk,aN.more h1 hk⟩
def Jl [aN α] (w:World) (B b off:Nat) (xs:List α):Prop:=
 ∀i x,xs[i]? =some x->∃cs,aN.rep w B cs x/\∀j u,cs[j]? =some u->w.cell? ⟨b,off+i*aN.size α+j,none⟩=some u
instance {α:Type} [aN α]:aN (List α) where
 size:=1
 rep w B cs xs:=∃A n c,cs=[.slice A n c]/\n=xs.length/\n<=c/\c<=9223372036854775807/\(xs=[]\/∃b off,A=some ⟨b,off,none⟩/\b<B/\Jl w B b off xs)
 len:=by rintro w B cs x ⟨A,n,c,rfl,_⟩;rfl
 bO:=by
  rintro w w' B cs xs ⟨A,n,c,rfl,hn,hc,hm,h⟩ hk
  refine ⟨A,n,c,rfl,hn,hc,hm,h.imp id ?_⟩
  rintro ⟨b,off,hA,hb,hs⟩
  refine ⟨b,off,hA,hb,fun i x hx=> ?_⟩
  obtain ⟨cs,h1,h2⟩:=hs i x hx
  exact ⟨cs,aN.bO h1 hk,fun j u hu=>(hk _ hb).trans (h2 j u hu)⟩
 more:=by
  rintro w B B' cs xs ⟨A,n,c,rfl,hn,hc,hm,h⟩ hk
  refine ⟨A,n,c,rfl,hn,hc,hm,h.imp id ?_⟩
  rintro ⟨b,off,hA,hb,hs⟩
  refine ⟨b,off,hA,O8 hb hk,fun i x hx=> ?_⟩
  obtain ⟨cs,h1,h2⟩:=hs i x hx
  exact ⟨cs,aN.more h1 hk,h2⟩
@[reducible] def aN.via {β:Type} [aN β] (f : α -> β) : aN α where
 size:=aN.size β
 rep w B cs x:=aN.rep w B cs (f x)
 len h:=aN.len h
 bO h hk:=aN.bO h hk
 more h hk:=aN.more h hk
structure pk (P:Program) (t:TypeId) (α:Type) [aN α]:Prop where
 cells:P.cellsOf t=aN.size α
 read:∀{H:Type} {enc:TypeId×Value->H} {W:World} {base:Nat} {sp:Nat->Bool} {held:Bool} {fuel:Nat} {cs:List Value} {y:DataW H×List MemPlace},
  DataW.trod enc P W base sp held fuel t cs=some y->∃x:α,aN.rep W W.heap.size cs x
theorem Jm (hu:P.underlying t=some (.int .i64)) (hc:P.cellsOf t=1):pk P t Int where
 cells:=hc
 read h:=by
  obtain ⟨n,rfl,_,hw⟩:=DataW.trod_int hu h
  exact ⟨n,rfl,Jj hw⟩
theorem Jn (b off i:Nat):(⟨b,off,none⟩:Addr).add i=⟨b,off+i,none⟩:=by
 unfold Addr.add
 by_cases h:i=0
 ·subst h;rfl
 ·simp [h]
theorem Jo {p:Addr} {v:Value} (h:w.cell? p=some v):p.block<w.heap.size:=by
 rcases Ps p.block w.heap.size with h1|h1
 ·exact h1
 ·unfold World.cell? at h
  rw [Array.getElem?_eq_none h1] at h
  simp at h
theorem Jp [aN α] (hu:P.underlying t=some (.slice e)) (hc:P.cellsOf t=1) (he:pk P e α) (c9:0<aN.size α):pk P t (List α) where
 cells:=hc
 read:=by
  intro H enc W base sp held fuel cs y h
  rcases open_slice hu h with ⟨rfl,_⟩|⟨a,len,cap,m,n,D,Pl,rfl,hb,hl,hm,cY,_,hx⟩
  ·exact ⟨[],none,0,0,rfl,rfl,by omega,by omega, .inl rfl⟩
  ·have sM:len<=m:=by rw [cY];split<;>omega
   have eJ:∀i,i<len->∃x:α,∃cs,aN.rep W W.heap.size cs x/\∀j u,cs[j]? =some u->W.cell? (a.add (i*aN.size α+j))=some u:=by
    intro i hi
    obtain ⟨ew,h1,h2⟩:=hx i (by omega)
    obtain ⟨x,hr⟩:=he.read h2
    rw [he.cells] at h1
    obtain ⟨_,bY,qm⟩:=World.cells?_some h1
    refine ⟨x,ew,hr,fun j u hu=> ?_⟩
    have hj:j<ew.length:=(OO.1 hu).1
    have:=qm j (by omega)
    rw [Go.Deep.add_add] at this
    rw [this,hu]
   clear hx
   have wQ:∀k,k<=len->∃xs:List α,xs.length=k/\∀i x,xs[i]? =some x->∃cs,aN.rep W W.heap.size cs x/\∀j u,cs[j]? =some u->W.cell? (a.add (i*aN.size α+j))=some u:=by
    intro k
    induction k with
    |zero=>intro _;exact ⟨[],rfl,by simp⟩
    |succ k ih=>
     intro hk
     obtain ⟨xs,h1,h2⟩:=ih (by omega)
     obtain ⟨x,cs,h3,h4⟩:=eJ k (by omega)
     refine ⟨xs++[x],by simp [h1],fun i z hz=> ?_⟩
     by_cases hi:i<k
     ·rw [PB (by omega)] at hz
      exact h2 i z hz
     ·rw [PN (by omega)] at hz
      obtain ⟨lg,rfl⟩:i=k/\x=z:=by
       have:i - xs.length=0:=by
        rcases Qg (i - xs.length) with h|h
        ·exact h
        ·rw [P9 (by simp;omega)] at hz;cases hz
       rw [this] at hz
       simp at hz
       exact ⟨by omega,hz⟩
      subst lg
      exact ⟨cs,h3,h4⟩
   obtain ⟨xs,h1,h2⟩:=wQ len (OQ _)
   refine ⟨xs,some a,len,cap,rfl,h1.symm,hl,hm, ?_⟩
   by_cases h0:xs=[]
   ·exact .inl h0
   ·right
    have hp:0<xs.length:=List.length_pos_iff.2 h0
    obtain ⟨Jq,h3,h4⟩:=h2 0 xs[0] (OV hp)
    have hlen:=aN.len h3
    have h5:=h4 0 Jq[0] (OV (by omega))
    have hlt:=Jo h5
    obtain ⟨b,off,spot⟩:=a
    have xO:spot=none:=by
     have:=World.cell?_spot h5
     simpa [Addr.add] using this
    subst xO
    simp only [Jn] at h2 h5 hlt
    refine ⟨b,off,rfl,hlt,fun i x hx=> ?_⟩
    obtain ⟨cs,h6,h7⟩:=h2 i x hx
    exact ⟨cs,h6,fun j u hu=>by rw [Qe];exact h7 j u hu⟩
theorem Jr [aN α] (ho:pk P t (List α)) (hu:P.underlying t=some (.slice e)) {W:World} {r:Reach} {b0:Nat} {v:Value} {H:Type} {enc:TypeId×Value->H} {base:Nat} {sp:Nat->Bool} {held:Bool} {d:DataW H} {p:List MemPlace}
  (hv:Value.okWide P W r b0 t v) (h:DataW.Trod enc P W base sp held t v d p):∃(x:List α) (A:Option Addr) (n c:Nat),v= .slice A n c/\aN.rep W W.heap.size [.slice A n c] x:=by
 obtain ⟨A,n,c,rfl⟩:=okWide_slice hu hv
 obtain ⟨fuel,hf⟩:=h
 obtain ⟨x,hx⟩:=ho.read hf
 exact ⟨x,A,n,c,rfl,hx⟩
open Go.RowKit
@[ext] structure tH where
 nodes:Int
 data:Int
 more:Int
 nJ:Int
instance:aN tH:=aN.via (fun x=>(x.nodes,x.data,x.more,x.nJ))
@[go_sem, simp] theorem tH.eta (x : tH) : (⟨x.nodes, x.data, x.more, x.nJ⟩ : tH) = x := rfl
@[ext] structure tI where
 holder:Int
 till:Int
 token:Int
instance:aN tI:=aN.via (fun x=>(x.holder,x.till,x.token))
@[go_sem, simp] theorem tI.eta (x : tI) : (⟨x.holder, x.till, x.token⟩ : tI) = x := rfl
@[ext] structure Fence where
 seen:Int
instance:aN Fence:=aN.via (fun x=>x.seen)
@[go_sem, simp] theorem Fence.eta (x : Fence) : (⟨x.seen⟩ : Fence) = x := rfl
@[ext] structure pn where
 time:Int
 who:Int
instance:aN pn:=aN.via (fun x=>(x.time,x.who))
@[go_sem, simp] theorem pn.eta (x : pn) : (⟨x.time, x.who⟩ : pn) = x := rfl
@[ext] structure lG where
 at_:pn
 data:ByteArray
instance:aN lG:=aN.via (fun x=>(x.at_,x.data))
@[go_sem, simp] theorem lG.eta (x : lG) : (⟨x.at_, x.data⟩ : lG) = x := rfl
@[ext] structure tJ where
 level:Int
 now:Int
 burst:Int
 rate:Int
instance:aN tJ:=aN.via (fun x=>(x.level,x.now,x.burst,x.rate))
@[go_sem, simp] theorem tJ.eta (x : tJ) : (⟨x.level, x.now, x.burst, x.rate⟩ : tJ) = x := rfl
@[ext] structure Term where
 begin:Int
 end_:Int
instance:aN Term:=aN.via (fun x=>(x.begin,x.end_))
@[go_sem, simp] theorem Term.eta (x : Term) : (⟨x.begin, x.end_⟩ : Term) = x := rfl
@[ext] structure tK where
 kind:Int
 op:Int
 node:Int
 copy:lG
instance:aN tK:=aN.via (fun x=>(x.kind,x.op,x.node,x.copy))
@[go_sem, simp] theorem tK.eta (x : tK) : (⟨x.kind, x.op, x.node, x.copy⟩ : tK) = x := rfl
@[ext] structure tL where
 no:Int
 members:eo
instance:aN tL:=aN.via (fun x=>(x.no,x.members))
@[go_sem, simp] theorem tL.eta (x : tL) : (⟨x.no, x.members⟩ : tL) = x := rfl
@[ext] structure tM where
 block:Int
 data:ByteArray
instance:aN tM:=aN.via (fun x=>(x.block,x.data))
@[go_sem, simp] theorem tM.eta (x : tM) : (⟨x.block, x.data⟩ : tM) = x := rfl
@[ext] structure Act where
 kind:Int
 n:Int
 data:ByteArray
instance:aN Act:=aN.via (fun x=>(x.kind,x.n,x.data))
@[go_sem, simp] theorem Act.eta (x : Act) : (⟨x.kind, x.n, x.data⟩ : Act) = x := rfl
@[ext] structure tO where
 kind:Int
 bid:Int
 node:Int
 copy:lG
instance:aN tO:=aN.via (fun x=>(x.kind,x.bid,x.node,x.copy))
@[go_sem, simp] theorem tO.eta (x : tO) : (⟨x.kind, x.bid, x.node, x.copy⟩ : tO) = x := rfl
@[ext] structure tP where
 promised:pn
 kept:lG
instance:aN tP:=aN.via (fun x=>(x.promised,x.kept))
@[go_sem, simp] theorem tP.eta (x : tP) : (⟨x.promised, x.kept⟩ : tP) = x := rfl
@[ext] structure tQ where
 time:Int
 phase:Int
 own:ByteArray
 value:ByteArray
 best:lG
 heard:eo
instance:aN tQ:=aN.via (fun x=>(x.time,x.phase,x.own,x.value,x.best,x.heard))
@[go_sem, simp] theorem tQ.eta (x : tQ) : (⟨x.time, x.phase, x.own, x.value, x.best, x.heard⟩ : tQ) = x := rfl
@[ext] structure Ask where
 op:Int
 kind:Int
 phase:Int
 data:ByteArray
 best:lG
 heard:eo
instance:aN Ask:=aN.via (fun x=>(x.op,x.kind,x.phase,x.data,x.best,x.heard))
@[go_sem, simp] theorem Ask.eta (x : Ask) : (⟨x.op, x.kind, x.phase, x.data, x.best, x.heard⟩ : Ask) = x := rfl
@[ext] structure Step where
 kind:Int
 n:Int
 data:ByteArray
instance:aN Step:=aN.via (fun x=>(x.kind,x.n,x.data))
@[go_sem, simp] theorem Step.eta (x : Step) : (⟨x.kind, x.n, x.data⟩ : Step) = x := rfl
open Go.RowKit
inductive R2 (R:Value->AV->Prop):List Value->List AV->Prop
 |nil:R2 R [] []
 |cons {v:Value} {a:AV} {vs:List Value} {as_:List AV} (h:R v a) (t:R2 R vs as_):R2 R (v::vs) (a::as_)
theorem R2.len (h:R2 R vs as_):vs.length=as_.length:=by
 induction h with
 |nil=>rfl
 |cons _ _ ih=>simp [ih]
theorem R2.get (h:R2 R vs as_):∀(i:Nat) v a,vs[i]? =some v->as_[i]? =some a->R v a:=by
 induction h with
 |nil=>intro i v a hv;simp at hv
 |cons h _ ih=>
  intro i v a hv ha
  cases i with
  |zero=>simp at hv ha;subst hv;subst ha;exact h
  |succ i=>exact ih i v a (by simpa using hv) (by simpa using ha)
theorem R2.rc {E:Env} (h:R2 (aj E) vs as_):RC E vs.toArray as_:=⟨by simpa using h.len,fun j u c hu hc=>h.get j u c (by simpa using hu) hc⟩
theorem Js (h:Fn P f as_ (.v (.bool true))) (hG:ee (E0 w fun b=>b<w.heap.size)) (bJ:R2 (aj (E0 w fun b=>b<w.heap.size)) vs as_):
  Calls P f vs.toArray w fun e w'=>e= .returned (.bool true)/\Below w.heap.size w w':=
 (h w _ vs.toArray (fun _ h=>h) hG bJ.rc).mono fun e w' ⟨v,he,hr,hb⟩=>⟨he.trans (by rw [hr.iC]),hb⟩
open Go.RowKit
inductive Cn where
 |lt (x y:Int)
 |le (x y:Int)
 |eq (x y:Int)
 |ey (x y:UInt8)
 |ly (x y:UInt8)
 |ez (x y:ByteArray)
 |lz (x y:ByteArray)
 |b (x:Bool)
 |eb (x y:Bool)
 |not (c:Cn)
 |and (c d:Cn)
 |or (c d:Cn)
def Cn.den:Cn->Bool
 | .lt x y=>decide (x<y)
 | .le x y=>decide (x<=y)
 | .eq x y=>x==y
 | .ey x y=>x==y
 | .ly x y=>decide (x<y)
 | .ez x y=>jG x y
 | .lz x y=>Op.bytesLess x.toList y.toList
 | .b x=>x
 | .eb x y=>x==y
 | .not c=> !c.den
 | .and c d=>c.den&&d.den
 | .or c d=>c.den||d.den
def Cn.tf:Cn->Bool->Prop
 | .lt x y,true=>x<y
 | .lt x y,false=>y<=x
 | .le x y,true=>x<=y
 | .le x y,false=>y<x
 | .eq x y,true=>x=y
 | .eq x y,false=>¬x=y
 | .ey x y,true=>x=y
 | .ey x y,false=>¬x=y
 | .ly x y,true=>x<y
 | .ly x y,false=>y<=x
 | .ez x y,true=>x=y
 | .ez x y,false=>¬x=y
 | .lz x y,p=>Op.bytesLess x.toList y.toList=p
 | .b x,p=>x=p
 | .eb x y,true=>x=y
 | .eb x y,false=>¬x=y
 | .not c,p=>c.tf (!p)
 | .and c d,true=>c.tf true/\d.tf true
 | .and c d,false=>c.tf false\/d.tf false
 | .or c d,true=>c.tf true\/d.tf true
 | .or c d,false=>c.tf false/\d.tf false
theorem xP {a b:ByteArray}:jG a b=true↔a=b:=by
 unfold jG
 rw [beq_iff_eq]
 constructor
 ·intro h
  have:a.data=b.data:=by rw [<-Qq];exact h
  cases a;cases b;simp_all
 ·intro h;rw [h]
theorem Cn.jg (c:Cn) (p:Bool):c.tf p↔c.den=p:=by
 induction c generalizing p with
 |lt x y=>cases p<;>simp [tf,den]
 |le x y=>cases p<;>simp [tf,den]
 |eq x y=>cases p<;>simp [tf,den]
 |ey x y=>cases p<;>simp [tf,den]
 |ly x y=>cases p<;>simp [tf,den]
 |ez x y=>
  cases p
  ·simp only [tf,den,Qy,ne_eq,xP]
  ·simp only [tf,den,xP]
 |lz x y=>cases p<;>simp [tf,den]
 |b x=>cases p<;>simp [tf,den]
 |eb x y=>cases p<;>simp [tf,den]
 |not c ih=>simp only [tf,den,ih];cases c.den<;>cases p<;>simp
 |and c d xQ xR=>cases p<;>simp [tf,den,xQ,xR]<;>cases c.den<;>simp
 |or c d xQ xR=>cases p<;>simp [tf,den,xQ,xR]<;>cases c.den<;>simp
inductive RK where
 |nil
 |own
 |aX
structure Row (α:Type) where
 kd:RK
 id:Nat
 n:Nat
 xs:List α
variable {r:Row α}
def Row.no (α:Type):Row α:=⟨.nil,0,0,[]⟩
def Row.at (α:Type) (id n:Nat):Row α:=⟨.own,id,n,[]⟩
def Row.fix (α:Type) (xs:List α):Row α:=⟨.aX,0,0,xs⟩
inductive SV (τ:Type) (dn:τ->Type) where
 |vi (x:Int)
 |vn (x:Int)
 |vy (x:UInt8)
 |vu (x:eo)
 |vw (q:IntKind) (x:Int)
 |vb (c:Cn)
 |vt (x:Bool)
 |vz (s:ByteArray)
 |vo (x:Value)
 |agg (cs:List (SV τ dn))
 |aK (cs:List (SV τ dn))
 |vl (t:τ) (xs:List (dn t))
 |vc (sz:Nat) (els:List (List (SV τ dn)))
 |emp
 |pim (cs:List (SV τ dn)) (o:Nat)
 |ref (nm sz i o:Nat)
 |own (nm sz:Nat)
 |part (nm sz off len:Nat)
 |fn (f:FuncId) (cs:List (SV τ dn))
 |bf (f:FuncId) (cs:List (SV τ dn))
 |mp (nm:Nat)
 |rw (t:τ) (r:Row (dn t))
 |cU (t:τ) (r:Row (dn t)) (i o:Nat)
 |vg (p:Bool) (c:Cn) (v:SV τ dn)
 |dead
section
variable {τ:Type} {dn:τ->Type}
mutual
def SV.fr (p:Nat->Bool):SV τ dn->Bool
 | .own nm _| .part nm _ _ _| .ref nm _ _ _| .mp nm=>p nm
 | .agg cs| .aK cs| .pim cs _| .fn _ cs| .bf _ cs=>SV.dS p cs
 | .vc _ els=>SV.lH p els
 | .vg _ _ v=>SV.fr p v
 |_=>true
def SV.dS (p:Nat->Bool):List (SV τ dn)->Bool
 |[]=>true
 |v::r=>SV.fr p v&&SV.dS p r
def SV.lH (p:Nat->Bool):List (List (SV τ dn))->Bool
 |[]=>true
 |cs::r=>SV.dS p cs&&SV.lH p r
end
end
structure TE (τ:Type) (dn:τ->Type) where
 sz:τ->Nat
 ea:(ρ:Nat->AV)->(t:τ)->dn t->List AV
structure aC where
 ι:Nat->Nat
 ln:Nat->Nat
 ρ:Nat->AV
variable {N:aC}
section
variable {τ:Type} {dn:τ->Type} (E:TE τ dn) (N:aC)
mutual
def SV.av:SV τ dn->AV
 | .vi x=> .v (.int .i64 x)
 | .vn x=> .v (.int .i64 x)
 | .vy x=> .v (.int .u8 x.toNat)
 | .vu x=> .v (.int .u64 (x.n:Int))
 | .vw q x=> .v (.int q x)
 | .vb c=> .v (.bool c.den)
 | .vt x=> .v (.bool x)
 | .vz s=> .v (.string s)
 | .vo x=> .v x
 | .agg cs=> .agg (SV.cz cs)
 | .aK cs=> .aK (SV.cz cs)
 | .vl ty xs=> .aX (E.sz ty) (xs.map (E.ea N.ρ ty))
 | .vc sz els=> .aX sz (SV.bU els)
 | .emp=> .emp
 | .pim cs o=> .pim (SV.cz cs) o
 | .ref nm sz i o=> .ref (N.ι nm) sz i o
 | .own nm sz=> .own (N.ι nm) sz 0 (N.ln nm)
 | .part nm sz off len=> .own (N.ι nm) sz off len
 | .fn f cs=> .fn f (SV.cz cs)
 | .bf f cs=> .bf f (SV.cz cs)
 | .mp nm=> .mp (N.ι nm)
 | .rw t r=>match r.kd with
  | .nil=> .emp
  | .own=> .own r.id (E.sz t) 0 r.n
  | .aX=> .aX (E.sz t) (r.xs.map (E.ea N.ρ t))
 | .cU t r i o=>match r.kd with
  | .nil=> .dead
  | .own=> .ref r.id (E.sz t) i o
  | .aX=>match r.xs[i]? with
   |some x=> .pim (E.ea N.ρ t x) o
   |none=> .dead
 | .vg p c v=>if c.den=p then SV.av v else .v undef
 | .dead=> .dead
def SV.cz:List (SV τ dn)->List AV
 |[]=>[]
 |v::r=>SV.av v::SV.cz r
def SV.bU:List (List (SV τ dn))->List (List AV)
 |[]=>[]
 |cs::r=>SV.cz cs::SV.bU r
end
theorem SV.bA (cs:List (SV τ dn)):SV.cz E N cs=cs.map (SV.av E N):=by
 induction cs with
 |nil=>simp [SV.cz]
 |cons v r ih=>simp [SV.cz,ih]
theorem SV.iL (els:List (List (SV τ dn))):SV.bU E N els=els.map fun cs=>cs.map (SV.av E N):=by
 induction els with
 |nil=>simp [SV.bU]
 |cons v r ih=>simp [SV.bU,ih,SV.bA]
inductive SB (τ:Type) (dn:τ->Type) where
 |bl (t:τ) (xs:List (dn t))
 |bc (sz:Nat) (els:List (List (SV τ dn)))
 |mc (els:List (List (SV τ dn)))
 |ar (t:τ) (A:List (Nat×List (dn t)))
def SB.av:SB τ dn->Bk
 | .bl ty xs=>⟨E.sz ty,xs.map (E.ea N.ρ ty)⟩
 | .bc sz els=>⟨sz,SV.bU E N els⟩
 | .mc els=>⟨0,SV.bU E N els⟩
 | .ar ty _=>⟨E.sz ty,[]⟩
def SB.len:SB τ dn->Nat
 | .bl _ xs=>xs.length
 | .bc _ els=>els.length
 | .mc _=>0
 | .ar _ _=>0
def SB.iM:SB τ dn->Bool
 | .ar _ _=>true
 |_=>false
def SB.xS:SB τ dn->Bool
 | .mc _=>true
 |_=>false
theorem SB.Jt (B:SB τ dn) (h:B.xS=false):(B.av E N).els.length=B.len:=by
 cases B with
 |bl t xs=>simp [SB.av,SB.len]
 |bc sz els=>simp [SB.av,SB.len,SV.iL]
 |mc els=>simp [SB.xS] at h
 |ar t A=>simp [SB.av,SB.len]
end
section
variable {τ:Type} {dn:τ->Type}
def SV.cells:SV τ dn->List (SV τ dn)
 | .agg cs=>cs
 |a=>[a]
def SV.one:SV τ dn->Bool
 | .agg _| .aK _| .dead| .vg _ _ _| .cU _ _ _ _=>false
 | .vo x=>x.oneCell'
 |_=>true
def SV.gS:SV τ dn->Bool
 | .agg _=>true
 |a=>a.one
theorem SV.q9 {E:TE τ dn} {v:SV τ dn} (h:v.gS=true):(v.av E N).cells=v.cells.map (SV.av E N):=by
 cases v<;>simp [SV.gS,SV.one] at h<;>first
  |(simp [SV.av,AV.cells,SV.cells,SV.bA];done)
  |(simp only [SV.av,SV.cells,OX,Pw];(repeat' split)<;>rfl)
theorem SV.Ju {E:TE τ dn} {v:SV τ dn} (h:v.one=true):(v.av E N).one=true:=by
 cases v<;>simp [SV.one] at h<;>first|exact h|rfl|(simp only [SV.av];(repeat' split)<;>rfl)
theorem SV.Jv {E:TE τ dn} {v:SV τ dn} (h:v.gS=true):(v.av E N).gS=true:=by
 cases v<;>simp [SV.gS,SV.one] at h<;>first|exact h|rfl|(simp only [SV.av];(repeat' split)<;>rfl)
end
section
variable {α:Type}
def dA (A:List (Nat×α)) (id:Nat):Prop:=id∈A.map Prod.fst
def B6 (d:α):List (Nat×α)->Nat->α
 |[],_=>d
 |(j,x)::r,id=>if id=j then x else B6 d r id
def fD (A:List (Nat×List α)) (id:Nat):List α:=B6 [] A id
theorem B7 {id:Nat}:¬dA ([]:List (Nat×α)) id:=by simp [dA]
theorem re {x:α} {A:List (Nat×α)} {id:Nat}:dA ((j,x)::A) id↔id=j\/dA A id:=by simp [dA]
theorem B8 {x:List α} {A:List (Nat×List α)} {id:Nat}:fD ((j,x)::A) id=if id=j then x else fD A id:=rfl
def Row.get (r:Row α) (A:List (Nat×List α)):List α:=match r.kd with
 | .nil=>[]
 | .own=>fD A r.id
 | .aX=>r.xs
def Row.ok (r:Row α) (A:List (Nat×List α)):Prop:=match r.kd with
 | .own=>dA A r.id/\(fD A r.id).length=r.n
 |_=>True
@[simp, grind =] theorem Row.Ol {id:Nat} : (Row.at α id n).id = id := rfl
@[simp, grind =] theorem Row.Om {id:Nat} : (Row.at α id n).n = n := rfl
@[simp, grind =] theorem Row.On {id:Nat} : (Row.at α id n).kd = .own := rfl
@[simp, grind =] theorem Row.Oo : (Row.no α).kd = .nil := rfl
@[simp, grind =] theorem Row.Oq {xs : List α} : (Row.fix α xs).kd = .aX := rfl
@[simp, grind =] theorem Row.Ot {xs : List α} : (Row.fix α xs).xs = xs := rfl
def Row.n6 (r:Row α) (A:List (Nat×List α)):Prop:=r.kd= .own/\dA A r.id/\(fD A r.id).length=r.n
end
open Go.RowKit
def bp (x:Int):Prop:= -9223372036854775808<=x/\x<=9223372036854775807
theorem bp.wr {x:Int} (h:bp x):IntKind.i64.wrap x=x:=by rw [IntKind.wrap_i64];unfold bp at h;omega
def uN (n:Nat):eo:=⟨n%18446744073709551616,Nat.mod_lt _ (by decide)⟩
theorem xT (h:n<18446744073709551616):(uN n).n=n:=P1 h
theorem wrap_u8 (x:Int):IntKind.u8.wrap x=x%256:=by simp [IntKind.wrap,IntKind.bits,IntKind.signed]
theorem wrap_u64 (x:Int):IntKind.u64.wrap x=x%18446744073709551616:=by simp [IntKind.wrap,IntKind.bits,IntKind.signed]
theorem bits_nat (op:BinOp) (k:IntKind) (a b:Nat):bits op k a b=k.wrap ((match op with
  | .and=>BitVec.ofNat k.bits a&&&BitVec.ofNat k.bits b
  | .or=>BitVec.ofNat k.bits a|||BitVec.ofNat k.bits b
  | .xor=>BitVec.ofNat k.bits a^^^BitVec.ofNat k.bits b
  |_=>BitVec.ofNat k.bits a&&& ~~~BitVec.ofNat k.bits b).toNat:Int):=by
 unfold bits;simp only [BitVec.ofInt_natCast]
 cases op<;>rfl
def ij:BinOp->Nat->Nat->Nat
 | .and,a,b=>a&&&b
 | .or,a,b=>a|||b
 | .xor,a,b=>a^^^b
 |_,a,b=>a&&&(a^^^b)
theorem Jw (a b:Nat) (n:Nat) (ha:a<2^n):(BitVec.ofNat n a&&& ~~~BitVec.ofNat n b).toNat=a&&&(a^^^(b%2^n)):=by
 rw [BitVec.toNat_and,BitVec.toNat_not,Qj,Qj,P1 ha]
 apply Nat.eq_of_testBit_eq
 intro i
 rw [Nat.testBit_and,Nat.testBit_and,Nat.testBit_xor,show 2^n - 1 - b%2^n=2^n - (b%2^n+1) by omega,Nat.testBit_two_pow_sub_succ (Nat.mod_lt _ (Nat.two_pow_pos n))]
 cases h:a.testBit i with
 |false=>simp
 |true=>
  have hi:i<n:=by
   by_cases hi:i<n
   ·exact hi
   ·exfalso
    have:a<2^i:=O8 ha (Nat.pow_le_pow_right (by decide) (by omega))
    rw [Nat.testBit_lt_two_pow this] at h;simp at h
  simp [hi]
theorem xU (op:BinOp) (k:IntKind) (a b:Nat) (ha:a<2^k.bits) (hb:b<2^k.bits):bits op k a b=k.wrap (ij op a b:Nat):=by
 rw [bits_nat]
 have h1:=P1 ha
 have h2:=P1 hb
 cases op<;>simp only [ij]<;>first
  |rw [BitVec.toNat_and,Qj,Qj,h1,h2]
  |rw [BitVec.toNat_or,Qj,Qj,h1,h2]
  |rw [BitVec.toNat_xor,Qj,Qj,h1,h2]
  |rw [Jw _ _ _ ha,h2]
theorem tS (op:BinOp) {a b:Nat} (ha:a<2^n) (hb:b<2^n):ij op a b<2^n:=by
 cases op<;>simp only [ij]<;>first
  |exact Nat.or_lt_two_pow ha hb
  |exact Nat.xor_lt_two_pow ha hb
  |exact Qz Nat.and_le_left ha
theorem Jx (op:BinOp) (a b:Nat) (h:a<2^63) (h2:b<2^63):ij op a b<2^63:=tS op h h2
theorem xV (op:BinOp) (x y:Int) (hx:0<=x) (hy:0<=y) (B9:bp x) (Jy:bp y):bits op .i64 x y=((ij op x.toNat y.toNat:Nat):Int):=by
 unfold bp at B9 Jy
 have e1:((x.toNat:Nat):Int)=x:=by omega
 have e2:((y.toNat:Nat):Int)=y:=by omega
 have h1:x.toNat<2^63:=by omega
 have h2:y.toNat<2^63:=by omega
 have:=xU op .i64 x.toNat y.toNat (Nat.lt_trans h1 (by decide)) (Nat.lt_trans h2 (by decide))
 rw [e1,e2] at this
 rw [this]
 have h3:=Jx op _ _ h1 h2
 have h4:ij op x.toNat y.toNat<9223372036854775808:=h3
 exact bp.wr ⟨by omega,by omega⟩
def xW:BinOp->UInt8->UInt8->UInt8
 | .and,a,b=>a&&&b
 | .or,a,b=>a|||b
 | .xor,a,b=>a^^^b
 |_,a,b=>a&&&(a^^^b)
theorem Jz (op:BinOp) (a b:UInt8):(xW op a b).toNat=ij op a.toNat b.toNat:=by
 cases op<;>simp [xW,ij]
theorem xX (op:BinOp) (a b:UInt8):bits op .u8 (a.toNat:Int) (b.toNat:Int)=((xW op a b).toNat:Int):=by
 rw [xU op .u8 _ _ a.toNat_lt b.toNat_lt,Jz,wrap_u8]
 have:ij op a.toNat b.toNat<2^8:=tS op a.toNat_lt b.toNat_lt
 omega
def n7 (op:BinOp) (a b:eo):eo:=uN (ij op a.n b.n)
theorem JA (op:BinOp) (a b:eo):(n7 op a b).n=ij op a.n b.n:=xT (by
 have:ij op a.n b.n<2^64:=tS op a.lt b.lt
 exact this)
theorem rf (op:BinOp) (a b:eo):bits op .u64 (a.n:Int) (b.n:Int)=((n7 op a b).n:Int):=by
 rw [xU op .u64 _ _ a.lt b.lt,JA,wrap_u64]
 have:ij op a.n b.n<2^64:=tS op a.lt b.lt
 omega
theorem JB (a b:UInt8):IntKind.u8.wrap ((a.toNat:Int)+b.toNat)=((a+b).toNat:Int):=by
 rw [wrap_u8,UInt8.toNat_add];omega
theorem JC (a b:UInt8):IntKind.u8.wrap ((a.toNat:Int) - b.toNat)=((a - b).toNat:Int):=by
 rw [wrap_u8,UInt8.toNat_sub];have:=b.toNat_lt;omega
theorem JD (a b:UInt8):IntKind.u8.wrap ((a.toNat:Int)*b.toNat)=((a*b).toNat:Int):=by
 rw [wrap_u8,UInt8.toNat_mul, <-Int.natCast_mul];omega
theorem JE (a b:eo):IntKind.u64.wrap ((a.n:Int)+b.n)=((uN (a.n+b.n)).n:Int):=by
 rw [wrap_u64];show _=(((a.n+b.n)%18446744073709551616:Nat):Int);omega
theorem JF (a b:eo):IntKind.u64.wrap ((a.n:Int) - b.n)=((uN (a.n+18446744073709551616 - b.n)).n:Int):=by
 have:=b.lt
 rw [wrap_u64];show _=(((a.n+18446744073709551616 - b.n)%18446744073709551616:Nat):Int);omega
theorem JG (a b:eo):IntKind.u64.wrap ((a.n:Int)*b.n)=((uN (a.n*b.n)).n:Int):=by
 rw [wrap_u64, <-Int.natCast_mul];show _=(((a.n*b.n)%18446744073709551616:Nat):Int);omega
def iO (a:UInt8) (k:Nat):UInt8:=UInt8.ofNat (a.toNat*2^(min k 8))
def rh (a:UInt8) (k:Nat):UInt8:=UInt8.ofNat (a.toNat / 2^(min k 8))
theorem Ca (a k:Nat):((a:Int)*2^k)=((a*2^k:Nat):Int):=by rw [Int.natCast_mul,Int.natCast_pow];rfl
theorem Cb (a:UInt8) (k:Nat):IntKind.u8.wrap ((a.toNat:Int)*2^(min k IntKind.u8.bits))=((iO a k).toNat:Int):=by
 have e:(iO a k).toNat=a.toNat*2^min k 8%256:=by unfold iO;exact UInt8.toNat_ofNat ..
 rw [wrap_u8,e,show IntKind.u8.bits=8 from rfl,Ca,Int.natCast_emod];rfl
theorem fdiv_pow (a k:Nat):((a:Int).fdiv (2^k))=((a / 2^k:Nat):Int):=by
 rw [show (2:Int)^k=((2^k:Nat):Int) by simp]
 exact Int.fdiv_eq_ediv_of_nonneg _ (Int.natCast_nonneg _)
theorem Cc (a:UInt8) (k:Nat):((a.toNat:Int).fdiv (2^(min k IntKind.u8.bits)))=((rh a k).toNat:Int):=by
 have e:(rh a k).toNat=a.toNat / 2^min k 8%256:=by unfold rh;exact UInt8.toNat_ofNat ..
 have h:a.toNat / 2^min k 8<256:=Qz (Nat.div_le_self _ _) a.toNat_lt
 rw [e,P1 h,show IntKind.u8.bits=8 from rfl,fdiv_pow]
theorem Cd (a:eo) (k:Nat):IntKind.u64.wrap ((a.n:Int)*2^(min k IntKind.u64.bits))=((uN (a.n*2^min k 64)).n:Int):=by
 rw [wrap_u64,show IntKind.u64.bits=64 from rfl,Ca]
 show _=(((a.n*2^min k 64)%18446744073709551616:Nat):Int);rw [Int.natCast_emod];rfl
theorem Ce (a:eo) (k:Nat):((a.n:Int).fdiv (2^(min k IntKind.u64.bits)))=((uN (a.n / 2^min k 64)).n:Int):=by
 have h:a.n / 2^min k 64<18446744073709551616:=Qz (Nat.div_le_self _ _) a.lt
 rw [xT h,show IntKind.u64.bits=64 from rfl,fdiv_pow]
theorem JH (x:Int) (k:Nat) (h:bp (x*2^k)):IntKind.i64.wrap (x*2^(min k IntKind.i64.bits))=x*2^k:=by
 rw [show IntKind.i64.bits=64 from rfl]
 by_cases hk:k<=64
 ·rw [Qo hk];exact h.wr
 ·rw [Nat.min_eq_right (by omega)]
  have h0:x=0:=by
   obtain ⟨j,rfl⟩:∃j,k=64+j:=⟨k - 64,by omega⟩
   have hp:(1:Int)<=2^j:=by exact_mod_cast Nat.two_pow_pos j
   unfold bp at h
   rw [Int.pow_add] at h
   by_cases hx:0<x
   ·exfalso
    have h2:x*(2^64*1)<=x*(2^64*2^j):=QG (QG hp (by decide)) (by omega)
    have:=h.2;omega
   ·by_cases B9:x<0
    ·exfalso
     have h2:(-x)*(2^64*1)<=(-x)*(2^64*2^j):=QG (QG hp (by decide)) (by omega)
     rw [Int.neg_mul (b:=2^64*2^j)] at h2
     have:=h.1;omega
    ·omega
  rw [h0];simp;exact bp.wr ⟨by decide,by decide⟩
theorem JI (x:Int) (k:Nat) (h:k<=64):x.fdiv (2^(min k IntKind.i64.bits))=x / 2^k:=by
 rw [show IntKind.i64.bits=64 from rfl,Qo h]
 exact Int.fdiv_eq_ediv_of_nonneg _ (Int.pow_nonneg (by decide))
theorem JJ {x y:Int} (h:0<=x/\0<y/\bp x):IntKind.i64.wrap (x.tdiv y)=x / y:=by
 rw [Int.tdiv_eq_ediv_of_nonneg h.1]
 have h1:=Int.ediv_nonneg (b:=y) h.1 (by omega)
 have h2:=Int.ediv_le_self y h.1
 have:=h.2.2
 unfold bp at this
 exact bp.wr ⟨by omega,by omega⟩
theorem JK {x y:Int} (h:0<=x):x.tmod y=x%y:=Int.tmod_eq_emod_of_nonneg h
theorem xY {x:Int} (h:0<=x):IntKind.u8.wrap x=((UInt8.ofNat x.toNat).toNat:Int):=by
 have e:(UInt8.ofNat x.toNat).toNat=x.toNat%256:=UInt8.toNat_ofNat ..
 rw [wrap_u8,e];omega
theorem Cf {x:Int} (h:0<=x):IntKind.u64.wrap x=((uN x.toNat).n:Int):=by
 rw [wrap_u64];show _=((x.toNat%18446744073709551616:Nat):Int);omega
open Go.RowKit
def gd (d:α) (xs:List α) (i:Nat):α:=(xs[i]?).getD d
theorem lI {α:Type} {d:α} {xs:List α} (h:i<xs.length):xs[i]? =some (gd d xs i):=by
 unfold gd;rw [OV h];rfl
def gb (s:ByteArray) (i:Nat):UInt8:=(s[i]?).getD 0
structure TD (τ:Type) (dn:τ->Type) extends TE τ dn where
 df:(t:τ)->dn t
 es:(t:τ)->dn t->List (SV τ dn)
 ds:(t:τ)->List (SV τ dn)->Option (dn t)
 ag:τ->Bool
 pu:τ->Bool
 hint:Nat->Nat->Option τ
 neg:Bool
 em:τ->Bool:=fun _=>false
 ar:Option τ:=none
 hr:τ->Bool:=fun _=>false
 fz:(t ta:τ)->(A:List (Nat×List (dn ta)))->Option ((t':τ)×(dn t->dn t')×(dn t->Prop)):=fun _ _ _=>none
 bt:(t:τ)->Option ((dn t->UInt8)×(UInt8->dn t)):=fun _=>none
 th:(t t':τ)->Option (dn t->dn t'):=fun _ _=>none
def SV.ne:SV τ dn->Bool
 | .emp=>false
 |_=>true
def TD.n8 (D:TD τ dn) (t:τ) (cs:List (SV τ dn)):Bool:=D.em t||cs.all SV.ne
structure bh {τ:Type} {dn:τ->Type} (D:TD τ dn):Prop where
 dv:∀(N:aC) (t:τ) (x:dn t),(D.es t x).map (SV.av D.toTE N)=D.ea N.ρ t x
 jh:∀(N:aC) (t:τ) (cs:List (SV τ dn)) (x:dn t),D.ds t cs=some x->eg (cs.map (SV.av D.toTE N)) (D.ea N.ρ t x)
 fZ:∀(N:aC) (t:τ) (cs:List (SV τ dn)) (x:dn t),D.ds t cs=some x->D.n8 t cs=true->cs.map (SV.av D.toTE N)=D.ea N.ρ t x
 len:∀(t:τ) (x:dn t),(D.es t x).length=D.sz t
 one:∀(t:τ) (x:dn t),(D.es t x).all SV.one=true
 nf:∀(p:Nat->Bool) (t:τ) (x:dn t),SV.dS p (D.es t x)=true
 ji:∀(ρ mJ:Nat->AV) (t:τ) (x:dn t),D.pu t=true->D.ea ρ t x=D.ea mJ t x
 pu1:∀(N:aC) (t:τ) (x:dn t),D.pu t=true->(D.ea N.ρ t x).all AV.pu1=true
 bt:∀(N:aC) (t:τ) (p:(dn t->UInt8)×(UInt8->dn t)),D.bt t=some p->(∀x,D.ea N.ρ t x=[.v (.int .u8 (p.1 x).toNat)])/\∀b,p.1 (p.2 b)=b
 th:∀(ρ:Nat->AV) (t t':τ) (f:dn t->dn t'),D.th t t'=some f->D.sz t'=D.sz t/\∀x,D.ea ρ t' (f x)=D.ea ρ t x
 fz:∀(N:aC) (φ:AV->AV) (t ta:τ) (A:List (Nat×List (dn ta))) (t':τ) (f:dn t->dn t') (O:dn t->Prop),D.fz t ta A=some ⟨t',f,O⟩->(∀a,a.pu1=true->φ a=a)->
  (∀id n,dA A id->(fD A id).length=n->φ (.own id (D.sz ta) 0 n)= .aX (D.sz ta) ((fD A id).map (D.ea N.ρ ta)))->D.sz t'=D.sz t/\∀x,O x->(D.ea N.ρ t x).map φ=D.ea N.ρ t' (f x)
theorem bh.rk {D:TD τ dn} (ok:bh D) (N:aC) (t:τ) (cs:List (SV τ dn)) (x:dn t) (h:D.ds t cs=some x) (hn:cs.all SV.ne=true):cs.map (SV.av D.toTE N)=D.ea N.ρ t x:=
 ok.fZ N t cs x h (by unfold TD.n8;rw [hn,Bool.or_true])
def getS {α:Type}:List (Nat×α)->Nat->Option α
 |[],_=>none
 |(j,v)::r,i=>bif Nat.beq i j then some v else getS r i
structure SS (τ:Type) (dn:τ->Type) where
 rt:List (Nat×SV τ dn)
 rm:List (Nat×Option (SB τ dn))
 t:List (Nat×SV τ dn)
 m:List (Nat×Option (SB τ dn))
 nx:Nat
section
variable {τ:Type} {dn:τ->Type} [DecidableEq τ]
def po:Value->Option (SV τ dn)
 | .int .i64 k=>some (.vn k)
 | .int .u8 k=>if 0<=k/\k<256 then some (.vy (UInt8.ofNat k.toNat)) else none
 | .int .u64 k=>if 0<=k/\k<18446744073709551616 then some (.vu (uN k.toNat)) else none
 | .int q k=>some (.vw q k)
 | .bool b=>some (.vt b)
 | .string s=>some (.vz s)
 | .nilFunc=>some (.vo .nilFunc)
 | .nilIface=>some (.vo .nilIface)
 | .pointer none=>some (.vo (.pointer none))
 | .tuple vs=>if vs.isEmpty=true then some (.vo undef) else none
 |_=>none
mutual
def jT:AV->Option (SV τ dn)
 | .v x=>po x
 | .agg cs=>(jU cs).map .agg
 | .emp=>some .emp
 | .fn f cs=>(jU cs).map (.fn f)
 | .pim cs o=>(jU cs).map (.pim · o)
 | .dead=>some .dead
 |_=>none
def jU:List AV->Option (List (SV τ dn))
 |[]=>some []
 |a::r=>match jT a,jU r with
  |some v,some l=>some (v::l)
  |_,_=>none
end
def SS.gt (st:SS τ dn) (i:Nat):Option (SV τ dn):=match getS st.t i with
 |some v=>some v
 |none=>getS st.rt i
def SS.gm (st:SS τ dn) (nm:Nat):Option (SB τ dn):=match getS st.m nm with
 |some b=>b
 |none=>(getS st.rm nm).join
def SS.ev (st:SS τ dn):Arg->Option (SV τ dn)
 | .s i=>st.gt i
 | .c a=>jT a
def SS.rw (st:SS τ dn) (nm:Nat):Bool:=(match getS st.m nm with|some (some _)=>true|_=>false)&&(getS st.rm nm).isNone
inductive SR (τ:Type) (dn:τ->Type) where
 |val (O:List Prop) (v:SV τ dn)
 |new (O:List Prop) (v:SV τ dn) (B:SB τ dn)
 |put (O:List Prop) (v:SV τ dn) (nm:Nat) (B:SB τ dn)
 |mov (O:List Prop) (v:SV τ dn) (old:Nat) (B:SB τ dn)
 |ga (O:List Prop) (v:SV τ dn) (ns:List Nat)
 |eF (O:List Prop) (v:SV τ dn) (id:Nat) (t:τ) (row:List (dn t)) (A:List (Nat×List (dn t)))
def SV.int:SV τ dn->Option (Int×Bool)
 | .vi x=>some (x,false)
 | .vn x=>some (x,true)
 |_=>none
def rn:SV τ dn->Option (SV τ dn)
 | .vb c=>some (.vb (.not c))
 | .vt b=>some (.vt !b)
 |_=>none
def xZ:SV τ dn->SV τ dn->Option (SV τ dn)
 | .vt true,a=>some a
 | .vt false, .vb _=>some (.vt false)
 | .vt false, .vt _=>some (.vt false)
 | .vb c, .vt true=>some (.vb c)
 | .vb _, .vt false=>some (.vt false)
 | .vb c, .vb d=>some (.vb (.and c d))
 |_,_=>none
def SV.lit:SV τ dn->Option Value
 | .vn x=>some (.int .i64 x)
 | .vt b=>some (.bool b)
 |_=>none
def rp (bt:Bool) (op:BinOp) (a b:SV τ dn):Option (SV τ dn):=
 match a.lit,b.lit with
 |some x,some y=>match binA bt op x y with
  |some v=>po v
  |none=>none
 |_,_=>none
def rq (neg:Bool) (op:BinOp) (x y:Int):Option (SR τ dn):=
 match op with
 | .add=>some (.val [bp (x+y)] (.vi (x+y)))
 | .sub=>some (.val [bp (x - y)] (.vi (x - y)))
 | .mul=>some (.val [bp (x*y)] (.vi (x*y)))
 | .quo=>bif neg then some (.val [y≠0,bp (x.tdiv y)] (.vi (x.tdiv y))) else some (.val [0<=x/\0<y/\bp x] (.vi (x / y)))
 | .rem=>bif neg then some (.val [y≠0] (.vi (x.tmod y))) else some (.val [0<=x/\y≠0] (.vi (x%y)))
 | .and=>some (.val [0<=x/\0<=y/\bp x/\bp y] (.vi ((x.toNat&&&y.toNat:Nat):Int)))
 | .or=>some (.val [0<=x/\0<=y/\bp x/\bp y] (.vi ((x.toNat|||y.toNat:Nat):Int)))
 | .xor=>some (.val [0<=x/\0<=y/\bp x/\bp y] (.vi ((x.toNat^^^y.toNat:Nat):Int)))
 | .shl=>some (.val [0<=y/\bp (x*2^y.toNat)] (.vi (x*2^y.toNat)))
 | .shr=>some (.val [0<=y/\y<=64] (.vi (x / 2^y.toNat)))
 | .eql=>some (.val [] (.vb (.eq x y)))
 | .neq=>some (.val [] (.vb (.not (.eq x y))))
 | .lss=>some (.val [] (.vb (.lt x y)))
 | .leq=>some (.val [] (.vb (.le x y)))
 | .gtr=>some (.val [] (.vb (.lt y x)))
 | .geq=>some (.val [] (.vb (.le y x)))
 |_=>none
def oY (op:BinOp) (x y:UInt8):Option (SV τ dn):=
 match op with
 | .add=>some (.vy (x+y))
 | .sub=>some (.vy (x - y))
 | .mul=>some (.vy (x*y))
 | .and=>some (.vy (x&&&y))
 | .or=>some (.vy (x|||y))
 | .xor=>some (.vy (x^^^y))
 | .eql=>some (.vb (.ey x y))
 | .neq=>some (.vb (.not (.ey x y)))
 | .lss=>some (.vb (.ly x y))
 | .leq=>some (.vb (.not (.ly y x)))
 | .gtr=>some (.vb (.ly y x))
 | .geq=>some (.vb (.not (.ly x y)))
 |_=>none
def oU (op:BinOp) (x y:eo):Option (SV τ dn):=
 match op with
 | .add=>some (.vu (uN (x.n+y.n)))
 | .sub=>some (.vu (uN (x.n+18446744073709551616 - y.n)))
 | .mul=>some (.vu (uN (x.n*y.n)))
 | .and=>some (.vu (n7 .and x y))
 | .or=>some (.vu (n7 .or x y))
 | .xor=>some (.vu (n7 .xor x y))
 | .andNot=>some (.vu (n7 .andNot x y))
 | .eql=>some (.vb (.eq x.n y.n))
 | .neq=>some (.vb (.not (.eq x.n y.n)))
 | .lss=>some (.vb (.lt x.n y.n))
 | .leq=>some (.vb (.le x.n y.n))
 | .gtr=>some (.vb (.lt y.n x.n))
 | .geq=>some (.vb (.le y.n x.n))
 |_=>none
def oZ (op:BinOp) (x y:ByteArray):Option (SR τ dn):=
 match op with
 | .eql=>some (.val [] (.vb (.ez x y)))
 | .neq=>some (.val [] (.vb (.not (.ez x y))))
 | .lss=>some (.val [] (.vb (.lz x y)))
 | .add=>some (.val [((x.size+y.size:Nat):Int)<=9223372036854775807] (.vz (x++y)))
 |_=>none
def rr:SV τ dn->SV τ dn->Option (SV τ dn)
 | .vb c, .vt b=>some (.vb (if b then c else .not c))
 | .vt b, .vb c=>some (.vb (if b then c else .not c))
 | .vb c, .vb d=>some (.vb (.eb c.den d.den))
 |_,_=>none
def ru (neg bt:Bool) (op:BinOp) (a b:SV τ dn):Option (SR τ dn):=
 match rp bt op a b with
 |some v=>some (.val [] v)
 |none=>match a.int,b.int with
  |some (x,_),some (y,_)=>rq neg op x y
  |_,_=>match a,b with
   | .vy x, .vy y=>(oY op x y).map (.val [])
   | .vu x, .vu y=>(oU op x y).map (.val [])
   | .vz x, .vz y=>oZ op x y
   | .vy x, .vi y=>match op with
    | .shl=>some (.val [0<=y] (.vy (iO x y.toNat)))
    | .shr=>some (.val [0<=y] (.vy (rh x y.toNat)))
    |_=>none
   | .vy x, .vn y=>match op with
    | .shl=>some (.val [0<=y] (.vy (iO x y.toNat)))
    | .shr=>some (.val [0<=y] (.vy (rh x y.toNat)))
    |_=>none
   | .vu x, .vi y=>match op with
    | .shl=>some (.val [0<=y] (.vu (uN (x.n*2^min y.toNat 64))))
    | .shr=>some (.val [0<=y] (.vu (uN (x.n / 2^min y.toNat 64))))
    |_=>none
   | .vu x, .vn y=>match op with
    | .shl=>some (.val [0<=y] (.vu (uN (x.n*2^min y.toNat 64))))
    | .shr=>some (.val [0<=y] (.vu (uN (x.n / 2^min y.toNat 64))))
    |_=>none
   | .vw q x, .vw q' y=>if q=q' then (match op with
    | .and=>some (.val [] (.vw q (bits .and q x y)))
    | .or=>some (.val [] (.vw q (bits .or q x y)))
    | .xor=>some (.val [] (.vw q (bits .xor q x y)))
    | .add=>some (.val [] (.vw q (q.wrap (x+y))))
    | .sub=>some (.val [] (.vw q (q.wrap (x - y))))
    | .mul=>some (.val [] (.vw q (q.wrap (x*y))))
    | .eql=>some (.val [] (.vb (.eq x y)))
    | .neq=>some (.val [] (.vb (.not (.eq x y))))
    | .lss=>some (.val [] (.vb (.lt x y)))
    | .leq=>some (.val [] (.vb (.le x y)))
    | .gtr=>some (.val [] (.vb (.lt y x)))
    | .geq=>some (.val [] (.vb (.le y x)))
    |_=>none) else none
   | .vw q x, .vi y=>match op with
    | .shl=>some (.val [0<=y] (.vw q (q.wrap (x*2^(min y.toNat q.bits)))))
    | .shr=>some (.val [0<=y] (.vw q (x.fdiv (2^(min y.toNat q.bits)))))
    |_=>none
   | .vw q x, .vn y=>match op with
    | .shl=>some (.val [0<=y] (.vw q (q.wrap (x*2^(min y.toNat q.bits)))))
    | .shr=>some (.val [0<=y] (.vw q (x.fdiv (2^(min y.toNat q.bits)))))
    |_=>none
   | .vw q x, .vu y=>match op with
    | .shl=>some (.val [] (.vw q (q.wrap (x*2^(min y.n q.bits)))))
    | .shr=>some (.val [] (.vw q (x.fdiv (2^(min y.n q.bits)))))
    |_=>none
   |a,b=>if bt=true then (match op with
    | .eql=>(rr a b).map (.val [])
    | .neq=>((rr a b).bind rn).map (.val [])
    |_=>none) else none
def rv (op:UnOp) (a:SV τ dn):Option (SR τ dn):=
 match op,a with
 | .neg, .vn x=>(po (.int .i64 (IntKind.i64.wrap (0 - x)))).map (.val [])
 | .neg, .vi x=>some (.val [bp (0 - x)] (.vi (0 - x)))
 | .xor, .vu x=>some (.val [] (.vu (n7 .xor (uN 18446744073709551615) x)))
 | .not,a=>(rn a).map (.val [])
 |_,_=>none
def ry (k:IntKind) (a:SV τ dn):Option (SR τ dn):=
 match k,a with
 |k, .vn x=>(po (.int k (k.wrap x))).map (.val [])
 | .i64, .vi x=>some (.val [bp x] (.vi x))
 | .i64, .vy x=>some (.val [] (.vi x.toNat))
 | .i64, .vu x=>some (.val [bp x.n] (.vi x.n))
 | .i64, .vw _ x=>some (.val [bp x] (.vi x))
 | .u8, .vi x=>some (.val [0<=x] (.vy (UInt8.ofNat x.toNat)))
 | .u8, .vu x=>some (.val [] (.vy (UInt8.ofNat x.n)))
 | .u8, .vw _ x=>some (.val [0<=x] (.vy (UInt8.ofNat x.toNat)))
 | .u64, .vi x=>some (.val [0<=x] (.vu (uN x.toNat)))
 | .u64, .vy x=>some (.val [] (.vu (uN x.toNat)))
 | .u16, .vi x=>some (.val [] (.vw .u16 (IntKind.u16.wrap x)))
 | .u16, .vy x=>some (.val [] (.vw .u16 (IntKind.u16.wrap x.toNat)))
 | .u16, .vw _ x=>some (.val [] (.vw .u16 (IntKind.u16.wrap x)))
 |_,_=>none
def lJ (cs:List (SV τ dn)) (o:Nat):Option Nat->Option (SV τ dn)
 |none=>cs[o]?
 |some n=>if o+n<=cs.length then some (.agg ((cs.drop o).take n)) else none
def mK (cs:List (SV τ dn)) (o:Nat) (ys:List (SV τ dn)):List (SV τ dn):=cs.take o++ys++cs.drop (o+ys.length)
def rz (st:SS τ dn) (cells:List (SV τ dn)):List (Nat×Nat×Arg)->Option (List (SV τ dn))
 |[]=>some cells
 |(off,n,x)::r=>match st.ev x with
  |some v=>if v.cells.length=n/\off+n<=cells.length/\v.gS=true then rz st (mK cells off v.cells) r else none
  |none=>none
def mL (st:SS τ dn) (sz:Nat) (els:List (List (SV τ dn))):List (Nat×Arg)->Option (List (List (SV τ dn)))
 |[]=>some els
 |(i,x)::r=>match st.ev x with
  |some v=>if v.cells.length=sz/\i<els.length/\v.gS=true/\v.cells.all SV.one=true then mL st sz (els.set i v.cells) r else none
  |none=>none
def x4:LK->SV τ dn->SV τ dn->Option (SV τ dn)
 | .int,a,b=>match rp false .eql a b with
  |some v=>some v
  |none=>match a.int,b.int with
   |some (x,_),some (y,_)=>some (.vb (.eq x y))
   |_,_=>match a,b with
    | .vu x, .vu y=>some (.vb (.eq x.n y.n))
    | .vy x, .vy y=>some (.vb (.ey x y))
    |_,_=>none
 | .str, .vz a, .vz b=>some (.vb (.ez a b))
 | .bool, .vt a, .vt b=>some (.vt (a==b))
 | .bool,a,b=>rr a b
 |_,_,_=>none
def rA (cs ds:List (SV τ dn)):List (Nat×LK)->Option (SV τ dn)
 |[]=>some (.vt true)
 |(o,k)::r=>match cs[o]?,ds[o]? with
  |some a,some b=>match x4 k a b,rA cs ds r with
   |some x,some y=>xZ x y
   |_,_=>none
  |_,_=>none
inductive Ct (τ:Type) (dn:τ->Type) where
 |ty (t:τ) (xs:List (dn t))
 |li (els:List (List (SV τ dn)))
def Ct.len:Ct τ dn->Nat
 | .ty _ xs=>xs.length
 | .li els=>els.length
variable (D:TD τ dn)
def SS.cont (st:SS τ dn) (sz:Nat):SV τ dn->Option (Ct τ dn)
 | .vl ty xs=>if D.sz ty=sz then some (.ty ty xs) else none
 | .vc k els=>if k=sz then some (.li els) else none
 | .emp=>some (.li [])
 | .own nm k=>if k=sz then (match st.gm nm with
  |some (.bl ty xs)=>if D.sz ty=sz then some (.ty ty xs) else none
  |some (.bc q els)=>if q=sz then some (.li els) else none
  |_=>none) else none
 |_=>none
def kE (ty:τ):List (List (SV τ dn))->Option (List (dn ty))
 |[]=>some []
 |cs::r=>if D.n8 ty cs=true then (match D.ds ty cs,kE ty r with
  |some x,some l=>some (x::l)
  |_,_=>none) else none
def n9 (sz:Nat):SB τ dn->Ct τ dn->Option (SB τ dn)
 | .bl ty xs, .ty mM ys=>if h:mM=ty then some (.bl ty (xs++h▸ys)) else none
 | .bl ty xs, .li els=>(kE D ty els).map fun ys=> .bl ty (xs++ys)
 | .bc q els, .ty ty ys=>if q=D.sz ty then (kE D ty els).map fun xs=> .bl ty (xs++ys) else none
 | .bc q els, .li fs=>if q=sz then some (.bc q (els++fs)) else none
 | .mc _,_=>none
 | .ar _ _,_=>none
def Ct.kF (sz:Nat):Ct τ dn->SB τ dn
 | .ty t xs=> .bl t xs
 | .li els=> .bc sz els
def SB.sz:SB τ dn->Nat
 | .bl ty _=>D.sz ty
 | .bc sz _=>sz
 | .mc _=>0
 | .ar ty _=>D.sz ty
def SB.Cg:SB τ dn->SV τ dn
 | .bl _ xs=> .vi (xs.length:Int)
 | .bc _ els=> .vn (els.length:Int)
 | .mc _=> .vn 0
 | .ar _ _=> .vn 0
def lK (st:SS τ dn):Option Arg->Option (Option Int)
 |none=>some none
 |some x=>match st.ev x with
  |some v=>match v.int with
   |some (k,_)=>some (some k)
   |none=>none
  |none=>none
def x5 (xs:List α):Option Int->Option Int->List α
 |none,none=>xs
 |some l,none=>xs.drop l.toNat
 |none,some h=>xs.take h.toNat
 |some l,some h=>(xs.drop l.toNat).take (h.toNat - l.toNat)
def lL (len:Int):Option Int->Option Int->List Prop
 |none,none=>[]
 |some l,none=>[0<=l/\l<=len]
 |none,some h=>[0<=h/\h<=len]
 |some l,some h=>[0<=l/\l<=h/\h<=len]
def oa (st:SS τ dn) (m:Option Nat):SV τ dn->Option (SR τ dn)
 | .pim cs o=>(lJ cs o m).map (.val [])
 | .ref nm sz i o=>match st.gm nm with
  |some (.bl ty xs)=>if D.sz ty=sz then (lJ (D.es ty (gd (D.df ty) xs i)) o m).map (.val [i<xs.length]) else none
  |some (.bc q els)=>if q=sz then (match els[i]? with
   |some cs=>(lJ cs o m).map (.val [])
   |none=>none) else none
  |_=>none
 |_=>none
def tT (st:SS τ dn) (n:Nat) (a y:SV τ dn):Option (SR τ dn):=
 if y.cells.length=n/\y.gS=true/\y.cells.all SV.one=true then match a with
 | .ref nm sz i o=>if o+n<=sz/\st.rw nm=true then (match st.gm nm with
  |some (.bl ty xs)=>if D.sz ty=sz/\D.n8 ty (mK (D.es ty (gd (D.df ty) xs i)) o y.cells)=true then (match D.ds ty (mK (D.es ty (gd (D.df ty) xs i)) o y.cells) with
   |some z=>some (.put [i<xs.length] (.vo undef) nm (.bl ty (xs.set i z)))
   |none=>none) else none
  |some (.bc q els)=>if q=sz then (match els[i]? with
   |some cs=>some (.put [] (.vo undef) nm (.bc q (els.set i (mK cs o y.cells))))
   |none=>none) else none
  |_=>none) else none
 |_=>none
 else none
def rB (st:SS τ dn) (sz:Nat) (a:SV τ dn) (x:Int) (lit:Bool):Option (SR τ dn):=
 match a with
 | .vl ty xs=>if D.sz ty=sz then some (.val [0<=x/\x<xs.length] (.pim (D.es ty (gd (D.df ty) xs x.toNat)) 0)) else none
 | .vc q els=>bif lit then (if q=sz/\0<=x then (els[x.toNat]?).map fun cs=> .val [] (.pim cs 0) else none) else none
 | .own nm q=>if q=sz then (match st.gm nm with
  |some (.bl _ xs)=>some (.val [0<=x/\x<xs.length] (.ref nm sz x.toNat 0))
  |some (.bc _ els)=>bif lit then (if 0<=x/\x<els.length then some (.val [] (.ref nm sz x.toNat 0)) else none) else some (.val [0<=x/\x<els.length] (.ref nm sz x.toNat 0))
  |_=>none) else none
 | .part nm q off len=>if q=sz then (st.gm nm).map fun _=> .val [0<=x/\x<len] (.ref nm sz (off+x.toNat) 0) else none
 |_=>none
def rC (st:SS τ dn):Bool->SV τ dn->Option (SR τ dn)
 |true, .vz s=>some (.val [] (.vi (s.size:Int)))
 |false, .vl _ xs=>some (.val [] (.vi (xs.length:Int)))
 |false, .vc _ els=>some (.val [] (.vn (els.length:Int)))
 |false, .emp=>some (.val [] (.vn 0))
 |false, .own nm _=>(st.gm nm).map fun B=> .val [] B.Cg
 |false, .part nm _ _ n=>(st.gm nm).map fun _=> .val [] (.vi (n:Int))
 |_,_=>none
def rD (st:SS τ dn):NK->Bool->SV τ dn->Option (SR τ dn)
 | .fn,neg, .fn _ _=>some (.val [] (.vt neg))
 | .fn,neg, .bf _ _=>some (.val [] (.vt neg))
 | .fn,neg, .vo .nilFunc=>some (.val [] (.vt !neg))
 | .pt,neg, .ref nm _ _ _=>(st.gm nm).map fun _=> .val [] (.vt neg)
 | .pt,neg, .pim _ _=>some (.val [] (.vt neg))
 | .pt,neg, .vo (.pointer none)=>some (.val [] (.vt !neg))
 | .sl,neg, .vl _ xs=>some (.val [xs≠[]] (.vt neg))
 |_,_,_=>none
def rE (st:SS τ dn) (sz:Nat) (a:SV τ dn) (lo hi:Option Int):Option (SR τ dn):=
 match a with
 | .vl ty xs=>if D.sz ty=sz then some (.val (lL xs.length lo hi) (.vl ty (x5 xs lo hi))) else none
 | .emp=>match lo,hi with
  |none,none=>some (.val [] .emp)
  |_,_=>none
 | .own nm q=>if q=sz then (match lo,hi with
  |none,none=>(st.gm nm).map fun _=> .val [] (.own nm q)
  |_,_=>(st.gm nm).map fun B=> .val (lL B.len lo hi) (.part nm sz (lo.getD 0).toNat ((hi.getD B.len).toNat - (lo.getD 0).toNat))) else none
 |_=>none
def tU (st:SS τ dn) (sz bytes:Nat) (s x:SV τ dn):Option (SR τ dn):=
 match st.cont D sz x with
 |some ys=>match s with
  | .emp=>some (.new [ys.len*bytes<=140737488355328] (.own st.nx sz) (ys.kF sz))
  | .own nm q=>if q=sz/\st.rw nm=true then (match st.gm nm with
   |some B=>if B.sz D=sz then (n9 D sz B ys).map fun B'=> .mov [(B.len+ys.len)*bytes<=140737488355328] (.own st.nx sz) nm B' else none
   |none=>none) else none
  |_=>none
 |none=>none
def JL (bytes:Nat):List AV->Nat
 | .v (.bool _)::_=>1000+bytes
 |_=>bytes
def rF:List (List (SV τ dn))->Option (List UInt8)
 |[]=>some []
 |[.vy b]::r=>match rF r with
  |some l=>some (b::l)
  |none=>none
 |_=>none
def rG (st:SS τ dn) (v:SV τ dn):Option (SR τ dn):=match st.cont D 1 v with
 |some (.ty t xs)=>match D.bt t with
  |some p=>some (.val [] (.vz ⟨(xs.map p.1).toArray⟩))
  |none=>none
 |some (.li els)=>match rF els with
  |some l=>some (.val [] (.vz ⟨l.toArray⟩))
  |none=>none
 |none=>none
def rH (st:SS τ dn) (s:ByteArray):Option (SR τ dn):=match D.hint 1 1 with
 |some t=>match D.bt t with
  |some p=>if D.sz t=1 then some (.new [s.size<=140737488355328] (.own st.nx 1) (.bl t (s.data.toList.map p.2))) else none
  |none=>none
 |none=>none
def rI (st:SS τ dn) (sz bytes:Nat) (zs:List AV) (l c:Int):Option (SR τ dn):=
 match D.hint sz (JL bytes zs),jU zs with
 |some ty,some cs=>if D.sz ty=sz/\D.n8 ty cs=true then (match D.ds ty cs with
  |some z=>some (.new [0<=l/\l<=c/\c*bytes<=140737488355328] (.own st.nx sz) (.bl ty (List.replicate l.toNat z)))
  |none=>none) else none
 |_,_=>none
def tV (st:SS τ dn) (sz:Nat) (x y:SV τ dn):Option (SR τ dn):=
 match x,st.cont D sz y with
 | .own nm q,some (.ty ty ys)=>if q=sz/\st.rw nm=true then (match st.gm nm with
  |some (.bl mM xs)=>if h:ty=mM then (if D.sz mM=sz then some (.put [] (.vi ((min ys.length xs.length:Nat):Int)) nm (.bl mM (((h▸ys):List (dn mM)).take xs.length++xs.drop (min ys.length xs.length)))) else none) else none
  |_=>none) else none
 |_,_=>none
def SV.key:SV τ dn->Option Value
 | .vn x=>some (.int .i64 x)
 | .vt b=>some (.bool b)
 | .vz s=>some (.string s)
 |_=>none
def lM (kd:LK) (k:Value):List (List (SV τ dn))->Option (Option (SV τ dn))
 |[]=>some none
 |[kv,x]::r=>match kv.key with
  |some k'=>match keyEq kd k k' with
   |some true=>some (some x)
   |some false=>lM kd k r
   |none=>none
  |none=>none
 |_=>none
def lN:List (List (SV τ dn))->Option (List (Int×Int))
 |[]=>some []
 |[.vn k,x]::r=>match x.int,lN r with
  |some (v,_),some l=>some ((k,v)::l)
  |_,_=>none
 |_=>none
def tW (z x:Int):List (Int×Int)->Int
 |[]=>z
 |(k,v)::r=>if x=k then v else tW z x r
def tY (st:SS τ dn) (kd:LK) (x k y:SV τ dn):Option (SR τ dn):=
 match x,k.key with
 | .mp nm,some key=>match st.gm nm with
  |some (.mc els)=>bif st.rw nm&&plainV key then (match lM kd key els with
   |some none=>some (.put [] (.vo undef) nm (.mc (els++[[k,y]])))
   |_=>none) else none
  |_=>none
 |_,_=>none
def tZ (st:SS τ dn) (kd:LK) (z:AV) (x k:SV τ dn):Option (SR τ dn):=
 match x,jT z with
 | .mp nm,some zs=>match st.gm nm with
  |some (.mc els)=>match k with
   | .vi n=>match kd,lN els,zs.int with
    | .int,some l,some (zi,_)=>some (.val [] (.vi (tW zi n l)))
    |_,_,_=>none
   |k=>match k.key with
    |some key=>(lM kd key els).map fun r=> .val [] (r.getD zs)
    |none=>none
  |_=>none
 |_,_=>none
def sx (st:SS τ dn):AO->Option (SR τ dn)
 | .mov x=>(st.ev x).map (.val [])
 | .new zs=>(jU zs).map fun cs=> .new [] (.ref st.nx zs.length 0 0) (.bc zs.length [cs])
 | .box n x=>match st.ev x with
  |some v=>if v.cells.length=n/\v.gS=true/\v.cells.all SV.one=true then some (.new [] (.ref st.nx n 0 0) (.bc n [v.cells])) else none
  |none=>none
 | .agg zs parts=>match jU zs with
  |some cs=>(rz st cs parts).map fun cs=> .val [] (.agg cs)
  |none=>none
 | .bsl sz ln zs parts=>match jU zs with
  |some cs=>(mL st sz (List.replicate ln cs) parts).map fun els=> .new [] (.own st.nx sz) (.bc sz els)
  |none=>none
 | .load m x=>(st.ev x).bind (oa D st m)
 | .store n x y=>match st.ev x,st.ev y with
  |some a,some b=>tT D st n a b
  |_,_=>none
 | .nilc x=>match st.ev x with
  |some (.ref nm sz i o)=>(st.gm nm).map fun _=> .val [] (.ref nm sz i o)
  |some (.pim cs o)=>some (.val [] (.pim cs o))
  |_=>none
 | .bin bt op x y=>match st.ev x,st.ev y with
  |some a,some b=>ru D.neg bt op a b
  |_,_=>none
 | .un op x=>(st.ev x).bind (rv op)
 | .conv k x=>(st.ev x).bind (ry k)
 | .fad off x=>match st.ev x with
  |some (.ref nm sz i o)=>(st.gm nm).map fun _=> .val [] (.ref nm sz i (o+off))
  |some (.pim cs o)=>some (.val [] (.pim cs (o+off)))
  |_=>none
 | .fld off m x=>match st.ev x with
  |some (.agg cs)=>(lJ cs off m).map (.val [])
  |_=>none
 | .iad sz x i=>match st.ev x,st.ev i with
  |some a,some b=>match b.int with
   |some (k,lit)=>rB D st sz a k lit
   |none=>none
  |_,_=>none
 | .iap sz ln x i=>match st.ev x,st.ev i with
  |some (.ref nm s e o),some (.vn k)=>if 0<=k/\k<ln/\(st.gm nm).isSome=true then some (.val [] (.ref nm s e (o+k.toNat*sz))) else none
  |some (.pim cs o),some (.vn k)=>if 0<=k/\k<ln then some (.val [] (.pim cs (o+k.toNat*sz))) else none
  |_,_=>none
 | .ixa sz ln m x i=>match st.ev x,st.ev i with
  |some (.agg cs),some (.vn k)=>if 0<=k/\k<ln then (lJ cs (k.toNat*sz) m).map (.val []) else none
  |_,_=>none
 | .mkm=>some (.new [] (.mp st.nx) (.mc []))
 | .mup kd x k y=>match st.ev x,st.ev k,st.ev y with
  |some a,some b,some c=>tY st kd a b c
  |_,_,_=>none
 | .mlk kd z x k=>match st.ev x,st.ev k with
  |some a,some b=>tZ st kd z a b
  |_,_=>none
 | .ext i x=>match st.ev x with
  |some (.aK vs)=>(vs[i]?).map (.val [])
  |_=>none
 | .len s x=>(st.ev x).bind (rC st s)
 | .isn kd neg x=>(st.ev x).bind (rD st kd neg)
 | .mnx mx x y=>match st.ev x,st.ev y with
  |some a,some b=>match a.int,b.int with
   |some (x,_),some (y,_)=>some (.val [] (.vi (if mx then max x y else min x y)))
   |_,_=>none
  |_,_=>none
 | .eqs neg n L x y=>match st.ev x,st.ev y with
  |some (.agg cs),some (.agg ds)=>if cs.length=n/\ds.length=n then (match rA cs ds L with
   |some v=>(if neg then rn v else some v).map (.val [])
   |none=>none) else none
  |_,_=>none
 | .msl sz bytes zs l c=>match st.ev l,st.ev c with
  |some a,some b=>match a.int,b.int with
   |some (x,_),some (y,_)=>rI D st sz bytes zs x y
   |_,_=>none
  |_,_=>none
 | .slc sz x lo hi none=>match st.ev x,lK st lo,lK st hi with
  |some a,some l,some h=>rE D st sz a l h
  |_,_,_=>none
 | .sls x lo hi=>match st.ev x,lK st lo,lK st hi with
  |some (.vz s),some l,some h=>some (.val (lL s.size l h) (.vz (s.extract (l.getD 0).toNat (h.getD s.size).toNat)))
  |_,_,_=>none
 | .six x i=>match st.ev x,st.ev i with
  |some (.vz s),some b=>match b.int with
   |some (k,_)=>some (.val [0<=k/\k<s.size] (.vy (gb s k.toNat)))
   |none=>match b with
    | .vw _ k=>some (.val [0<=k/\k<s.size] (.vy (gb s k.toNat)))
    | .vy y=>some (.val [y.toNat<s.size] (.vy (gb s y.toNat)))
    |_=>none
  |_,_=>none
 | .b2s x=>match st.ev x with
  |some v=>rG D st v
  |none=>none
 | .s2b x=>match st.ev x with
  |some (.vz s)=>rH D st s
  |_=>none
 | .app sz bytes s x=>match st.ev s,st.ev x with
  |some a,some b=>tU D st sz bytes a b
  |_,_=>none
 | .cpy sz x y=>match st.ev x,st.ev y with
  |some a,some b=>tV D st sz a b
  |_,_=>none
 | .mkf f caps=>(caps.mapM st.ev).map fun cs=> .val [] (.fn f cs)
 | .mkb f caps=>(caps.mapM st.ev).map fun cs=> .val [] (.bf f cs)
 |_=>none
end
open Go.RowKit
section
variable {τ:Type} {dn:τ->Type} (E:TE τ dn) (N:aC)
theorem ua {x:Value} {v:SV τ dn} (h:po x=some v):v.av E N= .v x:=by
 unfold po at h
 split at h<;>first
  |(simp only [OG] at h;subst h;rfl)
  |skip
 ·split at h
  ·rename_i k hk
   simp only [OG] at h;subst h
   have e:(UInt8.ofNat k.toNat).toNat=k.toNat%256:=UInt8.toNat_ofNat ..
   simp only [SV.av,e]
   congr 2;omega
  ·simp at h
 ·split at h
  ·rename_i k hk
   simp only [OG] at h;subst h
   have e:(uN k.toNat).n=k.toNat:=xT (by omega)
   simp only [SV.av,e]
   congr 2;omega
  ·simp at h
 ·split at h
  ·rename_i vs hk
   simp only [OG] at h;subst h
   simp only [SV.av,undef]
   congr 2
   simpa using hk.symm
  ·simp at h
 ·simp at h
mutual
theorem x6:∀{a:AV} {v:SV τ dn},jT a=some v->v.av E N=a
 | .v x,v,h=>by simp only [jT] at h;exact ua E N h
 | .agg cs,v,h=>by
  simp only [jT,OM] at h
  obtain ⟨l,hl,rfl⟩:=h
  simp only [SV.av,mN hl]
 | .emp,v,h=>by simp only [jT,OG] at h;subst h;rfl
 | .fn f cs,v,h=>by
  simp only [jT,OM] at h
  obtain ⟨l,hl,rfl⟩:=h
  simp only [SV.av,mN hl]
 | .pim cs o,v,h=>by
  simp only [jT,OM] at h
  obtain ⟨l,hl,rfl⟩:=h
  simp only [SV.av,mN hl]
 | .dead,v,h=>by simp only [jT,OG] at h;subst h;rfl
 | .aK _,v,h| .aX _ _,v,h| .ct _ _,v,h| .ref _ _ _ _,v,h| .own _ _ _ _,v,h| .bf _ _,v,h| .af _ _,v,h| .mp _,v,h| .de,v,h=>by simp [jT] at h
theorem mN:∀{as_:List AV} {l:List (SV τ dn)},jU as_=some l->SV.cz E N l=as_
 |[],l,h=>by simp only [jU,OG] at h;subst h;rfl
 |a::r,l,h=>by
  simp only [jU] at h
  split at h
  ·rename_i v l' h1 h2
   simp only [OG] at h;subst h
   simp only [SV.cz,x6 h1,mN h2]
  ·simp at h
end
end
section
variable {τ:Type} {dn:τ->Type} {D:TD τ dn} {N:aC} {st:SS τ dn} {σ:Nat->AV} {g:Nat->Option Bk}
def SS.bB (st:SS τ dn) (nm:Nat) (B:SB τ dn):Prop:=getS st.m nm=some (some B)\/getS st.rm nm=some (some B)
theorem gL {st:SS τ dn} {B:SB τ dn} (h:st.gm nm=some B):st.bB nm B:=by
 unfold SS.gm at h
 split at h
 ·rename_i b hb;subst h;exact .inl hb
 ·rw [Option.join_eq_some_iff] at h;exact .inr h
structure bm (D:TD τ dn) (N:aC) (st:SS τ dn) (σ:Nat->AV) (g:Nat->Option Bk):Prop where
 sl:∀i v,getS st.t i=some v->σ i=v.av D.toTE N
 rs:∀i v,getS st.rt i=some v->σ i=v.av D.toTE N
 bl:∀nm B,getS st.m nm=some (some B)->g (N.ι nm)=some (B.av D.toTE N)/\N.ln nm=B.len
 rb:∀nm B,getS st.rm nm=some (some B)->g (N.ι nm)=some (B.av D.toTE N)/\N.ln nm=B.len
 ar:∀t A,st.bB 0 (.ar t A)->∀id,dA A id->g id=some ⟨D.sz t,(fD A id).map (D.ea N.ρ t)⟩
theorem bm.gt (R:bm D N st σ g) {i:Nat} {v:SV τ dn} (h:st.gt i=some v):σ i=v.av D.toTE N:=by
 unfold SS.gt at h
 split at h
 ·rename_i w hw;simp only [OG] at h;subst h;exact R.sl i _ hw
 ·exact R.rs i v h
theorem bm.gm (R:bm D N st σ g) {nm:Nat} {B:SB τ dn} (h:st.gm nm=some B):g (N.ι nm)=some (B.av D.toTE N)/\N.ln nm=B.len:=by
 unfold SS.gm at h
 split at h
 ·rename_i b hb;subst h;exact R.bl nm B hb
 ·rw [Option.join_eq_some_iff] at h;exact R.rb nm B h
theorem bm.ev (R:bm D N st σ g) {a:Arg} {v:SV τ dn} (h:st.ev a=some v):aG σ a=v.av D.toTE N:=by
 cases a with
 |s i=>exact R.gt h
 |c a=>exact (x6 _ _ h).symm
def SR.O:SR τ dn->List Prop
 | .val O _| .new O _ _| .put O _ _ _| .mov O _ _ _| .ga O _ _| .eF O _ _ _ _ _=>O
def SR.v:SR τ dn->SV τ dn
 | .val _ v| .new _ v _| .put _ v _ _| .mov _ v _ _| .ga _ v _| .eF _ v _ _ _ _=>v
def SR.ups (D:TD τ dn) (N:aC) (k:Nat):SR τ dn->List (Nat×Option Bk)
 | .val _ _=>[]
 | .new _ _ B=>[(k,some (B.av D.toTE N))]
 | .put _ _ nm B=>[(N.ι nm,some (B.av D.toTE N))]
 | .mov _ _ old B=>[(N.ι old,none),(k,some (B.av D.toTE N))]
 | .ga _ _ ns=>(ns.map N.ι).map fun i=>(i,none)
 | .eF _ _ id t row _=>[(id,some ⟨D.sz t,row.map (D.ea N.ρ t)⟩)]
def SR.fresh (N:aC) (nx k:Nat):SR τ dn->Prop
 | .new _ _ B| .mov _ _ _ B=>N.ι nx=k/\N.ln nx=B.len
 |_=>True
def SR.Good (D:TD τ dn) (N:aC) (nx:Nat) (σ:Nat->AV) (g:Nat->Option Bk) (ao:AO) (r:SR τ dn):Prop:=
 ∀k,(∀p,p∈r.O->p)->r.fresh N nx k->(ao.au k (aG σ)).run g=some (.done (r.v.av D.toTE N) (r.ups D N k))
theorem ub {a:SV τ dn} {x:Value} (h:a.lit=some x):a.av D.toTE N= .v x:=by
 cases a<;>simp [SV.lit] at h<;>subst h<;>rfl
theorem eG {a:SV τ dn} {x:Int} (h:a.int=some (x,l)):a.av D.toTE N= .v (.int .i64 x):=by
 cases a<;>simp [SV.int] at h<;>obtain ⟨rfl,_⟩:=h<;>rfl
theorem Ci {bt:Bool} {a b v:SV τ dn} (h:rp bt op a b=some v):∃x y w,a.av D.toTE N= .v x/\b.av D.toTE N= .v y/\binA bt op x y=some w/\v.av D.toTE N= .v w:=by
 unfold rp at h
 split at h
 ·rename_i x y h1 h2
  split at h
  ·rename_i w h3
   exact ⟨x,y,w,ub h1,ub h2,h3,ua _ _ h⟩
  ·simp at h
 ·simp at h
def rJ (D:TD τ dn) (N:aC) (bt:Bool) (op:BinOp) (a b:SV τ dn) (r:SR τ dn):Prop:=
 (∀p,p∈r.O->p)->∃O v x y w,r= .val O v/\a.av D.toTE N= .v x/\b.av D.toTE N= .v y/\binA bt op x y=some w/\v.av D.toTE N= .v w
theorem JM {bt:Bool} {a b:SV τ dn} {x y:Int} {l':Bool} (ha:a.int=some (x,l)) (hb:b.int=some (y,l')) {r:SR τ dn} (h:rq neg op x y=some r):rJ D N bt op a b r:=by
 have h1:=eG (D:=D) (N:=N) ha
 have h2:=eG (D:=D) (N:=N) hb
 intro hO
 have key:∀O v,r= .val O v->(∃w,binA bt op (.int .i64 x) (.int .i64 y)=some w/\v.av D.toTE N= .v w)->∃O v x y w,r= .val O v/\a.av D.toTE N= .v x/\b.av D.toTE N= .v y/\binA bt op x y=some w/\v.av D.toTE N= .v w:=
  fun O v hr ⟨w,gY,hw2⟩=>⟨O,v,_,_,w,hr,h1,h2,gY,hw2⟩
 cases op<;>simp only [rq,OG,reduceCtorEq] at h
 case add=>subst h;exact key _ _ rfl ⟨_,rfl,by simp only [SR.O,OP,O3] at hO;rw [hO.wr];rfl⟩
 case sub=>subst h;exact key _ _ rfl ⟨_,rfl,by simp only [SR.O,OP,O3] at hO;rw [hO.wr];rfl⟩
 case mul=>subst h;exact key _ _ rfl ⟨_,rfl,by simp only [SR.O,OP,O3] at hO;rw [hO.wr];rfl⟩
 case quo=>
  cases neg with
  |true=>
   simp only [OL,OG] at h;subst h
   simp only [SR.O,OU,PM,or_false,Qb,O3] at hO
   exact key _ _ rfl ⟨_,by simp only [binA,OK];rw [OH hO.1],by rw [hO.2.wr];rfl⟩
  |false=>
   simp only [O0,OG] at h;subst h
   simp only [SR.O,OP,O3] at hO
   exact key _ _ rfl ⟨_,by simp only [binA,OK];rw [OH (by omega)],by rw [JJ hO];rfl⟩
 case rem=>
  cases neg with
  |true=>
   simp only [OL,OG] at h;subst h
   simp only [SR.O,OP,O3] at hO
   exact key _ _ rfl ⟨_,by simp only [binA,OK];rw [OH hO],rfl⟩
  |false=>
   simp only [O0,OG] at h;subst h
   simp only [SR.O,OP,O3] at hO
   exact key _ _ rfl ⟨_,by simp only [binA,OK];rw [OH hO.2],by rw [JK hO.1];rfl⟩
 case and=>subst h;simp only [SR.O,OP,O3] at hO;exact key _ _ rfl ⟨_,rfl,by rw [xV _ _ _ hO.1 hO.2.1 hO.2.2.1 hO.2.2.2];rfl⟩
 case or=>subst h;simp only [SR.O,OP,O3] at hO;exact key _ _ rfl ⟨_,rfl,by rw [xV _ _ _ hO.1 hO.2.1 hO.2.2.1 hO.2.2.2];rfl⟩
 case xor=>subst h;simp only [SR.O,OP,O3] at hO;exact key _ _ rfl ⟨_,rfl,by rw [xV _ _ _ hO.1 hO.2.1 hO.2.2.1 hO.2.2.2];rfl⟩
 case shl=>subst h;simp only [SR.O,OP,O3] at hO;exact key _ _ rfl ⟨_,by simp only [binA];rw [OH (by omega)],by rw [JH _ _ hO.2];rfl⟩
 case shr=>subst h;simp only [SR.O,OP,O3] at hO;exact key _ _ rfl ⟨_,by simp only [binA];rw [OH (by omega)],by rw [JI _ _ (by omega)];rfl⟩
 case eql=>subst h;exact key _ _ rfl ⟨_,rfl,rfl⟩
 case neq=>subst h;exact key _ _ rfl ⟨_,rfl,rfl⟩
 case lss=>subst h;exact key _ _ rfl ⟨_,rfl,rfl⟩
 case leq=>subst h;exact key _ _ rfl ⟨_,rfl,rfl⟩
 case gtr=>subst h;exact key _ _ rfl ⟨_,rfl,rfl⟩
 case geq=>subst h;exact key _ _ rfl ⟨_,rfl,rfl⟩
theorem JN {bt:Bool} {x y:UInt8} {v:SV τ dn} (h:oY op x y=some v):rJ D N bt op (.vy x) (.vy y) (.val [] v):=by
 intro _
 have key:(∃w,binA bt op (.int .u8 (x.toNat:Int)) (.int .u8 (y.toNat:Int))=some w/\v.av D.toTE N= .v w)->∃O v' x' y' w,(SR.val [] v:SR τ dn)= .val O v'/\(SV.vy x:SV τ dn).av D.toTE N= .v x'/\(SV.vy y:SV τ dn).av D.toTE N= .v y'/\binA bt op x' y'=some w/\v'.av D.toTE N= .v w:=
  fun ⟨w,h1,h2⟩=>⟨_,_,_,_,w,rfl,rfl,rfl,h1,h2⟩
 refine key ?_
 cases op<;>simp only [oY,OG,reduceCtorEq] at h<;>subst h
 case add=>exact ⟨_,rfl,by rw [JB];rfl⟩
 case sub=>exact ⟨_,rfl,by rw [JC];rfl⟩
 case mul=>exact ⟨_,rfl,by rw [JD];rfl⟩
 case and=>exact ⟨_,rfl,by rw [xX];rfl⟩
 case or=>exact ⟨_,rfl,by rw [xX];rfl⟩
 case xor=>exact ⟨_,rfl,by rw [xX];rfl⟩
 case eql=>exact ⟨_,rfl,by simp only [SV.av,Cn.den];congr 2;rw [P4];simp [<-UInt8.toNat_inj];omega⟩
 case neq=>exact ⟨_,rfl,by simp only [SV.av,Cn.den];congr 2;rw [P4];simp [<-UInt8.toNat_inj];omega⟩
 case lss=>exact ⟨_,rfl,by simp only [SV.av,Cn.den];congr 2;rw [P4];simp [UInt8.lt_iff_toNat_lt]⟩
 case leq=>exact ⟨_,rfl,by simp only [SV.av,Cn.den];congr 2;rw [P4];simp [UInt8.le_iff_toNat_le]⟩
 case gtr=>exact ⟨_,rfl,by simp only [SV.av,Cn.den];congr 2;rw [P4];simp [UInt8.lt_iff_toNat_lt]⟩
 case geq=>exact ⟨_,rfl,by simp only [SV.av,Cn.den];congr 2;rw [P4];simp [UInt8.le_iff_toNat_le]⟩
theorem JO {bt:Bool} {x y:eo} {v:SV τ dn} (h:oU op x y=some v):rJ D N bt op (.vu x) (.vu y) (.val [] v):=by
 intro _
 have key:(∃w,binA bt op (.int .u64 (x.n:Int)) (.int .u64 (y.n:Int))=some w/\v.av D.toTE N= .v w)->∃O v' x' y' w,(SR.val [] v:SR τ dn)= .val O v'/\(SV.vu x:SV τ dn).av D.toTE N= .v x'/\(SV.vu y:SV τ dn).av D.toTE N= .v y'/\binA bt op x' y'=some w/\v'.av D.toTE N= .v w:=
  fun ⟨w,h1,h2⟩=>⟨_,_,_,_,w,rfl,rfl,rfl,h1,h2⟩
 refine key ?_
 cases op<;>simp only [oU,OG,reduceCtorEq] at h<;>subst h
 case add=>exact ⟨_,rfl,by rw [JE];rfl⟩
 case sub=>exact ⟨_,rfl,by rw [JF];rfl⟩
 case mul=>exact ⟨_,rfl,by rw [JG];rfl⟩
 case and=>exact ⟨_,rfl,by rw [rf];rfl⟩
 case or=>exact ⟨_,rfl,by rw [rf];rfl⟩
 case xor=>exact ⟨_,rfl,by rw [rf];rfl⟩
 case andNot=>exact ⟨_,rfl,by rw [rf];rfl⟩
 all_goals exact ⟨_,rfl,rfl⟩
theorem JP {bt:Bool} {x y:ByteArray} {r:SR τ dn} (h:oZ op x y=some r):rJ D N bt op (.vz x) (.vz y) r:=by
 intro hO
 cases op<;>simp only [oZ,OG,reduceCtorEq] at h<;>subst h
 case add=>
  simp only [SR.O,OP,O3] at hO
  exact ⟨_,_,_,_,_,rfl,rfl,rfl,by simp only [binA];rw [OH (by rw [show IntKind.i64.max=9223372036854775807 from rfl];omega)],rfl⟩
 all_goals exact ⟨_,_,_,_,_,rfl,rfl,rfl,rfl,rfl⟩
theorem x7 {a b v:SV τ dn} (h:rr a b=some v):∃x y,a.av D.toTE N= .v (.bool x)/\b.av D.toTE N= .v (.bool y)/\v.av D.toTE N= .v (.bool (x==y)):=by
 unfold rr at h
 split at h<;>simp only [OG,reduceCtorEq] at h<;>subst h
 ·rename_i c b;exact ⟨_,_,rfl,rfl,by cases b<;>simp [SV.av,Cn.den]⟩
 ·rename_i b c;exact ⟨_,_,rfl,rfl,by cases b<;>simp [SV.av,Cn.den]<;>cases c.den<;>rfl⟩
 ·exact ⟨_,_,rfl,rfl,rfl⟩
theorem x8 {a v:SV τ dn} (h:rn a=some v):∃x,a.av D.toTE N= .v (.bool x)/\v.av D.toTE N= .v (.bool !x):=by
 unfold rn at h
 split at h<;>simp only [OG,reduceCtorEq] at h<;>subst h
 ·exact ⟨_,rfl,rfl⟩
 ·exact ⟨_,rfl,rfl⟩
theorem JQ {bt:Bool} {a b:SV τ dn} {r:SR τ dn} (h:ru neg bt op a b=some r):rJ D N bt op a b r:=by
 unfold ru at h
 split at h
 ·rename_i v hv
  simp only [OG] at h;subst h
  intro _
  obtain ⟨x,y,w,h1,h2,h3,h4⟩:=Ci (D:=D) (N:=N) hv
  exact ⟨_,_,_,_,_,rfl,h1,h2,h3,h4⟩
 ·split at h
  ·rename_i ha hb;exact JM ha hb h
  ·split at h
   ·simp only [OM] at h;obtain ⟨v,hv,rfl⟩:=h;exact JN hv
   ·simp only [OM] at h;obtain ⟨v,hv,rfl⟩:=h;exact JO hv
   ·exact JP h
   ·split at h<;>simp only [OG,reduceCtorEq] at h<;>subst h<;>intro hO<;>simp only [SR.O,OP,O3] at hO
    ·exact ⟨_,_,_,_,_,rfl,rfl,rfl,by simp only [binA];rw [OH (by omega)],by rw [Cb];rfl⟩
    ·exact ⟨_,_,_,_,_,rfl,rfl,rfl,by simp only [binA];rw [OH (by omega)],by rw [Cc];rfl⟩
   ·split at h<;>simp only [OG,reduceCtorEq] at h<;>subst h<;>intro hO<;>simp only [SR.O,OP,O3] at hO
    ·exact ⟨_,_,_,_,_,rfl,rfl,rfl,by simp only [binA];rw [OH (by omega)],by rw [Cb];rfl⟩
    ·exact ⟨_,_,_,_,_,rfl,rfl,rfl,by simp only [binA];rw [OH (by omega)],by rw [Cc];rfl⟩
   ·split at h<;>simp only [OG,reduceCtorEq] at h<;>subst h<;>intro hO<;>simp only [SR.O,OP,O3] at hO
    ·exact ⟨_,_,_,_,_,rfl,rfl,rfl,by simp only [binA];rw [OH (by omega)],by rw [Cd];rfl⟩
    ·exact ⟨_,_,_,_,_,rfl,rfl,rfl,by simp only [binA];rw [OH (by omega)],by rw [Ce];rfl⟩
   ·split at h<;>simp only [OG,reduceCtorEq] at h<;>subst h<;>intro hO<;>simp only [SR.O,OP,O3] at hO
    ·exact ⟨_,_,_,_,_,rfl,rfl,rfl,by simp only [binA];rw [OH (by omega)],by rw [Cd];rfl⟩
    ·exact ⟨_,_,_,_,_,rfl,rfl,rfl,by simp only [binA];rw [OH (by omega)],by rw [Ce];rfl⟩
   ·split at h
    ·rename_i hq
     subst hq
     split at h<;>simp only [OG,reduceCtorEq] at h<;>subst h<;>intro _<;>exact ⟨_,_,_,_,_,rfl,rfl,rfl,by simp only [binA,OK]<;>rfl,rfl⟩
    ·simp at h
   ·split at h<;>simp only [OG,reduceCtorEq] at h<;>subst h<;>intro hO<;>simp only [SR.O,OP,O3] at hO
    ·exact ⟨_,_,_,_,_,rfl,rfl,rfl,by simp only [binA];rw [OH (by omega)],rfl⟩
    ·exact ⟨_,_,_,_,_,rfl,rfl,rfl,by simp only [binA];rw [OH (by omega)],rfl⟩
   ·split at h<;>simp only [OG,reduceCtorEq] at h<;>subst h<;>intro hO<;>simp only [SR.O,OP,O3] at hO
    ·exact ⟨_,_,_,_,_,rfl,rfl,rfl,by simp only [binA];rw [OH (by omega)],rfl⟩
    ·exact ⟨_,_,_,_,_,rfl,rfl,rfl,by simp only [binA];rw [OH (by omega)],rfl⟩
   ·split at h<;>simp only [OG,reduceCtorEq] at h<;>subst h<;>intro _
    ·exact ⟨_,_,_,_,_,rfl,rfl,rfl,by simp only [binA];rw [OH (by omega)],by rw [PK];rfl⟩
    ·exact ⟨_,_,_,_,_,rfl,rfl,rfl,by simp only [binA];rw [OH (by omega)],by rw [PK];rfl⟩
   ·split at h
    ·rename_i JR
     subst JR
     split at h
     ·simp only [OM] at h;obtain ⟨v,hv,rfl⟩:=h
      obtain ⟨x,y,h1,h2,h3⟩:=x7 (D:=D) (N:=N) hv
      intro _;exact ⟨_,_,_,_,_,rfl,h1,h2,rfl,h3⟩
     ·simp only [OM,Qc] at h;obtain ⟨v,⟨w,hw,hv⟩,rfl⟩:=h
      obtain ⟨x,y,h1,h2,h3⟩:=x7 (D:=D) (N:=N) hw
      obtain ⟨z,h4,h5⟩:=x8 (D:=D) (N:=N) hv
      rw [h3] at h4;simp only [AV.v.injEq,Value.bool.injEq] at h4;subst h4
      intro _;exact ⟨_,_,_,_,_,rfl,h1,h2,rfl,h5⟩
     ·simp at h
    ·simp at h
theorem JS {op:UnOp} {a:SV τ dn} {r:SR τ dn} (h:rv op a=some r):(∀p,p∈r.O->p)->∃O v x w,r= .val O v/\a.av D.toTE N= .v x/\unA op x=some w/\v.av D.toTE N= .v w:=by
 intro hO
 unfold rv at h
 split at h
 ·simp only [OM] at h;obtain ⟨v,hv,rfl⟩:=h
  exact ⟨_,_,_,_,rfl,rfl,rfl,ua _ _ hv⟩
 ·simp only [OG] at h;subst h
  simp only [SR.O,OP,O3] at hO
  exact ⟨_,_,_,_,rfl,rfl,rfl,by rw [hO.wr];rfl⟩
 ·simp only [OG] at h;subst h
  rename_i x
  refine ⟨_,_,_,_,rfl,rfl,rfl, ?_⟩
  have e:(if IntKind.u64.signed=true then (-1:Int) else IntKind.u64.max)=((uN 18446744073709551615).n:Int):=rfl
  rw [e,rf];rfl
 ·simp only [OM] at h;obtain ⟨v,hv,rfl⟩:=h
  obtain ⟨x,h1,h2⟩:=x8 (D:=D) (N:=N) hv
  exact ⟨_,_,_,_,rfl,h1,rfl,h2⟩
 ·simp at h
theorem JT {a:SV τ dn} {r:SR τ dn} (h:ry k a=some r):(∀p,p∈r.O->p)->∃O v q x,r= .val O v/\a.av D.toTE N= .v (.int q x)/\v.av D.toTE N= .v (.int k (k.wrap x)):=by
 intro hO
 unfold ry at h
 split at h<;>simp only [OM,OG,reduceCtorEq] at h
 ·obtain ⟨v,hv,rfl⟩:=h
  exact ⟨_,_,_,_,rfl,rfl,ua _ _ hv⟩
 all_goals subst h;try simp only [SR.O,OP,O3] at hO
 ·exact ⟨_,_,_,_,rfl,rfl,by rw [hO.wr];rfl⟩
 ·rename_i x;exact ⟨_,_,_,_,rfl,rfl,by rw [bp.wr (x:=(x.toNat:Int)) (by have:=x.toNat_lt;exact ⟨by omega,by omega⟩)];rfl⟩
 ·exact ⟨_,_,_,_,rfl,rfl,by rw [hO.wr];rfl⟩
 ·exact ⟨_,_,_,_,rfl,rfl,by rw [hO.wr];rfl⟩
 ·exact ⟨_,_,_,_,rfl,rfl,by rw [xY hO];rfl⟩
 ·rename_i x;exact ⟨_,_,_,_,rfl,rfl,by rw [xY (Int.natCast_nonneg _)];rfl⟩
 ·exact ⟨_,_,_,_,rfl,rfl,by rw [xY hO];rfl⟩
 ·exact ⟨_,_,_,_,rfl,rfl,by rw [Cf hO];rfl⟩
 ·rename_i x;exact ⟨_,_,_,_,rfl,rfl,by rw [Cf (Int.natCast_nonneg _)];rfl⟩
 all_goals exact ⟨_,_,_,_,rfl,rfl,rfl⟩
theorem pq {cs:List (SV τ dn)} {v:SV τ dn} (h:lJ cs o m=some v):getCells (cs.map (SV.av D.toTE N)) o m=some (v.av D.toTE N):=by
 cases m with
 |none=>simp only [lJ] at h;simp only [getCells,O6,h];rfl
 |some n=>
  simp only [lJ] at h
  split at h
  ·rename_i hl
   simp only [OG] at h;subst h
   simp only [getCells,O7,OI hl,SV.av,SV.bA,List.map_take,List.map_drop]
  ·simp at h
theorem uc {cs:List (SV τ dn)} {ys:List (SV τ dn)}:(mK cs o ys).map (SV.av D.toTE N)=putCells (cs.map (SV.av D.toTE N)) o (ys.map (SV.av D.toTE N)):=by
 simp only [mK,putCells,PL,List.map_take,List.map_drop,O7]
theorem ud {cs:List (SV τ dn)} (h:cs.all SV.one=true):(cs.map (SV.av D.toTE N)).all AV.one=true:=by
 simp only [ON,Pc] at h ⊢
 rintro _ ⟨v,hv,rfl⟩
 exact SV.Ju (h v hv)
theorem Cj (R:bm D N st σ g):∀{parts:List (Nat×Nat×Arg)} {cells l:List (SV τ dn)},rz st cells parts=some l->fillA (aG σ) (cells.map (SV.av D.toTE N)) parts=some (l.map (SV.av D.toTE N))
 |[],cells,l,h=>by simp only [rz,OG] at h;subst h;rfl
 |(off,n,x)::r,cells,l,h=>by
  simp only [rz] at h
  split at h
  ·rename_i v hv
   split at h
   ·rename_i hc
    have hs:=SV.q9 (E:=D.toTE) (N:=N) hc.2.2
    simp only [fillA,R.ev hv,hs,O7,hc.1,hc.2.1,SV.Jv hc.2.2,O5,OK]
    rw [<-uc];exact Cj R h
   ·simp at h
  ·simp at h
theorem Ck (R:bm D N st σ g) {sz:Nat}:∀{parts:List (Nat×Arg)} {els l:List (List (SV τ dn))},mL st sz els parts=some l->fillE (aG σ) sz (els.map fun cs=>cs.map (SV.av D.toTE N)) parts=some (l.map fun cs=>cs.map (SV.av D.toTE N))
 |[],els,l,h=>by simp only [mL,OG] at h;subst h;rfl
 |(i,x)::r,els,l,h=>by
  simp only [mL] at h
  split at h
  ·rename_i v hv
   split at h
   ·rename_i hc
    have hs:=SV.q9 (E:=D.toTE) (N:=N) hc.2.2.1
    simp only [fillE,R.ev hv,hs,O7,hc.1,hc.2.1,ud hc.2.2.2,O5,OK]
    have:=Ck R h
    rw [P5] at this;exact this
   ·simp at h
  ·simp at h
theorem JV {k:LK} {a b v:SV τ dn} (h:x4 k a b=some v):∃x,v.av D.toTE N= .v (.bool x)/\ka k (a.av D.toTE N) (b.av D.toTE N)=some x:=by
 unfold x4 at h
 split at h
 ·split at h
  ·rename_i v hv
   simp only [OG] at h;subst h
   obtain ⟨x,y,w,h1,h2,h3,h4⟩:=Ci (D:=D) (N:=N) hv
   rw [h1,h2]
   unfold rp at hv
   split at hv
   ·rename_i x' y' g1 g2
    rw [ub (D:=D) (N:=N) g1] at h1;rw [ub (D:=D) (N:=N) g2] at h2
    simp only [AV.v.injEq] at h1 h2;subst h1;subst h2
    clear hv
    cases a<;>simp only [SV.lit,OG,reduceCtorEq] at g1<;>subst g1<;>cases b<;>simp only [SV.lit,OG,reduceCtorEq] at g2<;>subst g2
    ·simp only [binA,OK,OG] at h3;subst h3
     exact ⟨_,h4,by simp [ka]⟩
    all_goals simp [binA] at h3
   ·simp at hv
  ·split at h
   ·rename_i ha hb
    simp only [OG] at h;subst h
    rw [eG ha,eG hb]
    exact ⟨_,rfl,by simp [ka,Cn.den]⟩
   ·split at h<;>simp only [OG,reduceCtorEq] at h<;>subst h
    ·exact ⟨_,rfl,by simp [ka,SV.av,Cn.den]⟩
    ·refine ⟨_,rfl, ?_⟩
     simp only [ka,SV.av,Cn.den,OK,OG]
     rw [P4];simp [<-UInt8.toNat_inj];omega
 ·simp only [OG] at h;subst h;exact ⟨_,rfl,rfl⟩
 ·simp only [OG] at h;subst h;exact ⟨_,rfl,rfl⟩
 ·obtain ⟨x,y,h1,h2,h3⟩:=x7 (D:=D) (N:=N) h
  exact ⟨_,h3,by rw [h1,h2];rfl⟩
 ·simp at h
theorem JX {a b v:SV τ dn} (h:xZ a b=some v) {x y:Bool} (hx:a.av D.toTE N= .v (.bool x)) (hy:b.av D.toTE N= .v (.bool y)):v.av D.toTE N= .v (.bool (x&&y)):=by
 unfold xZ at h
 split at h<;>simp only [OG,reduceCtorEq] at h<;>subst h<;>simp only [SV.av,AV.v.injEq,Value.bool.injEq,Cn.den] at hx hy ⊢
 ·subst hx;rw [hy];simp
 ·subst hx;simp
 ·subst hx;simp
 ·subst hx;subst hy;simp
 ·subst hx;subst hy;simp
 ·subst hx;subst hy;rfl
theorem Cl:∀{L:List (Nat×LK)} {cs ds:List (SV τ dn)} {v:SV τ dn},rA cs ds L=some v->∃x,v.av D.toTE N= .v (.bool x)/\eqA (cs.map (SV.av D.toTE N)) (ds.map (SV.av D.toTE N)) L=some x
 |[],cs,ds,v,h=>by simp only [rA,OG] at h;subst h;exact ⟨_,rfl,rfl⟩
 |(o,k)::r,cs,ds,v,h=>by
  simp only [rA] at h
  split at h
  ·rename_i a b ha hb
   split at h
   ·rename_i x y hx hy
    obtain ⟨p,h1,h2⟩:=JV (D:=D) (N:=N) hx
    obtain ⟨q,h3,h4⟩:=Cl hy
    refine ⟨_,JX h h1 h3, ?_⟩
    simp only [eqA,O6,ha,hb,OS,h2,h4]
   ·simp at h
  ·simp at h
end
open Go.RowKit
section
variable {τ:Type} {dn:τ->Type} {D:TD τ dn} {N:aC} {st:SS τ dn} {σ:Nat->AV} {g:Nat->Option Bk}
theorem kG (R:bm D N st σ g) {x:Option Arg} {r:Option Int} (h:lK st x=some r) (h0:∀l,r=some l->0<=l):cR (aG σ) x=some (r.map Int.toNat):=by
 cases x with
 |none=>simp only [lK,OG] at h;subst h;rfl
 |some x=>
  simp only [lK] at h
  split at h
  ·rename_i v hv
   split at h
   ·rename_i k l hk
    simp only [OG] at h;subst h
    have:=h0 k rfl
    simp only [cR,R.ev hv,eG hk,natOf,this,OK,OS]
   ·simp at h
  ·simp at h
theorem Cm (ok:bh D) (R:bm D N st σ g) {v:SV τ dn} (hx:st.ev x=some v) {r:SR τ dn} (h:oa D st m v=some r):r.Good D N st.nx σ g (.load m x):=by
 intro k hO hf
 unfold oa at h
 split at h
 ·rename_i cs o
  simp only [OM] at h;obtain ⟨w,hw,rfl⟩:=h
  have:=pq (D:=D) (N:=N) hw
  simp only [AO.au,R.ev hx,SV.av,SV.bA,this,OS,RM.opt,RM.run,SR.v,SR.ups]
 ·rename_i nm sz i o
  split at h
  ·rename_i ty xs hB
   split at h
   ·rename_i hs
    simp only [OM] at h;obtain ⟨w,hw,rfl⟩:=h
    simp only [SR.O,OP,O3] at hO
    have hg:=(R.gm hB).1
    have hq:=pq (D:=D) (N:=N) hw
    rw [ok.dv] at hq
    simp only [AO.au,R.ev hx,SV.av,RM.run,hg,SB.av,hs,OK,O6,lI (d:=D.df ty) hO,OS,PT,hq,RM.opt,SR.v,SR.ups]
   ·simp at h
  ·rename_i q els hB
   split at h
   ·rename_i hs
    split at h
    ·rename_i cs hcs
     simp only [OM] at h;obtain ⟨w,hw,rfl⟩:=h
     have hg:=(R.gm hB).1
     have hq:=pq (D:=D) (N:=N) hw
     simp only [AO.au,R.ev hx,SV.av,RM.run,hg,SB.av,hs,OK,SV.iL,O6,hcs,OS,PT,hq,RM.opt,SR.v,SR.ups]
    ·simp at h
   ·simp at h
  ·simp at h
 ·simp at h
theorem JY (ok:bh D) (R:bm D N st σ g) {a b:SV τ dn} (hx:st.ev x=some a) (hy:st.ev y=some b) {r:SR τ dn} (h:tT D st n a b=some r):r.Good D N st.nx σ g (.store n x y):=by
 intro k hO hf
 unfold tT at h
 split at h
 case isFalse=>simp at h
 rename_i hc
 have bY:=SV.q9 (E:=D.toTE) (N:=N) hc.2.1
 have dL:=ud (D:=D) (N:=N) hc.2.2
 split at h
 ·rename_i nm sz i o
  split at h
  case isFalse=>simp at h
  rename_i hn
  have hle:=hn.1
  split at h
  ·rename_i ty xs hB
   split at h
   ·rename_i hs
    split at h
    ·rename_i z hz
     simp only [OG] at h;subst h
     simp only [SR.O,OP,O3] at hO
     have hg:=(R.gm hB).1
     have he:=ok.fZ N ty _ z hz hs.2
     rw [uc,ok.dv] at he
     simp only [AO.au,R.ev hx,R.ev hy,SV.av,RM.run,hg,SB.av,hs.1,bY,O7,hc.1,dL,hle,O5,OK,O6,lI (d:=D.df ty) hO,OS,SR.v,SR.ups,he,P5]
    ·simp at h
   ·simp at h
  ·rename_i q els hB
   split at h
   ·rename_i hs
    split at h
    ·rename_i cs hcs
     simp only [OG] at h;subst h
     have hg:=(R.gm hB).1
     simp only [AO.au,R.ev hx,R.ev hy,SV.av,RM.run,hg,SB.av,hs,bY,O7,hc.1,dL,hle,O5,OK,SV.iL,O6,hcs,OS,SR.v,SR.ups,P5,uc]
    ·simp at h
   ·simp at h
  ·simp at h
 ·simp at h
theorem JZ (ok:bh D) (R:bm D N st σ g) {sz:Nat} {a b:SV τ dn} {n:Int} (hx:st.ev x=some a) (hy:st.ev y=some b) (hb:b.int=some (n,l)) {r:SR τ dn} (h:rB D st sz a n l=some r):r.Good D N st.nx σ g (.iad sz x y):=by
 intro k hO hf
 unfold rB at h
 split at h
 ·rename_i ty xs
  split at h
  ·rename_i hs
   simp only [OG] at h;subst h
   simp only [SR.O,OP,O3] at hO
   have hl:n.toNat<xs.length:=by omega
   simp only [AO.au,R.ev hx,R.ev hy,eG hb,SV.av,hs,hO.1,O5,OK,O6,lI (d:=D.df ty) hl,OS,RM.opt,RM.run,SR.v,SR.ups,SV.bA,ok.dv]
  ·simp at h
 ·rename_i q els
  cases l with
  |false=>simp at h
  |true=>
   simp only [OL] at h
   split at h
   ·rename_i hs
    simp only [OM] at h;obtain ⟨cs,hcs,rfl⟩:=h
    simp only [AO.au,R.ev hx,R.ev hy,eG hb,SV.av,hs.1,hs.2,O5,OK,SV.iL,O6,hcs,OS,RM.opt,RM.run,SR.v,SR.ups,SV.bA]
   ·simp at h
 ·rename_i nm q
  split at h
  case isFalse=>simp at h
  rename_i hs
  have key:∀B,st.gm nm=some B->0<=n/\n<B.len->r= .val r.O (.ref nm sz n.toNat 0)->(AO.au k (aG σ) (.iad sz x y)).run g=some (.done (r.v.av D.toTE N) (r.ups D N k)):=by
   intro B hB hr he
   obtain ⟨g1,g2⟩:=R.gm hB
   have:n<(N.ln nm:Int):=by rw [g2];exact hr.2
   rw [he]
   simp only [AO.au,R.ev hx,R.ev hy,eG hb,SV.av,hs,hr.1,this,O5,OK,RM.run,g1,SR.v,SR.ups,OZ]
  split at h
  ·rename_i ty xs hB
   simp only [OG] at h;subst h
   simp only [SR.O,OP,O3] at hO
   exact key _ hB hO rfl
  ·rename_i q' els hB
   cases l with
   |true=>
    simp only [OL] at h
    split at h
    ·rename_i hr
     simp only [OG] at h;subst h
     exact key _ hB hr rfl
    ·simp at h
   |false=>
    simp only [O0,OG] at h;subst h
    simp only [SR.O,OP,O3] at hO
    exact key _ hB hO rfl
  ·simp at h
 ·rename_i nm q off len
  split at h
  case isFalse=>simp at h
  rename_i hs
  simp only [OM] at h;obtain ⟨B,hB,rfl⟩:=h
  simp only [SR.O,OP,O3] at hO
  obtain ⟨g1,g2⟩:=R.gm hB
  simp only [AO.au,R.ev hx,R.ev hy,eG hb,SV.av,hs,hO.1,hO.2,O5,OK,RM.run,g1,SR.v,SR.ups]
 ·simp at h
theorem J0 (B:SB τ dn):B.Cg.av D.toTE N= .v (goInt B.len):=by cases B<;>rfl
theorem J1 (R:bm D N st σ g) {s:Bool} {v:SV τ dn} (hx:st.ev x=some v) {r:SR τ dn} (h:rC st s v=some r):r.Good D N st.nx σ g (.len s x):=by
 intro k hO hf
 unfold rC at h
 split at h
 ·simp only [OG] at h;subst h;simp only [AO.au,R.ev hx,SV.av,RM.run,SR.v,SR.ups,goInt]
 ·simp only [OG] at h;subst h;simp only [AO.au,R.ev hx,SV.av,RM.run,SR.v,SR.ups,goInt,O7]
 ·simp only [OG] at h;subst h;simp only [AO.au,R.ev hx,SV.av,RM.run,SR.v,SR.ups,goInt,SV.iL,O7]
 ·simp only [OG] at h;subst h;simp only [AO.au,R.ev hx,SV.av,RM.run,SR.v,SR.ups,goInt]
 ·rename_i nm _
  simp only [OM] at h;obtain ⟨B,hB,rfl⟩:=h
  obtain ⟨g1,g2⟩:=R.gm hB
  simp only [AO.au,R.ev hx,SV.av,RM.run,g1,g2,SR.v,SR.ups,J0]
 ·rename_i nm _ _ n
  simp only [OM] at h;obtain ⟨B,hB,rfl⟩:=h
  obtain ⟨g1,g2⟩:=R.gm hB
  simp only [AO.au,R.ev hx,SV.av,RM.run,g1,SR.v,SR.ups,goInt]
 ·simp at h
theorem J2 (R:bm D N st σ g) {v:SV τ dn} (hx:st.ev x=some v) {r:SR τ dn} (h:rD st kd neg v=some r):r.Good D N st.nx σ g (.isn kd neg x):=by
 intro k hO hf
 unfold rD at h
 split at h
 ·simp only [OG] at h;subst h;simp only [AO.au,R.ev hx,SV.av,RM.run,SR.v,SR.ups]
 ·simp only [OG] at h;subst h;simp only [AO.au,R.ev hx,SV.av,RM.run,SR.v,SR.ups]
 ·simp only [OG] at h;subst h;simp only [AO.au,R.ev hx,SV.av,RM.run,SR.v,SR.ups]
 ·rename_i nm _ _ _
  simp only [OM] at h;obtain ⟨B,hB,rfl⟩:=h
  obtain ⟨g1,g2⟩:=R.gm hB
  simp only [AO.au,R.ev hx,SV.av,RM.run,g1,SR.v,SR.ups]
 ·simp only [OG] at h;subst h;simp only [AO.au,R.ev hx,SV.av,RM.run,SR.v,SR.ups]
 ·simp only [OG] at h;subst h;simp only [AO.au,R.ev hx,SV.av,RM.run,SR.v,SR.ups]
 ·rename_i ty xs
  simp only [OG] at h;subst h
  simp only [SR.O,OP,O3] at hO
  cases xs with
  |nil=>exact absurd rfl hO
  |cons a l=>simp only [AO.au,R.ev hx,SV.av,RM.run,SR.v,SR.ups,OX,List.isEmpty_cons,PE,Pf]
 ·simp at h
theorem x9 {len:Int} (h:∀p,p∈lL len lo hi->p):(∀l,lo=some l->0<=l)/\(∀l,hi=some l->0<=l)/\((lo.getD 0:Int)<=hi.getD len\/(lo=none/\hi=none))/\(hi.getD len<=len):=by
 cases lo<;>cases hi<;>simp only [lL,OP,O3,PM,false_implies,implies_true] at h<;>simp<;>omega
theorem ya (h:∀p,p∈lL (n:Int) lo hi->p):bounds n (lo.map Int.toNat) (hi.map Int.toNat)=some ((lo.getD 0).toNat,(hi.getD (n:Int)).toNat):=by
 cases lo<;>cases hi<;>simp only [lL,OP,O3,PM,false_implies,implies_true] at h<;>simp only [bounds,Option.map_none,OS,P7,PA]
 ·rw [OI (by omega)];simp
 ·rw [OI (by omega)];simp
 ·rw [OI (by omega)];simp
 ·rw [OI (by omega)]
theorem J3 {α:Type} {xs:List α} (h:∀p,p∈lL (xs.length:Int) lo hi->p):x5 xs lo hi=(xs.drop (lo.getD 0).toNat).take ((hi.getD (xs.length:Int)).toNat - (lo.getD 0).toNat):=by
 cases lo<;>cases hi<;>simp only [lL,OP,O3,PM,false_implies,implies_true] at h<;>simp only [x5,P7,PA]
 ·simp
 ·simp
 ·rw [Qa (by simp)]
theorem J4 (R:bm D N st σ g) {sz:Nat} {lo hi:Option Arg} {v:SV τ dn} {l h':Option Int} (hx:st.ev x=some v) (hl:lK st lo=some l) (hh:lK st hi=some h') {r:SR τ dn} (h:rE D st sz v l h'=some r):r.Good D N st.nx σ g (.slc sz x lo hi none):=by
 intro k hO hf
 have hn:cR (aG σ) none=some none:=rfl
 unfold rE at h
 split at h
 ·rename_i ty xs
  split at h
  ·rename_i hs
   simp only [OG] at h;subst h
   simp only [SR.O] at hO
   have nn:=x9 hO
   have e1:=kG R hl nn.1
   have e2:=kG R hh nn.2.1
   have hb:=ya hO
   simp only [AO.au,e1,e2,hn,R.ev hx,SV.av,hs,OK,O7,hb,PT,cutL,OS,RM.opt,RM.run,SR.v,SR.ups,J3 hO,List.map_take,List.map_drop]
  ·simp at h
 ·split at h
  ·simp only [OG] at h;subst h
   have e1:=kG R hl (by simp)
   have e2:=kG R hh (by simp)
   simp only [AO.au,e1,e2,hn,R.ev hx,SV.av,Option.map_none,bounds,P7,OQ,O5,OK,PT,RM.opt,RM.run,SR.v,SR.ups]
  ·simp at h
 ·rename_i nm q
  split at h
  case isFalse=>simp at h
  rename_i hs
  split at h
  ·simp only [OM] at h;obtain ⟨B,hB,rfl⟩:=h
   obtain ⟨g1,g2⟩:=R.gm hB
   have e1:=kG R hl (by simp)
   have e2:=kG R hh (by simp)
   simp only [AO.au,e1,e2,hn,R.ev hx,SV.av,Option.map_none,RM.run,g1,hs,OK,bounds,P7,Nat.zero_le,OQ,O5,SR.v,SR.ups,OZ,Nat.sub_zero]
  ·simp only [OM] at h;obtain ⟨B,hB,rfl⟩:=h
   obtain ⟨g1,g2⟩:=R.gm hB
   simp only [SR.O] at hO
   have nn:=x9 hO
   have e1:=kG R hl nn.1
   have e2:=kG R hh nn.2.1
   have hb:=ya hO
   simp only [AO.au,e1,e2,hn,R.ev hx,SV.av,RM.run,g1,hs,OK,g2,hb,SR.v,SR.ups,OZ]
 ·simp at h
theorem ue [DecidableEq τ] (ok:bh D) {ty:τ}:∀{els:List (List (SV τ dn))} {xs:List (dn ty)},kE D ty els=some xs->(SV.bU D.toTE N els)=xs.map (D.ea N.ρ ty)
 |[],xs,h=>by simp only [kE,OG] at h;subst h;rfl
 |cs::r,xs,h=>by
  simp only [kE] at h
  split at h
  ·rename_i hn
   split at h
   ·rename_i x l h1 h2
    simp only [OG] at h;subst h
    have e1:=ok.fZ N ty _ _ h1 hn
    have e2:=ue ok h2
    simp only [SV.bU,SV.bA,e1,e2,OX]
   ·simp at h
  ·simp at h
theorem ug [DecidableEq τ] {ty:τ}:∀{els:List (List (SV τ dn))} {xs:List (dn ty)},kE D ty els=some xs->els.length=xs.length
 |[],xs,h=>by simp only [kE,OG] at h;subst h;rfl
 |cs::r,xs,h=>by
  simp only [kE] at h
  split at h
  ·split at h
   ·rename_i x l h1 h2
    simp only [OG] at h;subst h
    simp [ug h2]
   ·simp at h
  ·simp at h
theorem yb {a:SV τ dn} {x:Value} (h:a.key=some x):a.av D.toTE N= .v x:=by
 cases a<;>simp [SV.key] at h<;>subst h<;>rfl
theorem yc {kd:LK} {k:Value}:∀{els:List (List (SV τ dn))} {r:Option (SV τ dn)},lM kd k els=some r->mfind kd k (SV.bU D.toTE N els)=some (r.map (SV.av D.toTE N))
 |[],r,h=>by simp only [lM,OG] at h;subst h;rfl
 |[kv,x]::l,r,h=>by
  simp only [lM] at h
  split at h
  ·rename_i k' hk
   simp only [SV.bU,SV.cz,yb hk,mfind]
   split at h
   ·rename_i he
    simp only [OG] at h;subst h
    simp only [he];rfl
   ·rename_i he
    simp only [he];exact yc h
   ·simp at h
  ·simp at h
 |[]::l,r,h=>by simp [lM] at h
 |[_]::l,r,h=>by simp [lM] at h
 |(_::_::_::_)::l,r,h=>by simp [lM] at h
theorem Co {n z:Int}:∀{els:List (List (SV τ dn))} {l:List (Int×Int)},lN els=some l->∃r,mfind .int (.int .i64 n) (SV.bU D.toTE N els)=some r/\r.getD (.v (.int .i64 z))= .v (.int .i64 (tW z n l))
 |[],l,h=>by simp only [lN,OG] at h;subst h;exact ⟨none,rfl,rfl⟩
 |[kv,x]::els,l,h=>by
  cases kv with
  |vn k=>
   simp only [lN] at h
   split at h
   ·rename_i v b l' h1 h2
    simp only [OG] at h;subst h
    obtain ⟨r,q1,q2⟩:=Co (n:=n) (z:=z) h2
    simp only [SV.bU,SV.cz,SV.av,eG h1,mfind,keyEq,OK,tW]
    by_cases hk:n=k
    ·subst hk;exact ⟨some (.v (.int .i64 v)),by simp,by simp⟩
    ·have:(n==k)=false:=by simpa using hk
     rw [this,OH hk];exact ⟨r,q1,q2⟩
   ·simp at h
  |_=>simp [lN] at h
 |[]::l,r,h=>by simp [lN] at h
 |[_]::l,r,h=>by simp [lN] at h
 |(_::_::_::_)::l,r,h=>by simp [lN] at h
theorem J5 (R:bm D N st σ g) {kd:LK} {k:Arg} {a b c:SV τ dn} (hx:st.ev x=some a) (hk:st.ev k=some b) (hy:st.ev y=some c) {r:SR τ dn} (h:tY st kd a b c=some r):r.Good D N st.nx σ g (.mup kd x k y):=by
 unfold tY at h
 split at h
 case h_2=>simp at h
 rename_i nm key kg
 split at h
 case h_2=>simp at h
 rename_i els hB
 cases hb:(st.rw nm&&plainV key) with
 |false=>rw [hb] at h;simp at h
 |true=>
  rw [hb,OL] at h
  rw [OJ] at hb
  split at h
  case h_2=>simp at h
  rename_i hf
  simp only [OG] at h;subst h
  intro k' hO eC
  have g1:=(R.gm hB).1
  have hm:=yc (D:=D) (N:=N) hf
  rw [SV.iL] at hm
  simp only [AO.au,R.ev hx,R.ev hk,R.ev hy,yb kg,SV.av,RM.run,g1,SB.av,hb.2,O5,OK,hm,Option.map_none,SR.v,SR.ups,SV.iL,PL,OX,Pw]
theorem J6 (R:bm D N st σ g) {kd:LK} {z:AV} {k:Arg} {a b:SV τ dn} (hx:st.ev x=some a) (hk:st.ev k=some b) {r:SR τ dn} (h:tZ st kd z a b=some r):r.Good D N st.nx σ g (.mlk kd z x k):=by
 unfold tZ at h
 split at h
 case h_2=>simp at h
 rename_i nm zs hz
 have ez:zs.av D.toTE N=z:=x6 _ _ hz
 split at h
 case h_2=>simp at h
 rename_i els hB
 have g1:=(R.gm hB).1
 split at h
 ·rename_i n
  split at h
  case h_2=>simp at h
  rename_i l zi b' hl J7
  simp only [OG] at h;subst h
  intro k' hO eC
  obtain ⟨q,q1,q2⟩:=Co (D:=D) (N:=N) (n:=n) (z:=zi) hl
  rw [eG J7] at ez
  subst ez
  simp only [AO.au,R.ev hx,R.ev hk,SV.av,RM.run,g1,SB.av,OK,q1,OS,RM.opt,q2,SR.v,SR.ups]
 ·split at h
  ·rename_i key kg
   simp only [OM] at h;obtain ⟨q,hq,rfl⟩:=h
   intro k' hO eC
   have hm:=yc (D:=D) (N:=N) hq
   simp only [AO.au,R.ev hx,R.ev hk,yb kg,SV.av,RM.run,g1,SB.av,OK,hm,OS,RM.opt,SR.v,SR.ups]
   cases q with
   |none=>simp [ez]
   |some w=>simp
  ·simp at h
def Ct.els (D:TD τ dn) (N:aC):Ct τ dn->List (List AV)
 | .ty t xs=>xs.map (D.ea N.ρ t)
 | .li els=>SV.bU D.toTE N els
theorem Ct.J8 (c:Ct τ dn):(c.els D N).length=c.len:=by
 cases c with
 |ty t xs=>simp [Ct.els,Ct.len]
 |li els=>simp [Ct.els,Ct.len,SV.iL]
theorem oc (R:bm D N st σ g) {sz:Nat} {v:SV τ dn} {c:Ct τ dn} (h:st.cont D sz v=some c):(content sz (v.av D.toTE N)).run g=some (c.els D N)/\(∀t xs,c= .ty t xs->D.sz t=sz):=by
 unfold SS.cont at h
 split at h
 ·split at h
  ·rename_i ty xs hs
   simp only [OG] at h;subst h
   refine ⟨by simp only [SV.av,content,hs,OK,RM.run,Ct.els],fun t ys e=> ?_⟩
   simp only [Ct.ty.injEq] at e;obtain ⟨rfl,_⟩:=e;exact hs
  ·simp at h
 ·split at h
  ·rename_i k els hs
   simp only [OG] at h;subst h
   exact ⟨by simp only [SV.av,content,hs,OK,RM.run,Ct.els],fun t ys e=>by simp at e⟩
  ·simp at h
 ·simp only [OG] at h;subst h
  exact ⟨rfl,fun t ys e=>by simp at e⟩
 ·rename_i nm k
  split at h
  case isFalse=>simp at h
  rename_i hs
  subst hs
  split at h
  ·rename_i ty xs hB
   split at h
   ·rename_i hs
    simp only [OG] at h;subst h
    obtain ⟨g1,g2⟩:=R.gm hB
    refine ⟨?_,fun t ys e=> ?_⟩
    ·simp only [SV.av,content,RM.run,g1,SB.av,hs,g2,SB.len,OZ,O7,OQ,O5,OK,Qs,Ct.els]
     rw [Qa (by simp)]
    ·simp only [Ct.ty.injEq] at e;obtain ⟨rfl,_⟩:=e;exact hs
   ·simp at h
  ·rename_i q els hB
   split at h
   ·rename_i hs
    simp only [OG] at h;subst h
    obtain ⟨g1,g2⟩:=R.gm hB
    refine ⟨?_,fun t ys e=>by simp at e⟩
    have e:(SV.bU D.toTE N els).length=els.length:=by simp [SV.iL]
    simp only [SV.av,content,RM.run,g1,SB.av,hs,g2,SB.len,OZ,e,OQ,O5,OK,Qs,Ct.els]
    rw [Qa (by rw [e];exact OQ _)]
   ·simp at h
  ·simp at h
 ·simp at h
theorem J9 [DecidableEq τ] {D:TD τ dn} {sz:Nat} {B B':SB τ dn} {c:Ct τ dn} (h:n9 D sz B c=some B'):B.xS=false:=by
 cases B with
 |mc els=>simp [n9] at h
 |_=>rfl
theorem Ka [DecidableEq τ] (ok:bh D) {sz:Nat} {B B':SB τ dn} {c:Ct τ dn} (h:n9 D sz B c=some B') (hs:B.sz D=sz) (hc:∀t xs,c= .ty t xs->D.sz t=sz):B'.av D.toTE N=⟨sz,(B.av D.toTE N).els++c.els D N⟩/\B'.len=B.len+c.len:=by
 unfold n9 at h
 split at h
 ·split at h
  ·rename_i ty xs mM ys he
   simp only [OG] at h;subst h
   subst he
   simp only [SB.sz] at hs
   refine ⟨?_, ?_⟩
   ·simp only [SB.av,Ct.els,PL,hs]
   ·simp [SB.len,Ct.len]
  ·simp at h
 ·simp only [OM] at h;obtain ⟨ys,hy,rfl⟩:=h
  simp only [SB.sz] at hs
  have e:=ue (N:=N) ok hy
  have e2:=ug hy
  refine ⟨?_, ?_⟩
  ·simp only [SB.av,Ct.els,PL,hs,e]
  ·simp [SB.len,Ct.len,e2]
 ·split at h
  ·rename_i q els ty ys hq
   simp only [OM] at h;obtain ⟨xs,hx,rfl⟩:=h
   simp only [SB.sz] at hs
   have e:=ue (N:=N) ok hx
   have e2:=ug hx
   refine ⟨?_, ?_⟩
   ·simp only [SB.av,Ct.els,PL, <-hq,hs,e]
   ·simp [SB.len,Ct.len,e2]
  ·simp at h
 ·split at h
  ·rename_i q els fs hq
   simp only [OG] at h;subst h
   refine ⟨?_, ?_⟩
   ·simp only [SB.av,Ct.els,SV.iL,PL,hq]
   ·simp [SB.len,Ct.len]
  ·simp at h
 ·simp at h
 ·simp at h
theorem Kb {sz:Nat} {c:Ct τ dn} (hc:∀t xs,c= .ty t xs->D.sz t=sz):(c.kF sz).av D.toTE N=⟨sz,c.els D N⟩/\(c.kF sz).len=c.len:=by
 cases c with
 |ty t xs=>simp only [Ct.kF,SB.av,Ct.els,hc t xs rfl,SB.len,Ct.len,O5]
 |li els=>simp only [Ct.kF,SB.av,Ct.els,SB.len,Ct.len,O5]
theorem Kc (B:SB τ dn):(B.av D.toTE N).sz=B.sz D:=by cases B<;>rfl
theorem dw {β:Type} {f:α->RM β} {m:RM α} {a:α} (h:m.run g=some a):(m.bind f).run g=(f a).run g:=(run_bind m h).1
theorem Kd [DecidableEq τ] (ok:bh D) (R:bm D N st σ g) {sz bytes:Nat} {s v:SV τ dn} (hx:st.ev x=some s) (hy:st.ev y=some v) {r:SR τ dn} (h:tU D st sz bytes s v=some r):r.Good D N st.nx σ g (.app sz bytes x y):=by
 intro k hO hf
 unfold tU at h
 split at h
 case h_2=>simp at h
 rename_i c hc
 obtain ⟨c1,c2⟩:=oc R hc
 have cl:(c.els D N).length=c.len:=c.J8
 have e0:(AO.au k (aG σ) (.app sz bytes x y)).run g=_:=dw (by rw [R.ev hy];exact c1)
 rw [e0,R.ev hx]
 clear e0
 split at h
 ·simp only [OG] at h;subst h
  simp only [SR.O,OP,O3] at hO
  obtain ⟨b1,b2⟩:=Kb (N:=N) c2
  obtain ⟨f1,f2⟩:=hf
  simp only [SV.av,cl,hO,OK,RM.run,SR.v,SR.ups,b1,f1,f2,b2]
 ·rename_i nm q
  split at h
  case isFalse=>simp at h
  rename_i hs
  split at h
  ·rename_i B hB
   split at h
   ·rename_i hz
    simp only [OM] at h;obtain ⟨B',aL,rfl⟩:=h
    simp only [SR.O,OP,O3] at hO
    obtain ⟨g1,g2⟩:=R.gm hB
    obtain ⟨b1,b2⟩:=Ka (N:=N) ok aL hz c2
    obtain ⟨f1,f2⟩:=hf
    have e1:=B.Jt D.toTE N (J9 aL)
    simp only [SV.av,RM.run,g1,Kc,hz,hs.1,g2,e1,cl,hO,O5,OK,SR.v,SR.ups,b1,f1,f2,b2]
   ·simp at h
  ·simp at h
 ·simp at h
theorem Ke [DecidableEq τ] (ok:bh D) (R:bm D N st σ g) {sz bytes:Nat} {zs:List AV} {a b:SV τ dn} {l:Int} {p q:Bool} (hx:st.ev x=some a) (hy:st.ev y=some b) (ha:a.int=some (l,p)) (hb:b.int=some (c,q)) {r:SR τ dn} (h:rI D st sz bytes zs l c=some r):r.Good D N st.nx σ g (.msl sz bytes zs x y):=by
 intro k hO hf
 unfold rI at h
 split at h
 ·rename_i ty cs h1 h2
  split at h
  ·rename_i hs
   split at h
   ·rename_i z hz
    simp only [OG] at h;subst h
    simp only [SR.O,OP,O3] at hO
    have e1:=mN D.toTE N h2
    have e2:=ok.fZ N ty cs z hz hs.2
    rw [SV.bA] at e1
    rw [e1] at e2
    obtain ⟨f1,f2⟩:=hf
    have h0:0<=c:=by omega
    have hb2:c.toNat*bytes<=140737488355328:=by
     have:=hO.2.2
     obtain ⟨m,rfl⟩:=Int.eq_ofNat_of_zero_le h0
     rw [<-Int.natCast_mul] at this
     exact Int.ofNat_le.1 this
    simp only [AO.au,R.ev hx,R.ev hy,eG ha,eG hb,natOf,hO.1,h0,OK,Int.toNat_le_toNat hO.2.1,hb2,O5,RM.run,SR.v,SR.ups,SV.av,f1,f2,SB.len,QB,SB.av,hs.1,List.map_replicate,e2]
   ·simp at h
  ·simp at h
 ·simp at h
theorem Kf [DecidableEq τ] (R:bm D N st σ g) {sz:Nat} {a b:SV τ dn} (hx:st.ev x=some a) (hy:st.ev y=some b) {r:SR τ dn} (h:tV D st sz a b=some r):r.Good D N st.nx σ g (.cpy sz x y):=by
 intro k hO hf
 unfold tV at h
 split at h
 ·rename_i nm q ty ys hc
  obtain ⟨c1,c2⟩:=oc R hc
  split at h
  case isFalse=>simp at h
  rename_i hs
  split at h
  ·rename_i mM xs hB
   split at h
   ·rename_i he
    subst he
    split at h
    ·rename_i hz
     simp only [OG] at h;subst h
     obtain ⟨g1,g2⟩:=R.gm hB
     have e0:(AO.au k (aG σ) (.cpy sz x y)).run g=_:=dw (by rw [R.ev hy];exact c1)
     rw [e0,R.ev hx]
     simp only [SV.av,RM.run,g1,SB.av,hz,hs.1,g2,SB.len,O7,OZ,OQ,O5,OK,Ct.els,SR.v,SR.ups,List.take_zero,List.nil_append,goInt,PL,List.map_take,List.map_drop]
    ·simp at h
   ·simp at h
  ·simp at h
 ·simp at h
theorem Cp (ok:bh D) {t:τ} {p:(dn t->UInt8)×(UInt8->dn t)} (h:D.bt t=some p):∀xs:List (dn t),strOf (xs.map (D.ea N.ρ t))=some (xs.map p.1)
 |[]=>rfl
 |x::r=>by
  rw [OX,(ok.bt N t p h).1 x,strOf,Cp ok h r,PK,UInt8.ofNat_toNat];rfl
theorem Cq:∀{els:List (List (SV τ dn))} {l:List UInt8},rF els=some l->strOf (SV.bU D.toTE N els)=some l
 |[],l,h=>by simp only [rF,OG] at h;subst h;rfl
 |cs::r,l,h=>by
  unfold rF at h
  split at h
  ·rename_i e;simp at e
  ·rename_i b r' e
   simp only [Qp] at e
   obtain ⟨rfl,rfl⟩:=e
   split at h
   ·rename_i l' hl
    simp only [OG] at h;subst h
    have:=Cq hl
    simp only [SV.bU,SV.cz,SV.av,strOf,this,OS,PK,UInt8.ofNat_toNat]
   ·simp at h
  ·simp at h
theorem Kg [DecidableEq τ] (ok:bh D) (R:bm D N st σ g) {v:SV τ dn} (hx:st.ev x=some v) {r:SR τ dn} (h:rG D st v=some r):r.Good D N st.nx σ g (.b2s x):=by
 intro k hO hf
 unfold rG at h
 split at h
 ·rename_i t xs hc
  obtain ⟨c1,_⟩:=oc R hc
  split at h
  ·rename_i p hp
   simp only [OG] at h;subst h
   have e0:(AO.au k (aG σ) (.b2s x)).run g=_:=dw (by rw [R.ev hx];exact c1)
   rw [e0]
   simp only [Ct.els,Cp ok hp,OS,RM.opt,RM.run,SR.v,SR.ups,SV.av]
  ·simp at h
 ·rename_i els hc
  obtain ⟨c1,_⟩:=oc R hc
  split at h
  ·rename_i l hl
   simp only [OG] at h;subst h
   have e0:(AO.au k (aG σ) (.b2s x)).run g=_:=dw (by rw [R.ev hx];exact c1)
   rw [e0]
   simp only [Ct.els,Cq hl,OS,RM.opt,RM.run,SR.v,SR.ups,SV.av]
  ·simp at h
 ·simp at h
theorem Kh [DecidableEq τ] (ok:bh D) (R:bm D N st σ g) (hx:st.ev x=some (.vz s)) {r:SR τ dn} (h:rH D st s=some r):r.Good D N st.nx σ g (.s2b x):=by
 intro k hO hf
 unfold rH at h
 split at h
 ·rename_i t ht
  split at h
  ·rename_i p hp
   split at h
   ·rename_i hs
    simp only [OG] at h;subst h
    simp only [SR.O,OP,O3] at hO
    obtain ⟨f1,f2⟩:=hf
    have hl:s.data.toList.length=s.size:=rfl
    have e:(s.data.toList.map p.2).map (D.ea N.ρ t)=s.data.toList.map fun b=>[AV.v (.int .u8 b.toNat)]:=by
     rw [Qk]
     refine QC fun b _=> ?_
     show D.ea N.ρ t (p.2 b)=_
     rw [(ok.bt N t p hp).1,(ok.bt N t p hp).2]
    simp only [AO.au,R.ev hx,SV.av,hO,OK,RM.run,SR.v,SR.ups,f1,f2,SB.len,O7,SB.av,hs,e,hl]
   ·simp at h
  ·simp at h
 ·simp at h
theorem rK (R:bm D N st σ g):∀{l:List Arg} {cs:List (SV τ dn)},l.mapM st.ev=some cs->l.map (aG σ)=cs.map (SV.av D.toTE N)
 |[],cs,h=>by simp at h;subst h;rfl
 |x::r,cs,h=>by
  simp only [List.mapM_cons,Option.pure_def,Option.bind_eq_bind,Qc,OG] at h
  obtain ⟨v,hv,l,hl,rfl⟩:=h
  simp only [OX,R.ev hv,rK R hl]
theorem Ki [DecidableEq τ] (ok:bh D) (R:bm D N st σ g):∀{ao:AO} {r:SR τ dn},sx D st ao=some r->r.Good D N st.nx σ g ao:=by
 intro ao r h
 cases ao<;>simp only [sx] at h
 case mov x=>
  simp only [OM] at h;obtain ⟨v,hv,rfl⟩:=h
  intro k hO hf
  simp only [AO.au,R.ev hv,RM.run,SR.v,SR.ups]
 case pick=>simp at h
 case new zs=>
  simp only [OM] at h;obtain ⟨cs,hcs,rfl⟩:=h
  intro k hO hf
  obtain ⟨f1,f2⟩:=hf
  simp only [AO.au,RM.run,SR.v,SR.ups,SV.av,f1,SB.av,SV.bU,mN D.toTE N hcs]
 case box n x=>
  split at h
  ·rename_i v hv
   split at h
   ·rename_i hc
    simp only [OG] at h;subst h
    intro k hO hf
    obtain ⟨f1,f2⟩:=hf
    have bY:=SV.q9 (E:=D.toTE) (N:=N) hc.2.1
    simp only [AO.au,R.ev hv,bY,O7,hc.1,ud hc.2.2,O5,OK,RM.run,SR.v,SR.ups,SV.av,f1,SB.av,SV.bU,SV.bA]
   ·simp at h
  ·simp at h
 case agg zs parts=>
  split at h
  ·rename_i cs hcs
   simp only [OM] at h;obtain ⟨l,hl,rfl⟩:=h
   intro k hO hf
   have e1:=mN D.toTE N hcs
   rw [SV.bA] at e1
   have:=Cj R hl
   rw [e1] at this
   simp only [AO.au,this,OS,RM.opt,RM.run,SR.v,SR.ups,SV.av,SV.bA]
  ·simp at h
 case bsl sz ln zs parts=>
  split at h
  ·rename_i cs hcs
   simp only [OM] at h;obtain ⟨l,hl,rfl⟩:=h
   intro k hO hf
   obtain ⟨f1,f2⟩:=hf
   have e1:=mN D.toTE N hcs
   rw [SV.bA] at e1
   have:=Ck R hl
   rw [List.map_replicate,e1] at this
   have hlen:l.length=ln:=by
    have:∀(parts:List (Nat×Arg)) (els l:List (List (SV τ dn))),mL st sz els parts=some l->l.length=els.length:=by
     intro parts
     induction parts with
     |nil=>intro els l h;simp only [mL,OG] at h;subst h;rfl
     |cons p r ih=>
      intro els l h
      obtain ⟨i,x⟩:=p
      simp only [mL] at h
      split at h
      ·split at h
       ·have:=ih _ _ h;simpa using this
       ·simp at h
      ·simp at h
    have:=this _ _ _ hl
    simpa using this
   simp only [AO.au,this,OS,RM.opt,RM.run,SR.v,SR.ups,SV.av,f1,f2,SB.len,hlen,SB.av,SV.iL]
  ·simp at h
 case load m x=>
  simp only [Qc] at h;obtain ⟨v,hv,h⟩:=h
  exact Cm ok R hv h
 case store n x y=>
  split at h
  ·rename_i a b ha hb;exact JY ok R ha hb h
  ·simp at h
 case nilc x=>
  split at h
  ·rename_i nm sz i o hv
   simp only [OM] at h;obtain ⟨B,hB,rfl⟩:=h
   intro k hO hf
   obtain ⟨g1,g2⟩:=R.gm hB
   simp only [AO.au,R.ev hv,SV.av,RM.run,g1,SR.v,SR.ups]
  ·rename_i cs o hv
   simp only [OG] at h;subst h
   intro k hO hf
   simp only [AO.au,R.ev hv,SV.av,RM.run,SR.v,SR.ups]
  ·simp at h
 case bin bt op x y=>
  split at h
  ·rename_i a b ha hb
   intro k hO hf
   obtain ⟨O,v,p,q,w,rfl,h1,h2,h3,h4⟩:=JQ (D:=D) (N:=N) h hO
   simp only [AO.au,R.ev ha,R.ev hb,h1,h2,h3,OS,RM.opt,RM.run,SR.v,SR.ups,h4]
  ·simp at h
 case un op x=>
  simp only [Qc] at h;obtain ⟨a,ha,h⟩:=h
  intro k hO hf
  obtain ⟨O,v,p,w,rfl,h1,h3,h4⟩:=JS (D:=D) (N:=N) h hO
  simp only [AO.au,R.ev ha,h1,h3,OS,RM.opt,RM.run,SR.v,SR.ups,h4]
 case conv q x=>
  simp only [Qc] at h;obtain ⟨a,ha,h⟩:=h
  intro k hO hf
  obtain ⟨O,v,p,w,rfl,h1,h4⟩:=JT (D:=D) (N:=N) h hO
  simp only [AO.au,R.ev ha,h1,RM.run,SR.v,SR.ups,h4]
 case fad off x=>
  split at h
  ·rename_i nm sz i o hv
   simp only [OM] at h;obtain ⟨B,hB,rfl⟩:=h
   intro k hO hf
   obtain ⟨g1,g2⟩:=R.gm hB
   simp only [AO.au,R.ev hv,SV.av,RM.run,g1,SR.v,SR.ups]
  ·rename_i cs o hv
   simp only [OG] at h;subst h
   intro k hO hf
   simp only [AO.au,R.ev hv,SV.av,RM.run,SR.v,SR.ups]
  ·simp at h
 case fld off m x=>
  split at h
  ·rename_i cs hv
   simp only [OM] at h;obtain ⟨w,hw,rfl⟩:=h
   intro k hO hf
   have:=pq (D:=D) (N:=N) hw
   simp only [AO.au,R.ev hv,SV.av,SV.bA,this,OS,RM.opt,RM.run,SR.v,SR.ups]
  ·simp at h
 case iad sz x i=>
  split at h
  ·rename_i a b ha hb
   split at h
   ·rename_i n l hn;exact JZ ok R ha hb hn h
   ·simp at h
  ·simp at h
 case ext i x=>
  split at h
  ·rename_i vs hv
   simp only [OM] at h;obtain ⟨w,hw,rfl⟩:=h
   intro k hO hf
   simp only [AO.au,R.ev hv,SV.av,SV.bA,O6,hw,OS,RM.opt,RM.run,SR.v,SR.ups]
  ·simp at h
 case len s x=>
  simp only [Qc] at h;obtain ⟨v,hv,h⟩:=h
  exact J1 R hv h
 case isn kd neg x=>
  simp only [Qc] at h;obtain ⟨v,hv,h⟩:=h
  exact J2 R hv h
 case mnx mx x y=>
  split at h
  ·rename_i a b ha hb
   split at h
   ·rename_i p _ q _ h1 h2
    simp only [OG] at h;subst h
    intro k hO hf
    simp only [AO.au,R.ev ha,R.ev hb,eG h1,eG h2,pZ,OK,OS,RM.opt,RM.run,SR.v,SR.ups,SV.av]
    congr 5
    all_goals (simp only [Int.max_def,Int.min_def];(repeat' split)<;>omega)
   ·simp at h
  ·simp at h
 case eqs ng n L x y=>
  split at h
  ·rename_i cs ds hc hd
   split at h
   ·rename_i hl
    split at h
    ·rename_i v hv
     simp only [OM] at h;obtain ⟨w,hw,rfl⟩:=h
     intro k hO hf
     obtain ⟨p,h1,h2⟩:=Cl (D:=D) (N:=N) hv
     have h3:w.av D.toTE N= .v (.bool (if ng then !p else p)):=by
      cases ng with
      |true=>
       simp only [OK] at hw ⊢
       obtain ⟨z,q1,q2⟩:=x8 (D:=D) (N:=N) hw
       rw [h1] at q1;simp only [AV.v.injEq,Value.bool.injEq] at q1;subst q1;exact q2
      |false=>simp only [PE,Pf,OG] at hw ⊢; subst hw;exact h1
     simp only [AO.au,R.ev hc,R.ev hd,SV.av,SV.bA,O7,hl.1,hl.2,O5,OK,h2,OS,RM.opt,RM.run,SR.v,SR.ups,h3]
    ·simp at h
   ·simp at h
  ·simp at h
 case b2s x=>
  split at h
  ·rename_i v hv;exact Kg ok R hv h
  ·simp at h
 case s2b x=>
  split at h
  ·rename_i s hs;exact Kh ok R hs h
  ·simp at h
 case msl sz by_ zs x y=>
  split at h
  ·rename_i a b ha hb
   split at h
   ·rename_i p _ q _ h1 h2;exact Ke ok R ha hb h1 h2 h
   ·simp at h
  ·simp at h
 case slc sz x lo hi mx=>
  cases mx with
  |some m=>simp at h
  |none=>
   simp only at h
   split at h
   ·rename_i a l h' ha hl hh;exact J4 R ha hl hh h
   ·simp at h
 case sls x lo hi=>
  split at h
  ·rename_i s l h' hs hl hh
   simp only [OG] at h;subst h
   intro k hO hf
   simp only [SR.O] at hO
   have nn:=x9 hO
   have e1:=kG R hl nn.1
   have e2:=kG R hh nn.2.1
   have hb:=ya hO
   simp only [AO.au,e1,e2,R.ev hs,SV.av,hb,OS,RM.opt,RM.run,SR.v,SR.ups]
  ·simp at h
 case six x i=>
  split at h
  ·rename_i s b hs hb
   split at h
   ·rename_i n _ h1
    simp only [OG] at h;subst h
    intro k hO hf
    simp only [SR.O,OP,O3] at hO
    have hl:n.toNat<s.size:=by omega
    have e:s[n.toNat]? =some (gb s n.toNat):=by unfold gb;rw [getElem?_pos s n.toNat hl];rfl
    simp only [AO.au,R.ev hs,R.ev hb,eG h1,SV.av,natOf,hO.1,OK,e,OS,RM.opt,RM.run,SR.v,SR.ups]
   ·split at h
    ·rename_i q n _
     simp only [OG] at h;subst h
     intro k hO hf
     simp only [SR.O,OP,O3] at hO
     have hl:n.toNat<s.size:=by omega
     have e:s[n.toNat]? =some (gb s n.toNat):=by unfold gb;rw [getElem?_pos s n.toNat hl];rfl
     simp only [AO.au,R.ev hs,R.ev hb,SV.av,natOf,hO.1,OK,e,OS,RM.opt,RM.run,SR.v,SR.ups]
    ·rename_i y _
     simp only [OG] at h;subst h
     intro k hO hf
     simp only [SR.O,OP,O3] at hO
     have e:s[y.toNat]? =some (gb s y.toNat):=by unfold gb;rw [getElem?_pos s y.toNat hO];rfl
     have h0:(0:Int)<=(y.toNat:Int):=by omega
     simp only [AO.au,R.ev hs,R.ev hb,SV.av,natOf,h0,OK,PK,e,OS,RM.opt,RM.run,SR.v,SR.ups]
    ·simp at h
  ·simp at h
 case app sz by_ x y=>
  split at h
  ·rename_i a b ha hb;exact Kd ok R ha hb h
  ·simp at h
 case cpy sz x y=>
  split at h
  ·rename_i a b ha hb;exact Kf R ha hb h
  ·simp at h
 case mkf f caps=>
  simp only [OM] at h;obtain ⟨cs,hcs,rfl⟩:=h
  intro k hO hf
  simp only [AO.au,rK R hcs,RM.run,SR.v,SR.ups,SV.av,SV.bA]
 case mkb f caps=>
  simp only [OM] at h;obtain ⟨cs,hcs,rfl⟩:=h
  intro k hO hf
  simp only [AO.au,rK R hcs,RM.run,SR.v,SR.ups,SV.av,SV.bA]
 case iap sz ln x i=>
  split at h
  ·rename_i nm s e o n hv hn
   split at h
   ·rename_i hc
    simp only [OG] at h;subst h
    intro k hO hf
    obtain ⟨B,hB⟩:=QA.1 hc.2.2
    obtain ⟨g1,g2⟩:=R.gm hB
    simp only [AO.au,R.ev hv,R.ev hn,SV.av,hc.1,hc.2.1,O5,OK,RM.run,g1,SR.v,SR.ups]
   ·simp at h
  ·rename_i cs o n hv hn
   split at h
   ·rename_i hc
    simp only [OG] at h;subst h
    intro k hO hf
    simp only [AO.au,R.ev hv,R.ev hn,SV.av,hc.1,hc.2,O5,OK,RM.run,SR.v,SR.ups]
   ·simp at h
  ·simp at h
 case ixa sz ln m x i=>
  split at h
  ·rename_i cs n hv hn
   split at h
   ·rename_i hc
    simp only [OM] at h;obtain ⟨w,hw,rfl⟩:=h
    intro k hO hf
    simp only [AO.au,R.ev hv,R.ev hn,SV.av,hc.1,hc.2,O5,OK,SV.bA,pq hw,OS,RM.opt,RM.run,SR.v,SR.ups]
   ·simp at h
  ·simp at h
 case mkm=>
  simp only [OG] at h;subst h
  intro k hO hf
  simp only [AO.au,RM.run,SR.v,SR.ups,SV.av,SB.av,SV.bU,hf.1]
 case mup kd x key y=>
  split at h
  ·rename_i a b c ha hb hc;exact J5 R ha hb hc h
  ·simp at h
 case mlk kd z x key=>
  split at h
  ·rename_i a b ha hb;exact J6 R ha hb h
  ·simp at h
 all_goals simp at h
end
open Go.RowKit
section
variable {τ:Type} {dn:τ->Type}
def SV.isRw:SV τ dn->Bool
 | .rw _ _| .cU _ _ _ _=>true
 |_=>false
def AO.lk:AO->List Arg
 | .load _ x| .nilc x| .fad _ x| .len _ x| .isn _ _ x| .clr _ x| .b2s x=>[x]
 | .store _ x _| .iad _ x _| .iap _ _ x _| .slc _ x _ _ _| .mup _ x _ _| .mlk _ _ x _=>[x]
 | .app _ _ s x=>[x,s]
 | .cpy _ x y=>[y,x]
 |_=>[]
def SS.rwa (st:SS τ dn) (x:Arg):Bool:=match st.ev x with
 |some v=>v.isRw
 |none=>false
variable [DecidableEq τ]
def SS.gf (st:SS τ dn) (t:τ):Option (List (Nat×List (dn t))):=match st.gm 0 with
 |some (.ar t' A)=>if h:t'=t then some (h▸A) else none
 |_=>none
theorem mO {st:SS τ dn} {t:τ} {A:List (Nat×List (dn t))} (h:st.gf t=some A):st.gm 0=some (.ar t A):=by
 unfold SS.gf at h
 split at h
 ·rename_i t' A' hB
  split at h
  ·rename_i he
   subst he
   simp only [OG] at h;subst h;exact hB
  ·simp at h
 ·simp at h
variable (D:TD τ dn)
def rL (st:SS τ dn) (sz:Nat):SV τ dn->Option (List Prop×Ct τ dn)
 | .rw t r=>match st.gf t with
  |some A=>if D.sz t=sz then some ([r.ok A], .ty t (r.get A)) else none
  |none=>none
 |v=>(st.cont D sz v).map fun c=>([],c)
def lO (st:SS τ dn):AO->Option (SR τ dn)
 | .load m x=>match st.ev x with
  |some (.cU t r i o)=>match st.gf t with
   |some A=>(lJ (D.es t (gd (D.df t) (r.get A) i)) o m).map (.val [r.ok A,i<(r.get A).length])
   |none=>none
  |_=>none
 | .store n x y=>match st.ev x,st.ev y with
  |some (.cU t r i o),some y=>match st.gf t with
   |some A=>if (y.cells.length=n/\y.gS=true/\y.cells.all SV.one=true)/\o+n<=D.sz t/\st.rw 0=true/\D.n8 t (mK (D.es t (gd (D.df t) (r.get A) i)) o y.cells)=true then (match D.ds t (mK (D.es t (gd (D.df t) (r.get A) i)) o y.cells) with
    |some z=>some (.eF [r.n6 A,i<(r.get A).length] (.vo undef) r.id t ((r.get A).set i z) A)
    |none=>none) else none
   |none=>none
  |_,_=>none
 | .nilc x=>match st.ev x with
  |some (.cU t r i o)=>match st.gf t with
   |some A=>some (.val [r.ok A,i<(r.get A).length] (.cU t r i o))
   |none=>none
  |_=>none
 | .fad off x=>match st.ev x with
  |some (.cU t r i o)=>match st.gf t with
   |some A=>some (.val [r.ok A,i<(r.get A).length] (.cU t r i (o+off)))
   |none=>none
  |_=>none
 | .iad sz x y=>match st.ev x,st.ev y with
  |some (.rw t r),some b=>match st.gf t,b.int with
   |some A,some (n,_)=>if D.sz t=sz then some (.val [r.ok A,0<=n/\n<(r.get A).length] (.cU t r n.toNat 0)) else none
   |_,_=>none
  |_,_=>none
 | .len false x=>match st.ev x with
  |some (.rw t r)=>match st.gf t with
   |some A=>some (.val [r.ok A] (.vi ((r.get A).length:Int)))
   |none=>none
  |_=>none
 | .cpy sz x y=>match st.ev x,st.ev y with
  |some (.rw t r),some b=>match st.gf t,rL D st sz b with
   |some A,some (O, .ty t' ys)=>if h:t'=t then (if D.sz t=sz/\st.rw 0=true then some (.eF (O++[r.n6 A]) (.vi ((min ys.length (r.get A).length:Nat):Int)) r.id t (((h▸ys):List (dn t)).take (r.get A).length++(r.get A).drop (min ys.length (r.get A).length)) A) else none) else none
   |_,_=>none
  |_,_=>none
 |_=>none
end
section
variable {τ:Type} {dn:τ->Type} {D:TD τ dn} {N:aC} {st:SS τ dn} {σ:Nat->AV} {g:Nat->Option Bk} [DecidableEq τ]
theorem lP (R:bm D N st σ g) {t:τ} {A:List (Nat×List (dn t))} (h:st.gf t=some A) {r:Row (dn t)} (hr:r.ok A) (hk:r.kd= .own):r.get A=fD A r.id/\r.n=(r.get A).length/\g r.id=some ⟨D.sz t,(r.get A).map (D.ea N.ρ t)⟩:=by
 unfold Row.ok at hr
 rw [hk] at hr
 have e:r.get A=fD A r.id:=by unfold Row.get;rw [hk]
 rw [e]
 exact ⟨rfl,hr.2.symm,R.ar t A (gL (mO h)) _ hr.1⟩
theorem pr (hk:r.kd= .nil):r.get A=[]:=by unfold Row.get;rw [hk]
theorem od (hk:r.kd= .aX):r.get A=r.xs:=by unfold Row.get;rw [hk]
theorem Row.n6.ok {α:Type} {A:List (Nat×List α)} {r:Row α} (h:r.n6 A):r.ok A:=by unfold Row.ok;rw [h.1];exact h.2
theorem Kj (R:bm D N st σ g) {sz:Nat} {v:SV τ dn} {O:List Prop} {c:Ct τ dn} (h:rL D st sz v=some (O,c)) (hO:∀p,p∈O->p):(content sz (v.av D.toTE N)).run g=some (c.els D N)/\(∀t xs,c= .ty t xs->D.sz t=sz):=by
 have other:∀{v:SV τ dn},((st.cont D sz v).map fun c=>(([]:List Prop),c))=some (O,c)->(content sz (v.av D.toTE N)).run g=some (c.els D N)/\(∀t xs,c= .ty t xs->D.sz t=sz):=fun h=>by
  simp only [OM,OT] at h
  obtain ⟨c',h1,_,rfl⟩:=h
  exact oc R h1
 cases v with
 |rw t r=>
  simp only [rL] at h
  split at h
  ·rename_i A hA
   split at h
   ·rename_i hs
    simp only [OG,OT] at h
    obtain ⟨rfl,rfl⟩:=h
    simp only [OP,O3] at hO
    refine ⟨?_,fun t' ys e=>by simp only [Ct.ty.injEq] at e;obtain ⟨rfl,_⟩:=e;exact hs⟩
    cases hk:r.kd with
    |nil=>simp only [SV.av,hk,content,RM.run,Ct.els,pr hk,Pw]
    |aX=>simp only [SV.av,hk,content,hs,OK,RM.run,Ct.els,od hk]
    |own=>
     obtain ⟨e1,e2,e3⟩:=lP R hA hO hk
     simp only [SV.av,hk,content,RM.run,e3,hs,e2,OZ,O7,OQ,O5,OK,Qs,Ct.els]
     rw [Qa (by simp)]
   ·simp at h
  ·simp at h
 |_=>exact other h
theorem Kk (ok:bh D) (R:bm D N st σ g) {r:SR τ dn} (h:lO D st ao=some r):r.Good D N st.nx σ g ao:=by
 intro k hO hf
 cases ao<;>simp only [lO,reduceCtorEq] at h
 case load m x=>
  split at h
  case h_2=>simp at h
  rename_i t q i o hx
  split at h
  case h_2=>simp at h
  rename_i A hA
  simp only [OM] at h;obtain ⟨w,hw,rfl⟩:=h
  simp only [SR.O,OU,PM,or_false,Qb,O3] at hO
  have hq:=pq (D:=D) (N:=N) hw
  rw [ok.dv] at hq
  cases hk:q.kd with
  |nil=>rw [pr hk] at hO;simp at hO
  |aX=>
   rw [od hk] at hq hO
   simp only [AO.au,R.ev hx,SV.av,hk,lI (d:=D.df t) hO.2,hq,OS,RM.opt,RM.run,SR.v,SR.ups]
  |own=>
   obtain ⟨e1,e2,e3⟩:=lP R hA hO.1 hk
   simp only [AO.au,R.ev hx,SV.av,hk,RM.run,e3,OK,O6,lI (d:=D.df t) hO.2,OS,PT,hq,RM.opt,SR.v,SR.ups]
 case store n x y=>
  split at h
  case h_2=>simp at h
  rename_i t q i o b hx hy
  split at h
  case h_2=>simp at h
  rename_i A hA
  split at h
  case isFalse=>simp at h
  rename_i hc
  split at h
  case h_2=>simp at h
  rename_i z hz
  simp only [OG] at h;subst h
  simp only [SR.O,OU,PM,or_false,Qb,O3] at hO
  have bY:=SV.q9 (E:=D.toTE) (N:=N) hc.1.2.1
  have dL:=ud (D:=D) (N:=N) hc.1.2.2
  obtain ⟨e1,e2,e3⟩:=lP R hA hO.1.ok hO.1.1
  have he:=ok.fZ N t _ z hz hc.2.2.2
  rw [uc,ok.dv] at he
  simp only [AO.au,R.ev hx,R.ev hy,SV.av,hO.1.1,RM.run,e3,bY,O7,hc.1.1,dL,hc.2.1,O5,OK,O6,lI (d:=D.df t) hO.2,OS,SR.v,SR.ups,he,P5]
 case nilc x=>
  split at h
  case h_2=>simp at h
  rename_i t q i o hx
  split at h
  case h_2=>simp at h
  rename_i A hA
  simp only [OG] at h;subst h
  simp only [SR.O,OU,PM,or_false,Qb,O3] at hO
  cases hk:q.kd with
  |nil=>rw [pr hk] at hO;simp at hO
  |aX=>rw [od hk] at hO;simp only [AO.au,R.ev hx,SV.av,hk,lI (d:=D.df t) hO.2,RM.run,SR.v,SR.ups]
  |own=>
   obtain ⟨e1,e2,e3⟩:=lP R hA hO.1 hk
   simp only [AO.au,R.ev hx,SV.av,hk,RM.run,e3,SR.v,SR.ups]
 case fad off x=>
  split at h
  case h_2=>simp at h
  rename_i t q i o hx
  split at h
  case h_2=>simp at h
  rename_i A hA
  simp only [OG] at h;subst h
  simp only [SR.O,OU,PM,or_false,Qb,O3] at hO
  cases hk:q.kd with
  |nil=>rw [pr hk] at hO;simp at hO
  |aX=>rw [od hk] at hO;simp only [AO.au,R.ev hx,SV.av,hk,lI (d:=D.df t) hO.2,RM.run,SR.v,SR.ups]
  |own=>
   obtain ⟨e1,e2,e3⟩:=lP R hA hO.1 hk
   simp only [AO.au,R.ev hx,SV.av,hk,RM.run,e3,SR.v,SR.ups]
 case iad sz x y=>
  split at h
  case h_2=>simp at h
  rename_i t q b hx hy
  split at h
  case h_2=>simp at h
  rename_i A n l hA hb
  split at h
  case isFalse=>simp at h
  rename_i hs
  simp only [OG] at h;subst h
  simp only [SR.O,OU,PM,or_false,Qb,O3] at hO
  have hl:n.toNat<(q.get A).length:=by omega
  cases hk:q.kd with
  |nil=>rw [pr hk] at hl;simp at hl
  |aX=>
   rw [od hk] at hl
   simp only [AO.au,R.ev hx,R.ev hy,eG hb,SV.av,hk,hs,hO.2.1,O5,OK,O6,lI (d:=D.df t) hl,OS,RM.opt,RM.run,SR.v,SR.ups]
  |own=>
   obtain ⟨e1,e2,e3⟩:=lP R hA hO.1 hk
   have:n<(q.n:Int):=by rw [e2];exact hO.2.2
   simp only [AO.au,R.ev hx,R.ev hy,eG hb,SV.av,hk,hs,hO.2.1,this,O5,OK,RM.run,e3,SR.v,SR.ups,OZ]
 case len s x=>
  cases s with
  |true=>simp at h
  |false=>
   simp only at h
   split at h
   case h_2=>simp at h
   rename_i t q hx
   split at h
   case h_2=>simp at h
   rename_i A hA
   simp only [OG] at h;subst h
   simp only [SR.O,OP,O3] at hO
   cases hk:q.kd with
   |nil=>simp only [AO.au,R.ev hx,SV.av,hk,RM.run,SR.v,SR.ups,goInt,pr hk,List.length_nil];rfl
   |aX=>simp only [AO.au,R.ev hx,SV.av,hk,RM.run,SR.v,SR.ups,goInt,od hk,O7]
   |own=>
    obtain ⟨e1,e2,e3⟩:=lP R hA hO hk
    simp only [AO.au,R.ev hx,SV.av,hk,RM.run,e3,SR.v,SR.ups,goInt,e2]
 case cpy sz x y=>
  split at h
  case h_2=>simp at h
  rename_i t q b hx hy
  split at h
  case h_2=>simp at h
  rename_i A O t' ys hA dM
  split at h
  case isFalse=>simp at h
  rename_i ht
  subst ht
  split at h
  case isFalse=>simp at h
  rename_i hs
  simp only [OG] at h;subst h
  simp only [SR.O,Pm,OP] at hO
  have hm:=hO _ (.inr rfl)
  obtain ⟨c1,c2⟩:=Kj R dM fun p hp=>hO p (.inl hp)
  obtain ⟨e1,e2,e3⟩:=lP R hA hm.ok hm.1
  have e0:(AO.au k (aG σ) (.cpy sz x y)).run g=_:=dw (by rw [R.ev hy];exact c1)
  rw [e0,R.ev hx]
  simp only [SV.av,hm.1,RM.run,e3,hs.1,e2,O7,OZ,OQ,O5,OK,Ct.els,SR.v,SR.ups,List.take_zero,List.nil_append,goInt,PL,List.map_take,List.map_drop]
theorem Kl (R:bm D N st σ g) {r:SR τ dn} (h:lO D st ao=some r) (hO:∀p,p∈r.O->p) {v:SV τ dn} (hx:x∈ao.lk) (hv:st.ev x=some v) (hr:v.isRw=true):∀id,id∈(match v.av D.toTE N with| .own id _ _ _| .ref id _ _ _| .mp id=>[id]|_=>[])->∃t A,st.gm 0=some (.ar t A)/\dA A id:=by
 have uh:∀{t:τ} {A:List (Nat×List (dn t))} {q:Row (dn t)},st.gf t=some A->q.ok A->v= .rw t q->∀id,id∈(match v.av D.toTE N with| .own id _ _ _| .ref id _ _ _| .mp id=>[id]|_=>[])->∃t A,st.gm 0=some (.ar t A)/\dA A id:=by
  rintro t A q hA hq rfl id hid
  cases hk:q.kd with
  |nil=>simp [SV.av,hk] at hid
  |aX=>simp [SV.av,hk] at hid
  |own=>
   simp only [SV.av,hk,OP] at hid
   unfold Row.ok at hq
   rw [hk] at hq
   exact ⟨t,A,mO hA,hid▸hq.1⟩
 have ui:∀{t:τ} {A:List (Nat×List (dn t))} {q:Row (dn t)} {i o:Nat},st.gf t=some A->q.ok A->v= .cU t q i o->∀id,id∈(match v.av D.toTE N with| .own id _ _ _| .ref id _ _ _| .mp id=>[id]|_=>[])->∃t A,st.gm 0=some (.ar t A)/\dA A id:=by
  rintro t A q i o hA hq rfl id hid
  cases hk:q.kd with
  |nil=>simp [SV.av,hk] at hid
  |aX=>
   simp only [SV.av,hk] at hid
   exfalso
   revert hid
   cases q.xs[i]? <;>simp
  |own=>
   simp only [SV.av,hk,OP] at hid
   unfold Row.ok at hq
   rw [hk] at hq
   exact ⟨t,A,mO hA,hid▸hq.1⟩
 cases ao<;>simp only [lO,reduceCtorEq] at h<;>simp only [AO.lk,OP,OU,PM,or_false] at hx
 case load m x'=>
  subst hx
  rw [hv] at h
  split at h
  case h_2=>simp at h
  rename_i t q i o he
  simp only [OG] at he
  split at h
  case h_2=>simp at h
  rename_i A hA
  simp only [OM] at h;obtain ⟨w,hw,rfl⟩:=h
  exact ui hA (hO _ (by simp [SR.O])) he
 case store n x' y=>
  subst hx
  rw [hv] at h
  split at h
  case h_2=>simp at h
  rename_i t q i o b he hy
  simp only [OG] at he
  split at h
  case h_2=>simp at h
  rename_i A hA
  split at h
  case isFalse=>simp at h
  split at h
  case h_2=>simp at h
  simp only [OG] at h;subst h
  exact ui hA (hO _ (PH ..):q.n6 A).ok he
 case nilc x'=>
  subst hx
  rw [hv] at h
  split at h
  case h_2=>simp at h
  rename_i t q i o he
  simp only [OG] at he
  split at h
  case h_2=>simp at h
  rename_i A hA
  simp only [OG] at h;subst h
  exact ui hA (hO _ (by simp [SR.O])) he
 case fad off x'=>
  subst hx
  rw [hv] at h
  split at h
  case h_2=>simp at h
  rename_i t q i o he
  simp only [OG] at he
  split at h
  case h_2=>simp at h
  rename_i A hA
  simp only [OG] at h;subst h
  exact ui hA (hO _ (by simp [SR.O])) he
 case iad sz x' y=>
  subst hx
  rw [hv] at h
  split at h
  case h_2=>simp at h
  rename_i t q b he hy
  simp only [OG] at he
  split at h
  case h_2=>simp at h
  rename_i A n l hA hb
  split at h
  case isFalse=>simp at h
  simp only [OG] at h;subst h
  exact uh hA (hO _ (by simp [SR.O])) he
 case len s x'=>
  subst hx
  cases s with
  |true=>simp at h
  |false=>
   simp only at h
   rw [hv] at h
   split at h
   case h_2=>simp at h
   rename_i t q he
   simp only [OG] at he
   split at h
   case h_2=>simp at h
   rename_i A hA
   simp only [OG] at h;subst h
   exact uh hA (hO _ (by simp [SR.O])) he
 case cpy sz x' y=>
  split at h
  case h_2=>simp at h
  rename_i t q b cK hy
  split at h
  case h_2=>simp at h
  rename_i A O t' ys hA dM
  split at h
  case isFalse=>simp at h
  rename_i ht
  subst ht
  split at h
  case isFalse=>simp at h
  simp only [OG] at h;subst h
  simp only [SR.O,Pm,OP] at hO
  rcases hx with rfl|rfl
  ·rw [hv] at hy
   simp only [OG] at hy;subst hy
   cases v with
   |rw t2 q2=>
    simp only [rL] at dM
    split at dM
    ·rename_i A2 Km
     split at dM
     ·simp only [OG,OT] at dM
      obtain ⟨rfl,_⟩:=dM
      exact uh Km (hO _ (.inl (OP.2 rfl))) rfl
     ·simp at dM
    ·simp at dM
   |cU t2 q2 i o=>simp [rL,SS.cont] at dM
   |_=>simp [SV.isRw] at hr
  ·rw [hv] at cK
   simp only [OG] at cK
   exact uh hA (hO _ (.inr rfl):q.n6 A).ok cK
end
open Go.RowKit
def aC.agree (n:Nat) (N N':aC):Prop:=(∀a,a<n->N'.ι a=N.ι a/\N'.ln a=N.ln a)/\N'.ρ=N.ρ
theorem aC.dT (n:Nat) (N:aC):N.agree n N:=⟨fun _ _=>⟨rfl,rfl⟩,rfl⟩
theorem aC.eN {m:Nat} {N' bW:aC} (h:N.agree n N') (k:N'.agree m bW) (hm:n<=m):N.agree n bW:=
 ⟨fun a ha=>⟨((k.1 a (by omega)).1).trans (h.1 a ha).1,((k.1 a (by omega)).2).trans (h.1 a ha).2⟩,k.2.trans h.2⟩
def aC.dc (N:aC) (nm id ln:Nat):aC:=⟨fun a=>if a=nm then id else N.ι a,fun a=>if a=nm then ln else N.ln a,N.ρ⟩
theorem aC.lQ (N:aC) (nm id ln:Nat):N.agree nm (N.dc nm id ln):=
 ⟨fun a ha=>⟨OH (by omega),OH (by omega)⟩,rfl⟩
section
variable {τ:Type} {dn:τ->Type} {D:TD τ dn}
structure Rel (D:TD τ dn) (N:aC) (st:SS τ dn) (s:S3):Prop where
 at_:∀N',N.agree st.nx N'->bm D N' st s.σ s.g
 inj:∀a b,a<st.nx->b<st.nx->N.ι a=N.ι b->a=b
 lt:∀a,a<st.nx->N.ι a<s.k
 ml:∀nm B,getS st.m nm=some B->nm<st.nx
 rl:∀nm B,getS st.rm nm=some B->nm<st.nx
 sp:∀t A,st.bB 0 (.ar t A)->∀id,dA A id->id<s.k/\∀nm B,st.bB nm B->N.ι nm≠id
theorem Rel.here {st:SS τ dn} {s:S3} (R:Rel D N st s):bm D N st s.σ s.g:=R.at_ N (N.dT _)
def dstS (n:Nat) (rt:List (Nat×SV τ dn)):Option Nat->Bool
 |none=>true
 |some d=>Nat.blt d n&&(getS rt d).isNone
def ik (t:List (Nat×SV τ dn)):Option Nat->SV τ dn->List (Nat×SV τ dn)
 |none,_=>t
 |some d,v=>(d,v)::t
theorem bk {v:α} {r:List (Nat×α)}:getS ((j,v)::r) i=if i=j then some v else getS r i:=by
 simp only [getS]
 by_cases h:i=j
 ·subst h;simp
 ·have:Nat.beq i j=false:=by
   cases hb:Nat.beq i j with
   |false=>rfl
   |true=>exact absurd (OR hb) h
  simp [this,h]
theorem mP {rt t:List (Nat×SV τ dn)} {v:SV τ dn} {a:AV} (hd:dstS n rt d=true)
  (h1:∀i v,getS t i=some v->σ i=v.av D.toTE N) (h2:∀i v,getS rt i=some v->σ i=v.av D.toTE N) (ha:a=v.av D.toTE N):
  (∀i w,getS (ik t d v) i=some w->bG n d a σ i=w.av D.toTE N)/\(∀i w,getS rt i=some w->bG n d a σ i=w.av D.toTE N):=by
 cases d with
 |none=>exact ⟨fun i w h=>by simp only [bG];rw [OH (by simp)];exact h1 i w h,fun i w h=>by simp only [bG];rw [OH (by simp)];exact h2 i w h⟩
 |some d=>
  simp only [dstS,OJ] at hd
  have wX:d<n:=Pn hd.1
  refine ⟨fun i w h=> ?_,fun i w h=> ?_⟩
  ·simp only [ik,bk] at h
   simp only [bG,OG]
   by_cases hi:i=d
   ·subst hi
    rw [OI rfl,OG] at h
    rw [OI ⟨rfl,wX⟩,ha,h]
   ·rw [OH hi] at h
    rw [OH (fun hh=>hi hh.1.symm)];exact h1 i w h
  ·simp only [bG,OG]
   have hi:¬d=i:=fun e=>by subst e;rw [h] at hd;simp at hd
   rw [OH (fun hh=>hi hh.1)];exact h2 i w h
def SR.st (st:SS τ dn) (d:Option Nat):SR τ dn->SS τ dn
 | .val _ v=>⟨st.rt,st.rm,ik st.t d v,st.m,st.nx⟩
 | .new _ v B=>⟨st.rt,st.rm,ik st.t d v,(st.nx,some B)::st.m,st.nx+1⟩
 | .put _ v nm B=>⟨st.rt,st.rm,ik st.t d v,(nm,some B)::st.m,st.nx⟩
 | .mov _ v old B=>⟨st.rt,st.rm,ik st.t d v,(st.nx,some B)::(old,none)::st.m,st.nx+1⟩
 | .ga _ v ns=>⟨st.rt,st.rm,ik st.t d v,(ns.map fun a=>(a,none))++st.m,st.nx⟩
 | .eF _ v id t row A=>⟨st.rt,st.rm,ik st.t d v,(0,some (.ar t ((id,row)::A)))::st.m,st.nx⟩
def SR.keys (st:SS τ dn):SR τ dn->List Nat
 | .val _ _=>[]
 | .new _ _ _=>[st.nx]
 | .put _ _ nm _=>[nm]
 | .mov _ _ old _=>[old,st.nx]
 | .ga _ _ ns=>ns
 | .eF _ _ _ _ _ _=>[0]
def SR.may (D:TD τ dn) (N:aC) (st:SS τ dn):SR τ dn->Prop
 | .put _ _ nm B=>(∃B0,getS st.m nm=some (some B0)/\N.ln nm=B.len)/\getS st.rm nm=none/\B.iM=false
 | .mov _ _ old B=>(∃B0,getS st.m old=some (some B0))/\getS st.rm old=none/\B.iM=false
 | .ga _ _ ns=>∀a,a∈ns->(∃B0,getS st.m a=some (some B0))/\getS st.rm a=none
 | .new _ _ B=>B.iM=false
 | .eF _ _ id t _ A=>getS st.m 0=some (some (.ar t A))/\getS st.rm 0=none/\dA A id
 | .val _ _=>True
def SR.up (N:aC) (st:SS τ dn) (k:Nat):SR τ dn->aC
 | .new _ _ B| .mov _ _ _ B=>N.dc st.nx k B.len
 |_=>N
def SR.k1 (k:Nat):SR τ dn->Nat
 | .new _ _ _| .mov _ _ _ _=>k+1
 |_=>k
theorem rN:∀(l:List Nat) (g:Nat->Option Bk) (id:Nat),aA g (l.map fun i=>(i,none)) id=if id∈l then none else g id
 |[],g,id=>by simp [aA]
 |a::r,g,id=>by
  rw [OX,aA,rN r]
  by_cases h1:id∈r<;>by_cases h2:id=a<;>simp [h1,h2]
theorem rO {α:Type} {m:List (Nat×Option α)}:∀{ns:List Nat} {i:Nat} {B:Option α},getS ((ns.map fun a=>(a,none))++m) i=some B->(i∈ns/\B=none)\/(¬i∈ns/\getS m i=some B)
 |[],i,B,h=> .inr ⟨by simp,h⟩
 |a::r,i,B,h=>by
  rw [OX,P3,bk] at h
  by_cases hi:i=a
  ·rw [OI hi,OG] at h;exact .inl ⟨by simp [hi],h.symm⟩
  ·rw [OH hi] at h
   rcases rO h with ⟨h1,h2⟩|⟨h1,h2⟩
   ·exact .inl ⟨by simp [h1],h2⟩
   ·exact .inr ⟨by simp [hi,h1],h2⟩
theorem Cr {rt rt' t t':List (Nat×SV τ dn)} {rm m:List (Nat×Option (SB τ dn))} {nx nx' dP:Nat} {x:Option (SB τ dn)} (nm:Nat):(⟨rt,rm,t,(dP,x)::m,nx⟩:SS τ dn).gm nm=if nm=dP then x else (⟨rt',rm,t',m,nx'⟩:SS τ dn).gm nm:=by
 unfold SS.gm
 simp only [bk]
 by_cases h:nm=dP
 ·rw [OI h,OI h]
 ·rw [OH h,OH h]
theorem mQ {st:SS τ dn} {x:Option (SB τ dn)} (h:getS st.m nm=some x):st.gm nm=x:=by unfold SS.gm;rw [h]
theorem Rel.go {st:SS τ dn} {s:S3} (R:Rel D N st s) (hd:dstS n st.rt d=true) {r:SR τ dn} (hm:r.may D N st) {val:AV} (hv:∀N',(r.up N st s.k).agree (r.st st d).nx N'->val=r.v.av D.toTE N') {ups:List (Nat×Option Bk)} (hu:∀N',(r.up N st s.k).agree (r.st st d).nx N'->ups=r.ups D N' s.k):
  Rel D (r.up N st s.k) (r.st st d) ⟨bG n d val s.σ,aA s.g ups,r.k1 s.k⟩:=by
 have tG:∀(N':aC) (nm:Nat) (B:SB τ dn) (id:Nat) (x:Option Bk),getS st.rm nm=some (some B)->bm D N' st s.σ s.g->¬N'.ι nm=id->(if N'.ι nm=id then x else s.g (N'.ι nm))=some (B.av D.toTE N')/\N'.ln nm=B.len:=fun N' nm B id x h A hne=>by rw [OH hne];exact A.rb nm B h
 cases r with
 |val O v=>
  refine ⟨fun N' hN=> ?_,R.inj,R.lt,R.ml,R.rl,R.sp⟩
  have A:=R.at_ N' hN
  obtain ⟨q1,q2⟩:=mP (D:=D) (n:=n) (v:=v) (a:=val) hd A.sl A.rs (hv N' hN)
  have e:=hu N' hN
  simp only [SR.ups] at e
  subst e
  exact ⟨q1,q2,A.bl,A.rb,A.ar⟩
 |new O v B=>
  have dN:∀N',(N.dc st.nx s.k B.len).agree (st.nx+1) N'->N.agree st.nx N'/\N'.ι st.nx=s.k/\N'.ln st.nx=B.len:=fun N' hN=>by
   refine ⟨aC.eN (N.lQ st.nx s.k B.len) hN (by omega), ?_, ?_⟩
   ·rw [(hN.1 st.nx (by omega)).1];exact OI rfl
   ·rw [(hN.1 st.nx (by omega)).2];exact OI rfl
  have jV:∀t A,(SR.st st d (SR.new O v B:SR τ dn)).bB 0 (.ar t A)->st.bB 0 (.ar t A):=fun t A h=>by
   rcases h with h|h
   ·simp only [SR.st,bk] at h
    by_cases h0:0=st.nx
    ·rw [OI h0,OG,OG] at h
     have dq:B.iM=false:=hm
     subst h;simp [SB.iM] at dq
    ·rw [OH h0] at h;exact .inl h
   ·exact .inr h
  refine ⟨fun N' hN=> ?_,fun a b ha hb he=> ?_,fun a ha=> ?_,fun nm B' h=> ?_,fun nm B' h=>Ql (R.rl nm B' h),fun t A h id hid=> ?_⟩
  ·obtain ⟨h1,h2,h3⟩:=dN N' hN
   have A:=R.at_ N' h1
   obtain ⟨q1,q2⟩:=mP (D:=D) (n:=n) (v:=v) (a:=val) hd A.sl A.rs (hv N' hN)
   have e:=hu N' hN
   simp only [SR.ups] at e
   subst e
   have hne:∀nm,nm<st.nx->¬N'.ι nm=s.k:=fun nm fE he=>by
    rw [(h1.1 nm fE).1] at he;have:=R.lt nm fE;omega
   refine ⟨q1,q2,fun nm B' h=> ?_,fun nm B' h=> ?_,fun t A' h id hid=> ?_⟩
   ·simp only [SR.st,bk] at h
    simp only [aA]
    by_cases hn:nm=st.nx
    ·subst hn
     rw [OI rfl,OG,OG] at h
     subst h
     rw [OI h2];exact ⟨rfl,h3⟩
    ·rw [OH hn] at h
     rw [OH (hne nm (R.ml nm _ h))];exact A.bl nm B' h
   ·simp only [aA];exact tG N' nm B' _ _ h A (hne nm (R.rl nm _ h))
   ·have h':=jV t A' h
    simp only [aA]
    rw [OH (fun e=>by have:=(R.sp t A' h' id hid).1;omega)]
    exact A.ar t A' h' id hid
  ·simp only [SR.st] at ha hb
   simp only [SR.up,aC.dc] at he
   by_cases h1:a=st.nx<;>by_cases h2:b=st.nx
   ·rw [h1,h2]
   ·rw [OI h1,OH h2] at he;have:=R.lt b (by omega);omega
   ·rw [OH h1,OI h2] at he;have:=R.lt a (by omega);omega
   ·rw [OH h1,OH h2] at he;exact R.inj a b (by omega) (by omega) he
  ·simp only [SR.st] at ha
   simp only [SR.up,aC.dc,SR.k1]
   by_cases h1:a=st.nx
   ·rw [OI h1];omega
   ·rw [OH h1];have:=R.lt a (by omega);omega
  ·simp only [SR.st,bk] at h ⊢
   by_cases hn:nm=st.nx
   ·omega
   ·rw [OH hn] at h;have:=R.ml nm _ h;omega
  ·have h':=jV t A h
   obtain ⟨h1,h2⟩:=R.sp t A h' id hid
   refine ⟨Ql h1,fun nm B' aL=> ?_⟩
   simp only [SR.up,aC.dc]
   by_cases hn:nm=st.nx
   ·rw [OI hn];omega
   ·rw [OH hn]
    simp only [SS.bB,SR.st,bk] at aL
    rw [OH hn] at aL
    exact h2 nm B' aL
 |put O v dP B=>
  obtain ⟨⟨B0,cq,bn⟩,pe,yd⟩:=hm
  have h0:=R.ml dP _ cq
  have jV:∀t A,(SR.st st d (SR.put O v dP B:SR τ dn)).bB 0 (.ar t A)->st.bB 0 (.ar t A):=fun t A h=>by
   rcases h with h|h
   ·simp only [SR.st,bk] at h
    by_cases h1:0=dP
    ·rw [OI h1,OG,OG] at h
     subst h;simp [SB.iM] at yd
    ·rw [OH h1] at h;exact .inl h
   ·exact .inr h
  refine ⟨fun N' hN=> ?_,R.inj,R.lt,fun nm B' h=> ?_,R.rl,fun t A h id hid=> ?_⟩
  ·have A:=R.at_ N' hN
   obtain ⟨q1,q2⟩:=mP (D:=D) (n:=n) (v:=v) (a:=val) hd A.sl A.rs (hv N' hN)
   have e:=hu N' hN
   simp only [SR.ups] at e
   subst e
   have hne:∀nm,nm<st.nx->¬nm=dP->¬N'.ι nm=N'.ι dP:=fun nm fE hx he=>by
    rw [(hN.1 nm fE).1,(hN.1 dP h0).1] at he;exact hx (R.inj _ _ fE h0 he)
   refine ⟨q1,q2,fun nm B' h=> ?_,fun nm B' h=> ?_,fun t A' h id hid=> ?_⟩
   ·simp only [SR.st,bk] at h
    simp only [aA]
    by_cases hn:nm=dP
    ·subst hn
     rw [OI rfl,OG,OG] at h
     subst h
     rw [OI rfl];exact ⟨rfl,by rw [(hN.1 nm h0).2];exact bn⟩
    ·rw [OH hn] at h
     rw [OH (hne nm (R.ml nm _ h) hn)];exact A.bl nm B' h
   ·simp only [aA]
    have h':getS st.rm nm=some (some B'):=h
    by_cases hn:nm=dP
    ·subst hn;rw [pe] at h';simp at h'
    ·exact tG N' nm B' _ _ h' A (hne nm (R.rl nm _ h') hn)
   ·have h':=jV t A' h
    simp only [aA]
    rw [OH (fun e=>(R.sp t A' h' id hid).2 dP B0 (.inl cq) (((hN.1 dP h0).1).symm.trans e.symm))]
    exact A.ar t A' h' id hid
  ·simp only [SR.st,bk] at h ⊢
   by_cases hn:nm=dP
   ·subst hn;exact h0
   ·rw [OH hn] at h;exact R.ml nm _ h
  ·obtain ⟨h1,h2⟩:=R.sp t A (jV t A h) id hid
   refine ⟨h1,fun nm B' aL=> ?_⟩
   simp only [SS.bB,SR.st,bk] at aL
   by_cases hn:nm=dP
   ·subst hn;exact h2 nm B0 (.inl cq)
   ·rw [OH hn] at aL;exact h2 nm B' aL
 |ga O v ns=>
  have hal:∀nm B',(SR.st st d (SR.ga O v ns:SR τ dn)).bB nm B'->st.bB nm B':=fun nm B' h=>by
   rcases h with h|h
   ·rcases rO h with ⟨_,h2⟩|⟨_,h2⟩
    ·simp at h2
    ·exact .inl h2
   ·exact .inr h
  have jV:∀t A,(SR.st st d (SR.ga O v ns:SR τ dn)).bB 0 (.ar t A)->st.bB 0 (.ar t A):=fun t A h=>hal 0 _ h
  refine ⟨fun N' hN=> ?_,R.inj,R.lt,fun nm B' h=> ?_,R.rl,fun t A h id hid=> ?_⟩
  ·have A:=R.at_ N' hN
   obtain ⟨q1,q2⟩:=mP (D:=D) (n:=n) (v:=v) (a:=val) hd A.sl A.rs (hv N' hN)
   have e:=hu N' hN
   simp only [SR.ups] at e
   subst e
   have hne:∀nm,nm<st.nx->¬nm∈ns->¬N'.ι nm∈ns.map N'.ι:=fun nm fE hx he=>by
    obtain ⟨a,ha,e⟩:=Pc.1 he
    obtain ⟨⟨B0,cq⟩,_⟩:=hm a ha
    have h0:=R.ml a _ cq
    rw [(hN.1 nm fE).1,(hN.1 a h0).1] at e
    have:=R.inj _ _ h0 fE e
    subst this;exact hx ha
   refine ⟨q1,q2,fun nm B' h=> ?_,fun nm B' h=> ?_,fun t A' h id hid=> ?_⟩
   ·rcases rO h with ⟨_,h2⟩|⟨h1,h2⟩
    ·simp at h2
    ·show aA s.g _ _=_/\_
     rw [rN,OH (hne nm (R.ml nm _ h2) h1)];exact A.bl nm B' h2
   ·have h':getS st.rm nm=some (some B'):=h
    have hx:¬nm∈ns:=fun hh=>by have:=(hm nm hh).2;rw [this] at h';simp at h'
    show aA s.g _ _=_/\_
    rw [rN,OH (hne nm (R.rl nm _ h') hx)];exact A.rb nm B' h'
   ·have h':=jV t A' h
    show aA s.g _ _=_
    rw [rN,OH]
    ·exact A.ar t A' h' id hid
    ·intro gX
     obtain ⟨a,ha,e⟩:=Pc.1 gX
     obtain ⟨⟨B0,cq⟩,_⟩:=hm a ha
     exact (R.sp t A' h' id hid).2 a B0 (.inl cq) (((hN.1 a (R.ml a _ cq)).1).symm.trans e)
  ·rcases rO h with ⟨h1,h2⟩|⟨h1,h2⟩
   ·obtain ⟨⟨B0,cq⟩,_⟩:=hm nm h1
    exact R.ml nm _ cq
   ·exact R.ml nm _ h2
  ·obtain ⟨h1,h2⟩:=R.sp t A (jV t A h) id hid
   exact ⟨h1,fun nm B' aL=>h2 nm B' (hal nm B' aL)⟩
 |mov O v old B=>
  obtain ⟨⟨B0,cq⟩,pe,yd⟩:=hm
  have h0:=R.ml old _ cq
  have dN:∀N',(N.dc st.nx s.k B.len).agree (st.nx+1) N'->N.agree st.nx N'/\N'.ι st.nx=s.k/\N'.ln st.nx=B.len:=fun N' hN=>by
   refine ⟨aC.eN (N.lQ st.nx s.k B.len) hN (by omega), ?_, ?_⟩
   ·rw [(hN.1 st.nx (by omega)).1];exact OI rfl
   ·rw [(hN.1 st.nx (by omega)).2];exact OI rfl
  have jV:∀t A,(SR.st st d (SR.mov O v old B:SR τ dn)).bB 0 (.ar t A)->st.bB 0 (.ar t A):=fun t A h=>by
   rcases h with h|h
   ·simp only [SR.st,bk] at h
    by_cases h1:0=st.nx
    ·rw [OI h1,OG,OG] at h
     subst h;simp [SB.iM] at yd
    ·rw [OH h1] at h
     by_cases h2:0=old
     ·rw [OI h2] at h;simp at h
     ·rw [OH h2] at h;exact .inl h
   ·exact .inr h
  refine ⟨fun N' hN=> ?_,fun a b ha hb he=> ?_,fun a ha=> ?_,fun nm B' h=> ?_,fun nm B' h=>Ql (R.rl nm B' h),fun t A h id hid=> ?_⟩
  ·obtain ⟨h1,h2,h3⟩:=dN N' hN
   have A:=R.at_ N' h1
   obtain ⟨q1,q2⟩:=mP (D:=D) (n:=n) (v:=v) (a:=val) hd A.sl A.rs (hv N' hN)
   have e:=hu N' hN
   simp only [SR.ups] at e
   subst e
   have hne:∀nm,nm<st.nx->¬N'.ι nm=s.k:=fun nm fE he=>by
    rw [(h1.1 nm fE).1] at he;have:=R.lt nm fE;omega
   have Cs:∀nm,nm<st.nx->¬nm=old->¬N'.ι nm=N'.ι old:=fun nm fE hx he=>by
    rw [(h1.1 nm fE).1,(h1.1 old h0).1] at he;exact hx (R.inj _ _ fE h0 he)
   refine ⟨q1,q2,fun nm B' h=> ?_,fun nm B' h=> ?_,fun t A' h id hid=> ?_⟩
   ·simp only [SR.st,bk] at h
    simp only [aA]
    by_cases hn:nm=st.nx
    ·subst hn
     rw [OI rfl,OG,OG] at h
     subst h
     rw [OI h2];exact ⟨rfl,h3⟩
    ·rw [OH hn] at h
     by_cases ho:nm=old
     ·rw [OI ho] at h;simp at h
     ·rw [OH ho] at h
      rw [OH (hne nm (R.ml nm _ h)),OH (Cs nm (R.ml nm _ h) ho)];exact A.bl nm B' h
   ·simp only [aA]
    have h':getS st.rm nm=some (some B'):=h
    by_cases ho:nm=old
    ·subst ho;rw [pe] at h';simp at h'
    ·rw [OH (hne nm (R.rl nm _ h')),OH (Cs nm (R.rl nm _ h') ho)];exact A.rb nm B' h'
   ·have h':=jV t A' h
    simp only [aA]
    rw [OH (fun e=>by have:=(R.sp t A' h' id hid).1;omega),OH (fun e=>(R.sp t A' h' id hid).2 old B0 (.inl cq) (by rw [<-(h1.1 old h0).1];exact e.symm))]
    exact A.ar t A' h' id hid
  ·simp only [SR.st] at ha hb
   simp only [SR.up,aC.dc] at he
   by_cases h1:a=st.nx<;>by_cases h2:b=st.nx
   ·rw [h1,h2]
   ·rw [OI h1,OH h2] at he;have:=R.lt b (by omega);omega
   ·rw [OH h1,OI h2] at he;have:=R.lt a (by omega);omega
   ·rw [OH h1,OH h2] at he;exact R.inj a b (by omega) (by omega) he
  ·simp only [SR.st] at ha
   simp only [SR.up,aC.dc,SR.k1]
   by_cases h1:a=st.nx
   ·rw [OI h1];omega
   ·rw [OH h1];have:=R.lt a (by omega);omega
  ·simp only [SR.st,bk] at h ⊢
   by_cases hn:nm=st.nx
   ·omega
   ·rw [OH hn] at h
    by_cases ho:nm=old
    ·omega
    ·rw [OH ho] at h;have:=R.ml nm _ h;omega
  ·obtain ⟨h1,h2⟩:=R.sp t A (jV t A h) id hid
   refine ⟨Ql h1,fun nm B' aL=> ?_⟩
   simp only [SR.up,aC.dc]
   by_cases hn:nm=st.nx
   ·rw [OI hn];omega
   ·rw [OH hn]
    simp only [SS.bB,SR.st,bk] at aL
    rw [OH hn] at aL
    by_cases ho:nm=old
    ·subst ho;exact h2 nm B0 (.inl cq)
    ·rw [OH ho] at aL;exact h2 nm B' aL
 |eF O v lR t0 row A0=>
  obtain ⟨hg0,pe,Cu⟩:=hm
  have jJ:=mQ hg0
  have Cv:=R.ml 0 _ hg0
  have ye:st.bB 0 (.ar t0 A0):= .inl hg0
  obtain ⟨hH,Kn⟩:=R.sp t0 A0 ye lR Cu
  have Cw:∀t A,(SR.st st d (SR.eF O v lR t0 row A0:SR τ dn)).bB 0 (.ar t A)->(SB.ar t A:SB τ dn)= .ar t0 ((lR,row)::A0):=fun t A h=>by
   rcases h with h|h
   ·simp only [SR.st,bk,OK,OG] at h;exact h.symm
   ·have h':getS st.rm 0=some (some (.ar t A)):=h
    rw [pe] at h';simp at h'
  have hne:∀(N':aC),N.agree st.nx N'->∀nm B',st.bB nm B'->nm<st.nx->¬N'.ι nm=lR:=fun N' hN nm B' aL hlt e=>Kn nm B' aL (by rw [<-(hN.1 nm hlt).1];exact e)
  refine ⟨fun N' hN=> ?_,R.inj,R.lt,fun nm B' h=> ?_,R.rl,fun t A h id hid=> ?_⟩
  ·have A:=R.at_ N' hN
   obtain ⟨q1,q2⟩:=mP (D:=D) (n:=n) (v:=v) (a:=val) hd A.sl A.rs (hv N' hN)
   have e:=hu N' hN
   simp only [SR.ups] at e
   subst e
   refine ⟨q1,q2,fun nm B' h=> ?_,fun nm B' h=> ?_,fun t A' h id hid=> ?_⟩
   ·simp only [SR.st,bk] at h
    simp only [aA]
    by_cases hn:nm=0
    ·subst hn
     rw [OI rfl,OG,OG] at h
     subst h
     rw [OH (hne N' hN 0 _ (.inl hg0) Cv)]
     have q:=A.bl 0 _ hg0
     exact ⟨q.1,q.2⟩
    ·rw [OH hn] at h
     rw [OH (hne N' hN nm _ (.inl h) (R.ml nm _ h))];exact A.bl nm B' h
   ·simp only [aA]
    have h':getS st.rm nm=some (some B'):=h
    rw [OH (hne N' hN nm _ (.inr h') (R.rl nm _ h'))];exact A.rb nm B' h'
   ·have h:=Cw t A' h
    simp only [SB.ar.injEq] at h
    obtain ⟨rfl,h⟩:=h
    have h:=eq_of_heq h
    subst h
    simp only [aA]
    rw [B8]
    by_cases hi:id=lR
    ·rw [OI hi,OI hi]
    ·rw [OH hi,OH hi]
     rcases re.1 hid with hh|hh
     ·exact absurd hh hi
     ·exact A.ar _ A0 ye id hh
  ·simp only [SR.st,bk] at h ⊢
   by_cases hn:nm=0
   ·subst hn;exact Cv
   ·rw [OH hn] at h;exact R.ml nm _ h
  ·have h:=Cw t A h
   simp only [SB.ar.injEq] at h
   obtain ⟨rfl,h⟩:=h
   have h:=eq_of_heq h
   subst h
   have jF:dA A0 id:=by
    rcases re.1 hid with hh|hh
    ·subst hh;exact Cu
    ·exact hh
   obtain ⟨h1,h2⟩:=R.sp _ A0 ye id jF
   refine ⟨h1,fun nm B' aL=> ?_⟩
   simp only [SS.bB,SR.st,bk] at aL
   by_cases hn:nm=0
   ·subst hn;exact h2 0 _ (.inl hg0)
   ·rw [OH hn] at aL;exact h2 nm B' aL
def SR.gh:SR τ dn->Bool
 | .val _ _=>true
 | .new _ _ B=> !B.iM
 |_=>false
theorem uj {st:SS τ dn} {r:SR τ dn} (h:r.gh=true):r.may D N st:=by cases r<;>first|trivial|(simp [SR.gh] at h;done)|(simpa [SR.gh,SR.may] using h)
theorem Ko {x y:Int} {r:SR τ dn} (h:rq neg op x y=some r):r.gh=true:=by
 unfold rq at h
 cases neg<;>simp only [OL,O0] at h
 repeat' split at h
 all_goals first|(simp at h;done)|(simp only [OG] at h;subst h;rfl)|(simp only [OM] at h;obtain ⟨_,_,rfl⟩:=h;rfl)
theorem Kq {x y:ByteArray} {r:SR τ dn} (h:oZ op x y=some r):r.gh=true:=by
 unfold oZ at h
 repeat' split at h
 all_goals first|(simp at h;done)|(simp only [OG] at h;subst h;rfl)|(simp only [OM] at h;obtain ⟨_,_,rfl⟩:=h;rfl)
theorem Kr {op:UnOp} {a:SV τ dn} {r:SR τ dn} (h:rv op a=some r):r.gh=true:=by
 unfold rv at h
 repeat' split at h
 all_goals first|(simp at h;done)|(simp only [OG] at h;subst h;rfl)|(simp only [OM] at h;obtain ⟨_,_,rfl⟩:=h;rfl)
theorem Ks {a:SV τ dn} {r:SR τ dn} (h:ry k a=some r):r.gh=true:=by
 unfold ry at h
 repeat' split at h
 all_goals first|(simp at h;done)|(simp only [OG] at h;subst h;rfl)|(simp only [OM] at h;obtain ⟨_,_,rfl⟩:=h;rfl)
theorem Kt {st:SS τ dn} {v:SV τ dn} {r:SR τ dn} (h:oa D st m v=some r):r.gh=true:=by
 unfold oa at h
 repeat' split at h
 all_goals first|(simp at h;done)|(simp only [OG] at h;subst h;rfl)|(simp only [OM] at h;obtain ⟨_,_,rfl⟩:=h;rfl)
theorem Ku {st:SS τ dn} {sz:Nat} {v:SV τ dn} {n:Int} {r:SR τ dn} (h:rB D st sz v n l=some r):r.gh=true:=by
 unfold rB at h
 cases l<;>simp only [OL,O0] at h
 repeat' split at h
 all_goals first|(simp at h;done)|(simp only [OG] at h;subst h;rfl)|(simp only [OM] at h;obtain ⟨_,_,rfl⟩:=h;rfl)
theorem Kv {st:SS τ dn} {v:SV τ dn} {r:SR τ dn} (h:rC st b v=some r):r.gh=true:=by
 unfold rC at h
 repeat' split at h
 all_goals first|(simp at h;done)|(simp only [OG] at h;subst h;rfl)|(simp only [OM] at h;obtain ⟨_,_,rfl⟩:=h;rfl)
theorem Kw {st:SS τ dn} {v:SV τ dn} {r:SR τ dn} (h:rD st kd neg v=some r):r.gh=true:=by
 unfold rD at h
 repeat' split at h
 all_goals first|(simp at h;done)|(simp only [OG] at h;subst h;rfl)|(simp only [OM] at h;obtain ⟨_,_,rfl⟩:=h;rfl)
theorem Cx {st:SS τ dn} {sz:Nat} {v:SV τ dn} {r:SR τ dn} (h:rE D st sz v lo hi=some r):r.gh=true:=by
 unfold rE at h
 repeat' split at h
 all_goals first|(simp at h;done)|(simp only [OG] at h;subst h;rfl)|(simp only [OM] at h;obtain ⟨_,_,rfl⟩:=h;rfl)
theorem Kx {st:SS τ dn} {v:SV τ dn} {r:SR τ dn} (h:rG D st v=some r):r.gh=true:=by
 unfold rG at h
 repeat' split at h
 all_goals first|(simp at h;done)|(simp only [OG] at h;subst h;rfl)
theorem Ky {st:SS τ dn} {r:SR τ dn} (h:rH D st s=some r):r.gh=true:=by
 unfold rH at h
 repeat' split at h
 all_goals first|(simp at h;done)|(simp only [OG] at h;subst h;rfl)
theorem Kz {st:SS τ dn} {sz by_:Nat} {zs:List AV} {l:Int} {r:SR τ dn} (h:rI D st sz by_ zs l c=some r):r.gh=true:=by
 unfold rI at h
 repeat' split at h
 all_goals first|(simp at h;done)|(simp only [OG] at h;subst h;rfl)|(simp only [OM] at h;obtain ⟨_,_,rfl⟩:=h;rfl)
theorem KA {bt:Bool} {a b:SV τ dn} {r:SR τ dn} (h:ru neg bt op a b=some r):r.gh=true:=by
 unfold ru at h
 repeat' split at h
 all_goals first|exact Ko h|exact Kq h|first|(simp at h;done)|(simp only [OG] at h;subst h;rfl)|(simp only [OM] at h;obtain ⟨_,_,rfl⟩:=h;rfl)
theorem jW {st:SS τ dn} (h:st.rw nm=true):(∃B0,getS st.m nm=some (some B0))/\getS st.rm nm=none:=by
 unfold SS.rw at h
 rw [OJ] at h
 refine ⟨?_,by simpa using h.2⟩
 have h1:=h.1
 split at h1
 ·rename_i B hB;exact ⟨B,hB⟩
 ·simp at h1
theorem KB (sz:Nat) (c:Ct τ dn):(c.kF sz).iM=false:=by cases c<;>rfl
theorem KC [DecidableEq τ] {sz:Nat} {B B':SB τ dn} {c:Ct τ dn} (h:n9 D sz B c=some B'):B'.iM=false:=by
 unfold n9 at h
 repeat' split at h
 all_goals first|(simp at h;done)|(simp only [OG] at h;subst h;rfl)|(simp only [OM] at h;obtain ⟨_,_,rfl⟩:=h;rfl)
theorem KD [DecidableEq τ] {st:SS τ dn} {g:Nat->Option Bk} (R:bm D N st σ g):∀{ao:AO} {r:SR τ dn},sx D st ao=some r->r.may D N st:=by
 intro ao r h
 have val:∀{O:List Prop} {v:SV τ dn},(SR.val O v).may D N st:=trivial
 have eB:∀{O:List Prop} {v:SV τ dn} {nm:Nat} {B0 B:SB τ dn},st.rw nm=true->st.gm nm=some B0->B.len=B0.len->(hb:B.iM=false:=by rfl)->(SR.put O v nm B).may D N st:=fun h1 h2 h3 hb=>by
  obtain ⟨⟨B1,h4⟩,h5⟩:=jW h1
  exact ⟨⟨B1,h4,by rw [h3];exact (R.gm h2).2⟩,h5,hb⟩
 cases ao<;>simp only [sx] at h
 case store n x y=>
  split at h
  ·unfold tT at h
   split at h
   ·split at h
    ·split at h
     ·rename_i hc
      split at h
      ·rename_i hB
       split at h
       ·split at h
        ·simp only [OG] at h;subst h;exact eB hc.2 hB (by simp [SB.len])
        ·simp at h
       ·simp at h
      ·rename_i hB
       split at h
       ·split at h
        ·simp only [OG] at h;subst h;exact eB hc.2 hB (by simp [SB.len])
        ·simp at h
       ·simp at h
      ·simp at h
     ·simp at h
    ·simp at h
   ·simp at h
  ·simp at h
 case app sz by_ x y=>
  split at h
  ·unfold tU at h
   split at h
   ·split at h
    ·simp only [OG] at h;subst h;exact KB _ _
    ·split at h
     ·rename_i hc
      split at h
      ·split at h
       ·simp only [OM] at h;obtain ⟨B',aL,rfl⟩:=h;exact ⟨(jW hc.2).1,(jW hc.2).2,KC aL⟩
       ·simp at h
      ·simp at h
     ·simp at h
    ·simp at h
   ·simp at h
  ·simp at h
 case cpy sz x y=>
  split at h
  ·unfold tV at h
   split at h
   ·split at h
    ·rename_i hc
     split at h
     ·rename_i hB
      split at h
      ·rename_i he
       subst he
       split at h
       ·simp only [OG] at h;subst h
        exact eB hc.2 hB (by simp only [SB.len,PV,P0,List.length_drop];omega)
       ·simp at h
      ·simp at h
     ·simp at h
    ·simp at h
   ·simp at h
  ·simp at h
 case mup kd x k y=>
  split at h
  ·unfold tY at h
   split at h
   case h_2=>simp at h
   rename_i nm key kg _
   split at h
   case h_2=>simp at h
   rename_i els hB
   cases hb:(st.rw nm&&plainV key) with
   |false=>rw [hb] at h;simp at h
   |true=>
    rw [hb,OL] at h
    rw [OJ] at hb
    split at h
    case h_2=>simp at h
    simp only [OG] at h;subst h
    exact eB hb.1 hB rfl
  ·simp at h
 case mlk kd z x k=>
  split at h
  ·unfold tZ at h
   refine uj ?_
   repeat' split at h
   all_goals first|(simp at h;done)|(simp only [OG] at h;subst h;rfl)|(simp only [OM] at h;obtain ⟨_,_,rfl⟩:=h;rfl)
  ·simp at h
 case slc sz x lo hi mx=>
  refine uj ?_
  cases mx with
  |some m=>simp at h
  |none=>
   simp only at h
   split at h
   ·exact Cx h
   ·simp at h
 all_goals refine uj ?_
 all_goals try (simp only [Qc] at h;obtain ⟨_,_,h⟩:=h)
 all_goals repeat' split at h
 all_goals first|exact KA h|exact Kr h|exact Ks h|exact Kt h|exact Ku h|exact Kv h|exact Kw h|exact Cx h|exact Kz h|exact Kx h|exact Ky h|(simp at h;done)|(simp only [OG] at h;subst h;rfl)|(simp only [OM] at h;obtain ⟨_,_,rfl⟩:=h;rfl)|(subst h;rfl)
end
open Go.RowKit
def fF:List Prop->Prop->Prop
 |[],K=>K
 |p::r,K=>p/\fF r K
theorem jX {K:Prop}:∀{O:List Prop},fF O K↔(∀p,p∈O->p)/\K
 |[]=>by simp [fF]
 |p::r=>by simp only [fF,jX (O:=r),OU,Qb,and_assoc]
def Cn.pol (c:Cn):Bool->Cn
 |true=>c
 |false=> .not c
theorem Cn.Cy (c:Cn) (p:Bool):(c.pol p).den=(c.den==p):=by cases p<;>cases h:c.den<;>simp [pol,den,h]
section
variable {τ:Type} {dn:τ->Type} {D:TD τ dn} {N:aC} {st:SS τ dn} {σ:Nat->AV} {g:Nat->Option Bk}
inductive Gd where
 |yes
 |no
 |lS (e:Cn)
 |bad
def SS.gd (st:SS τ dn):Option (Nat×Bool)->Gd
 |none=> .yes
 |some (i,w)=>match st.gt i with
  |some (.vt b)=>bif b==w then .yes else .no
  |some (.vo (.tuple _))=> .no
  |some (.vb c)=> .lS (c.pol w)
  |some (.vg p c (.vb c2))=> .lS (.and (c.pol p) (c2.pol w))
  |some (.vg p c (.vt b))=>bif b==w then .lS (c.pol p) else .no
  |_=> .bad
theorem KE (R:bm D N st σ g) {x:Option (Nat×Bool)}:(st.gd x= .yes->bR σ x=some true)/\(st.gd x= .no->bR σ x=some false)/\(∀e,st.gd x= .lS e->bR σ x=some e.den):=by
 cases x with
 |none=>exact ⟨fun _=>rfl,fun h=>by simp [SS.gd] at h,fun e h=>by simp [SS.gd] at h⟩
 |some x=>
  obtain ⟨i,w⟩:=x
  simp only [SS.gd]
  split
  ·rename_i b h
   have e:=R.gt h
   simp only [SV.av] at e
   simp only [bR,e]
   cases b<;>cases w<;>simp
  ·rename_i vs h
   have e:=R.gt h
   simp only [SV.av] at e
   simp [bR,e]
  ·rename_i c h
   have e:=R.gt h
   simp only [SV.av] at e
   simp [bR,e,Cn.Cy]
  ·rename_i p c c2 h
   have e:=R.gt h
   simp only [SV.av] at e
   refine ⟨by simp,by simp,fun e' he=> ?_⟩
   simp only [Gd.lS.injEq] at he;subst he
   simp only [bR,e,Cn.den,Cn.Cy]
   cases c.den<;>cases p<;>simp [undef]
  ·rename_i p c b h
   have e:=R.gt h
   simp only [SV.av] at e
   simp only [bR,e]
   cases hc:c.den<;>cases p<;>cases b<;>cases w<;>simp [undef,Cn.pol,Cn.den,hc]
  ·exact ⟨by simp,by simp,by simp⟩
def rP (st:SS τ dn):List Nat->List (Nat×SV τ dn)
 |[]=>st.t
 |i::r=>match st.gt i with
  |some (.vg _ _ v)=>(i,v)::rP st r
  |_=>rP st r
def SS.unw (st:SS τ dn) (ss:List Nat):SS τ dn:=⟨st.rt,st.rm,rP st ss,st.m,st.nx⟩
def jj (st:SS τ dn) (e:Cn):List Nat->List Prop
 |[]=>[]
 |i::r=>match st.gt i with
  |some (.vg p c _)=>(e.tf true->c.tf p)::jj st e r
  |_=>jj st e r
theorem Cz (R:bm D N st σ g) {e:Cn} (he:e.den=true) {ss:List Nat} (h:∀p,p∈jj st e ss->p):bm D N (st.unw ss) σ g:=by
 refine ⟨?_,R.rs,R.bl,R.rb,R.ar⟩
 show ∀i v,getS (rP st ss) i=some v->σ i=v.av D.toTE N
 have et:=(Cn.jg e true).2 he
 induction ss with
 |nil=>exact R.sl
 |cons j r ih=>
  simp only [rP]
  simp only [jj] at h
  split
  ·rename_i p c v hj
   rw [hj] at h
   simp only [OU,Qb] at h
   intro i w hw
   rw [bk] at hw
   by_cases hi:i=j
   ·rw [OI hi,OG] at hw
    subst hw;subst hi
    rw [R.gt hj,SV.av,OI ((Cn.jg c p).1 (h.1 et))]
   ·rw [OH hi] at hw;exact ih h.2 i w hw
  ·rename_i hj
   have:jj st e (j::r)=jj st e r:=by
    simp only [jj]
   refine ih ?_
   intro p hp
   refine h p ?_
   split
   ·rename_i q c v hq;exact absurd hq (hj _ _ _)
   ·exact hp
def oe (c:Cn) (b:Bool):SV τ dn->List Prop×SV τ dn
 | .vg p c' v=>([c.tf b->c'.tf p],v)
 |v=>([],v)
theorem CA {c:Cn} {v:SV τ dn} (hc:c.den=b) (h:∀p,p∈(oe c b v).1->p):v.av D.toTE N=(oe c b v).2.av D.toTE N:=by
 unfold oe at h ⊢
 split
 ·rename_i p c' v
  simp only [OP,O3] at h
  rw [SV.av,OI ((Cn.jg c' p).1 (h ((Cn.jg c b).2 hc)))]
 ·rfl
def rQ (c:Cn):SV τ dn->SV τ dn->Option (SV τ dn)
 | .vt true, .vt true=>some (.vt true)
 | .vt false, .vt false=>some (.vt false)
 | .vt true, .vt false=>some (.vb c)
 | .vt false, .vt true=>some (.vb (.not c))
 | .vb x, .vt false=>some (.vb (.and c x))
 | .vb x, .vt true=>some (.vb (.or (.not c) x))
 | .vt true, .vb y=>some (.vb (.or c y))
 | .vt false, .vb y=>some (.vb (.and (.not c) y))
 | .vb x, .vb y=>some (.vb (.or (.and c x) (.and (.not c) y)))
 |_,_=>none
theorem yf {c:Cn} {a b v:SV τ dn} (h:rQ c a b=some v):v.av D.toTE N=if c.den=true then a.av D.toTE N else b.av D.toTE N:=by
 unfold rQ at h
 split at h<;>simp only [OG,reduceCtorEq] at h<;>subst h<;>cases hc:c.den<;>simp [SV.av,Cn.den,hc]
def yg (st:SS τ dn) (c a b:Arg):Option (SR τ dn):=
 match st.ev c with
 |some (.vt true)=>(st.ev a).map (.val [])
 |some (.vt false)=>(st.ev b).map (.val [])
 |some (.vb cc)=>match st.ev a,st.ev b with
  |some va,some vb=>(rQ cc (oe cc true va).2 (oe cc false vb).2).map (.val ((oe cc true va).1++(oe cc false vb).1))
  |_,_=>none
 |_=>none
theorem KF (R:bm D N st σ g) {c a b:Arg} {r:SR τ dn} (h:yg st c a b=some r):r.Good D N st.nx σ g (.pick c a b)/\r.may D N st:=by
 unfold yg at h
 split at h
 ·rename_i hc
  simp only [OM] at h;obtain ⟨v,hv,rfl⟩:=h
  refine ⟨fun k hO hf=> ?_,trivial⟩
  simp only [AO.au,R.ev hc,SV.av,OK,R.ev hv,RM.run,SR.v,SR.ups]
 ·rename_i hc
  simp only [OM] at h;obtain ⟨v,hv,rfl⟩:=h
  refine ⟨fun k hO hf=> ?_,trivial⟩
  simp only [AO.au,R.ev hc,SV.av,PE,Pf,R.ev hv,RM.run,SR.v,SR.ups]
 ·rename_i cc hc
  split at h
  ·rename_i va vb ha hb
   simp only [OM] at h;obtain ⟨v,hv,rfl⟩:=h
   refine ⟨fun k hO hf=> ?_,trivial⟩
   simp only [SR.O,Pm] at hO
   simp only [AO.au,R.ev hc,SV.av,RM.run,SR.v,SR.ups,yf hv,R.ev ha,R.ev hb]
   cases hcc:cc.den with
   |true=>simp only [OK];rw [<-CA hcc fun p hp=>hO p (.inl hp)]
   |false=>simp only [PE,Pf];rw [<-CA hcc fun p hp=>hO p (.inr hp)]
  ·simp at h
 ·simp at h
variable [DecidableEq τ]
def mR (D:TD τ dn) (st:SS τ dn) (ao:AO):Option (SR τ dn):=
 match ao with
 | .pick c a b=>yg st c a b
 |ao=>bif ao.lk.any st.rwa then lO D st ao else sx D st ao
theorem KG {r:SR τ dn} (h:lO D st ao=some r) (hO:∀p,p∈r.O->p):r.may D N st:=by
 have eF:∀{O:List Prop} {v:SV τ dn} {t:τ} {A:List (Nat×List (dn t))} {q:Row (dn t)} {row:List (dn t)},st.gf t=some A->st.rw 0=true->q.n6 A->(SR.eF O v q.id t row A).may D N st:=fun hA hw hm=>by
  obtain ⟨⟨B1,h4⟩,h5⟩:=jW hw
  have:=mO hA
  have h6:=mQ h4
  rw [h6] at this
  simp only [OG] at this;subst this
  exact ⟨h4,h5,hm.2.1⟩
 cases ao<;>simp only [lO,reduceCtorEq] at h
 case store n x y=>
  split at h
  case h_2=>simp at h
  rename_i t q i o b hx hy
  split at h
  case h_2=>simp at h
  rename_i A hA
  split at h
  case isFalse=>simp at h
  rename_i hc
  split at h
  case h_2=>simp at h
  simp only [OG] at h;subst h
  exact eF hA hc.2.2.1 (hO _ (PH ..))
 case cpy sz x y=>
  split at h
  case h_2=>simp at h
  rename_i t q b cK hy
  split at h
  case h_2=>simp at h
  rename_i A O t' ys hA dM
  split at h
  case isFalse=>simp at h
  rename_i ht
  subst ht
  split at h
  case isFalse=>simp at h
  rename_i hs
  simp only [OG] at h;subst h
  simp only [SR.O,Pm,OP] at hO
  exact eF hA hs.2 (hO _ (.inr rfl))
 all_goals refine uj ?_
 case len s x=>
  cases s with
  |true=>simp at h
  |false=>
   simp only at h
   split at h
   case h_2=>simp at h
   split at h
   case h_2=>simp at h
   simp only [OG] at h;subst h;rfl
 case iad sz x y=>
  split at h
  case h_2=>simp at h
  split at h
  case h_2=>simp at h
  split at h
  case isFalse=>simp at h
  simp only [OG] at h;subst h;rfl
 all_goals repeat' split at h
 all_goals first|(simp at h;done)|(simp only [OG] at h;subst h;rfl)|(simp only [OM] at h;obtain ⟨_,_,rfl⟩:=h;rfl)
theorem yh (ok:bh D) (R:bm D N st σ g) {r:SR τ dn} (h:mR D st ao=some r) (hO:∀p,p∈r.O->p):r.Good D N st.nx σ g ao/\r.may D N st:=by
 unfold mR at h
 split at h
 ·exact KF R h
 ·cases hb:(ao.lk.any st.rwa) with
  |true=>rw [hb,OL] at h;exact ⟨Kk ok R h,KG h hO⟩
  |false=>rw [hb,O0] at h;exact ⟨Ki ok R h,KD R h⟩
end
section
variable {τ:Type} {dn:τ->Type} {D:TD τ dn} {N:aC} {st:SS τ dn} {σ:Nat->AV} {g:Nat->Option Bk}
def SV.pu1:SV τ dn->Bool
 | .vi _| .vn _| .vy _| .vu _| .vw _ _| .vb _| .vt _| .vz _| .vo _| .emp| .vl _ _| .vc _ _| .pim _ _| .dead=>true
 | .fn _ cs=>cs.isEmpty
 |_=>false
theorem CB {v:SV τ dn} (h:v.pu1=true):(v.av D.toTE N).pu1=true:=by
 cases v<;>simp [SV.pu1] at h<;>simp [SV.av,AV.pu1]
 subst h;rfl
def yi [DecidableEq τ] (D:TD τ dn) (st:SS τ dn) (t:τ) (r:Row (dn t)):Option (List Prop×SV τ dn):=match st.gf t with
 |some A=>bif D.pu t then some ([r.ok A,r.kd≠ .nil], .vl t (r.get A)) else none
 |none=>none
def snap1S (D:TD τ dn) (st:SS τ dn):SV τ dn->Option (SV τ dn)
 | .own nm sz=>match st.cont D sz (.own nm sz) with
  |some (.ty t xs)=>bif D.pu t then some (.vl t xs) else none
  |some (.li els)=>bif els.all (fun cs=>cs.all SV.pu1) then some (.vc sz els) else none
  |none=>none
 | .ref nm sz i o=>match st.gm nm with
  |some (.bc q els)=>if q=sz then (match els[i]? with
   |some cs=>bif cs.all SV.pu1 then some (.pim cs o) else none
   |none=>none) else none
  |_=>none
 |v=>bif v.pu1 then some v else none
theorem CC {cs:List (SV τ dn)} (h:cs.all SV.pu1=true):(cs.map (SV.av D.toTE N)).all AV.pu1=true:=by
 simp only [ON,Pc] at h ⊢
 rintro _ ⟨v,hv,rfl⟩;exact CB (h v hv)
theorem uk (ok:bh D) (R:bm D N st σ g) {v w:SV τ dn} (h:snap1S D st v=some w):(snap1 (v.av D.toTE N)).run g=some (w.av D.toTE N):=by
 have other:∀{v:SV τ dn},(bif v.pu1 then some v else none)=some w->(∀a,a=v.av D.toTE N->snap1 a=if a.pu1=true then .ret a else .fail)->(snap1 (v.av D.toTE N)).run g=some (w.av D.toTE N):=by
  intro v h h2
  cases hp:v.pu1 with
  |false=>rw [hp] at h;simp at h
  |true=>
   rw [hp,OL,OG] at h;subst h
   rw [h2 _ rfl,OI (CB hp)];rfl
 cases v with
 |own nm sz=>
  simp only [snap1S] at h
  have ea:(((SV.own nm sz:SV τ dn).av D.toTE N)= .own (N.ι nm) sz 0 (N.ln nm)):=rfl
  split at h
  ·rename_i t xs hc
   obtain ⟨c1,c2⟩:=oc R hc
   cases hp:D.pu t with
   |false=>rw [hp] at h;simp at h
   |true=>
    rw [hp,OL,OG] at h;subst h
    have hz:=c2 t xs rfl
    rw [ea] at c1 ⊢
    simp only [snap1]
    rw [dw c1]
    have bM:((xs.map (D.ea N.ρ t)).all fun cs=>cs.all AV.pu1)=true:=by
     simp only [ON,Pc]
     rintro _ ⟨y,_,rfl⟩
     have:=ok.pu1 N t y hp
     simpa [ON] using this
    simp only [Ct.els,bM,OK,RM.run,SV.av,hz]
  ·rename_i els hc
   obtain ⟨c1,c2⟩:=oc R hc
   cases hp:els.all (fun cs=>cs.all SV.pu1) with
   |false=>rw [hp] at h;simp at h
   |true=>
    rw [hp,OL,OG] at h;subst h
    rw [ea] at c1 ⊢
    simp only [snap1]
    rw [dw c1]
    have bM:((els.map fun cs=>cs.map (SV.av D.toTE N)).all fun cs=>cs.all AV.pu1)=true:=by
     simp only [ON,Pc]
     rintro _ ⟨cs,hcs,rfl⟩
     have h1:=(ON.1 hp) cs hcs
     have:=CC (D:=D) (N:=N) h1
     simpa [ON] using this
    simp only [Ct.els,SV.iL,bM,OK,RM.run,SV.av]
  ·simp at h
 |ref nm sz i o=>
  simp only [snap1S] at h
  split at h
  ·rename_i q els hB
   split at h
   ·rename_i hq
    split at h
    ·rename_i cs hcs
     cases hp:cs.all SV.pu1 with
     |false=>rw [hp] at h;simp at h
     |true=>
      rw [hp,OL,OG] at h;subst h
      have g1:=(R.gm hB).1
      simp only [SV.av,snap1,RM.run,g1,SB.av,hq,OK,SV.iL,O6,hcs,OS,CC hp,SV.bA]
    ·simp at h
   ·simp at h
  ·simp at h
 |_=>first
  |exact other h fun a ha=>by subst ha;rfl
  |(simp [snap1S,SV.pu1] at h)
def lT (D:TD τ dn) (st:SS τ dn):List (SV τ dn)->Option (List (SV τ dn))
 |[]=>some []
 |v::r=>match snap1S D st v,lT D st r with
  |some x,some l=>some (x::l)
  |_,_=>none
theorem um (ok:bh D) (R:bm D N st σ g):∀{vs ws:List (SV τ dn)},lT D st vs=some ws->(gz (vs.map (SV.av D.toTE N))).run g=some (ws.map (SV.av D.toTE N))
 |[],ws,h=>by simp only [lT,OG] at h;subst h;rfl
 |v::r,ws,h=>by
  simp only [lT] at h
  split at h
  ·rename_i x l h1 h2
   simp only [OG] at h;subst h
   simp only [OX,gz]
   rw [dw (uk ok R h1),dw (um ok R h2)];rfl
  ·simp at h
def gM (D:TD τ dn) (st:SS τ dn):SV τ dn->Option (SV τ dn)
 | .agg cs=>(lT D st cs).map .agg
 | .fn f cs=>(lT D st cs).map (.fn f)
 | .bf f cs=>(lT D st cs).map (.bf f)
 |v=>snap1S D st v
theorem yj (ok:bh D) (R:bm D N st σ g) {v w:SV τ dn} (h:gM D st v=some w):(dy (v.av D.toTE N)).run g=some (w.av D.toTE N):=by
 cases v with
 |agg cs=>
  simp only [gM,OM] at h;obtain ⟨l,hl,rfl⟩:=h
  simp only [SV.av,SV.bA,dy]
  rw [dw (um ok R hl)];rfl
 |fn f cs=>
  simp only [gM,OM] at h;obtain ⟨l,hl,rfl⟩:=h
  simp only [SV.av,SV.bA,dy]
  rw [dw (um ok R hl)];rfl
 |bf f cs=>
  simp only [gM,OM] at h;obtain ⟨l,hl,rfl⟩:=h
  simp only [SV.av,SV.bA,dy]
  rw [dw (um ok R hl)];rfl
 |vg p c v=>simp [gM,snap1S,SV.pu1] at h
 |rw t r=>simp [gM,snap1S,SV.pu1] at h
 |cU t r i o=>simp [gM,snap1S,SV.pu1] at h
 |_=>
  simp only [gM] at h
  exact uk ok R h
def jY (D:TD τ dn) (st:SS τ dn):List (SV τ dn)->Option (List (SV τ dn))
 |[]=>some []
 |v::r=>match gM D st v,jY D st r with
  |some x,some l=>some (x::l)
  |_,_=>none
theorem CE (ok:bh D) (R:bm D N st σ g):∀{vs ws:List (SV τ dn)},jY D st vs=some ws->(cS (vs.map (SV.av D.toTE N))).run g=some (ws.map (SV.av D.toTE N))
 |[],ws,h=>by simp only [jY,OG] at h;subst h;rfl
 |v::r,ws,h=>by
  simp only [jY] at h
  split at h
  ·rename_i x l h1 h2
   simp only [OG] at h;subst h
   simp only [OX,cS]
   rw [dw (yj ok R h1),dw (CE ok R h2)];rfl
  ·simp at h
variable [DecidableEq τ]
def uo (D:TD τ dn) (st:SS τ dn):SV τ dn->Option (List Prop×SV τ dn)
 | .rw t r=>yi D st t r
 |v=>(gM D st v).map fun w=>([],w)
theorem KH (ok:bh D) (R:bm D N st σ g) {v w:SV τ dn} {O:List Prop} (h:uo D st v=some (O,w)) (hO:∀p,p∈O->p):(dy (v.av D.toTE N)).run g=some (w.av D.toTE N):=by
 have other:∀{v:SV τ dn},((gM D st v).map fun w=>(([]:List Prop),w))=some (O,w)->(dy (v.av D.toTE N)).run g=some (w.av D.toTE N):=fun h=>by
  simp only [OM,OT] at h
  obtain ⟨c',h1,_,rfl⟩:=h
  exact yj ok R h1
 cases v with
 |rw t r=>
  simp only [uo,yi] at h
  split at h
  ·rename_i A hA
   cases hp:D.pu t with
   |false=>rw [hp] at h;simp at h
   |true=>
    rw [hp,OL] at h
    simp only [OG,OT] at h
    obtain ⟨rfl,rfl⟩:=h
    simp only [OU,PM,or_false,Qb,O3] at hO
    cases hk:r.kd with
    |nil=>exact absurd hk hO.2
    |aX=>simp only [SV.av,hk,dy,snap1,AV.pu1,OK,RM.run,od hk]
    |own=>
     obtain ⟨e1,e2,e3⟩:=lP R hA hO.1 hk
     have c1:(content (D.sz t) (.own r.id (D.sz t) 0 r.n)).run g=some ((r.get A).map (D.ea N.ρ t)):=by
      simp only [content,RM.run,e3,e2,OZ,O7,OQ,O5,OK,Qs]
      rw [Qa (by simp)]
     simp only [SV.av,hk,dy,snap1]
     rw [dw c1]
     have bM:(((r.get A).map (D.ea N.ρ t)).all fun cs=>cs.all AV.pu1)=true:=by
      simp only [ON,Pc]
      rintro _ ⟨y,_,rfl⟩
      have:=ok.pu1 N t y hp
      simpa [ON] using this
     simp only [bM,OK,RM.run]
  ·simp at h
 |_=>exact other h
def og (D:TD τ dn) (st:SS τ dn):List (SV τ dn)->Option (List Prop×List (SV τ dn))
 |[]=>some ([],[])
 |v::r=>match uo D st v,og D st r with
  |some (O,x),some (O',l)=>some (O++O',x::l)
  |_,_=>none
theorem uq (ok:bh D) (R:bm D N st σ g):∀{vs ws:List (SV τ dn)} {O:List Prop},og D st vs=some (O,ws)->(∀p,p∈O->p)->(cS (vs.map (SV.av D.toTE N))).run g=some (ws.map (SV.av D.toTE N))
 |[],ws,O,h,hO=>by simp only [og,OG,OT] at h;obtain ⟨_,rfl⟩:=h;rfl
 |v::r,ws,O,h,hO=>by
  simp only [og] at h
  split at h
  ·rename_i O1 x O2 l h1 h2
   simp only [OG,OT] at h
   obtain ⟨rfl,rfl⟩:=h
   simp only [OX,cS]
   rw [dw (KH ok R h1 fun p hp=>hO p (Pr _ hp)),dw (uq ok R h2 fun p hp=>hO p (Po _ hp))];rfl
  ·simp at h
end
open Go.RowKit
section
variable {τ:Type} {dn:τ->Type}
inductive Pt (τ:Type) where
 |ty (t:τ)
 |ptr (t:τ)
 |pv (f:FuncId) (cs:List (Bool×τ))
abbrev CD (dn:τ->Type):List (Bool×τ)->Type
 |[]=>Unit
 |p::r=>dn p.2×CD dn r
abbrev Pt.T (dn:τ->Type):Pt τ->Type
 | .ty t=>dn t
 | .ptr t=>dn t
 | .pv _ cs=>CD dn cs
abbrev PD (dn:τ->Type):List (Pt τ)->Type
 |[]=>Unit
 |p::r=>p.T dn×PD dn r
abbrev RD (dn:τ->Type):List τ->Type
 |[]=>Unit
 |[t]=>dn t
 |t::s::r=>dn t×RD dn (s::r)
variable (D:TD τ dn) {N:aC}
def TD.en (t:τ) (x:dn t):SV τ dn:=bif D.ag t then .agg (D.es t x) else (D.es t x).headD .dead
def lU (t:τ) (v:SV τ dn):Option (dn t):=bif D.ag t then (match v with
 | .agg cs=>D.ds t cs
 |_=>none) else D.ds t [v]
def lV:(cs:List (Bool×τ))->CD dn cs->List (SV τ dn)
 |[],_=>[]
 |(false,t)::r,x=>D.en t x.1::lV r x.2
 |(true,t)::r,x=> .pim (D.es t x.1) 0::lV r x.2
def ur (t:τ):SV τ dn->Option (dn t)
 | .pim cs 0=>bif cs.all SV.ne then D.ds t cs else none
 |_=>none
def lW:(cs:List (Bool×τ))->List (SV τ dn)->Option (CD dn cs)
 |[],[]=>some ()
 |(false,t)::r,v::l=>bif v.cells.all SV.ne then (match lU D t v,lW r l with
  |some x,some y=>some (x,y)
  |_,_=>none) else none
 |(true,t)::r,v::l=>match ur D t v,lW r l with
  |some x,some y=>some (x,y)
  |_,_=>none
 |_,_=>none
def Pt.enc:(p:Pt τ)->p.T dn->SV τ dn
 | .ty t,x=>D.en t x
 | .ptr t,x=> .pim (D.es t x) 0
 | .pv f cs,x=> .fn f (lV D cs x)
def Pt.dec:(p:Pt τ)->SV τ dn->Option (p.T dn)
 | .ty t,v=>lU D t v
 | .ptr t,v=>ur D t v
 | .pv f cs, .fn f' l=>bif Nat.beq f f' then lW D cs l else none
 | .pv _ _,_=>none
def lX:(ps:List (Pt τ))->PD dn ps->List (SV τ dn)
 |[],_=>[]
 |p::r,x=>p.enc D x.1::lX r x.2
def jZ:(ps:List (Pt τ))->List (SV τ dn)->Option (PD dn ps)
 |[],[]=>some ()
 |p::r,v::l=>match p.dec D v,jZ r l with
  |some x,some y=>some (x,y)
  |_,_=>none
 |_,_=>none
def iP:(rs:List τ)->RD dn rs->List (SV τ dn)
 |[],_=>[]
 |[t],x=>[D.en t x]
 |t::s::r,x=>D.en t x.1::iP (s::r) x.2
def kH:(rs:List τ)->List (SV τ dn)->Option (RD dn rs)
 |[],[]=>some ()
 |[t],[v]=>lU D t v
 |t::s::r,v::l=>match lU D t v,kH (s::r) l with
  |some x,some y=>some (x,y)
  |_,_=>none
 |_,_=>none
def mS:List (SV τ dn)->SV τ dn
 |[v]=>v
 |l=> .aK l
end
section
variable {τ:Type} {dn:τ->Type} {D:TD τ dn} {N:aC}
theorem KI {a:AV} {l:List AV} (h:eg [a] l):∃b,l=[b]/\aQ a b:=by
 cases h with
 |cons h t=>cases t;exact ⟨_,rfl,h⟩
theorem uu {t:τ} {x:dn t} (h:D.ag t=true):D.en t x= .agg (D.es t x):=by unfold TD.en;rw [h];rfl
theorem yk (ok:bh D) {t:τ} {x:dn t} (h:D.ag t=false) {b:AV} (hb:D.ea N.ρ t x=[b]):(D.en t x).av D.toTE N=b:=by
 unfold TD.en
 rw [h,O0]
 have:=ok.dv N t x
 rw [hb] at this
 cases he:D.es t x with
 |nil=>rw [he] at this;simp at this
 |cons v r=>rw [he] at this;simp at this;rw [List.headD_cons];exact this.1
theorem uv (ok:bh D) {t:τ} {v:SV τ dn} {x:dn t} (h:lU D t v=some x):aQ (v.av D.toTE N) ((D.en t x).av D.toTE N):=by
 unfold lU at h
 cases ha:D.ag t with
 |true=>
  rw [ha,OL] at h
  split at h
  ·rw [uu ha,SV.av,SV.av,SV.bA,SV.bA,ok.dv]
   exact aQ.agg (ok.jh N t _ _ h)
  ·simp at h
 |false=>
  rw [ha,O0] at h
  obtain ⟨b,hb,hle⟩:=KI (ok.jh N t _ _ h)
  rw [yk ok ha hb];exact hle
theorem KJ (ok:bh D) {t:τ} {v:SV τ dn} {x:dn t} (h:lU D t v=some x) (hn:v.cells.all SV.ne=true):v.av D.toTE N=(D.en t x).av D.toTE N:=by
 unfold lU at h
 cases ha:D.ag t with
 |true=>
  rw [ha,OL] at h
  split at h
  ·rw [uu ha,SV.av,SV.av,SV.bA,SV.bA,ok.dv,ok.rk N t _ _ h hn]
  ·simp at h
 |false=>
  rw [ha,O0] at h
  have KK:[v].all SV.ne=true:=by
   cases v<;>first|exact hn|rfl
  have:=ok.rk N t _ _ h KK
  rw [yk ok ha (b:=v.av D.toTE N) this.symm]
theorem CF (ok:bh D) {t:τ} {v:SV τ dn} {x:dn t} (h:ur D t v=some x):v.av D.toTE N=(SV.pim (D.es t x) 0:SV τ dn).av D.toTE N:=by
 unfold ur at h
 split at h
 ·rename_i cs
  cases hn:cs.all SV.ne with
  |false=>rw [hn] at h;simp at h
  |true=>
   rw [hn,OL] at h
   rw [SV.av,SV.av,SV.bA,SV.bA,ok.dv,ok.rk N t _ _ h hn]
 ·simp at h
theorem yl (ok:bh D):∀{cs:List (Bool×τ)} {l:List (SV τ dn)} {x:CD dn cs},lW D cs l=some x->SV.cz D.toTE N l=SV.cz D.toTE N (lV D cs x)
 |[],[],x,h=>rfl
 |[],v::l,x,h=>by simp [lW] at h
 |(false,t)::r,[],x,h=>by simp [lW] at h
 |(true,t)::r,[],x,h=>by simp [lW] at h
 |(false,t)::r,v::l,x,h=>by
  simp only [lW] at h
  cases hn:v.cells.all SV.ne with
  |false=>rw [hn] at h;simp at h
  |true=>
   rw [hn,OL] at h
   split at h
   ·rename_i a b h1 h2
    simp only [OG] at h;subst h
    simp only [SV.cz,lV,KJ ok h1 hn,yl ok h2]
   ·simp at h
 |(true,t)::r,v::l,x,h=>by
  simp only [lW] at h
  split at h
  ·rename_i a b h1 h2
   simp only [OG] at h;subst h
   simp only [SV.cz,lV,CF ok h1,yl ok h2]
  ·simp at h
theorem KL (ok:bh D) {p:Pt τ} {v:SV τ dn} {x:p.T dn} (h:p.dec D v=some x):aQ (v.av D.toTE N) ((p.enc D x).av D.toTE N):=by
 cases p with
 |ty t=>exact uv ok h
 |ptr t=>exact aQ.of_eq (CF ok h)
 |pv f cs=>
  cases v<;>simp only [Pt.dec,reduceCtorEq] at h
  rename_i f' l
  cases hb:Nat.beq f f' with
  |false=>rw [hb] at h;simp at h
  |true=>
   rw [hb,OL] at h
   have:=OR hb
   subst this
   exact aQ.of_eq (by simp only [SV.av,Pt.enc,yl ok h])
theorem uw (ok:bh D):∀{ps:List (Pt τ)} {l:List (SV τ dn)} {x:PD dn ps},jZ D ps l=some x->eg (l.map (SV.av D.toTE N)) ((lX D ps x).map (SV.av D.toTE N))
 |[],[],x,h=> .nil
 |[],v::l,x,h=>by simp [jZ] at h
 |p::r,[],x,h=>by simp [jZ] at h
 |p::r,v::l,x,h=>by
  simp only [jZ] at h
  split at h
  ·rename_i a b h1 h2
   simp only [OG] at h;subst h
   exact .cons (KL ok h1) (uw ok h2)
  ·simp at h
theorem CG (ok:bh D):∀{rs:List τ} {l:List (SV τ dn)} {x:RD dn rs},kH D rs l=some x->eg (l.map (SV.av D.toTE N)) ((iP D rs x).map (SV.av D.toTE N))
 |[],[],x,h=> .nil
 |[],v::l,x,h=>by simp [kH] at h
 |[t],[],x,h=>by simp [kH] at h
 |[t],[v],x,h=> .cons (uv ok h) .nil
 |[t],v::w::l,x,h=>by simp [kH] at h
 |t::s::r,[],x,h=>by simp [kH] at h
 |t::s::r,v::l,x,h=>by
  simp only [kH] at h
  split at h
  ·rename_i a b h1 h2
   simp only [OG] at h;subst h
   exact .cons (uv ok h1) (CG ok h2)
  ·simp at h
theorem ux (l:List (SV τ dn)):(mS l).av D.toTE N=lu (l.map (SV.av D.toTE N)):=by
 match l with
 |[]=>rfl
 |[v]=>rfl
 |v::w::r=>simp only [mS,SV.av,SV.bA];rfl
theorem KM {a b:List AV} (h:eg a b):aQ (lu a) (lu b):=by
 cases h with
 |nil=>exact aQ.refl
 |cons h t=>
  cases t with
  |nil=>exact h
  |cons h2 t2=>exact aQ.aK (.cons h (.cons h2 t2))
def SV.ym:SV τ dn->Bool
 | .vi _| .vn _| .vy _| .vu _| .vw _ _| .vb _| .vt _| .vz _| .vo _=>true
 |_=>false
theorem KN {E:TE τ dn} {N:aC} {v:SV τ dn} (h:v.ym=true):(v.av E N).dk=true:=by
 cases v<;>simp [SV.ym] at h<;>simp [SV.av,AV.dk]
structure dx (τ:Type) (dn:τ->Type) where
 f:FuncId
 ps:List (Pt τ)
 pre:PD dn ps->Prop
 rs:List τ
 res:PD dn ps->RD dn rs
def dx.val (D:TD τ dn) (c:dx τ dn) (x:PD dn c.ps):SV τ dn:=mS (iP D c.rs (c.res x))
def dx.Ok (P:Program) (D:TD τ dn) (c:dx τ dn):Prop:=bL P c.f=true/\∀(x:PD dn c.ps) (N:aC),c.pre x->Fn P c.f ((lX D c.ps x).map (SV.av D.toTE N)) ((c.val D x).av D.toTE N)
theorem KO {bz:List AV} {sz:Nat} {els:List (List AV)} (h:Fo P f as_ sz els) (ha:eg bz as_):Fo P f bz sz els:=fun w J vs hJ hG bJ=>
 h w J vs hJ hG ⟨bJ.1.trans ha.get.1,fun i u c hu hc=>let ⟨a,h1,h2⟩:=ha.get.2 i c hc;h2 _ _ (bJ.2 i u a hu h1)⟩
structure jk (τ:Type) (dn:τ->Type) where
 f:FuncId
 ps:List (Pt τ)
 pre:PD dn ps->Prop
 t:τ
 res:PD dn ps->List (dn t)
def jk.Ok (P:Program) (D:TD τ dn) (c:jk τ dn):Prop:=(bL P c.f=true/\∀x:dn c.t,(D.es c.t x).all (fun v=>v.ym)=true)/\∀(x:PD dn c.ps) (N:aC),c.pre x->Fo P c.f ((lX D c.ps x).map (SV.av D.toTE N)) (D.sz c.t) ((c.res x).map (D.ea N.ρ c.t))
end
end Go.Proofs.Ytimomnfobfjggaa
