/- What functions answer, said with letters. No condition. -/
import Derived.WalkKit
import Derived.Lib.Hide
import Derived.Lib.QuietBelow
import Derived.BigQuiet
import Derived.Deep.Slices
import Derived.Below
import Derived.ShutString
import Derived.OpenShut
import Derived.SizedLaws
import Derived.Deep.OwnRows
import Derived.Test.YtpoikkflcpklgaaPAvNorm
import Derived.Laws.Bits64
set_option linter.unusedSimpArgs false
set_option linter.unusedVariables false
namespace Go.Proofs.Ytpoikkflcpklgaa
variable {ao:AO} {x y:Arg} {fs:Array Field} {op:BinOp} {neg b l:Bool} {s:ByteArray} {f:Field} {a c:Int} {k:IntKind} {as_:List AV} {vs:List Value} {kd:NK} {n j nm off i o:Nat} {σ:Nat->AV} {lo hi:Option Int} {m d:Option Nat} {P:Program} {α β τ:Type} {t:TypeId} {R:Value->AV->Prop} {w:World} {A:List (Nat×List α)} {dn:τ->Type}
open Go.RowKit Go.Sort
abbrev KR:=@Option.map_eq_some_iff
abbrev K2:=@forall_eq
abbrev K5:=@and_self
abbrev Li:=@List.mem_map
abbrev Lv:=@List.map_nil
abbrev LB:=@List.map_append
abbrev LO:=@List.not_mem_nil
abbrev Mb:=@List.map_set
abbrev Mg:=@List.take_of_length_le
abbrev Mh:=@BitVec.toNat_ofNat
abbrev Mi:=@forall_eq_or_imp
abbrev Mj:=@Option.bind_eq_some_iff
abbrev Mq:=@List.map_map
abbrev Mr:=@Nat.lt_succ_of_lt
abbrev MA:=@Bool.eq_iff_iff
abbrev MJ:=@Int.mul_le_mul_of_nonneg_left
abbrev B (x:UInt8):Value:= .int .u8 x.toNat
abbrev I (x:Int):Value:= .int .i64 x
theorem bt {a b:World} (h:Below w.heap.size w a) (k:Below a.heap.size a b):Below w.heap.size w b:=h.trans (k.mono h.size)
theorem yw (a:Nat) (ha:a<9223372036854775808):(BitVec.ofInt 64 (a:Int)).toNat=a:=by
 rw [BitVec.ofInt_natCast,Mh];exact L7 (by omega)
theorem FK (a b:Nat) (ha:a<9223372036854775808) (hb:b<9223372036854775808):bits .or .i64 (a:Int) (b:Int)=((a|||b:Nat):Int):=by
 have hx:a|||b<2^63:=Nat.or_lt_two_pow (by omega) (by omega)
 show IntKind.i64.wrap ((BitVec.ofInt 64 (a:Int)|||BitVec.ofInt 64 (b:Int)).toNat:Int)=_
 rw [BitVec.toNat_or,yw a ha,yw b hb,IntKind.wrap_i64]
 omega
theorem FL {n:Int} (h:(Lit.int .i64 n).wf=true): -9223372036854775808<=n/\n<=9223372036854775807:=by
 simp only [Lit.wf,KM,Lk] at h
 have h1:IntKind.i64.min= -9223372036854775808:=rfl
 have h2:IntKind.i64.max=9223372036854775807:=rfl
 omega
@[go_sem] theorem Ku {a : Addr} {d : Nat} {os : Array Obj} (h : (w.cell? a).isSome = true) : (grow (redrawn w d) os).cell? a = w.cell? a := by
 obtain ⟨v,hv⟩:=MD.1 h
 rw [hv];exact cell_regrown hv d os
theorem r2 {x:Int×Int} {b:Int} (h:x=(a,b)):Ending.returned (.tuple #[.int .i64 a, .int .i64 b])= .returned (.tuple #[.int .i64 x.1, .int .i64 x.2]):=by subst h;rfl
theorem ri {b:Int} (h:a=b):Ending.returned (.int k a)=Ending.returned (.int k b):=by rw [h]
theorem rb {a:Bool} (h:a=b):Ending.returned (.bool a)=Ending.returned (.bool b):=by rw [h]
theorem FM {a:Bool} (h:a=true) (k:b=true):(a&&b)=true:=by rw [h,k];rfl
open Go.RowKit Go.ChangeShapes Go.WideShapes Go.Deep
class aC (α:Type) where
 size:Nat
 rep:World->Nat->List Value->α->Prop
 len:∀{w B cs x},rep w B cs x->cs.length=size
 bD:∀{w w':World} {B cs x},rep w B cs x->(∀p:Addr,p.block<B->w'.cell? p=w.cell? p)->rep w' B cs x
 more:∀{w B B' cs x},rep w B cs x->B<=B'->rep w B' cs x
instance:aC Int where
 size:=1
 rep _ _ cs x:=cs=[I x]/\ -9223372036854775808<=x/\x<=9223372036854775807
 len h:=by rw [h.1];rfl
 bD h _:=h
 more h _:=h
instance:aC UInt8 where
 size:=1
 rep _ _ cs x:=cs=[B x]
 len h:=by rw [h];rfl
 bD h _:=h
 more h _:=h
structure dM where
 n:Nat
 lt:n<18446744073709551616
instance:aC dM where
 size:=1
 rep _ _ cs x:=cs=[.int .u64 (x.n:Int)]
 len h:=by rw [h];rfl
 bD h _:=h
 more h _:=h
instance:aC Bool where
 size:=1
 rep _ _ cs x:=cs=[.bool x]
 len h:=by rw [h];rfl
 bD h _:=h
 more h _:=h
instance:aC ByteArray where
 size:=1
 rep _ _ cs x:=cs=[.string x]/\x.size<=9223372036854775807
 len h:=by rw [h.1];rfl
 bD h _:=h
 more h _:=h
instance {α β:Type} [aC α] [aC β]:aC (α×β) where
 size:=aC.size α+aC.size β
 rep w B cs x:=∃c0 c1,cs=c0++c1/\aC.rep w B c0 x.1/\aC.rep w B c1 x.2
 len:=by rintro w B cs x ⟨c0,c1,rfl,h0,h1⟩;rw [Ma,aC.len h0,aC.len h1]
 bD:=by rintro w w' B cs x ⟨c0,c1,rfl,h0,h1⟩ hk;exact ⟨c0,c1,rfl,aC.bD h0 hk,aC.bD h1 hk⟩
 more:=by rintro w B B' cs x ⟨c0,c1,rfl,h0,h1⟩ hk;exact ⟨c0,c1,rfl,aC.more h0 hk,aC.more h1 hk⟩
def FN [aC α] (w:World) (B b off:Nat) (xs:List α):Prop:=
 ∀i x,xs[i]? =some x->∃cs,aC.rep w B cs x/\∀j u,cs[j]? =some u->w.cell? ⟨b,off+i*aC.size α+j,none⟩=some u
instance {α:Type} [aC α]:aC (List α) where
 size:=1
 rep w B cs xs:=∃A n c,cs=[.slice A n c]/\n=xs.length/\n<=c/\c<=9223372036854775807/\(xs=[]\/∃b off,A=some ⟨b,off,none⟩/\b<B/\FN w B b off xs)
 len:=by rintro w B cs x ⟨A,n,c,rfl,_⟩;rfl
 bD:=by
  rintro w w' B cs xs ⟨A,n,c,rfl,hn,hc,hm,h⟩ hk
  refine ⟨A,n,c,rfl,hn,hc,hm,h.imp id ?_⟩
  rintro ⟨b,off,hA,hb,hs⟩
  refine ⟨b,off,hA,hb,fun i x hx=> ?_⟩
  obtain ⟨cs,h1,h2⟩:=hs i x hx
  exact ⟨cs,aC.bD h1 hk,fun j u hu=>(hk _ hb).trans (h2 j u hu)⟩
 more:=by
  rintro w B B' cs xs ⟨A,n,c,rfl,hn,hc,hm,h⟩ hk
  refine ⟨A,n,c,rfl,hn,hc,hm,h.imp id ?_⟩
  rintro ⟨b,off,hA,hb,hs⟩
  refine ⟨b,off,hA,K8 hb hk,fun i x hx=> ?_⟩
  obtain ⟨cs,h1,h2⟩:=hs i x hx
  exact ⟨cs,aC.more h1 hk,h2⟩
@[reducible] def aC.via [aC β] (f : α -> β) : aC α where
 size:=aC.size β
 rep w B cs x:=aC.rep w B cs (f x)
 len h:=aC.len h
 bD h hk:=aC.bD h hk
 more h hk:=aC.more h hk
structure eB (P:Program) (t:TypeId) (α:Type) [aC α]:Prop where
 cells:P.cellsOf t=aC.size α
 read:∀{H:Type} {enc:TypeId×Value->H} {W:World} {base:Nat} {sp:Nat->Bool} {held:Bool} {fuel:Nat} {cs:List Value} {y:DataW H×List MemPlace},
  DataW.trod enc P W base sp held fuel t cs=some y->∃x:α,aC.rep W W.heap.size cs x
theorem FO (hu:P.underlying t=some (.int .i64)) (hc:P.cellsOf t=1):eB P t Int where
 cells:=hc
 read h:=by
  obtain ⟨n,rfl,_,hw⟩:=DataW.trod_int hu h
  exact ⟨n,rfl,FL hw⟩
theorem FP (hu:P.underlying t=some .string) (hc:P.cellsOf t=1):eB P t ByteArray where
 cells:=hc
 read h:=by
  obtain ⟨n,rfl,_,hw⟩:=DataW.trod_string hu h
  exact ⟨n,rfl,hw⟩
structure qv (P:Program) (fs:List Field) (off:Nat) (β:Type) [aC β]:Prop where
 read:∀{H:Type} {enc:TypeId×Value->H} {W:World} {base:Nat} {sp:Nat->Bool} {held:Bool} {n:Nat} {cs:List Value} {ys:List (DataW H×List MemPlace)},
  cs.length=off+aC.size β->fs.length<=ys.length->
  (∀(i:Nat) (f:Field),fs[i]? =some f->DataW.trod enc P W base sp held n f.type ((cs.drop f.offset).take (P.cellsOf f.type))=ys[i]?)->∃x:β,aC.rep W W.heap.size (cs.drop off) x
theorem uc [aC α] (h:eB P f.type α) (ho:f.offset=off):qv P [f] off α where
 read:=by
  intro H enc W base sp held n cs ys hl hy hx
  obtain ⟨y0,mL,rfl⟩:∃y0 mL,ys=y0::mL:=by
   cases ys with
   |nil=>simp at hy
   |cons a b=>exact ⟨a,b,rfl⟩
  have h0:=hx 0 f rfl
  rw [h.cells,ho,Mg (by rw [List.length_drop];omega)] at h0
  exact h.read h0
theorem oo {fs:List Field} [aC α] [aC β] (h:eB P f.type α) (ho:f.offset=off) (hr:qv P fs (off+aC.size α) β):qv P (f::fs) off (α×β) where
 read:=by
  intro H enc W base sp held n cs ys hl hy hx
  obtain ⟨y0,mL,rfl⟩:∃y0 mL,ys=y0::mL:=by
   cases ys with
   |nil=>simp at hy
   |cons a b=>exact ⟨a,b,rfl⟩
  have hsz:aC.size (α×β)=aC.size α+aC.size β:=rfl
  have h0:=hx 0 f rfl
  rw [h.cells,ho] at h0
  obtain ⟨x,qw⟩:=h.read (y:=y0) (by rw [h0];rfl)
  obtain ⟨z,hz⟩:=hr.read (cs:=cs) (ys:=mL) (n:=n) (by omega) (by simpa using hy) (fun i g hg=>by rw [hx (i+1) g (by simpa using hg)];rfl)
  refine ⟨(x,z),_,_, ?_,qw,hz⟩
  rw [<-List.drop_drop,List.take_append_drop]
theorem ud {l:List Field} [aC β] (hu:P.underlying t=some (.struct fs)) (hf:fs.toList=l) (hc:P.cellsOf t=aC.size β) (h:qv P l 0 β):eB P t β where
 cells:=hc
 read:=by
  intro H enc W base sp held fuel cs y ht
  obtain ⟨xs,n,_,_,hl,tm,hg⟩:=DataW.trod_struct hu ht
  have hlen:l.length=fs.size:=by rw [<-hf];rfl
  have:=h.read (cs:=cs) (ys:=xs) (n:=n) (by rw [hl,hc];omega) (by omega) (fun i f hi=>hg i f (by rw [<-hf] at hi;simpa using hi))
  simpa using this
theorem eB.via {P:Program} {t:TypeId} {α β:Type} [aC β] (h:eB P t β) (f:α->β) (g:β->α) (hg:∀x,f (g x)=x): @eB P t α (aC.via f):=
 @eB.mk P t α (aC.via f) h.cells (fun ht=>by obtain ⟨x,hx⟩:=h.read ht;exact ⟨g x,by show aC.rep _ _ _ (f (g x));rw [hg];exact hx⟩)
theorem FQ [aC α] (ho:eB P t α) (hu:P.underlying t=some (.struct fs)) {W:World} {r:Reach} {b0:Nat} {v:Value} {H:Type} {enc:TypeId×Value->H} {base:Nat} {sp:Nat->Bool} {held:Bool} {d:DataW H} {p:List MemPlace}
  (hv:Value.okWide P W r b0 t v) (h:DataW.Trod enc P W base sp held t v d p):∃(x:α) (cs:List Value),v= .agg cs.toArray/\aC.rep W W.heap.size cs x:=by
 obtain ⟨cs,rfl,_⟩:=okWide_struct hu hv
 obtain ⟨fuel,hf⟩:=h
 obtain ⟨x,hx⟩:=ho.read hf
 exact ⟨x,cs.toList,rfl,hx⟩
open Go.RowKit
@[ext] structure qx where
 nodes:Int
 data:Int
 more:Int
 turn:Int
instance:aC qx:=aC.via (fun x=>(x.nodes,x.data,x.more,x.turn))
@[go_sem, simp] theorem qx.eta (x : qx) : (⟨x.nodes, x.data, x.more, x.turn⟩ : qx) = x := rfl
@[ext] structure qy where
 holder:Int
 till:Int
 token:Int
instance:aC qy:=aC.via (fun x=>(x.holder,x.till,x.token))
@[go_sem, simp] theorem qy.eta (x : qy) : (⟨x.holder, x.till, x.token⟩ : qy) = x := rfl
@[ext] structure Fence where
 seen:Int
instance:aC Fence:=aC.via (fun x=>x.seen)
@[go_sem, simp] theorem Fence.eta (x : Fence) : (⟨x.seen⟩ : Fence) = x := rfl
@[ext] structure bP where
 time:Int
 who:Int
instance:aC bP:=aC.via (fun x=>(x.time,x.who))
@[go_sem, simp] theorem bP.eta (x : bP) : (⟨x.time, x.who⟩ : bP) = x := rfl
@[ext] structure cw where
 at_:bP
 data:ByteArray
instance:aC cw:=aC.via (fun x=>(x.at_,x.data))
@[go_sem, simp] theorem cw.eta (x : cw) : (⟨x.at_, x.data⟩ : cw) = x := rfl
@[ext] structure qz where
 level:Int
 now:Int
 burst:Int
 rate:Int
instance:aC qz:=aC.via (fun x=>(x.level,x.now,x.burst,x.rate))
@[go_sem, simp] theorem qz.eta (x : qz) : (⟨x.level, x.now, x.burst, x.rate⟩ : qz) = x := rfl
@[ext] structure Term where
 begin:Int
 end_:Int
instance:aC Term:=aC.via (fun x=>(x.begin,x.end_))
@[go_sem, simp] theorem Term.eta (x : Term) : (⟨x.begin, x.end_⟩ : Term) = x := rfl
@[ext] structure aI where
 kind:Int
 op:Int
 node:Int
 copy:cw
instance:aC aI:=aC.via (fun x=>(x.kind,x.op,x.node,x.copy))
@[go_sem, simp] theorem aI.eta (x : aI) : (⟨x.kind, x.op, x.node, x.copy⟩ : aI) = x := rfl
abbrev aI.v (x:aI):Value:= .agg #[I x.kind,I x.op,I x.node,I x.copy.at_.time,I x.copy.at_.who, .string x.copy.data]
def aI.ok (x:aI):Prop:=(-9223372036854775808<=x.kind/\x.kind<=9223372036854775807)/\(-9223372036854775808<=x.op/\x.op<=9223372036854775807)/\(-9223372036854775808<=x.node/\x.node<=9223372036854775807)/\(-9223372036854775808<=x.copy.at_.time/\x.copy.at_.time<=9223372036854775807)/\(-9223372036854775808<=x.copy.at_.who/\x.copy.at_.who<=9223372036854775807)/\x.copy.data.size<=9223372036854775807
theorem aI.flat {B:Nat} {cs:List Value} {x:aI} (h:aC.rep w B cs x):cs=[I x.kind,I x.op,I x.node,I x.copy.at_.time,I x.copy.at_.who, .string x.copy.data]/\x.ok:=by
 simp only [aC.rep] at h
 obtain ⟨_,_,rfl,⟨rfl,o0⟩,⟨_,_,rfl,⟨rfl,o1⟩,⟨_,_,rfl,⟨rfl,o2⟩,⟨_,_,rfl,⟨_,_,rfl,⟨rfl,o3⟩,⟨rfl,o4⟩⟩,⟨rfl,o5⟩⟩⟩⟩⟩:=h
 exact ⟨rfl,o0,o1,o2,o3,o4,o5⟩
theorem aI.rep {w:World} {B:Nat} {x:aI} (h:x.ok):aC.rep w B [I x.kind,I x.op,I x.node,I x.copy.at_.time,I x.copy.at_.who, .string x.copy.data] x:=by
 obtain ⟨o0,o1,o2,o3,o4,o5⟩:=h
 exact (⟨_,_,rfl,⟨rfl,o0⟩,⟨_,_,rfl,⟨rfl,o1⟩,⟨_,_,rfl,⟨rfl,o2⟩,⟨_,_,rfl,⟨_,_,rfl,⟨rfl,o3⟩,⟨rfl,o4⟩⟩,⟨rfl,o5⟩⟩⟩⟩⟩:aC.rep w B [I x.kind,I x.op,I x.node,I x.copy.at_.time,I x.copy.at_.who, .string x.copy.data] x)
@[ext] structure qA where
 no:Int
 members:dM
instance:aC qA:=aC.via (fun x=>(x.no,x.members))
@[go_sem, simp] theorem qA.eta (x : qA) : (⟨x.no, x.members⟩ : qA) = x := rfl
@[ext] structure qB where
 block:Int
 data:ByteArray
instance:aC qB:=aC.via (fun x=>(x.block,x.data))
@[go_sem, simp] theorem qB.eta (x : qB) : (⟨x.block, x.data⟩ : qB) = x := rfl
@[ext] structure Act where
 kind:Int
 n:Int
 data:ByteArray
instance:aC Act:=aC.via (fun x=>(x.kind,x.n,x.data))
@[go_sem, simp] theorem Act.eta (x : Act) : (⟨x.kind, x.n, x.data⟩ : Act) = x := rfl
@[ext] structure qC where
 kind:Int
 bid:Int
 node:Int
 copy:cw
instance:aC qC:=aC.via (fun x=>(x.kind,x.bid,x.node,x.copy))
@[go_sem, simp] theorem qC.eta (x : qC) : (⟨x.kind, x.bid, x.node, x.copy⟩ : qC) = x := rfl
@[ext] structure qD where
 promised:bP
 kept:cw
instance:aC qD:=aC.via (fun x=>(x.promised,x.kept))
@[go_sem, simp] theorem qD.eta (x : qD) : (⟨x.promised, x.kept⟩ : qD) = x := rfl
@[ext] structure qE where
 time:Int
 phase:Int
 own:ByteArray
 value:ByteArray
 best:cw
 heard:dM
instance:aC qE:=aC.via (fun x=>(x.time,x.phase,x.own,x.value,x.best,x.heard))
@[go_sem, simp] theorem qE.eta (x : qE) : (⟨x.time, x.phase, x.own, x.value, x.best, x.heard⟩ : qE) = x := rfl
@[ext] structure Ask where
 op:Int
 kind:Int
 phase:Int
 data:ByteArray
 best:cw
 heard:dM
instance:aC Ask:=aC.via (fun x=>(x.op,x.kind,x.phase,x.data,x.best,x.heard))
@[go_sem, simp] theorem Ask.eta (x : Ask) : (⟨x.op, x.kind, x.phase, x.data, x.best, x.heard⟩ : Ask) = x := rfl
@[ext] structure Step where
 kind:Int
 n:Int
 data:ByteArray
instance:aC Step:=aC.via (fun x=>(x.kind,x.n,x.data))
@[go_sem, simp] theorem Step.eta (x : Step) : (⟨x.kind, x.n, x.data⟩ : Step) = x := rfl
open Go.RowKit
inductive R2 (R:Value->AV->Prop):List Value->List AV->Prop
 |nil:R2 R [] []
 |cons {v:Value} {a:AV} {vs:List Value} {as_:List AV} (h:R v a) (t:R2 R vs as_):R2 R (v::vs) (a::as_)
theorem R2.len (h:R2 R vs as_):vs.length=as_.length:=by
 induction h with
 |nil=>rfl
 |cons _ _ ih=>simp [ih]
theorem R2.get (h:R2 R vs as_):∀(i:Nat) v a,vs[i]? =some v->as_[i]? =some a->R v a:=by
 induction h with
 |nil=>intro i v a hv;simp at hv
 |cons h _ ih=>
  intro i v a hv ha
  cases i with
  |zero=>simp at hv ha;subst hv;subst ha;exact h
  |succ i=>exact ih i v a (by simpa using hv) (by simpa using ha)
theorem R2.rc {E:Env} (h:R2 (ae E) vs as_):RC E vs.toArray as_:=⟨by simpa using h.len,fun j u c hu hc=>h.get j u c (by simpa using hu) hc⟩
theorem R2.agg {E:Env} {vs:List Value} {as_:List AV} (h:R2 (ae E) vs as_):ae E (.agg vs.toArray) (.agg as_):= .agg (by simpa using h.len) fun j u c hu hc=>h.get j u c (by simpa using hu) hc
theorem FR {f:FuncId} (h:Fn P f as_ (.v (.bool true))) (hG:dQ (E0 w fun b=>b<w.heap.size)) (bW:R2 (ae (E0 w fun b=>b<w.heap.size)) vs as_):
  Calls P f vs.toArray w fun e w'=>e= .returned (.bool true)/\Below w.heap.size w w':=
 (h w _ vs.toArray (fun _ h=>h) hG bW.rc).mono fun e w' ⟨v,he,hr,hb⟩=>⟨he.trans (by rw [hr.fu]),hb⟩
open Go.RowKit
inductive Cn where
 |lt (x y:Int)
 |le (x y:Int)
 |eq (x y:Int)
 |ey (x y:UInt8)
 |ly (x y:UInt8)
 |ez (x y:ByteArray)
 |lz (x y:ByteArray)
 |b (x:Bool)
 |eb (x y:Bool)
 |not (c:Cn)
 |and (c d:Cn)
 |or (c d:Cn)
def Cn.den:Cn->Bool
 | .lt x y=>decide (x<y)
 | .le x y=>decide (x<=y)
 | .eq x y=>x==y
 | .ey x y=>x==y
 | .ly x y=>decide (x<y)
 | .ez x y=>gD x y
 | .lz x y=>Op.bytesLess x.toList y.toList
 | .b x=>x
 | .eb x y=>x==y
 | .not c=> !c.den
 | .and c d=>c.den&&d.den
 | .or c d=>c.den||d.den
def Cn.tf:Cn->Bool->Prop
 | .lt x y,true=>x<y
 | .lt x y,false=>y<=x
 | .le x y,true=>x<=y
 | .le x y,false=>y<x
 | .eq x y,true=>x=y
 | .eq x y,false=>¬x=y
 | .ey x y,true=>x=y
 | .ey x y,false=>¬x=y
 | .ly x y,true=>x<y
 | .ly x y,false=>y<=x
 | .ez x y,true=>x=y
 | .ez x y,false=>¬x=y
 | .lz x y,p=>Op.bytesLess x.toList y.toList=p
 | .b x,p=>x=p
 | .eb x y,true=>x=y
 | .eb x y,false=>¬x=y
 | .not c,p=>c.tf (!p)
 | .and c d,true=>c.tf true/\d.tf true
 | .and c d,false=>c.tf false\/d.tf false
 | .or c d,true=>c.tf true\/d.tf true
 | .or c d,false=>c.tf false/\d.tf false
theorem qF {a b:ByteArray}:gD a b=true↔a=b:=by
 unfold gD
 rw [beq_iff_eq]
 constructor
 ·intro h
  have:a.data=b.data:=by rw [<-Mx];exact h
  cases a;cases b;simp_all
 ·intro h;rw [h]
theorem Cn.gR (c:Cn) (p:Bool):c.tf p↔c.den=p:=by
 induction c generalizing p with
 |lt x y=>cases p<;>simp [tf,den]
 |le x y=>cases p<;>simp [tf,den]
 |eq x y=>cases p<;>simp [tf,den]
 |ey x y=>cases p<;>simp [tf,den]
 |ly x y=>cases p<;>simp [tf,den]
 |ez x y=>
  cases p
  ·simp only [tf,den,Bool.eq_false_iff,ne_eq,qF]
  ·simp only [tf,den,qF]
 |lz x y=>cases p<;>simp [tf,den]
 |b x=>cases p<;>simp [tf,den]
 |eb x y=>cases p<;>simp [tf,den]
 |not c ih=>simp only [tf,den,ih];cases c.den<;>cases p<;>simp
 |and c d ue uf=>cases p<;>simp [tf,den,ue,uf]<;>cases c.den<;>simp
 |or c d ue uf=>cases p<;>simp [tf,den,ue,uf]<;>cases c.den<;>simp
inductive RK where
 |nil
 |own
 |aN
structure Row (α:Type) where
 kd:RK
 id:Nat
 n:Nat
 xs:List α
variable {r:Row α}
def Row.no (α:Type):Row α:=⟨.nil,0,0,[]⟩
def Row.at (α:Type) (id n:Nat):Row α:=⟨.own,id,n,[]⟩
def Row.fix (α:Type) (xs:List α):Row α:=⟨.aN,0,0,xs⟩
inductive SV (τ:Type) (dn:τ->Type) where
 |vi (x:Int)
 |vn (x:Int)
 |vy (x:UInt8)
 |vu (x:dM)
 |vw (q:IntKind) (x:Int)
 |vb (c:Cn)
 |vt (x:Bool)
 |vz (s:ByteArray)
 |vo (x:Value)
 |agg (cs:List (SV τ dn))
 |aG (cs:List (SV τ dn))
 |vl (t:τ) (xs:List (dn t))
 |vc (sz:Nat) (els:List (List (SV τ dn)))
 |emp
 |pim (cs:List (SV τ dn)) (o:Nat)
 |ref (nm sz i o:Nat)
 |own (nm sz:Nat)
 |part (nm sz off len:Nat)
 |fn (f:FuncId) (cs:List (SV τ dn))
 |bf (f:FuncId) (cs:List (SV τ dn))
 |mp (nm:Nat)
 |rw (t:τ) (r:Row (dn t))
 |cH (t:τ) (r:Row (dn t)) (i o:Nat)
 |vg (p:Bool) (c:Cn) (v:SV τ dn)
 |dead
section
variable {τ:Type} {dn:τ->Type}
mutual
def SV.fr (p:Nat->Bool):SV τ dn->Bool
 | .own nm _| .part nm _ _ _| .ref nm _ _ _| .mp nm=>p nm
 | .agg cs| .aG cs| .pim cs _| .fn _ cs| .bf _ cs=>SV.cY p cs
 | .vc _ els=>SV.jG p els
 | .vg _ _ v=>SV.fr p v
 |_=>true
def SV.cY (p:Nat->Bool):List (SV τ dn)->Bool
 |[]=>true
 |v::r=>SV.fr p v&&SV.cY p r
def SV.jG (p:Nat->Bool):List (List (SV τ dn))->Bool
 |[]=>true
 |cs::r=>SV.cY p cs&&SV.jG p r
end
end
structure TE (τ:Type) (dn:τ->Type) where
 sz:τ->Nat
 ea:(ρ:Nat->AV)->(t:τ)->dn t->List AV
structure au where
 ι:Nat->Nat
 ln:Nat->Nat
 ρ:Nat->AV
variable {N:au}
section
variable {τ:Type} {dn:τ->Type} (E:TE τ dn) (N:au)
mutual
def SV.av:SV τ dn->AV
 | .vi x=> .v (.int .i64 x)
 | .vn x=> .v (.int .i64 x)
 | .vy x=> .v (.int .u8 x.toNat)
 | .vu x=> .v (.int .u64 (x.n:Int))
 | .vw q x=> .v (.int q x)
 | .vb c=> .v (.bool c.den)
 | .vt x=> .v (.bool x)
 | .vz s=> .v (.string s)
 | .vo x=> .v x
 | .agg cs=> .agg (SV.b6 cs)
 | .aG cs=> .aG (SV.b6 cs)
 | .vl ty xs=> .aN (E.sz ty) (xs.map (E.ea N.ρ ty))
 | .vc sz els=> .aN sz (SV.bA els)
 | .emp=> .emp
 | .pim cs o=> .pim (SV.b6 cs) o
 | .ref nm sz i o=> .ref (N.ι nm) sz i o
 | .own nm sz=> .own (N.ι nm) sz 0 (N.ln nm)
 | .part nm sz off len=> .own (N.ι nm) sz off len
 | .fn f cs=> .fn f (SV.b6 cs)
 | .bf f cs=> .bf f (SV.b6 cs)
 | .mp nm=> .mp (N.ι nm)
 | .rw t r=>match r.kd with
  | .nil=> .emp
  | .own=> .own r.id (E.sz t) 0 r.n
  | .aN=> .aN (E.sz t) (r.xs.map (E.ea N.ρ t))
 | .cH t r i o=>match r.kd with
  | .nil=> .dead
  | .own=> .ref r.id (E.sz t) i o
  | .aN=>match r.xs[i]? with
   |some x=> .pim (E.ea N.ρ t x) o
   |none=> .dead
 | .vg p c v=>if c.den=p then SV.av v else .v undef
 | .dead=> .dead
def SV.b6:List (SV τ dn)->List AV
 |[]=>[]
 |v::r=>SV.av v::SV.b6 r
def SV.bA:List (List (SV τ dn))->List (List AV)
 |[]=>[]
 |cs::r=>SV.b6 cs::SV.bA r
end
theorem SV.ba (cs:List (SV τ dn)):SV.b6 E N cs=cs.map (SV.av E N):=by
 induction cs with
 |nil=>simp [SV.b6]
 |cons v r ih=>simp [SV.b6,ih]
theorem SV.gv (els:List (List (SV τ dn))):SV.bA E N els=els.map fun cs=>cs.map (SV.av E N):=by
 induction els with
 |nil=>simp [SV.bA]
 |cons v r ih=>simp [SV.bA,ih,SV.ba]
inductive SB (τ:Type) (dn:τ->Type) where
 |bl (t:τ) (xs:List (dn t))
 |bc (sz:Nat) (els:List (List (SV τ dn)))
 |mc (els:List (List (SV τ dn)))
 |ar (t:τ) (A:List (Nat×List (dn t)))
def SB.av:SB τ dn->Bk
 | .bl ty xs=>⟨E.sz ty,xs.map (E.ea N.ρ ty)⟩
 | .bc sz els=>⟨sz,SV.bA E N els⟩
 | .mc els=>⟨0,SV.bA E N els⟩
 | .ar ty _=>⟨E.sz ty,[]⟩
def SB.len:SB τ dn->Nat
 | .bl _ xs=>xs.length
 | .bc _ els=>els.length
 | .mc _=>0
 | .ar _ _=>0
def SB.gw:SB τ dn->Bool
 | .ar _ _=>true
 |_=>false
def SB.ug:SB τ dn->Bool
 | .mc _=>true
 |_=>false
theorem SB.FT (B:SB τ dn) (h:B.ug=false):(B.av E N).els.length=B.len:=by
 cases B with
 |bl t xs=>simp [SB.av,SB.len]
 |bc sz els=>simp [SB.av,SB.len,SV.gv]
 |mc els=>simp [SB.ug] at h
 |ar t A=>simp [SB.av,SB.len]
end
section
variable {τ:Type} {dn:τ->Type}
def SV.cells:SV τ dn->List (SV τ dn)
 | .agg cs=>cs
 |a=>[a]
def SV.one:SV τ dn->Bool
 | .agg _| .aG _| .dead| .vg _ _ _| .cH _ _ _ _=>false
 | .vo x=>x.oneCell'
 |_=>true
def SV.fK:SV τ dn->Bool
 | .agg _=>true
 |a=>a.one
theorem SV.oq {E:TE τ dn} {v:SV τ dn} (h:v.fK=true):(v.av E N).cells=v.cells.map (SV.av E N):=by
 cases v<;>simp [SV.fK,SV.one] at h<;>first
  |(simp [SV.av,AV.cells,SV.cells,SV.ba];done)
  |(simp only [SV.av,SV.cells,KW,Lv];(repeat' split)<;>rfl)
theorem SV.FU {E:TE τ dn} {v:SV τ dn} (h:v.one=true):(v.av E N).one=true:=by
 cases v<;>simp [SV.one] at h<;>first|exact h|rfl|(simp only [SV.av];(repeat' split)<;>rfl)
theorem SV.FV {E:TE τ dn} {v:SV τ dn} (h:v.fK=true):(v.av E N).fK=true:=by
 cases v<;>simp [SV.fK,SV.one] at h<;>first|exact h|rfl|(simp only [SV.av];(repeat' split)<;>rfl)
end
section
variable {α:Type}
def dj (A:List (Nat×α)) (id:Nat):Prop:=id∈A.map Prod.fst
def yx (d:α):List (Nat×α)->Nat->α
 |[],_=>d
 |(j,x)::r,id=>if id=j then x else yx d r id
def eQ (A:List (Nat×List α)) (id:Nat):List α:=yx [] A id
theorem yy {id:Nat}:¬dj ([]:List (Nat×α)) id:=by simp [dj]
theorem ot {x:α} {A:List (Nat×α)} {id:Nat}:dj ((j,x)::A) id↔id=j\/dj A id:=by simp [dj]
theorem yz {x:List α} {A:List (Nat×List α)} {id:Nat}:eQ ((j,x)::A) id=if id=j then x else eQ A id:=rfl
def Row.get (r:Row α) (A:List (Nat×List α)):List α:=match r.kd with
 | .nil=>[]
 | .own=>eQ A r.id
 | .aN=>r.xs
def Row.ok (r:Row α) (A:List (Nat×List α)):Prop:=match r.kd with
 | .own=>dj A r.id/\(eQ A r.id).length=r.n
 |_=>True
@[simp, grind =] theorem Row.Kv {id:Nat} : (Row.at α id n).id = id := rfl
@[simp, grind =] theorem Row.Kw {id:Nat} : (Row.at α id n).n = n := rfl
@[simp, grind =] theorem Row.Kx {id:Nat} : (Row.at α id n).kd = .own := rfl
@[simp, grind =] theorem Row.Ky : (Row.no α).kd = .nil := rfl
@[simp, grind =] theorem Row.Kz {xs : List α} : (Row.fix α xs).kd = .aN := rfl
@[simp, grind =] theorem Row.KA {xs : List α} : (Row.fix α xs).xs = xs := rfl
def Row.lM (r:Row α) (A:List (Nat×List α)):Prop:=r.kd= .own/\dj A r.id/\(eQ A r.id).length=r.n
end
open Go.RowKit
def cx (x:Int):Prop:= -9223372036854775808<=x/\x<=9223372036854775807
theorem cx.wr {x:Int} (h:cx x):IntKind.i64.wrap x=x:=by rw [IntKind.wrap_i64];unfold cx at h;omega
def uN (n:Nat):dM:=⟨n%18446744073709551616,Nat.mod_lt _ (by decide)⟩
theorem uh (h:n<18446744073709551616):(uN n).n=n:=L7 h
theorem wrap_u8 (x:Int):IntKind.u8.wrap x=x%256:=by simp [IntKind.wrap,IntKind.bits,IntKind.signed]
theorem wrap_u64 (x:Int):IntKind.u64.wrap x=x%18446744073709551616:=by simp [IntKind.wrap,IntKind.bits,IntKind.signed]
theorem bits_nat (op:BinOp) (k:IntKind) (a b:Nat):bits op k a b=k.wrap ((match op with
  | .and=>BitVec.ofNat k.bits a&&&BitVec.ofNat k.bits b
  | .or=>BitVec.ofNat k.bits a|||BitVec.ofNat k.bits b
  | .xor=>BitVec.ofNat k.bits a^^^BitVec.ofNat k.bits b
  |_=>BitVec.ofNat k.bits a&&& ~~~BitVec.ofNat k.bits b).toNat:Int):=by
 unfold bits;simp only [BitVec.ofInt_natCast]
 cases op<;>rfl
def fZ:BinOp->Nat->Nat->Nat
 | .and,a,b=>a&&&b
 | .or,a,b=>a|||b
 | .xor,a,b=>a^^^b
 |_,a,b=>a&&&(a^^^b)
theorem FW (a b:Nat) (n:Nat) (ha:a<2^n):(BitVec.ofNat n a&&& ~~~BitVec.ofNat n b).toNat=a&&&(a^^^(b%2^n)):=by
 rw [BitVec.toNat_and,BitVec.toNat_not,Mh,Mh,L7 ha]
 apply Nat.eq_of_testBit_eq
 intro i
 rw [Nat.testBit_and,Nat.testBit_and,Nat.testBit_xor,show 2^n - 1 - b%2^n=2^n - (b%2^n+1) by omega,Nat.testBit_two_pow_sub_succ (Nat.mod_lt _ (Nat.two_pow_pos n))]
 cases h:a.testBit i with
 |false=>simp
 |true=>
  have hi:i<n:=by
   by_cases hi:i<n
   ·exact hi
   ·exfalso
    have:a<2^i:=K8 ha (Nat.pow_le_pow_right (by decide) (by omega))
    rw [Nat.testBit_lt_two_pow this] at h;simp at h
  simp [hi]
theorem ui (op:BinOp) (k:IntKind) (a b:Nat) (ha:a<2^k.bits) (hb:b<2^k.bits):bits op k a b=k.wrap (fZ op a b:Nat):=by
 rw [bits_nat]
 have h1:=L7 ha
 have h2:=L7 hb
 cases op<;>simp only [fZ]<;>first
  |rw [BitVec.toNat_and,Mh,Mh,h1,h2]
  |rw [BitVec.toNat_or,Mh,Mh,h1,h2]
  |rw [BitVec.toNat_xor,Mh,Mh,h1,h2]
  |rw [FW _ _ _ ha,h2]
theorem qG (op:BinOp) {a b:Nat} (ha:a<2^n) (hb:b<2^n):fZ op a b<2^n:=by
 cases op<;>simp only [fZ]<;>first
  |exact Nat.or_lt_two_pow ha hb
  |exact Nat.xor_lt_two_pow ha hb
  |exact Nat.lt_of_le_of_lt Nat.and_le_left ha
theorem FX (op:BinOp) (a b:Nat) (h:a<2^63) (h2:b<2^63):fZ op a b<2^63:=qG op h h2
theorem uj (op:BinOp) (x y:Int) (hx:0<=x) (hy:0<=y) (yA:cx x) (FY:cx y):bits op .i64 x y=((fZ op x.toNat y.toNat:Nat):Int):=by
 unfold cx at yA FY
 have e1:((x.toNat:Nat):Int)=x:=by omega
 have e2:((y.toNat:Nat):Int)=y:=by omega
 have h1:x.toNat<2^63:=by omega
 have h2:y.toNat<2^63:=by omega
 have:=ui op .i64 x.toNat y.toNat (Nat.lt_trans h1 (by decide)) (Nat.lt_trans h2 (by decide))
 rw [e1,e2] at this
 rw [this]
 have h3:=FX op _ _ h1 h2
 have h4:fZ op x.toNat y.toNat<9223372036854775808:=h3
 exact cx.wr ⟨by omega,by omega⟩
def uk:BinOp->UInt8->UInt8->UInt8
 | .and,a,b=>a&&&b
 | .or,a,b=>a|||b
 | .xor,a,b=>a^^^b
 |_,a,b=>a&&&(a^^^b)
theorem F0 (op:BinOp) (a b:UInt8):(uk op a b).toNat=fZ op a.toNat b.toNat:=by
 cases op<;>simp [uk,fZ]
theorem um (op:BinOp) (a b:UInt8):bits op .u8 (a.toNat:Int) (b.toNat:Int)=((uk op a b).toNat:Int):=by
 rw [ui op .u8 _ _ a.toNat_lt b.toNat_lt,F0,wrap_u8]
 have:fZ op a.toNat b.toNat<2^8:=qG op a.toNat_lt b.toNat_lt
 omega
def lN (op:BinOp) (a b:dM):dM:=uN (fZ op a.n b.n)
theorem F1 (op:BinOp) (a b:dM):(lN op a b).n=fZ op a.n b.n:=uh (by
 have:fZ op a.n b.n<2^64:=qG op a.lt b.lt
 exact this)
theorem ou (op:BinOp) (a b:dM):bits op .u64 (a.n:Int) (b.n:Int)=((lN op a b).n:Int):=by
 rw [ui op .u64 _ _ a.lt b.lt,F1,wrap_u64]
 have:fZ op a.n b.n<2^64:=qG op a.lt b.lt
 omega
theorem F2 (a b:UInt8):IntKind.u8.wrap ((a.toNat:Int)+b.toNat)=((a+b).toNat:Int):=by
 rw [wrap_u8,UInt8.toNat_add];omega
theorem F4 (a b:UInt8):IntKind.u8.wrap ((a.toNat:Int) - b.toNat)=((a - b).toNat:Int):=by
 rw [wrap_u8,UInt8.toNat_sub];have:=b.toNat_lt;omega
theorem F5 (a b:UInt8):IntKind.u8.wrap ((a.toNat:Int)*b.toNat)=((a*b).toNat:Int):=by
 rw [wrap_u8,UInt8.toNat_mul, <-Int.natCast_mul];omega
theorem F6 (a b:dM):IntKind.u64.wrap ((a.n:Int)+b.n)=((uN (a.n+b.n)).n:Int):=by
 rw [wrap_u64];show _=(((a.n+b.n)%18446744073709551616:Nat):Int);omega
theorem F7 (a b:dM):IntKind.u64.wrap ((a.n:Int) - b.n)=((uN (a.n+18446744073709551616 - b.n)).n:Int):=by
 have:=b.lt
 rw [wrap_u64];show _=(((a.n+18446744073709551616 - b.n)%18446744073709551616:Nat):Int);omega
theorem Ga (a b:dM):IntKind.u64.wrap ((a.n:Int)*b.n)=((uN (a.n*b.n)).n:Int):=by
 rw [wrap_u64, <-Int.natCast_mul];show _=(((a.n*b.n)%18446744073709551616:Nat):Int);omega
def ov (a:UInt8) (k:Nat):UInt8:=UInt8.ofNat (a.toNat*2^(min k 8))
def ox (a:UInt8) (k:Nat):UInt8:=UInt8.ofNat (a.toNat / 2^(min k 8))
theorem yB (a k:Nat):((a:Int)*2^k)=((a*2^k:Nat):Int):=by rw [Int.natCast_mul,Int.natCast_pow];rfl
theorem yC (a:UInt8) (k:Nat):IntKind.u8.wrap ((a.toNat:Int)*2^(min k IntKind.u8.bits))=((ov a k).toNat:Int):=by
 have e:(ov a k).toNat=a.toNat*2^min k 8%256:=by unfold ov;exact UInt8.toNat_ofNat ..
 rw [wrap_u8,e,show IntKind.u8.bits=8 from rfl,yB,Int.natCast_emod];rfl
theorem fdiv_pow (a k:Nat):((a:Int).fdiv (2^k))=((a / 2^k:Nat):Int):=by
 rw [show (2:Int)^k=((2^k:Nat):Int) by simp]
 exact Int.fdiv_eq_ediv_of_nonneg _ (Int.natCast_nonneg _)
theorem yD (a:UInt8) (k:Nat):((a.toNat:Int).fdiv (2^(min k IntKind.u8.bits)))=((ox a k).toNat:Int):=by
 have e:(ox a k).toNat=a.toNat / 2^min k 8%256:=by unfold ox;exact UInt8.toNat_ofNat ..
 have h:a.toNat / 2^min k 8<256:=Nat.lt_of_le_of_lt (Nat.div_le_self _ _) a.toNat_lt
 rw [e,L7 h,show IntKind.u8.bits=8 from rfl,fdiv_pow]
theorem yE (a:dM) (k:Nat):IntKind.u64.wrap ((a.n:Int)*2^(min k IntKind.u64.bits))=((uN (a.n*2^min k 64)).n:Int):=by
 rw [wrap_u64,show IntKind.u64.bits=64 from rfl,yB]
 show _=(((a.n*2^min k 64)%18446744073709551616:Nat):Int);rw [Int.natCast_emod];rfl
theorem yF (a:dM) (k:Nat):((a.n:Int).fdiv (2^(min k IntKind.u64.bits)))=((uN (a.n / 2^min k 64)).n:Int):=by
 have h:a.n / 2^min k 64<18446744073709551616:=Nat.lt_of_le_of_lt (Nat.div_le_self _ _) a.lt
 rw [uh h,show IntKind.u64.bits=64 from rfl,fdiv_pow]
theorem Gb (x:Int) (k:Nat) (h:cx (x*2^k)):IntKind.i64.wrap (x*2^(min k IntKind.i64.bits))=x*2^k:=by
 rw [show IntKind.i64.bits=64 from rfl]
 by_cases hk:k<=64
 ·rw [Nat.min_eq_left hk];exact h.wr
 ·rw [Nat.min_eq_right (by omega)]
  have h0:x=0:=by
   obtain ⟨j,rfl⟩:∃j,k=64+j:=⟨k - 64,by omega⟩
   have hp:(1:Int)<=2^j:=by exact_mod_cast Nat.two_pow_pos j
   unfold cx at h
   rw [Int.pow_add] at h
   by_cases hx:0<x
   ·exfalso
    have h2:x*(2^64*1)<=x*(2^64*2^j):=MJ (MJ hp (by decide)) (by omega)
    have:=h.2;omega
   ·by_cases yA:x<0
    ·exfalso
     have h2:(-x)*(2^64*1)<=(-x)*(2^64*2^j):=MJ (MJ hp (by decide)) (by omega)
     rw [Int.neg_mul (b:=2^64*2^j)] at h2
     have:=h.1;omega
    ·omega
  rw [h0];simp;exact cx.wr ⟨by decide,by decide⟩
theorem Gc (x:Int) (k:Nat) (h:k<=64):x.fdiv (2^(min k IntKind.i64.bits))=x / 2^k:=by
 rw [show IntKind.i64.bits=64 from rfl,Nat.min_eq_left h]
 exact Int.fdiv_eq_ediv_of_nonneg _ (Int.pow_nonneg (by decide))
theorem Ge {x y:Int} (h:0<=x/\0<y/\cx x):IntKind.i64.wrap (x.tdiv y)=x / y:=by
 rw [Int.tdiv_eq_ediv_of_nonneg h.1]
 have h1:=Int.ediv_nonneg (b:=y) h.1 (by omega)
 have h2:=Int.ediv_le_self y h.1
 have:=h.2.2
 unfold cx at this
 exact cx.wr ⟨by omega,by omega⟩
theorem Gf {x y:Int} (h:0<=x):x.tmod y=x%y:=Int.tmod_eq_emod_of_nonneg h
theorem uo {x:Int} (h:0<=x):IntKind.u8.wrap x=((UInt8.ofNat x.toNat).toNat:Int):=by
 have e:(UInt8.ofNat x.toNat).toNat=x.toNat%256:=UInt8.toNat_ofNat ..
 rw [wrap_u8,e];omega
theorem yG {x:Int} (h:0<=x):IntKind.u64.wrap x=((uN x.toNat).n:Int):=by
 rw [wrap_u64];show _=((x.toNat%18446744073709551616:Nat):Int);omega
open Go.RowKit
def gd (d:α) (xs:List α) (i:Nat):α:=(xs[i]?).getD d
theorem jH {α:Type} {d:α} {xs:List α} (h:i<xs.length):xs[i]? =some (gd d xs i):=by
 unfold gd;rw [K0 h];rfl
def gb (s:ByteArray) (i:Nat):UInt8:=(s[i]?).getD 0
structure TD (τ:Type) (dn:τ->Type) extends TE τ dn where
 df:(t:τ)->dn t
 es:(t:τ)->dn t->List (SV τ dn)
 ds:(t:τ)->List (SV τ dn)->Option (dn t)
 ag:τ->Bool
 pu:τ->Bool
 hint:Nat->Nat->Option τ
 neg:Bool
 em:τ->Bool:=fun _=>false
 ar:Option τ:=none
 hr:τ->Bool:=fun _=>false
 fz:(t ta:τ)->(A:List (Nat×List (dn ta)))->Option ((t':τ)×(dn t->dn t')×(dn t->Prop)):=fun _ _ _=>none
 bt:(t:τ)->Option ((dn t->UInt8)×(UInt8->dn t)):=fun _=>none
 th:(t t':τ)->Option (dn t->dn t'):=fun _ _=>none
def SV.ne:SV τ dn->Bool
 | .emp=>false
 |_=>true
def TD.lO (D:TD τ dn) (t:τ) (cs:List (SV τ dn)):Bool:=D.em t||cs.all SV.ne
structure aQ {τ:Type} {dn:τ->Type} (D:TD τ dn):Prop where
 cI:∀(N:au) (t:τ) (x:dn t),(D.es t x).map (SV.av D.toTE N)=D.ea N.ρ t x
 eZ:∀(N:au) (t:τ) (cs:List (SV τ dn)) (x:dn t),D.ds t cs=some x->dw (cs.map (SV.av D.toTE N)) (D.ea N.ρ t x)
 dV:∀(N:au) (t:τ) (cs:List (SV τ dn)) (x:dn t),D.ds t cs=some x->D.lO t cs=true->cs.map (SV.av D.toTE N)=D.ea N.ρ t x
 len:∀(t:τ) (x:dn t),(D.es t x).length=D.sz t
 one:∀(t:τ) (x:dn t),(D.es t x).all SV.one=true
 nf:∀(p:Nat->Bool) (t:τ) (x:dn t),SV.cY p (D.es t x)=true
 e8:∀(ρ gx:Nat->AV) (t:τ) (x:dn t),D.pu t=true->D.ea ρ t x=D.ea gx t x
 pu1:∀(N:au) (t:τ) (x:dn t),D.pu t=true->(D.ea N.ρ t x).all AV.pu1=true
 bt:∀(N:au) (t:τ) (p:(dn t->UInt8)×(UInt8->dn t)),D.bt t=some p->(∀x,D.ea N.ρ t x=[.v (.int .u8 (p.1 x).toNat)])/\∀b,p.1 (p.2 b)=b
 th:∀(ρ:Nat->AV) (t t':τ) (f:dn t->dn t'),D.th t t'=some f->D.sz t'=D.sz t/\∀x,D.ea ρ t' (f x)=D.ea ρ t x
 fz:∀(N:au) (φ:AV->AV) (t ta:τ) (A:List (Nat×List (dn ta))) (t':τ) (f:dn t->dn t') (O:dn t->Prop),D.fz t ta A=some ⟨t',f,O⟩->(∀a,a.pu1=true->φ a=a)->
  (∀id n,dj A id->(eQ A id).length=n->φ (.own id (D.sz ta) 0 n)= .aN (D.sz ta) ((eQ A id).map (D.ea N.ρ ta)))->D.sz t'=D.sz t/\∀x,O x->(D.ea N.ρ t x).map φ=D.ea N.ρ t' (f x)
theorem aQ.oy {D:TD τ dn} (ok:aQ D) (N:au) (t:τ) (cs:List (SV τ dn)) (x:dn t) (h:D.ds t cs=some x) (hn:cs.all SV.ne=true):cs.map (SV.av D.toTE N)=D.ea N.ρ t x:=
 ok.dV N t cs x h (by unfold TD.lO;rw [hn,Bool.or_true])
def getS {α:Type}:List (Nat×α)->Nat->Option α
 |[],_=>none
 |(j,v)::r,i=>bif Nat.beq i j then some v else getS r i
structure SS (τ:Type) (dn:τ->Type) where
 rt:List (Nat×SV τ dn)
 rm:List (Nat×Option (SB τ dn))
 t:List (Nat×SV τ dn)
 m:List (Nat×Option (SB τ dn))
 nx:Nat
section
variable {τ:Type} {dn:τ->Type} [DecidableEq τ]
def mM:Value->Option (SV τ dn)
 | .int .i64 k=>some (.vn k)
 | .int .u8 k=>if 0<=k/\k<256 then some (.vy (UInt8.ofNat k.toNat)) else none
 | .int .u64 k=>if 0<=k/\k<18446744073709551616 then some (.vu (uN k.toNat)) else none
 | .int q k=>some (.vw q k)
 | .bool b=>some (.vt b)
 | .string s=>some (.vz s)
 | .nilFunc=>some (.vo .nilFunc)
 | .nilIface=>some (.vo .nilIface)
 | .pointer none=>some (.vo (.pointer none))
 | .tuple vs=>if vs.isEmpty=true then some (.vo undef) else none
 |_=>none
mutual
def im:AV->Option (SV τ dn)
 | .v x=>mM x
 | .agg cs=>(iq cs).map .agg
 | .emp=>some .emp
 | .fn f cs=>(iq cs).map (.fn f)
 | .pim cs o=>(iq cs).map (.pim · o)
 | .dead=>some .dead
 |_=>none
def iq:List AV->Option (List (SV τ dn))
 |[]=>some []
 |a::r=>match im a,iq r with
  |some v,some l=>some (v::l)
  |_,_=>none
end
def SS.gt (st:SS τ dn) (i:Nat):Option (SV τ dn):=match getS st.t i with
 |some v=>some v
 |none=>getS st.rt i
def SS.gm (st:SS τ dn) (nm:Nat):Option (SB τ dn):=match getS st.m nm with
 |some b=>b
 |none=>(getS st.rm nm).join
def SS.ev (st:SS τ dn):Arg->Option (SV τ dn)
 | .s i=>st.gt i
 | .c a=>im a
def SS.rw (st:SS τ dn) (nm:Nat):Bool:=(match getS st.m nm with|some (some _)=>true|_=>false)&&(getS st.rm nm).isNone
inductive SR (τ:Type) (dn:τ->Type) where
 |val (O:List Prop) (v:SV τ dn)
 |new (O:List Prop) (v:SV τ dn) (B:SB τ dn)
 |put (O:List Prop) (v:SV τ dn) (nm:Nat) (B:SB τ dn)
 |mov (O:List Prop) (v:SV τ dn) (aJ:Nat) (B:SB τ dn)
 |fa (O:List Prop) (v:SV τ dn) (ns:List Nat)
 |dW (O:List Prop) (v:SV τ dn) (id:Nat) (t:τ) (row:List (dn t)) (A:List (Nat×List (dn t)))
def SV.int:SV τ dn->Option (Int×Bool)
 | .vi x=>some (x,false)
 | .vn x=>some (x,true)
 |_=>none
def oz:SV τ dn->Option (SV τ dn)
 | .vb c=>some (.vb (.not c))
 | .vt b=>some (.vt !b)
 |_=>none
def uq:SV τ dn->SV τ dn->Option (SV τ dn)
 | .vt true,a=>some a
 | .vt false, .vb _=>some (.vt false)
 | .vt false, .vt _=>some (.vt false)
 | .vb c, .vt true=>some (.vb c)
 | .vb _, .vt false=>some (.vt false)
 | .vb c, .vb d=>some (.vb (.and c d))
 |_,_=>none
def SV.lit:SV τ dn->Option Value
 | .vn x=>some (.int .i64 x)
 | .vt b=>some (.bool b)
 |_=>none
def oA (bt:Bool) (op:BinOp) (a b:SV τ dn):Option (SV τ dn):=
 match a.lit,b.lit with
 |some x,some y=>match binA bt op x y with
  |some v=>mM v
  |none=>none
 |_,_=>none
def oB (neg:Bool) (op:BinOp) (x y:Int):Option (SR τ dn):=
 match op with
 | .add=>some (.val [cx (x+y)] (.vi (x+y)))
 | .sub=>some (.val [cx (x - y)] (.vi (x - y)))
 | .mul=>some (.val [cx (x*y)] (.vi (x*y)))
 | .quo=>bif neg then some (.val [y≠0,cx (x.tdiv y)] (.vi (x.tdiv y))) else some (.val [0<=x/\0<y/\cx x] (.vi (x / y)))
 | .rem=>bif neg then some (.val [y≠0] (.vi (x.tmod y))) else some (.val [0<=x/\y≠0] (.vi (x%y)))
 | .and=>some (.val [0<=x/\0<=y/\cx x/\cx y] (.vi ((x.toNat&&&y.toNat:Nat):Int)))
 | .or=>some (.val [0<=x/\0<=y/\cx x/\cx y] (.vi ((x.toNat|||y.toNat:Nat):Int)))
 | .xor=>some (.val [0<=x/\0<=y/\cx x/\cx y] (.vi ((x.toNat^^^y.toNat:Nat):Int)))
 | .shl=>some (.val [0<=y/\cx (x*2^y.toNat)] (.vi (x*2^y.toNat)))
 | .shr=>some (.val [0<=y/\y<=64] (.vi (x / 2^y.toNat)))
 | .eql=>some (.val [] (.vb (.eq x y)))
 | .neq=>some (.val [] (.vb (.not (.eq x y))))
 | .lss=>some (.val [] (.vb (.lt x y)))
 | .leq=>some (.val [] (.vb (.le x y)))
 | .gtr=>some (.val [] (.vb (.lt y x)))
 | .geq=>some (.val [] (.vb (.le y x)))
 |_=>none
def oY (op:BinOp) (x y:UInt8):Option (SV τ dn):=
 match op with
 | .add=>some (.vy (x+y))
 | .sub=>some (.vy (x - y))
 | .mul=>some (.vy (x*y))
 | .and=>some (.vy (x&&&y))
 | .or=>some (.vy (x|||y))
 | .xor=>some (.vy (x^^^y))
 | .eql=>some (.vb (.ey x y))
 | .neq=>some (.vb (.not (.ey x y)))
 | .lss=>some (.vb (.ly x y))
 | .leq=>some (.vb (.not (.ly y x)))
 | .gtr=>some (.vb (.ly y x))
 | .geq=>some (.vb (.not (.ly x y)))
 |_=>none
def oU (op:BinOp) (x y:dM):Option (SV τ dn):=
 match op with
 | .add=>some (.vu (uN (x.n+y.n)))
 | .sub=>some (.vu (uN (x.n+18446744073709551616 - y.n)))
 | .mul=>some (.vu (uN (x.n*y.n)))
 | .and=>some (.vu (lN .and x y))
 | .or=>some (.vu (lN .or x y))
 | .xor=>some (.vu (lN .xor x y))
 | .andNot=>some (.vu (lN .andNot x y))
 | .eql=>some (.vb (.eq x.n y.n))
 | .neq=>some (.vb (.not (.eq x.n y.n)))
 | .lss=>some (.vb (.lt x.n y.n))
 | .leq=>some (.vb (.le x.n y.n))
 | .gtr=>some (.vb (.lt y.n x.n))
 | .geq=>some (.vb (.le y.n x.n))
 |_=>none
def oZ (op:BinOp) (x y:ByteArray):Option (SR τ dn):=
 match op with
 | .eql=>some (.val [] (.vb (.ez x y)))
 | .neq=>some (.val [] (.vb (.not (.ez x y))))
 | .lss=>some (.val [] (.vb (.lz x y)))
 | .add=>some (.val [((x.size+y.size:Nat):Int)<=9223372036854775807] (.vz (x++y)))
 |_=>none
def oC:SV τ dn->SV τ dn->Option (SV τ dn)
 | .vb c, .vt b=>some (.vb (if b then c else .not c))
 | .vt b, .vb c=>some (.vb (if b then c else .not c))
 | .vb c, .vb d=>some (.vb (.eb c.den d.den))
 |_,_=>none
def oD (neg bt:Bool) (op:BinOp) (a b:SV τ dn):Option (SR τ dn):=
 match oA bt op a b with
 |some v=>some (.val [] v)
 |none=>match a.int,b.int with
  |some (x,_),some (y,_)=>oB neg op x y
  |_,_=>match a,b with
   | .vy x, .vy y=>(oY op x y).map (.val [])
   | .vu x, .vu y=>(oU op x y).map (.val [])
   | .vz x, .vz y=>oZ op x y
   | .vy x, .vi y=>match op with
    | .shl=>some (.val [0<=y] (.vy (ov x y.toNat)))
    | .shr=>some (.val [0<=y] (.vy (ox x y.toNat)))
    |_=>none
   | .vy x, .vn y=>match op with
    | .shl=>some (.val [0<=y] (.vy (ov x y.toNat)))
    | .shr=>some (.val [0<=y] (.vy (ox x y.toNat)))
    |_=>none
   | .vu x, .vi y=>match op with
    | .shl=>some (.val [0<=y] (.vu (uN (x.n*2^min y.toNat 64))))
    | .shr=>some (.val [0<=y] (.vu (uN (x.n / 2^min y.toNat 64))))
    |_=>none
   | .vu x, .vn y=>match op with
    | .shl=>some (.val [0<=y] (.vu (uN (x.n*2^min y.toNat 64))))
    | .shr=>some (.val [0<=y] (.vu (uN (x.n / 2^min y.toNat 64))))
    |_=>none
   | .vw q x, .vw q' y=>if q=q' then (match op with
    | .and=>some (.val [] (.vw q (bits .and q x y)))
    | .or=>some (.val [] (.vw q (bits .or q x y)))
    | .xor=>some (.val [] (.vw q (bits .xor q x y)))
    | .add=>some (.val [] (.vw q (q.wrap (x+y))))
    | .sub=>some (.val [] (.vw q (q.wrap (x - y))))
    | .mul=>some (.val [] (.vw q (q.wrap (x*y))))
    | .eql=>some (.val [] (.vb (.eq x y)))
    | .neq=>some (.val [] (.vb (.not (.eq x y))))
    | .lss=>some (.val [] (.vb (.lt x y)))
    | .leq=>some (.val [] (.vb (.le x y)))
    | .gtr=>some (.val [] (.vb (.lt y x)))
    | .geq=>some (.val [] (.vb (.le y x)))
    |_=>none) else none
   | .vw q x, .vi y=>match op with
    | .shl=>some (.val [0<=y] (.vw q (q.wrap (x*2^(min y.toNat q.bits)))))
    | .shr=>some (.val [0<=y] (.vw q (x.fdiv (2^(min y.toNat q.bits)))))
    |_=>none
   | .vw q x, .vn y=>match op with
    | .shl=>some (.val [0<=y] (.vw q (q.wrap (x*2^(min y.toNat q.bits)))))
    | .shr=>some (.val [0<=y] (.vw q (x.fdiv (2^(min y.toNat q.bits)))))
    |_=>none
   | .vw q x, .vu y=>match op with
    | .shl=>some (.val [] (.vw q (q.wrap (x*2^(min y.n q.bits)))))
    | .shr=>some (.val [] (.vw q (x.fdiv (2^(min y.n q.bits)))))
    |_=>none
   |a,b=>if bt=true then (match op with
    | .eql=>(oC a b).map (.val [])
    | .neq=>((oC a b).bind oz).map (.val [])
    |_=>none) else none
def oE (op:UnOp) (a:SV τ dn):Option (SR τ dn):=
 match op,a with
 | .neg, .vn x=>(mM (.int .i64 (IntKind.i64.wrap (0 - x)))).map (.val [])
 | .neg, .vi x=>some (.val [cx (0 - x)] (.vi (0 - x)))
 | .xor, .vu x=>some (.val [] (.vu (lN .xor (uN 18446744073709551615) x)))
 | .not,a=>(oz a).map (.val [])
 |_,_=>none
def oF (k:IntKind) (a:SV τ dn):Option (SR τ dn):=
 match k,a with
 |k, .vn x=>(mM (.int k (k.wrap x))).map (.val [])
 | .i64, .vi x=>some (.val [cx x] (.vi x))
 | .i64, .vy x=>some (.val [] (.vi x.toNat))
 | .i64, .vu x=>some (.val [cx x.n] (.vi x.n))
 | .i64, .vw _ x=>some (.val [cx x] (.vi x))
 | .u8, .vi x=>some (.val [0<=x] (.vy (UInt8.ofNat x.toNat)))
 | .u8, .vu x=>some (.val [] (.vy (UInt8.ofNat x.n)))
 | .u8, .vw _ x=>some (.val [0<=x] (.vy (UInt8.ofNat x.toNat)))
 | .u64, .vi x=>some (.val [0<=x] (.vu (uN x.toNat)))
 | .u64, .vy x=>some (.val [] (.vu (uN x.toNat)))
 | .u16, .vi x=>some (.val [] (.vw .u16 (IntKind.u16.wrap x)))
 | .u16, .vy x=>some (.val [] (.vw .u16 (IntKind.u16.wrap x.toNat)))
 | .u16, .vw _ x=>some (.val [] (.vw .u16 (IntKind.u16.wrap x)))
 |_,_=>none
def jI (cs:List (SV τ dn)) (o:Nat):Option Nat->Option (SV τ dn)
 |none=>cs[o]?
 |some n=>if o+n<=cs.length then some (.agg ((cs.drop o).take n)) else none
def kH (cs:List (SV τ dn)) (o:Nat) (ys:List (SV τ dn)):List (SV τ dn):=cs.take o++ys++cs.drop (o+ys.length)
def oG (st:SS τ dn) (cells:List (SV τ dn)):List (Nat×Nat×Arg)->Option (List (SV τ dn))
 |[]=>some cells
 |(off,n,x)::r=>match st.ev x with
  |some v=>if v.cells.length=n/\off+n<=cells.length/\v.fK=true then oG st (kH cells off v.cells) r else none
  |none=>none
def kI (st:SS τ dn) (sz:Nat) (els:List (List (SV τ dn))):List (Nat×Arg)->Option (List (List (SV τ dn)))
 |[]=>some els
 |(i,x)::r=>match st.ev x with
  |some v=>if v.cells.length=sz/\i<els.length/\v.fK=true/\v.cells.all SV.one=true then kI st sz (els.set i v.cells) r else none
  |none=>none
def ur:LK->SV τ dn->SV τ dn->Option (SV τ dn)
 | .int,a,b=>match oA false .eql a b with
  |some v=>some v
  |none=>match a.int,b.int with
   |some (x,_),some (y,_)=>some (.vb (.eq x y))
   |_,_=>match a,b with
    | .vu x, .vu y=>some (.vb (.eq x.n y.n))
    | .vy x, .vy y=>some (.vb (.ey x y))
    |_,_=>none
 | .str, .vz a, .vz b=>some (.vb (.ez a b))
 | .bool, .vt a, .vt b=>some (.vt (a==b))
 | .bool,a,b=>oC a b
 |_,_,_=>none
def oH (cs ds:List (SV τ dn)):List (Nat×LK)->Option (SV τ dn)
 |[]=>some (.vt true)
 |(o,k)::r=>match cs[o]?,ds[o]? with
  |some a,some b=>match ur k a b,oH cs ds r with
   |some x,some y=>uq x y
   |_,_=>none
  |_,_=>none
inductive Ct (τ:Type) (dn:τ->Type) where
 |ty (t:τ) (xs:List (dn t))
 |li (els:List (List (SV τ dn)))
def Ct.len:Ct τ dn->Nat
 | .ty _ xs=>xs.length
 | .li els=>els.length
variable (D:TD τ dn)
def SS.cont (st:SS τ dn) (sz:Nat):SV τ dn->Option (Ct τ dn)
 | .vl ty xs=>if D.sz ty=sz then some (.ty ty xs) else none
 | .vc k els=>if k=sz then some (.li els) else none
 | .emp=>some (.li [])
 | .own nm k=>if k=sz then (match st.gm nm with
  |some (.bl ty xs)=>if D.sz ty=sz then some (.ty ty xs) else none
  |some (.bc q els)=>if q=sz then some (.li els) else none
  |_=>none) else none
 |_=>none
def iV (ty:τ):List (List (SV τ dn))->Option (List (dn ty))
 |[]=>some []
 |cs::r=>if D.lO ty cs=true then (match D.ds ty cs,iV ty r with
  |some x,some l=>some (x::l)
  |_,_=>none) else none
def lP (sz:Nat):SB τ dn->Ct τ dn->Option (SB τ dn)
 | .bl ty xs, .ty kJ ys=>if h:kJ=ty then some (.bl ty (xs++h▸ys)) else none
 | .bl ty xs, .li els=>(iV D ty els).map fun ys=> .bl ty (xs++ys)
 | .bc q els, .ty ty ys=>if q=D.sz ty then (iV D ty els).map fun xs=> .bl ty (xs++ys) else none
 | .bc q els, .li fs=>if q=sz then some (.bc q (els++fs)) else none
 | .mc _,_=>none
 | .ar _ _,_=>none
def Ct.iW (sz:Nat):Ct τ dn->SB τ dn
 | .ty t xs=> .bl t xs
 | .li els=> .bc sz els
def SB.sz:SB τ dn->Nat
 | .bl ty _=>D.sz ty
 | .bc sz _=>sz
 | .mc _=>0
 | .ar ty _=>D.sz ty
def SB.yH:SB τ dn->SV τ dn
 | .bl _ xs=> .vi (xs.length:Int)
 | .bc _ els=> .vn (els.length:Int)
 | .mc _=> .vn 0
 | .ar _ _=> .vn 0
def jJ (st:SS τ dn):Option Arg->Option (Option Int)
 |none=>some none
 |some x=>match st.ev x with
  |some v=>match v.int with
   |some (k,_)=>some (some k)
   |none=>none
  |none=>none
def uu (xs:List α):Option Int->Option Int->List α
 |none,none=>xs
 |some l,none=>xs.drop l.toNat
 |none,some h=>xs.take h.toNat
 |some l,some h=>(xs.drop l.toNat).take (h.toNat - l.toNat)
def jK (len:Int):Option Int->Option Int->List Prop
 |none,none=>[]
 |some l,none=>[0<=l/\l<=len]
 |none,some h=>[0<=h/\h<=len]
 |some l,some h=>[0<=l/\l<=h/\h<=len]
def lQ (st:SS τ dn) (m:Option Nat):SV τ dn->Option (SR τ dn)
 | .pim cs o=>(jI cs o m).map (.val [])
 | .ref nm sz i o=>match st.gm nm with
  |some (.bl ty xs)=>if D.sz ty=sz then (jI (D.es ty (gd (D.df ty) xs i)) o m).map (.val [i<xs.length]) else none
  |some (.bc q els)=>if q=sz then (match els[i]? with
   |some cs=>(jI cs o m).map (.val [])
   |none=>none) else none
  |_=>none
 |_=>none
def qH (st:SS τ dn) (n:Nat) (a y:SV τ dn):Option (SR τ dn):=
 if y.cells.length=n/\y.fK=true/\y.cells.all SV.one=true then match a with
 | .ref nm sz i o=>if o+n<=sz/\st.rw nm=true then (match st.gm nm with
  |some (.bl ty xs)=>if D.sz ty=sz/\D.lO ty (kH (D.es ty (gd (D.df ty) xs i)) o y.cells)=true then (match D.ds ty (kH (D.es ty (gd (D.df ty) xs i)) o y.cells) with
   |some z=>some (.put [i<xs.length] (.vo undef) nm (.bl ty (xs.set i z)))
   |none=>none) else none
  |some (.bc q els)=>if q=sz then (match els[i]? with
   |some cs=>some (.put [] (.vo undef) nm (.bc q (els.set i (kH cs o y.cells))))
   |none=>none) else none
  |_=>none) else none
 |_=>none
 else none
def oI (st:SS τ dn) (sz:Nat) (a:SV τ dn) (x:Int) (lit:Bool):Option (SR τ dn):=
 match a with
 | .vl ty xs=>if D.sz ty=sz then some (.val [0<=x/\x<xs.length] (.pim (D.es ty (gd (D.df ty) xs x.toNat)) 0)) else none
 | .vc q els=>bif lit then (if q=sz/\0<=x then (els[x.toNat]?).map fun cs=> .val [] (.pim cs 0) else none) else none
 | .own nm q=>if q=sz then (match st.gm nm with
  |some (.bl _ xs)=>some (.val [0<=x/\x<xs.length] (.ref nm sz x.toNat 0))
  |some (.bc _ els)=>bif lit then (if 0<=x/\x<els.length then some (.val [] (.ref nm sz x.toNat 0)) else none) else some (.val [0<=x/\x<els.length] (.ref nm sz x.toNat 0))
  |_=>none) else none
 | .part nm q off len=>if q=sz then (st.gm nm).map fun _=> .val [0<=x/\x<len] (.ref nm sz (off+x.toNat) 0) else none
 |_=>none
def oJ (st:SS τ dn):Bool->SV τ dn->Option (SR τ dn)
 |true, .vz s=>some (.val [] (.vi (s.size:Int)))
 |false, .vl _ xs=>some (.val [] (.vi (xs.length:Int)))
 |false, .vc _ els=>some (.val [] (.vn (els.length:Int)))
 |false, .emp=>some (.val [] (.vn 0))
 |false, .own nm _=>(st.gm nm).map fun B=> .val [] B.yH
 |false, .part nm _ _ n=>(st.gm nm).map fun _=> .val [] (.vi (n:Int))
 |_,_=>none
def oK (st:SS τ dn):NK->Bool->SV τ dn->Option (SR τ dn)
 | .fn,neg, .fn _ _=>some (.val [] (.vt neg))
 | .fn,neg, .bf _ _=>some (.val [] (.vt neg))
 | .fn,neg, .vo .nilFunc=>some (.val [] (.vt !neg))
 | .pt,neg, .ref nm _ _ _=>(st.gm nm).map fun _=> .val [] (.vt neg)
 | .pt,neg, .pim _ _=>some (.val [] (.vt neg))
 | .pt,neg, .vo (.pointer none)=>some (.val [] (.vt !neg))
 | .sl,neg, .vl _ xs=>some (.val [xs≠[]] (.vt neg))
 |_,_,_=>none
def oL (st:SS τ dn) (sz:Nat) (a:SV τ dn) (lo hi:Option Int):Option (SR τ dn):=
 match a with
 | .vl ty xs=>if D.sz ty=sz then some (.val (jK xs.length lo hi) (.vl ty (uu xs lo hi))) else none
 | .emp=>match lo,hi with
  |none,none=>some (.val [] .emp)
  |_,_=>none
 | .own nm q=>if q=sz then (match lo,hi with
  |none,none=>(st.gm nm).map fun _=> .val [] (.own nm q)
  |_,_=>(st.gm nm).map fun B=> .val (jK B.len lo hi) (.part nm sz (lo.getD 0).toNat ((hi.getD B.len).toNat - (lo.getD 0).toNat))) else none
 |_=>none
def qI (st:SS τ dn) (sz bytes:Nat) (s x:SV τ dn):Option (SR τ dn):=
 match st.cont D sz x with
 |some ys=>match s with
  | .emp=>some (.new [ys.len*bytes<=140737488355328] (.own st.nx sz) (ys.iW sz))
  | .own nm q=>if q=sz/\st.rw nm=true then (match st.gm nm with
   |some B=>if B.sz D=sz then (lP D sz B ys).map fun B'=> .mov [(B.len+ys.len)*bytes<=140737488355328] (.own st.nx sz) nm B' else none
   |none=>none) else none
  |_=>none
 |none=>none
def Gg (bytes:Nat):List AV->Nat
 | .v (.bool _)::_=>1000+bytes
 |_=>bytes
def oM:List (List (SV τ dn))->Option (List UInt8)
 |[]=>some []
 |[.vy b]::r=>match oM r with
  |some l=>some (b::l)
  |none=>none
 |_=>none
def oN (st:SS τ dn) (v:SV τ dn):Option (SR τ dn):=match st.cont D 1 v with
 |some (.ty t xs)=>match D.bt t with
  |some p=>some (.val [] (.vz ⟨(xs.map p.1).toArray⟩))
  |none=>none
 |some (.li els)=>match oM els with
  |some l=>some (.val [] (.vz ⟨l.toArray⟩))
  |none=>none
 |none=>none
def oO (st:SS τ dn) (s:ByteArray):Option (SR τ dn):=match D.hint 1 1 with
 |some t=>match D.bt t with
  |some p=>if D.sz t=1 then some (.new [s.size<=140737488355328] (.own st.nx 1) (.bl t (s.data.toList.map p.2))) else none
  |none=>none
 |none=>none
def oP (st:SS τ dn) (sz bytes:Nat) (zs:List AV) (l c:Int):Option (SR τ dn):=
 match D.hint sz (Gg bytes zs),iq zs with
 |some ty,some cs=>if D.sz ty=sz/\D.lO ty cs=true then (match D.ds ty cs with
  |some z=>some (.new [0<=l/\l<=c/\c*bytes<=140737488355328] (.own st.nx sz) (.bl ty (List.replicate l.toNat z)))
  |none=>none) else none
 |_,_=>none
def qJ (st:SS τ dn) (sz:Nat) (x y:SV τ dn):Option (SR τ dn):=
 match x,st.cont D sz y with
 | .own nm q,some (.ty ty ys)=>if q=sz/\st.rw nm=true then (match st.gm nm with
  |some (.bl kJ xs)=>if h:ty=kJ then (if D.sz kJ=sz then some (.put [] (.vi ((min ys.length xs.length:Nat):Int)) nm (.bl kJ (((h▸ys):List (dn kJ)).take xs.length++xs.drop (min ys.length xs.length)))) else none) else none
  |_=>none) else none
 |_,_=>none
def SV.key:SV τ dn->Option Value
 | .vn x=>some (.int .i64 x)
 | .vt b=>some (.bool b)
 | .vz s=>some (.string s)
 |_=>none
def jL (kd:LK) (k:Value):List (List (SV τ dn))->Option (Option (SV τ dn))
 |[]=>some none
 |[kv,x]::r=>match kv.key with
  |some k'=>match keyEq kd k k' with
   |some true=>some (some x)
   |some false=>jL kd k r
   |none=>none
  |none=>none
 |_=>none
def jM:List (List (SV τ dn))->Option (List (Int×Int))
 |[]=>some []
 |[.vn k,x]::r=>match x.int,jM r with
  |some (v,_),some l=>some ((k,v)::l)
  |_,_=>none
 |_=>none
def qK (z x:Int):List (Int×Int)->Int
 |[]=>z
 |(k,v)::r=>if x=k then v else qK z x r
def qL (st:SS τ dn) (kd:LK) (x k y:SV τ dn):Option (SR τ dn):=
 match x,k.key with
 | .mp nm,some key=>match st.gm nm with
  |some (.mc els)=>bif st.rw nm&&plainV key then (match jL kd key els with
   |some none=>some (.put [] (.vo undef) nm (.mc (els++[[k,y]])))
   |_=>none) else none
  |_=>none
 |_,_=>none
def qM (st:SS τ dn) (kd:LK) (z:AV) (x k:SV τ dn):Option (SR τ dn):=
 match x,im z with
 | .mp nm,some zs=>match st.gm nm with
  |some (.mc els)=>match k with
   | .vi n=>match kd,jM els,zs.int with
    | .int,some l,some (zi,_)=>some (.val [] (.vi (qK zi n l)))
    |_,_,_=>none
   |k=>match k.key with
    |some key=>(jL kd key els).map fun r=> .val [] (r.getD zs)
    |none=>none
  |_=>none
 |_,_=>none
def sx (st:SS τ dn):AO->Option (SR τ dn)
 | .mov x=>(st.ev x).map (.val [])
 | .new zs=>(iq zs).map fun cs=> .new [] (.ref st.nx zs.length 0 0) (.bc zs.length [cs])
 | .box n x=>match st.ev x with
  |some v=>if v.cells.length=n/\v.fK=true/\v.cells.all SV.one=true then some (.new [] (.ref st.nx n 0 0) (.bc n [v.cells])) else none
  |none=>none
 | .agg zs parts=>match iq zs with
  |some cs=>(oG st cs parts).map fun cs=> .val [] (.agg cs)
  |none=>none
 | .bsl sz ln zs parts=>match iq zs with
  |some cs=>(kI st sz (List.replicate ln cs) parts).map fun els=> .new [] (.own st.nx sz) (.bc sz els)
  |none=>none
 | .load m x=>(st.ev x).bind (lQ D st m)
 | .store n x y=>match st.ev x,st.ev y with
  |some a,some b=>qH D st n a b
  |_,_=>none
 | .nilc x=>match st.ev x with
  |some (.ref nm sz i o)=>(st.gm nm).map fun _=> .val [] (.ref nm sz i o)
  |some (.pim cs o)=>some (.val [] (.pim cs o))
  |_=>none
 | .bin bt op x y=>match st.ev x,st.ev y with
  |some a,some b=>oD D.neg bt op a b
  |_,_=>none
 | .un op x=>(st.ev x).bind (oE op)
 | .conv k x=>(st.ev x).bind (oF k)
 | .fad off x=>match st.ev x with
  |some (.ref nm sz i o)=>(st.gm nm).map fun _=> .val [] (.ref nm sz i (o+off))
  |some (.pim cs o)=>some (.val [] (.pim cs (o+off)))
  |_=>none
 | .fld off m x=>match st.ev x with
  |some (.agg cs)=>(jI cs off m).map (.val [])
  |_=>none
 | .iad sz x i=>match st.ev x,st.ev i with
  |some a,some b=>match b.int with
   |some (k,lit)=>oI D st sz a k lit
   |none=>none
  |_,_=>none
 | .iap sz ln x i=>match st.ev x,st.ev i with
  |some (.ref nm s e o),some (.vn k)=>if 0<=k/\k<ln/\(st.gm nm).isSome=true then some (.val [] (.ref nm s e (o+k.toNat*sz))) else none
  |some (.pim cs o),some (.vn k)=>if 0<=k/\k<ln then some (.val [] (.pim cs (o+k.toNat*sz))) else none
  |_,_=>none
 | .ixa sz ln m x i=>match st.ev x,st.ev i with
  |some (.agg cs),some (.vn k)=>if 0<=k/\k<ln then (jI cs (k.toNat*sz) m).map (.val []) else none
  |_,_=>none
 | .mkm=>some (.new [] (.mp st.nx) (.mc []))
 | .mup kd x k y=>match st.ev x,st.ev k,st.ev y with
  |some a,some b,some c=>qL st kd a b c
  |_,_,_=>none
 | .mlk kd z x k=>match st.ev x,st.ev k with
  |some a,some b=>qM st kd z a b
  |_,_=>none
 | .ext i x=>match st.ev x with
  |some (.aG vs)=>(vs[i]?).map (.val [])
  |_=>none
 | .len s x=>(st.ev x).bind (oJ st s)
 | .isn kd neg x=>(st.ev x).bind (oK st kd neg)
 | .mnx mx x y=>match st.ev x,st.ev y with
  |some a,some b=>match a.int,b.int with
   |some (x,_),some (y,_)=>some (.val [] (.vi (if mx then max x y else min x y)))
   |_,_=>none
  |_,_=>none
 | .eqs neg n L x y=>match st.ev x,st.ev y with
  |some (.agg cs),some (.agg ds)=>if cs.length=n/\ds.length=n then (match oH cs ds L with
   |some v=>(if neg then oz v else some v).map (.val [])
   |none=>none) else none
  |_,_=>none
 | .msl sz bytes zs l c=>match st.ev l,st.ev c with
  |some a,some b=>match a.int,b.int with
   |some (x,_),some (y,_)=>oP D st sz bytes zs x y
   |_,_=>none
  |_,_=>none
 | .slc sz x lo hi none=>match st.ev x,jJ st lo,jJ st hi with
  |some a,some l,some h=>oL D st sz a l h
  |_,_,_=>none
 | .sls x lo hi=>match st.ev x,jJ st lo,jJ st hi with
  |some (.vz s),some l,some h=>some (.val (jK s.size l h) (.vz (s.extract (l.getD 0).toNat (h.getD s.size).toNat)))
  |_,_,_=>none
 | .six x i=>match st.ev x,st.ev i with
  |some (.vz s),some b=>match b.int with
   |some (k,_)=>some (.val [0<=k/\k<s.size] (.vy (gb s k.toNat)))
   |none=>match b with
    | .vw _ k=>some (.val [0<=k/\k<s.size] (.vy (gb s k.toNat)))
    | .vy y=>some (.val [y.toNat<s.size] (.vy (gb s y.toNat)))
    |_=>none
  |_,_=>none
 | .b2s x=>match st.ev x with
  |some v=>oN D st v
  |none=>none
 | .s2b x=>match st.ev x with
  |some (.vz s)=>oO D st s
  |_=>none
 | .app sz bytes s x=>match st.ev s,st.ev x with
  |some a,some b=>qI D st sz bytes a b
  |_,_=>none
 | .cpy sz x y=>match st.ev x,st.ev y with
  |some a,some b=>qJ D st sz a b
  |_,_=>none
 | .mkf f caps=>(caps.mapM st.ev).map fun cs=> .val [] (.fn f cs)
 | .mkb f caps=>(caps.mapM st.ev).map fun cs=> .val [] (.bf f cs)
 |_=>none
end
open Go.RowKit
section
variable {τ:Type} {dn:τ->Type} (E:TE τ dn) (N:au)
theorem qN {x:Value} {v:SV τ dn} (h:mM x=some v):v.av E N= .v x:=by
 unfold mM at h
 split at h<;>first
  |(simp only [KJ] at h;subst h;rfl)
  |skip
 ·split at h
  ·rename_i k hk
   simp only [KJ] at h;subst h
   have e:(UInt8.ofNat k.toNat).toNat=k.toNat%256:=UInt8.toNat_ofNat ..
   simp only [SV.av,e]
   congr 2;omega
  ·simp at h
 ·split at h
  ·rename_i k hk
   simp only [KJ] at h;subst h
   have e:(uN k.toNat).n=k.toNat:=uh (by omega)
   simp only [SV.av,e]
   congr 2;omega
  ·simp at h
 ·split at h
  ·rename_i vs hk
   simp only [KJ] at h;subst h
   simp only [SV.av,undef]
   congr 2
   simpa using hk.symm
  ·simp at h
 ·simp at h
mutual
theorem uv:∀{a:AV} {v:SV τ dn},im a=some v->v.av E N=a
 | .v x,v,h=>by simp only [im] at h;exact qN E N h
 | .agg cs,v,h=>by
  simp only [im,KR] at h
  obtain ⟨l,hl,rfl⟩:=h
  simp only [SV.av,kK hl]
 | .emp,v,h=>by simp only [im,KJ] at h;subst h;rfl
 | .fn f cs,v,h=>by
  simp only [im,KR] at h
  obtain ⟨l,hl,rfl⟩:=h
  simp only [SV.av,kK hl]
 | .pim cs o,v,h=>by
  simp only [im,KR] at h
  obtain ⟨l,hl,rfl⟩:=h
  simp only [SV.av,kK hl]
 | .dead,v,h=>by simp only [im,KJ] at h;subst h;rfl
 | .aG _,v,h| .aN _ _,v,h| .cy _ _,v,h| .ref _ _ _ _,v,h| .own _ _ _ _,v,h| .bf _ _,v,h| .dY _ _,v,h| .mp _,v,h| .dq,v,h=>by simp [im] at h
theorem kK:∀{as_:List AV} {l:List (SV τ dn)},iq as_=some l->SV.b6 E N l=as_
 |[],l,h=>by simp only [iq,KJ] at h;subst h;rfl
 |a::r,l,h=>by
  simp only [iq] at h
  split at h
  ·rename_i v l' h1 h2
   simp only [KJ] at h;subst h
   simp only [SV.b6,uv h1,kK h2]
  ·simp at h
end
end
section
variable {τ:Type} {dn:τ->Type} {D:TD τ dn} {N:au} {st:SS τ dn} {σ:Nat->AV} {g:Nat->Option Bk}
def SS.bd (st:SS τ dn) (nm:Nat) (B:SB τ dn):Prop:=getS st.m nm=some (some B)\/getS st.rm nm=some (some B)
theorem fF {st:SS τ dn} {B:SB τ dn} (h:st.gm nm=some B):st.bd nm B:=by
 unfold SS.gm at h
 split at h
 ·rename_i b hb;subst h;exact .inl hb
 ·rw [Option.join_eq_some_iff] at h;exact .inr h
structure aS (D:TD τ dn) (N:au) (st:SS τ dn) (σ:Nat->AV) (g:Nat->Option Bk):Prop where
 sl:∀i v,getS st.t i=some v->σ i=v.av D.toTE N
 rs:∀i v,getS st.rt i=some v->σ i=v.av D.toTE N
 bl:∀nm B,getS st.m nm=some (some B)->g (N.ι nm)=some (B.av D.toTE N)/\N.ln nm=B.len
 rb:∀nm B,getS st.rm nm=some (some B)->g (N.ι nm)=some (B.av D.toTE N)/\N.ln nm=B.len
 ar:∀t A,st.bd 0 (.ar t A)->∀id,dj A id->g id=some ⟨D.sz t,(eQ A id).map (D.ea N.ρ t)⟩
theorem aS.gt (R:aS D N st σ g) {i:Nat} {v:SV τ dn} (h:st.gt i=some v):σ i=v.av D.toTE N:=by
 unfold SS.gt at h
 split at h
 ·rename_i w hw;simp only [KJ] at h;subst h;exact R.sl i _ hw
 ·exact R.rs i v h
theorem aS.gm (R:aS D N st σ g) {nm:Nat} {B:SB τ dn} (h:st.gm nm=some B):g (N.ι nm)=some (B.av D.toTE N)/\N.ln nm=B.len:=by
 unfold SS.gm at h
 split at h
 ·rename_i b hb;subst h;exact R.bl nm B hb
 ·rw [Option.join_eq_some_iff] at h;exact R.rb nm B h
theorem aS.ev (R:aS D N st σ g) {a:Arg} {v:SV τ dn} (h:st.ev a=some v):aD σ a=v.av D.toTE N:=by
 cases a with
 |s i=>exact R.gt h
 |c a=>exact (uv _ _ h).symm
def SR.O:SR τ dn->List Prop
 | .val O _| .new O _ _| .put O _ _ _| .mov O _ _ _| .fa O _ _| .dW O _ _ _ _ _=>O
def SR.v:SR τ dn->SV τ dn
 | .val _ v| .new _ v _| .put _ v _ _| .mov _ v _ _| .fa _ v _| .dW _ v _ _ _ _=>v
def SR.ups (D:TD τ dn) (N:au) (k:Nat):SR τ dn->List (Nat×Option Bk)
 | .val _ _=>[]
 | .new _ _ B=>[(k,some (B.av D.toTE N))]
 | .put _ _ nm B=>[(N.ι nm,some (B.av D.toTE N))]
 | .mov _ _ aJ B=>[(N.ι aJ,none),(k,some (B.av D.toTE N))]
 | .fa _ _ ns=>(ns.map N.ι).map fun i=>(i,none)
 | .dW _ _ id t row _=>[(id,some ⟨D.sz t,row.map (D.ea N.ρ t)⟩)]
def SR.fresh (N:au) (nx k:Nat):SR τ dn->Prop
 | .new _ _ B| .mov _ _ _ B=>N.ι nx=k/\N.ln nx=B.len
 |_=>True
def SR.Good (D:TD τ dn) (N:au) (nx:Nat) (σ:Nat->AV) (g:Nat->Option Bk) (ao:AO) (r:SR τ dn):Prop:=
 ∀k,(∀p,p∈r.O->p)->r.fresh N nx k->(ao.af k (aD σ)).run g=some (.done (r.v.av D.toTE N) (r.ups D N k))
theorem qO {a:SV τ dn} {x:Value} (h:a.lit=some x):a.av D.toTE N= .v x:=by
 cases a<;>simp [SV.lit] at h<;>subst h<;>rfl
theorem dX {a:SV τ dn} {x:Int} (h:a.int=some (x,l)):a.av D.toTE N= .v (.int .i64 x):=by
 cases a<;>simp [SV.int] at h<;>obtain ⟨rfl,_⟩:=h<;>rfl
theorem yI {bt:Bool} {a b v:SV τ dn} (h:oA bt op a b=some v):∃x y w,a.av D.toTE N= .v x/\b.av D.toTE N= .v y/\binA bt op x y=some w/\v.av D.toTE N= .v w:=by
 unfold oA at h
 split at h
 ·rename_i x y h1 h2
  split at h
  ·rename_i w h3
   exact ⟨x,y,w,qO h1,qO h2,h3,qN _ _ h⟩
  ·simp at h
 ·simp at h
def oQ (D:TD τ dn) (N:au) (bt:Bool) (op:BinOp) (a b:SV τ dn) (r:SR τ dn):Prop:=
 (∀p,p∈r.O->p)->∃O v x y w,r= .val O v/\a.av D.toTE N= .v x/\b.av D.toTE N= .v y/\binA bt op x y=some w/\v.av D.toTE N= .v w
theorem Gh {bt:Bool} {a b:SV τ dn} {x y:Int} {l':Bool} (ha:a.int=some (x,l)) (hb:b.int=some (y,l')) {r:SR τ dn} (h:oB neg op x y=some r):oQ D N bt op a b r:=by
 have h1:=dX (D:=D) (N:=N) ha
 have h2:=dX (D:=D) (N:=N) hb
 intro hO
 have key:∀O v,r= .val O v->(∃w,binA bt op (.int .i64 x) (.int .i64 y)=some w/\v.av D.toTE N= .v w)->∃O v x y w,r= .val O v/\a.av D.toTE N= .v x/\b.av D.toTE N= .v y/\binA bt op x y=some w/\v.av D.toTE N= .v w:=
  fun O v hr ⟨w,fR,hw2⟩=>⟨O,v,_,_,w,hr,h1,h2,fR,hw2⟩
 cases op<;>simp only [oB,KJ,reduceCtorEq] at h
 case add=>subst h;exact key _ _ rfl ⟨_,rfl,by simp only [SR.O,KT,K2] at hO;rw [hO.wr];rfl⟩
 case sub=>subst h;exact key _ _ rfl ⟨_,rfl,by simp only [SR.O,KT,K2] at hO;rw [hO.wr];rfl⟩
 case mul=>subst h;exact key _ _ rfl ⟨_,rfl,by simp only [SR.O,KT,K2] at hO;rw [hO.wr];rfl⟩
 case quo=>
  cases neg with
  |true=>
   simp only [KP,KJ] at h;subst h
   simp only [SR.O,KU,LO,or_false,Mi,K2] at hO
   exact key _ _ rfl ⟨_,by simp only [binA,KN];rw [KK hO.1],by rw [hO.2.wr];rfl⟩
  |false=>
   simp only [K4,KJ] at h;subst h
   simp only [SR.O,KT,K2] at hO
   exact key _ _ rfl ⟨_,by simp only [binA,KN];rw [KK (by omega)],by rw [Ge hO];rfl⟩
 case rem=>
  cases neg with
  |true=>
   simp only [KP,KJ] at h;subst h
   simp only [SR.O,KT,K2] at hO
   exact key _ _ rfl ⟨_,by simp only [binA,KN];rw [KK hO],rfl⟩
  |false=>
   simp only [K4,KJ] at h;subst h
   simp only [SR.O,KT,K2] at hO
   exact key _ _ rfl ⟨_,by simp only [binA,KN];rw [KK hO.2],by rw [Gf hO.1];rfl⟩
 case and=>subst h;simp only [SR.O,KT,K2] at hO;exact key _ _ rfl ⟨_,rfl,by rw [uj _ _ _ hO.1 hO.2.1 hO.2.2.1 hO.2.2.2];rfl⟩
 case or=>subst h;simp only [SR.O,KT,K2] at hO;exact key _ _ rfl ⟨_,rfl,by rw [uj _ _ _ hO.1 hO.2.1 hO.2.2.1 hO.2.2.2];rfl⟩
 case xor=>subst h;simp only [SR.O,KT,K2] at hO;exact key _ _ rfl ⟨_,rfl,by rw [uj _ _ _ hO.1 hO.2.1 hO.2.2.1 hO.2.2.2];rfl⟩
 case shl=>subst h;simp only [SR.O,KT,K2] at hO;exact key _ _ rfl ⟨_,by simp only [binA];rw [KK (by omega)],by rw [Gb _ _ hO.2];rfl⟩
 case shr=>subst h;simp only [SR.O,KT,K2] at hO;exact key _ _ rfl ⟨_,by simp only [binA];rw [KK (by omega)],by rw [Gc _ _ (by omega)];rfl⟩
 case eql=>subst h;exact key _ _ rfl ⟨_,rfl,rfl⟩
 case neq=>subst h;exact key _ _ rfl ⟨_,rfl,rfl⟩
 case lss=>subst h;exact key _ _ rfl ⟨_,rfl,rfl⟩
 case leq=>subst h;exact key _ _ rfl ⟨_,rfl,rfl⟩
 case gtr=>subst h;exact key _ _ rfl ⟨_,rfl,rfl⟩
 case geq=>subst h;exact key _ _ rfl ⟨_,rfl,rfl⟩
theorem Gi {bt:Bool} {x y:UInt8} {v:SV τ dn} (h:oY op x y=some v):oQ D N bt op (.vy x) (.vy y) (.val [] v):=by
 intro _
 have key:(∃w,binA bt op (.int .u8 (x.toNat:Int)) (.int .u8 (y.toNat:Int))=some w/\v.av D.toTE N= .v w)->∃O v' x' y' w,(SR.val [] v:SR τ dn)= .val O v'/\(SV.vy x:SV τ dn).av D.toTE N= .v x'/\(SV.vy y:SV τ dn).av D.toTE N= .v y'/\binA bt op x' y'=some w/\v'.av D.toTE N= .v w:=
  fun ⟨w,h1,h2⟩=>⟨_,_,_,_,w,rfl,rfl,rfl,h1,h2⟩
 refine key ?_
 cases op<;>simp only [oY,KJ,reduceCtorEq] at h<;>subst h
 case add=>exact ⟨_,rfl,by rw [F2];rfl⟩
 case sub=>exact ⟨_,rfl,by rw [F4];rfl⟩
 case mul=>exact ⟨_,rfl,by rw [F5];rfl⟩
 case and=>exact ⟨_,rfl,by rw [um];rfl⟩
 case or=>exact ⟨_,rfl,by rw [um];rfl⟩
 case xor=>exact ⟨_,rfl,by rw [um];rfl⟩
 case eql=>exact ⟨_,rfl,by simp only [SV.av,Cn.den];congr 2;rw [MA];simp [<-UInt8.toNat_inj];omega⟩
 case neq=>exact ⟨_,rfl,by simp only [SV.av,Cn.den];congr 2;rw [MA];simp [<-UInt8.toNat_inj];omega⟩
 case lss=>exact ⟨_,rfl,by simp only [SV.av,Cn.den];congr 2;rw [MA];simp [UInt8.lt_iff_toNat_lt]⟩
 case leq=>exact ⟨_,rfl,by simp only [SV.av,Cn.den];congr 2;rw [MA];simp [UInt8.le_iff_toNat_le]⟩
 case gtr=>exact ⟨_,rfl,by simp only [SV.av,Cn.den];congr 2;rw [MA];simp [UInt8.lt_iff_toNat_lt]⟩
 case geq=>exact ⟨_,rfl,by simp only [SV.av,Cn.den];congr 2;rw [MA];simp [UInt8.le_iff_toNat_le]⟩
theorem Gj {bt:Bool} {x y:dM} {v:SV τ dn} (h:oU op x y=some v):oQ D N bt op (.vu x) (.vu y) (.val [] v):=by
 intro _
 have key:(∃w,binA bt op (.int .u64 (x.n:Int)) (.int .u64 (y.n:Int))=some w/\v.av D.toTE N= .v w)->∃O v' x' y' w,(SR.val [] v:SR τ dn)= .val O v'/\(SV.vu x:SV τ dn).av D.toTE N= .v x'/\(SV.vu y:SV τ dn).av D.toTE N= .v y'/\binA bt op x' y'=some w/\v'.av D.toTE N= .v w:=
  fun ⟨w,h1,h2⟩=>⟨_,_,_,_,w,rfl,rfl,rfl,h1,h2⟩
 refine key ?_
 cases op<;>simp only [oU,KJ,reduceCtorEq] at h<;>subst h
 case add=>exact ⟨_,rfl,by rw [F6];rfl⟩
 case sub=>exact ⟨_,rfl,by rw [F7];rfl⟩
 case mul=>exact ⟨_,rfl,by rw [Ga];rfl⟩
 case and=>exact ⟨_,rfl,by rw [ou];rfl⟩
 case or=>exact ⟨_,rfl,by rw [ou];rfl⟩
 case xor=>exact ⟨_,rfl,by rw [ou];rfl⟩
 case andNot=>exact ⟨_,rfl,by rw [ou];rfl⟩
 all_goals exact ⟨_,rfl,rfl⟩
theorem Gk {bt:Bool} {x y:ByteArray} {r:SR τ dn} (h:oZ op x y=some r):oQ D N bt op (.vz x) (.vz y) r:=by
 intro hO
 cases op<;>simp only [oZ,KJ,reduceCtorEq] at h<;>subst h
 case add=>
  simp only [SR.O,KT,K2] at hO
  exact ⟨_,_,_,_,_,rfl,rfl,rfl,by simp only [binA];rw [KK (by rw [show IntKind.i64.max=9223372036854775807 from rfl];omega)],rfl⟩
 all_goals exact ⟨_,_,_,_,_,rfl,rfl,rfl,rfl,rfl⟩
theorem uw {a b v:SV τ dn} (h:oC a b=some v):∃x y,a.av D.toTE N= .v (.bool x)/\b.av D.toTE N= .v (.bool y)/\v.av D.toTE N= .v (.bool (x==y)):=by
 unfold oC at h
 split at h<;>simp only [KJ,reduceCtorEq] at h<;>subst h
 ·rename_i c b;exact ⟨_,_,rfl,rfl,by cases b<;>simp [SV.av,Cn.den]⟩
 ·rename_i b c;exact ⟨_,_,rfl,rfl,by cases b<;>simp [SV.av,Cn.den]<;>cases c.den<;>rfl⟩
 ·exact ⟨_,_,rfl,rfl,rfl⟩
theorem ux {a v:SV τ dn} (h:oz a=some v):∃x,a.av D.toTE N= .v (.bool x)/\v.av D.toTE N= .v (.bool !x):=by
 unfold oz at h
 split at h<;>simp only [KJ,reduceCtorEq] at h<;>subst h
 ·exact ⟨_,rfl,rfl⟩
 ·exact ⟨_,rfl,rfl⟩
theorem Gl {bt:Bool} {a b:SV τ dn} {r:SR τ dn} (h:oD neg bt op a b=some r):oQ D N bt op a b r:=by
 unfold oD at h
 split at h
 ·rename_i v hv
  simp only [KJ] at h;subst h
  intro _
  obtain ⟨x,y,w,h1,h2,h3,h4⟩:=yI (D:=D) (N:=N) hv
  exact ⟨_,_,_,_,_,rfl,h1,h2,h3,h4⟩
 ·split at h
  ·rename_i ha hb;exact Gh ha hb h
  ·split at h
   ·simp only [KR] at h;obtain ⟨v,hv,rfl⟩:=h;exact Gi hv
   ·simp only [KR] at h;obtain ⟨v,hv,rfl⟩:=h;exact Gj hv
   ·exact Gk h
   ·split at h<;>simp only [KJ,reduceCtorEq] at h<;>subst h<;>intro hO<;>simp only [SR.O,KT,K2] at hO
    ·exact ⟨_,_,_,_,_,rfl,rfl,rfl,by simp only [binA];rw [KK (by omega)],by rw [yC];rfl⟩
    ·exact ⟨_,_,_,_,_,rfl,rfl,rfl,by simp only [binA];rw [KK (by omega)],by rw [yD];rfl⟩
   ·split at h<;>simp only [KJ,reduceCtorEq] at h<;>subst h<;>intro hO<;>simp only [SR.O,KT,K2] at hO
    ·exact ⟨_,_,_,_,_,rfl,rfl,rfl,by simp only [binA];rw [KK (by omega)],by rw [yC];rfl⟩
    ·exact ⟨_,_,_,_,_,rfl,rfl,rfl,by simp only [binA];rw [KK (by omega)],by rw [yD];rfl⟩
   ·split at h<;>simp only [KJ,reduceCtorEq] at h<;>subst h<;>intro hO<;>simp only [SR.O,KT,K2] at hO
    ·exact ⟨_,_,_,_,_,rfl,rfl,rfl,by simp only [binA];rw [KK (by omega)],by rw [yE];rfl⟩
    ·exact ⟨_,_,_,_,_,rfl,rfl,rfl,by simp only [binA];rw [KK (by omega)],by rw [yF];rfl⟩
   ·split at h<;>simp only [KJ,reduceCtorEq] at h<;>subst h<;>intro hO<;>simp only [SR.O,KT,K2] at hO
    ·exact ⟨_,_,_,_,_,rfl,rfl,rfl,by simp only [binA];rw [KK (by omega)],by rw [yE];rfl⟩
    ·exact ⟨_,_,_,_,_,rfl,rfl,rfl,by simp only [binA];rw [KK (by omega)],by rw [yF];rfl⟩
   ·split at h
    ·rename_i hq
     subst hq
     split at h<;>simp only [KJ,reduceCtorEq] at h<;>subst h<;>intro _<;>exact ⟨_,_,_,_,_,rfl,rfl,rfl,by simp only [binA,KN]<;>rfl,rfl⟩
    ·simp at h
   ·split at h<;>simp only [KJ,reduceCtorEq] at h<;>subst h<;>intro hO<;>simp only [SR.O,KT,K2] at hO
    ·exact ⟨_,_,_,_,_,rfl,rfl,rfl,by simp only [binA];rw [KK (by omega)],rfl⟩
    ·exact ⟨_,_,_,_,_,rfl,rfl,rfl,by simp only [binA];rw [KK (by omega)],rfl⟩
   ·split at h<;>simp only [KJ,reduceCtorEq] at h<;>subst h<;>intro hO<;>simp only [SR.O,KT,K2] at hO
    ·exact ⟨_,_,_,_,_,rfl,rfl,rfl,by simp only [binA];rw [KK (by omega)],rfl⟩
    ·exact ⟨_,_,_,_,_,rfl,rfl,rfl,by simp only [binA];rw [KK (by omega)],rfl⟩
   ·split at h<;>simp only [KJ,reduceCtorEq] at h<;>subst h<;>intro _
    ·exact ⟨_,_,_,_,_,rfl,rfl,rfl,by simp only [binA];rw [KK (by omega)],by rw [Md];rfl⟩
    ·exact ⟨_,_,_,_,_,rfl,rfl,rfl,by simp only [binA];rw [KK (by omega)],by rw [Md];rfl⟩
   ·split at h
    ·rename_i Gm
     subst Gm
     split at h
     ·simp only [KR] at h;obtain ⟨v,hv,rfl⟩:=h
      obtain ⟨x,y,h1,h2,h3⟩:=uw (D:=D) (N:=N) hv
      intro _;exact ⟨_,_,_,_,_,rfl,h1,h2,rfl,h3⟩
     ·simp only [KR,Mj] at h;obtain ⟨v,⟨w,hw,hv⟩,rfl⟩:=h
      obtain ⟨x,y,h1,h2,h3⟩:=uw (D:=D) (N:=N) hw
      obtain ⟨z,h4,h5⟩:=ux (D:=D) (N:=N) hv
      rw [h3] at h4;simp only [AV.v.injEq,Value.bool.injEq] at h4;subst h4
      intro _;exact ⟨_,_,_,_,_,rfl,h1,h2,rfl,h5⟩
     ·simp at h
    ·simp at h
theorem Gn {op:UnOp} {a:SV τ dn} {r:SR τ dn} (h:oE op a=some r):(∀p,p∈r.O->p)->∃O v x w,r= .val O v/\a.av D.toTE N= .v x/\unA op x=some w/\v.av D.toTE N= .v w:=by
 intro hO
 unfold oE at h
 split at h
 ·simp only [KR] at h;obtain ⟨v,hv,rfl⟩:=h
  exact ⟨_,_,_,_,rfl,rfl,rfl,qN _ _ hv⟩
 ·simp only [KJ] at h;subst h
  simp only [SR.O,KT,K2] at hO
  exact ⟨_,_,_,_,rfl,rfl,rfl,by rw [hO.wr];rfl⟩
 ·simp only [KJ] at h;subst h
  rename_i x
  refine ⟨_,_,_,_,rfl,rfl,rfl, ?_⟩
  have e:(if IntKind.u64.signed=true then (-1:Int) else IntKind.u64.max)=((uN 18446744073709551615).n:Int):=rfl
  rw [e,ou];rfl
 ·simp only [KR] at h;obtain ⟨v,hv,rfl⟩:=h
  obtain ⟨x,h1,h2⟩:=ux (D:=D) (N:=N) hv
  exact ⟨_,_,_,_,rfl,h1,rfl,h2⟩
 ·simp at h
theorem Gp {a:SV τ dn} {r:SR τ dn} (h:oF k a=some r):(∀p,p∈r.O->p)->∃O v q x,r= .val O v/\a.av D.toTE N= .v (.int q x)/\v.av D.toTE N= .v (.int k (k.wrap x)):=by
 intro hO
 unfold oF at h
 split at h<;>simp only [KR,KJ,reduceCtorEq] at h
 ·obtain ⟨v,hv,rfl⟩:=h
  exact ⟨_,_,_,_,rfl,rfl,qN _ _ hv⟩
 all_goals subst h;try simp only [SR.O,KT,K2] at hO
 ·exact ⟨_,_,_,_,rfl,rfl,by rw [hO.wr];rfl⟩
 ·rename_i x;exact ⟨_,_,_,_,rfl,rfl,by rw [cx.wr (x:=(x.toNat:Int)) (by have:=x.toNat_lt;exact ⟨by omega,by omega⟩)];rfl⟩
 ·exact ⟨_,_,_,_,rfl,rfl,by rw [hO.wr];rfl⟩
 ·exact ⟨_,_,_,_,rfl,rfl,by rw [hO.wr];rfl⟩
 ·exact ⟨_,_,_,_,rfl,rfl,by rw [uo hO];rfl⟩
 ·rename_i x;exact ⟨_,_,_,_,rfl,rfl,by rw [uo (Int.natCast_nonneg _)];rfl⟩
 ·exact ⟨_,_,_,_,rfl,rfl,by rw [uo hO];rfl⟩
 ·exact ⟨_,_,_,_,rfl,rfl,by rw [yG hO];rfl⟩
 ·rename_i x;exact ⟨_,_,_,_,rfl,rfl,by rw [yG (Int.natCast_nonneg _)];rfl⟩
 all_goals exact ⟨_,_,_,_,rfl,rfl,rfl⟩
theorem mN {cs:List (SV τ dn)} {v:SV τ dn} (h:jI cs o m=some v):getCells (cs.map (SV.av D.toTE N)) o m=some (v.av D.toTE N):=by
 cases m with
 |none=>simp only [jI] at h;simp only [getCells,Ld,h];rfl
 |some n=>
  simp only [jI] at h
  split at h
  ·rename_i hl
   simp only [KJ] at h;subst h
   simp only [getCells,K7,KL hl,SV.av,SV.ba,List.map_take,List.map_drop]
  ·simp at h
theorem qP {cs:List (SV τ dn)} {ys:List (SV τ dn)}:(kH cs o ys).map (SV.av D.toTE N)=putCells (cs.map (SV.av D.toTE N)) o (ys.map (SV.av D.toTE N)):=by
 simp only [kH,putCells,LB,List.map_take,List.map_drop,K7]
theorem qQ {cs:List (SV τ dn)} (h:cs.all SV.one=true):(cs.map (SV.av D.toTE N)).all AV.one=true:=by
 simp only [KQ,Li] at h ⊢
 rintro _ ⟨v,hv,rfl⟩
 exact SV.FU (h v hv)
theorem yJ (R:aS D N st σ g):∀{parts:List (Nat×Nat×Arg)} {cells l:List (SV τ dn)},oG st cells parts=some l->fillA (aD σ) (cells.map (SV.av D.toTE N)) parts=some (l.map (SV.av D.toTE N))
 |[],cells,l,h=>by simp only [oG,KJ] at h;subst h;rfl
 |(off,n,x)::r,cells,l,h=>by
  simp only [oG] at h
  split at h
  ·rename_i v hv
   split at h
   ·rename_i hc
    have hs:=SV.oq (E:=D.toTE) (N:=N) hc.2.2
    simp only [fillA,R.ev hv,hs,K7,hc.1,hc.2.1,SV.FV hc.2.2,K5,KN]
    rw [<-qP];exact yJ R h
   ·simp at h
  ·simp at h
theorem yK (R:aS D N st σ g) {sz:Nat}:∀{parts:List (Nat×Arg)} {els l:List (List (SV τ dn))},kI st sz els parts=some l->fillE (aD σ) sz (els.map fun cs=>cs.map (SV.av D.toTE N)) parts=some (l.map fun cs=>cs.map (SV.av D.toTE N))
 |[],els,l,h=>by simp only [kI,KJ] at h;subst h;rfl
 |(i,x)::r,els,l,h=>by
  simp only [kI] at h
  split at h
  ·rename_i v hv
   split at h
   ·rename_i hc
    have hs:=SV.oq (E:=D.toTE) (N:=N) hc.2.2.1
    simp only [fillE,R.ev hv,hs,K7,hc.1,hc.2.1,qQ hc.2.2.2,K5,KN]
    have:=yK R h
    rw [Mb] at this;exact this
   ·simp at h
  ·simp at h
theorem Gq {k:LK} {a b v:SV τ dn} (h:ur k a b=some v):∃x,v.av D.toTE N= .v (.bool x)/\iH k (a.av D.toTE N) (b.av D.toTE N)=some x:=by
 unfold ur at h
 split at h
 ·split at h
  ·rename_i v hv
   simp only [KJ] at h;subst h
   obtain ⟨x,y,w,h1,h2,h3,h4⟩:=yI (D:=D) (N:=N) hv
   rw [h1,h2]
   unfold oA at hv
   split at hv
   ·rename_i x' y' g1 g2
    rw [qO (D:=D) (N:=N) g1] at h1;rw [qO (D:=D) (N:=N) g2] at h2
    simp only [AV.v.injEq] at h1 h2;subst h1;subst h2
    clear hv
    cases a<;>simp only [SV.lit,KJ,reduceCtorEq] at g1<;>subst g1<;>cases b<;>simp only [SV.lit,KJ,reduceCtorEq] at g2<;>subst g2
    ·simp only [binA,KN,KJ] at h3;subst h3
     exact ⟨_,h4,by simp [iH]⟩
    all_goals simp [binA] at h3
   ·simp at hv
  ·split at h
   ·rename_i ha hb
    simp only [KJ] at h;subst h
    rw [dX ha,dX hb]
    exact ⟨_,rfl,by simp [iH,Cn.den]⟩
   ·split at h<;>simp only [KJ,reduceCtorEq] at h<;>subst h
    ·exact ⟨_,rfl,by simp [iH,SV.av,Cn.den]⟩
    ·refine ⟨_,rfl, ?_⟩
     simp only [iH,SV.av,Cn.den,KN,KJ]
     rw [MA];simp [<-UInt8.toNat_inj];omega
 ·simp only [KJ] at h;subst h;exact ⟨_,rfl,rfl⟩
 ·simp only [KJ] at h;subst h;exact ⟨_,rfl,rfl⟩
 ·obtain ⟨x,y,h1,h2,h3⟩:=uw (D:=D) (N:=N) h
  exact ⟨_,h3,by rw [h1,h2];rfl⟩
 ·simp at h
theorem Gr {a b v:SV τ dn} (h:uq a b=some v) {x y:Bool} (hx:a.av D.toTE N= .v (.bool x)) (hy:b.av D.toTE N= .v (.bool y)):v.av D.toTE N= .v (.bool (x&&y)):=by
 unfold uq at h
 split at h<;>simp only [KJ,reduceCtorEq] at h<;>subst h<;>simp only [SV.av,AV.v.injEq,Value.bool.injEq,Cn.den] at hx hy ⊢
 ·subst hx;rw [hy];simp
 ·subst hx;simp
 ·subst hx;simp
 ·subst hx;subst hy;simp
 ·subst hx;subst hy;simp
 ·subst hx;subst hy;rfl
theorem yL:∀{L:List (Nat×LK)} {cs ds:List (SV τ dn)} {v:SV τ dn},oH cs ds L=some v->∃x,v.av D.toTE N= .v (.bool x)/\eqA (cs.map (SV.av D.toTE N)) (ds.map (SV.av D.toTE N)) L=some x
 |[],cs,ds,v,h=>by simp only [oH,KJ] at h;subst h;exact ⟨_,rfl,rfl⟩
 |(o,k)::r,cs,ds,v,h=>by
  simp only [oH] at h
  split at h
  ·rename_i a b ha hb
   split at h
   ·rename_i x y hx hy
    obtain ⟨p,h1,h2⟩:=Gq (D:=D) (N:=N) hx
    obtain ⟨q,h3,h4⟩:=yL hy
    refine ⟨_,Gr h h1 h3, ?_⟩
    simp only [eqA,Ld,ha,hb,KV,h2,h4]
   ·simp at h
  ·simp at h
end
open Go.RowKit
section
variable {τ:Type} {dn:τ->Type} {D:TD τ dn} {N:au} {st:SS τ dn} {σ:Nat->AV} {g:Nat->Option Bk}
theorem iX (R:aS D N st σ g) {x:Option Arg} {r:Option Int} (h:jJ st x=some r) (h0:∀l,r=some l->0<=l):cE (aD σ) x=some (r.map Int.toNat):=by
 cases x with
 |none=>simp only [jJ,KJ] at h;subst h;rfl
 |some x=>
  simp only [jJ] at h
  split at h
  ·rename_i v hv
   split at h
   ·rename_i k l hk
    simp only [KJ] at h;subst h
    have:=h0 k rfl
    simp only [cE,R.ev hv,dX hk,natOf,this,KN,KV]
   ·simp at h
  ·simp at h
theorem yM (ok:aQ D) (R:aS D N st σ g) {v:SV τ dn} (hx:st.ev x=some v) {r:SR τ dn} (h:lQ D st m v=some r):r.Good D N st.nx σ g (.load m x):=by
 intro k hO hf
 unfold lQ at h
 split at h
 ·rename_i cs o
  simp only [KR] at h;obtain ⟨w,hw,rfl⟩:=h
  have:=mN (D:=D) (N:=N) hw
  simp only [AO.af,R.ev hx,SV.av,SV.ba,this,KV,RM.opt,RM.run,SR.v,SR.ups]
 ·rename_i nm sz i o
  split at h
  ·rename_i ty xs hB
   split at h
   ·rename_i hs
    simp only [KR] at h;obtain ⟨w,hw,rfl⟩:=h
    simp only [SR.O,KT,K2] at hO
    have hg:=(R.gm hB).1
    have hq:=mN (D:=D) (N:=N) hw
    rw [ok.cI] at hq
    simp only [AO.af,R.ev hx,SV.av,RM.run,hg,SB.av,hs,KN,Ld,jH (d:=D.df ty) hO,KV,L8,hq,RM.opt,SR.v,SR.ups]
   ·simp at h
  ·rename_i q els hB
   split at h
   ·rename_i hs
    split at h
    ·rename_i cs hcs
     simp only [KR] at h;obtain ⟨w,hw,rfl⟩:=h
     have hg:=(R.gm hB).1
     have hq:=mN (D:=D) (N:=N) hw
     simp only [AO.af,R.ev hx,SV.av,RM.run,hg,SB.av,hs,KN,SV.gv,Ld,hcs,KV,L8,hq,RM.opt,SR.v,SR.ups]
    ·simp at h
   ·simp at h
  ·simp at h
 ·simp at h
theorem Gs (ok:aQ D) (R:aS D N st σ g) {a b:SV τ dn} (hx:st.ev x=some a) (hy:st.ev y=some b) {r:SR τ dn} (h:qH D st n a b=some r):r.Good D N st.nx σ g (.store n x y):=by
 intro k hO hf
 unfold qH at h
 split at h
 case isFalse=>simp at h
 rename_i hc
 have bO:=SV.oq (E:=D.toTE) (N:=N) hc.2.1
 have dB:=qQ (D:=D) (N:=N) hc.2.2
 split at h
 ·rename_i nm sz i o
  split at h
  case isFalse=>simp at h
  rename_i hn
  have hle:=hn.1
  split at h
  ·rename_i ty xs hB
   split at h
   ·rename_i hs
    split at h
    ·rename_i z hz
     simp only [KJ] at h;subst h
     simp only [SR.O,KT,K2] at hO
     have hg:=(R.gm hB).1
     have he:=ok.dV N ty _ z hz hs.2
     rw [qP,ok.cI] at he
     simp only [AO.af,R.ev hx,R.ev hy,SV.av,RM.run,hg,SB.av,hs.1,bO,K7,hc.1,dB,hle,K5,KN,Ld,jH (d:=D.df ty) hO,KV,SR.v,SR.ups,he,Mb]
    ·simp at h
   ·simp at h
  ·rename_i q els hB
   split at h
   ·rename_i hs
    split at h
    ·rename_i cs hcs
     simp only [KJ] at h;subst h
     have hg:=(R.gm hB).1
     simp only [AO.af,R.ev hx,R.ev hy,SV.av,RM.run,hg,SB.av,hs,bO,K7,hc.1,dB,hle,K5,KN,SV.gv,Ld,hcs,KV,SR.v,SR.ups,Mb,qP]
    ·simp at h
   ·simp at h
  ·simp at h
 ·simp at h
theorem Gt (ok:aQ D) (R:aS D N st σ g) {sz:Nat} {a b:SV τ dn} {n:Int} (hx:st.ev x=some a) (hy:st.ev y=some b) (hb:b.int=some (n,l)) {r:SR τ dn} (h:oI D st sz a n l=some r):r.Good D N st.nx σ g (.iad sz x y):=by
 intro k hO hf
 unfold oI at h
 split at h
 ·rename_i ty xs
  split at h
  ·rename_i hs
   simp only [KJ] at h;subst h
   simp only [SR.O,KT,K2] at hO
   have hl:n.toNat<xs.length:=by omega
   simp only [AO.af,R.ev hx,R.ev hy,dX hb,SV.av,hs,hO.1,K5,KN,Ld,jH (d:=D.df ty) hl,KV,RM.opt,RM.run,SR.v,SR.ups,SV.ba,ok.cI]
  ·simp at h
 ·rename_i q els
  cases l with
  |false=>simp at h
  |true=>
   simp only [KP] at h
   split at h
   ·rename_i hs
    simp only [KR] at h;obtain ⟨cs,hcs,rfl⟩:=h
    simp only [AO.af,R.ev hx,R.ev hy,dX hb,SV.av,hs.1,hs.2,K5,KN,SV.gv,Ld,hcs,KV,RM.opt,RM.run,SR.v,SR.ups,SV.ba]
   ·simp at h
 ·rename_i nm q
  split at h
  case isFalse=>simp at h
  rename_i hs
  have key:∀B,st.gm nm=some B->0<=n/\n<B.len->r= .val r.O (.ref nm sz n.toNat 0)->(AO.af k (aD σ) (.iad sz x y)).run g=some (.done (r.v.av D.toTE N) (r.ups D N k)):=by
   intro B hB hr he
   obtain ⟨g1,g2⟩:=R.gm hB
   have:n<(N.ln nm:Int):=by rw [g2];exact hr.2
   rw [he]
   simp only [AO.af,R.ev hx,R.ev hy,dX hb,SV.av,hs,hr.1,this,K5,KN,RM.run,g1,SR.v,SR.ups,KY]
  split at h
  ·rename_i ty xs hB
   simp only [KJ] at h;subst h
   simp only [SR.O,KT,K2] at hO
   exact key _ hB hO rfl
  ·rename_i q' els hB
   cases l with
   |true=>
    simp only [KP] at h
    split at h
    ·rename_i hr
     simp only [KJ] at h;subst h
     exact key _ hB hr rfl
    ·simp at h
   |false=>
    simp only [K4,KJ] at h;subst h
    simp only [SR.O,KT,K2] at hO
    exact key _ hB hO rfl
  ·simp at h
 ·rename_i nm q off len
  split at h
  case isFalse=>simp at h
  rename_i hs
  simp only [KR] at h;obtain ⟨B,hB,rfl⟩:=h
  simp only [SR.O,KT,K2] at hO
  obtain ⟨g1,g2⟩:=R.gm hB
  simp only [AO.af,R.ev hx,R.ev hy,dX hb,SV.av,hs,hO.1,hO.2,K5,KN,RM.run,g1,SR.v,SR.ups]
 ·simp at h
theorem Gu (B:SB τ dn):B.yH.av D.toTE N= .v (goInt B.len):=by cases B<;>rfl
theorem Gv (R:aS D N st σ g) {s:Bool} {v:SV τ dn} (hx:st.ev x=some v) {r:SR τ dn} (h:oJ st s v=some r):r.Good D N st.nx σ g (.len s x):=by
 intro k hO hf
 unfold oJ at h
 split at h
 ·simp only [KJ] at h;subst h;simp only [AO.af,R.ev hx,SV.av,RM.run,SR.v,SR.ups,goInt]
 ·simp only [KJ] at h;subst h;simp only [AO.af,R.ev hx,SV.av,RM.run,SR.v,SR.ups,goInt,K7]
 ·simp only [KJ] at h;subst h;simp only [AO.af,R.ev hx,SV.av,RM.run,SR.v,SR.ups,goInt,SV.gv,K7]
 ·simp only [KJ] at h;subst h;simp only [AO.af,R.ev hx,SV.av,RM.run,SR.v,SR.ups,goInt]
 ·rename_i nm _
  simp only [KR] at h;obtain ⟨B,hB,rfl⟩:=h
  obtain ⟨g1,g2⟩:=R.gm hB
  simp only [AO.af,R.ev hx,SV.av,RM.run,g1,g2,SR.v,SR.ups,Gu]
 ·rename_i nm _ _ n
  simp only [KR] at h;obtain ⟨B,hB,rfl⟩:=h
  obtain ⟨g1,g2⟩:=R.gm hB
  simp only [AO.af,R.ev hx,SV.av,RM.run,g1,SR.v,SR.ups,goInt]
 ·simp at h
theorem Gw (R:aS D N st σ g) {v:SV τ dn} (hx:st.ev x=some v) {r:SR τ dn} (h:oK st kd neg v=some r):r.Good D N st.nx σ g (.isn kd neg x):=by
 intro k hO hf
 unfold oK at h
 split at h
 ·simp only [KJ] at h;subst h;simp only [AO.af,R.ev hx,SV.av,RM.run,SR.v,SR.ups]
 ·simp only [KJ] at h;subst h;simp only [AO.af,R.ev hx,SV.av,RM.run,SR.v,SR.ups]
 ·simp only [KJ] at h;subst h;simp only [AO.af,R.ev hx,SV.av,RM.run,SR.v,SR.ups]
 ·rename_i nm _ _ _
  simp only [KR] at h;obtain ⟨B,hB,rfl⟩:=h
  obtain ⟨g1,g2⟩:=R.gm hB
  simp only [AO.af,R.ev hx,SV.av,RM.run,g1,SR.v,SR.ups]
 ·simp only [KJ] at h;subst h;simp only [AO.af,R.ev hx,SV.av,RM.run,SR.v,SR.ups]
 ·simp only [KJ] at h;subst h;simp only [AO.af,R.ev hx,SV.av,RM.run,SR.v,SR.ups]
 ·rename_i ty xs
  simp only [KJ] at h;subst h
  simp only [SR.O,KT,K2] at hO
  cases xs with
  |nil=>exact absurd rfl hO
  |cons a l=>simp only [AO.af,R.ev hx,SV.av,RM.run,SR.v,SR.ups,KW,List.isEmpty_cons,LF,Lh]
 ·simp at h
theorem uy {len:Int} (h:∀p,p∈jK len lo hi->p):(∀l,lo=some l->0<=l)/\(∀l,hi=some l->0<=l)/\((lo.getD 0:Int)<=hi.getD len\/(lo=none/\hi=none))/\(hi.getD len<=len):=by
 cases lo<;>cases hi<;>simp only [jK,KT,K2,LO,false_implies,implies_true] at h<;>simp<;>omega
theorem uz (h:∀p,p∈jK (n:Int) lo hi->p):bounds n (lo.map Int.toNat) (hi.map Int.toNat)=some ((lo.getD 0).toNat,(hi.getD (n:Int)).toNat):=by
 cases lo<;>cases hi<;>simp only [jK,KT,K2,LO,false_implies,implies_true] at h<;>simp only [bounds,Option.map_none,KV,Me,LM]
 ·rw [KL (by omega)];simp
 ·rw [KL (by omega)];simp
 ·rw [KL (by omega)];simp
 ·rw [KL (by omega)]
theorem Gx {α:Type} {xs:List α} (h:∀p,p∈jK (xs.length:Int) lo hi->p):uu xs lo hi=(xs.drop (lo.getD 0).toNat).take ((hi.getD (xs.length:Int)).toNat - (lo.getD 0).toNat):=by
 cases lo<;>cases hi<;>simp only [jK,KT,K2,LO,false_implies,implies_true] at h<;>simp only [uu,Me,LM]
 ·simp
 ·simp
 ·rw [Mg (by simp)]
theorem Gy (R:aS D N st σ g) {sz:Nat} {lo hi:Option Arg} {v:SV τ dn} {l h':Option Int} (hx:st.ev x=some v) (hl:jJ st lo=some l) (hh:jJ st hi=some h') {r:SR τ dn} (h:oL D st sz v l h'=some r):r.Good D N st.nx σ g (.slc sz x lo hi none):=by
 intro k hO hf
 have hn:cE (aD σ) none=some none:=rfl
 unfold oL at h
 split at h
 ·rename_i ty xs
  split at h
  ·rename_i hs
   simp only [KJ] at h;subst h
   simp only [SR.O] at hO
   have nn:=uy hO
   have e1:=iX R hl nn.1
   have e2:=iX R hh nn.2.1
   have hb:=uz hO
   simp only [AO.af,e1,e2,hn,R.ev hx,SV.av,hs,KN,K7,hb,L8,cutL,KV,RM.opt,RM.run,SR.v,SR.ups,Gx hO,List.map_take,List.map_drop]
  ·simp at h
 ·split at h
  ·simp only [KJ] at h;subst h
   have e1:=iX R hl (by simp)
   have e2:=iX R hh (by simp)
   simp only [AO.af,e1,e2,hn,R.ev hx,SV.av,Option.map_none,bounds,Me,KO,K5,KN,L8,RM.opt,RM.run,SR.v,SR.ups]
  ·simp at h
 ·rename_i nm q
  split at h
  case isFalse=>simp at h
  rename_i hs
  split at h
  ·simp only [KR] at h;obtain ⟨B,hB,rfl⟩:=h
   obtain ⟨g1,g2⟩:=R.gm hB
   have e1:=iX R hl (by simp)
   have e2:=iX R hh (by simp)
   simp only [AO.af,e1,e2,hn,R.ev hx,SV.av,Option.map_none,RM.run,g1,hs,KN,bounds,Me,Nat.zero_le,KO,K5,SR.v,SR.ups,KY,Nat.sub_zero]
  ·simp only [KR] at h;obtain ⟨B,hB,rfl⟩:=h
   obtain ⟨g1,g2⟩:=R.gm hB
   simp only [SR.O] at hO
   have nn:=uy hO
   have e1:=iX R hl nn.1
   have e2:=iX R hh nn.2.1
   have hb:=uz hO
   simp only [AO.af,e1,e2,hn,R.ev hx,SV.av,RM.run,g1,hs,KN,g2,hb,SR.v,SR.ups,KY]
 ·simp at h
theorem qR [DecidableEq τ] (ok:aQ D) {ty:τ}:∀{els:List (List (SV τ dn))} {xs:List (dn ty)},iV D ty els=some xs->(SV.bA D.toTE N els)=xs.map (D.ea N.ρ ty)
 |[],xs,h=>by simp only [iV,KJ] at h;subst h;rfl
 |cs::r,xs,h=>by
  simp only [iV] at h
  split at h
  ·rename_i hn
   split at h
   ·rename_i x l h1 h2
    simp only [KJ] at h;subst h
    have e1:=ok.dV N ty _ _ h1 hn
    have e2:=qR ok h2
    simp only [SV.bA,SV.ba,e1,e2,KW]
   ·simp at h
  ·simp at h
theorem qS [DecidableEq τ] {ty:τ}:∀{els:List (List (SV τ dn))} {xs:List (dn ty)},iV D ty els=some xs->els.length=xs.length
 |[],xs,h=>by simp only [iV,KJ] at h;subst h;rfl
 |cs::r,xs,h=>by
  simp only [iV] at h
  split at h
  ·split at h
   ·rename_i x l h1 h2
    simp only [KJ] at h;subst h
    simp [qS h2]
   ·simp at h
  ·simp at h
theorem uA {a:SV τ dn} {x:Value} (h:a.key=some x):a.av D.toTE N= .v x:=by
 cases a<;>simp [SV.key] at h<;>subst h<;>rfl
theorem uB {kd:LK} {k:Value}:∀{els:List (List (SV τ dn))} {r:Option (SV τ dn)},jL kd k els=some r->mfind kd k (SV.bA D.toTE N els)=some (r.map (SV.av D.toTE N))
 |[],r,h=>by simp only [jL,KJ] at h;subst h;rfl
 |[kv,x]::l,r,h=>by
  simp only [jL] at h
  split at h
  ·rename_i k' hk
   simp only [SV.bA,SV.b6,uA hk,mfind]
   split at h
   ·rename_i he
    simp only [KJ] at h;subst h
    simp only [he];rfl
   ·rename_i he
    simp only [he];exact uB h
   ·simp at h
  ·simp at h
 |[]::l,r,h=>by simp [jL] at h
 |[_]::l,r,h=>by simp [jL] at h
 |(_::_::_::_)::l,r,h=>by simp [jL] at h
theorem yN {n z:Int}:∀{els:List (List (SV τ dn))} {l:List (Int×Int)},jM els=some l->∃r,mfind .int (.int .i64 n) (SV.bA D.toTE N els)=some r/\r.getD (.v (.int .i64 z))= .v (.int .i64 (qK z n l))
 |[],l,h=>by simp only [jM,KJ] at h;subst h;exact ⟨none,rfl,rfl⟩
 |[kv,x]::els,l,h=>by
  cases kv with
  |vn k=>
   simp only [jM] at h
   split at h
   ·rename_i v b l' h1 h2
    simp only [KJ] at h;subst h
    obtain ⟨r,q1,q2⟩:=yN (n:=n) (z:=z) h2
    simp only [SV.bA,SV.b6,SV.av,dX h1,mfind,keyEq,KN,qK]
    by_cases hk:n=k
    ·subst hk;exact ⟨some (.v (.int .i64 v)),by simp,by simp⟩
    ·have:(n==k)=false:=by simpa using hk
     rw [this,KK hk];exact ⟨r,q1,q2⟩
   ·simp at h
  |_=>simp [jM] at h
 |[]::l,r,h=>by simp [jM] at h
 |[_]::l,r,h=>by simp [jM] at h
 |(_::_::_::_)::l,r,h=>by simp [jM] at h
theorem Gz (R:aS D N st σ g) {kd:LK} {k:Arg} {a b c:SV τ dn} (hx:st.ev x=some a) (hk:st.ev k=some b) (hy:st.ev y=some c) {r:SR τ dn} (h:qL st kd a b c=some r):r.Good D N st.nx σ g (.mup kd x k y):=by
 unfold qL at h
 split at h
 case h_2=>simp at h
 rename_i nm key iK
 split at h
 case h_2=>simp at h
 rename_i els hB
 cases hb:(st.rw nm&&plainV key) with
 |false=>rw [hb] at h;simp at h
 |true=>
  rw [hb,KP] at h
  rw [KM] at hb
  split at h
  case h_2=>simp at h
  rename_i hf
  simp only [KJ] at h;subst h
  intro k' hO dT
  have g1:=(R.gm hB).1
  have hm:=uB (D:=D) (N:=N) hf
  rw [SV.gv] at hm
  simp only [AO.af,R.ev hx,R.ev hk,R.ev hy,uA iK,SV.av,RM.run,g1,SB.av,hb.2,K5,KN,hm,Option.map_none,SR.v,SR.ups,SV.gv,LB,KW,Lv]
theorem GA (R:aS D N st σ g) {kd:LK} {z:AV} {k:Arg} {a b:SV τ dn} (hx:st.ev x=some a) (hk:st.ev k=some b) {r:SR τ dn} (h:qM st kd z a b=some r):r.Good D N st.nx σ g (.mlk kd z x k):=by
 unfold qM at h
 split at h
 case h_2=>simp at h
 rename_i nm zs hz
 have ez:zs.av D.toTE N=z:=uv _ _ hz
 split at h
 case h_2=>simp at h
 rename_i els hB
 have g1:=(R.gm hB).1
 split at h
 ·rename_i n
  split at h
  case h_2=>simp at h
  rename_i l zi b' hl GB
  simp only [KJ] at h;subst h
  intro k' hO dT
  obtain ⟨q,q1,q2⟩:=yN (D:=D) (N:=N) (n:=n) (z:=zi) hl
  rw [dX GB] at ez
  subst ez
  simp only [AO.af,R.ev hx,R.ev hk,SV.av,RM.run,g1,SB.av,KN,q1,KV,RM.opt,q2,SR.v,SR.ups]
 ·split at h
  ·rename_i key iK
   simp only [KR] at h;obtain ⟨q,hq,rfl⟩:=h
   intro k' hO dT
   have hm:=uB (D:=D) (N:=N) hq
   simp only [AO.af,R.ev hx,R.ev hk,uA iK,SV.av,RM.run,g1,SB.av,KN,hm,KV,RM.opt,SR.v,SR.ups]
   cases q with
   |none=>simp [ez]
   |some w=>simp
  ·simp at h
def Ct.els (D:TD τ dn) (N:au):Ct τ dn->List (List AV)
 | .ty t xs=>xs.map (D.ea N.ρ t)
 | .li els=>SV.bA D.toTE N els
theorem Ct.GC (c:Ct τ dn):(c.els D N).length=c.len:=by
 cases c with
 |ty t xs=>simp [Ct.els,Ct.len]
 |li els=>simp [Ct.els,Ct.len,SV.gv]
theorem lR (R:aS D N st σ g) {sz:Nat} {v:SV τ dn} {c:Ct τ dn} (h:st.cont D sz v=some c):(content sz (v.av D.toTE N)).run g=some (c.els D N)/\(∀t xs,c= .ty t xs->D.sz t=sz):=by
 unfold SS.cont at h
 split at h
 ·split at h
  ·rename_i ty xs hs
   simp only [KJ] at h;subst h
   refine ⟨by simp only [SV.av,content,hs,KN,RM.run,Ct.els],fun t ys e=> ?_⟩
   simp only [Ct.ty.injEq] at e;obtain ⟨rfl,_⟩:=e;exact hs
  ·simp at h
 ·split at h
  ·rename_i k els hs
   simp only [KJ] at h;subst h
   exact ⟨by simp only [SV.av,content,hs,KN,RM.run,Ct.els],fun t ys e=>by simp at e⟩
  ·simp at h
 ·simp only [KJ] at h;subst h
  exact ⟨rfl,fun t ys e=>by simp at e⟩
 ·rename_i nm k
  split at h
  case isFalse=>simp at h
  rename_i hs
  subst hs
  split at h
  ·rename_i ty xs hB
   split at h
   ·rename_i hs
    simp only [KJ] at h;subst h
    obtain ⟨g1,g2⟩:=R.gm hB
    refine ⟨?_,fun t ys e=> ?_⟩
    ·simp only [SV.av,content,RM.run,g1,SB.av,hs,g2,SB.len,KY,K7,KO,K5,KN,Mz,Ct.els]
     rw [Mg (by simp)]
    ·simp only [Ct.ty.injEq] at e;obtain ⟨rfl,_⟩:=e;exact hs
   ·simp at h
  ·rename_i q els hB
   split at h
   ·rename_i hs
    simp only [KJ] at h;subst h
    obtain ⟨g1,g2⟩:=R.gm hB
    refine ⟨?_,fun t ys e=>by simp at e⟩
    have e:(SV.bA D.toTE N els).length=els.length:=by simp [SV.gv]
    simp only [SV.av,content,RM.run,g1,SB.av,hs,g2,SB.len,KY,e,KO,K5,KN,Mz,Ct.els]
    rw [Mg (by rw [e];exact KO _)]
   ·simp at h
  ·simp at h
 ·simp at h
theorem GD [DecidableEq τ] {D:TD τ dn} {sz:Nat} {B B':SB τ dn} {c:Ct τ dn} (h:lP D sz B c=some B'):B.ug=false:=by
 cases B with
 |mc els=>simp [lP] at h
 |_=>rfl
theorem GF [DecidableEq τ] (ok:aQ D) {sz:Nat} {B B':SB τ dn} {c:Ct τ dn} (h:lP D sz B c=some B') (hs:B.sz D=sz) (hc:∀t xs,c= .ty t xs->D.sz t=sz):B'.av D.toTE N=⟨sz,(B.av D.toTE N).els++c.els D N⟩/\B'.len=B.len+c.len:=by
 unfold lP at h
 split at h
 ·split at h
  ·rename_i ty xs kJ ys he
   simp only [KJ] at h;subst h
   subst he
   simp only [SB.sz] at hs
   refine ⟨?_, ?_⟩
   ·simp only [SB.av,Ct.els,LB,hs]
   ·simp [SB.len,Ct.len]
  ·simp at h
 ·simp only [KR] at h;obtain ⟨ys,hy,rfl⟩:=h
  simp only [SB.sz] at hs
  have e:=qR (N:=N) ok hy
  have e2:=qS hy
  refine ⟨?_, ?_⟩
  ·simp only [SB.av,Ct.els,LB,hs,e]
  ·simp [SB.len,Ct.len,e2]
 ·split at h
  ·rename_i q els ty ys hq
   simp only [KR] at h;obtain ⟨xs,hx,rfl⟩:=h
   simp only [SB.sz] at hs
   have e:=qR (N:=N) ok hx
   have e2:=qS hx
   refine ⟨?_, ?_⟩
   ·simp only [SB.av,Ct.els,LB, <-hq,hs,e]
   ·simp [SB.len,Ct.len,e2]
  ·simp at h
 ·split at h
  ·rename_i q els fs hq
   simp only [KJ] at h;subst h
   refine ⟨?_, ?_⟩
   ·simp only [SB.av,Ct.els,SV.gv,LB,hq]
   ·simp [SB.len,Ct.len]
  ·simp at h
 ·simp at h
 ·simp at h
theorem GG {sz:Nat} {c:Ct τ dn} (hc:∀t xs,c= .ty t xs->D.sz t=sz):(c.iW sz).av D.toTE N=⟨sz,c.els D N⟩/\(c.iW sz).len=c.len:=by
 cases c with
 |ty t xs=>simp only [Ct.iW,SB.av,Ct.els,hc t xs rfl,SB.len,Ct.len,K5]
 |li els=>simp only [Ct.iW,SB.av,Ct.els,SB.len,Ct.len,K5]
theorem GH (B:SB τ dn):(B.av D.toTE N).sz=B.sz D:=by cases B<;>rfl
theorem de {β:Type} {f:α->RM β} {m:RM α} {a:α} (h:m.run g=some a):(m.bind f).run g=(f a).run g:=(run_bind m h).1
theorem GI [DecidableEq τ] (ok:aQ D) (R:aS D N st σ g) {sz bytes:Nat} {s v:SV τ dn} (hx:st.ev x=some s) (hy:st.ev y=some v) {r:SR τ dn} (h:qI D st sz bytes s v=some r):r.Good D N st.nx σ g (.app sz bytes x y):=by
 intro k hO hf
 unfold qI at h
 split at h
 case h_2=>simp at h
 rename_i c hc
 obtain ⟨c1,c2⟩:=lR R hc
 have cl:(c.els D N).length=c.len:=c.GC
 have e0:(AO.af k (aD σ) (.app sz bytes x y)).run g=_:=de (by rw [R.ev hy];exact c1)
 rw [e0,R.ev hx]
 clear e0
 split at h
 ·simp only [KJ] at h;subst h
  simp only [SR.O,KT,K2] at hO
  obtain ⟨b1,b2⟩:=GG (N:=N) c2
  obtain ⟨f1,f2⟩:=hf
  simp only [SV.av,cl,hO,KN,RM.run,SR.v,SR.ups,b1,f1,f2,b2]
 ·rename_i nm q
  split at h
  case isFalse=>simp at h
  rename_i hs
  split at h
  ·rename_i B hB
   split at h
   ·rename_i hz
    simp only [KR] at h;obtain ⟨B',aP,rfl⟩:=h
    simp only [SR.O,KT,K2] at hO
    obtain ⟨g1,g2⟩:=R.gm hB
    obtain ⟨b1,b2⟩:=GF (N:=N) ok aP hz c2
    obtain ⟨f1,f2⟩:=hf
    have e1:=B.FT D.toTE N (GD aP)
    simp only [SV.av,RM.run,g1,GH,hz,hs.1,g2,e1,cl,hO,K5,KN,SR.v,SR.ups,b1,f1,f2,b2]
   ·simp at h
  ·simp at h
 ·simp at h
theorem GJ [DecidableEq τ] (ok:aQ D) (R:aS D N st σ g) {sz bytes:Nat} {zs:List AV} {a b:SV τ dn} {l:Int} {p q:Bool} (hx:st.ev x=some a) (hy:st.ev y=some b) (ha:a.int=some (l,p)) (hb:b.int=some (c,q)) {r:SR τ dn} (h:oP D st sz bytes zs l c=some r):r.Good D N st.nx σ g (.msl sz bytes zs x y):=by
 intro k hO hf
 unfold oP at h
 split at h
 ·rename_i ty cs h1 h2
  split at h
  ·rename_i hs
   split at h
   ·rename_i z hz
    simp only [KJ] at h;subst h
    simp only [SR.O,KT,K2] at hO
    have e1:=kK D.toTE N h2
    have e2:=ok.dV N ty cs z hz hs.2
    rw [SV.ba] at e1
    rw [e1] at e2
    obtain ⟨f1,f2⟩:=hf
    have h0:0<=c:=by omega
    have hb2:c.toNat*bytes<=140737488355328:=by
     have:=hO.2.2
     obtain ⟨m,rfl⟩:=Int.eq_ofNat_of_zero_le h0
     rw [<-Int.natCast_mul] at this
     exact Int.ofNat_le.1 this
    simp only [AO.af,R.ev hx,R.ev hy,dX ha,dX hb,natOf,hO.1,h0,KN,Int.toNat_le_toNat hO.2.1,hb2,K5,RM.run,SR.v,SR.ups,SV.av,f1,f2,SB.len,MF,SB.av,hs.1,List.map_replicate,e2]
   ·simp at h
  ·simp at h
 ·simp at h
theorem GK [DecidableEq τ] (R:aS D N st σ g) {sz:Nat} {a b:SV τ dn} (hx:st.ev x=some a) (hy:st.ev y=some b) {r:SR τ dn} (h:qJ D st sz a b=some r):r.Good D N st.nx σ g (.cpy sz x y):=by
 intro k hO hf
 unfold qJ at h
 split at h
 ·rename_i nm q ty ys hc
  obtain ⟨c1,c2⟩:=lR R hc
  split at h
  case isFalse=>simp at h
  rename_i hs
  split at h
  ·rename_i kJ xs hB
   split at h
   ·rename_i he
    subst he
    split at h
    ·rename_i hz
     simp only [KJ] at h;subst h
     obtain ⟨g1,g2⟩:=R.gm hB
     have e0:(AO.af k (aD σ) (.cpy sz x y)).run g=_:=de (by rw [R.ev hy];exact c1)
     rw [e0,R.ev hx]
     simp only [SV.av,RM.run,g1,SB.av,hz,hs.1,g2,SB.len,K7,KY,KO,K5,KN,Ct.els,SR.v,SR.ups,List.take_zero,List.nil_append,goInt,LB,List.map_take,List.map_drop]
    ·simp at h
   ·simp at h
  ·simp at h
 ·simp at h
theorem yO (ok:aQ D) {t:τ} {p:(dn t->UInt8)×(UInt8->dn t)} (h:D.bt t=some p):∀xs:List (dn t),strOf (xs.map (D.ea N.ρ t))=some (xs.map p.1)
 |[]=>rfl
 |x::r=>by
  rw [KW,(ok.bt N t p h).1 x,strOf,yO ok h r,Md,UInt8.ofNat_toNat];rfl
theorem yP:∀{els:List (List (SV τ dn))} {l:List UInt8},oM els=some l->strOf (SV.bA D.toTE N els)=some l
 |[],l,h=>by simp only [oM,KJ] at h;subst h;rfl
 |cs::r,l,h=>by
  unfold oM at h
  split at h
  ·rename_i e;simp at e
  ·rename_i b r' e
   simp only [Mw] at e
   obtain ⟨rfl,rfl⟩:=e
   split at h
   ·rename_i l' hl
    simp only [KJ] at h;subst h
    have:=yP hl
    simp only [SV.bA,SV.b6,SV.av,strOf,this,KV,Md,UInt8.ofNat_toNat]
   ·simp at h
  ·simp at h
theorem GL [DecidableEq τ] (ok:aQ D) (R:aS D N st σ g) {v:SV τ dn} (hx:st.ev x=some v) {r:SR τ dn} (h:oN D st v=some r):r.Good D N st.nx σ g (.b2s x):=by
 intro k hO hf
 unfold oN at h
 split at h
 ·rename_i t xs hc
  obtain ⟨c1,_⟩:=lR R hc
  split at h
  ·rename_i p hp
   simp only [KJ] at h;subst h
   have e0:(AO.af k (aD σ) (.b2s x)).run g=_:=de (by rw [R.ev hx];exact c1)
   rw [e0]
   simp only [Ct.els,yO ok hp,KV,RM.opt,RM.run,SR.v,SR.ups,SV.av]
  ·simp at h
 ·rename_i els hc
  obtain ⟨c1,_⟩:=lR R hc
  split at h
  ·rename_i l hl
   simp only [KJ] at h;subst h
   have e0:(AO.af k (aD σ) (.b2s x)).run g=_:=de (by rw [R.ev hx];exact c1)
   rw [e0]
   simp only [Ct.els,yP hl,KV,RM.opt,RM.run,SR.v,SR.ups,SV.av]
  ·simp at h
 ·simp at h
theorem GM [DecidableEq τ] (ok:aQ D) (R:aS D N st σ g) (hx:st.ev x=some (.vz s)) {r:SR τ dn} (h:oO D st s=some r):r.Good D N st.nx σ g (.s2b x):=by
 intro k hO hf
 unfold oO at h
 split at h
 ·rename_i t ht
  split at h
  ·rename_i p hp
   split at h
   ·rename_i hs
    simp only [KJ] at h;subst h
    simp only [SR.O,KT,K2] at hO
    obtain ⟨f1,f2⟩:=hf
    have hl:s.data.toList.length=s.size:=rfl
    have e:(s.data.toList.map p.2).map (D.ea N.ρ t)=s.data.toList.map fun b=>[AV.v (.int .u8 b.toNat)]:=by
     rw [Mq]
     refine MH fun b _=> ?_
     show D.ea N.ρ t (p.2 b)=_
     rw [(ok.bt N t p hp).1,(ok.bt N t p hp).2]
    simp only [AO.af,R.ev hx,SV.av,hO,KN,RM.run,SR.v,SR.ups,f1,f2,SB.len,K7,SB.av,hs,e,hl]
   ·simp at h
  ·simp at h
 ·simp at h
theorem oR (R:aS D N st σ g):∀{l:List Arg} {cs:List (SV τ dn)},l.mapM st.ev=some cs->l.map (aD σ)=cs.map (SV.av D.toTE N)
 |[],cs,h=>by simp at h;subst h;rfl
 |x::r,cs,h=>by
  simp only [List.mapM_cons,Option.pure_def,Option.bind_eq_bind,Mj,KJ] at h
  obtain ⟨v,hv,l,hl,rfl⟩:=h
  simp only [KW,R.ev hv,oR R hl]
theorem GN [DecidableEq τ] (ok:aQ D) (R:aS D N st σ g):∀{ao:AO} {r:SR τ dn},sx D st ao=some r->r.Good D N st.nx σ g ao:=by
 intro ao r h
 cases ao<;>simp only [sx] at h
 case mov x=>
  simp only [KR] at h;obtain ⟨v,hv,rfl⟩:=h
  intro k hO hf
  simp only [AO.af,R.ev hv,RM.run,SR.v,SR.ups]
 case pick=>simp at h
 case new zs=>
  simp only [KR] at h;obtain ⟨cs,hcs,rfl⟩:=h
  intro k hO hf
  obtain ⟨f1,f2⟩:=hf
  simp only [AO.af,RM.run,SR.v,SR.ups,SV.av,f1,SB.av,SV.bA,kK D.toTE N hcs]
 case box n x=>
  split at h
  ·rename_i v hv
   split at h
   ·rename_i hc
    simp only [KJ] at h;subst h
    intro k hO hf
    obtain ⟨f1,f2⟩:=hf
    have bO:=SV.oq (E:=D.toTE) (N:=N) hc.2.1
    simp only [AO.af,R.ev hv,bO,K7,hc.1,qQ hc.2.2,K5,KN,RM.run,SR.v,SR.ups,SV.av,f1,SB.av,SV.bA,SV.ba]
   ·simp at h
  ·simp at h
 case agg zs parts=>
  split at h
  ·rename_i cs hcs
   simp only [KR] at h;obtain ⟨l,hl,rfl⟩:=h
   intro k hO hf
   have e1:=kK D.toTE N hcs
   rw [SV.ba] at e1
   have:=yJ R hl
   rw [e1] at this
   simp only [AO.af,this,KV,RM.opt,RM.run,SR.v,SR.ups,SV.av,SV.ba]
  ·simp at h
 case bsl sz ln zs parts=>
  split at h
  ·rename_i cs hcs
   simp only [KR] at h;obtain ⟨l,hl,rfl⟩:=h
   intro k hO hf
   obtain ⟨f1,f2⟩:=hf
   have e1:=kK D.toTE N hcs
   rw [SV.ba] at e1
   have:=yK R hl
   rw [List.map_replicate,e1] at this
   have hlen:l.length=ln:=by
    have:∀(parts:List (Nat×Arg)) (els l:List (List (SV τ dn))),kI st sz els parts=some l->l.length=els.length:=by
     intro parts
     induction parts with
     |nil=>intro els l h;simp only [kI,KJ] at h;subst h;rfl
     |cons p r ih=>
      intro els l h
      obtain ⟨i,x⟩:=p
      simp only [kI] at h
      split at h
      ·split at h
       ·have:=ih _ _ h;simpa using this
       ·simp at h
      ·simp at h
    have:=this _ _ _ hl
    simpa using this
   simp only [AO.af,this,KV,RM.opt,RM.run,SR.v,SR.ups,SV.av,f1,f2,SB.len,hlen,SB.av,SV.gv]
  ·simp at h
 case load m x=>
  simp only [Mj] at h;obtain ⟨v,hv,h⟩:=h
  exact yM ok R hv h
 case store n x y=>
  split at h
  ·rename_i a b ha hb;exact Gs ok R ha hb h
  ·simp at h
 case nilc x=>
  split at h
  ·rename_i nm sz i o hv
   simp only [KR] at h;obtain ⟨B,hB,rfl⟩:=h
   intro k hO hf
   obtain ⟨g1,g2⟩:=R.gm hB
   simp only [AO.af,R.ev hv,SV.av,RM.run,g1,SR.v,SR.ups]
  ·rename_i cs o hv
   simp only [KJ] at h;subst h
   intro k hO hf
   simp only [AO.af,R.ev hv,SV.av,RM.run,SR.v,SR.ups]
  ·simp at h
 case bin bt op x y=>
  split at h
  ·rename_i a b ha hb
   intro k hO hf
   obtain ⟨O,v,p,q,w,rfl,h1,h2,h3,h4⟩:=Gl (D:=D) (N:=N) h hO
   simp only [AO.af,R.ev ha,R.ev hb,h1,h2,h3,KV,RM.opt,RM.run,SR.v,SR.ups,h4]
  ·simp at h
 case un op x=>
  simp only [Mj] at h;obtain ⟨a,ha,h⟩:=h
  intro k hO hf
  obtain ⟨O,v,p,w,rfl,h1,h3,h4⟩:=Gn (D:=D) (N:=N) h hO
  simp only [AO.af,R.ev ha,h1,h3,KV,RM.opt,RM.run,SR.v,SR.ups,h4]
 case conv q x=>
  simp only [Mj] at h;obtain ⟨a,ha,h⟩:=h
  intro k hO hf
  obtain ⟨O,v,p,w,rfl,h1,h4⟩:=Gp (D:=D) (N:=N) h hO
  simp only [AO.af,R.ev ha,h1,RM.run,SR.v,SR.ups,h4]
 case fad off x=>
  split at h
  ·rename_i nm sz i o hv
   simp only [KR] at h;obtain ⟨B,hB,rfl⟩:=h
   intro k hO hf
   obtain ⟨g1,g2⟩:=R.gm hB
   simp only [AO.af,R.ev hv,SV.av,RM.run,g1,SR.v,SR.ups]
  ·rename_i cs o hv
   simp only [KJ] at h;subst h
   intro k hO hf
   simp only [AO.af,R.ev hv,SV.av,RM.run,SR.v,SR.ups]
  ·simp at h
 case fld off m x=>
  split at h
  ·rename_i cs hv
   simp only [KR] at h;obtain ⟨w,hw,rfl⟩:=h
   intro k hO hf
   have:=mN (D:=D) (N:=N) hw
   simp only [AO.af,R.ev hv,SV.av,SV.ba,this,KV,RM.opt,RM.run,SR.v,SR.ups]
  ·simp at h
 case iad sz x i=>
  split at h
  ·rename_i a b ha hb
   split at h
   ·rename_i n l hn;exact Gt ok R ha hb hn h
   ·simp at h
  ·simp at h
 case ext i x=>
  split at h
  ·rename_i vs hv
   simp only [KR] at h;obtain ⟨w,hw,rfl⟩:=h
   intro k hO hf
   simp only [AO.af,R.ev hv,SV.av,SV.ba,Ld,hw,KV,RM.opt,RM.run,SR.v,SR.ups]
  ·simp at h
 case len s x=>
  simp only [Mj] at h;obtain ⟨v,hv,h⟩:=h
  exact Gv R hv h
 case isn kd neg x=>
  simp only [Mj] at h;obtain ⟨v,hv,h⟩:=h
  exact Gw R hv h
 case mnx mx x y=>
  split at h
  ·rename_i a b ha hb
   split at h
   ·rename_i p _ q _ h1 h2
    simp only [KJ] at h;subst h
    intro k hO hf
    simp only [AO.af,R.ev ha,R.ev hb,dX h1,dX h2,nz,KN,KV,RM.opt,RM.run,SR.v,SR.ups,SV.av]
    congr 5
    all_goals (simp only [Int.max_def,Int.min_def];(repeat' split)<;>omega)
   ·simp at h
  ·simp at h
 case eqs ng n L x y=>
  split at h
  ·rename_i cs ds hc hd
   split at h
   ·rename_i hl
    split at h
    ·rename_i v hv
     simp only [KR] at h;obtain ⟨w,hw,rfl⟩:=h
     intro k hO hf
     obtain ⟨p,h1,h2⟩:=yL (D:=D) (N:=N) hv
     have h3:w.av D.toTE N= .v (.bool (if ng then !p else p)):=by
      cases ng with
      |true=>
       simp only [KN] at hw ⊢
       obtain ⟨z,q1,q2⟩:=ux (D:=D) (N:=N) hw
       rw [h1] at q1;simp only [AV.v.injEq,Value.bool.injEq] at q1;subst q1;exact q2
      |false=>simp only [LF,Lh,KJ] at hw ⊢; subst hw;exact h1
     simp only [AO.af,R.ev hc,R.ev hd,SV.av,SV.ba,K7,hl.1,hl.2,K5,KN,h2,KV,RM.opt,RM.run,SR.v,SR.ups,h3]
    ·simp at h
   ·simp at h
  ·simp at h
 case b2s x=>
  split at h
  ·rename_i v hv;exact GL ok R hv h
  ·simp at h
 case s2b x=>
  split at h
  ·rename_i s hs;exact GM ok R hs h
  ·simp at h
 case msl sz by_ zs x y=>
  split at h
  ·rename_i a b ha hb
   split at h
   ·rename_i p _ q _ h1 h2;exact GJ ok R ha hb h1 h2 h
   ·simp at h
  ·simp at h
 case slc sz x lo hi mx=>
  cases mx with
  |some m=>simp at h
  |none=>
   simp only at h
   split at h
   ·rename_i a l h' ha hl hh;exact Gy R ha hl hh h
   ·simp at h
 case sls x lo hi=>
  split at h
  ·rename_i s l h' hs hl hh
   simp only [KJ] at h;subst h
   intro k hO hf
   simp only [SR.O] at hO
   have nn:=uy hO
   have e1:=iX R hl nn.1
   have e2:=iX R hh nn.2.1
   have hb:=uz hO
   simp only [AO.af,e1,e2,R.ev hs,SV.av,hb,KV,RM.opt,RM.run,SR.v,SR.ups]
  ·simp at h
 case six x i=>
  split at h
  ·rename_i s b hs hb
   split at h
   ·rename_i n _ h1
    simp only [KJ] at h;subst h
    intro k hO hf
    simp only [SR.O,KT,K2] at hO
    have hl:n.toNat<s.size:=by omega
    have e:s[n.toNat]? =some (gb s n.toNat):=by unfold gb;rw [getElem?_pos s n.toNat hl];rfl
    simp only [AO.af,R.ev hs,R.ev hb,dX h1,SV.av,natOf,hO.1,KN,e,KV,RM.opt,RM.run,SR.v,SR.ups]
   ·split at h
    ·rename_i q n _
     simp only [KJ] at h;subst h
     intro k hO hf
     simp only [SR.O,KT,K2] at hO
     have hl:n.toNat<s.size:=by omega
     have e:s[n.toNat]? =some (gb s n.toNat):=by unfold gb;rw [getElem?_pos s n.toNat hl];rfl
     simp only [AO.af,R.ev hs,R.ev hb,SV.av,natOf,hO.1,KN,e,KV,RM.opt,RM.run,SR.v,SR.ups]
    ·rename_i y _
     simp only [KJ] at h;subst h
     intro k hO hf
     simp only [SR.O,KT,K2] at hO
     have e:s[y.toNat]? =some (gb s y.toNat):=by unfold gb;rw [getElem?_pos s y.toNat hO];rfl
     have h0:(0:Int)<=(y.toNat:Int):=by omega
     simp only [AO.af,R.ev hs,R.ev hb,SV.av,natOf,h0,KN,Md,e,KV,RM.opt,RM.run,SR.v,SR.ups]
    ·simp at h
  ·simp at h
 case app sz by_ x y=>
  split at h
  ·rename_i a b ha hb;exact GI ok R ha hb h
  ·simp at h
 case cpy sz x y=>
  split at h
  ·rename_i a b ha hb;exact GK R ha hb h
  ·simp at h
 case mkf f caps=>
  simp only [KR] at h;obtain ⟨cs,hcs,rfl⟩:=h
  intro k hO hf
  simp only [AO.af,oR R hcs,RM.run,SR.v,SR.ups,SV.av,SV.ba]
 case mkb f caps=>
  simp only [KR] at h;obtain ⟨cs,hcs,rfl⟩:=h
  intro k hO hf
  simp only [AO.af,oR R hcs,RM.run,SR.v,SR.ups,SV.av,SV.ba]
 case iap sz ln x i=>
  split at h
  ·rename_i nm s e o n hv hn
   split at h
   ·rename_i hc
    simp only [KJ] at h;subst h
    intro k hO hf
    obtain ⟨B,hB⟩:=MD.1 hc.2.2
    obtain ⟨g1,g2⟩:=R.gm hB
    simp only [AO.af,R.ev hv,R.ev hn,SV.av,hc.1,hc.2.1,K5,KN,RM.run,g1,SR.v,SR.ups]
   ·simp at h
  ·rename_i cs o n hv hn
   split at h
   ·rename_i hc
    simp only [KJ] at h;subst h
    intro k hO hf
    simp only [AO.af,R.ev hv,R.ev hn,SV.av,hc.1,hc.2,K5,KN,RM.run,SR.v,SR.ups]
   ·simp at h
  ·simp at h
 case ixa sz ln m x i=>
  split at h
  ·rename_i cs n hv hn
   split at h
   ·rename_i hc
    simp only [KR] at h;obtain ⟨w,hw,rfl⟩:=h
    intro k hO hf
    simp only [AO.af,R.ev hv,R.ev hn,SV.av,hc.1,hc.2,K5,KN,SV.ba,mN hw,KV,RM.opt,RM.run,SR.v,SR.ups]
   ·simp at h
  ·simp at h
 case mkm=>
  simp only [KJ] at h;subst h
  intro k hO hf
  simp only [AO.af,RM.run,SR.v,SR.ups,SV.av,SB.av,SV.bA,hf.1]
 case mup kd x key y=>
  split at h
  ·rename_i a b c ha hb hc;exact Gz R ha hb hc h
  ·simp at h
 case mlk kd z x key=>
  split at h
  ·rename_i a b ha hb;exact GA R ha hb h
  ·simp at h
 all_goals simp at h
end
open Go.RowKit
section
variable {τ:Type} {dn:τ->Type}
def SV.isRw:SV τ dn->Bool
 | .rw _ _| .cH _ _ _ _=>true
 |_=>false
def AO.lk:AO->List Arg
 | .load _ x| .nilc x| .fad _ x| .len _ x| .isn _ _ x| .clr _ x| .b2s x=>[x]
 | .store _ x _| .iad _ x _| .iap _ _ x _| .slc _ x _ _ _| .mup _ x _ _| .mlk _ _ x _=>[x]
 | .app _ _ s x=>[x,s]
 | .cpy _ x y=>[y,x]
 |_=>[]
def SS.rwa (st:SS τ dn) (x:Arg):Bool:=match st.ev x with
 |some v=>v.isRw
 |none=>false
variable [DecidableEq τ]
def SS.fb (st:SS τ dn) (t:τ):Option (List (Nat×List (dn t))):=match st.gm 0 with
 |some (.ar t' A)=>if h:t'=t then some (h▸A) else none
 |_=>none
theorem kL {st:SS τ dn} {t:τ} {A:List (Nat×List (dn t))} (h:st.fb t=some A):st.gm 0=some (.ar t A):=by
 unfold SS.fb at h
 split at h
 ·rename_i t' A' hB
  split at h
  ·rename_i he
   subst he
   simp only [KJ] at h;subst h;exact hB
  ·simp at h
 ·simp at h
variable (D:TD τ dn)
def oS (st:SS τ dn) (sz:Nat):SV τ dn->Option (List Prop×Ct τ dn)
 | .rw t r=>match st.fb t with
  |some A=>if D.sz t=sz then some ([r.ok A], .ty t (r.get A)) else none
  |none=>none
 |v=>(st.cont D sz v).map fun c=>([],c)
def jN (st:SS τ dn):AO->Option (SR τ dn)
 | .load m x=>match st.ev x with
  |some (.cH t r i o)=>match st.fb t with
   |some A=>(jI (D.es t (gd (D.df t) (r.get A) i)) o m).map (.val [r.ok A,i<(r.get A).length])
   |none=>none
  |_=>none
 | .store n x y=>match st.ev x,st.ev y with
  |some (.cH t r i o),some y=>match st.fb t with
   |some A=>if (y.cells.length=n/\y.fK=true/\y.cells.all SV.one=true)/\o+n<=D.sz t/\st.rw 0=true/\D.lO t (kH (D.es t (gd (D.df t) (r.get A) i)) o y.cells)=true then (match D.ds t (kH (D.es t (gd (D.df t) (r.get A) i)) o y.cells) with
    |some z=>some (.dW [r.lM A,i<(r.get A).length] (.vo undef) r.id t ((r.get A).set i z) A)
    |none=>none) else none
   |none=>none
  |_,_=>none
 | .nilc x=>match st.ev x with
  |some (.cH t r i o)=>match st.fb t with
   |some A=>some (.val [r.ok A,i<(r.get A).length] (.cH t r i o))
   |none=>none
  |_=>none
 | .fad off x=>match st.ev x with
  |some (.cH t r i o)=>match st.fb t with
   |some A=>some (.val [r.ok A,i<(r.get A).length] (.cH t r i (o+off)))
   |none=>none
  |_=>none
 | .iad sz x y=>match st.ev x,st.ev y with
  |some (.rw t r),some b=>match st.fb t,b.int with
   |some A,some (n,_)=>if D.sz t=sz then some (.val [r.ok A,0<=n/\n<(r.get A).length] (.cH t r n.toNat 0)) else none
   |_,_=>none
  |_,_=>none
 | .len false x=>match st.ev x with
  |some (.rw t r)=>match st.fb t with
   |some A=>some (.val [r.ok A] (.vi ((r.get A).length:Int)))
   |none=>none
  |_=>none
 | .cpy sz x y=>match st.ev x,st.ev y with
  |some (.rw t r),some b=>match st.fb t,oS D st sz b with
   |some A,some (O, .ty t' ys)=>if h:t'=t then (if D.sz t=sz/\st.rw 0=true then some (.dW (O++[r.lM A]) (.vi ((min ys.length (r.get A).length:Nat):Int)) r.id t (((h▸ys):List (dn t)).take (r.get A).length++(r.get A).drop (min ys.length (r.get A).length)) A) else none) else none
   |_,_=>none
  |_,_=>none
 |_=>none
end
section
variable {τ:Type} {dn:τ->Type} {D:TD τ dn} {N:au} {st:SS τ dn} {σ:Nat->AV} {g:Nat->Option Bk} [DecidableEq τ]
theorem jO (R:aS D N st σ g) {t:τ} {A:List (Nat×List (dn t))} (h:st.fb t=some A) {r:Row (dn t)} (hr:r.ok A) (hk:r.kd= .own):r.get A=eQ A r.id/\r.n=(r.get A).length/\g r.id=some ⟨D.sz t,(r.get A).map (D.ea N.ρ t)⟩:=by
 unfold Row.ok at hr
 rw [hk] at hr
 have e:r.get A=eQ A r.id:=by unfold Row.get;rw [hk]
 rw [e]
 exact ⟨rfl,hr.2.symm,R.ar t A (fF (kL h)) _ hr.1⟩
theorem mO (hk:r.kd= .nil):r.get A=[]:=by unfold Row.get;rw [hk]
theorem lS (hk:r.kd= .aN):r.get A=r.xs:=by unfold Row.get;rw [hk]
theorem Row.lM.ok {α:Type} {A:List (Nat×List α)} {r:Row α} (h:r.lM A):r.ok A:=by unfold Row.ok;rw [h.1];exact h.2
theorem GO (R:aS D N st σ g) {sz:Nat} {v:SV τ dn} {O:List Prop} {c:Ct τ dn} (h:oS D st sz v=some (O,c)) (hO:∀p,p∈O->p):(content sz (v.av D.toTE N)).run g=some (c.els D N)/\(∀t xs,c= .ty t xs->D.sz t=sz):=by
 have other:∀{v:SV τ dn},((st.cont D sz v).map fun c=>(([]:List Prop),c))=some (O,c)->(content sz (v.av D.toTE N)).run g=some (c.els D N)/\(∀t xs,c= .ty t xs->D.sz t=sz):=fun h=>by
  simp only [KR,KZ] at h
  obtain ⟨c',h1,_,rfl⟩:=h
  exact lR R h1
 cases v with
 |rw t r=>
  simp only [oS] at h
  split at h
  ·rename_i A hA
   split at h
   ·rename_i hs
    simp only [KJ,KZ] at h
    obtain ⟨rfl,rfl⟩:=h
    simp only [KT,K2] at hO
    refine ⟨?_,fun t' ys e=>by simp only [Ct.ty.injEq] at e;obtain ⟨rfl,_⟩:=e;exact hs⟩
    cases hk:r.kd with
    |nil=>simp only [SV.av,hk,content,RM.run,Ct.els,mO hk,Lv]
    |aN=>simp only [SV.av,hk,content,hs,KN,RM.run,Ct.els,lS hk]
    |own=>
     obtain ⟨e1,e2,e3⟩:=jO R hA hO hk
     simp only [SV.av,hk,content,RM.run,e3,hs,e2,KY,K7,KO,K5,KN,Mz,Ct.els]
     rw [Mg (by simp)]
   ·simp at h
  ·simp at h
 |_=>exact other h
theorem GP (ok:aQ D) (R:aS D N st σ g) {r:SR τ dn} (h:jN D st ao=some r):r.Good D N st.nx σ g ao:=by
 intro k hO hf
 cases ao<;>simp only [jN,reduceCtorEq] at h
 case load m x=>
  split at h
  case h_2=>simp at h
  rename_i t q i o hx
  split at h
  case h_2=>simp at h
  rename_i A hA
  simp only [KR] at h;obtain ⟨w,hw,rfl⟩:=h
  simp only [SR.O,KU,LO,or_false,Mi,K2] at hO
  have hq:=mN (D:=D) (N:=N) hw
  rw [ok.cI] at hq
  cases hk:q.kd with
  |nil=>rw [mO hk] at hO;simp at hO
  |aN=>
   rw [lS hk] at hq hO
   simp only [AO.af,R.ev hx,SV.av,hk,jH (d:=D.df t) hO.2,hq,KV,RM.opt,RM.run,SR.v,SR.ups]
  |own=>
   obtain ⟨e1,e2,e3⟩:=jO R hA hO.1 hk
   simp only [AO.af,R.ev hx,SV.av,hk,RM.run,e3,KN,Ld,jH (d:=D.df t) hO.2,KV,L8,hq,RM.opt,SR.v,SR.ups]
 case store n x y=>
  split at h
  case h_2=>simp at h
  rename_i t q i o b hx hy
  split at h
  case h_2=>simp at h
  rename_i A hA
  split at h
  case isFalse=>simp at h
  rename_i hc
  split at h
  case h_2=>simp at h
  rename_i z hz
  simp only [KJ] at h;subst h
  simp only [SR.O,KU,LO,or_false,Mi,K2] at hO
  have bO:=SV.oq (E:=D.toTE) (N:=N) hc.1.2.1
  have dB:=qQ (D:=D) (N:=N) hc.1.2.2
  obtain ⟨e1,e2,e3⟩:=jO R hA hO.1.ok hO.1.1
  have he:=ok.dV N t _ z hz hc.2.2.2
  rw [qP,ok.cI] at he
  simp only [AO.af,R.ev hx,R.ev hy,SV.av,hO.1.1,RM.run,e3,bO,K7,hc.1.1,dB,hc.2.1,K5,KN,Ld,jH (d:=D.df t) hO.2,KV,SR.v,SR.ups,he,Mb]
 case nilc x=>
  split at h
  case h_2=>simp at h
  rename_i t q i o hx
  split at h
  case h_2=>simp at h
  rename_i A hA
  simp only [KJ] at h;subst h
  simp only [SR.O,KU,LO,or_false,Mi,K2] at hO
  cases hk:q.kd with
  |nil=>rw [mO hk] at hO;simp at hO
  |aN=>rw [lS hk] at hO;simp only [AO.af,R.ev hx,SV.av,hk,jH (d:=D.df t) hO.2,RM.run,SR.v,SR.ups]
  |own=>
   obtain ⟨e1,e2,e3⟩:=jO R hA hO.1 hk
   simp only [AO.af,R.ev hx,SV.av,hk,RM.run,e3,SR.v,SR.ups]
 case fad off x=>
  split at h
  case h_2=>simp at h
  rename_i t q i o hx
  split at h
  case h_2=>simp at h
  rename_i A hA
  simp only [KJ] at h;subst h
  simp only [SR.O,KU,LO,or_false,Mi,K2] at hO
  cases hk:q.kd with
  |nil=>rw [mO hk] at hO;simp at hO
  |aN=>rw [lS hk] at hO;simp only [AO.af,R.ev hx,SV.av,hk,jH (d:=D.df t) hO.2,RM.run,SR.v,SR.ups]
  |own=>
   obtain ⟨e1,e2,e3⟩:=jO R hA hO.1 hk
   simp only [AO.af,R.ev hx,SV.av,hk,RM.run,e3,SR.v,SR.ups]
 case iad sz x y=>
  split at h
  case h_2=>simp at h
  rename_i t q b hx hy
  split at h
  case h_2=>simp at h
  rename_i A n l hA hb
  split at h
  case isFalse=>simp at h
  rename_i hs
  simp only [KJ] at h;subst h
  simp only [SR.O,KU,LO,or_false,Mi,K2] at hO
  have hl:n.toNat<(q.get A).length:=by omega
  cases hk:q.kd with
  |nil=>rw [mO hk] at hl;simp at hl
  |aN=>
   rw [lS hk] at hl
   simp only [AO.af,R.ev hx,R.ev hy,dX hb,SV.av,hk,hs,hO.2.1,K5,KN,Ld,jH (d:=D.df t) hl,KV,RM.opt,RM.run,SR.v,SR.ups]
  |own=>
   obtain ⟨e1,e2,e3⟩:=jO R hA hO.1 hk
   have:n<(q.n:Int):=by rw [e2];exact hO.2.2
   simp only [AO.af,R.ev hx,R.ev hy,dX hb,SV.av,hk,hs,hO.2.1,this,K5,KN,RM.run,e3,SR.v,SR.ups,KY]
 case len s x=>
  cases s with
  |true=>simp at h
  |false=>
   simp only at h
   split at h
   case h_2=>simp at h
   rename_i t q hx
   split at h
   case h_2=>simp at h
   rename_i A hA
   simp only [KJ] at h;subst h
   simp only [SR.O,KT,K2] at hO
   cases hk:q.kd with
   |nil=>simp only [AO.af,R.ev hx,SV.av,hk,RM.run,SR.v,SR.ups,goInt,mO hk,List.length_nil];rfl
   |aN=>simp only [AO.af,R.ev hx,SV.av,hk,RM.run,SR.v,SR.ups,goInt,lS hk,K7]
   |own=>
    obtain ⟨e1,e2,e3⟩:=jO R hA hO hk
    simp only [AO.af,R.ev hx,SV.av,hk,RM.run,e3,SR.v,SR.ups,goInt,e2]
 case cpy sz x y=>
  split at h
  case h_2=>simp at h
  rename_i t q b hx hy
  split at h
  case h_2=>simp at h
  rename_i A O t' ys hA dC
  split at h
  case isFalse=>simp at h
  rename_i ht
  subst ht
  split at h
  case isFalse=>simp at h
  rename_i hs
  simp only [KJ] at h;subst h
  simp only [SR.O,Lj,KT] at hO
  have hm:=hO _ (.inr rfl)
  obtain ⟨c1,c2⟩:=GO R dC fun p hp=>hO p (.inl hp)
  obtain ⟨e1,e2,e3⟩:=jO R hA hm.ok hm.1
  have e0:(AO.af k (aD σ) (.cpy sz x y)).run g=_:=de (by rw [R.ev hy];exact c1)
  rw [e0,R.ev hx]
  simp only [SV.av,hm.1,RM.run,e3,hs.1,e2,K7,KY,KO,K5,KN,Ct.els,SR.v,SR.ups,List.take_zero,List.nil_append,goInt,LB,List.map_take,List.map_drop]
theorem GQ (R:aS D N st σ g) {r:SR τ dn} (h:jN D st ao=some r) (hO:∀p,p∈r.O->p) {v:SV τ dn} (hx:x∈ao.lk) (hv:st.ev x=some v) (hr:v.isRw=true):∀id,id∈(match v.av D.toTE N with| .own id _ _ _| .ref id _ _ _| .mp id=>[id]|_=>[])->∃t A,st.gm 0=some (.ar t A)/\dj A id:=by
 have qT:∀{t:τ} {A:List (Nat×List (dn t))} {q:Row (dn t)},st.fb t=some A->q.ok A->v= .rw t q->∀id,id∈(match v.av D.toTE N with| .own id _ _ _| .ref id _ _ _| .mp id=>[id]|_=>[])->∃t A,st.gm 0=some (.ar t A)/\dj A id:=by
  rintro t A q hA hq rfl id hid
  cases hk:q.kd with
  |nil=>simp [SV.av,hk] at hid
  |aN=>simp [SV.av,hk] at hid
  |own=>
   simp only [SV.av,hk,KT] at hid
   unfold Row.ok at hq
   rw [hk] at hq
   exact ⟨t,A,kL hA,hid▸hq.1⟩
 have qU:∀{t:τ} {A:List (Nat×List (dn t))} {q:Row (dn t)} {i o:Nat},st.fb t=some A->q.ok A->v= .cH t q i o->∀id,id∈(match v.av D.toTE N with| .own id _ _ _| .ref id _ _ _| .mp id=>[id]|_=>[])->∃t A,st.gm 0=some (.ar t A)/\dj A id:=by
  rintro t A q i o hA hq rfl id hid
  cases hk:q.kd with
  |nil=>simp [SV.av,hk] at hid
  |aN=>
   simp only [SV.av,hk] at hid
   exfalso
   revert hid
   cases q.xs[i]? <;>simp
  |own=>
   simp only [SV.av,hk,KT] at hid
   unfold Row.ok at hq
   rw [hk] at hq
   exact ⟨t,A,kL hA,hid▸hq.1⟩
 cases ao<;>simp only [jN,reduceCtorEq] at h<;>simp only [AO.lk,KT,KU,LO,or_false] at hx
 case load m x'=>
  subst hx
  rw [hv] at h
  split at h
  case h_2=>simp at h
  rename_i t q i o he
  simp only [KJ] at he
  split at h
  case h_2=>simp at h
  rename_i A hA
  simp only [KR] at h;obtain ⟨w,hw,rfl⟩:=h
  exact qU hA (hO _ (by simp [SR.O])) he
 case store n x' y=>
  subst hx
  rw [hv] at h
  split at h
  case h_2=>simp at h
  rename_i t q i o b he hy
  simp only [KJ] at he
  split at h
  case h_2=>simp at h
  rename_i A hA
  split at h
  case isFalse=>simp at h
  split at h
  case h_2=>simp at h
  simp only [KJ] at h;subst h
  exact qU hA (hO _ (LJ ..):q.lM A).ok he
 case nilc x'=>
  subst hx
  rw [hv] at h
  split at h
  case h_2=>simp at h
  rename_i t q i o he
  simp only [KJ] at he
  split at h
  case h_2=>simp at h
  rename_i A hA
  simp only [KJ] at h;subst h
  exact qU hA (hO _ (by simp [SR.O])) he
 case fad off x'=>
  subst hx
  rw [hv] at h
  split at h
  case h_2=>simp at h
  rename_i t q i o he
  simp only [KJ] at he
  split at h
  case h_2=>simp at h
  rename_i A hA
  simp only [KJ] at h;subst h
  exact qU hA (hO _ (by simp [SR.O])) he
 case iad sz x' y=>
  subst hx
  rw [hv] at h
  split at h
  case h_2=>simp at h
  rename_i t q b he hy
  simp only [KJ] at he
  split at h
  case h_2=>simp at h
  rename_i A n l hA hb
  split at h
  case isFalse=>simp at h
  simp only [KJ] at h;subst h
  exact qT hA (hO _ (by simp [SR.O])) he
 case len s x'=>
  subst hx
  cases s with
  |true=>simp at h
  |false=>
   simp only at h
   rw [hv] at h
   split at h
   case h_2=>simp at h
   rename_i t q he
   simp only [KJ] at he
   split at h
   case h_2=>simp at h
   rename_i A hA
   simp only [KJ] at h;subst h
   exact qT hA (hO _ (by simp [SR.O])) he
 case cpy sz x' y=>
  split at h
  case h_2=>simp at h
  rename_i t q b cV hy
  split at h
  case h_2=>simp at h
  rename_i A O t' ys hA dC
  split at h
  case isFalse=>simp at h
  rename_i ht
  subst ht
  split at h
  case isFalse=>simp at h
  simp only [KJ] at h;subst h
  simp only [SR.O,Lj,KT] at hO
  rcases hx with rfl|rfl
  ·rw [hv] at hy
   simp only [KJ] at hy;subst hy
   cases v with
   |rw t2 q2=>
    simp only [oS] at dC
    split at dC
    ·rename_i A2 GR
     split at dC
     ·simp only [KJ,KZ] at dC
      obtain ⟨rfl,_⟩:=dC
      exact qT GR (hO _ (.inl (KT.2 rfl))) rfl
     ·simp at dC
    ·simp at dC
   |cH t2 q2 i o=>simp [oS,SS.cont] at dC
   |_=>simp [SV.isRw] at hr
  ·rw [hv] at cV
   simp only [KJ] at cV
   exact qT hA (hO _ (.inr rfl):q.lM A).ok cV
end
open Go.RowKit
def au.aW (n:Nat) (N N':au):Prop:=(∀a,a<n->N'.ι a=N.ι a/\N'.ln a=N.ln a)/\N'.ρ=N.ρ
theorem au.dH (n:Nat) (N:au):N.aW n N:=⟨fun _ _=>⟨rfl,rfl⟩,rfl⟩
theorem au.ef {m:Nat} {N' bF:au} (h:N.aW n N') (k:N'.aW m bF) (hm:n<=m):N.aW n bF:=
 ⟨fun a ha=>⟨((k.1 a (by omega)).1).trans (h.1 a ha).1,((k.1 a (by omega)).2).trans (h.1 a ha).2⟩,k.2.trans h.2⟩
def au.cN (N:au) (nm id ln:Nat):au:=⟨fun a=>if a=nm then id else N.ι a,fun a=>if a=nm then ln else N.ln a,N.ρ⟩
theorem au.jP (N:au) (nm id ln:Nat):N.aW nm (N.cN nm id ln):=
 ⟨fun a ha=>⟨KK (by omega),KK (by omega)⟩,rfl⟩
section
variable {τ:Type} {dn:τ->Type} {D:TD τ dn}
structure Rel (D:TD τ dn) (N:au) (st:SS τ dn) (s:S3):Prop where
 at_:∀N',N.aW st.nx N'->aS D N' st s.σ s.g
 inj:∀a b,a<st.nx->b<st.nx->N.ι a=N.ι b->a=b
 lt:∀a,a<st.nx->N.ι a<s.k
 ml:∀nm B,getS st.m nm=some B->nm<st.nx
 rl:∀nm B,getS st.rm nm=some B->nm<st.nx
 sp:∀t A,st.bd 0 (.ar t A)->∀id,dj A id->id<s.k/\∀nm B,st.bd nm B->N.ι nm≠id
theorem Rel.here {st:SS τ dn} {s:S3} (R:Rel D N st s):aS D N st s.σ s.g:=R.at_ N (N.dH _)
def dstS (n:Nat) (rt:List (Nat×SV τ dn)):Option Nat->Bool
 |none=>true
 |some d=>Nat.blt d n&&(getS rt d).isNone
def ga (t:List (Nat×SV τ dn)):Option Nat->SV τ dn->List (Nat×SV τ dn)
 |none,_=>t
 |some d,v=>(d,v)::t
theorem aR {v:α} {r:List (Nat×α)}:getS ((j,v)::r) i=if i=j then some v else getS r i:=by
 simp only [getS]
 by_cases h:i=j
 ·subst h;simp
 ·have:Nat.beq i j=false:=by
   cases hb:Nat.beq i j with
   |false=>rfl
   |true=>exact absurd (K1 hb) h
  simp [this,h]
theorem kM {rt t:List (Nat×SV τ dn)} {v:SV τ dn} {a:AV} (hd:dstS n rt d=true)
  (h1:∀i v,getS t i=some v->σ i=v.av D.toTE N) (h2:∀i v,getS rt i=some v->σ i=v.av D.toTE N) (ha:a=v.av D.toTE N):
  (∀i w,getS (ga t d v) i=some w->bp n d a σ i=w.av D.toTE N)/\(∀i w,getS rt i=some w->bp n d a σ i=w.av D.toTE N):=by
 cases d with
 |none=>exact ⟨fun i w h=>by simp only [bp];rw [KK (by simp)];exact h1 i w h,fun i w h=>by simp only [bp];rw [KK (by simp)];exact h2 i w h⟩
 |some d=>
  simp only [dstS,KM] at hd
  have tw:d<n:=Ly hd.1
  refine ⟨fun i w h=> ?_,fun i w h=> ?_⟩
  ·simp only [ga,aR] at h
   simp only [bp,KJ]
   by_cases hi:i=d
   ·subst hi
    rw [KL rfl,KJ] at h
    rw [KL ⟨rfl,tw⟩,ha,h]
   ·rw [KK hi] at h
    rw [KK (fun hh=>hi hh.1.symm)];exact h1 i w h
  ·simp only [bp,KJ]
   have hi:¬d=i:=fun e=>by subst e;rw [h] at hd;simp at hd
   rw [KK (fun hh=>hi hh.1)];exact h2 i w h
def SR.st (st:SS τ dn) (d:Option Nat):SR τ dn->SS τ dn
 | .val _ v=>⟨st.rt,st.rm,ga st.t d v,st.m,st.nx⟩
 | .new _ v B=>⟨st.rt,st.rm,ga st.t d v,(st.nx,some B)::st.m,st.nx+1⟩
 | .put _ v nm B=>⟨st.rt,st.rm,ga st.t d v,(nm,some B)::st.m,st.nx⟩
 | .mov _ v aJ B=>⟨st.rt,st.rm,ga st.t d v,(st.nx,some B)::(aJ,none)::st.m,st.nx+1⟩
 | .fa _ v ns=>⟨st.rt,st.rm,ga st.t d v,(ns.map fun a=>(a,none))++st.m,st.nx⟩
 | .dW _ v id t row A=>⟨st.rt,st.rm,ga st.t d v,(0,some (.ar t ((id,row)::A)))::st.m,st.nx⟩
def SR.keys (st:SS τ dn):SR τ dn->List Nat
 | .val _ _=>[]
 | .new _ _ _=>[st.nx]
 | .put _ _ nm _=>[nm]
 | .mov _ _ aJ _=>[aJ,st.nx]
 | .fa _ _ ns=>ns
 | .dW _ _ _ _ _ _=>[0]
def SR.may (D:TD τ dn) (N:au) (st:SS τ dn):SR τ dn->Prop
 | .put _ _ nm B=>(∃B0,getS st.m nm=some (some B0)/\N.ln nm=B.len)/\getS st.rm nm=none/\B.gw=false
 | .mov _ _ aJ B=>(∃B0,getS st.m aJ=some (some B0))/\getS st.rm aJ=none/\B.gw=false
 | .fa _ _ ns=>∀a,a∈ns->(∃B0,getS st.m a=some (some B0))/\getS st.rm a=none
 | .new _ _ B=>B.gw=false
 | .dW _ _ id t _ A=>getS st.m 0=some (some (.ar t A))/\getS st.rm 0=none/\dj A id
 | .val _ _=>True
def SR.up (N:au) (st:SS τ dn) (k:Nat):SR τ dn->au
 | .new _ _ B| .mov _ _ _ B=>N.cN st.nx k B.len
 |_=>N
def SR.k1 (k:Nat):SR τ dn->Nat
 | .new _ _ _| .mov _ _ _ _=>k+1
 |_=>k
theorem oT:∀(l:List Nat) (g:Nat->Option Bk) (id:Nat),aj g (l.map fun i=>(i,none)) id=if id∈l then none else g id
 |[],g,id=>by simp [aj]
 |a::r,g,id=>by
  rw [KW,aj,oT r]
  by_cases h1:id∈r<;>by_cases h2:id=a<;>simp [h1,h2]
theorem oV {α:Type} {m:List (Nat×Option α)}:∀{ns:List Nat} {i:Nat} {B:Option α},getS ((ns.map fun a=>(a,none))++m) i=some B->(i∈ns/\B=none)\/(¬i∈ns/\getS m i=some B)
 |[],i,B,h=> .inr ⟨by simp,h⟩
 |a::r,i,B,h=>by
  rw [KW,L2,aR] at h
  by_cases hi:i=a
  ·rw [KL hi,KJ] at h;exact .inl ⟨by simp [hi],h.symm⟩
  ·rw [KK hi] at h
   rcases oV h with ⟨h1,h2⟩|⟨h1,h2⟩
   ·exact .inl ⟨by simp [h1],h2⟩
   ·exact .inr ⟨by simp [hi,h1],h2⟩
theorem yQ {rt rt' t t':List (Nat×SV τ dn)} {rm m:List (Nat×Option (SB τ dn))} {nx nx' dF:Nat} {x:Option (SB τ dn)} (nm:Nat):(⟨rt,rm,t,(dF,x)::m,nx⟩:SS τ dn).gm nm=if nm=dF then x else (⟨rt',rm,t',m,nx'⟩:SS τ dn).gm nm:=by
 unfold SS.gm
 simp only [aR]
 by_cases h:nm=dF
 ·rw [KL h,KL h]
 ·rw [KK h,KK h]
theorem kN {st:SS τ dn} {x:Option (SB τ dn)} (h:getS st.m nm=some x):st.gm nm=x:=by unfold SS.gm;rw [h]
theorem Rel.go {st:SS τ dn} {s:S3} (R:Rel D N st s) (hd:dstS n st.rt d=true) {r:SR τ dn} (hm:r.may D N st) {val:AV} (hv:∀N',(r.up N st s.k).aW (r.st st d).nx N'->val=r.v.av D.toTE N') {ups:List (Nat×Option Bk)} (hu:∀N',(r.up N st s.k).aW (r.st st d).nx N'->ups=r.ups D N' s.k):
  Rel D (r.up N st s.k) (r.st st d) ⟨bp n d val s.σ,aj s.g ups,r.k1 s.k⟩:=by
 have yR:∀(N':au) (nm:Nat) (B:SB τ dn) (id:Nat) (x:Option Bk),getS st.rm nm=some (some B)->aS D N' st s.σ s.g->¬N'.ι nm=id->(if N'.ι nm=id then x else s.g (N'.ι nm))=some (B.av D.toTE N')/\N'.ln nm=B.len:=fun N' nm B id x h A aA=>by rw [KK aA];exact A.rb nm B h
 cases r with
 |val O v=>
  refine ⟨fun N' hN=> ?_,R.inj,R.lt,R.ml,R.rl,R.sp⟩
  have A:=R.at_ N' hN
  obtain ⟨q1,q2⟩:=kM (D:=D) (n:=n) (v:=v) (a:=val) hd A.sl A.rs (hv N' hN)
  have e:=hu N' hN
  simp only [SR.ups] at e
  subst e
  exact ⟨q1,q2,A.bl,A.rb,A.ar⟩
 |new O v B=>
  have dD:∀N',(N.cN st.nx s.k B.len).aW (st.nx+1) N'->N.aW st.nx N'/\N'.ι st.nx=s.k/\N'.ln st.nx=B.len:=fun N' hN=>by
   refine ⟨au.ef (N.jP st.nx s.k B.len) hN (by omega), ?_, ?_⟩
   ·rw [(hN.1 st.nx (by omega)).1];exact KL rfl
   ·rw [(hN.1 st.nx (by omega)).2];exact KL rfl
  have ir:∀t A,(SR.st st d (SR.new O v B:SR τ dn)).bd 0 (.ar t A)->st.bd 0 (.ar t A):=fun t A h=>by
   rcases h with h|h
   ·simp only [SR.st,aR] at h
    by_cases h0:0=st.nx
    ·rw [KL h0,KJ,KJ] at h
     have c8:B.gw=false:=hm
     subst h;simp [SB.gw] at c8
    ·rw [KK h0] at h;exact .inl h
   ·exact .inr h
  refine ⟨fun N' hN=> ?_,fun a b ha hb he=> ?_,fun a ha=> ?_,fun nm B' h=> ?_,fun nm B' h=>Mr (R.rl nm B' h),fun t A h id hid=> ?_⟩
  ·obtain ⟨h1,h2,h3⟩:=dD N' hN
   have A:=R.at_ N' h1
   obtain ⟨q1,q2⟩:=kM (D:=D) (n:=n) (v:=v) (a:=val) hd A.sl A.rs (hv N' hN)
   have e:=hu N' hN
   simp only [SR.ups] at e
   subst e
   have aA:∀nm,nm<st.nx->¬N'.ι nm=s.k:=fun nm eR he=>by
    rw [(h1.1 nm eR).1] at he;have:=R.lt nm eR;omega
   refine ⟨q1,q2,fun nm B' h=> ?_,fun nm B' h=> ?_,fun t A' h id hid=> ?_⟩
   ·simp only [SR.st,aR] at h
    simp only [aj]
    by_cases hn:nm=st.nx
    ·subst hn
     rw [KL rfl,KJ,KJ] at h
     subst h
     rw [KL h2];exact ⟨rfl,h3⟩
    ·rw [KK hn] at h
     rw [KK (aA nm (R.ml nm _ h))];exact A.bl nm B' h
   ·simp only [aj];exact yR N' nm B' _ _ h A (aA nm (R.rl nm _ h))
   ·have h':=ir t A' h
    simp only [aj]
    rw [KK (fun e=>by have:=(R.sp t A' h' id hid).1;omega)]
    exact A.ar t A' h' id hid
  ·simp only [SR.st] at ha hb
   simp only [SR.up,au.cN] at he
   by_cases h1:a=st.nx<;>by_cases h2:b=st.nx
   ·rw [h1,h2]
   ·rw [KL h1,KK h2] at he;have:=R.lt b (by omega);omega
   ·rw [KK h1,KL h2] at he;have:=R.lt a (by omega);omega
   ·rw [KK h1,KK h2] at he;exact R.inj a b (by omega) (by omega) he
  ·simp only [SR.st] at ha
   simp only [SR.up,au.cN,SR.k1]
   by_cases h1:a=st.nx
   ·rw [KL h1];omega
   ·rw [KK h1];have:=R.lt a (by omega);omega
  ·simp only [SR.st,aR] at h ⊢
   by_cases hn:nm=st.nx
   ·omega
   ·rw [KK hn] at h;have:=R.ml nm _ h;omega
  ·have h':=ir t A h
   obtain ⟨h1,h2⟩:=R.sp t A h' id hid
   refine ⟨Mr h1,fun nm B' aP=> ?_⟩
   simp only [SR.up,au.cN]
   by_cases hn:nm=st.nx
   ·rw [KL hn];omega
   ·rw [KK hn]
    simp only [SS.bd,SR.st,aR] at aP
    rw [KK hn] at aP
    exact h2 nm B' aP
 |put O v dF B=>
  obtain ⟨⟨B0,bV,aZ⟩,mJ,uC⟩:=hm
  have h0:=R.ml dF _ bV
  have ir:∀t A,(SR.st st d (SR.put O v dF B:SR τ dn)).bd 0 (.ar t A)->st.bd 0 (.ar t A):=fun t A h=>by
   rcases h with h|h
   ·simp only [SR.st,aR] at h
    by_cases h1:0=dF
    ·rw [KL h1,KJ,KJ] at h
     subst h;simp [SB.gw] at uC
    ·rw [KK h1] at h;exact .inl h
   ·exact .inr h
  refine ⟨fun N' hN=> ?_,R.inj,R.lt,fun nm B' h=> ?_,R.rl,fun t A h id hid=> ?_⟩
  ·have A:=R.at_ N' hN
   obtain ⟨q1,q2⟩:=kM (D:=D) (n:=n) (v:=v) (a:=val) hd A.sl A.rs (hv N' hN)
   have e:=hu N' hN
   simp only [SR.ups] at e
   subst e
   have aA:∀nm,nm<st.nx->¬nm=dF->¬N'.ι nm=N'.ι dF:=fun nm eR hx he=>by
    rw [(hN.1 nm eR).1,(hN.1 dF h0).1] at he;exact hx (R.inj _ _ eR h0 he)
   refine ⟨q1,q2,fun nm B' h=> ?_,fun nm B' h=> ?_,fun t A' h id hid=> ?_⟩
   ·simp only [SR.st,aR] at h
    simp only [aj]
    by_cases hn:nm=dF
    ·subst hn
     rw [KL rfl,KJ,KJ] at h
     subst h
     rw [KL rfl];exact ⟨rfl,by rw [(hN.1 nm h0).2];exact aZ⟩
    ·rw [KK hn] at h
     rw [KK (aA nm (R.ml nm _ h) hn)];exact A.bl nm B' h
   ·simp only [aj]
    have h':getS st.rm nm=some (some B'):=h
    by_cases hn:nm=dF
    ·subst hn;rw [mJ] at h';simp at h'
    ·exact yR N' nm B' _ _ h' A (aA nm (R.rl nm _ h') hn)
   ·have h':=ir t A' h
    simp only [aj]
    rw [KK (fun e=>(R.sp t A' h' id hid).2 dF B0 (.inl bV) (((hN.1 dF h0).1).symm.trans e.symm))]
    exact A.ar t A' h' id hid
  ·simp only [SR.st,aR] at h ⊢
   by_cases hn:nm=dF
   ·subst hn;exact h0
   ·rw [KK hn] at h;exact R.ml nm _ h
  ·obtain ⟨h1,h2⟩:=R.sp t A (ir t A h) id hid
   refine ⟨h1,fun nm B' aP=> ?_⟩
   simp only [SS.bd,SR.st,aR] at aP
   by_cases hn:nm=dF
   ·subst hn;exact h2 nm B0 (.inl bV)
   ·rw [KK hn] at aP;exact h2 nm B' aP
 |fa O v ns=>
  have hal:∀nm B',(SR.st st d (SR.fa O v ns:SR τ dn)).bd nm B'->st.bd nm B':=fun nm B' h=>by
   rcases h with h|h
   ·rcases oV h with ⟨_,h2⟩|⟨_,h2⟩
    ·simp at h2
    ·exact .inl h2
   ·exact .inr h
  have ir:∀t A,(SR.st st d (SR.fa O v ns:SR τ dn)).bd 0 (.ar t A)->st.bd 0 (.ar t A):=fun t A h=>hal 0 _ h
  refine ⟨fun N' hN=> ?_,R.inj,R.lt,fun nm B' h=> ?_,R.rl,fun t A h id hid=> ?_⟩
  ·have A:=R.at_ N' hN
   obtain ⟨q1,q2⟩:=kM (D:=D) (n:=n) (v:=v) (a:=val) hd A.sl A.rs (hv N' hN)
   have e:=hu N' hN
   simp only [SR.ups] at e
   subst e
   have aA:∀nm,nm<st.nx->¬nm∈ns->¬N'.ι nm∈ns.map N'.ι:=fun nm eR hx he=>by
    obtain ⟨a,ha,e⟩:=Li.1 he
    obtain ⟨⟨B0,bV⟩,_⟩:=hm a ha
    have h0:=R.ml a _ bV
    rw [(hN.1 nm eR).1,(hN.1 a h0).1] at e
    have:=R.inj _ _ h0 eR e
    subst this;exact hx ha
   refine ⟨q1,q2,fun nm B' h=> ?_,fun nm B' h=> ?_,fun t A' h id hid=> ?_⟩
   ·rcases oV h with ⟨_,h2⟩|⟨h1,h2⟩
    ·simp at h2
    ·show aj s.g _ _=_/\_
     rw [oT,KK (aA nm (R.ml nm _ h2) h1)];exact A.bl nm B' h2
   ·have h':getS st.rm nm=some (some B'):=h
    have hx:¬nm∈ns:=fun hh=>by have:=(hm nm hh).2;rw [this] at h';simp at h'
    show aj s.g _ _=_/\_
    rw [oT,KK (aA nm (R.rl nm _ h') hx)];exact A.rb nm B' h'
   ·have h':=ir t A' h
    show aj s.g _ _=_
    rw [oT,KK]
    ·exact A.ar t A' h' id hid
    ·intro fQ
     obtain ⟨a,ha,e⟩:=Li.1 fQ
     obtain ⟨⟨B0,bV⟩,_⟩:=hm a ha
     exact (R.sp t A' h' id hid).2 a B0 (.inl bV) (((hN.1 a (R.ml a _ bV)).1).symm.trans e)
  ·rcases oV h with ⟨h1,h2⟩|⟨h1,h2⟩
   ·obtain ⟨⟨B0,bV⟩,_⟩:=hm nm h1
    exact R.ml nm _ bV
   ·exact R.ml nm _ h2
  ·obtain ⟨h1,h2⟩:=R.sp t A (ir t A h) id hid
   exact ⟨h1,fun nm B' aP=>h2 nm B' (hal nm B' aP)⟩
 |mov O v aJ B=>
  obtain ⟨⟨B0,bV⟩,mJ,uC⟩:=hm
  have h0:=R.ml aJ _ bV
  have dD:∀N',(N.cN st.nx s.k B.len).aW (st.nx+1) N'->N.aW st.nx N'/\N'.ι st.nx=s.k/\N'.ln st.nx=B.len:=fun N' hN=>by
   refine ⟨au.ef (N.jP st.nx s.k B.len) hN (by omega), ?_, ?_⟩
   ·rw [(hN.1 st.nx (by omega)).1];exact KL rfl
   ·rw [(hN.1 st.nx (by omega)).2];exact KL rfl
  have ir:∀t A,(SR.st st d (SR.mov O v aJ B:SR τ dn)).bd 0 (.ar t A)->st.bd 0 (.ar t A):=fun t A h=>by
   rcases h with h|h
   ·simp only [SR.st,aR] at h
    by_cases h1:0=st.nx
    ·rw [KL h1,KJ,KJ] at h
     subst h;simp [SB.gw] at uC
    ·rw [KK h1] at h
     by_cases h2:0=aJ
     ·rw [KL h2] at h;simp at h
     ·rw [KK h2] at h;exact .inl h
   ·exact .inr h
  refine ⟨fun N' hN=> ?_,fun a b ha hb he=> ?_,fun a ha=> ?_,fun nm B' h=> ?_,fun nm B' h=>Mr (R.rl nm B' h),fun t A h id hid=> ?_⟩
  ·obtain ⟨h1,h2,h3⟩:=dD N' hN
   have A:=R.at_ N' h1
   obtain ⟨q1,q2⟩:=kM (D:=D) (n:=n) (v:=v) (a:=val) hd A.sl A.rs (hv N' hN)
   have e:=hu N' hN
   simp only [SR.ups] at e
   subst e
   have aA:∀nm,nm<st.nx->¬N'.ι nm=s.k:=fun nm eR he=>by
    rw [(h1.1 nm eR).1] at he;have:=R.lt nm eR;omega
   have yS:∀nm,nm<st.nx->¬nm=aJ->¬N'.ι nm=N'.ι aJ:=fun nm eR hx he=>by
    rw [(h1.1 nm eR).1,(h1.1 aJ h0).1] at he;exact hx (R.inj _ _ eR h0 he)
   refine ⟨q1,q2,fun nm B' h=> ?_,fun nm B' h=> ?_,fun t A' h id hid=> ?_⟩
   ·simp only [SR.st,aR] at h
    simp only [aj]
    by_cases hn:nm=st.nx
    ·subst hn
     rw [KL rfl,KJ,KJ] at h
     subst h
     rw [KL h2];exact ⟨rfl,h3⟩
    ·rw [KK hn] at h
     by_cases ho:nm=aJ
     ·rw [KL ho] at h;simp at h
     ·rw [KK ho] at h
      rw [KK (aA nm (R.ml nm _ h)),KK (yS nm (R.ml nm _ h) ho)];exact A.bl nm B' h
   ·simp only [aj]
    have h':getS st.rm nm=some (some B'):=h
    by_cases ho:nm=aJ
    ·subst ho;rw [mJ] at h';simp at h'
    ·rw [KK (aA nm (R.rl nm _ h')),KK (yS nm (R.rl nm _ h') ho)];exact A.rb nm B' h'
   ·have h':=ir t A' h
    simp only [aj]
    rw [KK (fun e=>by have:=(R.sp t A' h' id hid).1;omega),KK (fun e=>(R.sp t A' h' id hid).2 aJ B0 (.inl bV) (by rw [<-(h1.1 aJ h0).1];exact e.symm))]
    exact A.ar t A' h' id hid
  ·simp only [SR.st] at ha hb
   simp only [SR.up,au.cN] at he
   by_cases h1:a=st.nx<;>by_cases h2:b=st.nx
   ·rw [h1,h2]
   ·rw [KL h1,KK h2] at he;have:=R.lt b (by omega);omega
   ·rw [KK h1,KL h2] at he;have:=R.lt a (by omega);omega
   ·rw [KK h1,KK h2] at he;exact R.inj a b (by omega) (by omega) he
  ·simp only [SR.st] at ha
   simp only [SR.up,au.cN,SR.k1]
   by_cases h1:a=st.nx
   ·rw [KL h1];omega
   ·rw [KK h1];have:=R.lt a (by omega);omega
  ·simp only [SR.st,aR] at h ⊢
   by_cases hn:nm=st.nx
   ·omega
   ·rw [KK hn] at h
    by_cases ho:nm=aJ
    ·omega
    ·rw [KK ho] at h;have:=R.ml nm _ h;omega
  ·obtain ⟨h1,h2⟩:=R.sp t A (ir t A h) id hid
   refine ⟨Mr h1,fun nm B' aP=> ?_⟩
   simp only [SR.up,au.cN]
   by_cases hn:nm=st.nx
   ·rw [KL hn];omega
   ·rw [KK hn]
    simp only [SS.bd,SR.st,aR] at aP
    rw [KK hn] at aP
    by_cases ho:nm=aJ
    ·subst ho;exact h2 nm B0 (.inl bV)
    ·rw [KK ho] at aP;exact h2 nm B' aP
 |dW O v jQ t0 row A0=>
  obtain ⟨hg0,mJ,yT⟩:=hm
  have hU:=kN hg0
  have yU:=R.ml 0 _ hg0
  have uD:st.bd 0 (.ar t0 A0):= .inl hg0
  obtain ⟨hk0,GS⟩:=R.sp t0 A0 uD jQ yT
  have yV:∀t A,(SR.st st d (SR.dW O v jQ t0 row A0:SR τ dn)).bd 0 (.ar t A)->(SB.ar t A:SB τ dn)= .ar t0 ((jQ,row)::A0):=fun t A h=>by
   rcases h with h|h
   ·simp only [SR.st,aR,KN,KJ] at h;exact h.symm
   ·have h':getS st.rm 0=some (some (.ar t A)):=h
    rw [mJ] at h';simp at h'
  have aA:∀(N':au),N.aW st.nx N'->∀nm B',st.bd nm B'->nm<st.nx->¬N'.ι nm=jQ:=fun N' hN nm B' aP hlt e=>GS nm B' aP (by rw [<-(hN.1 nm hlt).1];exact e)
  refine ⟨fun N' hN=> ?_,R.inj,R.lt,fun nm B' h=> ?_,R.rl,fun t A h id hid=> ?_⟩
  ·have A:=R.at_ N' hN
   obtain ⟨q1,q2⟩:=kM (D:=D) (n:=n) (v:=v) (a:=val) hd A.sl A.rs (hv N' hN)
   have e:=hu N' hN
   simp only [SR.ups] at e
   subst e
   refine ⟨q1,q2,fun nm B' h=> ?_,fun nm B' h=> ?_,fun t A' h id hid=> ?_⟩
   ·simp only [SR.st,aR] at h
    simp only [aj]
    by_cases hn:nm=0
    ·subst hn
     rw [KL rfl,KJ,KJ] at h
     subst h
     rw [KK (aA N' hN 0 _ (.inl hg0) yU)]
     have q:=A.bl 0 _ hg0
     exact ⟨q.1,q.2⟩
    ·rw [KK hn] at h
     rw [KK (aA N' hN nm _ (.inl h) (R.ml nm _ h))];exact A.bl nm B' h
   ·simp only [aj]
    have h':getS st.rm nm=some (some B'):=h
    rw [KK (aA N' hN nm _ (.inr h') (R.rl nm _ h'))];exact A.rb nm B' h'
   ·have h:=yV t A' h
    simp only [SB.ar.injEq] at h
    obtain ⟨rfl,h⟩:=h
    have h:=eq_of_heq h
    subst h
    simp only [aj]
    rw [yz]
    by_cases hi:id=jQ
    ·rw [KL hi,KL hi]
    ·rw [KK hi,KK hi]
     rcases ot.1 hid with hh|hh
     ·exact absurd hh hi
     ·exact A.ar _ A0 uD id hh
  ·simp only [SR.st,aR] at h ⊢
   by_cases hn:nm=0
   ·subst hn;exact yU
   ·rw [KK hn] at h;exact R.ml nm _ h
  ·have h:=yV t A h
   simp only [SB.ar.injEq] at h
   obtain ⟨rfl,h⟩:=h
   have h:=eq_of_heq h
   subst h
   have g5:dj A0 id:=by
    rcases ot.1 hid with hh|hh
    ·subst hh;exact yT
    ·exact hh
   obtain ⟨h1,h2⟩:=R.sp _ A0 uD id g5
   refine ⟨h1,fun nm B' aP=> ?_⟩
   simp only [SS.bd,SR.st,aR] at aP
   by_cases hn:nm=0
   ·subst hn;exact h2 0 _ (.inl hg0)
   ·rw [KK hn] at aP;exact h2 nm B' aP
def SR.fc:SR τ dn->Bool
 | .val _ _=>true
 | .new _ _ B=> !B.gw
 |_=>false
theorem qV {st:SS τ dn} {r:SR τ dn} (h:r.fc=true):r.may D N st:=by cases r<;>first|trivial|(simp [SR.fc] at h;done)|(simpa [SR.fc,SR.may] using h)
theorem GU {x y:Int} {r:SR τ dn} (h:oB neg op x y=some r):r.fc=true:=by
 unfold oB at h
 cases neg<;>simp only [KP,K4] at h
 repeat' split at h
 all_goals first|(simp at h;done)|(simp only [KJ] at h;subst h;rfl)|(simp only [KR] at h;obtain ⟨_,_,rfl⟩:=h;rfl)
theorem GV {x y:ByteArray} {r:SR τ dn} (h:oZ op x y=some r):r.fc=true:=by
 unfold oZ at h
 repeat' split at h
 all_goals first|(simp at h;done)|(simp only [KJ] at h;subst h;rfl)|(simp only [KR] at h;obtain ⟨_,_,rfl⟩:=h;rfl)
theorem GW {op:UnOp} {a:SV τ dn} {r:SR τ dn} (h:oE op a=some r):r.fc=true:=by
 unfold oE at h
 repeat' split at h
 all_goals first|(simp at h;done)|(simp only [KJ] at h;subst h;rfl)|(simp only [KR] at h;obtain ⟨_,_,rfl⟩:=h;rfl)
theorem GX {a:SV τ dn} {r:SR τ dn} (h:oF k a=some r):r.fc=true:=by
 unfold oF at h
 repeat' split at h
 all_goals first|(simp at h;done)|(simp only [KJ] at h;subst h;rfl)|(simp only [KR] at h;obtain ⟨_,_,rfl⟩:=h;rfl)
theorem GY {st:SS τ dn} {v:SV τ dn} {r:SR τ dn} (h:lQ D st m v=some r):r.fc=true:=by
 unfold lQ at h
 repeat' split at h
 all_goals first|(simp at h;done)|(simp only [KJ] at h;subst h;rfl)|(simp only [KR] at h;obtain ⟨_,_,rfl⟩:=h;rfl)
theorem GZ {st:SS τ dn} {sz:Nat} {v:SV τ dn} {n:Int} {r:SR τ dn} (h:oI D st sz v n l=some r):r.fc=true:=by
 unfold oI at h
 cases l<;>simp only [KP,K4] at h
 repeat' split at h
 all_goals first|(simp at h;done)|(simp only [KJ] at h;subst h;rfl)|(simp only [KR] at h;obtain ⟨_,_,rfl⟩:=h;rfl)
theorem G0 {st:SS τ dn} {v:SV τ dn} {r:SR τ dn} (h:oJ st b v=some r):r.fc=true:=by
 unfold oJ at h
 repeat' split at h
 all_goals first|(simp at h;done)|(simp only [KJ] at h;subst h;rfl)|(simp only [KR] at h;obtain ⟨_,_,rfl⟩:=h;rfl)
theorem G1 {st:SS τ dn} {v:SV τ dn} {r:SR τ dn} (h:oK st kd neg v=some r):r.fc=true:=by
 unfold oK at h
 repeat' split at h
 all_goals first|(simp at h;done)|(simp only [KJ] at h;subst h;rfl)|(simp only [KR] at h;obtain ⟨_,_,rfl⟩:=h;rfl)
theorem yW {st:SS τ dn} {sz:Nat} {v:SV τ dn} {r:SR τ dn} (h:oL D st sz v lo hi=some r):r.fc=true:=by
 unfold oL at h
 repeat' split at h
 all_goals first|(simp at h;done)|(simp only [KJ] at h;subst h;rfl)|(simp only [KR] at h;obtain ⟨_,_,rfl⟩:=h;rfl)
theorem G2 {st:SS τ dn} {v:SV τ dn} {r:SR τ dn} (h:oN D st v=some r):r.fc=true:=by
 unfold oN at h
 repeat' split at h
 all_goals first|(simp at h;done)|(simp only [KJ] at h;subst h;rfl)
theorem G3 {st:SS τ dn} {r:SR τ dn} (h:oO D st s=some r):r.fc=true:=by
 unfold oO at h
 repeat' split at h
 all_goals first|(simp at h;done)|(simp only [KJ] at h;subst h;rfl)
theorem G4 {st:SS τ dn} {sz by_:Nat} {zs:List AV} {l:Int} {r:SR τ dn} (h:oP D st sz by_ zs l c=some r):r.fc=true:=by
 unfold oP at h
 repeat' split at h
 all_goals first|(simp at h;done)|(simp only [KJ] at h;subst h;rfl)|(simp only [KR] at h;obtain ⟨_,_,rfl⟩:=h;rfl)
theorem G5 {bt:Bool} {a b:SV τ dn} {r:SR τ dn} (h:oD neg bt op a b=some r):r.fc=true:=by
 unfold oD at h
 repeat' split at h
 all_goals first|exact GU h|exact GV h|first|(simp at h;done)|(simp only [KJ] at h;subst h;rfl)|(simp only [KR] at h;obtain ⟨_,_,rfl⟩:=h;rfl)
theorem iu {st:SS τ dn} (h:st.rw nm=true):(∃B0,getS st.m nm=some (some B0))/\getS st.rm nm=none:=by
 unfold SS.rw at h
 rw [KM] at h
 refine ⟨?_,by simpa using h.2⟩
 have h1:=h.1
 split at h1
 ·rename_i B hB;exact ⟨B,hB⟩
 ·simp at h1
theorem G6 (sz:Nat) (c:Ct τ dn):(c.iW sz).gw=false:=by cases c<;>rfl
theorem G7 [DecidableEq τ] {sz:Nat} {B B':SB τ dn} {c:Ct τ dn} (h:lP D sz B c=some B'):B'.gw=false:=by
 unfold lP at h
 repeat' split at h
 all_goals first|(simp at h;done)|(simp only [KJ] at h;subst h;rfl)|(simp only [KR] at h;obtain ⟨_,_,rfl⟩:=h;rfl)
theorem G8 [DecidableEq τ] {st:SS τ dn} {g:Nat->Option Bk} (R:aS D N st σ g):∀{ao:AO} {r:SR τ dn},sx D st ao=some r->r.may D N st:=by
 intro ao r h
 have val:∀{O:List Prop} {v:SV τ dn},(SR.val O v).may D N st:=trivial
 have dS:∀{O:List Prop} {v:SV τ dn} {nm:Nat} {B0 B:SB τ dn},st.rw nm=true->st.gm nm=some B0->B.len=B0.len->(hb:B.gw=false:=by rfl)->(SR.put O v nm B).may D N st:=fun h1 h2 h3 hb=>by
  obtain ⟨⟨B1,h4⟩,h5⟩:=iu h1
  exact ⟨⟨B1,h4,by rw [h3];exact (R.gm h2).2⟩,h5,hb⟩
 cases ao<;>simp only [sx] at h
 case store n x y=>
  split at h
  ·unfold qH at h
   split at h
   ·split at h
    ·split at h
     ·rename_i hc
      split at h
      ·rename_i hB
       split at h
       ·split at h
        ·simp only [KJ] at h;subst h;exact dS hc.2 hB (by simp [SB.len])
        ·simp at h
       ·simp at h
      ·rename_i hB
       split at h
       ·split at h
        ·simp only [KJ] at h;subst h;exact dS hc.2 hB (by simp [SB.len])
        ·simp at h
       ·simp at h
      ·simp at h
     ·simp at h
    ·simp at h
   ·simp at h
  ·simp at h
 case app sz by_ x y=>
  split at h
  ·unfold qI at h
   split at h
   ·split at h
    ·simp only [KJ] at h;subst h;exact G6 _ _
    ·split at h
     ·rename_i hc
      split at h
      ·split at h
       ·simp only [KR] at h;obtain ⟨B',aP,rfl⟩:=h;exact ⟨(iu hc.2).1,(iu hc.2).2,G7 aP⟩
       ·simp at h
      ·simp at h
     ·simp at h
    ·simp at h
   ·simp at h
  ·simp at h
 case cpy sz x y=>
  split at h
  ·unfold qJ at h
   split at h
   ·split at h
    ·rename_i hc
     split at h
     ·rename_i hB
      split at h
      ·rename_i he
       subst he
       split at h
       ·simp only [KJ] at h;subst h
        exact dS hc.2 hB (by simp only [SB.len,Ma,L5,List.length_drop];omega)
       ·simp at h
      ·simp at h
     ·simp at h
    ·simp at h
   ·simp at h
  ·simp at h
 case mup kd x k y=>
  split at h
  ·unfold qL at h
   split at h
   case h_2=>simp at h
   rename_i nm key iK _
   split at h
   case h_2=>simp at h
   rename_i els hB
   cases hb:(st.rw nm&&plainV key) with
   |false=>rw [hb] at h;simp at h
   |true=>
    rw [hb,KP] at h
    rw [KM] at hb
    split at h
    case h_2=>simp at h
    simp only [KJ] at h;subst h
    exact dS hb.1 hB rfl
  ·simp at h
 case mlk kd z x k=>
  split at h
  ·unfold qM at h
   refine qV ?_
   repeat' split at h
   all_goals first|(simp at h;done)|(simp only [KJ] at h;subst h;rfl)|(simp only [KR] at h;obtain ⟨_,_,rfl⟩:=h;rfl)
  ·simp at h
 case slc sz x lo hi mx=>
  refine qV ?_
  cases mx with
  |some m=>simp at h
  |none=>
   simp only at h
   split at h
   ·exact yW h
   ·simp at h
 all_goals refine qV ?_
 all_goals try (simp only [Mj] at h;obtain ⟨_,_,h⟩:=h)
 all_goals repeat' split at h
 all_goals first|exact G5 h|exact GW h|exact GX h|exact GY h|exact GZ h|exact G0 h|exact G1 h|exact yW h|exact G4 h|exact G2 h|exact G3 h|(simp at h;done)|(simp only [KJ] at h;subst h;rfl)|(simp only [KR] at h;obtain ⟨_,_,rfl⟩:=h;rfl)|(subst h;rfl)
end
open Go.RowKit
def eS:List Prop->Prop->Prop
 |[],K=>K
 |p::r,K=>p/\eS r K
theorem iv {K:Prop}:∀{O:List Prop},eS O K↔(∀p,p∈O->p)/\K
 |[]=>by simp [eS]
 |p::r=>by simp only [eS,iv (O:=r),KU,Mi,and_assoc]
def Cn.pol (c:Cn):Bool->Cn
 |true=>c
 |false=> .not c
theorem Cn.yX (c:Cn) (p:Bool):(c.pol p).den=(c.den==p):=by cases p<;>cases h:c.den<;>simp [pol,den,h]
section
variable {τ:Type} {dn:τ->Type} {D:TD τ dn} {N:au} {st:SS τ dn} {σ:Nat->AV} {g:Nat->Option Bk}
inductive Gd where
 |yes
 |no
 |jR (e:Cn)
 |bad
def SS.gd (st:SS τ dn):Option (Nat×Bool)->Gd
 |none=> .yes
 |some (i,w)=>match st.gt i with
  |some (.vt b)=>bif b==w then .yes else .no
  |some (.vo (.tuple _))=> .no
  |some (.vb c)=> .jR (c.pol w)
  |some (.vg p c (.vb c2))=> .jR (.and (c.pol p) (c2.pol w))
  |some (.vg p c (.vt b))=>bif b==w then .jR (c.pol p) else .no
  |_=> .bad
theorem G9 (R:aS D N st σ g) {x:Option (Nat×Bool)}:(st.gd x= .yes->bH σ x=some true)/\(st.gd x= .no->bH σ x=some false)/\(∀e,st.gd x= .jR e->bH σ x=some e.den):=by
 cases x with
 |none=>exact ⟨fun _=>rfl,fun h=>by simp [SS.gd] at h,fun e h=>by simp [SS.gd] at h⟩
 |some x=>
  obtain ⟨i,w⟩:=x
  simp only [SS.gd]
  split
  ·rename_i b h
   have e:=R.gt h
   simp only [SV.av] at e
   simp only [bH,e]
   cases b<;>cases w<;>simp
  ·rename_i vs h
   have e:=R.gt h
   simp only [SV.av] at e
   simp [bH,e]
  ·rename_i c h
   have e:=R.gt h
   simp only [SV.av] at e
   simp [bH,e,Cn.yX]
  ·rename_i p c c2 h
   have e:=R.gt h
   simp only [SV.av] at e
   refine ⟨by simp,by simp,fun e' he=> ?_⟩
   simp only [Gd.jR.injEq] at he;subst he
   simp only [bH,e,Cn.den,Cn.yX]
   cases c.den<;>cases p<;>simp [undef]
  ·rename_i p c b h
   have e:=R.gt h
   simp only [SV.av] at e
   simp only [bH,e]
   cases hc:c.den<;>cases p<;>cases b<;>cases w<;>simp [undef,Cn.pol,Cn.den,hc]
  ·exact ⟨by simp,by simp,by simp⟩
def oW (st:SS τ dn):List Nat->List (Nat×SV τ dn)
 |[]=>st.t
 |i::r=>match st.gt i with
  |some (.vg _ _ v)=>(i,v)::oW st r
  |_=>oW st r
def SS.unw (st:SS τ dn) (ss:List Nat):SS τ dn:=⟨st.rt,st.rm,oW st ss,st.m,st.nx⟩
def gS (st:SS τ dn) (e:Cn):List Nat->List Prop
 |[]=>[]
 |i::r=>match st.gt i with
  |some (.vg p c _)=>(e.tf true->c.tf p)::gS st e r
  |_=>gS st e r
theorem yY (R:aS D N st σ g) {e:Cn} (he:e.den=true) {ss:List Nat} (h:∀p,p∈gS st e ss->p):aS D N (st.unw ss) σ g:=by
 refine ⟨?_,R.rs,R.bl,R.rb,R.ar⟩
 show ∀i v,getS (oW st ss) i=some v->σ i=v.av D.toTE N
 have et:=(Cn.gR e true).2 he
 induction ss with
 |nil=>exact R.sl
 |cons j r ih=>
  simp only [oW]
  simp only [gS] at h
  split
  ·rename_i p c v hj
   rw [hj] at h
   simp only [KU,Mi] at h
   intro i w hw
   rw [aR] at hw
   by_cases hi:i=j
   ·rw [KL hi,KJ] at hw
    subst hw;subst hi
    rw [R.gt hj,SV.av,KL ((Cn.gR c p).1 (h.1 et))]
   ·rw [KK hi] at hw;exact ih h.2 i w hw
  ·rename_i hj
   have:gS st e (j::r)=gS st e r:=by
    simp only [gS]
   refine ih ?_
   intro p hp
   refine h p ?_
   split
   ·rename_i q c v hq;exact absurd hq (hj _ _ _)
   ·exact hp
def lT (c:Cn) (b:Bool):SV τ dn->List Prop×SV τ dn
 | .vg p c' v=>([c.tf b->c'.tf p],v)
 |v=>([],v)
theorem yZ {c:Cn} {v:SV τ dn} (hc:c.den=b) (h:∀p,p∈(lT c b v).1->p):v.av D.toTE N=(lT c b v).2.av D.toTE N:=by
 unfold lT at h ⊢
 split
 ·rename_i p c' v
  simp only [KT,K2] at h
  rw [SV.av,KL ((Cn.gR c' p).1 (h ((Cn.gR c b).2 hc)))]
 ·rfl
def oX (c:Cn):SV τ dn->SV τ dn->Option (SV τ dn)
 | .vt true, .vt true=>some (.vt true)
 | .vt false, .vt false=>some (.vt false)
 | .vt true, .vt false=>some (.vb c)
 | .vt false, .vt true=>some (.vb (.not c))
 | .vb x, .vt false=>some (.vb (.and c x))
 | .vb x, .vt true=>some (.vb (.or (.not c) x))
 | .vt true, .vb y=>some (.vb (.or c y))
 | .vt false, .vb y=>some (.vb (.and (.not c) y))
 | .vb x, .vb y=>some (.vb (.or (.and c x) (.and (.not c) y)))
 |_,_=>none
theorem uE {c:Cn} {a b v:SV τ dn} (h:oX c a b=some v):v.av D.toTE N=if c.den=true then a.av D.toTE N else b.av D.toTE N:=by
 unfold oX at h
 split at h<;>simp only [KJ,reduceCtorEq] at h<;>subst h<;>cases hc:c.den<;>simp [SV.av,Cn.den,hc]
def uF (st:SS τ dn) (c a b:Arg):Option (SR τ dn):=
 match st.ev c with
 |some (.vt true)=>(st.ev a).map (.val [])
 |some (.vt false)=>(st.ev b).map (.val [])
 |some (.vb cc)=>match st.ev a,st.ev b with
  |some va,some vb=>(oX cc (lT cc true va).2 (lT cc false vb).2).map (.val ((lT cc true va).1++(lT cc false vb).1))
  |_,_=>none
 |_=>none
theorem Ha (R:aS D N st σ g) {c a b:Arg} {r:SR τ dn} (h:uF st c a b=some r):r.Good D N st.nx σ g (.pick c a b)/\r.may D N st:=by
 unfold uF at h
 split at h
 ·rename_i hc
  simp only [KR] at h;obtain ⟨v,hv,rfl⟩:=h
  refine ⟨fun k hO hf=> ?_,trivial⟩
  simp only [AO.af,R.ev hc,SV.av,KN,R.ev hv,RM.run,SR.v,SR.ups]
 ·rename_i hc
  simp only [KR] at h;obtain ⟨v,hv,rfl⟩:=h
  refine ⟨fun k hO hf=> ?_,trivial⟩
  simp only [AO.af,R.ev hc,SV.av,LF,Lh,R.ev hv,RM.run,SR.v,SR.ups]
 ·rename_i cc hc
  split at h
  ·rename_i va vb ha hb
   simp only [KR] at h;obtain ⟨v,hv,rfl⟩:=h
   refine ⟨fun k hO hf=> ?_,trivial⟩
   simp only [SR.O,Lj] at hO
   simp only [AO.af,R.ev hc,SV.av,RM.run,SR.v,SR.ups,uE hv,R.ev ha,R.ev hb]
   cases hcc:cc.den with
   |true=>simp only [KN];rw [<-yZ hcc fun p hp=>hO p (.inl hp)]
   |false=>simp only [LF,Lh];rw [<-yZ hcc fun p hp=>hO p (.inr hp)]
  ·simp at h
 ·simp at h
variable [DecidableEq τ]
def kO (D:TD τ dn) (st:SS τ dn) (ao:AO):Option (SR τ dn):=
 match ao with
 | .pick c a b=>uF st c a b
 |ao=>bif ao.lk.any st.rwa then jN D st ao else sx D st ao
theorem Hb {r:SR τ dn} (h:jN D st ao=some r) (hO:∀p,p∈r.O->p):r.may D N st:=by
 have dW:∀{O:List Prop} {v:SV τ dn} {t:τ} {A:List (Nat×List (dn t))} {q:Row (dn t)} {row:List (dn t)},st.fb t=some A->st.rw 0=true->q.lM A->(SR.dW O v q.id t row A).may D N st:=fun hA hw hm=>by
  obtain ⟨⟨B1,h4⟩,h5⟩:=iu hw
  have:=kL hA
  have h6:=kN h4
  rw [h6] at this
  simp only [KJ] at this;subst this
  exact ⟨h4,h5,hm.2.1⟩
 cases ao<;>simp only [jN,reduceCtorEq] at h
 case store n x y=>
  split at h
  case h_2=>simp at h
  rename_i t q i o b hx hy
  split at h
  case h_2=>simp at h
  rename_i A hA
  split at h
  case isFalse=>simp at h
  rename_i hc
  split at h
  case h_2=>simp at h
  simp only [KJ] at h;subst h
  exact dW hA hc.2.2.1 (hO _ (LJ ..))
 case cpy sz x y=>
  split at h
  case h_2=>simp at h
  rename_i t q b cV hy
  split at h
  case h_2=>simp at h
  rename_i A O t' ys hA dC
  split at h
  case isFalse=>simp at h
  rename_i ht
  subst ht
  split at h
  case isFalse=>simp at h
  rename_i hs
  simp only [KJ] at h;subst h
  simp only [SR.O,Lj,KT] at hO
  exact dW hA hs.2 (hO _ (.inr rfl))
 all_goals refine qV ?_
 case len s x=>
  cases s with
  |true=>simp at h
  |false=>
   simp only at h
   split at h
   case h_2=>simp at h
   split at h
   case h_2=>simp at h
   simp only [KJ] at h;subst h;rfl
 case iad sz x y=>
  split at h
  case h_2=>simp at h
  split at h
  case h_2=>simp at h
  split at h
  case isFalse=>simp at h
  simp only [KJ] at h;subst h;rfl
 all_goals repeat' split at h
 all_goals first|(simp at h;done)|(simp only [KJ] at h;subst h;rfl)|(simp only [KR] at h;obtain ⟨_,_,rfl⟩:=h;rfl)
theorem uG (ok:aQ D) (R:aS D N st σ g) {r:SR τ dn} (h:kO D st ao=some r) (hO:∀p,p∈r.O->p):r.Good D N st.nx σ g ao/\r.may D N st:=by
 unfold kO at h
 split at h
 ·exact Ha R h
 ·cases hb:(ao.lk.any st.rwa) with
  |true=>rw [hb,KP] at h;exact ⟨GP ok R h,Hb h hO⟩
  |false=>rw [hb,K4] at h;exact ⟨GN ok R h,G8 R h⟩
end
section
variable {τ:Type} {dn:τ->Type} {D:TD τ dn} {N:au} {st:SS τ dn} {σ:Nat->AV} {g:Nat->Option Bk}
def SV.pu1:SV τ dn->Bool
 | .vi _| .vn _| .vy _| .vu _| .vw _ _| .vb _| .vt _| .vz _| .vo _| .emp| .vl _ _| .vc _ _| .pim _ _| .dead=>true
 | .fn _ cs=>cs.isEmpty
 |_=>false
theorem y4 {v:SV τ dn} (h:v.pu1=true):(v.av D.toTE N).pu1=true:=by
 cases v<;>simp [SV.pu1] at h<;>simp [SV.av,AV.pu1]
 subst h;rfl
def uH [DecidableEq τ] (D:TD τ dn) (st:SS τ dn) (t:τ) (r:Row (dn t)):Option (List Prop×SV τ dn):=match st.fb t with
 |some A=>bif D.pu t then some ([r.ok A,r.kd≠ .nil], .vl t (r.get A)) else none
 |none=>none
def snap1S (D:TD τ dn) (st:SS τ dn):SV τ dn->Option (SV τ dn)
 | .own nm sz=>match st.cont D sz (.own nm sz) with
  |some (.ty t xs)=>bif D.pu t then some (.vl t xs) else none
  |some (.li els)=>bif els.all (fun cs=>cs.all SV.pu1) then some (.vc sz els) else none
  |none=>none
 | .ref nm sz i o=>match st.gm nm with
  |some (.bc q els)=>if q=sz then (match els[i]? with
   |some cs=>bif cs.all SV.pu1 then some (.pim cs o) else none
   |none=>none) else none
  |_=>none
 |v=>bif v.pu1 then some v else none
theorem y5 {cs:List (SV τ dn)} (h:cs.all SV.pu1=true):(cs.map (SV.av D.toTE N)).all AV.pu1=true:=by
 simp only [KQ,Li] at h ⊢
 rintro _ ⟨v,hv,rfl⟩;exact y4 (h v hv)
theorem qW (ok:aQ D) (R:aS D N st σ g) {v w:SV τ dn} (h:snap1S D st v=some w):(snap1 (v.av D.toTE N)).run g=some (w.av D.toTE N):=by
 have other:∀{v:SV τ dn},(bif v.pu1 then some v else none)=some w->(∀a,a=v.av D.toTE N->snap1 a=if a.pu1=true then .ret a else .fail)->(snap1 (v.av D.toTE N)).run g=some (w.av D.toTE N):=by
  intro v h h2
  cases hp:v.pu1 with
  |false=>rw [hp] at h;simp at h
  |true=>
   rw [hp,KP,KJ] at h;subst h
   rw [h2 _ rfl,KL (y4 hp)];rfl
 cases v with
 |own nm sz=>
  simp only [snap1S] at h
  have ea:(((SV.own nm sz:SV τ dn).av D.toTE N)= .own (N.ι nm) sz 0 (N.ln nm)):=rfl
  split at h
  ·rename_i t xs hc
   obtain ⟨c1,c2⟩:=lR R hc
   cases hp:D.pu t with
   |false=>rw [hp] at h;simp at h
   |true=>
    rw [hp,KP,KJ] at h;subst h
    have hz:=c2 t xs rfl
    rw [ea] at c1 ⊢
    simp only [snap1]
    rw [de c1]
    have bq:((xs.map (D.ea N.ρ t)).all fun cs=>cs.all AV.pu1)=true:=by
     simp only [KQ,Li]
     rintro _ ⟨y,_,rfl⟩
     have:=ok.pu1 N t y hp
     simpa [KQ] using this
    simp only [Ct.els,bq,KN,RM.run,SV.av,hz]
  ·rename_i els hc
   obtain ⟨c1,c2⟩:=lR R hc
   cases hp:els.all (fun cs=>cs.all SV.pu1) with
   |false=>rw [hp] at h;simp at h
   |true=>
    rw [hp,KP,KJ] at h;subst h
    rw [ea] at c1 ⊢
    simp only [snap1]
    rw [de c1]
    have bq:((els.map fun cs=>cs.map (SV.av D.toTE N)).all fun cs=>cs.all AV.pu1)=true:=by
     simp only [KQ,Li]
     rintro _ ⟨cs,hcs,rfl⟩
     have h1:=(KQ.1 hp) cs hcs
     have:=y5 (D:=D) (N:=N) h1
     simpa [KQ] using this
    simp only [Ct.els,SV.gv,bq,KN,RM.run,SV.av]
  ·simp at h
 |ref nm sz i o=>
  simp only [snap1S] at h
  split at h
  ·rename_i q els hB
   split at h
   ·rename_i hq
    split at h
    ·rename_i cs hcs
     cases hp:cs.all SV.pu1 with
     |false=>rw [hp] at h;simp at h
     |true=>
      rw [hp,KP,KJ] at h;subst h
      have g1:=(R.gm hB).1
      simp only [SV.av,snap1,RM.run,g1,SB.av,hq,KN,SV.gv,Ld,hcs,KV,y5 hp,SV.ba]
    ·simp at h
   ·simp at h
  ·simp at h
 |_=>first
  |exact other h fun a ha=>by subst ha;rfl
  |(simp [snap1S,SV.pu1] at h)
def jS (D:TD τ dn) (st:SS τ dn):List (SV τ dn)->Option (List (SV τ dn))
 |[]=>some []
 |v::r=>match snap1S D st v,jS D st r with
  |some x,some l=>some (x::l)
  |_,_=>none
theorem qX (ok:aQ D) (R:aS D N st σ g):∀{vs ws:List (SV τ dn)},jS D st vs=some ws->(fw (vs.map (SV.av D.toTE N))).run g=some (ws.map (SV.av D.toTE N))
 |[],ws,h=>by simp only [jS,KJ] at h;subst h;rfl
 |v::r,ws,h=>by
  simp only [jS] at h
  split at h
  ·rename_i x l h1 h2
   simp only [KJ] at h;subst h
   simp only [KW,fw]
   rw [de (qW ok R h1),de (qX ok R h2)];rfl
  ·simp at h
def fG (D:TD τ dn) (st:SS τ dn):SV τ dn->Option (SV τ dn)
 | .agg cs=>(jS D st cs).map .agg
 | .fn f cs=>(jS D st cs).map (.fn f)
 | .bf f cs=>(jS D st cs).map (.bf f)
 |v=>snap1S D st v
theorem uI (ok:aQ D) (R:aS D N st σ g) {v w:SV τ dn} (h:fG D st v=some w):(dh (v.av D.toTE N)).run g=some (w.av D.toTE N):=by
 cases v with
 |agg cs=>
  simp only [fG,KR] at h;obtain ⟨l,hl,rfl⟩:=h
  simp only [SV.av,SV.ba,dh]
  rw [de (qX ok R hl)];rfl
 |fn f cs=>
  simp only [fG,KR] at h;obtain ⟨l,hl,rfl⟩:=h
  simp only [SV.av,SV.ba,dh]
  rw [de (qX ok R hl)];rfl
 |bf f cs=>
  simp only [fG,KR] at h;obtain ⟨l,hl,rfl⟩:=h
  simp only [SV.av,SV.ba,dh]
  rw [de (qX ok R hl)];rfl
 |vg p c v=>simp [fG,snap1S,SV.pu1] at h
 |rw t r=>simp [fG,snap1S,SV.pu1] at h
 |cH t r i o=>simp [fG,snap1S,SV.pu1] at h
 |_=>
  simp only [fG] at h
  exact qW ok R h
def iw (D:TD τ dn) (st:SS τ dn):List (SV τ dn)->Option (List (SV τ dn))
 |[]=>some []
 |v::r=>match fG D st v,iw D st r with
  |some x,some l=>some (x::l)
  |_,_=>none
theorem y6 (ok:aQ D) (R:aS D N st σ g):∀{vs ws:List (SV τ dn)},iw D st vs=some ws->(du (vs.map (SV.av D.toTE N))).run g=some (ws.map (SV.av D.toTE N))
 |[],ws,h=>by simp only [iw,KJ] at h;subst h;rfl
 |v::r,ws,h=>by
  simp only [iw] at h
  split at h
  ·rename_i x l h1 h2
   simp only [KJ] at h;subst h
   simp only [KW,du]
   rw [de (uI ok R h1),de (y6 ok R h2)];rfl
  ·simp at h
variable [DecidableEq τ]
def qY (D:TD τ dn) (st:SS τ dn):SV τ dn->Option (List Prop×SV τ dn)
 | .rw t r=>uH D st t r
 |v=>(fG D st v).map fun w=>([],w)
theorem Hc (ok:aQ D) (R:aS D N st σ g) {v w:SV τ dn} {O:List Prop} (h:qY D st v=some (O,w)) (hO:∀p,p∈O->p):(dh (v.av D.toTE N)).run g=some (w.av D.toTE N):=by
 have other:∀{v:SV τ dn},((fG D st v).map fun w=>(([]:List Prop),w))=some (O,w)->(dh (v.av D.toTE N)).run g=some (w.av D.toTE N):=fun h=>by
  simp only [KR,KZ] at h
  obtain ⟨c',h1,_,rfl⟩:=h
  exact uI ok R h1
 cases v with
 |rw t r=>
  simp only [qY,uH] at h
  split at h
  ·rename_i A hA
   cases hp:D.pu t with
   |false=>rw [hp] at h;simp at h
   |true=>
    rw [hp,KP] at h
    simp only [KJ,KZ] at h
    obtain ⟨rfl,rfl⟩:=h
    simp only [KU,LO,or_false,Mi,K2] at hO
    cases hk:r.kd with
    |nil=>exact absurd hk hO.2
    |aN=>simp only [SV.av,hk,dh,snap1,AV.pu1,KN,RM.run,lS hk]
    |own=>
     obtain ⟨e1,e2,e3⟩:=jO R hA hO.1 hk
     have c1:(content (D.sz t) (.own r.id (D.sz t) 0 r.n)).run g=some ((r.get A).map (D.ea N.ρ t)):=by
      simp only [content,RM.run,e3,e2,KY,K7,KO,K5,KN,Mz]
      rw [Mg (by simp)]
     simp only [SV.av,hk,dh,snap1]
     rw [de c1]
     have bq:(((r.get A).map (D.ea N.ρ t)).all fun cs=>cs.all AV.pu1)=true:=by
      simp only [KQ,Li]
      rintro _ ⟨y,_,rfl⟩
      have:=ok.pu1 N t y hp
      simpa [KQ] using this
     simp only [bq,KN,RM.run]
  ·simp at h
 |_=>exact other h
def lU (D:TD τ dn) (st:SS τ dn):List (SV τ dn)->Option (List Prop×List (SV τ dn))
 |[]=>some ([],[])
 |v::r=>match qY D st v,lU D st r with
  |some (O,x),some (O',l)=>some (O++O',x::l)
  |_,_=>none
theorem qZ (ok:aQ D) (R:aS D N st σ g):∀{vs ws:List (SV τ dn)} {O:List Prop},lU D st vs=some (O,ws)->(∀p,p∈O->p)->(du (vs.map (SV.av D.toTE N))).run g=some (ws.map (SV.av D.toTE N))
 |[],ws,O,h,hO=>by simp only [lU,KJ,KZ] at h;obtain ⟨_,rfl⟩:=h;rfl
 |v::r,ws,O,h,hO=>by
  simp only [lU] at h
  split at h
  ·rename_i O1 x O2 l h1 h2
   simp only [KJ,KZ] at h
   obtain ⟨rfl,rfl⟩:=h
   simp only [KW,du]
   rw [de (Hc ok R h1 fun p hp=>hO p (Lr _ hp)),de (qZ ok R h2 fun p hp=>hO p (Ln _ hp))];rfl
  ·simp at h
end
open Go.RowKit
section
variable {τ:Type} {dn:τ->Type}
inductive Pt (τ:Type) where
 |ty (t:τ)
 |ptr (t:τ)
 |mP (f:FuncId) (cs:List (Bool×τ))
abbrev CD (dn:τ->Type):List (Bool×τ)->Type
 |[]=>Unit
 |p::r=>dn p.2×CD dn r
abbrev Pt.T (dn:τ->Type):Pt τ->Type
 | .ty t=>dn t
 | .ptr t=>dn t
 | .mP _ cs=>CD dn cs
abbrev PD (dn:τ->Type):List (Pt τ)->Type
 |[]=>Unit
 |p::r=>p.T dn×PD dn r
abbrev RD (dn:τ->Type):List τ->Type
 |[]=>Unit
 |[t]=>dn t
 |t::s::r=>dn t×RD dn (s::r)
variable (D:TD τ dn) {N:au}
def TD.en (t:τ) (x:dn t):SV τ dn:=bif D.ag t then .agg (D.es t x) else (D.es t x).headD .dead
def jT (t:τ) (v:SV τ dn):Option (dn t):=bif D.ag t then (match v with
 | .agg cs=>D.ds t cs
 |_=>none) else D.ds t [v]
def jU:(cs:List (Bool×τ))->CD dn cs->List (SV τ dn)
 |[],_=>[]
 |(false,t)::r,x=>D.en t x.1::jU r x.2
 |(true,t)::r,x=> .pim (D.es t x.1) 0::jU r x.2
def q8 (t:τ):SV τ dn->Option (dn t)
 | .pim cs 0=>bif cs.all SV.ne then D.ds t cs else none
 |_=>none
def jV:(cs:List (Bool×τ))->List (SV τ dn)->Option (CD dn cs)
 |[],[]=>some ()
 |(false,t)::r,v::l=>bif v.cells.all SV.ne then (match jT D t v,jV r l with
  |some x,some y=>some (x,y)
  |_,_=>none) else none
 |(true,t)::r,v::l=>match q8 D t v,jV r l with
  |some x,some y=>some (x,y)
  |_,_=>none
 |_,_=>none
def Pt.enc:(p:Pt τ)->p.T dn->SV τ dn
 | .ty t,x=>D.en t x
 | .ptr t,x=> .pim (D.es t x) 0
 | .mP f cs,x=> .fn f (jU D cs x)
def Pt.dec:(p:Pt τ)->SV τ dn->Option (p.T dn)
 | .ty t,v=>jT D t v
 | .ptr t,v=>q8 D t v
 | .mP f cs, .fn f' l=>bif Nat.beq f f' then jV D cs l else none
 | .mP _ _,_=>none
def jW:(ps:List (Pt τ))->PD dn ps->List (SV τ dn)
 |[],_=>[]
 |p::r,x=>p.enc D x.1::jW r x.2
def ix:(ps:List (Pt τ))->List (SV τ dn)->Option (PD dn ps)
 |[],[]=>some ()
 |p::r,v::l=>match p.dec D v,ix r l with
  |some x,some y=>some (x,y)
  |_,_=>none
 |_,_=>none
def gy:(rs:List τ)->RD dn rs->List (SV τ dn)
 |[],_=>[]
 |[t],x=>[D.en t x]
 |t::s::r,x=>D.en t x.1::gy (s::r) x.2
def iY:(rs:List τ)->List (SV τ dn)->Option (RD dn rs)
 |[],[]=>some ()
 |[t],[v]=>jT D t v
 |t::s::r,v::l=>match jT D t v,iY (s::r) l with
  |some x,some y=>some (x,y)
  |_,_=>none
 |_,_=>none
def kP:List (SV τ dn)->SV τ dn
 |[v]=>v
 |l=> .aG l
end
section
variable {τ:Type} {dn:τ->Type} {D:TD τ dn} {N:au}
theorem Hd {a:AV} {l:List AV} (h:dw [a] l):∃b,l=[b]/\bJ a b:=by
 cases h with
 |cons h t=>cases t;exact ⟨_,rfl,h⟩
theorem o6 {t:τ} {x:dn t} (h:D.ag t=true):D.en t x= .agg (D.es t x):=by unfold TD.en;rw [h];rfl
theorem y7 (ok:aQ D) {t:τ} {x:dn t} (h:D.ag t=false) {b:AV} (hb:D.ea N.ρ t x=[b]):(D.en t x).av D.toTE N=b:=by
 unfold TD.en
 rw [h,K4]
 have:=ok.cI N t x
 rw [hb] at this
 cases he:D.es t x with
 |nil=>rw [he] at this;simp at this
 |cons v r=>rw [he] at this;simp at this;rw [List.headD_cons];exact this.1
theorem q9 (ok:aQ D) {t:τ} {v:SV τ dn} {x:dn t} (h:jT D t v=some x):bJ (v.av D.toTE N) ((D.en t x).av D.toTE N):=by
 unfold jT at h
 cases ha:D.ag t with
 |true=>
  rw [ha,KP] at h
  split at h
  ·rw [o6 ha,SV.av,SV.av,SV.ba,SV.ba,ok.cI]
   exact bJ.agg (ok.eZ N t _ _ h)
  ·simp at h
 |false=>
  rw [ha,K4] at h
  obtain ⟨b,hb,hle⟩:=Hd (ok.eZ N t _ _ h)
  rw [y7 ok ha hb];exact hle
theorem He (ok:aQ D) {t:τ} {v:SV τ dn} {x:dn t} (h:jT D t v=some x) (hn:v.cells.all SV.ne=true):v.av D.toTE N=(D.en t x).av D.toTE N:=by
 unfold jT at h
 cases ha:D.ag t with
 |true=>
  rw [ha,KP] at h
  split at h
  ·rw [o6 ha,SV.av,SV.av,SV.ba,SV.ba,ok.cI,ok.oy N t _ _ h hn]
  ·simp at h
 |false=>
  rw [ha,K4] at h
  have Hf:[v].all SV.ne=true:=by
   cases v<;>first|exact hn|rfl
  have:=ok.oy N t _ _ h Hf
  rw [y7 ok ha (b:=v.av D.toTE N) this.symm]
theorem y9 (ok:aQ D) {t:τ} {v:SV τ dn} {x:dn t} (h:q8 D t v=some x):v.av D.toTE N=(SV.pim (D.es t x) 0:SV τ dn).av D.toTE N:=by
 unfold q8 at h
 split at h
 ·rename_i cs
  cases hn:cs.all SV.ne with
  |false=>rw [hn] at h;simp at h
  |true=>
   rw [hn,KP] at h
   rw [SV.av,SV.av,SV.ba,SV.ba,ok.cI,ok.oy N t _ _ h hn]
 ·simp at h
theorem uJ (ok:aQ D):∀{cs:List (Bool×τ)} {l:List (SV τ dn)} {x:CD dn cs},jV D cs l=some x->SV.b6 D.toTE N l=SV.b6 D.toTE N (jU D cs x)
 |[],[],x,h=>rfl
 |[],v::l,x,h=>by simp [jV] at h
 |(false,t)::r,[],x,h=>by simp [jV] at h
 |(true,t)::r,[],x,h=>by simp [jV] at h
 |(false,t)::r,v::l,x,h=>by
  simp only [jV] at h
  cases hn:v.cells.all SV.ne with
  |false=>rw [hn] at h;simp at h
  |true=>
   rw [hn,KP] at h
   split at h
   ·rename_i a b h1 h2
    simp only [KJ] at h;subst h
    simp only [SV.b6,jU,He ok h1 hn,uJ ok h2]
   ·simp at h
 |(true,t)::r,v::l,x,h=>by
  simp only [jV] at h
  split at h
  ·rename_i a b h1 h2
   simp only [KJ] at h;subst h
   simp only [SV.b6,jU,y9 ok h1,uJ ok h2]
  ·simp at h
theorem Hg (ok:aQ D) {p:Pt τ} {v:SV τ dn} {x:p.T dn} (h:p.dec D v=some x):bJ (v.av D.toTE N) ((p.enc D x).av D.toTE N):=by
 cases p with
 |ty t=>exact q9 ok h
 |ptr t=>exact bJ.of_eq (y9 ok h)
 |mP f cs=>
  cases v<;>simp only [Pt.dec,reduceCtorEq] at h
  rename_i f' l
  cases hb:Nat.beq f f' with
  |false=>rw [hb] at h;simp at h
  |true=>
   rw [hb,KP] at h
   have:=K1 hb
   subst this
   exact bJ.of_eq (by simp only [SV.av,Pt.enc,uJ ok h])
theorem re (ok:aQ D):∀{ps:List (Pt τ)} {l:List (SV τ dn)} {x:PD dn ps},ix D ps l=some x->dw (l.map (SV.av D.toTE N)) ((jW D ps x).map (SV.av D.toTE N))
 |[],[],x,h=> .nil
 |[],v::l,x,h=>by simp [ix] at h
 |p::r,[],x,h=>by simp [ix] at h
 |p::r,v::l,x,h=>by
  simp only [ix] at h
  split at h
  ·rename_i a b h1 h2
   simp only [KJ] at h;subst h
   exact .cons (Hg ok h1) (re ok h2)
  ·simp at h
theorem za (ok:aQ D):∀{rs:List τ} {l:List (SV τ dn)} {x:RD dn rs},iY D rs l=some x->dw (l.map (SV.av D.toTE N)) ((gy D rs x).map (SV.av D.toTE N))
 |[],[],x,h=> .nil
 |[],v::l,x,h=>by simp [iY] at h
 |[t],[],x,h=>by simp [iY] at h
 |[t],[v],x,h=> .cons (q9 ok h) .nil
 |[t],v::w::l,x,h=>by simp [iY] at h
 |t::s::r,[],x,h=>by simp [iY] at h
 |t::s::r,v::l,x,h=>by
  simp only [iY] at h
  split at h
  ·rename_i a b h1 h2
   simp only [KJ] at h;subst h
   exact .cons (q9 ok h1) (za ok h2)
  ·simp at h
theorem rf (l:List (SV τ dn)):(kP l).av D.toTE N=jB (l.map (SV.av D.toTE N)):=by
 match l with
 |[]=>rfl
 |[v]=>rfl
 |v::w::r=>simp only [kP,SV.av,SV.ba];rfl
theorem Hh {a b:List AV} (h:dw a b):bJ (jB a) (jB b):=by
 cases h with
 |nil=>exact bJ.refl
 |cons h t=>
  cases t with
  |nil=>exact h
  |cons h2 t2=>exact bJ.aG (.cons h (.cons h2 t2))
def SV.uK:SV τ dn->Bool
 | .vi _| .vn _| .vy _| .vu _| .vw _ _| .vb _| .vt _| .vz _| .vo _=>true
 |_=>false
theorem Hi {E:TE τ dn} {N:au} {v:SV τ dn} (h:v.uK=true):(v.av E N).cW=true:=by
 cases v<;>simp [SV.uK] at h<;>simp [SV.av,AV.cW]
structure b7 (τ:Type) (dn:τ->Type) where
 f:FuncId
 ps:List (Pt τ)
 pre:PD dn ps->Prop
 rs:List τ
 res:PD dn ps->RD dn rs
def b7.val (D:TD τ dn) (c:b7 τ dn) (x:PD dn c.ps):SV τ dn:=kP (gy D c.rs (c.res x))
def b7.Ok (P:Program) (D:TD τ dn) (c:b7 τ dn):Prop:=bT P c.f=true/\∀(x:PD dn c.ps) (N:au),c.pre x->Fn P c.f ((jW D c.ps x).map (SV.av D.toTE N)) ((c.val D x).av D.toTE N)
theorem Hj {f:FuncId} {bE:List AV} {sz:Nat} {els:List (List AV)} (h:Fo P f as_ sz els) (ha:dw bE as_):Fo P f bE sz els:=fun w J vs hJ hG bW=>
 h w J vs hJ hG ⟨bW.1.trans ha.get.1,fun i u c hu hc=>let ⟨a,h1,h2⟩:=ha.get.2 i c hc;h2 _ _ (bW.2 i u a hu h1)⟩
structure gT (τ:Type) (dn:τ->Type) where
 f:FuncId
 ps:List (Pt τ)
 pre:PD dn ps->Prop
 t:τ
 res:PD dn ps->List (dn t)
def gT.Ok (P:Program) (D:TD τ dn) (c:gT τ dn):Prop:=(bT P c.f=true/\∀x:dn c.t,(D.es c.t x).all (fun v=>v.uK)=true)/\∀(x:PD dn c.ps) (N:au),c.pre x->Fo P c.f ((jW D c.ps x).map (SV.av D.toTE N)) (D.sz c.t) ((c.res x).map (D.ea N.ρ c.t))
end
end Go.Proofs.Ytpoikkflcpklgaa
