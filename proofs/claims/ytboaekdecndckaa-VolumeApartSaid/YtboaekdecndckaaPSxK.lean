/- What functions answer, said with letters. No condition. -/
import Derived.WalkKit
import Derived.Lib.Hide
import Derived.Lib.QuietBelow
import Derived.BigQuiet
import Derived.Deep.Slices
import Derived.Below
import Derived.ShutString
import Derived.OpenShut
import Derived.SizedLaws
import Derived.Deep.OwnRows
import Derived.Test.YtboaekdecndckaaPAvSide
import Derived.Test.YtboaekdecndckaaPPolE
import Derived.Laws.Bits64
set_option linter.unusedSimpArgs false
set_option linter.unusedVariables false
namespace Go.Proofs.Ytboaekdecndckaa
variable {ao:AO} {x y:Arg} {fs:Array Field} {op:BinOp} {neg b l:Bool} {s:ByteArray} {f:Field} {a c:Int} {k:IntKind} {as_:List AV} {vs:List Value} {kd:NK} {n i j nm off o:Nat} {σ:Nat->AV} {lo hi:Option Int} {m d:Option Nat} {P:Program} {α β τ:Type} {t:TypeId} {w:World} {A:List (Nat×List α)} {dn:τ->Type}
open Go.RowKit Go.Sort
abbrev aeZ:=@forall_eq
abbrev ae5:=@and_self
abbrev afh:=@List.map_nil
abbrev afN:=@List.not_mem_nil
abbrev af8:=@Bool.eq_iff_iff
abbrev af9:=@List.map_set
abbrev agi:=@BitVec.toNat_ofNat
abbrev agj:=@forall_eq_or_imp
abbrev agk:=@Option.bind_eq_some_iff
abbrev agr:=@List.map_map
abbrev ags:=@Nat.lt_succ_of_lt
abbrev agA:=@UInt8.toNat_inj
abbrev agK:=@Int.mul_le_mul_of_nonneg_left
abbrev B (x:UInt8):Value:= .int .u8 x.toNat
abbrev I (x:Int):Value:= .int .i64 x
theorem JT (x y:UInt8):bits .xor .u8 (x.toNat:Int) (y.toNat:Int)=((x^^^y).toNat:Int):=by
 rw [u8_xor_nat _ _ x.toNat_lt y.toNat_lt,UInt8.toNat_xor]
theorem VZ (x y:UInt8):bits .and .u8 (x.toNat:Int) (y.toNat:Int)=((x&&&y).toNat:Int):=by
 rw [u8_and_nat _ _ x.toNat_lt y.toNat_lt,UInt8.toNat_and]
theorem V0 (x:UInt8):((x.toNat:Int)==0)=(x==0):=by
 rw [af8];simp only [beq_iff_eq];exact ⟨fun h=>by apply agA.1;simpa using h,by rintro rfl;rfl⟩
theorem JU (x:UInt8):(0:Int)<=(x.toNat:Int)/\(x.toNat:Int)<256:=⟨by omega,by have:=x.toNat_lt;omega⟩
theorem bt {a b:World} (h:Below w.heap.size w a) (k:Below a.heap.size a b):Below w.heap.size w b:=h.trans (k.mono h.size)
theorem JV (a:Nat) (ha:a<9223372036854775808):(BitVec.ofInt 64 (a:Int)).toNat=a:=by
 rw [BitVec.ofInt_natCast,agi];exact afU (by omega)
theorem V1 (a b:Nat) (ha:a<9223372036854775808) (hb:b<9223372036854775808):bits .xor .i64 (a:Int) (b:Int)=((a^^^b:Nat):Int):=by
 have hx:a^^^b<2^63:=Nat.xor_lt_two_pow (by omega) (by omega)
 show IntKind.i64.wrap ((BitVec.ofInt 64 (a:Int)^^^BitVec.ofInt 64 (b:Int)).toNat:Int)=_
 rw [BitVec.toNat_xor,JV a ha,JV b hb,IntKind.wrap_i64]
 omega
theorem D5 {n:Int} (h:(Lit.int .i64 n).wf=true): -9223372036854775808<=n/\n<=9223372036854775807:=by
 simp only [Lit.wf,aeH,aff] at h
 have h1:IntKind.i64.min= -9223372036854775808:=rfl
 have h2:IntKind.i64.max=9223372036854775807:=rfl
 omega
@[go_sem] theorem ad6 {a : Addr} {d : Nat} {os : Array Obj} (h : (w.cell? a).isSome = true) : (grow (redrawn w d) os).cell? a = w.cell? a := by
 obtain ⟨v,hv⟩:=agH.1 h
 rw [hv];exact cell_regrown hv d os
theorem r2 {x:Int×Int} {b:Int} (h:x=(a,b)):Ending.returned (.tuple #[.int .i64 a, .int .i64 b])= .returned (.tuple #[.int .i64 x.1, .int .i64 x.2]):=by subst h;rfl
theorem ri {b:Int} (h:a=b):Ending.returned (.int k a)=Ending.returned (.int k b):=by rw [h]
theorem rb {a:Bool} (h:a=b):Ending.returned (.bool a)=Ending.returned (.bool b):=by rw [h]
theorem V2 {a:Bool} (h:a=true) (k:b=true):(a&&b)=true:=by rw [h,k];rfl
open Go.RowKit Go.ChangeShapes Go.WideShapes Go.Deep
class aQ (α:Type) where
 size:Nat
 rep:World->Nat->List Value->α->Prop
 len:∀{w B cs x},rep w B cs x->cs.length=size
 ct:∀{w w':World} {B cs x},rep w B cs x->(∀p:Addr,p.block<B->w'.cell? p=w.cell? p)->rep w' B cs x
 more:∀{w B B' cs x},rep w B cs x->B<=B'->rep w B' cs x
instance:aQ Int where
 size:=1
 rep _ _ cs x:=cs=[I x]/\ -9223372036854775808<=x/\x<=9223372036854775807
 len h:=by rw [h.1];rfl
 ct h _:=h
 more h _:=h
instance:aQ UInt8 where
 size:=1
 rep _ _ cs x:=cs=[B x]
 len h:=by rw [h];rfl
 ct h _:=h
 more h _:=h
structure cY where
 n:Nat
 lt:n<18446744073709551616
instance:aQ cY where
 size:=1
 rep _ _ cs x:=cs=[.int .u64 (x.n:Int)]
 len h:=by rw [h];rfl
 ct h _:=h
 more h _:=h
instance:aQ Bool where
 size:=1
 rep _ _ cs x:=cs=[.bool x]
 len h:=by rw [h];rfl
 ct h _:=h
 more h _:=h
instance:aQ ByteArray where
 size:=1
 rep _ _ cs x:=cs=[.string x]/\x.size<=9223372036854775807
 len h:=by rw [h.1];rfl
 ct h _:=h
 more h _:=h
instance {α β:Type} [aQ α] [aQ β]:aQ (α×β) where
 size:=aQ.size α+aQ.size β
 rep w B cs x:=∃c0 c1,cs=c0++c1/\aQ.rep w B c0 x.1/\aQ.rep w B c1 x.2
 len:=by rintro w B cs x ⟨c0,c1,rfl,h0,h1⟩;rw [afK,aQ.len h0,aQ.len h1]
 ct:=by rintro w w' B cs x ⟨c0,c1,rfl,h0,h1⟩ hk;exact ⟨c0,c1,rfl,aQ.ct h0 hk,aQ.ct h1 hk⟩
 more:=by rintro w B B' cs x ⟨c0,c1,rfl,h0,h1⟩ hk;exact ⟨c0,c1,rfl,aQ.more h0 hk,aQ.more h1 hk⟩
def V3 [aQ α] (w:World) (B b off:Nat) (xs:List α):Prop:=
 ∀i x,xs[i]? =some x->∃cs,aQ.rep w B cs x/\∀j u,cs[j]? =some u->w.cell? ⟨b,off+i*aQ.size α+j,none⟩=some u
instance {α:Type} [aQ α]:aQ (List α) where
 size:=1
 rep w B cs xs:=∃A n c,cs=[.slice A n c]/\n=xs.length/\n<=c/\c<=9223372036854775807/\(xs=[]\/∃b off,A=some ⟨b,off,none⟩/\b<B/\V3 w B b off xs)
 len:=by rintro w B cs x ⟨A,n,c,rfl,_⟩;rfl
 ct:=by
  rintro w w' B cs xs ⟨A,n,c,rfl,hn,hc,hm,h⟩ hk
  refine ⟨A,n,c,rfl,hn,hc,hm,h.imp id ?_⟩
  rintro ⟨b,off,hA,hb,hs⟩
  refine ⟨b,off,hA,hb,fun i x hx=> ?_⟩
  obtain ⟨cs,h1,h2⟩:=hs i x hx
  exact ⟨cs,aQ.ct h1 hk,fun j u hu=>(hk _ hb).trans (h2 j u hu)⟩
 more:=by
  rintro w B B' cs xs ⟨A,n,c,rfl,hn,hc,hm,h⟩ hk
  refine ⟨A,n,c,rfl,hn,hc,hm,h.imp id ?_⟩
  rintro ⟨b,off,hA,hb,hs⟩
  refine ⟨b,off,hA,ae7 hb hk,fun i x hx=> ?_⟩
  obtain ⟨cs,h1,h2⟩:=hs i x hx
  exact ⟨cs,aQ.more h1 hk,h2⟩
@[reducible] def aQ.via [aQ β] (f : α -> β) : aQ α where
 size:=aQ.size β
 rep w B cs x:=aQ.rep w B cs (f x)
 len h:=aQ.len h
 ct h hk:=aQ.ct h hk
 more h hk:=aQ.more h hk
structure eU (P:Program) (t:TypeId) (α:Type) [aQ α]:Prop where
 cells:P.cellsOf t=aQ.size α
 read:∀{H:Type} {enc:TypeId×Value->H} {W:World} {base:Nat} {sp:Nat->Bool} {held:Bool} {fuel:Nat} {cs:List Value} {y:DataW H×List MemPlace},
  DataW.trod enc P W base sp held fuel t cs=some y->∃x:α,aQ.rep W W.heap.size cs x
theorem V4 (hu:P.underlying t=some (.int .i64)) (hc:P.cellsOf t=1):eU P t Int where
 cells:=hc
 read h:=by
  obtain ⟨n,rfl,_,hw⟩:=DataW.trod_int hu h
  exact ⟨n,rfl,D5 hw⟩
theorem V5 (hu:P.underlying t=some .bool) (hc:P.cellsOf t=1):eU P t Bool where
 cells:=hc
 read h:=by
  obtain ⟨n,rfl,_⟩:=DataW.trod_bool hu h
  exact ⟨n,rfl⟩
theorem V6 (hu:P.underlying t=some .string) (hc:P.cellsOf t=1):eU P t ByteArray where
 cells:=hc
 read h:=by
  obtain ⟨n,rfl,_,hw⟩:=DataW.trod_string hu h
  exact ⟨n,rfl,hw⟩
theorem V7 (b off i:Nat):(⟨b,off,none⟩:Addr).add i=⟨b,off+i,none⟩:=by
 unfold Addr.add
 by_cases h:i=0
 ·subst h;rfl
 ·simp [h]
theorem V8 {p:Addr} {v:Value} (h:w.cell? p=some v):p.block<w.heap.size:=by
 rcases afq p.block w.heap.size with h1|h1
 ·exact h1
 ·unfold World.cell? at h
  rw [Array.getElem?_eq_none h1] at h
  simp at h
theorem D6 {e:TypeId} [aQ α] (hu:P.underlying t=some (.slice e)) (hc:P.cellsOf t=1) (he:eU P e α) (eG:0<aQ.size α):eU P t (List α) where
 cells:=hc
 read:=by
  intro H enc W base sp held fuel cs y h
  rcases open_slice hu h with ⟨rfl,_⟩|⟨a,len,cap,m,n,D,Pl,rfl,hb,hl,hm,dV,_,hx⟩
  ·exact ⟨[],none,0,0,rfl,rfl,by omega,by omega, .inl rfl⟩
  ·have yM:len<=m:=by rw [dV];split<;>omega
   have ib:∀i,i<len->∃x:α,∃cs,aQ.rep W W.heap.size cs x/\∀j u,cs[j]? =some u->W.cell? (a.add (i*aQ.size α+j))=some u:=by
    intro i hi
    obtain ⟨cs',h1,h2⟩:=hx i (by omega)
    obtain ⟨x,hr⟩:=he.read h2
    rw [he.cells] at h1
    obtain ⟨_,cX,o0⟩:=World.cells?_some h1
    refine ⟨x,cs',hr,fun j u hu=> ?_⟩
    have hj:j<cs'.length:=(aeN.1 hu).1
    have:=o0 j (by omega)
    rw [Go.Deep.add_add] at this
    rw [this,hu]
   clear hx
   have C0:∀k,k<=len->∃xs:List α,xs.length=k/\∀i x,xs[i]? =some x->∃cs,aQ.rep W W.heap.size cs x/\∀j u,cs[j]? =some u->W.cell? (a.add (i*aQ.size α+j))=some u:=by
    intro k
    induction k with
    |zero=>intro _;exact ⟨[],rfl,by simp⟩
    |succ k ih=>
     intro hk
     obtain ⟨xs,h1,h2⟩:=ih (by omega)
     obtain ⟨x,cs,h3,h4⟩:=ib k (by omega)
     refine ⟨xs++[x],by simp [h1],fun i z hz=> ?_⟩
     by_cases hi:i<k
     ·rw [afk (by omega)] at hz
      exact h2 i z hz
     ·rw [afr (by omega)] at hz
      obtain ⟨kF,rfl⟩:i=k/\x=z:=by
       have:i - xs.length=0:=by
        rcases af5 (i - xs.length) with h|h
        ·exact h
        ·rw [afM (by simp;omega)] at hz;cases hz
       rw [this] at hz
       simp at hz
       exact ⟨by omega,hz⟩
      subst kF
      exact ⟨cs,h3,h4⟩
   obtain ⟨xs,h1,h2⟩:=C0 len (aeO _)
   refine ⟨xs,some a,len,cap,rfl,h1.symm,hl,hm, ?_⟩
   by_cases h0:xs=[]
   ·exact .inl h0
   ·right
    have hp:0<xs.length:=List.length_pos_iff.2 h0
    obtain ⟨D7,h3,h4⟩:=h2 0 xs[0] (aeL hp)
    have hlen:=aQ.len h3
    have h5:=h4 0 D7[0] (aeL (by omega))
    have hlt:=V8 h5
    obtain ⟨b,off,spot⟩:=a
    have D8:spot=none:=by
     have:=World.cell?_spot h5
     simpa [Addr.add] using this
    subst D8
    simp only [V7] at h2 h5 hlt
    refine ⟨b,off,rfl,hlt,fun i x hx=> ?_⟩
    obtain ⟨cs,h6,h7⟩:=h2 i x hx
    exact ⟨cs,h6,fun j u hu=>by rw [Nat.add_assoc];exact h7 j u hu⟩
structure zC (P:Program) (fs:List Field) (off:Nat) (β:Type) [aQ β]:Prop where
 read:∀{H:Type} {enc:TypeId×Value->H} {W:World} {base:Nat} {sp:Nat->Bool} {held:Bool} {n:Nat} {cs:List Value} {ys:List (DataW H×List MemPlace)},
  cs.length=off+aQ.size β->fs.length<=ys.length->
  (∀(i:Nat) (f:Field),fs[i]? =some f->DataW.trod enc P W base sp held n f.type ((cs.drop f.offset).take (P.cellsOf f.type))=ys[i]?)->∃x:β,aQ.rep W W.heap.size (cs.drop off) x
theorem zD [aQ α] (h:eU P f.type α) (ho:f.offset=off):zC P [f] off α where
 read:=by
  intro H enc W base sp held n cs ys hl hy hx
  obtain ⟨y0,tT,rfl⟩:∃y0 tT,ys=y0::tT:=by
   cases ys with
   |nil=>simp at hy
   |cons a b=>exact ⟨a,b,rfl⟩
  have h0:=hx 0 f rfl
  rw [h.cells,ho,afA (by rw [List.length_drop];omega)] at h0
  exact h.read h0
theorem qI {fs:List Field} [aQ α] [aQ β] (h:eU P f.type α) (ho:f.offset=off) (hr:zC P fs (off+aQ.size α) β):zC P (f::fs) off (α×β) where
 read:=by
  intro H enc W base sp held n cs ys hl hy hx
  obtain ⟨y0,tT,rfl⟩:∃y0 tT,ys=y0::tT:=by
   cases ys with
   |nil=>simp at hy
   |cons a b=>exact ⟨a,b,rfl⟩
  have aZ:aQ.size (α×β)=aQ.size α+aQ.size β:=rfl
  have h0:=hx 0 f rfl
  rw [h.cells,ho] at h0
  obtain ⟨x,zE⟩:=h.read (y:=y0) (by rw [h0];rfl)
  obtain ⟨z,hz⟩:=hr.read (cs:=cs) (ys:=tT) (n:=n) (by omega) (by simpa using hy) (fun i g hg=>by rw [hx (i+1) g (by simpa using hg)];rfl)
  refine ⟨(x,z),_,_, ?_,zE,hz⟩
  rw [<-List.drop_drop,List.take_append_drop]
theorem zF {l:List Field} [aQ β] (hu:P.underlying t=some (.struct fs)) (hf:fs.toList=l) (hc:P.cellsOf t=aQ.size β) (h:zC P l 0 β):eU P t β where
 cells:=hc
 read:=by
  intro H enc W base sp held fuel cs y ht
  obtain ⟨xs,n,_,_,hl,qv,hg⟩:=DataW.trod_struct hu ht
  have hlen:l.length=fs.size:=by rw [<-hf];rfl
  have:=h.read (cs:=cs) (ys:=xs) (n:=n) (by rw [hl,hc];omega) (by omega) (fun i f hi=>hg i f (by rw [<-hf] at hi;simpa using hi))
  simpa using this
theorem eU.via {P:Program} {t:TypeId} {α β:Type} [aQ β] (h:eU P t β) (f:α->β) (g:β->α) (hg:∀x,f (g x)=x): @eU P t α (aQ.via f):=
 @eU.mk P t α (aQ.via f) h.cells (fun ht=>by obtain ⟨x,hx⟩:=h.read ht;exact ⟨g x,by show aQ.rep _ _ _ (f (g x));rw [hg];exact hx⟩)
theorem V9 [aQ α] (ho:eU P t α) (hu:P.underlying t=some (.struct fs)) {W:World} {r:Reach} {b0:Nat} {v:Value} {H:Type} {enc:TypeId×Value->H} {base:Nat} {sp:Nat->Bool} {held:Bool} {d:DataW H} {p:List MemPlace}
  (hv:Value.okWide P W r b0 t v) (h:DataW.Trod enc P W base sp held t v d p):∃(x:α) (cs:List Value),v= .agg cs.toArray/\aQ.rep W W.heap.size cs x:=by
 obtain ⟨cs,rfl,_⟩:=okWide_struct hu hv
 obtain ⟨fuel,hf⟩:=h
 obtain ⟨x,hx⟩:=ho.read hf
 exact ⟨x,cs.toList,rfl,hx⟩
open Go.RowKit
@[ext] structure aO where
 nodes:Int
 data:Int
 more:Int
 bU:Int
instance:aQ aO:=aQ.via (fun x=>(x.nodes,x.data,x.more,x.bU))
@[go_sem, simp] theorem aO.eta (x : aO) : (⟨x.nodes, x.data, x.more, x.bU⟩ : aO) = x := rfl
@[ext] structure zG where
 holder:Int
 till:Int
 token:Int
instance:aQ zG:=aQ.via (fun x=>(x.holder,x.till,x.token))
@[go_sem, simp] theorem zG.eta (x : zG) : (⟨x.holder, x.till, x.token⟩ : zG) = x := rfl
@[ext] structure Fence where
 seen:Int
instance:aQ Fence:=aQ.via (fun x=>x.seen)
@[go_sem, simp] theorem Fence.eta (x : Fence) : (⟨x.seen⟩ : Fence) = x := rfl
@[ext] structure tU where
 time:Int
 who:Int
instance:aQ tU:=aQ.via (fun x=>(x.time,x.who))
@[go_sem, simp] theorem tU.eta (x : tU) : (⟨x.time, x.who⟩ : tU) = x := rfl
@[ext] structure pz where
 at_:tU
 data:ByteArray
instance:aQ pz:=aQ.via (fun x=>(x.at_,x.data))
@[go_sem, simp] theorem pz.eta (x : pz) : (⟨x.at_, x.data⟩ : pz) = x := rfl
@[ext] structure zH where
 level:Int
 now:Int
 burst:Int
 rate:Int
instance:aQ zH:=aQ.via (fun x=>(x.level,x.now,x.burst,x.rate))
@[go_sem, simp] theorem zH.eta (x : zH) : (⟨x.level, x.now, x.burst, x.rate⟩ : zH) = x := rfl
@[ext] structure Term where
 begin:Int
 end_:Int
instance:aQ Term:=aQ.via (fun x=>(x.begin,x.end_))
@[go_sem, simp] theorem Term.eta (x : Term) : (⟨x.begin, x.end_⟩ : Term) = x := rfl
@[ext] structure zI where
 kind:Int
 op:Int
 node:Int
 copy:pz
instance:aQ zI:=aQ.via (fun x=>(x.kind,x.op,x.node,x.copy))
@[go_sem, simp] theorem zI.eta (x : zI) : (⟨x.kind, x.op, x.node, x.copy⟩ : zI) = x := rfl
@[ext] structure zJ where
 no:Int
 members:cY
instance:aQ zJ:=aQ.via (fun x=>(x.no,x.members))
@[go_sem, simp] theorem zJ.eta (x : zJ) : (⟨x.no, x.members⟩ : zJ) = x := rfl
@[ext] structure zK where
 block:Int
 data:ByteArray
instance:aQ zK:=aQ.via (fun x=>(x.block,x.data))
@[go_sem, simp] theorem zK.eta (x : zK) : (⟨x.block, x.data⟩ : zK) = x := rfl
@[ext] structure Act where
 kind:Int
 n:Int
 data:ByteArray
instance:aQ Act:=aQ.via (fun x=>(x.kind,x.n,x.data))
@[go_sem, simp] theorem Act.eta (x : Act) : (⟨x.kind, x.n, x.data⟩ : Act) = x := rfl
@[ext] structure zL where
 kind:Int
 bid:Int
 node:Int
 copy:pz
instance:aQ zL:=aQ.via (fun x=>(x.kind,x.bid,x.node,x.copy))
@[go_sem, simp] theorem zL.eta (x : zL) : (⟨x.kind, x.bid, x.node, x.copy⟩ : zL) = x := rfl
@[ext] structure zM where
 promised:tU
 kept:pz
instance:aQ zM:=aQ.via (fun x=>(x.promised,x.kept))
@[go_sem, simp] theorem zM.eta (x : zM) : (⟨x.promised, x.kept⟩ : zM) = x := rfl
@[ext] structure zN where
 time:Int
 phase:Int
 own:ByteArray
 value:ByteArray
 best:pz
 heard:cY
instance:aQ zN:=aQ.via (fun x=>(x.time,x.phase,x.own,x.value,x.best,x.heard))
@[go_sem, simp] theorem zN.eta (x : zN) : (⟨x.time, x.phase, x.own, x.value, x.best, x.heard⟩ : zN) = x := rfl
@[ext] structure Ask where
 op:Int
 kind:Int
 phase:Int
 data:ByteArray
 best:pz
 heard:cY
instance:aQ Ask:=aQ.via (fun x=>(x.op,x.kind,x.phase,x.data,x.best,x.heard))
@[go_sem, simp] theorem Ask.eta (x : Ask) : (⟨x.op, x.kind, x.phase, x.data, x.best, x.heard⟩ : Ask) = x := rfl
@[ext] structure Step where
 kind:Int
 n:Int
 data:ByteArray
instance:aQ Step:=aQ.via (fun x=>(x.kind,x.n,x.data))
@[go_sem, simp] theorem Step.eta (x : Step) : (⟨x.kind, x.n, x.data⟩ : Step) = x := rfl
open Go.RowKit
inductive R2 (R:Value->AV->Prop):List Value->List AV->Prop
 |nil:R2 R [] []
 |cons {v:Value} {a:AV} {vs:List Value} {as_:List AV} (h:R v a) (t:R2 R vs as_):R2 R (v::vs) (a::as_)
theorem R2.len {R:Value->AV->Prop} {vs:List Value} {as_:List AV} (h:R2 R vs as_):vs.length=as_.length:=by
 induction h with
 |nil=>rfl
 |cons _ _ ih=>simp [ih]
theorem R2.get {R:Value->AV->Prop} (h:R2 R vs as_):∀(i:Nat) v a,vs[i]? =some v->as_[i]? =some a->R v a:=by
 induction h with
 |nil=>intro i v a hv;simp at hv
 |cons h _ ih=>
  intro i v a hv ha
  cases i with
  |zero=>simp at hv ha;subst hv;subst ha;exact h
  |succ i=>exact ih i v a (by simpa using hv) (by simpa using ha)
theorem R2.rc {E:Env} (h:R2 (aj E) vs as_):RC E vs.toArray as_:=⟨by simpa using h.len,fun j u c hu hc=>h.get j u c (by simpa using hu) hc⟩
theorem R2.agg {E:Env} {vs:List Value} {as_:List AV} (h:R2 (aj E) vs as_):aj E (.agg vs.toArray) (.agg as_):= .agg (by simpa using h.len) fun j u c hu hc=>h.get j u c (by simpa using hu) hc
theorem Wa {f:FuncId} (h:Fn P f as_ (.v (.bool true))) (hG:gM (E0 w fun b=>b<w.heap.size)) (di:R2 (aj (E0 w fun b=>b<w.heap.size)) vs as_):
  Calls P f vs.toArray w fun e w'=>e= .returned (.bool true)/\Below w.heap.size w w':=
 (h w _ vs.toArray (fun _ h=>h) hG di.rc).mono fun e w' ⟨v,he,hr,hb⟩=>⟨he.trans (by rw [hr.l0]),hb⟩
open Go.RowKit
inductive Cn where
 |lt (x y:Int)
 |le (x y:Int)
 |eq (x y:Int)
 |ey (x y:UInt8)
 |ly (x y:UInt8)
 |ez (x y:ByteArray)
 |lz (x y:ByteArray)
 |b (x:Bool)
 |eb (x y:Bool)
 |not (c:Cn)
 |and (c d:Cn)
 |or (c d:Cn)
def Cn.den:Cn->Bool
 | .lt x y=>decide (x<y)
 | .le x y=>decide (x<=y)
 | .eq x y=>x==y
 | .ey x y=>x==y
 | .ly x y=>decide (x<y)
 | .ez x y=>oQ x y
 | .lz x y=>Op.bytesLess x.toList y.toList
 | .b x=>x
 | .eb x y=>x==y
 | .not c=> !c.den
 | .and c d=>c.den&&d.den
 | .or c d=>c.den||d.den
def Cn.tf:Cn->Bool->Prop
 | .lt x y,true=>x<y
 | .lt x y,false=>y<=x
 | .le x y,true=>x<=y
 | .le x y,false=>y<x
 | .eq x y,true=>x=y
 | .eq x y,false=>¬x=y
 | .ey x y,true=>x=y
 | .ey x y,false=>¬x=y
 | .ly x y,true=>x<y
 | .ly x y,false=>y<=x
 | .ez x y,true=>x=y
 | .ez x y,false=>¬x=y
 | .lz x y,p=>Op.bytesLess x.toList y.toList=p
 | .b x,p=>x=p
 | .eb x y,true=>x=y
 | .eb x y,false=>¬x=y
 | .not c,p=>c.tf (!p)
 | .and c d,true=>c.tf true/\d.tf true
 | .and c d,false=>c.tf false\/d.tf false
 | .or c d,true=>c.tf true\/d.tf true
 | .or c d,false=>c.tf false/\d.tf false
theorem JX {a b:ByteArray}:oQ a b=true↔a=b:=by
 unfold oQ
 rw [beq_iff_eq]
 constructor
 ·intro h
  have:a.data=b.data:=by rw [<-agw];exact h
  cases a;cases b;simp_all
 ·intro h;rw [h]
theorem Cn.mo (c:Cn) (p:Bool):c.tf p↔c.den=p:=by
 induction c generalizing p with
 |lt x y=>cases p<;>simp [tf,den]
 |le x y=>cases p<;>simp [tf,den]
 |eq x y=>cases p<;>simp [tf,den]
 |ey x y=>cases p<;>simp [tf,den]
 |ly x y=>cases p<;>simp [tf,den]
 |ez x y=>
  cases p
  ·simp only [tf,den,Bool.eq_false_iff,ne_eq,JX]
  ·simp only [tf,den,JX]
 |lz x y=>cases p<;>simp [tf,den]
 |b x=>cases p<;>simp [tf,den]
 |eb x y=>cases p<;>simp [tf,den]
 |not c ih=>simp only [tf,den,ih];cases c.den<;>cases p<;>simp
 |and c d D9 Ea=>cases p<;>simp [tf,den,D9,Ea]<;>cases c.den<;>simp
 |or c d D9 Ea=>cases p<;>simp [tf,den,D9,Ea]<;>cases c.den<;>simp
inductive RK where
 |nil
 |own
 |aV
structure Row (α:Type) where
 kd:RK
 id:Nat
 n:Nat
 xs:List α
variable {r:Row α}
def Row.no (α:Type):Row α:=⟨.nil,0,0,[]⟩
def Row.at (α:Type) (id n:Nat):Row α:=⟨.own,id,n,[]⟩
def Row.fix (α:Type) (xs:List α):Row α:=⟨.aV,0,0,xs⟩
inductive SV (τ:Type) (dn:τ->Type) where
 |vi (x:Int)
 |vn (x:Int)
 |vy (x:UInt8)
 |vu (x:cY)
 |vw (q:IntKind) (x:Int)
 |vb (c:Cn)
 |vt (x:Bool)
 |vz (s:ByteArray)
 |vo (x:Value)
 |agg (cs:List (SV τ dn))
 |bm (cs:List (SV τ dn))
 |vl (t:τ) (xs:List (dn t))
 |vc (sz:Nat) (els:List (List (SV τ dn)))
 |emp
 |pim (cs:List (SV τ dn)) (o:Nat)
 |ref (nm sz i o:Nat)
 |own (nm sz:Nat)
 |part (nm sz off len:Nat)
 |fn (f:FuncId) (cs:List (SV τ dn))
 |bf (f:FuncId) (cs:List (SV τ dn))
 |mp (nm:Nat)
 |rw (t:τ) (r:Row (dn t))
 |eg (t:τ) (r:Row (dn t)) (i o:Nat)
 |vg (p:Bool) (c:Cn) (v:SV τ dn)
 |dead
section
variable {τ:Type} {dn:τ->Type}
mutual
def SV.fr (p:Nat->Bool):SV τ dn->Bool
 | .own nm _| .part nm _ _ _| .ref nm _ _ _| .mp nm=>p nm
 | .agg cs| .bm cs| .pim cs _| .fn _ cs| .bf _ cs=>SV.ck p cs
 | .vc _ els=>SV.pA p els
 | .vg _ _ v=>SV.fr p v
 |_=>true
def SV.ck (p:Nat->Bool):List (SV τ dn)->Bool
 |[]=>true
 |v::r=>SV.fr p v&&SV.ck p r
def SV.pA (p:Nat->Bool):List (List (SV τ dn))->Bool
 |[]=>true
 |cs::r=>SV.ck p cs&&SV.pA p r
end
end
structure TE (τ:Type) (dn:τ->Type) where
 sz:τ->Nat
 ea:(ρ:Nat->AV)->(t:τ)->dn t->List AV
structure aL where
 ι:Nat->Nat
 ln:Nat->Nat
 ρ:Nat->AV
variable {N:aL}
section
variable {τ:Type} {dn:τ->Type} (E:TE τ dn) (N:aL)
mutual
def SV.av:SV τ dn->AV
 | .vi x=> .v (.int .i64 x)
 | .vn x=> .v (.int .i64 x)
 | .vy x=> .v (.int .u8 x.toNat)
 | .vu x=> .v (.int .u64 (x.n:Int))
 | .vw q x=> .v (.int q x)
 | .vb c=> .v (.bool c.den)
 | .vt x=> .v (.bool x)
 | .vz s=> .v (.string s)
 | .vo x=> .v x
 | .agg cs=> .agg (SV.dy cs)
 | .bm cs=> .bm (SV.dy cs)
 | .vl ty xs=> .aV (E.sz ty) (xs.map (E.ea N.ρ ty))
 | .vc sz els=> .aV sz (SV.cM els)
 | .emp=> .emp
 | .pim cs o=> .pim (SV.dy cs) o
 | .ref nm sz i o=> .ref (N.ι nm) sz i o
 | .own nm sz=> .own (N.ι nm) sz 0 (N.ln nm)
 | .part nm sz off len=> .own (N.ι nm) sz off len
 | .fn f cs=> .fn f (SV.dy cs)
 | .bf f cs=> .bf f (SV.dy cs)
 | .mp nm=> .mp (N.ι nm)
 | .rw t r=>match r.kd with
  | .nil=> .emp
  | .own=> .own r.id (E.sz t) 0 r.n
  | .aV=> .aV (E.sz t) (r.xs.map (E.ea N.ρ t))
 | .eg t r i o=>match r.kd with
  | .nil=> .dead
  | .own=> .ref r.id (E.sz t) i o
  | .aV=>match r.xs[i]? with
   |some x=> .pim (E.ea N.ρ t x) o
   |none=> .dead
 | .vg p c v=>if c.den=p then SV.av v else .v undef
 | .dead=> .dead
def SV.dy:List (SV τ dn)->List AV
 |[]=>[]
 |v::r=>SV.av v::SV.dy r
def SV.cM:List (List (SV τ dn))->List (List AV)
 |[]=>[]
 |cs::r=>SV.dy cs::SV.cM r
end
theorem SV.bX (cs:List (SV τ dn)):SV.dy E N cs=cs.map (SV.av E N):=by
 induction cs with
 |nil=>simp [SV.dy]
 |cons v r ih=>simp [SV.dy,ih]
theorem SV.lC (els:List (List (SV τ dn))):SV.cM E N els=els.map fun cs=>cs.map (SV.av E N):=by
 induction els with
 |nil=>simp [SV.cM]
 |cons v r ih=>simp [SV.cM,ih,SV.bX]
inductive SB (τ:Type) (dn:τ->Type) where
 |bl (t:τ) (xs:List (dn t))
 |bc (sz:Nat) (els:List (List (SV τ dn)))
 |mc (els:List (List (SV τ dn)))
 |ar (t:τ) (A:List (Nat×List (dn t)))
def SB.av:SB τ dn->Bk
 | .bl ty xs=>⟨E.sz ty,xs.map (E.ea N.ρ ty)⟩
 | .bc sz els=>⟨sz,SV.cM E N els⟩
 | .mc els=>⟨0,SV.cM E N els⟩
 | .ar ty _=>⟨E.sz ty,[]⟩
def SB.len:SB τ dn->Nat
 | .bl _ xs=>xs.length
 | .bc _ els=>els.length
 | .mc _=>0
 | .ar _ _=>0
def SB.lD:SB τ dn->Bool
 | .ar _ _=>true
 |_=>false
def SB.Eb:SB τ dn->Bool
 | .mc _=>true
 |_=>false
theorem SB.Wb (B:SB τ dn) (h:B.Eb=false):(B.av E N).els.length=B.len:=by
 cases B with
 |bl t xs=>simp [SB.av,SB.len]
 |bc sz els=>simp [SB.av,SB.len,SV.lC]
 |mc els=>simp [SB.Eb] at h
 |ar t A=>simp [SB.av,SB.len]
end
section
variable {τ:Type} {dn:τ->Type}
def SV.cells:SV τ dn->List (SV τ dn)
 | .agg cs=>cs
 |a=>[a]
def SV.one:SV τ dn->Bool
 | .agg _| .bm _| .dead| .vg _ _ _| .eg _ _ _ _=>false
 | .vo x=>x.oneCell'
 |_=>true
def SV.kx:SV τ dn->Bool
 | .agg _=>true
 |a=>a.one
theorem SV.wh {E:TE τ dn} {v:SV τ dn} (h:v.kx=true):(v.av E N).cells=v.cells.map (SV.av E N):=by
 cases v<;>simp [SV.kx,SV.one] at h<;>first
  |(simp [SV.av,AV.cells,SV.cells,SV.bX];done)
  |(simp only [SV.av,SV.cells,aeR,afh];(repeat' split)<;>rfl)
theorem SV.Wc {E:TE τ dn} {v:SV τ dn} (h:v.one=true):(v.av E N).one=true:=by
 cases v<;>simp [SV.one] at h<;>first|exact h|rfl|(simp only [SV.av];(repeat' split)<;>rfl)
theorem SV.Wd {E:TE τ dn} {v:SV τ dn} (h:v.kx=true):(v.av E N).kx=true:=by
 cases v<;>simp [SV.kx,SV.one] at h<;>first|exact h|rfl|(simp only [SV.av];(repeat' split)<;>rfl)
end
section
variable {α:Type}
def cz (A:List (Nat×α)) (id:Nat):Prop:=id∈A.map Prod.fst
def JY (d:α):List (Nat×α)->Nat->α
 |[],_=>d
 |(j,x)::r,id=>if id=j then x else JY d r id
def bk (A:List (Nat×List α)) (id:Nat):List α:=JY [] A id
theorem Ec {id:Nat}:¬cz ([]:List (Nat×α)) id:=by simp [cz]
theorem jt {x:α} {A:List (Nat×α)} {id:Nat}:cz ((j,x)::A) id↔id=j\/cz A id:=by simp [cz]
theorem gC {x:List α} {A:List (Nat×List α)} {id:Nat}:bk ((j,x)::A) id=if id=j then x else bk A id:=rfl
def Row.get (r:Row α) (A:List (Nat×List α)):List α:=match r.kd with
 | .nil=>[]
 | .own=>bk A r.id
 | .aV=>r.xs
def Row.ok (r:Row α) (A:List (Nat×List α)):Prop:=match r.kd with
 | .own=>cz A r.id/\(bk A r.id).length=r.n
 |_=>True
@[simp, grind =] theorem Row.We {id:Nat} : (Row.at α id n).id = id := rfl
@[simp, grind =] theorem Row.ad7 {id:Nat} : (Row.at α id n).n = n := rfl
@[simp, grind =] theorem Row.ad8 {id:Nat} : (Row.at α id n).kd = .own := rfl
@[simp, grind =] theorem Row.ad9 : (Row.no α).kd = .nil := rfl
@[simp, grind =] theorem Row.aea {xs : List α} : (Row.fix α xs).kd = .aV := rfl
@[simp, grind =] theorem Row.aeb {xs : List α} : (Row.fix α xs).xs = xs := rfl
def Row.bF (r:Row α) (A:List (Nat×List α)):Prop:=r.kd= .own/\cz A r.id/\(bk A r.id).length=r.n
end
open Go.RowKit
def aB (x:Int):Prop:= -9223372036854775808<=x/\x<=9223372036854775807
theorem aB.wr {x:Int} (h:aB x):IntKind.i64.wrap x=x:=by rw [IntKind.wrap_i64];unfold aB at h;omega
def uN (n:Nat):cY:=⟨n%18446744073709551616,Nat.mod_lt _ (by decide)⟩
theorem tV (h:n<18446744073709551616):(uN n).n=n:=afU h
theorem wrap_u8 (x:Int):IntKind.u8.wrap x=x%256:=by simp [IntKind.wrap,IntKind.bits,IntKind.signed]
theorem wrap_u64 (x:Int):IntKind.u64.wrap x=x%18446744073709551616:=by simp [IntKind.wrap,IntKind.bits,IntKind.signed]
theorem bits_nat (op:BinOp) (k:IntKind) (a b:Nat):bits op k a b=k.wrap ((match op with
  | .and=>BitVec.ofNat k.bits a&&&BitVec.ofNat k.bits b
  | .or=>BitVec.ofNat k.bits a|||BitVec.ofNat k.bits b
  | .xor=>BitVec.ofNat k.bits a^^^BitVec.ofNat k.bits b
  |_=>BitVec.ofNat k.bits a&&& ~~~BitVec.ofNat k.bits b).toNat:Int):=by
 unfold bits;simp only [BitVec.ofInt_natCast]
 cases op<;>rfl
def kL:BinOp->Nat->Nat->Nat
 | .and,a,b=>a&&&b
 | .or,a,b=>a|||b
 | .xor,a,b=>a^^^b
 |_,a,b=>a&&&(a^^^b)
theorem Wf (a b:Nat) (n:Nat) (ha:a<2^n):(BitVec.ofNat n a&&& ~~~BitVec.ofNat n b).toNat=a&&&(a^^^(b%2^n)):=by
 rw [BitVec.toNat_and,BitVec.toNat_not,agi,agi,afU ha]
 apply Nat.eq_of_testBit_eq
 intro i
 rw [Nat.testBit_and,Nat.testBit_and,Nat.testBit_xor,show 2^n - 1 - b%2^n=2^n - (b%2^n+1) by omega,Nat.testBit_two_pow_sub_succ (Nat.mod_lt _ (Nat.two_pow_pos n))]
 cases h:a.testBit i with
 |false=>simp
 |true=>
  have hi:i<n:=by
   by_cases hi:i<n
   ·exact hi
   ·exfalso
    have:a<2^i:=ae7 ha (Nat.pow_le_pow_right (by decide) (by omega))
    rw [Nat.testBit_lt_two_pow this] at h;simp at h
  simp [hi]
theorem Ed (op:BinOp) (k:IntKind) (a b:Nat) (ha:a<2^k.bits) (hb:b<2^k.bits):bits op k a b=k.wrap (kL op a b:Nat):=by
 rw [bits_nat]
 have h1:=afU ha
 have h2:=afU hb
 cases op<;>simp only [kL]<;>first
  |rw [BitVec.toNat_and,agi,agi,h1,h2]
  |rw [BitVec.toNat_or,agi,agi,h1,h2]
  |rw [BitVec.toNat_xor,agi,agi,h1,h2]
  |rw [Wf _ _ _ ha,h2]
theorem zO (op:BinOp) {a b:Nat} (ha:a<2^n) (hb:b<2^n):kL op a b<2^n:=by
 cases op<;>simp only [kL]<;>first
  |exact Nat.or_lt_two_pow ha hb
  |exact Nat.xor_lt_two_pow ha hb
  |exact Nat.lt_of_le_of_lt Nat.and_le_left ha
theorem Wg (op:BinOp) (a b:Nat) (h:a<2^63) (h2:b<2^63):kL op a b<2^63:=zO op h h2
theorem Ee (op:BinOp) (x y:Int) (hx:0<=x) (hy:0<=y) (JZ:aB x) (Wh:aB y):bits op .i64 x y=((kL op x.toNat y.toNat:Nat):Int):=by
 unfold aB at JZ Wh
 have e1:((x.toNat:Nat):Int)=x:=by omega
 have e2:((y.toNat:Nat):Int)=y:=by omega
 have h1:x.toNat<2^63:=by omega
 have h2:y.toNat<2^63:=by omega
 have:=Ed op .i64 x.toNat y.toNat (Nat.lt_trans h1 (by decide)) (Nat.lt_trans h2 (by decide))
 rw [e1,e2] at this
 rw [this]
 have h3:=Wg op _ _ h1 h2
 have h4:kL op x.toNat y.toNat<9223372036854775808:=h3
 exact aB.wr ⟨by omega,by omega⟩
def Ef:BinOp->UInt8->UInt8->UInt8
 | .and,a,b=>a&&&b
 | .or,a,b=>a|||b
 | .xor,a,b=>a^^^b
 |_,a,b=>a&&&(a^^^b)
theorem Wi (op:BinOp) (a b:UInt8):(Ef op a b).toNat=kL op a.toNat b.toNat:=by
 cases op<;>simp [Ef,kL]
theorem Eg (op:BinOp) (a b:UInt8):bits op .u8 (a.toNat:Int) (b.toNat:Int)=((Ef op a b).toNat:Int):=by
 rw [Ed op .u8 _ _ a.toNat_lt b.toNat_lt,Wi,wrap_u8]
 have:kL op a.toNat b.toNat<2^8:=zO op a.toNat_lt b.toNat_lt
 omega
def pB (op:BinOp) (a b:cY):cY:=uN (kL op a.n b.n)
theorem J0 (op:BinOp) (a b:cY):(pB op a b).n=kL op a.n b.n:=tV (by
 have:kL op a.n b.n<2^64:=zO op a.lt b.lt
 exact this)
theorem wi (op:BinOp) (a b:cY):bits op .u64 (a.n:Int) (b.n:Int)=((pB op a b).n:Int):=by
 rw [Ed op .u64 _ _ a.lt b.lt,J0,wrap_u64]
 have:kL op a.n b.n<2^64:=zO op a.lt b.lt
 omega
theorem Wj (a b:UInt8):IntKind.u8.wrap ((a.toNat:Int)+b.toNat)=((a+b).toNat:Int):=by
 rw [wrap_u8,UInt8.toNat_add];omega
theorem Wk (a b:UInt8):IntKind.u8.wrap ((a.toNat:Int) - b.toNat)=((a - b).toNat:Int):=by
 rw [wrap_u8,UInt8.toNat_sub];have:=b.toNat_lt;omega
theorem Wl (a b:UInt8):IntKind.u8.wrap ((a.toNat:Int)*b.toNat)=((a*b).toNat:Int):=by
 rw [wrap_u8,UInt8.toNat_mul, <-Int.natCast_mul];omega
theorem Wm (a b:cY):IntKind.u64.wrap ((a.n:Int)+b.n)=((uN (a.n+b.n)).n:Int):=by
 rw [wrap_u64];show _=(((a.n+b.n)%18446744073709551616:Nat):Int);omega
theorem Wn (a b:cY):IntKind.u64.wrap ((a.n:Int) - b.n)=((uN (a.n+18446744073709551616 - b.n)).n:Int):=by
 have:=b.lt
 rw [wrap_u64];show _=(((a.n+18446744073709551616 - b.n)%18446744073709551616:Nat):Int);omega
theorem Wo (a b:cY):IntKind.u64.wrap ((a.n:Int)*b.n)=((uN (a.n*b.n)).n:Int):=by
 rw [wrap_u64, <-Int.natCast_mul];show _=(((a.n*b.n)%18446744073709551616:Nat):Int);omega
def wj (a:UInt8) (k:Nat):UInt8:=UInt8.ofNat (a.toNat*2^(min k 8))
def wk (a:UInt8) (k:Nat):UInt8:=UInt8.ofNat (a.toNat / 2^(min k 8))
theorem J1 (a k:Nat):((a:Int)*2^k)=((a*2^k:Nat):Int):=by rw [Int.natCast_mul,Int.natCast_pow];rfl
theorem J2 (a:UInt8) (k:Nat):IntKind.u8.wrap ((a.toNat:Int)*2^(min k IntKind.u8.bits))=((wj a k).toNat:Int):=by
 have e:(wj a k).toNat=a.toNat*2^min k 8%256:=by unfold wj;exact UInt8.toNat_ofNat ..
 rw [wrap_u8,e,show IntKind.u8.bits=8 from rfl,J1,Int.natCast_emod];rfl
theorem fdiv_pow (a k:Nat):((a:Int).fdiv (2^k))=((a / 2^k:Nat):Int):=by
 rw [show (2:Int)^k=((2^k:Nat):Int) by simp]
 exact Int.fdiv_eq_ediv_of_nonneg _ (Int.natCast_nonneg _)
theorem J3 (a:UInt8) (k:Nat):((a.toNat:Int).fdiv (2^(min k IntKind.u8.bits)))=((wk a k).toNat:Int):=by
 have e:(wk a k).toNat=a.toNat / 2^min k 8%256:=by unfold wk;exact UInt8.toNat_ofNat ..
 have h:a.toNat / 2^min k 8<256:=Nat.lt_of_le_of_lt (Nat.div_le_self _ _) a.toNat_lt
 rw [e,afU h,show IntKind.u8.bits=8 from rfl,fdiv_pow]
theorem J4 (a:cY) (k:Nat):IntKind.u64.wrap ((a.n:Int)*2^(min k IntKind.u64.bits))=((uN (a.n*2^min k 64)).n:Int):=by
 rw [wrap_u64,show IntKind.u64.bits=64 from rfl,J1]
 show _=(((a.n*2^min k 64)%18446744073709551616:Nat):Int);rw [Int.natCast_emod];rfl
theorem J5 (a:cY) (k:Nat):((a.n:Int).fdiv (2^(min k IntKind.u64.bits)))=((uN (a.n / 2^min k 64)).n:Int):=by
 have h:a.n / 2^min k 64<18446744073709551616:=Nat.lt_of_le_of_lt (Nat.div_le_self _ _) a.lt
 rw [tV h,show IntKind.u64.bits=64 from rfl,fdiv_pow]
theorem Wp (x:Int) (k:Nat) (h:aB (x*2^k)):IntKind.i64.wrap (x*2^(min k IntKind.i64.bits))=x*2^k:=by
 rw [show IntKind.i64.bits=64 from rfl]
 by_cases hk:k<=64
 ·rw [agp hk];exact h.wr
 ·rw [Nat.min_eq_right (by omega)]
  have h0:x=0:=by
   obtain ⟨j,rfl⟩:∃j,k=64+j:=⟨k - 64,by omega⟩
   have hp:(1:Int)<=2^j:=by exact_mod_cast Nat.two_pow_pos j
   unfold aB at h
   rw [Int.pow_add] at h
   by_cases hx:0<x
   ·exfalso
    have h2:x*(2^64*1)<=x*(2^64*2^j):=agK (agK hp (by decide)) (by omega)
    have:=h.2;omega
   ·by_cases JZ:x<0
    ·exfalso
     have h2:(-x)*(2^64*1)<=(-x)*(2^64*2^j):=agK (agK hp (by decide)) (by omega)
     rw [Int.neg_mul (b:=2^64*2^j)] at h2
     have:=h.1;omega
    ·omega
  rw [h0];simp;exact aB.wr ⟨by decide,by decide⟩
theorem Wq (x:Int) (k:Nat) (h:k<=64):x.fdiv (2^(min k IntKind.i64.bits))=x / 2^k:=by
 rw [show IntKind.i64.bits=64 from rfl,agp h]
 exact Int.fdiv_eq_ediv_of_nonneg _ (Int.pow_nonneg (by decide))
theorem Wr {x y:Int} (h:0<=x/\0<y/\aB x):IntKind.i64.wrap (x.tdiv y)=x / y:=by
 rw [Int.tdiv_eq_ediv_of_nonneg h.1]
 have h1:=Int.ediv_nonneg (b:=y) h.1 (by omega)
 have h2:=Int.ediv_le_self y h.1
 have:=h.2.2
 unfold aB at this
 exact aB.wr ⟨by omega,by omega⟩
theorem Ws {x y:Int} (h:0<=x):x.tmod y=x%y:=Int.tmod_eq_emod_of_nonneg h
theorem Eh {x:Int} (h:0<=x):IntKind.u8.wrap x=((UInt8.ofNat x.toNat).toNat:Int):=by
 have e:(UInt8.ofNat x.toNat).toNat=x.toNat%256:=UInt8.toNat_ofNat ..
 rw [wrap_u8,e];omega
theorem J6 {x:Int} (h:0<=x):IntKind.u64.wrap x=((uN x.toNat).n:Int):=by
 rw [wrap_u64];show _=((x.toNat%18446744073709551616:Nat):Int);omega
open Go.RowKit
def gd (d:α) (xs:List α) (i:Nat):α:=(xs[i]?).getD d
theorem jW {α:Type} {d:α} {xs:List α} (h:i<xs.length):xs[i]? =some (gd d xs i):=by
 unfold gd;rw [aeL h];rfl
theorem qJ {α:Type} (d:α) {xs:List α} (h:i<xs.length):xs.drop i=gd d xs i::xs.drop (i+1):=by
 rw [List.drop_eq_getElem_cons h];unfold gd;rw [aeL h];rfl
theorem eV {α:Type} {d:α} {xs:List α} (h:i<xs.length):gd d xs i∈xs:=afd (jW h)
def gb (s:ByteArray) (i:Nat):UInt8:=(s[i]?).getD 0
structure TD (τ:Type) (dn:τ->Type) extends TE τ dn where
 df:(t:τ)->dn t
 es:(t:τ)->dn t->List (SV τ dn)
 ds:(t:τ)->List (SV τ dn)->Option (dn t)
 ag:τ->Bool
 pu:τ->Bool
 hint:Nat->Nat->Option τ
 neg:Bool
 em:τ->Bool:=fun _=>false
 ar:Option τ:=none
 hr:τ->Bool:=fun _=>false
 fz:(t ta:τ)->(A:List (Nat×List (dn ta)))->Option ((t':τ)×(dn t->dn t')×(dn t->Prop)):=fun _ _ _=>none
 bt:(t:τ)->Option ((dn t->UInt8)×(UInt8->dn t)):=fun _=>none
 th:(t t':τ)->Option (dn t->dn t'):=fun _ _=>none
def SV.ne:SV τ dn->Bool
 | .emp=>false
 |_=>true
def TD.sj (D:TD τ dn) (t:τ) (cs:List (SV τ dn)):Bool:=D.em t||cs.all SV.ne
structure bE {τ:Type} {dn:τ->Type} (D:TD τ dn):Prop where
 dD:∀(N:aL) (t:τ) (x:dn t),(D.es t x).map (SV.av D.toTE N)=D.ea N.ρ t x
 iF:∀(N:aL) (t:τ) (cs:List (SV τ dn)) (x:dn t),D.ds t cs=some x->eP (cs.map (SV.av D.toTE N)) (D.ea N.ρ t x)
 fX:∀(N:aL) (t:τ) (cs:List (SV τ dn)) (x:dn t),D.ds t cs=some x->D.sj t cs=true->cs.map (SV.av D.toTE N)=D.ea N.ρ t x
 len:∀(t:τ) (x:dn t),(D.es t x).length=D.sz t
 one:∀(t:τ) (x:dn t),(D.es t x).all SV.one=true
 nf:∀(p:Nat->Bool) (t:τ) (x:dn t),SV.ck p (D.es t x)=true
 gS:∀(ρ iG:Nat->AV) (t:τ) (x:dn t),D.pu t=true->D.ea ρ t x=D.ea iG t x
 pu1:∀(N:aL) (t:τ) (x:dn t),D.pu t=true->(D.ea N.ρ t x).all AV.pu1=true
 bt:∀(N:aL) (t:τ) (p:(dn t->UInt8)×(UInt8->dn t)),D.bt t=some p->(∀x,D.ea N.ρ t x=[.v (.int .u8 (p.1 x).toNat)])/\∀b,p.1 (p.2 b)=b
 th:∀(ρ:Nat->AV) (t t':τ) (f:dn t->dn t'),D.th t t'=some f->D.sz t'=D.sz t/\∀x,D.ea ρ t' (f x)=D.ea ρ t x
 fz:∀(N:aL) (φ:AV->AV) (t ta:τ) (A:List (Nat×List (dn ta))) (t':τ) (f:dn t->dn t') (O:dn t->Prop),D.fz t ta A=some ⟨t',f,O⟩->(∀a,a.pu1=true->φ a=a)->
  (∀id n,cz A id->(bk A id).length=n->φ (.own id (D.sz ta) 0 n)= .aV (D.sz ta) ((bk A id).map (D.ea N.ρ ta)))->D.sz t'=D.sz t/\∀x,O x->(D.ea N.ρ t x).map φ=D.ea N.ρ t' (f x)
theorem bE.wm {D:TD τ dn} (ok:bE D) (N:aL) (t:τ) (cs:List (SV τ dn)) (x:dn t) (h:D.ds t cs=some x) (hn:cs.all SV.ne=true):cs.map (SV.av D.toTE N)=D.ea N.ρ t x:=
 ok.fX N t cs x h (by unfold TD.sj;rw [hn,Bool.or_true])
def getS {α:Type}:List (Nat×α)->Nat->Option α
 |[],_=>none
 |(j,v)::r,i=>bif Nat.beq i j then some v else getS r i
structure SS (τ:Type) (dn:τ->Type) where
 rt:List (Nat×SV τ dn)
 rm:List (Nat×Option (SB τ dn))
 t:List (Nat×SV τ dn)
 m:List (Nat×Option (SB τ dn))
 nx:Nat
section
variable {τ:Type} {dn:τ->Type} [DecidableEq τ]
def tW:Value->Option (SV τ dn)
 | .int .i64 k=>some (.vn k)
 | .int .u8 k=>if 0<=k/\k<256 then some (.vy (UInt8.ofNat k.toNat)) else none
 | .int .u64 k=>if 0<=k/\k<18446744073709551616 then some (.vu (uN k.toNat)) else none
 | .int q k=>some (.vw q k)
 | .bool b=>some (.vt b)
 | .string s=>some (.vz s)
 | .nilFunc=>some (.vo .nilFunc)
 | .nilIface=>some (.vo .nilIface)
 | .pointer none=>some (.vo (.pointer none))
 | .tuple vs=>if vs.isEmpty=true then some (.vo undef) else none
 |_=>none
mutual
def ni:AV->Option (SV τ dn)
 | .v x=>tW x
 | .agg cs=>(nj cs).map .agg
 | .emp=>some .emp
 | .fn f cs=>(nj cs).map (.fn f)
 | .pim cs o=>(nj cs).map (.pim · o)
 | .dead=>some .dead
 |_=>none
def nj:List AV->Option (List (SV τ dn))
 |[]=>some []
 |a::r=>match ni a,nj r with
  |some v,some l=>some (v::l)
  |_,_=>none
end
def SS.gt (st:SS τ dn) (i:Nat):Option (SV τ dn):=match getS st.t i with
 |some v=>some v
 |none=>getS st.rt i
def SS.gm (st:SS τ dn) (nm:Nat):Option (SB τ dn):=match getS st.m nm with
 |some b=>b
 |none=>(getS st.rm nm).join
def SS.ev (st:SS τ dn):Arg->Option (SV τ dn)
 | .s i=>st.gt i
 | .c a=>ni a
def SS.rw (st:SS τ dn) (nm:Nat):Bool:=(match getS st.m nm with|some (some _)=>true|_=>false)&&(getS st.rm nm).isNone
inductive SR (τ:Type) (dn:τ->Type) where
 |val (O:List Prop) (v:SV τ dn)
 |new (O:List Prop) (v:SV τ dn) (B:SB τ dn)
 |put (O:List Prop) (v:SV τ dn) (nm:Nat) (B:SB τ dn)
 |mov (O:List Prop) (v:SV τ dn) (bh:Nat) (B:SB τ dn)
 |ju (O:List Prop) (v:SV τ dn) (ns:List Nat)
 |gT (O:List Prop) (v:SV τ dn) (id:Nat) (t:τ) (row:List (dn t)) (A:List (Nat×List (dn t)))
def SV.int:SV τ dn->Option (Int×Bool)
 | .vi x=>some (x,false)
 | .vn x=>some (x,true)
 |_=>none
def wq:SV τ dn->Option (SV τ dn)
 | .vb c=>some (.vb (.not c))
 | .vt b=>some (.vt !b)
 |_=>none
def Ei:SV τ dn->SV τ dn->Option (SV τ dn)
 | .vt true,a=>some a
 | .vt false, .vb _=>some (.vt false)
 | .vt false, .vt _=>some (.vt false)
 | .vb c, .vt true=>some (.vb c)
 | .vb _, .vt false=>some (.vt false)
 | .vb c, .vb d=>some (.vb (.and c d))
 |_,_=>none
def SV.lit:SV τ dn->Option Value
 | .vn x=>some (.int .i64 x)
 | .vt b=>some (.bool b)
 |_=>none
def wu (bt:Bool) (op:BinOp) (a b:SV τ dn):Option (SV τ dn):=
 match a.lit,b.lit with
 |some x,some y=>match binA bt op x y with
  |some v=>tW v
  |none=>none
 |_,_=>none
def wv (neg:Bool) (op:BinOp) (x y:Int):Option (SR τ dn):=
 match op with
 | .add=>some (.val [aB (x+y)] (.vi (x+y)))
 | .sub=>some (.val [aB (x - y)] (.vi (x - y)))
 | .mul=>some (.val [aB (x*y)] (.vi (x*y)))
 | .quo=>bif neg then some (.val [y≠0,aB (x.tdiv y)] (.vi (x.tdiv y))) else some (.val [0<=x/\0<y/\aB x] (.vi (x / y)))
 | .rem=>bif neg then some (.val [y≠0] (.vi (x.tmod y))) else some (.val [0<=x/\y≠0] (.vi (x%y)))
 | .and=>some (.val [0<=x/\0<=y/\aB x/\aB y] (.vi ((x.toNat&&&y.toNat:Nat):Int)))
 | .or=>some (.val [0<=x/\0<=y/\aB x/\aB y] (.vi ((x.toNat|||y.toNat:Nat):Int)))
 | .xor=>some (.val [0<=x/\0<=y/\aB x/\aB y] (.vi ((x.toNat^^^y.toNat:Nat):Int)))
 | .shl=>some (.val [0<=y/\aB (x*2^y.toNat)] (.vi (x*2^y.toNat)))
 | .shr=>some (.val [0<=y/\y<=64] (.vi (x / 2^y.toNat)))
 | .eql=>some (.val [] (.vb (.eq x y)))
 | .neq=>some (.val [] (.vb (.not (.eq x y))))
 | .lss=>some (.val [] (.vb (.lt x y)))
 | .leq=>some (.val [] (.vb (.le x y)))
 | .gtr=>some (.val [] (.vb (.lt y x)))
 | .geq=>some (.val [] (.vb (.le y x)))
 |_=>none
def oY (op:BinOp) (x y:UInt8):Option (SV τ dn):=
 match op with
 | .add=>some (.vy (x+y))
 | .sub=>some (.vy (x - y))
 | .mul=>some (.vy (x*y))
 | .and=>some (.vy (x&&&y))
 | .or=>some (.vy (x|||y))
 | .xor=>some (.vy (x^^^y))
 | .eql=>some (.vb (.ey x y))
 | .neq=>some (.vb (.not (.ey x y)))
 | .lss=>some (.vb (.ly x y))
 | .leq=>some (.vb (.not (.ly y x)))
 | .gtr=>some (.vb (.ly y x))
 | .geq=>some (.vb (.not (.ly x y)))
 |_=>none
def oU (op:BinOp) (x y:cY):Option (SV τ dn):=
 match op with
 | .add=>some (.vu (uN (x.n+y.n)))
 | .sub=>some (.vu (uN (x.n+18446744073709551616 - y.n)))
 | .mul=>some (.vu (uN (x.n*y.n)))
 | .and=>some (.vu (pB .and x y))
 | .or=>some (.vu (pB .or x y))
 | .xor=>some (.vu (pB .xor x y))
 | .andNot=>some (.vu (pB .andNot x y))
 | .eql=>some (.vb (.eq x.n y.n))
 | .neq=>some (.vb (.not (.eq x.n y.n)))
 | .lss=>some (.vb (.lt x.n y.n))
 | .leq=>some (.vb (.le x.n y.n))
 | .gtr=>some (.vb (.lt y.n x.n))
 | .geq=>some (.vb (.le y.n x.n))
 |_=>none
def oZ (op:BinOp) (x y:ByteArray):Option (SR τ dn):=
 match op with
 | .eql=>some (.val [] (.vb (.ez x y)))
 | .neq=>some (.val [] (.vb (.not (.ez x y))))
 | .lss=>some (.val [] (.vb (.lz x y)))
 | .add=>some (.val [((x.size+y.size:Nat):Int)<=9223372036854775807] (.vz (x++y)))
 |_=>none
def wx:SV τ dn->SV τ dn->Option (SV τ dn)
 | .vb c, .vt b=>some (.vb (if b then c else .not c))
 | .vt b, .vb c=>some (.vb (if b then c else .not c))
 | .vb c, .vb d=>some (.vb (.eb c.den d.den))
 |_,_=>none
def wy (neg bt:Bool) (op:BinOp) (a b:SV τ dn):Option (SR τ dn):=
 match wu bt op a b with
 |some v=>some (.val [] v)
 |none=>match a.int,b.int with
  |some (x,_),some (y,_)=>wv neg op x y
  |_,_=>match a,b with
   | .vy x, .vy y=>(oY op x y).map (.val [])
   | .vu x, .vu y=>(oU op x y).map (.val [])
   | .vz x, .vz y=>oZ op x y
   | .vy x, .vi y=>match op with
    | .shl=>some (.val [0<=y] (.vy (wj x y.toNat)))
    | .shr=>some (.val [0<=y] (.vy (wk x y.toNat)))
    |_=>none
   | .vy x, .vn y=>match op with
    | .shl=>some (.val [0<=y] (.vy (wj x y.toNat)))
    | .shr=>some (.val [0<=y] (.vy (wk x y.toNat)))
    |_=>none
   | .vu x, .vi y=>match op with
    | .shl=>some (.val [0<=y] (.vu (uN (x.n*2^min y.toNat 64))))
    | .shr=>some (.val [0<=y] (.vu (uN (x.n / 2^min y.toNat 64))))
    |_=>none
   | .vu x, .vn y=>match op with
    | .shl=>some (.val [0<=y] (.vu (uN (x.n*2^min y.toNat 64))))
    | .shr=>some (.val [0<=y] (.vu (uN (x.n / 2^min y.toNat 64))))
    |_=>none
   | .vw q x, .vw q' y=>if q=q' then (match op with
    | .and=>some (.val [] (.vw q (bits .and q x y)))
    | .or=>some (.val [] (.vw q (bits .or q x y)))
    | .xor=>some (.val [] (.vw q (bits .xor q x y)))
    | .add=>some (.val [] (.vw q (q.wrap (x+y))))
    | .sub=>some (.val [] (.vw q (q.wrap (x - y))))
    | .mul=>some (.val [] (.vw q (q.wrap (x*y))))
    | .eql=>some (.val [] (.vb (.eq x y)))
    | .neq=>some (.val [] (.vb (.not (.eq x y))))
    | .lss=>some (.val [] (.vb (.lt x y)))
    | .leq=>some (.val [] (.vb (.le x y)))
    | .gtr=>some (.val [] (.vb (.lt y x)))
    | .geq=>some (.val [] (.vb (.le y x)))
    |_=>none) else none
   | .vw q x, .vi y=>match op with
    | .shl=>some (.val [0<=y] (.vw q (q.wrap (x*2^(min y.toNat q.bits)))))
    | .shr=>some (.val [0<=y] (.vw q (x.fdiv (2^(min y.toNat q.bits)))))
    |_=>none
   | .vw q x, .vn y=>match op with
    | .shl=>some (.val [0<=y] (.vw q (q.wrap (x*2^(min y.toNat q.bits)))))
    | .shr=>some (.val [0<=y] (.vw q (x.fdiv (2^(min y.toNat q.bits)))))
    |_=>none
   |a,b=>if bt=true then (match op with
    | .eql=>(wx a b).map (.val [])
    | .neq=>((wx a b).bind wq).map (.val [])
    |_=>none) else none
def wz (op:UnOp) (a:SV τ dn):Option (SR τ dn):=
 match op,a with
 | .neg, .vn x=>(tW (.int .i64 (IntKind.i64.wrap (0 - x)))).map (.val [])
 | .neg, .vi x=>some (.val [aB (0 - x)] (.vi (0 - x)))
 | .xor, .vu x=>some (.val [] (.vu (pB .xor (uN 18446744073709551615) x)))
 | .not,a=>(wq a).map (.val [])
 |_,_=>none
def wA (k:IntKind) (a:SV τ dn):Option (SR τ dn):=
 match k,a with
 |k, .vn x=>(tW (.int k (k.wrap x))).map (.val [])
 | .i64, .vi x=>some (.val [aB x] (.vi x))
 | .i64, .vy x=>some (.val [] (.vi x.toNat))
 | .i64, .vu x=>some (.val [aB x.n] (.vi x.n))
 | .i64, .vw _ x=>some (.val [aB x] (.vi x))
 | .u8, .vi x=>some (.val [0<=x] (.vy (UInt8.ofNat x.toNat)))
 | .u8, .vu x=>some (.val [] (.vy (UInt8.ofNat x.n)))
 | .u8, .vw _ x=>some (.val [0<=x] (.vy (UInt8.ofNat x.toNat)))
 | .u64, .vi x=>some (.val [0<=x] (.vu (uN x.toNat)))
 | .u64, .vy x=>some (.val [] (.vu (uN x.toNat)))
 | .u16, .vi x=>some (.val [] (.vw .u16 (IntKind.u16.wrap x)))
 | .u16, .vy x=>some (.val [] (.vw .u16 (IntKind.u16.wrap x.toNat)))
 | .u16, .vw _ x=>some (.val [] (.vw .u16 (IntKind.u16.wrap x)))
 |_,_=>none
def pC (cs:List (SV τ dn)) (o:Nat):Option Nat->Option (SV τ dn)
 |none=>cs[o]?
 |some n=>if o+n<=cs.length then some (.agg ((cs.drop o).take n)) else none
def qK (cs:List (SV τ dn)) (o:Nat) (ys:List (SV τ dn)):List (SV τ dn):=cs.take o++ys++cs.drop (o+ys.length)
def wB (st:SS τ dn) (cells:List (SV τ dn)):List (Nat×Nat×Arg)->Option (List (SV τ dn))
 |[]=>some cells
 |(off,n,x)::r=>match st.ev x with
  |some v=>if v.cells.length=n/\off+n<=cells.length/\v.kx=true then wB st (qK cells off v.cells) r else none
  |none=>none
def qL (st:SS τ dn) (sz:Nat) (els:List (List (SV τ dn))):List (Nat×Arg)->Option (List (List (SV τ dn)))
 |[]=>some els
 |(i,x)::r=>match st.ev x with
  |some v=>if v.cells.length=sz/\i<els.length/\v.kx=true/\v.cells.all SV.one=true then qL st sz (els.set i v.cells) r else none
  |none=>none
def Ej:LK->SV τ dn->SV τ dn->Option (SV τ dn)
 | .int,a,b=>match wu false .eql a b with
  |some v=>some v
  |none=>match a.int,b.int with
   |some (x,_),some (y,_)=>some (.vb (.eq x y))
   |_,_=>match a,b with
    | .vu x, .vu y=>some (.vb (.eq x.n y.n))
    | .vy x, .vy y=>some (.vb (.ey x y))
    |_,_=>none
 | .str, .vz a, .vz b=>some (.vb (.ez a b))
 | .bool, .vt a, .vt b=>some (.vt (a==b))
 | .bool,a,b=>wx a b
 |_,_,_=>none
def wC (cs ds:List (SV τ dn)):List (Nat×LK)->Option (SV τ dn)
 |[]=>some (.vt true)
 |(o,k)::r=>match cs[o]?,ds[o]? with
  |some a,some b=>match Ej k a b,wC cs ds r with
   |some x,some y=>Ei x y
   |_,_=>none
  |_,_=>none
inductive Ct (τ:Type) (dn:τ->Type) where
 |ty (t:τ) (xs:List (dn t))
 |li (els:List (List (SV τ dn)))
def Ct.len:Ct τ dn->Nat
 | .ty _ xs=>xs.length
 | .li els=>els.length
variable (D:TD τ dn)
def SS.cont (st:SS τ dn) (sz:Nat):SV τ dn->Option (Ct τ dn)
 | .vl ty xs=>if D.sz ty=sz then some (.ty ty xs) else none
 | .vc k els=>if k=sz then some (.li els) else none
 | .emp=>some (.li [])
 | .own nm k=>if k=sz then (match st.gm nm with
  |some (.bl ty xs)=>if D.sz ty=sz then some (.ty ty xs) else none
  |some (.bc q els)=>if q=sz then some (.li els) else none
  |_=>none) else none
 |_=>none
def oc (ty:τ):List (List (SV τ dn))->Option (List (dn ty))
 |[]=>some []
 |cs::r=>if D.sj ty cs=true then (match D.ds ty cs,oc ty r with
  |some x,some l=>some (x::l)
  |_,_=>none) else none
def sk (sz:Nat):SB τ dn->Ct τ dn->Option (SB τ dn)
 | .bl ty xs, .ty qM ys=>if h:qM=ty then some (.bl ty (xs++h▸ys)) else none
 | .bl ty xs, .li els=>(oc D ty els).map fun ys=> .bl ty (xs++ys)
 | .bc q els, .ty ty ys=>if q=D.sz ty then (oc D ty els).map fun xs=> .bl ty (xs++ys) else none
 | .bc q els, .li fs=>if q=sz then some (.bc q (els++fs)) else none
 | .mc _,_=>none
 | .ar _ _,_=>none
def Ct.od (sz:Nat):Ct τ dn->SB τ dn
 | .ty t xs=> .bl t xs
 | .li els=> .bc sz els
def SB.sz:SB τ dn->Nat
 | .bl ty _=>D.sz ty
 | .bc sz _=>sz
 | .mc _=>0
 | .ar ty _=>D.sz ty
def SB.J7:SB τ dn->SV τ dn
 | .bl _ xs=> .vi (xs.length:Int)
 | .bc _ els=> .vn (els.length:Int)
 | .mc _=> .vn 0
 | .ar _ _=> .vn 0
def pD (st:SS τ dn):Option Arg->Option (Option Int)
 |none=>some none
 |some x=>match st.ev x with
  |some v=>match v.int with
   |some (k,_)=>some (some k)
   |none=>none
  |none=>none
def Ek (xs:List α):Option Int->Option Int->List α
 |none,none=>xs
 |some l,none=>xs.drop l.toNat
 |none,some h=>xs.take h.toNat
 |some l,some h=>(xs.drop l.toNat).take (h.toNat - l.toNat)
def pE (len:Int):Option Int->Option Int->List Prop
 |none,none=>[]
 |some l,none=>[0<=l/\l<=len]
 |none,some h=>[0<=h/\h<=len]
 |some l,some h=>[0<=l/\l<=h/\h<=len]
def sn (st:SS τ dn) (m:Option Nat):SV τ dn->Option (SR τ dn)
 | .pim cs o=>(pC cs o m).map (.val [])
 | .ref nm sz i o=>match st.gm nm with
  |some (.bl ty xs)=>if D.sz ty=sz then (pC (D.es ty (gd (D.df ty) xs i)) o m).map (.val [i<xs.length]) else none
  |some (.bc q els)=>if q=sz then (match els[i]? with
   |some cs=>(pC cs o m).map (.val [])
   |none=>none) else none
  |_=>none
 |_=>none
def zP (st:SS τ dn) (n:Nat) (a y:SV τ dn):Option (SR τ dn):=
 if y.cells.length=n/\y.kx=true/\y.cells.all SV.one=true then match a with
 | .ref nm sz i o=>if o+n<=sz/\st.rw nm=true then (match st.gm nm with
  |some (.bl ty xs)=>if D.sz ty=sz/\D.sj ty (qK (D.es ty (gd (D.df ty) xs i)) o y.cells)=true then (match D.ds ty (qK (D.es ty (gd (D.df ty) xs i)) o y.cells) with
   |some z=>some (.put [i<xs.length] (.vo undef) nm (.bl ty (xs.set i z)))
   |none=>none) else none
  |some (.bc q els)=>if q=sz then (match els[i]? with
   |some cs=>some (.put [] (.vo undef) nm (.bc q (els.set i (qK cs o y.cells))))
   |none=>none) else none
  |_=>none) else none
 |_=>none
 else none
def wD (st:SS τ dn) (sz:Nat) (a:SV τ dn) (x:Int) (lit:Bool):Option (SR τ dn):=
 match a with
 | .vl ty xs=>if D.sz ty=sz then some (.val [0<=x/\x<xs.length] (.pim (D.es ty (gd (D.df ty) xs x.toNat)) 0)) else none
 | .vc q els=>bif lit then (if q=sz/\0<=x then (els[x.toNat]?).map fun cs=> .val [] (.pim cs 0) else none) else none
 | .own nm q=>if q=sz then (match st.gm nm with
  |some (.bl _ xs)=>some (.val [0<=x/\x<xs.length] (.ref nm sz x.toNat 0))
  |some (.bc _ els)=>bif lit then (if 0<=x/\x<els.length then some (.val [] (.ref nm sz x.toNat 0)) else none) else some (.val [0<=x/\x<els.length] (.ref nm sz x.toNat 0))
  |_=>none) else none
 | .part nm q off len=>if q=sz then (st.gm nm).map fun _=> .val [0<=x/\x<len] (.ref nm sz (off+x.toNat) 0) else none
 |_=>none
def wE (st:SS τ dn):Bool->SV τ dn->Option (SR τ dn)
 |true, .vz s=>some (.val [] (.vi (s.size:Int)))
 |false, .vl _ xs=>some (.val [] (.vi (xs.length:Int)))
 |false, .vc _ els=>some (.val [] (.vn (els.length:Int)))
 |false, .emp=>some (.val [] (.vn 0))
 |false, .own nm _=>(st.gm nm).map fun B=> .val [] B.J7
 |false, .part nm _ _ n=>(st.gm nm).map fun _=> .val [] (.vi (n:Int))
 |_,_=>none
def wF (st:SS τ dn):NK->Bool->SV τ dn->Option (SR τ dn)
 | .fn,neg, .fn _ _=>some (.val [] (.vt neg))
 | .fn,neg, .bf _ _=>some (.val [] (.vt neg))
 | .fn,neg, .vo .nilFunc=>some (.val [] (.vt !neg))
 | .pt,neg, .ref nm _ _ _=>(st.gm nm).map fun _=> .val [] (.vt neg)
 | .pt,neg, .pim _ _=>some (.val [] (.vt neg))
 | .pt,neg, .vo (.pointer none)=>some (.val [] (.vt !neg))
 | .sl,neg, .vl _ xs=>some (.val [xs≠[]] (.vt neg))
 |_,_,_=>none
def wG (st:SS τ dn) (sz:Nat) (a:SV τ dn) (lo hi:Option Int):Option (SR τ dn):=
 match a with
 | .vl ty xs=>if D.sz ty=sz then some (.val (pE xs.length lo hi) (.vl ty (Ek xs lo hi))) else none
 | .emp=>match lo,hi with
  |none,none=>some (.val [] .emp)
  |_,_=>none
 | .own nm q=>if q=sz then (match lo,hi with
  |none,none=>(st.gm nm).map fun _=> .val [] (.own nm q)
  |_,_=>(st.gm nm).map fun B=> .val (pE B.len lo hi) (.part nm sz (lo.getD 0).toNat ((hi.getD B.len).toNat - (lo.getD 0).toNat))) else none
 |_=>none
def zQ (st:SS τ dn) (sz bytes:Nat) (s x:SV τ dn):Option (SR τ dn):=
 match st.cont D sz x with
 |some ys=>match s with
  | .emp=>some (.new [ys.len*bytes<=140737488355328] (.own st.nx sz) (ys.od sz))
  | .own nm q=>if q=sz/\st.rw nm=true then (match st.gm nm with
   |some B=>if B.sz D=sz then (sk D sz B ys).map fun B'=> .mov [(B.len+ys.len)*bytes<=140737488355328] (.own st.nx sz) nm B' else none
   |none=>none) else none
  |_=>none
 |none=>none
def Wt (bytes:Nat):List AV->Nat
 | .v (.bool _)::_=>1000+bytes
 |_=>bytes
def wH:List (List (SV τ dn))->Option (List UInt8)
 |[]=>some []
 |[.vy b]::r=>match wH r with
  |some l=>some (b::l)
  |none=>none
 |_=>none
def wI (st:SS τ dn) (v:SV τ dn):Option (SR τ dn):=match st.cont D 1 v with
 |some (.ty t xs)=>match D.bt t with
  |some p=>some (.val [] (.vz ⟨(xs.map p.1).toArray⟩))
  |none=>none
 |some (.li els)=>match wH els with
  |some l=>some (.val [] (.vz ⟨l.toArray⟩))
  |none=>none
 |none=>none
def wJ (st:SS τ dn) (s:ByteArray):Option (SR τ dn):=match D.hint 1 1 with
 |some t=>match D.bt t with
  |some p=>if D.sz t=1 then some (.new [s.size<=140737488355328] (.own st.nx 1) (.bl t (s.data.toList.map p.2))) else none
  |none=>none
 |none=>none
def wK (st:SS τ dn) (sz bytes:Nat) (zs:List AV) (l c:Int):Option (SR τ dn):=
 match D.hint sz (Wt bytes zs),nj zs with
 |some ty,some cs=>if D.sz ty=sz/\D.sj ty cs=true then (match D.ds ty cs with
  |some z=>some (.new [0<=l/\l<=c/\c*bytes<=140737488355328] (.own st.nx sz) (.bl ty (List.replicate l.toNat z)))
  |none=>none) else none
 |_,_=>none
def zR (st:SS τ dn) (sz:Nat) (x y:SV τ dn):Option (SR τ dn):=
 match x,st.cont D sz y with
 | .own nm q,some (.ty ty ys)=>if q=sz/\st.rw nm=true then (match st.gm nm with
  |some (.bl qM xs)=>if h:ty=qM then (if D.sz qM=sz then some (.put [] (.vi ((min ys.length xs.length:Nat):Int)) nm (.bl qM (((h▸ys):List (dn qM)).take xs.length++xs.drop (min ys.length xs.length)))) else none) else none
  |_=>none) else none
 |_,_=>none
def SV.key:SV τ dn->Option Value
 | .vn x=>some (.int .i64 x)
 | .vt b=>some (.bool b)
 | .vz s=>some (.string s)
 |_=>none
def pF (kd:LK) (k:Value):List (List (SV τ dn))->Option (Option (SV τ dn))
 |[]=>some none
 |[kv,x]::r=>match kv.key with
  |some k'=>match keyEq kd k k' with
   |some true=>some (some x)
   |some false=>pF kd k r
   |none=>none
  |none=>none
 |_=>none
def pG:List (List (SV τ dn))->Option (List (Int×Int))
 |[]=>some []
 |[.vn k,x]::r=>match x.int,pG r with
  |some (v,_),some l=>some ((k,v)::l)
  |_,_=>none
 |_=>none
def zS (z x:Int):List (Int×Int)->Int
 |[]=>z
 |(k,v)::r=>if x=k then v else zS z x r
def zT (st:SS τ dn) (kd:LK) (x k y:SV τ dn):Option (SR τ dn):=
 match x,k.key with
 | .mp nm,some key=>match st.gm nm with
  |some (.mc els)=>bif st.rw nm&&plainV key then (match pF kd key els with
   |some none=>some (.put [] (.vo undef) nm (.mc (els++[[k,y]])))
   |_=>none) else none
  |_=>none
 |_,_=>none
def zU (st:SS τ dn) (kd:LK) (z:AV) (x k:SV τ dn):Option (SR τ dn):=
 match x,ni z with
 | .mp nm,some zs=>match st.gm nm with
  |some (.mc els)=>match k with
   | .vi n=>match kd,pG els,zs.int with
    | .int,some l,some (zi,_)=>some (.val [] (.vi (zS zi n l)))
    |_,_,_=>none
   |k=>match k.key with
    |some key=>(pF kd key els).map fun r=> .val [] (r.getD zs)
    |none=>none
  |_=>none
 |_,_=>none
def sx (st:SS τ dn):AO->Option (SR τ dn)
 | .mov x=>(st.ev x).map (.val [])
 | .new zs=>(nj zs).map fun cs=> .new [] (.ref st.nx zs.length 0 0) (.bc zs.length [cs])
 | .box n x=>match st.ev x with
  |some v=>if v.cells.length=n/\v.kx=true/\v.cells.all SV.one=true then some (.new [] (.ref st.nx n 0 0) (.bc n [v.cells])) else none
  |none=>none
 | .agg zs parts=>match nj zs with
  |some cs=>(wB st cs parts).map fun cs=> .val [] (.agg cs)
  |none=>none
 | .bsl sz ln zs parts=>match nj zs with
  |some cs=>(qL st sz (List.replicate ln cs) parts).map fun els=> .new [] (.own st.nx sz) (.bc sz els)
  |none=>none
 | .load m x=>(st.ev x).bind (sn D st m)
 | .store n x y=>match st.ev x,st.ev y with
  |some a,some b=>zP D st n a b
  |_,_=>none
 | .nilc x=>match st.ev x with
  |some (.ref nm sz i o)=>(st.gm nm).map fun _=> .val [] (.ref nm sz i o)
  |some (.pim cs o)=>some (.val [] (.pim cs o))
  |_=>none
 | .bin bt op x y=>match st.ev x,st.ev y with
  |some a,some b=>wy D.neg bt op a b
  |_,_=>none
 | .un op x=>(st.ev x).bind (wz op)
 | .conv k x=>(st.ev x).bind (wA k)
 | .fad off x=>match st.ev x with
  |some (.ref nm sz i o)=>(st.gm nm).map fun _=> .val [] (.ref nm sz i (o+off))
  |some (.pim cs o)=>some (.val [] (.pim cs (o+off)))
  |_=>none
 | .fld off m x=>match st.ev x with
  |some (.agg cs)=>(pC cs off m).map (.val [])
  |_=>none
 | .iad sz x i=>match st.ev x,st.ev i with
  |some a,some b=>match b.int with
   |some (k,lit)=>wD D st sz a k lit
   |none=>none
  |_,_=>none
 | .iap sz ln x i=>match st.ev x,st.ev i with
  |some (.ref nm s e o),some (.vn k)=>if 0<=k/\k<ln/\(st.gm nm).isSome=true then some (.val [] (.ref nm s e (o+k.toNat*sz))) else none
  |some (.pim cs o),some (.vn k)=>if 0<=k/\k<ln then some (.val [] (.pim cs (o+k.toNat*sz))) else none
  |_,_=>none
 | .ixa sz ln m x i=>match st.ev x,st.ev i with
  |some (.agg cs),some (.vn k)=>if 0<=k/\k<ln then (pC cs (k.toNat*sz) m).map (.val []) else none
  |_,_=>none
 | .mkm=>some (.new [] (.mp st.nx) (.mc []))
 | .mup kd x k y=>match st.ev x,st.ev k,st.ev y with
  |some a,some b,some c=>zT st kd a b c
  |_,_,_=>none
 | .mlk kd z x k=>match st.ev x,st.ev k with
  |some a,some b=>zU st kd z a b
  |_,_=>none
 | .ext i x=>match st.ev x with
  |some (.bm vs)=>(vs[i]?).map (.val [])
  |_=>none
 | .len s x=>(st.ev x).bind (wE st s)
 | .isn kd neg x=>(st.ev x).bind (wF st kd neg)
 | .mnx mx x y=>match st.ev x,st.ev y with
  |some a,some b=>match a.int,b.int with
   |some (x,_),some (y,_)=>some (.val [] (.vi (if mx then max x y else min x y)))
   |_,_=>none
  |_,_=>none
 | .eqs neg n L x y=>match st.ev x,st.ev y with
  |some (.agg cs),some (.agg ds)=>if cs.length=n/\ds.length=n then (match wC cs ds L with
   |some v=>(if neg then wq v else some v).map (.val [])
   |none=>none) else none
  |_,_=>none
 | .msl sz bytes zs l c=>match st.ev l,st.ev c with
  |some a,some b=>match a.int,b.int with
   |some (x,_),some (y,_)=>wK D st sz bytes zs x y
   |_,_=>none
  |_,_=>none
 | .slc sz x lo hi none=>match st.ev x,pD st lo,pD st hi with
  |some a,some l,some h=>wG D st sz a l h
  |_,_,_=>none
 | .sls x lo hi=>match st.ev x,pD st lo,pD st hi with
  |some (.vz s),some l,some h=>some (.val (pE s.size l h) (.vz (s.extract (l.getD 0).toNat (h.getD s.size).toNat)))
  |_,_,_=>none
 | .six x i=>match st.ev x,st.ev i with
  |some (.vz s),some b=>match b.int with
   |some (k,_)=>some (.val [0<=k/\k<s.size] (.vy (gb s k.toNat)))
   |none=>none
  |_,_=>none
 | .b2s x=>match st.ev x with
  |some v=>wI D st v
  |none=>none
 | .s2b x=>match st.ev x with
  |some (.vz s)=>wJ D st s
  |_=>none
 | .app sz bytes s x=>match st.ev s,st.ev x with
  |some a,some b=>zQ D st sz bytes a b
  |_,_=>none
 | .cpy sz x y=>match st.ev x,st.ev y with
  |some a,some b=>zR D st sz a b
  |_,_=>none
 | .mkf f caps=>(caps.mapM st.ev).map fun cs=> .val [] (.fn f cs)
 | .mkb f caps=>(caps.mapM st.ev).map fun cs=> .val [] (.bf f cs)
 |_=>none
end
open Go.RowKit
section
variable {τ:Type} {dn:τ->Type} (E:TE τ dn) (N:aL)
theorem zV {x:Value} {v:SV τ dn} (h:tW x=some v):v.av E N= .v x:=by
 unfold tW at h
 split at h<;>first
  |(simp only [aeF] at h;subst h;rfl)
  |skip
 ·split at h
  ·rename_i k hk
   simp only [aeF] at h;subst h
   have e:(UInt8.ofNat k.toNat).toNat=k.toNat%256:=UInt8.toNat_ofNat ..
   simp only [SV.av,e]
   congr 2;omega
  ·simp at h
 ·split at h
  ·rename_i k hk
   simp only [aeF] at h;subst h
   have e:(uN k.toNat).n=k.toNat:=tV (by omega)
   simp only [SV.av,e]
   congr 2;omega
  ·simp at h
 ·split at h
  ·rename_i vs hk
   simp only [aeF] at h;subst h
   simp only [SV.av,undef]
   congr 2
   simpa using hk.symm
  ·simp at h
 ·simp at h
mutual
theorem El:∀{a:AV} {v:SV τ dn},ni a=some v->v.av E N=a
 | .v x,v,h=>by simp only [ni] at h;exact zV E N h
 | .agg cs,v,h=>by
  simp only [ni,aeM] at h
  obtain ⟨l,hl,rfl⟩:=h
  simp only [SV.av,qN hl]
 | .emp,v,h=>by simp only [ni,aeF] at h;subst h;rfl
 | .fn f cs,v,h=>by
  simp only [ni,aeM] at h
  obtain ⟨l,hl,rfl⟩:=h
  simp only [SV.av,qN hl]
 | .pim cs o,v,h=>by
  simp only [ni,aeM] at h
  obtain ⟨l,hl,rfl⟩:=h
  simp only [SV.av,qN hl]
 | .dead,v,h=>by simp only [ni,aeF] at h;subst h;rfl
 | .bm _,v,h| .aV _ _,v,h| .db _ _,v,h| .ref _ _ _ _,v,h| .own _ _ _ _,v,h| .bf _ _,v,h| .fw _ _,v,h| .mp _,v,h| .dP,v,h=>by simp [ni] at h
theorem qN:∀{as_:List AV} {l:List (SV τ dn)},nj as_=some l->SV.dy E N l=as_
 |[],l,h=>by simp only [nj,aeF] at h;subst h;rfl
 |a::r,l,h=>by
  simp only [nj] at h
  split at h
  ·rename_i v l' h1 h2
   simp only [aeF] at h;subst h
   simp only [SV.dy,El h1,qN h2]
  ·simp at h
end
end
section
variable {τ:Type} {dn:τ->Type} {D:TD τ dn} {N:aL} {st:SS τ dn} {σ:Nat->AV} {g:Nat->Option Bk}
def SS.cg (st:SS τ dn) (nm:Nat) (B:SB τ dn):Prop:=getS st.m nm=some (some B)\/getS st.rm nm=some (some B)
theorem jX {st:SS τ dn} {B:SB τ dn} (h:st.gm nm=some B):st.cg nm B:=by
 unfold SS.gm at h
 split at h
 ·rename_i b hb;subst h;exact .inl hb
 ·rw [Option.join_eq_some_iff] at h;exact .inr h
structure bN (D:TD τ dn) (N:aL) (st:SS τ dn) (σ:Nat->AV) (g:Nat->Option Bk):Prop where
 sl:∀i v,getS st.t i=some v->σ i=v.av D.toTE N
 rs:∀i v,getS st.rt i=some v->σ i=v.av D.toTE N
 bl:∀nm B,getS st.m nm=some (some B)->g (N.ι nm)=some (B.av D.toTE N)/\N.ln nm=B.len
 rb:∀nm B,getS st.rm nm=some (some B)->g (N.ι nm)=some (B.av D.toTE N)/\N.ln nm=B.len
 ar:∀t A,st.cg 0 (.ar t A)->∀id,cz A id->g id=some ⟨D.sz t,(bk A id).map (D.ea N.ρ t)⟩
theorem bN.gt (R:bN D N st σ g) {i:Nat} {v:SV τ dn} (h:st.gt i=some v):σ i=v.av D.toTE N:=by
 unfold SS.gt at h
 split at h
 ·rename_i w hw;simp only [aeF] at h;subst h;exact R.sl i _ hw
 ·exact R.rs i v h
theorem bN.gm (R:bN D N st σ g) {nm:Nat} {B:SB τ dn} (h:st.gm nm=some B):g (N.ι nm)=some (B.av D.toTE N)/\N.ln nm=B.len:=by
 unfold SS.gm at h
 split at h
 ·rename_i b hb;subst h;exact R.bl nm B hb
 ·rw [Option.join_eq_some_iff] at h;exact R.rb nm B h
theorem bN.ev (R:bN D N st σ g) {a:Arg} {v:SV τ dn} (h:st.ev a=some v):aR σ a=v.av D.toTE N:=by
 cases a with
 |s i=>exact R.gt h
 |c a=>exact (El _ _ h).symm
def SR.O:SR τ dn->List Prop
 | .val O _| .new O _ _| .put O _ _ _| .mov O _ _ _| .ju O _ _| .gT O _ _ _ _ _=>O
def SR.v:SR τ dn->SV τ dn
 | .val _ v| .new _ v _| .put _ v _ _| .mov _ v _ _| .ju _ v _| .gT _ v _ _ _ _=>v
def SR.ups (D:TD τ dn) (N:aL) (k:Nat):SR τ dn->List (Nat×Option Bk)
 | .val _ _=>[]
 | .new _ _ B=>[(k,some (B.av D.toTE N))]
 | .put _ _ nm B=>[(N.ι nm,some (B.av D.toTE N))]
 | .mov _ _ bh B=>[(N.ι bh,none),(k,some (B.av D.toTE N))]
 | .ju _ _ ns=>(ns.map N.ι).map fun i=>(i,none)
 | .gT _ _ id t row _=>[(id,some ⟨D.sz t,row.map (D.ea N.ρ t)⟩)]
def SR.fresh (N:aL) (nx k:Nat):SR τ dn->Prop
 | .new _ _ B| .mov _ _ _ B=>N.ι nx=k/\N.ln nx=B.len
 |_=>True
def SR.Good (D:TD τ dn) (N:aL) (nx:Nat) (σ:Nat->AV) (g:Nat->Option Bk) (ao:AO) (r:SR τ dn):Prop:=
 ∀k,(∀p,p∈r.O->p)->r.fresh N nx k->(ao.aq k (aR σ)).run g=some (.done (r.v.av D.toTE N) (r.ups D N k))
theorem zW {a:SV τ dn} {x:Value} (h:a.lit=some x):a.av D.toTE N= .v x:=by
 cases a<;>simp [SV.lit] at h<;>subst h<;>rfl
theorem gU {a:SV τ dn} {x:Int} (h:a.int=some (x,l)):a.av D.toTE N= .v (.int .i64 x):=by
 cases a<;>simp [SV.int] at h<;>obtain ⟨rfl,_⟩:=h<;>rfl
theorem J8 {bt:Bool} {a b v:SV τ dn} (h:wu bt op a b=some v):∃x y w,a.av D.toTE N= .v x/\b.av D.toTE N= .v y/\binA bt op x y=some w/\v.av D.toTE N= .v w:=by
 unfold wu at h
 split at h
 ·rename_i x y h1 h2
  split at h
  ·rename_i w h3
   exact ⟨x,y,w,zW h1,zW h2,h3,zV _ _ h⟩
  ·simp at h
 ·simp at h
def wL (D:TD τ dn) (N:aL) (bt:Bool) (op:BinOp) (a b:SV τ dn) (r:SR τ dn):Prop:=
 (∀p,p∈r.O->p)->∃O v x y w,r= .val O v/\a.av D.toTE N= .v x/\b.av D.toTE N= .v y/\binA bt op x y=some w/\v.av D.toTE N= .v w
theorem Wu {bt:Bool} {a b:SV τ dn} {x y:Int} {l':Bool} (ha:a.int=some (x,l)) (hb:b.int=some (y,l')) {r:SR τ dn} (h:wv neg op x y=some r):wL D N bt op a b r:=by
 have h1:=gU (D:=D) (N:=N) ha
 have h2:=gU (D:=D) (N:=N) hb
 intro hO
 have key:∀O v,r= .val O v->(∃w,binA bt op (.int .i64 x) (.int .i64 y)=some w/\v.av D.toTE N= .v w)->∃O v x y w,r= .val O v/\a.av D.toTE N= .v x/\b.av D.toTE N= .v y/\binA bt op x y=some w/\v.av D.toTE N= .v w:=
  fun O v hr ⟨w,kD,hw2⟩=>⟨O,v,_,_,w,hr,h1,h2,kD,hw2⟩
 cases op<;>simp only [wv,aeF,reduceCtorEq] at h
 case add=>subst h;exact key _ _ rfl ⟨_,rfl,by simp only [SR.O,aeP,aeZ] at hO;rw [hO.wr];rfl⟩
 case sub=>subst h;exact key _ _ rfl ⟨_,rfl,by simp only [SR.O,aeP,aeZ] at hO;rw [hO.wr];rfl⟩
 case mul=>subst h;exact key _ _ rfl ⟨_,rfl,by simp only [SR.O,aeP,aeZ] at hO;rw [hO.wr];rfl⟩
 case quo=>
  cases neg with
  |true=>
   simp only [aeK,aeF] at h;subst h
   simp only [SR.O,aeQ,afN,or_false,agj,aeZ] at hO
   exact key _ _ rfl ⟨_,by simp only [binA,aeI];rw [aeE hO.1],by rw [hO.2.wr];rfl⟩
  |false=>
   simp only [ae0,aeF] at h;subst h
   simp only [SR.O,aeP,aeZ] at hO
   exact key _ _ rfl ⟨_,by simp only [binA,aeI];rw [aeE (by omega)],by rw [Wr hO];rfl⟩
 case rem=>
  cases neg with
  |true=>
   simp only [aeK,aeF] at h;subst h
   simp only [SR.O,aeP,aeZ] at hO
   exact key _ _ rfl ⟨_,by simp only [binA,aeI];rw [aeE hO],rfl⟩
  |false=>
   simp only [ae0,aeF] at h;subst h
   simp only [SR.O,aeP,aeZ] at hO
   exact key _ _ rfl ⟨_,by simp only [binA,aeI];rw [aeE hO.2],by rw [Ws hO.1];rfl⟩
 case and=>subst h;simp only [SR.O,aeP,aeZ] at hO;exact key _ _ rfl ⟨_,rfl,by rw [Ee _ _ _ hO.1 hO.2.1 hO.2.2.1 hO.2.2.2];rfl⟩
 case or=>subst h;simp only [SR.O,aeP,aeZ] at hO;exact key _ _ rfl ⟨_,rfl,by rw [Ee _ _ _ hO.1 hO.2.1 hO.2.2.1 hO.2.2.2];rfl⟩
 case xor=>subst h;simp only [SR.O,aeP,aeZ] at hO;exact key _ _ rfl ⟨_,rfl,by rw [Ee _ _ _ hO.1 hO.2.1 hO.2.2.1 hO.2.2.2];rfl⟩
 case shl=>subst h;simp only [SR.O,aeP,aeZ] at hO;exact key _ _ rfl ⟨_,by simp only [binA];rw [aeE (by omega)],by rw [Wp _ _ hO.2];rfl⟩
 case shr=>subst h;simp only [SR.O,aeP,aeZ] at hO;exact key _ _ rfl ⟨_,by simp only [binA];rw [aeE (by omega)],by rw [Wq _ _ (by omega)];rfl⟩
 case eql=>subst h;exact key _ _ rfl ⟨_,rfl,rfl⟩
 case neq=>subst h;exact key _ _ rfl ⟨_,rfl,rfl⟩
 case lss=>subst h;exact key _ _ rfl ⟨_,rfl,rfl⟩
 case leq=>subst h;exact key _ _ rfl ⟨_,rfl,rfl⟩
 case gtr=>subst h;exact key _ _ rfl ⟨_,rfl,rfl⟩
 case geq=>subst h;exact key _ _ rfl ⟨_,rfl,rfl⟩
theorem Wv {bt:Bool} {x y:UInt8} {v:SV τ dn} (h:oY op x y=some v):wL D N bt op (.vy x) (.vy y) (.val [] v):=by
 intro _
 have key:(∃w,binA bt op (.int .u8 (x.toNat:Int)) (.int .u8 (y.toNat:Int))=some w/\v.av D.toTE N= .v w)->∃O v' x' y' w,(SR.val [] v:SR τ dn)= .val O v'/\(SV.vy x:SV τ dn).av D.toTE N= .v x'/\(SV.vy y:SV τ dn).av D.toTE N= .v y'/\binA bt op x' y'=some w/\v'.av D.toTE N= .v w:=
  fun ⟨w,h1,h2⟩=>⟨_,_,_,_,w,rfl,rfl,rfl,h1,h2⟩
 refine key ?_
 cases op<;>simp only [oY,aeF,reduceCtorEq] at h<;>subst h
 case add=>exact ⟨_,rfl,by rw [Wj];rfl⟩
 case sub=>exact ⟨_,rfl,by rw [Wk];rfl⟩
 case mul=>exact ⟨_,rfl,by rw [Wl];rfl⟩
 case and=>exact ⟨_,rfl,by rw [Eg];rfl⟩
 case or=>exact ⟨_,rfl,by rw [Eg];rfl⟩
 case xor=>exact ⟨_,rfl,by rw [Eg];rfl⟩
 case eql=>exact ⟨_,rfl,by simp only [SV.av,Cn.den];congr 2;rw [af8];simp [<-agA];omega⟩
 case neq=>exact ⟨_,rfl,by simp only [SV.av,Cn.den];congr 2;rw [af8];simp [<-agA];omega⟩
 case lss=>exact ⟨_,rfl,by simp only [SV.av,Cn.den];congr 2;rw [af8];simp [UInt8.lt_iff_toNat_lt]⟩
 case leq=>exact ⟨_,rfl,by simp only [SV.av,Cn.den];congr 2;rw [af8];simp [UInt8.le_iff_toNat_le]⟩
 case gtr=>exact ⟨_,rfl,by simp only [SV.av,Cn.den];congr 2;rw [af8];simp [UInt8.lt_iff_toNat_lt]⟩
 case geq=>exact ⟨_,rfl,by simp only [SV.av,Cn.den];congr 2;rw [af8];simp [UInt8.le_iff_toNat_le]⟩
theorem Ww {bt:Bool} {x y:cY} {v:SV τ dn} (h:oU op x y=some v):wL D N bt op (.vu x) (.vu y) (.val [] v):=by
 intro _
 have key:(∃w,binA bt op (.int .u64 (x.n:Int)) (.int .u64 (y.n:Int))=some w/\v.av D.toTE N= .v w)->∃O v' x' y' w,(SR.val [] v:SR τ dn)= .val O v'/\(SV.vu x:SV τ dn).av D.toTE N= .v x'/\(SV.vu y:SV τ dn).av D.toTE N= .v y'/\binA bt op x' y'=some w/\v'.av D.toTE N= .v w:=
  fun ⟨w,h1,h2⟩=>⟨_,_,_,_,w,rfl,rfl,rfl,h1,h2⟩
 refine key ?_
 cases op<;>simp only [oU,aeF,reduceCtorEq] at h<;>subst h
 case add=>exact ⟨_,rfl,by rw [Wm];rfl⟩
 case sub=>exact ⟨_,rfl,by rw [Wn];rfl⟩
 case mul=>exact ⟨_,rfl,by rw [Wo];rfl⟩
 case and=>exact ⟨_,rfl,by rw [wi];rfl⟩
 case or=>exact ⟨_,rfl,by rw [wi];rfl⟩
 case xor=>exact ⟨_,rfl,by rw [wi];rfl⟩
 case andNot=>exact ⟨_,rfl,by rw [wi];rfl⟩
 all_goals exact ⟨_,rfl,rfl⟩
theorem Wx {bt:Bool} {x y:ByteArray} {r:SR τ dn} (h:oZ op x y=some r):wL D N bt op (.vz x) (.vz y) r:=by
 intro hO
 cases op<;>simp only [oZ,aeF,reduceCtorEq] at h<;>subst h
 case add=>
  simp only [SR.O,aeP,aeZ] at hO
  exact ⟨_,_,_,_,_,rfl,rfl,rfl,by simp only [binA];rw [aeE (by rw [show IntKind.i64.max=9223372036854775807 from rfl];omega)],rfl⟩
 all_goals exact ⟨_,_,_,_,_,rfl,rfl,rfl,rfl,rfl⟩
theorem Em {a b v:SV τ dn} (h:wx a b=some v):∃x y,a.av D.toTE N= .v (.bool x)/\b.av D.toTE N= .v (.bool y)/\v.av D.toTE N= .v (.bool (x==y)):=by
 unfold wx at h
 split at h<;>simp only [aeF,reduceCtorEq] at h<;>subst h
 ·rename_i c b;exact ⟨_,_,rfl,rfl,by cases b<;>simp [SV.av,Cn.den]⟩
 ·rename_i b c;exact ⟨_,_,rfl,rfl,by cases b<;>simp [SV.av,Cn.den]<;>cases c.den<;>rfl⟩
 ·exact ⟨_,_,rfl,rfl,rfl⟩
theorem En {a v:SV τ dn} (h:wq a=some v):∃x,a.av D.toTE N= .v (.bool x)/\v.av D.toTE N= .v (.bool !x):=by
 unfold wq at h
 split at h<;>simp only [aeF,reduceCtorEq] at h<;>subst h
 ·exact ⟨_,rfl,rfl⟩
 ·exact ⟨_,rfl,rfl⟩
theorem Wy {bt:Bool} {a b:SV τ dn} {r:SR τ dn} (h:wy neg bt op a b=some r):wL D N bt op a b r:=by
 unfold wy at h
 split at h
 ·rename_i v hv
  simp only [aeF] at h;subst h
  intro _
  obtain ⟨x,y,w,h1,h2,h3,h4⟩:=J8 (D:=D) (N:=N) hv
  exact ⟨_,_,_,_,_,rfl,h1,h2,h3,h4⟩
 ·split at h
  ·rename_i ha hb;exact Wu ha hb h
  ·split at h
   ·simp only [aeM] at h;obtain ⟨v,hv,rfl⟩:=h;exact Wv hv
   ·simp only [aeM] at h;obtain ⟨v,hv,rfl⟩:=h;exact Ww hv
   ·exact Wx h
   ·split at h<;>simp only [aeF,reduceCtorEq] at h<;>subst h<;>intro hO<;>simp only [SR.O,aeP,aeZ] at hO
    ·exact ⟨_,_,_,_,_,rfl,rfl,rfl,by simp only [binA];rw [aeE (by omega)],by rw [J2];rfl⟩
    ·exact ⟨_,_,_,_,_,rfl,rfl,rfl,by simp only [binA];rw [aeE (by omega)],by rw [J3];rfl⟩
   ·split at h<;>simp only [aeF,reduceCtorEq] at h<;>subst h<;>intro hO<;>simp only [SR.O,aeP,aeZ] at hO
    ·exact ⟨_,_,_,_,_,rfl,rfl,rfl,by simp only [binA];rw [aeE (by omega)],by rw [J2];rfl⟩
    ·exact ⟨_,_,_,_,_,rfl,rfl,rfl,by simp only [binA];rw [aeE (by omega)],by rw [J3];rfl⟩
   ·split at h<;>simp only [aeF,reduceCtorEq] at h<;>subst h<;>intro hO<;>simp only [SR.O,aeP,aeZ] at hO
    ·exact ⟨_,_,_,_,_,rfl,rfl,rfl,by simp only [binA];rw [aeE (by omega)],by rw [J4];rfl⟩
    ·exact ⟨_,_,_,_,_,rfl,rfl,rfl,by simp only [binA];rw [aeE (by omega)],by rw [J5];rfl⟩
   ·split at h<;>simp only [aeF,reduceCtorEq] at h<;>subst h<;>intro hO<;>simp only [SR.O,aeP,aeZ] at hO
    ·exact ⟨_,_,_,_,_,rfl,rfl,rfl,by simp only [binA];rw [aeE (by omega)],by rw [J4];rfl⟩
    ·exact ⟨_,_,_,_,_,rfl,rfl,rfl,by simp only [binA];rw [aeE (by omega)],by rw [J5];rfl⟩
   ·split at h
    ·rename_i hq
     subst hq
     split at h<;>simp only [aeF,reduceCtorEq] at h<;>subst h<;>intro _<;>exact ⟨_,_,_,_,_,rfl,rfl,rfl,by simp only [binA,aeI]<;>rfl,rfl⟩
    ·simp at h
   ·split at h<;>simp only [aeF,reduceCtorEq] at h<;>subst h<;>intro hO<;>simp only [SR.O,aeP,aeZ] at hO
    ·exact ⟨_,_,_,_,_,rfl,rfl,rfl,by simp only [binA];rw [aeE (by omega)],rfl⟩
    ·exact ⟨_,_,_,_,_,rfl,rfl,rfl,by simp only [binA];rw [aeE (by omega)],rfl⟩
   ·split at h<;>simp only [aeF,reduceCtorEq] at h<;>subst h<;>intro hO<;>simp only [SR.O,aeP,aeZ] at hO
    ·exact ⟨_,_,_,_,_,rfl,rfl,rfl,by simp only [binA];rw [aeE (by omega)],rfl⟩
    ·exact ⟨_,_,_,_,_,rfl,rfl,rfl,by simp only [binA];rw [aeE (by omega)],rfl⟩
   ·split at h
    ·rename_i Wz
     subst Wz
     split at h
     ·simp only [aeM] at h;obtain ⟨v,hv,rfl⟩:=h
      obtain ⟨x,y,h1,h2,h3⟩:=Em (D:=D) (N:=N) hv
      intro _;exact ⟨_,_,_,_,_,rfl,h1,h2,rfl,h3⟩
     ·simp only [aeM,agk] at h;obtain ⟨v,⟨w,hw,hv⟩,rfl⟩:=h
      obtain ⟨x,y,h1,h2,h3⟩:=Em (D:=D) (N:=N) hw
      obtain ⟨z,h4,h5⟩:=En (D:=D) (N:=N) hv
      rw [h3] at h4;simp only [AV.v.injEq,Value.bool.injEq] at h4;subst h4
      intro _;exact ⟨_,_,_,_,_,rfl,h1,h2,rfl,h5⟩
     ·simp at h
    ·simp at h
theorem WA {op:UnOp} {a:SV τ dn} {r:SR τ dn} (h:wz op a=some r):(∀p,p∈r.O->p)->∃O v x w,r= .val O v/\a.av D.toTE N= .v x/\unA op x=some w/\v.av D.toTE N= .v w:=by
 intro hO
 unfold wz at h
 split at h
 ·simp only [aeM] at h;obtain ⟨v,hv,rfl⟩:=h
  exact ⟨_,_,_,_,rfl,rfl,rfl,zV _ _ hv⟩
 ·simp only [aeF] at h;subst h
  simp only [SR.O,aeP,aeZ] at hO
  exact ⟨_,_,_,_,rfl,rfl,rfl,by rw [hO.wr];rfl⟩
 ·simp only [aeF] at h;subst h
  rename_i x
  refine ⟨_,_,_,_,rfl,rfl,rfl, ?_⟩
  have e:(if IntKind.u64.signed=true then (-1:Int) else IntKind.u64.max)=((uN 18446744073709551615).n:Int):=rfl
  rw [e,wi];rfl
 ·simp only [aeM] at h;obtain ⟨v,hv,rfl⟩:=h
  obtain ⟨x,h1,h2⟩:=En (D:=D) (N:=N) hv
  exact ⟨_,_,_,_,rfl,h1,rfl,h2⟩
 ·simp at h
theorem WB {a:SV τ dn} {r:SR τ dn} (h:wA k a=some r):(∀p,p∈r.O->p)->∃O v q x,r= .val O v/\a.av D.toTE N= .v (.int q x)/\v.av D.toTE N= .v (.int k (k.wrap x)):=by
 intro hO
 unfold wA at h
 split at h<;>simp only [aeM,aeF,reduceCtorEq] at h
 ·obtain ⟨v,hv,rfl⟩:=h
  exact ⟨_,_,_,_,rfl,rfl,zV _ _ hv⟩
 all_goals subst h;try simp only [SR.O,aeP,aeZ] at hO
 ·exact ⟨_,_,_,_,rfl,rfl,by rw [hO.wr];rfl⟩
 ·rename_i x;exact ⟨_,_,_,_,rfl,rfl,by rw [aB.wr (x:=(x.toNat:Int)) (by have:=x.toNat_lt;exact ⟨by omega,by omega⟩)];rfl⟩
 ·exact ⟨_,_,_,_,rfl,rfl,by rw [hO.wr];rfl⟩
 ·exact ⟨_,_,_,_,rfl,rfl,by rw [hO.wr];rfl⟩
 ·exact ⟨_,_,_,_,rfl,rfl,by rw [Eh hO];rfl⟩
 ·rename_i x;exact ⟨_,_,_,_,rfl,rfl,by rw [Eh (Int.natCast_nonneg _)];rfl⟩
 ·exact ⟨_,_,_,_,rfl,rfl,by rw [Eh hO];rfl⟩
 ·exact ⟨_,_,_,_,rfl,rfl,by rw [J6 hO];rfl⟩
 ·rename_i x;exact ⟨_,_,_,_,rfl,rfl,by rw [J6 (Int.natCast_nonneg _)];rfl⟩
 all_goals exact ⟨_,_,_,_,rfl,rfl,rfl⟩
theorem tX {cs:List (SV τ dn)} {v:SV τ dn} (h:pC cs o m=some v):getCells (cs.map (SV.av D.toTE N)) o m=some (v.av D.toTE N):=by
 cases m with
 |none=>simp only [pC] at h;simp only [getCells,aeY,h];rfl
 |some n=>
  simp only [pC] at h
  split at h
  ·rename_i hl
   simp only [aeF] at h;subst h
   simp only [getCells,aeS,aeG hl,SV.av,SV.bX,List.map_take,List.map_drop]
  ·simp at h
theorem zX {cs:List (SV τ dn)} {ys:List (SV τ dn)}:(qK cs o ys).map (SV.av D.toTE N)=putCells (cs.map (SV.av D.toTE N)) o (ys.map (SV.av D.toTE N)):=by
 simp only [qK,putCells,afp,List.map_take,List.map_drop,aeS]
theorem zY {cs:List (SV τ dn)} (h:cs.all SV.one=true):(cs.map (SV.av D.toTE N)).all AV.one=true:=by
 simp only [aeJ,ae2] at h ⊢
 rintro _ ⟨v,hv,rfl⟩
 exact SV.Wc (h v hv)
theorem J9 (R:bN D N st σ g):∀{parts:List (Nat×Nat×Arg)} {cells l:List (SV τ dn)},wB st cells parts=some l->fillA (aR σ) (cells.map (SV.av D.toTE N)) parts=some (l.map (SV.av D.toTE N))
 |[],cells,l,h=>by simp only [wB,aeF] at h;subst h;rfl
 |(off,n,x)::r,cells,l,h=>by
  simp only [wB] at h
  split at h
  ·rename_i v hv
   split at h
   ·rename_i hc
    have hs:=SV.wh (E:=D.toTE) (N:=N) hc.2.2
    simp only [fillA,R.ev hv,hs,aeS,hc.1,hc.2.1,SV.Wd hc.2.2,ae5,aeI]
    rw [<-zX];exact J9 R h
   ·simp at h
  ·simp at h
theorem Ka (R:bN D N st σ g) {sz:Nat}:∀{parts:List (Nat×Arg)} {els l:List (List (SV τ dn))},qL st sz els parts=some l->fillE (aR σ) sz (els.map fun cs=>cs.map (SV.av D.toTE N)) parts=some (l.map fun cs=>cs.map (SV.av D.toTE N))
 |[],els,l,h=>by simp only [qL,aeF] at h;subst h;rfl
 |(i,x)::r,els,l,h=>by
  simp only [qL] at h
  split at h
  ·rename_i v hv
   split at h
   ·rename_i hc
    have hs:=SV.wh (E:=D.toTE) (N:=N) hc.2.2.1
    simp only [fillE,R.ev hv,hs,aeS,hc.1,hc.2.1,zY hc.2.2.2,ae5,aeI]
    have:=Ka R h
    rw [af9] at this;exact this
   ·simp at h
  ·simp at h
theorem WC {k:LK} {a b v:SV τ dn} (h:Ej k a b=some v):∃x,v.av D.toTE N= .v (.bool x)/\nN k (a.av D.toTE N) (b.av D.toTE N)=some x:=by
 unfold Ej at h
 split at h
 ·split at h
  ·rename_i v hv
   simp only [aeF] at h;subst h
   obtain ⟨x,y,w,h1,h2,h3,h4⟩:=J8 (D:=D) (N:=N) hv
   rw [h1,h2]
   unfold wu at hv
   split at hv
   ·rename_i x' y' g1 g2
    rw [zW (D:=D) (N:=N) g1] at h1;rw [zW (D:=D) (N:=N) g2] at h2
    simp only [AV.v.injEq] at h1 h2;subst h1;subst h2
    clear hv
    cases a<;>simp only [SV.lit,aeF,reduceCtorEq] at g1<;>subst g1<;>cases b<;>simp only [SV.lit,aeF,reduceCtorEq] at g2<;>subst g2
    ·simp only [binA,aeI,aeF] at h3;subst h3
     exact ⟨_,h4,by simp [nN]⟩
    all_goals simp [binA] at h3
   ·simp at hv
  ·split at h
   ·rename_i ha hb
    simp only [aeF] at h;subst h
    rw [gU ha,gU hb]
    exact ⟨_,rfl,by simp [nN,Cn.den]⟩
   ·split at h<;>simp only [aeF,reduceCtorEq] at h<;>subst h
    ·exact ⟨_,rfl,by simp [nN,SV.av,Cn.den]⟩
    ·refine ⟨_,rfl, ?_⟩
     simp only [nN,SV.av,Cn.den,aeI,aeF]
     rw [af8];simp [<-agA];omega
 ·simp only [aeF] at h;subst h;exact ⟨_,rfl,rfl⟩
 ·simp only [aeF] at h;subst h;exact ⟨_,rfl,rfl⟩
 ·obtain ⟨x,y,h1,h2,h3⟩:=Em (D:=D) (N:=N) h
  exact ⟨_,h3,by rw [h1,h2];rfl⟩
 ·simp at h
theorem WD {a b v:SV τ dn} (h:Ei a b=some v) {x y:Bool} (hx:a.av D.toTE N= .v (.bool x)) (hy:b.av D.toTE N= .v (.bool y)):v.av D.toTE N= .v (.bool (x&&y)):=by
 unfold Ei at h
 split at h<;>simp only [aeF,reduceCtorEq] at h<;>subst h<;>simp only [SV.av,AV.v.injEq,Value.bool.injEq,Cn.den] at hx hy ⊢
 ·subst hx;rw [hy];simp
 ·subst hx;simp
 ·subst hx;simp
 ·subst hx;subst hy;simp
 ·subst hx;subst hy;simp
 ·subst hx;subst hy;rfl
theorem Kb:∀{L:List (Nat×LK)} {cs ds:List (SV τ dn)} {v:SV τ dn},wC cs ds L=some v->∃x,v.av D.toTE N= .v (.bool x)/\eqA (cs.map (SV.av D.toTE N)) (ds.map (SV.av D.toTE N)) L=some x
 |[],cs,ds,v,h=>by simp only [wC,aeF] at h;subst h;exact ⟨_,rfl,rfl⟩
 |(o,k)::r,cs,ds,v,h=>by
  simp only [wC] at h
  split at h
  ·rename_i a b ha hb
   split at h
   ·rename_i x y hx hy
    obtain ⟨p,h1,h2⟩:=WC (D:=D) (N:=N) hx
    obtain ⟨q,h3,h4⟩:=Kb hy
    refine ⟨_,WD h h1 h3, ?_⟩
    simp only [eqA,aeY,ha,hb,aeT,h2,h4]
   ·simp at h
  ·simp at h
end
open Go.RowKit
section
variable {τ:Type} {dn:τ->Type} {D:TD τ dn} {N:aL} {st:SS τ dn} {σ:Nat->AV} {g:Nat->Option Bk}
theorem oe (R:bN D N st σ g) {x:Option Arg} {r:Option Int} (h:pD st x=some r) (h0:∀l,r=some l->0<=l):ee (aR σ) x=some (r.map Int.toNat):=by
 cases x with
 |none=>simp only [pD,aeF] at h;subst h;rfl
 |some x=>
  simp only [pD] at h
  split at h
  ·rename_i v hv
   split at h
   ·rename_i k l hk
    simp only [aeF] at h;subst h
    have:=h0 k rfl
    simp only [ee,R.ev hv,gU hk,natOf,this,aeI,aeT]
   ·simp at h
  ·simp at h
theorem Kc (ok:bE D) (R:bN D N st σ g) {v:SV τ dn} (hx:st.ev x=some v) {r:SR τ dn} (h:sn D st m v=some r):r.Good D N st.nx σ g (.load m x):=by
 intro k hO hf
 unfold sn at h
 split at h
 ·rename_i cs o
  simp only [aeM] at h;obtain ⟨w,hw,rfl⟩:=h
  have:=tX (D:=D) (N:=N) hw
  simp only [AO.aq,R.ev hx,SV.av,SV.bX,this,aeT,RM.opt,RM.run,SR.v,SR.ups]
 ·rename_i nm sz i o
  split at h
  ·rename_i ty xs hB
   split at h
   ·rename_i hs
    simp only [aeM] at h;obtain ⟨w,hw,rfl⟩:=h
    simp only [SR.O,aeP,aeZ] at hO
    have hg:=(R.gm hB).1
    have hq:=tX (D:=D) (N:=N) hw
    rw [ok.dD] at hq
    simp only [AO.aq,R.ev hx,SV.av,RM.run,hg,SB.av,hs,aeI,aeY,jW (d:=D.df ty) hO,aeT,afV,hq,RM.opt,SR.v,SR.ups]
   ·simp at h
  ·rename_i q els hB
   split at h
   ·rename_i hs
    split at h
    ·rename_i cs hcs
     simp only [aeM] at h;obtain ⟨w,hw,rfl⟩:=h
     have hg:=(R.gm hB).1
     have hq:=tX (D:=D) (N:=N) hw
     simp only [AO.aq,R.ev hx,SV.av,RM.run,hg,SB.av,hs,aeI,SV.lC,aeY,hcs,aeT,afV,hq,RM.opt,SR.v,SR.ups]
    ·simp at h
   ·simp at h
  ·simp at h
 ·simp at h
theorem WE (ok:bE D) (R:bN D N st σ g) {a b:SV τ dn} (hx:st.ev x=some a) (hy:st.ev y=some b) {r:SR τ dn} (h:zP D st n a b=some r):r.Good D N st.nx σ g (.store n x y):=by
 intro k hO hf
 unfold zP at h
 split at h
 case isFalse=>simp at h
 rename_i hc
 have cX:=SV.wh (E:=D.toTE) (N:=N) hc.2.1
 have fk:=zY (D:=D) (N:=N) hc.2.2
 split at h
 ·rename_i nm sz i o
  split at h
  case isFalse=>simp at h
  rename_i hn
  have hle:=hn.1
  split at h
  ·rename_i ty xs hB
   split at h
   ·rename_i hs
    split at h
    ·rename_i z hz
     simp only [aeF] at h;subst h
     simp only [SR.O,aeP,aeZ] at hO
     have hg:=(R.gm hB).1
     have he:=ok.fX N ty _ z hz hs.2
     rw [zX,ok.dD] at he
     simp only [AO.aq,R.ev hx,R.ev hy,SV.av,RM.run,hg,SB.av,hs.1,cX,aeS,hc.1,fk,hle,ae5,aeI,aeY,jW (d:=D.df ty) hO,aeT,SR.v,SR.ups,he,af9]
    ·simp at h
   ·simp at h
  ·rename_i q els hB
   split at h
   ·rename_i hs
    split at h
    ·rename_i cs hcs
     simp only [aeF] at h;subst h
     have hg:=(R.gm hB).1
     simp only [AO.aq,R.ev hx,R.ev hy,SV.av,RM.run,hg,SB.av,hs,cX,aeS,hc.1,fk,hle,ae5,aeI,SV.lC,aeY,hcs,aeT,SR.v,SR.ups,af9,zX]
    ·simp at h
   ·simp at h
  ·simp at h
 ·simp at h
theorem WG (ok:bE D) (R:bN D N st σ g) {sz:Nat} {a b:SV τ dn} {n:Int} (hx:st.ev x=some a) (hy:st.ev y=some b) (hb:b.int=some (n,l)) {r:SR τ dn} (h:wD D st sz a n l=some r):r.Good D N st.nx σ g (.iad sz x y):=by
 intro k hO hf
 unfold wD at h
 split at h
 ·rename_i ty xs
  split at h
  ·rename_i hs
   simp only [aeF] at h;subst h
   simp only [SR.O,aeP,aeZ] at hO
   have hl:n.toNat<xs.length:=by omega
   simp only [AO.aq,R.ev hx,R.ev hy,gU hb,SV.av,hs,hO.1,ae5,aeI,aeY,jW (d:=D.df ty) hl,aeT,RM.opt,RM.run,SR.v,SR.ups,SV.bX,ok.dD]
  ·simp at h
 ·rename_i q els
  cases l with
  |false=>simp at h
  |true=>
   simp only [aeK] at h
   split at h
   ·rename_i hs
    simp only [aeM] at h;obtain ⟨cs,hcs,rfl⟩:=h
    simp only [AO.aq,R.ev hx,R.ev hy,gU hb,SV.av,hs.1,hs.2,ae5,aeI,SV.lC,aeY,hcs,aeT,RM.opt,RM.run,SR.v,SR.ups,SV.bX]
   ·simp at h
 ·rename_i nm q
  split at h
  case isFalse=>simp at h
  rename_i hs
  have key:∀B,st.gm nm=some B->0<=n/\n<B.len->r= .val r.O (.ref nm sz n.toNat 0)->(AO.aq k (aR σ) (.iad sz x y)).run g=some (.done (r.v.av D.toTE N) (r.ups D N k)):=by
   intro B hB hr he
   obtain ⟨g1,g2⟩:=R.gm hB
   have:n<(N.ln nm:Int):=by rw [g2];exact hr.2
   rw [he]
   simp only [AO.aq,R.ev hx,R.ev hy,gU hb,SV.av,hs,hr.1,this,ae5,aeI,RM.run,g1,SR.v,SR.ups,aeW]
  split at h
  ·rename_i ty xs hB
   simp only [aeF] at h;subst h
   simp only [SR.O,aeP,aeZ] at hO
   exact key _ hB hO rfl
  ·rename_i q' els hB
   cases l with
   |true=>
    simp only [aeK] at h
    split at h
    ·rename_i hr
     simp only [aeF] at h;subst h
     exact key _ hB hr rfl
    ·simp at h
   |false=>
    simp only [ae0,aeF] at h;subst h
    simp only [SR.O,aeP,aeZ] at hO
    exact key _ hB hO rfl
  ·simp at h
 ·rename_i nm q off len
  split at h
  case isFalse=>simp at h
  rename_i hs
  simp only [aeM] at h;obtain ⟨B,hB,rfl⟩:=h
  simp only [SR.O,aeP,aeZ] at hO
  obtain ⟨g1,g2⟩:=R.gm hB
  simp only [AO.aq,R.ev hx,R.ev hy,gU hb,SV.av,hs,hO.1,hO.2,ae5,aeI,RM.run,g1,SR.v,SR.ups]
 ·simp at h
theorem WH (B:SB τ dn):B.J7.av D.toTE N= .v (goInt B.len):=by cases B<;>rfl
theorem WI (R:bN D N st σ g) {s:Bool} {v:SV τ dn} (hx:st.ev x=some v) {r:SR τ dn} (h:wE st s v=some r):r.Good D N st.nx σ g (.len s x):=by
 intro k hO hf
 unfold wE at h
 split at h
 ·simp only [aeF] at h;subst h;simp only [AO.aq,R.ev hx,SV.av,RM.run,SR.v,SR.ups,goInt]
 ·simp only [aeF] at h;subst h;simp only [AO.aq,R.ev hx,SV.av,RM.run,SR.v,SR.ups,goInt,aeS]
 ·simp only [aeF] at h;subst h;simp only [AO.aq,R.ev hx,SV.av,RM.run,SR.v,SR.ups,goInt,SV.lC,aeS]
 ·simp only [aeF] at h;subst h;simp only [AO.aq,R.ev hx,SV.av,RM.run,SR.v,SR.ups,goInt]
 ·rename_i nm _
  simp only [aeM] at h;obtain ⟨B,hB,rfl⟩:=h
  obtain ⟨g1,g2⟩:=R.gm hB
  simp only [AO.aq,R.ev hx,SV.av,RM.run,g1,g2,SR.v,SR.ups,WH]
 ·rename_i nm _ _ n
  simp only [aeM] at h;obtain ⟨B,hB,rfl⟩:=h
  obtain ⟨g1,g2⟩:=R.gm hB
  simp only [AO.aq,R.ev hx,SV.av,RM.run,g1,SR.v,SR.ups,goInt]
 ·simp at h
theorem WJ (R:bN D N st σ g) {v:SV τ dn} (hx:st.ev x=some v) {r:SR τ dn} (h:wF st kd neg v=some r):r.Good D N st.nx σ g (.isn kd neg x):=by
 intro k hO hf
 unfold wF at h
 split at h
 ·simp only [aeF] at h;subst h;simp only [AO.aq,R.ev hx,SV.av,RM.run,SR.v,SR.ups]
 ·simp only [aeF] at h;subst h;simp only [AO.aq,R.ev hx,SV.av,RM.run,SR.v,SR.ups]
 ·simp only [aeF] at h;subst h;simp only [AO.aq,R.ev hx,SV.av,RM.run,SR.v,SR.ups]
 ·rename_i nm _ _ _
  simp only [aeM] at h;obtain ⟨B,hB,rfl⟩:=h
  obtain ⟨g1,g2⟩:=R.gm hB
  simp only [AO.aq,R.ev hx,SV.av,RM.run,g1,SR.v,SR.ups]
 ·simp only [aeF] at h;subst h;simp only [AO.aq,R.ev hx,SV.av,RM.run,SR.v,SR.ups]
 ·simp only [aeF] at h;subst h;simp only [AO.aq,R.ev hx,SV.av,RM.run,SR.v,SR.ups]
 ·rename_i ty xs
  simp only [aeF] at h;subst h
  simp only [SR.O,aeP,aeZ] at hO
  cases xs with
  |nil=>exact absurd rfl hO
  |cons a l=>simp only [AO.aq,R.ev hx,SV.av,RM.run,SR.v,SR.ups,aeR,List.isEmpty_cons,afG,ae9]
 ·simp at h
theorem Eo {len:Int} (h:∀p,p∈pE len lo hi->p):(∀l,lo=some l->0<=l)/\(∀l,hi=some l->0<=l)/\((lo.getD 0:Int)<=hi.getD len\/(lo=none/\hi=none))/\(hi.getD len<=len):=by
 cases lo<;>cases hi<;>simp only [pE,aeP,aeZ,afN,false_implies,implies_true] at h<;>simp<;>omega
theorem Ep (h:∀p,p∈pE (n:Int) lo hi->p):bounds n (lo.map Int.toNat) (hi.map Int.toNat)=some ((lo.getD 0).toNat,(hi.getD (n:Int)).toNat):=by
 cases lo<;>cases hi<;>simp only [pE,aeP,aeZ,afN,false_implies,implies_true] at h<;>simp only [bounds,Option.map_none,aeT,age,afz]
 ·rw [aeG (by omega)];simp
 ·rw [aeG (by omega)];simp
 ·rw [aeG (by omega)];simp
 ·rw [aeG (by omega)]
theorem WK {α:Type} {xs:List α} (h:∀p,p∈pE (xs.length:Int) lo hi->p):Ek xs lo hi=(xs.drop (lo.getD 0).toNat).take ((hi.getD (xs.length:Int)).toNat - (lo.getD 0).toNat):=by
 cases lo<;>cases hi<;>simp only [pE,aeP,aeZ,afN,false_implies,implies_true] at h<;>simp only [Ek,age,afz]
 ·simp
 ·simp
 ·rw [afA (by simp)]
theorem WL (R:bN D N st σ g) {sz:Nat} {lo hi:Option Arg} {v:SV τ dn} {l h':Option Int} (hx:st.ev x=some v) (hl:pD st lo=some l) (hh:pD st hi=some h') {r:SR τ dn} (h:wG D st sz v l h'=some r):r.Good D N st.nx σ g (.slc sz x lo hi none):=by
 intro k hO hf
 have hn:ee (aR σ) none=some none:=rfl
 unfold wG at h
 split at h
 ·rename_i ty xs
  split at h
  ·rename_i hs
   simp only [aeF] at h;subst h
   simp only [SR.O] at hO
   have nn:=Eo hO
   have e1:=oe R hl nn.1
   have e2:=oe R hh nn.2.1
   have hb:=Ep hO
   simp only [AO.aq,e1,e2,hn,R.ev hx,SV.av,hs,aeI,aeS,hb,afV,cutL,aeT,RM.opt,RM.run,SR.v,SR.ups,WK hO,List.map_take,List.map_drop]
  ·simp at h
 ·split at h
  ·simp only [aeF] at h;subst h
   have e1:=oe R hl (by simp)
   have e2:=oe R hh (by simp)
   simp only [AO.aq,e1,e2,hn,R.ev hx,SV.av,Option.map_none,bounds,age,aeO,ae5,aeI,afV,RM.opt,RM.run,SR.v,SR.ups]
  ·simp at h
 ·rename_i nm q
  split at h
  case isFalse=>simp at h
  rename_i hs
  split at h
  ·simp only [aeM] at h;obtain ⟨B,hB,rfl⟩:=h
   obtain ⟨g1,g2⟩:=R.gm hB
   have e1:=oe R hl (by simp)
   have e2:=oe R hh (by simp)
   simp only [AO.aq,e1,e2,hn,R.ev hx,SV.av,Option.map_none,RM.run,g1,hs,aeI,bounds,age,Nat.zero_le,aeO,ae5,SR.v,SR.ups,aeW,Nat.sub_zero]
  ·simp only [aeM] at h;obtain ⟨B,hB,rfl⟩:=h
   obtain ⟨g1,g2⟩:=R.gm hB
   simp only [SR.O] at hO
   have nn:=Eo hO
   have e1:=oe R hl nn.1
   have e2:=oe R hh nn.2.1
   have hb:=Ep hO
   simp only [AO.aq,e1,e2,hn,R.ev hx,SV.av,RM.run,g1,hs,aeI,g2,hb,SR.v,SR.ups,aeW]
 ·simp at h
theorem zZ [DecidableEq τ] (ok:bE D) {ty:τ}:∀{els:List (List (SV τ dn))} {xs:List (dn ty)},oc D ty els=some xs->(SV.cM D.toTE N els)=xs.map (D.ea N.ρ ty)
 |[],xs,h=>by simp only [oc,aeF] at h;subst h;rfl
 |cs::r,xs,h=>by
  simp only [oc] at h
  split at h
  ·rename_i hn
   split at h
   ·rename_i x l h1 h2
    simp only [aeF] at h;subst h
    have e1:=ok.fX N ty _ _ h1 hn
    have e2:=zZ ok h2
    simp only [SV.cM,SV.bX,e1,e2,aeR]
   ·simp at h
  ·simp at h
theorem z6 [DecidableEq τ] {ty:τ}:∀{els:List (List (SV τ dn))} {xs:List (dn ty)},oc D ty els=some xs->els.length=xs.length
 |[],xs,h=>by simp only [oc,aeF] at h;subst h;rfl
 |cs::r,xs,h=>by
  simp only [oc] at h
  split at h
  ·split at h
   ·rename_i x l h1 h2
    simp only [aeF] at h;subst h
    simp [z6 h2]
   ·simp at h
  ·simp at h
theorem Er {a:SV τ dn} {x:Value} (h:a.key=some x):a.av D.toTE N= .v x:=by
 cases a<;>simp [SV.key] at h<;>subst h<;>rfl
theorem Es {kd:LK} {k:Value}:∀{els:List (List (SV τ dn))} {r:Option (SV τ dn)},pF kd k els=some r->mfind kd k (SV.cM D.toTE N els)=some (r.map (SV.av D.toTE N))
 |[],r,h=>by simp only [pF,aeF] at h;subst h;rfl
 |[kv,x]::l,r,h=>by
  simp only [pF] at h
  split at h
  ·rename_i k' hk
   simp only [SV.cM,SV.dy,Er hk,mfind]
   split at h
   ·rename_i he
    simp only [aeF] at h;subst h
    simp only [he];rfl
   ·rename_i he
    simp only [he];exact Es h
   ·simp at h
  ·simp at h
 |[]::l,r,h=>by simp [pF] at h
 |[_]::l,r,h=>by simp [pF] at h
 |(_::_::_::_)::l,r,h=>by simp [pF] at h
theorem Kd {n z:Int}:∀{els:List (List (SV τ dn))} {l:List (Int×Int)},pG els=some l->∃r,mfind .int (.int .i64 n) (SV.cM D.toTE N els)=some r/\r.getD (.v (.int .i64 z))= .v (.int .i64 (zS z n l))
 |[],l,h=>by simp only [pG,aeF] at h;subst h;exact ⟨none,rfl,rfl⟩
 |[kv,x]::els,l,h=>by
  cases kv with
  |vn k=>
   simp only [pG] at h
   split at h
   ·rename_i v b l' h1 h2
    simp only [aeF] at h;subst h
    obtain ⟨r,q1,q2⟩:=Kd (n:=n) (z:=z) h2
    simp only [SV.cM,SV.dy,SV.av,gU h1,mfind,keyEq,aeI,zS]
    by_cases hk:n=k
    ·subst hk;exact ⟨some (.v (.int .i64 v)),by simp,by simp⟩
    ·have:(n==k)=false:=by simpa using hk
     rw [this,aeE hk];exact ⟨r,q1,q2⟩
   ·simp at h
  |_=>simp [pG] at h
 |[]::l,r,h=>by simp [pG] at h
 |[_]::l,r,h=>by simp [pG] at h
 |(_::_::_::_)::l,r,h=>by simp [pG] at h
theorem WM (R:bN D N st σ g) {kd:LK} {k:Arg} {a b c:SV τ dn} (hx:st.ev x=some a) (hk:st.ev k=some b) (hy:st.ev y=some c) {r:SR τ dn} (h:zT st kd a b c=some r):r.Good D N st.nx σ g (.mup kd x k y):=by
 unfold zT at h
 split at h
 case h_2=>simp at h
 rename_i nm key nP
 split at h
 case h_2=>simp at h
 rename_i els hB
 cases hb:(st.rw nm&&plainV key) with
 |false=>rw [hb] at h;simp at h
 |true=>
  rw [hb,aeK] at h
  rw [aeH] at hb
  split at h
  case h_2=>simp at h
  rename_i hf
  simp only [aeF] at h;subst h
  intro k' hO gj
  have g1:=(R.gm hB).1
  have hm:=Es (D:=D) (N:=N) hf
  rw [SV.lC] at hm
  simp only [AO.aq,R.ev hx,R.ev hk,R.ev hy,Er nP,SV.av,RM.run,g1,SB.av,hb.2,ae5,aeI,hm,Option.map_none,SR.v,SR.ups,SV.lC,afp,aeR,afh]
theorem WN (R:bN D N st σ g) {kd:LK} {z:AV} {k:Arg} {a b:SV τ dn} (hx:st.ev x=some a) (hk:st.ev k=some b) {r:SR τ dn} (h:zU st kd z a b=some r):r.Good D N st.nx σ g (.mlk kd z x k):=by
 unfold zU at h
 split at h
 case h_2=>simp at h
 rename_i nm zs hz
 have ez:zs.av D.toTE N=z:=El _ _ hz
 split at h
 case h_2=>simp at h
 rename_i els hB
 have g1:=(R.gm hB).1
 split at h
 ·rename_i n
  split at h
  case h_2=>simp at h
  rename_i l zi b' hl WO
  simp only [aeF] at h;subst h
  intro k' hO gj
  obtain ⟨q,q1,q2⟩:=Kd (D:=D) (N:=N) (n:=n) (z:=zi) hl
  rw [gU WO] at ez
  subst ez
  simp only [AO.aq,R.ev hx,R.ev hk,SV.av,RM.run,g1,SB.av,aeI,q1,aeT,RM.opt,q2,SR.v,SR.ups]
 ·split at h
  ·rename_i key nP
   simp only [aeM] at h;obtain ⟨q,hq,rfl⟩:=h
   intro k' hO gj
   have hm:=Es (D:=D) (N:=N) hq
   simp only [AO.aq,R.ev hx,R.ev hk,Er nP,SV.av,RM.run,g1,SB.av,aeI,hm,aeT,RM.opt,SR.v,SR.ups]
   cases q with
   |none=>simp [ez]
   |some w=>simp
  ·simp at h
def Ct.els (D:TD τ dn) (N:aL):Ct τ dn->List (List AV)
 | .ty t xs=>xs.map (D.ea N.ρ t)
 | .li els=>SV.cM D.toTE N els
theorem Ct.WQ (c:Ct τ dn):(c.els D N).length=c.len:=by
 cases c with
 |ty t xs=>simp [Ct.els,Ct.len]
 |li els=>simp [Ct.els,Ct.len,SV.lC]
theorem sq (R:bN D N st σ g) {sz:Nat} {v:SV τ dn} {c:Ct τ dn} (h:st.cont D sz v=some c):(content sz (v.av D.toTE N)).run g=some (c.els D N)/\(∀t xs,c= .ty t xs->D.sz t=sz):=by
 unfold SS.cont at h
 split at h
 ·split at h
  ·rename_i ty xs hs
   simp only [aeF] at h;subst h
   refine ⟨by simp only [SV.av,content,hs,aeI,RM.run,Ct.els],fun t ys e=> ?_⟩
   simp only [Ct.ty.injEq] at e;obtain ⟨rfl,_⟩:=e;exact hs
  ·simp at h
 ·split at h
  ·rename_i k els hs
   simp only [aeF] at h;subst h
   exact ⟨by simp only [SV.av,content,hs,aeI,RM.run,Ct.els],fun t ys e=>by simp at e⟩
  ·simp at h
 ·simp only [aeF] at h;subst h
  exact ⟨rfl,fun t ys e=>by simp at e⟩
 ·rename_i nm k
  split at h
  case isFalse=>simp at h
  rename_i hs
  subst hs
  split at h
  ·rename_i ty xs hB
   split at h
   ·rename_i hs
    simp only [aeF] at h;subst h
    obtain ⟨g1,g2⟩:=R.gm hB
    refine ⟨?_,fun t ys e=> ?_⟩
    ·simp only [SV.av,content,RM.run,g1,SB.av,hs,g2,SB.len,aeW,aeS,aeO,ae5,aeI,agy,Ct.els]
     rw [afA (by simp)]
    ·simp only [Ct.ty.injEq] at e;obtain ⟨rfl,_⟩:=e;exact hs
   ·simp at h
  ·rename_i q els hB
   split at h
   ·rename_i hs
    simp only [aeF] at h;subst h
    obtain ⟨g1,g2⟩:=R.gm hB
    refine ⟨?_,fun t ys e=>by simp at e⟩
    have e:(SV.cM D.toTE N els).length=els.length:=by simp [SV.lC]
    simp only [SV.av,content,RM.run,g1,SB.av,hs,g2,SB.len,aeW,e,aeO,ae5,aeI,agy,Ct.els]
    rw [afA (by rw [e];exact aeO _)]
   ·simp at h
  ·simp at h
 ·simp at h
theorem WR [DecidableEq τ] {D:TD τ dn} {sz:Nat} {B B':SB τ dn} {c:Ct τ dn} (h:sk D sz B c=some B'):B.Eb=false:=by
 cases B with
 |mc els=>simp [sk] at h
 |_=>rfl
theorem WS [DecidableEq τ] (ok:bE D) {sz:Nat} {B B':SB τ dn} {c:Ct τ dn} (h:sk D sz B c=some B') (hs:B.sz D=sz) (hc:∀t xs,c= .ty t xs->D.sz t=sz):B'.av D.toTE N=⟨sz,(B.av D.toTE N).els++c.els D N⟩/\B'.len=B.len+c.len:=by
 unfold sk at h
 split at h
 ·split at h
  ·rename_i ty xs qM ys he
   simp only [aeF] at h;subst h
   subst he
   simp only [SB.sz] at hs
   refine ⟨?_, ?_⟩
   ·simp only [SB.av,Ct.els,afp,hs]
   ·simp [SB.len,Ct.len]
  ·simp at h
 ·simp only [aeM] at h;obtain ⟨ys,hy,rfl⟩:=h
  simp only [SB.sz] at hs
  have e:=zZ (N:=N) ok hy
  have e2:=z6 hy
  refine ⟨?_, ?_⟩
  ·simp only [SB.av,Ct.els,afp,hs,e]
  ·simp [SB.len,Ct.len,e2]
 ·split at h
  ·rename_i q els ty ys hq
   simp only [aeM] at h;obtain ⟨xs,hx,rfl⟩:=h
   simp only [SB.sz] at hs
   have e:=zZ (N:=N) ok hx
   have e2:=z6 hx
   refine ⟨?_, ?_⟩
   ·simp only [SB.av,Ct.els,afp, <-hq,hs,e]
   ·simp [SB.len,Ct.len,e2]
  ·simp at h
 ·split at h
  ·rename_i q els fs hq
   simp only [aeF] at h;subst h
   refine ⟨?_, ?_⟩
   ·simp only [SB.av,Ct.els,SV.lC,afp,hq]
   ·simp [SB.len,Ct.len]
  ·simp at h
 ·simp at h
 ·simp at h
theorem WT {sz:Nat} {c:Ct τ dn} (hc:∀t xs,c= .ty t xs->D.sz t=sz):(c.od sz).av D.toTE N=⟨sz,c.els D N⟩/\(c.od sz).len=c.len:=by
 cases c with
 |ty t xs=>simp only [Ct.od,SB.av,Ct.els,hc t xs rfl,SB.len,Ct.len,ae5]
 |li els=>simp only [Ct.od,SB.av,Ct.els,SB.len,Ct.len,ae5]
theorem WU (B:SB τ dn):(B.av D.toTE N).sz=B.sz D:=by cases B<;>rfl
theorem eW {β:Type} {f:α->RM β} {m:RM α} {a:α} (h:m.run g=some a):(m.bind f).run g=(f a).run g:=(run_bind m h).1
theorem WV [DecidableEq τ] (ok:bE D) (R:bN D N st σ g) {sz bytes:Nat} {s v:SV τ dn} (hx:st.ev x=some s) (hy:st.ev y=some v) {r:SR τ dn} (h:zQ D st sz bytes s v=some r):r.Good D N st.nx σ g (.app sz bytes x y):=by
 intro k hO hf
 unfold zQ at h
 split at h
 case h_2=>simp at h
 rename_i c hc
 obtain ⟨c1,c2⟩:=sq R hc
 have cl:(c.els D N).length=c.len:=c.WQ
 have e0:(AO.aq k (aR σ) (.app sz bytes x y)).run g=_:=eW (by rw [R.ev hy];exact c1)
 rw [e0,R.ev hx]
 clear e0
 split at h
 ·simp only [aeF] at h;subst h
  simp only [SR.O,aeP,aeZ] at hO
  obtain ⟨b1,b2⟩:=WT (N:=N) c2
  obtain ⟨f1,f2⟩:=hf
  simp only [SV.av,cl,hO,aeI,RM.run,SR.v,SR.ups,b1,f1,f2,b2]
 ·rename_i nm q
  split at h
  case isFalse=>simp at h
  rename_i hs
  split at h
  ·rename_i B hB
   split at h
   ·rename_i hz
    simp only [aeM] at h;obtain ⟨B',aW,rfl⟩:=h
    simp only [SR.O,aeP,aeZ] at hO
    obtain ⟨g1,g2⟩:=R.gm hB
    obtain ⟨b1,b2⟩:=WS (N:=N) ok aW hz c2
    obtain ⟨f1,f2⟩:=hf
    have e1:=B.Wb D.toTE N (WR aW)
    simp only [SV.av,RM.run,g1,WU,hz,hs.1,g2,e1,cl,hO,ae5,aeI,SR.v,SR.ups,b1,f1,f2,b2]
   ·simp at h
  ·simp at h
 ·simp at h
theorem WW [DecidableEq τ] (ok:bE D) (R:bN D N st σ g) {sz bytes:Nat} {zs:List AV} {a b:SV τ dn} {l:Int} {p q:Bool} (hx:st.ev x=some a) (hy:st.ev y=some b) (ha:a.int=some (l,p)) (hb:b.int=some (c,q)) {r:SR τ dn} (h:wK D st sz bytes zs l c=some r):r.Good D N st.nx σ g (.msl sz bytes zs x y):=by
 intro k hO hf
 unfold wK at h
 split at h
 ·rename_i ty cs h1 h2
  split at h
  ·rename_i hs
   split at h
   ·rename_i z hz
    simp only [aeF] at h;subst h
    simp only [SR.O,aeP,aeZ] at hO
    have e1:=qN D.toTE N h2
    have e2:=ok.fX N ty cs z hz hs.2
    rw [SV.bX] at e1
    rw [e1] at e2
    obtain ⟨f1,f2⟩:=hf
    have h0:0<=c:=by omega
    have hb2:c.toNat*bytes<=140737488355328:=by
     have:=hO.2.2
     obtain ⟨m,rfl⟩:=Int.eq_ofNat_of_zero_le h0
     rw [<-Int.natCast_mul] at this
     exact Int.ofNat_le.1 this
    simp only [AO.aq,R.ev hx,R.ev hy,gU ha,gU hb,natOf,hO.1,h0,aeI,Int.toNat_le_toNat hO.2.1,hb2,ae5,RM.run,SR.v,SR.ups,SV.av,f1,f2,SB.len,afP,SB.av,hs.1,List.map_replicate,e2]
   ·simp at h
  ·simp at h
 ·simp at h
theorem WX [DecidableEq τ] (R:bN D N st σ g) {sz:Nat} {a b:SV τ dn} (hx:st.ev x=some a) (hy:st.ev y=some b) {r:SR τ dn} (h:zR D st sz a b=some r):r.Good D N st.nx σ g (.cpy sz x y):=by
 intro k hO hf
 unfold zR at h
 split at h
 ·rename_i nm q ty ys hc
  obtain ⟨c1,c2⟩:=sq R hc
  split at h
  case isFalse=>simp at h
  rename_i hs
  split at h
  ·rename_i qM xs hB
   split at h
   ·rename_i he
    subst he
    split at h
    ·rename_i hz
     simp only [aeF] at h;subst h
     obtain ⟨g1,g2⟩:=R.gm hB
     have e0:(AO.aq k (aR σ) (.cpy sz x y)).run g=_:=eW (by rw [R.ev hy];exact c1)
     rw [e0,R.ev hx]
     simp only [SV.av,RM.run,g1,SB.av,hz,hs.1,g2,SB.len,aeS,aeW,aeO,ae5,aeI,Ct.els,SR.v,SR.ups,List.take_zero,List.nil_append,goInt,afp,List.map_take,List.map_drop]
    ·simp at h
   ·simp at h
  ·simp at h
 ·simp at h
theorem Ke (ok:bE D) {t:τ} {p:(dn t->UInt8)×(UInt8->dn t)} (h:D.bt t=some p):∀xs:List (dn t),strOf (xs.map (D.ea N.ρ t))=some (xs.map p.1)
 |[]=>rfl
 |x::r=>by
  rw [aeR,(ok.bt N t p h).1 x,strOf,Ke ok h r,agd,UInt8.ofNat_toNat];rfl
theorem Kf:∀{els:List (List (SV τ dn))} {l:List UInt8},wH els=some l->strOf (SV.cM D.toTE N els)=some l
 |[],l,h=>by simp only [wH,aeF] at h;subst h;rfl
 |cs::r,l,h=>by
  unfold wH at h
  split at h
  ·rename_i e;simp at e
  ·rename_i b r' e
   simp only [agv] at e
   obtain ⟨rfl,rfl⟩:=e
   split at h
   ·rename_i l' hl
    simp only [aeF] at h;subst h
    have:=Kf hl
    simp only [SV.cM,SV.dy,SV.av,strOf,this,aeT,agd,UInt8.ofNat_toNat]
   ·simp at h
  ·simp at h
theorem WY [DecidableEq τ] (ok:bE D) (R:bN D N st σ g) {v:SV τ dn} (hx:st.ev x=some v) {r:SR τ dn} (h:wI D st v=some r):r.Good D N st.nx σ g (.b2s x):=by
 intro k hO hf
 unfold wI at h
 split at h
 ·rename_i t xs hc
  obtain ⟨c1,_⟩:=sq R hc
  split at h
  ·rename_i p hp
   simp only [aeF] at h;subst h
   have e0:(AO.aq k (aR σ) (.b2s x)).run g=_:=eW (by rw [R.ev hx];exact c1)
   rw [e0]
   simp only [Ct.els,Ke ok hp,aeT,RM.opt,RM.run,SR.v,SR.ups,SV.av]
  ·simp at h
 ·rename_i els hc
  obtain ⟨c1,_⟩:=sq R hc
  split at h
  ·rename_i l hl
   simp only [aeF] at h;subst h
   have e0:(AO.aq k (aR σ) (.b2s x)).run g=_:=eW (by rw [R.ev hx];exact c1)
   rw [e0]
   simp only [Ct.els,Kf hl,aeT,RM.opt,RM.run,SR.v,SR.ups,SV.av]
  ·simp at h
 ·simp at h
theorem WZ [DecidableEq τ] (ok:bE D) (R:bN D N st σ g) (hx:st.ev x=some (.vz s)) {r:SR τ dn} (h:wJ D st s=some r):r.Good D N st.nx σ g (.s2b x):=by
 intro k hO hf
 unfold wJ at h
 split at h
 ·rename_i t ht
  split at h
  ·rename_i p hp
   split at h
   ·rename_i hs
    simp only [aeF] at h;subst h
    simp only [SR.O,aeP,aeZ] at hO
    obtain ⟨f1,f2⟩:=hf
    have hl:s.data.toList.length=s.size:=rfl
    have e:(s.data.toList.map p.2).map (D.ea N.ρ t)=s.data.toList.map fun b=>[AV.v (.int .u8 b.toNat)]:=by
     rw [agr]
     refine afR fun b _=> ?_
     show D.ea N.ρ t (p.2 b)=_
     rw [(ok.bt N t p hp).1,(ok.bt N t p hp).2]
    simp only [AO.aq,R.ev hx,SV.av,hO,aeI,RM.run,SR.v,SR.ups,f1,f2,SB.len,aeS,SB.av,hs,e,hl]
   ·simp at h
  ·simp at h
 ·simp at h
theorem wM (R:bN D N st σ g):∀{l:List Arg} {cs:List (SV τ dn)},l.mapM st.ev=some cs->l.map (aR σ)=cs.map (SV.av D.toTE N)
 |[],cs,h=>by simp at h;subst h;rfl
 |x::r,cs,h=>by
  simp only [List.mapM_cons,Option.pure_def,Option.bind_eq_bind,agk,aeF] at h
  obtain ⟨v,hv,l,hl,rfl⟩:=h
  simp only [aeR,R.ev hv,wM R hl]
theorem W0 [DecidableEq τ] (ok:bE D) (R:bN D N st σ g):∀{ao:AO} {r:SR τ dn},sx D st ao=some r->r.Good D N st.nx σ g ao:=by
 intro ao r h
 cases ao<;>simp only [sx] at h
 case mov x=>
  simp only [aeM] at h;obtain ⟨v,hv,rfl⟩:=h
  intro k hO hf
  simp only [AO.aq,R.ev hv,RM.run,SR.v,SR.ups]
 case pick=>simp at h
 case new zs=>
  simp only [aeM] at h;obtain ⟨cs,hcs,rfl⟩:=h
  intro k hO hf
  obtain ⟨f1,f2⟩:=hf
  simp only [AO.aq,RM.run,SR.v,SR.ups,SV.av,f1,SB.av,SV.cM,qN D.toTE N hcs]
 case box n x=>
  split at h
  ·rename_i v hv
   split at h
   ·rename_i hc
    simp only [aeF] at h;subst h
    intro k hO hf
    obtain ⟨f1,f2⟩:=hf
    have cX:=SV.wh (E:=D.toTE) (N:=N) hc.2.1
    simp only [AO.aq,R.ev hv,cX,aeS,hc.1,zY hc.2.2,ae5,aeI,RM.run,SR.v,SR.ups,SV.av,f1,SB.av,SV.cM,SV.bX]
   ·simp at h
  ·simp at h
 case agg zs parts=>
  split at h
  ·rename_i cs hcs
   simp only [aeM] at h;obtain ⟨l,hl,rfl⟩:=h
   intro k hO hf
   have e1:=qN D.toTE N hcs
   rw [SV.bX] at e1
   have:=J9 R hl
   rw [e1] at this
   simp only [AO.aq,this,aeT,RM.opt,RM.run,SR.v,SR.ups,SV.av,SV.bX]
  ·simp at h
 case bsl sz ln zs parts=>
  split at h
  ·rename_i cs hcs
   simp only [aeM] at h;obtain ⟨l,hl,rfl⟩:=h
   intro k hO hf
   obtain ⟨f1,f2⟩:=hf
   have e1:=qN D.toTE N hcs
   rw [SV.bX] at e1
   have:=Ka R hl
   rw [List.map_replicate,e1] at this
   have hlen:l.length=ln:=by
    have:∀(parts:List (Nat×Arg)) (els l:List (List (SV τ dn))),qL st sz els parts=some l->l.length=els.length:=by
     intro parts
     induction parts with
     |nil=>intro els l h;simp only [qL,aeF] at h;subst h;rfl
     |cons p r ih=>
      intro els l h
      obtain ⟨i,x⟩:=p
      simp only [qL] at h
      split at h
      ·split at h
       ·have:=ih _ _ h;simpa using this
       ·simp at h
      ·simp at h
    have:=this _ _ _ hl
    simpa using this
   simp only [AO.aq,this,aeT,RM.opt,RM.run,SR.v,SR.ups,SV.av,f1,f2,SB.len,hlen,SB.av,SV.lC]
  ·simp at h
 case load m x=>
  simp only [agk] at h;obtain ⟨v,hv,h⟩:=h
  exact Kc ok R hv h
 case store n x y=>
  split at h
  ·rename_i a b ha hb;exact WE ok R ha hb h
  ·simp at h
 case nilc x=>
  split at h
  ·rename_i nm sz i o hv
   simp only [aeM] at h;obtain ⟨B,hB,rfl⟩:=h
   intro k hO hf
   obtain ⟨g1,g2⟩:=R.gm hB
   simp only [AO.aq,R.ev hv,SV.av,RM.run,g1,SR.v,SR.ups]
  ·rename_i cs o hv
   simp only [aeF] at h;subst h
   intro k hO hf
   simp only [AO.aq,R.ev hv,SV.av,RM.run,SR.v,SR.ups]
  ·simp at h
 case bin bt op x y=>
  split at h
  ·rename_i a b ha hb
   intro k hO hf
   obtain ⟨O,v,p,q,w,rfl,h1,h2,h3,h4⟩:=Wy (D:=D) (N:=N) h hO
   simp only [AO.aq,R.ev ha,R.ev hb,h1,h2,h3,aeT,RM.opt,RM.run,SR.v,SR.ups,h4]
  ·simp at h
 case un op x=>
  simp only [agk] at h;obtain ⟨a,ha,h⟩:=h
  intro k hO hf
  obtain ⟨O,v,p,w,rfl,h1,h3,h4⟩:=WA (D:=D) (N:=N) h hO
  simp only [AO.aq,R.ev ha,h1,h3,aeT,RM.opt,RM.run,SR.v,SR.ups,h4]
 case conv q x=>
  simp only [agk] at h;obtain ⟨a,ha,h⟩:=h
  intro k hO hf
  obtain ⟨O,v,p,w,rfl,h1,h4⟩:=WB (D:=D) (N:=N) h hO
  simp only [AO.aq,R.ev ha,h1,RM.run,SR.v,SR.ups,h4]
 case fad off x=>
  split at h
  ·rename_i nm sz i o hv
   simp only [aeM] at h;obtain ⟨B,hB,rfl⟩:=h
   intro k hO hf
   obtain ⟨g1,g2⟩:=R.gm hB
   simp only [AO.aq,R.ev hv,SV.av,RM.run,g1,SR.v,SR.ups]
  ·rename_i cs o hv
   simp only [aeF] at h;subst h
   intro k hO hf
   simp only [AO.aq,R.ev hv,SV.av,RM.run,SR.v,SR.ups]
  ·simp at h
 case fld off m x=>
  split at h
  ·rename_i cs hv
   simp only [aeM] at h;obtain ⟨w,hw,rfl⟩:=h
   intro k hO hf
   have:=tX (D:=D) (N:=N) hw
   simp only [AO.aq,R.ev hv,SV.av,SV.bX,this,aeT,RM.opt,RM.run,SR.v,SR.ups]
  ·simp at h
 case iad sz x i=>
  split at h
  ·rename_i a b ha hb
   split at h
   ·rename_i n l hn;exact WG ok R ha hb hn h
   ·simp at h
  ·simp at h
 case ext i x=>
  split at h
  ·rename_i vs hv
   simp only [aeM] at h;obtain ⟨w,hw,rfl⟩:=h
   intro k hO hf
   simp only [AO.aq,R.ev hv,SV.av,SV.bX,aeY,hw,aeT,RM.opt,RM.run,SR.v,SR.ups]
  ·simp at h
 case len s x=>
  simp only [agk] at h;obtain ⟨v,hv,h⟩:=h
  exact WI R hv h
 case isn kd neg x=>
  simp only [agk] at h;obtain ⟨v,hv,h⟩:=h
  exact WJ R hv h
 case mnx mx x y=>
  split at h
  ·rename_i a b ha hb
   split at h
   ·rename_i p _ q _ h1 h2
    simp only [aeF] at h;subst h
    intro k hO hf
    simp only [AO.aq,R.ev ha,R.ev hb,gU h1,gU h2,uZ,aeI,aeT,RM.opt,RM.run,SR.v,SR.ups,SV.av]
    congr 5
    all_goals (simp only [Int.max_def,Int.min_def];(repeat' split)<;>omega)
   ·simp at h
  ·simp at h
 case eqs ng n L x y=>
  split at h
  ·rename_i cs ds hc hd
   split at h
   ·rename_i hl
    split at h
    ·rename_i v hv
     simp only [aeM] at h;obtain ⟨w,hw,rfl⟩:=h
     intro k hO hf
     obtain ⟨p,h1,h2⟩:=Kb (D:=D) (N:=N) hv
     have h3:w.av D.toTE N= .v (.bool (if ng then !p else p)):=by
      cases ng with
      |true=>
       simp only [aeI] at hw ⊢
       obtain ⟨z,q1,q2⟩:=En (D:=D) (N:=N) hw
       rw [h1] at q1;simp only [AV.v.injEq,Value.bool.injEq] at q1;subst q1;exact q2
      |false=>simp only [afG,ae9,aeF] at hw ⊢; subst hw;exact h1
     simp only [AO.aq,R.ev hc,R.ev hd,SV.av,SV.bX,aeS,hl.1,hl.2,ae5,aeI,h2,aeT,RM.opt,RM.run,SR.v,SR.ups,h3]
    ·simp at h
   ·simp at h
  ·simp at h
 case b2s x=>
  split at h
  ·rename_i v hv;exact WY ok R hv h
  ·simp at h
 case s2b x=>
  split at h
  ·rename_i s hs;exact WZ ok R hs h
  ·simp at h
 case msl sz by_ zs x y=>
  split at h
  ·rename_i a b ha hb
   split at h
   ·rename_i p _ q _ h1 h2;exact WW ok R ha hb h1 h2 h
   ·simp at h
  ·simp at h
 case slc sz x lo hi mx=>
  cases mx with
  |some m=>simp at h
  |none=>
   simp only at h
   split at h
   ·rename_i a l h' ha hl hh;exact WL R ha hl hh h
   ·simp at h
 case sls x lo hi=>
  split at h
  ·rename_i s l h' hs hl hh
   simp only [aeF] at h;subst h
   intro k hO hf
   simp only [SR.O] at hO
   have nn:=Eo hO
   have e1:=oe R hl nn.1
   have e2:=oe R hh nn.2.1
   have hb:=Ep hO
   simp only [AO.aq,e1,e2,R.ev hs,SV.av,hb,aeT,RM.opt,RM.run,SR.v,SR.ups]
  ·simp at h
 case six x i=>
  split at h
  ·rename_i s b hs hb
   split at h
   ·rename_i n _ h1
    simp only [aeF] at h;subst h
    intro k hO hf
    simp only [SR.O,aeP,aeZ] at hO
    have hl:n.toNat<s.size:=by omega
    have e:s[n.toNat]? =some (gb s n.toNat):=by unfold gb;rw [getElem?_pos s n.toNat hl];rfl
    simp only [AO.aq,R.ev hs,R.ev hb,gU h1,SV.av,natOf,hO.1,aeI,e,aeT,RM.opt,RM.run,SR.v,SR.ups]
   ·simp at h
  ·simp at h
 case app sz by_ x y=>
  split at h
  ·rename_i a b ha hb;exact WV ok R ha hb h
  ·simp at h
 case cpy sz x y=>
  split at h
  ·rename_i a b ha hb;exact WX R ha hb h
  ·simp at h
 case mkf f caps=>
  simp only [aeM] at h;obtain ⟨cs,hcs,rfl⟩:=h
  intro k hO hf
  simp only [AO.aq,wM R hcs,RM.run,SR.v,SR.ups,SV.av,SV.bX]
 case mkb f caps=>
  simp only [aeM] at h;obtain ⟨cs,hcs,rfl⟩:=h
  intro k hO hf
  simp only [AO.aq,wM R hcs,RM.run,SR.v,SR.ups,SV.av,SV.bX]
 case iap sz ln x i=>
  split at h
  ·rename_i nm s e o n hv hn
   split at h
   ·rename_i hc
    simp only [aeF] at h;subst h
    intro k hO hf
    obtain ⟨B,hB⟩:=agH.1 hc.2.2
    obtain ⟨g1,g2⟩:=R.gm hB
    simp only [AO.aq,R.ev hv,R.ev hn,SV.av,hc.1,hc.2.1,ae5,aeI,RM.run,g1,SR.v,SR.ups]
   ·simp at h
  ·rename_i cs o n hv hn
   split at h
   ·rename_i hc
    simp only [aeF] at h;subst h
    intro k hO hf
    simp only [AO.aq,R.ev hv,R.ev hn,SV.av,hc.1,hc.2,ae5,aeI,RM.run,SR.v,SR.ups]
   ·simp at h
  ·simp at h
 case ixa sz ln m x i=>
  split at h
  ·rename_i cs n hv hn
   split at h
   ·rename_i hc
    simp only [aeM] at h;obtain ⟨w,hw,rfl⟩:=h
    intro k hO hf
    simp only [AO.aq,R.ev hv,R.ev hn,SV.av,hc.1,hc.2,ae5,aeI,SV.bX,tX hw,aeT,RM.opt,RM.run,SR.v,SR.ups]
   ·simp at h
  ·simp at h
 case mkm=>
  simp only [aeF] at h;subst h
  intro k hO hf
  simp only [AO.aq,RM.run,SR.v,SR.ups,SV.av,SB.av,SV.cM,hf.1]
 case mup kd x key y=>
  split at h
  ·rename_i a b c ha hb hc;exact WM R ha hb hc h
  ·simp at h
 case mlk kd z x key=>
  split at h
  ·rename_i a b ha hb;exact WN R ha hb h
  ·simp at h
 all_goals simp at h
end
open Go.RowKit
section
variable {τ:Type} {dn:τ->Type}
def SV.isRw:SV τ dn->Bool
 | .rw _ _| .eg _ _ _ _=>true
 |_=>false
def AO.lk:AO->List Arg
 | .load _ x| .nilc x| .fad _ x| .len _ x| .isn _ _ x| .clr _ x| .b2s x=>[x]
 | .store _ x _| .iad _ x _| .iap _ _ x _| .slc _ x _ _ _| .mup _ x _ _| .mlk _ _ x _=>[x]
 | .app _ _ s x=>[x,s]
 | .cpy _ x y=>[y,x]
 |_=>[]
def SS.rwa (st:SS τ dn) (x:Arg):Bool:=match st.ev x with
 |some v=>v.isRw
 |none=>false
variable [DecidableEq τ]
def SS.jv (st:SS τ dn) (t:τ):Option (List (Nat×List (dn t))):=match st.gm 0 with
 |some (.ar t' A)=>if h:t'=t then some (h▸A) else none
 |_=>none
theorem qO {st:SS τ dn} {t:τ} {A:List (Nat×List (dn t))} (h:st.jv t=some A):st.gm 0=some (.ar t A):=by
 unfold SS.jv at h
 split at h
 ·rename_i t' A' hB
  split at h
  ·rename_i he
   subst he
   simp only [aeF] at h;subst h;exact hB
  ·simp at h
 ·simp at h
variable (D:TD τ dn)
def wN (st:SS τ dn) (sz:Nat):SV τ dn->Option (List Prop×Ct τ dn)
 | .rw t r=>match st.jv t with
  |some A=>if D.sz t=sz then some ([r.ok A], .ty t (r.get A)) else none
  |none=>none
 |v=>(st.cont D sz v).map fun c=>([],c)
def pH (st:SS τ dn):AO->Option (SR τ dn)
 | .load m x=>match st.ev x with
  |some (.eg t r i o)=>match st.jv t with
   |some A=>(pC (D.es t (gd (D.df t) (r.get A) i)) o m).map (.val [r.ok A,i<(r.get A).length])
   |none=>none
  |_=>none
 | .store n x y=>match st.ev x,st.ev y with
  |some (.eg t r i o),some y=>match st.jv t with
   |some A=>if (y.cells.length=n/\y.kx=true/\y.cells.all SV.one=true)/\o+n<=D.sz t/\st.rw 0=true/\D.sj t (qK (D.es t (gd (D.df t) (r.get A) i)) o y.cells)=true then (match D.ds t (qK (D.es t (gd (D.df t) (r.get A) i)) o y.cells) with
    |some z=>some (.gT [r.bF A,i<(r.get A).length] (.vo undef) r.id t ((r.get A).set i z) A)
    |none=>none) else none
   |none=>none
  |_,_=>none
 | .nilc x=>match st.ev x with
  |some (.eg t r i o)=>match st.jv t with
   |some A=>some (.val [r.ok A,i<(r.get A).length] (.eg t r i o))
   |none=>none
  |_=>none
 | .fad off x=>match st.ev x with
  |some (.eg t r i o)=>match st.jv t with
   |some A=>some (.val [r.ok A,i<(r.get A).length] (.eg t r i (o+off)))
   |none=>none
  |_=>none
 | .iad sz x y=>match st.ev x,st.ev y with
  |some (.rw t r),some b=>match st.jv t,b.int with
   |some A,some (n,_)=>if D.sz t=sz then some (.val [r.ok A,0<=n/\n<(r.get A).length] (.eg t r n.toNat 0)) else none
   |_,_=>none
  |_,_=>none
 | .len false x=>match st.ev x with
  |some (.rw t r)=>match st.jv t with
   |some A=>some (.val [r.ok A] (.vi ((r.get A).length:Int)))
   |none=>none
  |_=>none
 | .cpy sz x y=>match st.ev x,st.ev y with
  |some (.rw t r),some b=>match st.jv t,wN D st sz b with
   |some A,some (O, .ty t' ys)=>if h:t'=t then (if D.sz t=sz/\st.rw 0=true then some (.gT (O++[r.bF A]) (.vi ((min ys.length (r.get A).length:Nat):Int)) r.id t (((h▸ys):List (dn t)).take (r.get A).length++(r.get A).drop (min ys.length (r.get A).length)) A) else none) else none
   |_,_=>none
  |_,_=>none
 |_=>none
end
section
variable {τ:Type} {dn:τ->Type} {D:TD τ dn} {N:aL} {st:SS τ dn} {σ:Nat->AV} {g:Nat->Option Bk} [DecidableEq τ]
theorem pI (R:bN D N st σ g) {t:τ} {A:List (Nat×List (dn t))} (h:st.jv t=some A) {r:Row (dn t)} (hr:r.ok A) (hk:r.kd= .own):r.get A=bk A r.id/\r.n=(r.get A).length/\g r.id=some ⟨D.sz t,(r.get A).map (D.ea N.ρ t)⟩:=by
 unfold Row.ok at hr
 rw [hk] at hr
 have e:r.get A=bk A r.id:=by unfold Row.get;rw [hk]
 rw [e]
 exact ⟨rfl,hr.2.symm,R.ar t A (jX (qO h)) _ hr.1⟩
theorem tY (hk:r.kd= .nil):r.get A=[]:=by unfold Row.get;rw [hk]
theorem sr (hk:r.kd= .aV):r.get A=r.xs:=by unfold Row.get;rw [hk]
theorem Row.bF.ok {α:Type} {A:List (Nat×List α)} {r:Row α} (h:r.bF A):r.ok A:=by unfold Row.ok;rw [h.1];exact h.2
theorem W1 (R:bN D N st σ g) {sz:Nat} {v:SV τ dn} {O:List Prop} {c:Ct τ dn} (h:wN D st sz v=some (O,c)) (hO:∀p,p∈O->p):(content sz (v.av D.toTE N)).run g=some (c.els D N)/\(∀t xs,c= .ty t xs->D.sz t=sz):=by
 have other:∀{v:SV τ dn},((st.cont D sz v).map fun c=>(([]:List Prop),c))=some (O,c)->(content sz (v.av D.toTE N)).run g=some (c.els D N)/\(∀t xs,c= .ty t xs->D.sz t=sz):=fun h=>by
  simp only [aeM,aeX] at h
  obtain ⟨c',h1,_,rfl⟩:=h
  exact sq R h1
 cases v with
 |rw t r=>
  simp only [wN] at h
  split at h
  ·rename_i A hA
   split at h
   ·rename_i hs
    simp only [aeF,aeX] at h
    obtain ⟨rfl,rfl⟩:=h
    simp only [aeP,aeZ] at hO
    refine ⟨?_,fun t' ys e=>by simp only [Ct.ty.injEq] at e;obtain ⟨rfl,_⟩:=e;exact hs⟩
    cases hk:r.kd with
    |nil=>simp only [SV.av,hk,content,RM.run,Ct.els,tY hk,afh]
    |aV=>simp only [SV.av,hk,content,hs,aeI,RM.run,Ct.els,sr hk]
    |own=>
     obtain ⟨e1,e2,e3⟩:=pI R hA hO hk
     simp only [SV.av,hk,content,RM.run,e3,hs,e2,aeW,aeS,aeO,ae5,aeI,agy,Ct.els]
     rw [afA (by simp)]
   ·simp at h
  ·simp at h
 |_=>exact other h
theorem W2 (ok:bE D) (R:bN D N st σ g) {r:SR τ dn} (h:pH D st ao=some r):r.Good D N st.nx σ g ao:=by
 intro k hO hf
 cases ao<;>simp only [pH,reduceCtorEq] at h
 case load m x=>
  split at h
  case h_2=>simp at h
  rename_i t q i o hx
  split at h
  case h_2=>simp at h
  rename_i A hA
  simp only [aeM] at h;obtain ⟨w,hw,rfl⟩:=h
  simp only [SR.O,aeQ,afN,or_false,agj,aeZ] at hO
  have hq:=tX (D:=D) (N:=N) hw
  rw [ok.dD] at hq
  cases hk:q.kd with
  |nil=>rw [tY hk] at hO;simp at hO
  |aV=>
   rw [sr hk] at hq hO
   simp only [AO.aq,R.ev hx,SV.av,hk,jW (d:=D.df t) hO.2,hq,aeT,RM.opt,RM.run,SR.v,SR.ups]
  |own=>
   obtain ⟨e1,e2,e3⟩:=pI R hA hO.1 hk
   simp only [AO.aq,R.ev hx,SV.av,hk,RM.run,e3,aeI,aeY,jW (d:=D.df t) hO.2,aeT,afV,hq,RM.opt,SR.v,SR.ups]
 case store n x y=>
  split at h
  case h_2=>simp at h
  rename_i t q i o b hx hy
  split at h
  case h_2=>simp at h
  rename_i A hA
  split at h
  case isFalse=>simp at h
  rename_i hc
  split at h
  case h_2=>simp at h
  rename_i z hz
  simp only [aeF] at h;subst h
  simp only [SR.O,aeQ,afN,or_false,agj,aeZ] at hO
  have cX:=SV.wh (E:=D.toTE) (N:=N) hc.1.2.1
  have fk:=zY (D:=D) (N:=N) hc.1.2.2
  obtain ⟨e1,e2,e3⟩:=pI R hA hO.1.ok hO.1.1
  have he:=ok.fX N t _ z hz hc.2.2.2
  rw [zX,ok.dD] at he
  simp only [AO.aq,R.ev hx,R.ev hy,SV.av,hO.1.1,RM.run,e3,cX,aeS,hc.1.1,fk,hc.2.1,ae5,aeI,aeY,jW (d:=D.df t) hO.2,aeT,SR.v,SR.ups,he,af9]
 case nilc x=>
  split at h
  case h_2=>simp at h
  rename_i t q i o hx
  split at h
  case h_2=>simp at h
  rename_i A hA
  simp only [aeF] at h;subst h
  simp only [SR.O,aeQ,afN,or_false,agj,aeZ] at hO
  cases hk:q.kd with
  |nil=>rw [tY hk] at hO;simp at hO
  |aV=>rw [sr hk] at hO;simp only [AO.aq,R.ev hx,SV.av,hk,jW (d:=D.df t) hO.2,RM.run,SR.v,SR.ups]
  |own=>
   obtain ⟨e1,e2,e3⟩:=pI R hA hO.1 hk
   simp only [AO.aq,R.ev hx,SV.av,hk,RM.run,e3,SR.v,SR.ups]
 case fad off x=>
  split at h
  case h_2=>simp at h
  rename_i t q i o hx
  split at h
  case h_2=>simp at h
  rename_i A hA
  simp only [aeF] at h;subst h
  simp only [SR.O,aeQ,afN,or_false,agj,aeZ] at hO
  cases hk:q.kd with
  |nil=>rw [tY hk] at hO;simp at hO
  |aV=>rw [sr hk] at hO;simp only [AO.aq,R.ev hx,SV.av,hk,jW (d:=D.df t) hO.2,RM.run,SR.v,SR.ups]
  |own=>
   obtain ⟨e1,e2,e3⟩:=pI R hA hO.1 hk
   simp only [AO.aq,R.ev hx,SV.av,hk,RM.run,e3,SR.v,SR.ups]
 case iad sz x y=>
  split at h
  case h_2=>simp at h
  rename_i t q b hx hy
  split at h
  case h_2=>simp at h
  rename_i A n l hA hb
  split at h
  case isFalse=>simp at h
  rename_i hs
  simp only [aeF] at h;subst h
  simp only [SR.O,aeQ,afN,or_false,agj,aeZ] at hO
  have hl:n.toNat<(q.get A).length:=by omega
  cases hk:q.kd with
  |nil=>rw [tY hk] at hl;simp at hl
  |aV=>
   rw [sr hk] at hl
   simp only [AO.aq,R.ev hx,R.ev hy,gU hb,SV.av,hk,hs,hO.2.1,ae5,aeI,aeY,jW (d:=D.df t) hl,aeT,RM.opt,RM.run,SR.v,SR.ups]
  |own=>
   obtain ⟨e1,e2,e3⟩:=pI R hA hO.1 hk
   have:n<(q.n:Int):=by rw [e2];exact hO.2.2
   simp only [AO.aq,R.ev hx,R.ev hy,gU hb,SV.av,hk,hs,hO.2.1,this,ae5,aeI,RM.run,e3,SR.v,SR.ups,aeW]
 case len s x=>
  cases s with
  |true=>simp at h
  |false=>
   simp only at h
   split at h
   case h_2=>simp at h
   rename_i t q hx
   split at h
   case h_2=>simp at h
   rename_i A hA
   simp only [aeF] at h;subst h
   simp only [SR.O,aeP,aeZ] at hO
   cases hk:q.kd with
   |nil=>simp only [AO.aq,R.ev hx,SV.av,hk,RM.run,SR.v,SR.ups,goInt,tY hk,List.length_nil];rfl
   |aV=>simp only [AO.aq,R.ev hx,SV.av,hk,RM.run,SR.v,SR.ups,goInt,sr hk,aeS]
   |own=>
    obtain ⟨e1,e2,e3⟩:=pI R hA hO hk
    simp only [AO.aq,R.ev hx,SV.av,hk,RM.run,e3,SR.v,SR.ups,goInt,e2]
 case cpy sz x y=>
  split at h
  case h_2=>simp at h
  rename_i t q b hx hy
  split at h
  case h_2=>simp at h
  rename_i A O t' ys hA fN
  split at h
  case isFalse=>simp at h
  rename_i ht
  subst ht
  split at h
  case isFalse=>simp at h
  rename_i hs
  simp only [aeF] at h;subst h
  simp only [SR.O,afc,aeP] at hO
  have hm:=hO _ (.inr rfl)
  obtain ⟨c1,c2⟩:=W1 R fN fun p hp=>hO p (.inl hp)
  obtain ⟨e1,e2,e3⟩:=pI R hA hm.ok hm.1
  have e0:(AO.aq k (aR σ) (.cpy sz x y)).run g=_:=eW (by rw [R.ev hy];exact c1)
  rw [e0,R.ev hx]
  simp only [SV.av,hm.1,RM.run,e3,hs.1,e2,aeS,aeW,aeO,ae5,aeI,Ct.els,SR.v,SR.ups,List.take_zero,List.nil_append,goInt,afp,List.map_take,List.map_drop]
theorem W3 (R:bN D N st σ g) {r:SR τ dn} (h:pH D st ao=some r) (hO:∀p,p∈r.O->p) {v:SV τ dn} (hx:x∈ao.lk) (hv:st.ev x=some v) (hr:v.isRw=true):∀id,id∈(match v.av D.toTE N with| .own id _ _ _| .ref id _ _ _| .mp id=>[id]|_=>[])->∃t A,st.gm 0=some (.ar t A)/\cz A id:=by
 have z7:∀{t:τ} {A:List (Nat×List (dn t))} {q:Row (dn t)},st.jv t=some A->q.ok A->v= .rw t q->∀id,id∈(match v.av D.toTE N with| .own id _ _ _| .ref id _ _ _| .mp id=>[id]|_=>[])->∃t A,st.gm 0=some (.ar t A)/\cz A id:=by
  rintro t A q hA hq rfl id hid
  cases hk:q.kd with
  |nil=>simp [SV.av,hk] at hid
  |aV=>simp [SV.av,hk] at hid
  |own=>
   simp only [SV.av,hk,aeP] at hid
   unfold Row.ok at hq
   rw [hk] at hq
   exact ⟨t,A,qO hA,hid▸hq.1⟩
 have z8:∀{t:τ} {A:List (Nat×List (dn t))} {q:Row (dn t)} {i o:Nat},st.jv t=some A->q.ok A->v= .eg t q i o->∀id,id∈(match v.av D.toTE N with| .own id _ _ _| .ref id _ _ _| .mp id=>[id]|_=>[])->∃t A,st.gm 0=some (.ar t A)/\cz A id:=by
  rintro t A q i o hA hq rfl id hid
  cases hk:q.kd with
  |nil=>simp [SV.av,hk] at hid
  |aV=>
   simp only [SV.av,hk] at hid
   exfalso
   revert hid
   cases q.xs[i]? <;>simp
  |own=>
   simp only [SV.av,hk,aeP] at hid
   unfold Row.ok at hq
   rw [hk] at hq
   exact ⟨t,A,qO hA,hid▸hq.1⟩
 cases ao<;>simp only [pH,reduceCtorEq] at h<;>simp only [AO.lk,aeP,aeQ,afN,or_false] at hx
 case load m x'=>
  subst hx
  rw [hv] at h
  split at h
  case h_2=>simp at h
  rename_i t q i o he
  simp only [aeF] at he
  split at h
  case h_2=>simp at h
  rename_i A hA
  simp only [aeM] at h;obtain ⟨w,hw,rfl⟩:=h
  exact z8 hA (hO _ (by simp [SR.O])) he
 case store n x' y=>
  subst hx
  rw [hv] at h
  split at h
  case h_2=>simp at h
  rename_i t q i o b he hy
  simp only [aeF] at he
  split at h
  case h_2=>simp at h
  rename_i A hA
  split at h
  case isFalse=>simp at h
  split at h
  case h_2=>simp at h
  simp only [aeF] at h;subst h
  exact z8 hA (hO _ (afo ..):q.bF A).ok he
 case nilc x'=>
  subst hx
  rw [hv] at h
  split at h
  case h_2=>simp at h
  rename_i t q i o he
  simp only [aeF] at he
  split at h
  case h_2=>simp at h
  rename_i A hA
  simp only [aeF] at h;subst h
  exact z8 hA (hO _ (by simp [SR.O])) he
 case fad off x'=>
  subst hx
  rw [hv] at h
  split at h
  case h_2=>simp at h
  rename_i t q i o he
  simp only [aeF] at he
  split at h
  case h_2=>simp at h
  rename_i A hA
  simp only [aeF] at h;subst h
  exact z8 hA (hO _ (by simp [SR.O])) he
 case iad sz x' y=>
  subst hx
  rw [hv] at h
  split at h
  case h_2=>simp at h
  rename_i t q b he hy
  simp only [aeF] at he
  split at h
  case h_2=>simp at h
  rename_i A n l hA hb
  split at h
  case isFalse=>simp at h
  simp only [aeF] at h;subst h
  exact z7 hA (hO _ (by simp [SR.O])) he
 case len s x'=>
  subst hx
  cases s with
  |true=>simp at h
  |false=>
   simp only at h
   rw [hv] at h
   split at h
   case h_2=>simp at h
   rename_i t q he
   simp only [aeF] at he
   split at h
   case h_2=>simp at h
   rename_i A hA
   simp only [aeF] at h;subst h
   exact z7 hA (hO _ (by simp [SR.O])) he
 case cpy sz x' y=>
  split at h
  case h_2=>simp at h
  rename_i t q b eH hy
  split at h
  case h_2=>simp at h
  rename_i A O t' ys hA fN
  split at h
  case isFalse=>simp at h
  rename_i ht
  subst ht
  split at h
  case isFalse=>simp at h
  simp only [aeF] at h;subst h
  simp only [SR.O,afc,aeP] at hO
  rcases hx with rfl|rfl
  ·rw [hv] at hy
   simp only [aeF] at hy;subst hy
   cases v with
   |rw t2 q2=>
    simp only [wN] at fN
    split at fN
    ·rename_i A2 W4
     split at fN
     ·simp only [aeF,aeX] at fN
      obtain ⟨rfl,_⟩:=fN
      exact z7 W4 (hO _ (.inl (aeP.2 rfl))) rfl
     ·simp at fN
    ·simp at fN
   |eg t2 q2 i o=>simp [wN,SS.cont] at fN
   |_=>simp [SV.isRw] at hr
  ·rw [hv] at eH
   simp only [aeF] at eH
   exact z7 hA (hO _ (.inr rfl):q.bF A).ok eH
end
open Go.RowKit
def aL.agree (n:Nat) (N N':aL):Prop:=(∀a,a<n->N'.ι a=N.ι a/\N'.ln a=N.ln a)/\N'.ρ=N.ρ
theorem aL.gn (n:Nat) (N:aL):N.agree n N:=⟨fun _ _=>⟨rfl,rfl⟩,rfl⟩
theorem aL.iq {m:Nat} {N' cT:aL} (h:N.agree n N') (k:N'.agree m cT) (hm:n<=m):N.agree n cT:=
 ⟨fun a ha=>⟨((k.1 a (by omega)).1).trans (h.1 a ha).1,((k.1 a (by omega)).2).trans (h.1 a ha).2⟩,k.2.trans h.2⟩
def aL.eN (N:aL) (nm id ln:Nat):aL:=⟨fun a=>if a=nm then id else N.ι a,fun a=>if a=nm then ln else N.ln a,N.ρ⟩
theorem aL.pJ (N:aL) (nm id ln:Nat):N.agree nm (N.eN nm id ln):=
 ⟨fun a ha=>⟨aeE (by omega),aeE (by omega)⟩,rfl⟩
section
variable {τ:Type} {dn:τ->Type} {D:TD τ dn}
structure Rel (D:TD τ dn) (N:aL) (st:SS τ dn) (s:S3):Prop where
 at_:∀N',N.agree st.nx N'->bN D N' st s.σ s.g
 inj:∀a b,a<st.nx->b<st.nx->N.ι a=N.ι b->a=b
 lt:∀a,a<st.nx->N.ι a<s.k
 ml:∀nm B,getS st.m nm=some B->nm<st.nx
 rl:∀nm B,getS st.rm nm=some B->nm<st.nx
 sp:∀t A,st.cg 0 (.ar t A)->∀id,cz A id->id<s.k/\∀nm B,st.cg nm B->N.ι nm≠id
theorem Rel.here {st:SS τ dn} {s:S3} (R:Rel D N st s):bN D N st s.σ s.g:=R.at_ N (N.gn _)
def dstS (n:Nat) (rt:List (Nat×SV τ dn)):Option Nat->Bool
 |none=>true
 |some d=>Nat.blt d n&&(getS rt d).isNone
def kM (t:List (Nat×SV τ dn)):Option Nat->SV τ dn->List (Nat×SV τ dn)
 |none,_=>t
 |some d,v=>(d,v)::t
theorem bG {v:α} {r:List (Nat×α)}:getS ((j,v)::r) i=if i=j then some v else getS r i:=by
 simp only [getS]
 by_cases h:i=j
 ·subst h;simp
 ·have:Nat.beq i j=false:=by
   cases hb:Nat.beq i j with
   |false=>rfl
   |true=>exact absurd (aeU hb) h
  simp [this,h]
theorem qP {rt t:List (Nat×SV τ dn)} {v:SV τ dn} {a:AV} (hd:dstS n rt d=true)
  (h1:∀i v,getS t i=some v->σ i=v.av D.toTE N) (h2:∀i v,getS rt i=some v->σ i=v.av D.toTE N) (ha:a=v.av D.toTE N):
  (∀i w,getS (kM t d v) i=some w->cy n d a σ i=w.av D.toTE N)/\(∀i w,getS rt i=some w->cy n d a σ i=w.av D.toTE N):=by
 cases d with
 |none=>exact ⟨fun i w h=>by simp only [cy];rw [aeE (by simp)];exact h1 i w h,fun i w h=>by simp only [cy];rw [aeE (by simp)];exact h2 i w h⟩
 |some d=>
  simp only [dstS,aeH] at hd
  have mf:d<n:=afv hd.1
  refine ⟨fun i w h=> ?_,fun i w h=> ?_⟩
  ·simp only [kM,bG] at h
   simp only [cy,aeF]
   by_cases hi:i=d
   ·subst hi
    rw [aeG rfl,aeF] at h
    rw [aeG ⟨rfl,mf⟩,ha,h]
   ·rw [aeE hi] at h
    rw [aeE (fun hh=>hi hh.1.symm)];exact h1 i w h
  ·simp only [cy,aeF]
   have hi:¬d=i:=fun e=>by subst e;rw [h] at hd;simp at hd
   rw [aeE (fun hh=>hi hh.1)];exact h2 i w h
def SR.st (st:SS τ dn) (d:Option Nat):SR τ dn->SS τ dn
 | .val _ v=>⟨st.rt,st.rm,kM st.t d v,st.m,st.nx⟩
 | .new _ v B=>⟨st.rt,st.rm,kM st.t d v,(st.nx,some B)::st.m,st.nx+1⟩
 | .put _ v nm B=>⟨st.rt,st.rm,kM st.t d v,(nm,some B)::st.m,st.nx⟩
 | .mov _ v bh B=>⟨st.rt,st.rm,kM st.t d v,(st.nx,some B)::(bh,none)::st.m,st.nx+1⟩
 | .ju _ v ns=>⟨st.rt,st.rm,kM st.t d v,(ns.map fun a=>(a,none))++st.m,st.nx⟩
 | .gT _ v id t row A=>⟨st.rt,st.rm,kM st.t d v,(0,some (.ar t ((id,row)::A)))::st.m,st.nx⟩
def SR.keys (st:SS τ dn):SR τ dn->List Nat
 | .val _ _=>[]
 | .new _ _ _=>[st.nx]
 | .put _ _ nm _=>[nm]
 | .mov _ _ bh _=>[bh,st.nx]
 | .ju _ _ ns=>ns
 | .gT _ _ _ _ _ _=>[0]
def SR.may (D:TD τ dn) (N:aL) (st:SS τ dn):SR τ dn->Prop
 | .put _ _ nm B=>(∃B0,getS st.m nm=some (some B0)/\N.ln nm=B.len)/\getS st.rm nm=none/\B.lD=false
 | .mov _ _ bh B=>(∃B0,getS st.m bh=some (some B0))/\getS st.rm bh=none/\B.lD=false
 | .ju _ _ ns=>∀a,a∈ns->(∃B0,getS st.m a=some (some B0))/\getS st.rm a=none
 | .new _ _ B=>B.lD=false
 | .gT _ _ id t _ A=>getS st.m 0=some (some (.ar t A))/\getS st.rm 0=none/\cz A id
 | .val _ _=>True
def SR.up (N:aL) (st:SS τ dn) (k:Nat):SR τ dn->aL
 | .new _ _ B| .mov _ _ _ B=>N.eN st.nx k B.len
 |_=>N
def SR.k1 (k:Nat):SR τ dn->Nat
 | .new _ _ _| .mov _ _ _ _=>k+1
 |_=>k
theorem wO:∀(l:List Nat) (g:Nat->Option Bk) (id:Nat),aJ g (l.map fun i=>(i,none)) id=if id∈l then none else g id
 |[],g,id=>by simp [aJ]
 |a::r,g,id=>by
  rw [aeR,aJ,wO r]
  by_cases h1:id∈r<;>by_cases h2:id=a<;>simp [h1,h2]
theorem wP {α:Type} {m:List (Nat×Option α)}:∀{ns:List Nat} {i:Nat} {B:Option α},getS ((ns.map fun a=>(a,none))++m) i=some B->(i∈ns/\B=none)\/(¬i∈ns/\getS m i=some B)
 |[],i,B,h=> .inr ⟨by simp,h⟩
 |a::r,i,B,h=>by
  rw [aeR,afZ,bG] at h
  by_cases hi:i=a
  ·rw [aeG hi,aeF] at h;exact .inl ⟨by simp [hi],h.symm⟩
  ·rw [aeE hi] at h
   rcases wP h with ⟨h1,h2⟩|⟨h1,h2⟩
   ·exact .inl ⟨by simp [h1],h2⟩
   ·exact .inr ⟨by simp [hi,h1],h2⟩
theorem Kg {rt rt' t t':List (Nat×SV τ dn)} {rm m:List (Nat×Option (SB τ dn))} {nx nx' fY:Nat} {x:Option (SB τ dn)} (nm:Nat):(⟨rt,rm,t,(fY,x)::m,nx⟩:SS τ dn).gm nm=if nm=fY then x else (⟨rt',rm,t',m,nx'⟩:SS τ dn).gm nm:=by
 unfold SS.gm
 simp only [bG]
 by_cases h:nm=fY
 ·rw [aeG h,aeG h]
 ·rw [aeE h,aeE h]
theorem qQ {st:SS τ dn} {x:Option (SB τ dn)} (h:getS st.m nm=some x):st.gm nm=x:=by unfold SS.gm;rw [h]
theorem Rel.go {st:SS τ dn} {s:S3} (R:Rel D N st s) (hd:dstS n st.rt d=true) {r:SR τ dn} (hm:r.may D N st) {val:AV} (hv:∀N',(r.up N st s.k).agree (r.st st d).nx N'->val=r.v.av D.toTE N') {ups:List (Nat×Option Bk)} (hu:∀N',(r.up N st s.k).agree (r.st st d).nx N'->ups=r.ups D N' s.k):
  Rel D (r.up N st s.k) (r.st st d) ⟨cy n d val s.σ,aJ s.g ups,r.k1 s.k⟩:=by
 have Kh:∀(N':aL) (nm:Nat) (B:SB τ dn) (id:Nat) (x:Option Bk),getS st.rm nm=some (some B)->bN D N' st s.σ s.g->¬N'.ι nm=id->(if N'.ι nm=id then x else s.g (N'.ι nm))=some (B.av D.toTE N')/\N'.ln nm=B.len:=fun N' nm B id x h A aI=>by rw [aeE aI];exact A.rb nm B h
 cases r with
 |val O v=>
  refine ⟨fun N' hN=> ?_,R.inj,R.lt,R.ml,R.rl,R.sp⟩
  have A:=R.at_ N' hN
  obtain ⟨q1,q2⟩:=qP (D:=D) (n:=n) (v:=v) (a:=val) hd A.sl A.rs (hv N' hN)
  have e:=hu N' hN
  simp only [SR.ups] at e
  subst e
  exact ⟨q1,q2,A.bl,A.rb,A.ar⟩
 |new O v B=>
  have fO:∀N',(N.eN st.nx s.k B.len).agree (st.nx+1) N'->N.agree st.nx N'/\N'.ι st.nx=s.k/\N'.ln st.nx=B.len:=fun N' hN=>by
   refine ⟨aL.iq (N.pJ st.nx s.k B.len) hN (by omega), ?_, ?_⟩
   ·rw [(hN.1 st.nx (by omega)).1];exact aeG rfl
   ·rw [(hN.1 st.nx (by omega)).2];exact aeG rfl
  have np:∀t A,(SR.st st d (SR.new O v B:SR τ dn)).cg 0 (.ar t A)->st.cg 0 (.ar t A):=fun t A h=>by
   rcases h with h|h
   ·simp only [SR.st,bG] at h
    by_cases h0:0=st.nx
    ·rw [aeG h0,aeF,aeF] at h
     have eZ:B.lD=false:=hm
     subst h;simp [SB.lD] at eZ
    ·rw [aeE h0] at h;exact .inl h
   ·exact .inr h
  refine ⟨fun N' hN=> ?_,fun a b ha hb he=> ?_,fun a ha=> ?_,fun nm B' h=> ?_,fun nm B' h=>ags (R.rl nm B' h),fun t A h id hid=> ?_⟩
  ·obtain ⟨h1,h2,h3⟩:=fO N' hN
   have A:=R.at_ N' h1
   obtain ⟨q1,q2⟩:=qP (D:=D) (n:=n) (v:=v) (a:=val) hd A.sl A.rs (hv N' hN)
   have e:=hu N' hN
   simp only [SR.ups] at e
   subst e
   have aI:∀nm,nm<st.nx->¬N'.ι nm=s.k:=fun nm iY he=>by
    rw [(h1.1 nm iY).1] at he;have:=R.lt nm iY;omega
   refine ⟨q1,q2,fun nm B' h=> ?_,fun nm B' h=> ?_,fun t A' h id hid=> ?_⟩
   ·simp only [SR.st,bG] at h
    simp only [aJ]
    by_cases hn:nm=st.nx
    ·subst hn
     rw [aeG rfl,aeF,aeF] at h
     subst h
     rw [aeG h2];exact ⟨rfl,h3⟩
    ·rw [aeE hn] at h
     rw [aeE (aI nm (R.ml nm _ h))];exact A.bl nm B' h
   ·simp only [aJ];exact Kh N' nm B' _ _ h A (aI nm (R.rl nm _ h))
   ·have h':=np t A' h
    simp only [aJ]
    rw [aeE (fun e=>by have:=(R.sp t A' h' id hid).1;omega)]
    exact A.ar t A' h' id hid
  ·simp only [SR.st] at ha hb
   simp only [SR.up,aL.eN] at he
   by_cases h1:a=st.nx<;>by_cases h2:b=st.nx
   ·rw [h1,h2]
   ·rw [aeG h1,aeE h2] at he;have:=R.lt b (by omega);omega
   ·rw [aeE h1,aeG h2] at he;have:=R.lt a (by omega);omega
   ·rw [aeE h1,aeE h2] at he;exact R.inj a b (by omega) (by omega) he
  ·simp only [SR.st] at ha
   simp only [SR.up,aL.eN,SR.k1]
   by_cases h1:a=st.nx
   ·rw [aeG h1];omega
   ·rw [aeE h1];have:=R.lt a (by omega);omega
  ·simp only [SR.st,bG] at h ⊢
   by_cases hn:nm=st.nx
   ·omega
   ·rw [aeE hn] at h;have:=R.ml nm _ h;omega
  ·have h':=np t A h
   obtain ⟨h1,h2⟩:=R.sp t A h' id hid
   refine ⟨ags h1,fun nm B' aW=> ?_⟩
   simp only [SR.up,aL.eN]
   by_cases hn:nm=st.nx
   ·rw [aeG hn];omega
   ·rw [aeE hn]
    simp only [SS.cg,SR.st,bG] at aW
    rw [aeE hn] at aW
    exact h2 nm B' aW
 |put O v fY B=>
  obtain ⟨⟨B0,dp,bJ⟩,tK,Et⟩:=hm
  have h0:=R.ml fY _ dp
  have np:∀t A,(SR.st st d (SR.put O v fY B:SR τ dn)).cg 0 (.ar t A)->st.cg 0 (.ar t A):=fun t A h=>by
   rcases h with h|h
   ·simp only [SR.st,bG] at h
    by_cases h1:0=fY
    ·rw [aeG h1,aeF,aeF] at h
     subst h;simp [SB.lD] at Et
    ·rw [aeE h1] at h;exact .inl h
   ·exact .inr h
  refine ⟨fun N' hN=> ?_,R.inj,R.lt,fun nm B' h=> ?_,R.rl,fun t A h id hid=> ?_⟩
  ·have A:=R.at_ N' hN
   obtain ⟨q1,q2⟩:=qP (D:=D) (n:=n) (v:=v) (a:=val) hd A.sl A.rs (hv N' hN)
   have e:=hu N' hN
   simp only [SR.ups] at e
   subst e
   have aI:∀nm,nm<st.nx->¬nm=fY->¬N'.ι nm=N'.ι fY:=fun nm iY hx he=>by
    rw [(hN.1 nm iY).1,(hN.1 fY h0).1] at he;exact hx (R.inj _ _ iY h0 he)
   refine ⟨q1,q2,fun nm B' h=> ?_,fun nm B' h=> ?_,fun t A' h id hid=> ?_⟩
   ·simp only [SR.st,bG] at h
    simp only [aJ]
    by_cases hn:nm=fY
    ·subst hn
     rw [aeG rfl,aeF,aeF] at h
     subst h
     rw [aeG rfl];exact ⟨rfl,by rw [(hN.1 nm h0).2];exact bJ⟩
    ·rw [aeE hn] at h
     rw [aeE (aI nm (R.ml nm _ h) hn)];exact A.bl nm B' h
   ·simp only [aJ]
    have h':getS st.rm nm=some (some B'):=h
    by_cases hn:nm=fY
    ·subst hn;rw [tK] at h';simp at h'
    ·exact Kh N' nm B' _ _ h' A (aI nm (R.rl nm _ h') hn)
   ·have h':=np t A' h
    simp only [aJ]
    rw [aeE (fun e=>(R.sp t A' h' id hid).2 fY B0 (.inl dp) (((hN.1 fY h0).1).symm.trans e.symm))]
    exact A.ar t A' h' id hid
  ·simp only [SR.st,bG] at h ⊢
   by_cases hn:nm=fY
   ·subst hn;exact h0
   ·rw [aeE hn] at h;exact R.ml nm _ h
  ·obtain ⟨h1,h2⟩:=R.sp t A (np t A h) id hid
   refine ⟨h1,fun nm B' aW=> ?_⟩
   simp only [SS.cg,SR.st,bG] at aW
   by_cases hn:nm=fY
   ·subst hn;exact h2 nm B0 (.inl dp)
   ·rw [aeE hn] at aW;exact h2 nm B' aW
 |ju O v ns=>
  have hal:∀nm B',(SR.st st d (SR.ju O v ns:SR τ dn)).cg nm B'->st.cg nm B':=fun nm B' h=>by
   rcases h with h|h
   ·rcases wP h with ⟨_,h2⟩|⟨_,h2⟩
    ·simp at h2
    ·exact .inl h2
   ·exact .inr h
  have np:∀t A,(SR.st st d (SR.ju O v ns:SR τ dn)).cg 0 (.ar t A)->st.cg 0 (.ar t A):=fun t A h=>hal 0 _ h
  refine ⟨fun N' hN=> ?_,R.inj,R.lt,fun nm B' h=> ?_,R.rl,fun t A h id hid=> ?_⟩
  ·have A:=R.at_ N' hN
   obtain ⟨q1,q2⟩:=qP (D:=D) (n:=n) (v:=v) (a:=val) hd A.sl A.rs (hv N' hN)
   have e:=hu N' hN
   simp only [SR.ups] at e
   subst e
   have aI:∀nm,nm<st.nx->¬nm∈ns->¬N'.ι nm∈ns.map N'.ι:=fun nm iY hx he=>by
    obtain ⟨a,ha,e⟩:=ae2.1 he
    obtain ⟨⟨B0,dp⟩,_⟩:=hm a ha
    have h0:=R.ml a _ dp
    rw [(hN.1 nm iY).1,(hN.1 a h0).1] at e
    have:=R.inj _ _ h0 iY e
    subst this;exact hx ha
   refine ⟨q1,q2,fun nm B' h=> ?_,fun nm B' h=> ?_,fun t A' h id hid=> ?_⟩
   ·rcases wP h with ⟨_,h2⟩|⟨h1,h2⟩
    ·simp at h2
    ·show aJ s.g _ _=_/\_
     rw [wO,aeE (aI nm (R.ml nm _ h2) h1)];exact A.bl nm B' h2
   ·have h':getS st.rm nm=some (some B'):=h
    have hx:¬nm∈ns:=fun hh=>by have:=(hm nm hh).2;rw [this] at h';simp at h'
    show aJ s.g _ _=_/\_
    rw [wO,aeE (aI nm (R.rl nm _ h') hx)];exact A.rb nm B' h'
   ·have h':=np t A' h
    show aJ s.g _ _=_
    rw [wO,aeE]
    ·exact A.ar t A' h' id hid
    ·intro c9
     obtain ⟨a,ha,e⟩:=ae2.1 c9
     obtain ⟨⟨B0,dp⟩,_⟩:=hm a ha
     exact (R.sp t A' h' id hid).2 a B0 (.inl dp) (((hN.1 a (R.ml a _ dp)).1).symm.trans e)
  ·rcases wP h with ⟨h1,h2⟩|⟨h1,h2⟩
   ·obtain ⟨⟨B0,dp⟩,_⟩:=hm nm h1
    exact R.ml nm _ dp
   ·exact R.ml nm _ h2
  ·obtain ⟨h1,h2⟩:=R.sp t A (np t A h) id hid
   exact ⟨h1,fun nm B' aW=>h2 nm B' (hal nm B' aW)⟩
 |mov O v bh B=>
  obtain ⟨⟨B0,dp⟩,tK,Et⟩:=hm
  have h0:=R.ml bh _ dp
  have fO:∀N',(N.eN st.nx s.k B.len).agree (st.nx+1) N'->N.agree st.nx N'/\N'.ι st.nx=s.k/\N'.ln st.nx=B.len:=fun N' hN=>by
   refine ⟨aL.iq (N.pJ st.nx s.k B.len) hN (by omega), ?_, ?_⟩
   ·rw [(hN.1 st.nx (by omega)).1];exact aeG rfl
   ·rw [(hN.1 st.nx (by omega)).2];exact aeG rfl
  have np:∀t A,(SR.st st d (SR.mov O v bh B:SR τ dn)).cg 0 (.ar t A)->st.cg 0 (.ar t A):=fun t A h=>by
   rcases h with h|h
   ·simp only [SR.st,bG] at h
    by_cases h1:0=st.nx
    ·rw [aeG h1,aeF,aeF] at h
     subst h;simp [SB.lD] at Et
    ·rw [aeE h1] at h
     by_cases h2:0=bh
     ·rw [aeG h2] at h;simp at h
     ·rw [aeE h2] at h;exact .inl h
   ·exact .inr h
  refine ⟨fun N' hN=> ?_,fun a b ha hb he=> ?_,fun a ha=> ?_,fun nm B' h=> ?_,fun nm B' h=>ags (R.rl nm B' h),fun t A h id hid=> ?_⟩
  ·obtain ⟨h1,h2,h3⟩:=fO N' hN
   have A:=R.at_ N' h1
   obtain ⟨q1,q2⟩:=qP (D:=D) (n:=n) (v:=v) (a:=val) hd A.sl A.rs (hv N' hN)
   have e:=hu N' hN
   simp only [SR.ups] at e
   subst e
   have aI:∀nm,nm<st.nx->¬N'.ι nm=s.k:=fun nm iY he=>by
    rw [(h1.1 nm iY).1] at he;have:=R.lt nm iY;omega
   have Ki:∀nm,nm<st.nx->¬nm=bh->¬N'.ι nm=N'.ι bh:=fun nm iY hx he=>by
    rw [(h1.1 nm iY).1,(h1.1 bh h0).1] at he;exact hx (R.inj _ _ iY h0 he)
   refine ⟨q1,q2,fun nm B' h=> ?_,fun nm B' h=> ?_,fun t A' h id hid=> ?_⟩
   ·simp only [SR.st,bG] at h
    simp only [aJ]
    by_cases hn:nm=st.nx
    ·subst hn
     rw [aeG rfl,aeF,aeF] at h
     subst h
     rw [aeG h2];exact ⟨rfl,h3⟩
    ·rw [aeE hn] at h
     by_cases ho:nm=bh
     ·rw [aeG ho] at h;simp at h
     ·rw [aeE ho] at h
      rw [aeE (aI nm (R.ml nm _ h)),aeE (Ki nm (R.ml nm _ h) ho)];exact A.bl nm B' h
   ·simp only [aJ]
    have h':getS st.rm nm=some (some B'):=h
    by_cases ho:nm=bh
    ·subst ho;rw [tK] at h';simp at h'
    ·rw [aeE (aI nm (R.rl nm _ h')),aeE (Ki nm (R.rl nm _ h') ho)];exact A.rb nm B' h'
   ·have h':=np t A' h
    simp only [aJ]
    rw [aeE (fun e=>by have:=(R.sp t A' h' id hid).1;omega),aeE (fun e=>(R.sp t A' h' id hid).2 bh B0 (.inl dp) (by rw [<-(h1.1 bh h0).1];exact e.symm))]
    exact A.ar t A' h' id hid
  ·simp only [SR.st] at ha hb
   simp only [SR.up,aL.eN] at he
   by_cases h1:a=st.nx<;>by_cases h2:b=st.nx
   ·rw [h1,h2]
   ·rw [aeG h1,aeE h2] at he;have:=R.lt b (by omega);omega
   ·rw [aeE h1,aeG h2] at he;have:=R.lt a (by omega);omega
   ·rw [aeE h1,aeE h2] at he;exact R.inj a b (by omega) (by omega) he
  ·simp only [SR.st] at ha
   simp only [SR.up,aL.eN,SR.k1]
   by_cases h1:a=st.nx
   ·rw [aeG h1];omega
   ·rw [aeE h1];have:=R.lt a (by omega);omega
  ·simp only [SR.st,bG] at h ⊢
   by_cases hn:nm=st.nx
   ·omega
   ·rw [aeE hn] at h
    by_cases ho:nm=bh
    ·omega
    ·rw [aeE ho] at h;have:=R.ml nm _ h;omega
  ·obtain ⟨h1,h2⟩:=R.sp t A (np t A h) id hid
   refine ⟨ags h1,fun nm B' aW=> ?_⟩
   simp only [SR.up,aL.eN]
   by_cases hn:nm=st.nx
   ·rw [aeG hn];omega
   ·rw [aeE hn]
    simp only [SS.cg,SR.st,bG] at aW
    rw [aeE hn] at aW
    by_cases ho:nm=bh
    ·subst ho;exact h2 nm B0 (.inl dp)
    ·rw [aeE ho] at aW;exact h2 nm B' aW
 |gT O v pK t0 row A0=>
  obtain ⟨hg0,tK,Kj⟩:=hm
  have mR:=qQ hg0
  have wQ:=R.ml 0 _ hg0
  have Eu:st.cg 0 (.ar t0 A0):= .inl hg0
  obtain ⟨o7,W5⟩:=R.sp t0 A0 Eu pK Kj
  have Kk:∀t A,(SR.st st d (SR.gT O v pK t0 row A0:SR τ dn)).cg 0 (.ar t A)->(SB.ar t A:SB τ dn)= .ar t0 ((pK,row)::A0):=fun t A h=>by
   rcases h with h|h
   ·simp only [SR.st,bG,aeI,aeF] at h;exact h.symm
   ·have h':getS st.rm 0=some (some (.ar t A)):=h
    rw [tK] at h';simp at h'
  have aI:∀(N':aL),N.agree st.nx N'->∀nm B',st.cg nm B'->nm<st.nx->¬N'.ι nm=pK:=fun N' hN nm B' aW hlt e=>W5 nm B' aW (by rw [<-(hN.1 nm hlt).1];exact e)
  refine ⟨fun N' hN=> ?_,R.inj,R.lt,fun nm B' h=> ?_,R.rl,fun t A h id hid=> ?_⟩
  ·have A:=R.at_ N' hN
   obtain ⟨q1,q2⟩:=qP (D:=D) (n:=n) (v:=v) (a:=val) hd A.sl A.rs (hv N' hN)
   have e:=hu N' hN
   simp only [SR.ups] at e
   subst e
   refine ⟨q1,q2,fun nm B' h=> ?_,fun nm B' h=> ?_,fun t A' h id hid=> ?_⟩
   ·simp only [SR.st,bG] at h
    simp only [aJ]
    by_cases hn:nm=0
    ·subst hn
     rw [aeG rfl,aeF,aeF] at h
     subst h
     rw [aeE (aI N' hN 0 _ (.inl hg0) wQ)]
     have q:=A.bl 0 _ hg0
     exact ⟨q.1,q.2⟩
    ·rw [aeE hn] at h
     rw [aeE (aI N' hN nm _ (.inl h) (R.ml nm _ h))];exact A.bl nm B' h
   ·simp only [aJ]
    have h':getS st.rm nm=some (some B'):=h
    rw [aeE (aI N' hN nm _ (.inr h') (R.rl nm _ h'))];exact A.rb nm B' h'
   ·have h:=Kk t A' h
    simp only [SB.ar.injEq] at h
    obtain ⟨rfl,h⟩:=h
    have h:=eq_of_heq h
    subst h
    simp only [aJ]
    rw [gC]
    by_cases hi:id=pK
    ·rw [aeG hi,aeG hi]
    ·rw [aeE hi,aeE hi]
     rcases jt.1 hid with hh|hh
     ·exact absurd hh hi
     ·exact A.ar _ A0 Eu id hh
  ·simp only [SR.st,bG] at h ⊢
   by_cases hn:nm=0
   ·subst hn;exact wQ
   ·rw [aeE hn] at h;exact R.ml nm _ h
  ·have h:=Kk t A h
   simp only [SB.ar.injEq] at h
   obtain ⟨rfl,h⟩:=h
   have h:=eq_of_heq h
   subst h
   have mO:cz A0 id:=by
    rcases jt.1 hid with hh|hh
    ·subst hh;exact Kj
    ·exact hh
   obtain ⟨h1,h2⟩:=R.sp _ A0 Eu id mO
   refine ⟨h1,fun nm B' aW=> ?_⟩
   simp only [SS.cg,SR.st,bG] at aW
   by_cases hn:nm=0
   ·subst hn;exact h2 0 _ (.inl hg0)
   ·rw [aeE hn] at aW;exact h2 nm B' aW
def SR.jw:SR τ dn->Bool
 | .val _ _=>true
 | .new _ _ B=> !B.lD
 |_=>false
theorem Aa {st:SS τ dn} {r:SR τ dn} (h:r.jw=true):r.may D N st:=by cases r<;>first|trivial|(simp [SR.jw] at h;done)|(simpa [SR.jw,SR.may] using h)
theorem W6 {x y:Int} {r:SR τ dn} (h:wv neg op x y=some r):r.jw=true:=by
 unfold wv at h
 cases neg<;>simp only [aeK,ae0] at h
 repeat' split at h
 all_goals first|(simp at h;done)|(simp only [aeF] at h;subst h;rfl)|(simp only [aeM] at h;obtain ⟨_,_,rfl⟩:=h;rfl)
theorem W7 {x y:ByteArray} {r:SR τ dn} (h:oZ op x y=some r):r.jw=true:=by
 unfold oZ at h
 repeat' split at h
 all_goals first|(simp at h;done)|(simp only [aeF] at h;subst h;rfl)|(simp only [aeM] at h;obtain ⟨_,_,rfl⟩:=h;rfl)
theorem W8 {op:UnOp} {a:SV τ dn} {r:SR τ dn} (h:wz op a=some r):r.jw=true:=by
 unfold wz at h
 repeat' split at h
 all_goals first|(simp at h;done)|(simp only [aeF] at h;subst h;rfl)|(simp only [aeM] at h;obtain ⟨_,_,rfl⟩:=h;rfl)
theorem W9 {a:SV τ dn} {r:SR τ dn} (h:wA k a=some r):r.jw=true:=by
 unfold wA at h
 repeat' split at h
 all_goals first|(simp at h;done)|(simp only [aeF] at h;subst h;rfl)|(simp only [aeM] at h;obtain ⟨_,_,rfl⟩:=h;rfl)
theorem Xa {st:SS τ dn} {v:SV τ dn} {r:SR τ dn} (h:sn D st m v=some r):r.jw=true:=by
 unfold sn at h
 repeat' split at h
 all_goals first|(simp at h;done)|(simp only [aeF] at h;subst h;rfl)|(simp only [aeM] at h;obtain ⟨_,_,rfl⟩:=h;rfl)
theorem Xb {st:SS τ dn} {sz:Nat} {v:SV τ dn} {n:Int} {r:SR τ dn} (h:wD D st sz v n l=some r):r.jw=true:=by
 unfold wD at h
 cases l<;>simp only [aeK,ae0] at h
 repeat' split at h
 all_goals first|(simp at h;done)|(simp only [aeF] at h;subst h;rfl)|(simp only [aeM] at h;obtain ⟨_,_,rfl⟩:=h;rfl)
theorem Xc {st:SS τ dn} {v:SV τ dn} {r:SR τ dn} (h:wE st b v=some r):r.jw=true:=by
 unfold wE at h
 repeat' split at h
 all_goals first|(simp at h;done)|(simp only [aeF] at h;subst h;rfl)|(simp only [aeM] at h;obtain ⟨_,_,rfl⟩:=h;rfl)
theorem Xd {st:SS τ dn} {v:SV τ dn} {r:SR τ dn} (h:wF st kd neg v=some r):r.jw=true:=by
 unfold wF at h
 repeat' split at h
 all_goals first|(simp at h;done)|(simp only [aeF] at h;subst h;rfl)|(simp only [aeM] at h;obtain ⟨_,_,rfl⟩:=h;rfl)
theorem Kl {st:SS τ dn} {sz:Nat} {v:SV τ dn} {r:SR τ dn} (h:wG D st sz v lo hi=some r):r.jw=true:=by
 unfold wG at h
 repeat' split at h
 all_goals first|(simp at h;done)|(simp only [aeF] at h;subst h;rfl)|(simp only [aeM] at h;obtain ⟨_,_,rfl⟩:=h;rfl)
theorem Xe {st:SS τ dn} {v:SV τ dn} {r:SR τ dn} (h:wI D st v=some r):r.jw=true:=by
 unfold wI at h
 repeat' split at h
 all_goals first|(simp at h;done)|(simp only [aeF] at h;subst h;rfl)
theorem Xf {st:SS τ dn} {r:SR τ dn} (h:wJ D st s=some r):r.jw=true:=by
 unfold wJ at h
 repeat' split at h
 all_goals first|(simp at h;done)|(simp only [aeF] at h;subst h;rfl)
theorem Xg {st:SS τ dn} {sz by_:Nat} {zs:List AV} {l:Int} {r:SR τ dn} (h:wK D st sz by_ zs l c=some r):r.jw=true:=by
 unfold wK at h
 repeat' split at h
 all_goals first|(simp at h;done)|(simp only [aeF] at h;subst h;rfl)|(simp only [aeM] at h;obtain ⟨_,_,rfl⟩:=h;rfl)
theorem Xh {bt:Bool} {a b:SV τ dn} {r:SR τ dn} (h:wy neg bt op a b=some r):r.jw=true:=by
 unfold wy at h
 repeat' split at h
 all_goals first|exact W6 h|exact W7 h|first|(simp at h;done)|(simp only [aeF] at h;subst h;rfl)|(simp only [aeM] at h;obtain ⟨_,_,rfl⟩:=h;rfl)
theorem nq {st:SS τ dn} (h:st.rw nm=true):(∃B0,getS st.m nm=some (some B0))/\getS st.rm nm=none:=by
 unfold SS.rw at h
 rw [aeH] at h
 refine ⟨?_,by simpa using h.2⟩
 have h1:=h.1
 split at h1
 ·rename_i B hB;exact ⟨B,hB⟩
 ·simp at h1
theorem Xi (sz:Nat) (c:Ct τ dn):(c.od sz).lD=false:=by cases c<;>rfl
theorem Xj [DecidableEq τ] {sz:Nat} {B B':SB τ dn} {c:Ct τ dn} (h:sk D sz B c=some B'):B'.lD=false:=by
 unfold sk at h
 repeat' split at h
 all_goals first|(simp at h;done)|(simp only [aeF] at h;subst h;rfl)|(simp only [aeM] at h;obtain ⟨_,_,rfl⟩:=h;rfl)
theorem Xk [DecidableEq τ] {st:SS τ dn} {g:Nat->Option Bk} (R:bN D N st σ g):∀{ao:AO} {r:SR τ dn},sx D st ao=some r->r.may D N st:=by
 intro ao r h
 have val:∀{O:List Prop} {v:SV τ dn},(SR.val O v).may D N st:=trivial
 have gP:∀{O:List Prop} {v:SV τ dn} {nm:Nat} {B0 B:SB τ dn},st.rw nm=true->st.gm nm=some B0->B.len=B0.len->(hb:B.lD=false:=by rfl)->(SR.put O v nm B).may D N st:=fun h1 h2 h3 hb=>by
  obtain ⟨⟨B1,h4⟩,h5⟩:=nq h1
  exact ⟨⟨B1,h4,by rw [h3];exact (R.gm h2).2⟩,h5,hb⟩
 cases ao<;>simp only [sx] at h
 case store n x y=>
  split at h
  ·unfold zP at h
   split at h
   ·split at h
    ·split at h
     ·rename_i hc
      split at h
      ·rename_i hB
       split at h
       ·split at h
        ·simp only [aeF] at h;subst h;exact gP hc.2 hB (by simp [SB.len])
        ·simp at h
       ·simp at h
      ·rename_i hB
       split at h
       ·split at h
        ·simp only [aeF] at h;subst h;exact gP hc.2 hB (by simp [SB.len])
        ·simp at h
       ·simp at h
      ·simp at h
     ·simp at h
    ·simp at h
   ·simp at h
  ·simp at h
 case app sz by_ x y=>
  split at h
  ·unfold zQ at h
   split at h
   ·split at h
    ·simp only [aeF] at h;subst h;exact Xi _ _
    ·split at h
     ·rename_i hc
      split at h
      ·split at h
       ·simp only [aeM] at h;obtain ⟨B',aW,rfl⟩:=h;exact ⟨(nq hc.2).1,(nq hc.2).2,Xj aW⟩
       ·simp at h
      ·simp at h
     ·simp at h
    ·simp at h
   ·simp at h
  ·simp at h
 case cpy sz x y=>
  split at h
  ·unfold zR at h
   split at h
   ·split at h
    ·rename_i hc
     split at h
     ·rename_i hB
      split at h
      ·rename_i he
       subst he
       split at h
       ·simp only [aeF] at h;subst h
        exact gP hc.2 hB (by simp only [SB.len,afK,afu,List.length_drop];omega)
       ·simp at h
      ·simp at h
     ·simp at h
    ·simp at h
   ·simp at h
  ·simp at h
 case mup kd x k y=>
  split at h
  ·unfold zT at h
   split at h
   case h_2=>simp at h
   rename_i nm key nP _
   split at h
   case h_2=>simp at h
   rename_i els hB
   cases hb:(st.rw nm&&plainV key) with
   |false=>rw [hb] at h;simp at h
   |true=>
    rw [hb,aeK] at h
    rw [aeH] at hb
    split at h
    case h_2=>simp at h
    simp only [aeF] at h;subst h
    exact gP hb.1 hB rfl
  ·simp at h
 case mlk kd z x k=>
  split at h
  ·unfold zU at h
   refine Aa ?_
   repeat' split at h
   all_goals first|(simp at h;done)|(simp only [aeF] at h;subst h;rfl)|(simp only [aeM] at h;obtain ⟨_,_,rfl⟩:=h;rfl)
  ·simp at h
 case slc sz x lo hi mx=>
  refine Aa ?_
  cases mx with
  |some m=>simp at h
  |none=>
   simp only at h
   split at h
   ·exact Kl h
   ·simp at h
 all_goals refine Aa ?_
 all_goals try (simp only [agk] at h;obtain ⟨_,_,h⟩:=h)
 all_goals repeat' split at h
 all_goals first|exact Xh h|exact W8 h|exact W9 h|exact Xa h|exact Xb h|exact Xc h|exact Xd h|exact Kl h|exact Xg h|exact Xe h|exact Xf h|(simp at h;done)|(simp only [aeF] at h;subst h;rfl)|(simp only [aeM] at h;obtain ⟨_,_,rfl⟩:=h;rfl)|(subst h;rfl)
end
open Go.RowKit
def ir:List Prop->Prop->Prop
 |[],K=>K
 |p::r,K=>p/\ir r K
theorem mq {K:Prop}:∀{O:List Prop},ir O K↔(∀p,p∈O->p)/\K
 |[]=>by simp [ir]
 |p::r=>by simp only [ir,mq (O:=r),aeQ,agj,and_assoc]
def Cn.pol (c:Cn):Bool->Cn
 |true=>c
 |false=> .not c
theorem Cn.Km (c:Cn) (p:Bool):(c.pol p).den=(c.den==p):=by cases p<;>cases h:c.den<;>simp [pol,den,h]
section
variable {τ:Type} {dn:τ->Type} {D:TD τ dn} {N:aL} {st:SS τ dn} {σ:Nat->AV} {g:Nat->Option Bk}
inductive Gd where
 |yes
 |no
 |pL (e:Cn)
 |bad
def SS.gd (st:SS τ dn):Option (Nat×Bool)->Gd
 |none=> .yes
 |some (i,w)=>match st.gt i with
  |some (.vt b)=>bif b==w then .yes else .no
  |some (.vo (.tuple _))=> .no
  |some (.vb c)=> .pL (c.pol w)
  |some (.vg p c (.vb c2))=> .pL (.and (c.pol p) (c2.pol w))
  |some (.vg p c (.vt b))=>bif b==w then .pL (c.pol p) else .no
  |_=> .bad
theorem Xl (R:bN D N st σ g) {x:Option (Nat×Bool)}:(st.gd x= .yes->cB σ x=some true)/\(st.gd x= .no->cB σ x=some false)/\(∀e,st.gd x= .pL e->cB σ x=some e.den):=by
 cases x with
 |none=>exact ⟨fun _=>rfl,fun h=>by simp [SS.gd] at h,fun e h=>by simp [SS.gd] at h⟩
 |some x=>
  obtain ⟨i,w⟩:=x
  simp only [SS.gd]
  split
  ·rename_i b h
   have e:=R.gt h
   simp only [SV.av] at e
   simp only [cB,e]
   cases b<;>cases w<;>simp
  ·rename_i vs h
   have e:=R.gt h
   simp only [SV.av] at e
   simp [cB,e]
  ·rename_i c h
   have e:=R.gt h
   simp only [SV.av] at e
   simp [cB,e,Cn.Km]
  ·rename_i p c c2 h
   have e:=R.gt h
   simp only [SV.av] at e
   refine ⟨by simp,by simp,fun e' he=> ?_⟩
   simp only [Gd.pL.injEq] at he;subst he
   simp only [cB,e,Cn.den,Cn.Km]
   cases c.den<;>cases p<;>simp [undef]
  ·rename_i p c b h
   have e:=R.gt h
   simp only [SV.av] at e
   simp only [cB,e]
   cases hc:c.den<;>cases p<;>cases b<;>cases w<;>simp [undef,Cn.pol,Cn.den,hc]
  ·exact ⟨by simp,by simp,by simp⟩
def wR (st:SS τ dn):List Nat->List (Nat×SV τ dn)
 |[]=>st.t
 |i::r=>match st.gt i with
  |some (.vg _ _ v)=>(i,v)::wR st r
  |_=>wR st r
def SS.unw (st:SS τ dn) (ss:List Nat):SS τ dn:=⟨st.rt,st.rm,wR st ss,st.m,st.nx⟩
def mr (st:SS τ dn) (e:Cn):List Nat->List Prop
 |[]=>[]
 |i::r=>match st.gt i with
  |some (.vg p c _)=>(e.tf true->c.tf p)::mr st e r
  |_=>mr st e r
theorem Kn (R:bN D N st σ g) {e:Cn} (he:e.den=true) {ss:List Nat} (h:∀p,p∈mr st e ss->p):bN D N (st.unw ss) σ g:=by
 refine ⟨?_,R.rs,R.bl,R.rb,R.ar⟩
 show ∀i v,getS (wR st ss) i=some v->σ i=v.av D.toTE N
 have et:=(Cn.mo e true).2 he
 induction ss with
 |nil=>exact R.sl
 |cons j r ih=>
  simp only [wR]
  simp only [mr] at h
  split
  ·rename_i p c v hj
   rw [hj] at h
   simp only [aeQ,agj] at h
   intro i w hw
   rw [bG] at hw
   by_cases hi:i=j
   ·rw [aeG hi,aeF] at hw
    subst hw;subst hi
    rw [R.gt hj,SV.av,aeG ((Cn.mo c p).1 (h.1 et))]
   ·rw [aeE hi] at hw;exact ih h.2 i w hw
  ·rename_i hj
   have:mr st e (j::r)=mr st e r:=by
    simp only [mr]
   refine ih ?_
   intro p hp
   refine h p ?_
   split
   ·rename_i q c v hq;exact absurd hq (hj _ _ _)
   ·exact hp
def su (c:Cn) (b:Bool):SV τ dn->List Prop×SV τ dn
 | .vg p c' v=>([c.tf b->c'.tf p],v)
 |v=>([],v)
theorem Ko {c:Cn} {v:SV τ dn} (hc:c.den=b) (h:∀p,p∈(su c b v).1->p):v.av D.toTE N=(su c b v).2.av D.toTE N:=by
 unfold su at h ⊢
 split
 ·rename_i p c' v
  simp only [aeP,aeZ] at h
  rw [SV.av,aeG ((Cn.mo c' p).1 (h ((Cn.mo c b).2 hc)))]
 ·rfl
def wS (c:Cn):SV τ dn->SV τ dn->Option (SV τ dn)
 | .vt true, .vt true=>some (.vt true)
 | .vt false, .vt false=>some (.vt false)
 | .vt true, .vt false=>some (.vb c)
 | .vt false, .vt true=>some (.vb (.not c))
 | .vb x, .vt false=>some (.vb (.and c x))
 | .vb x, .vt true=>some (.vb (.or (.not c) x))
 | .vt true, .vb y=>some (.vb (.or c y))
 | .vt false, .vb y=>some (.vb (.and (.not c) y))
 | .vb x, .vb y=>some (.vb (.or (.and c x) (.and (.not c) y)))
 |_,_=>none
theorem Ev {c:Cn} {a b v:SV τ dn} (h:wS c a b=some v):v.av D.toTE N=if c.den=true then a.av D.toTE N else b.av D.toTE N:=by
 unfold wS at h
 split at h<;>simp only [aeF,reduceCtorEq] at h<;>subst h<;>cases hc:c.den<;>simp [SV.av,Cn.den,hc]
def Ew (st:SS τ dn) (c a b:Arg):Option (SR τ dn):=
 match st.ev c with
 |some (.vt true)=>(st.ev a).map (.val [])
 |some (.vt false)=>(st.ev b).map (.val [])
 |some (.vb cc)=>match st.ev a,st.ev b with
  |some va,some vb=>(wS cc (su cc true va).2 (su cc false vb).2).map (.val ((su cc true va).1++(su cc false vb).1))
  |_,_=>none
 |_=>none
theorem Xm (R:bN D N st σ g) {c a b:Arg} {r:SR τ dn} (h:Ew st c a b=some r):r.Good D N st.nx σ g (.pick c a b)/\r.may D N st:=by
 unfold Ew at h
 split at h
 ·rename_i hc
  simp only [aeM] at h;obtain ⟨v,hv,rfl⟩:=h
  refine ⟨fun k hO hf=> ?_,trivial⟩
  simp only [AO.aq,R.ev hc,SV.av,aeI,R.ev hv,RM.run,SR.v,SR.ups]
 ·rename_i hc
  simp only [aeM] at h;obtain ⟨v,hv,rfl⟩:=h
  refine ⟨fun k hO hf=> ?_,trivial⟩
  simp only [AO.aq,R.ev hc,SV.av,afG,ae9,R.ev hv,RM.run,SR.v,SR.ups]
 ·rename_i cc hc
  split at h
  ·rename_i va vb ha hb
   simp only [aeM] at h;obtain ⟨v,hv,rfl⟩:=h
   refine ⟨fun k hO hf=> ?_,trivial⟩
   simp only [SR.O,afc] at hO
   simp only [AO.aq,R.ev hc,SV.av,RM.run,SR.v,SR.ups,Ev hv,R.ev ha,R.ev hb]
   cases hcc:cc.den with
   |true=>simp only [aeI];rw [<-Ko hcc fun p hp=>hO p (.inl hp)]
   |false=>simp only [afG,ae9];rw [<-Ko hcc fun p hp=>hO p (.inr hp)]
  ·simp at h
 ·simp at h
variable [DecidableEq τ]
def qR (D:TD τ dn) (st:SS τ dn) (ao:AO):Option (SR τ dn):=
 match ao with
 | .pick c a b=>Ew st c a b
 |ao=>bif ao.lk.any st.rwa then pH D st ao else sx D st ao
theorem Xn {r:SR τ dn} (h:pH D st ao=some r) (hO:∀p,p∈r.O->p):r.may D N st:=by
 have gT:∀{O:List Prop} {v:SV τ dn} {t:τ} {A:List (Nat×List (dn t))} {q:Row (dn t)} {row:List (dn t)},st.jv t=some A->st.rw 0=true->q.bF A->(SR.gT O v q.id t row A).may D N st:=fun hA hw hm=>by
  obtain ⟨⟨B1,h4⟩,h5⟩:=nq hw
  have:=qO hA
  have h6:=qQ h4
  rw [h6] at this
  simp only [aeF] at this;subst this
  exact ⟨h4,h5,hm.2.1⟩
 cases ao<;>simp only [pH,reduceCtorEq] at h
 case store n x y=>
  split at h
  case h_2=>simp at h
  rename_i t q i o b hx hy
  split at h
  case h_2=>simp at h
  rename_i A hA
  split at h
  case isFalse=>simp at h
  rename_i hc
  split at h
  case h_2=>simp at h
  simp only [aeF] at h;subst h
  exact gT hA hc.2.2.1 (hO _ (afo ..))
 case cpy sz x y=>
  split at h
  case h_2=>simp at h
  rename_i t q b eH hy
  split at h
  case h_2=>simp at h
  rename_i A O t' ys hA fN
  split at h
  case isFalse=>simp at h
  rename_i ht
  subst ht
  split at h
  case isFalse=>simp at h
  rename_i hs
  simp only [aeF] at h;subst h
  simp only [SR.O,afc,aeP] at hO
  exact gT hA hs.2 (hO _ (.inr rfl))
 all_goals refine Aa ?_
 case len s x=>
  cases s with
  |true=>simp at h
  |false=>
   simp only at h
   split at h
   case h_2=>simp at h
   split at h
   case h_2=>simp at h
   simp only [aeF] at h;subst h;rfl
 case iad sz x y=>
  split at h
  case h_2=>simp at h
  split at h
  case h_2=>simp at h
  split at h
  case isFalse=>simp at h
  simp only [aeF] at h;subst h;rfl
 all_goals repeat' split at h
 all_goals first|(simp at h;done)|(simp only [aeF] at h;subst h;rfl)|(simp only [aeM] at h;obtain ⟨_,_,rfl⟩:=h;rfl)
theorem Ey (ok:bE D) (R:bN D N st σ g) {r:SR τ dn} (h:qR D st ao=some r) (hO:∀p,p∈r.O->p):r.Good D N st.nx σ g ao/\r.may D N st:=by
 unfold qR at h
 split at h
 ·exact Xm R h
 ·cases hb:(ao.lk.any st.rwa) with
  |true=>rw [hb,aeK] at h;exact ⟨W2 ok R h,Xn h hO⟩
  |false=>rw [hb,ae0] at h;exact ⟨W0 ok R h,Xk R h⟩
end
section
variable {τ:Type} {dn:τ->Type} {D:TD τ dn} {N:aL} {st:SS τ dn} {σ:Nat->AV} {g:Nat->Option Bk}
def SV.pu1:SV τ dn->Bool
 | .vi _| .vn _| .vy _| .vu _| .vw _ _| .vb _| .vt _| .vz _| .vo _| .emp| .vl _ _| .vc _ _| .pim _ _| .dead=>true
 | .fn _ cs=>cs.isEmpty
 |_=>false
theorem Kp {v:SV τ dn} (h:v.pu1=true):(v.av D.toTE N).pu1=true:=by
 cases v<;>simp [SV.pu1] at h<;>simp [SV.av,AV.pu1]
 subst h;rfl
def Ez [DecidableEq τ] (D:TD τ dn) (st:SS τ dn) (t:τ) (r:Row (dn t)):Option (List Prop×SV τ dn):=match st.jv t with
 |some A=>bif D.pu t then some ([r.ok A,r.kd≠ .nil], .vl t (r.get A)) else none
 |none=>none
def snap1S (D:TD τ dn) (st:SS τ dn):SV τ dn->Option (SV τ dn)
 | .own nm sz=>match st.cont D sz (.own nm sz) with
  |some (.ty t xs)=>bif D.pu t then some (.vl t xs) else none
  |some (.li els)=>bif els.all (fun cs=>cs.all SV.pu1) then some (.vc sz els) else none
  |none=>none
 | .ref nm sz i o=>match st.gm nm with
  |some (.bc q els)=>if q=sz then (match els[i]? with
   |some cs=>bif cs.all SV.pu1 then some (.pim cs o) else none
   |none=>none) else none
  |_=>none
 |v=>bif v.pu1 then some v else none
theorem Kq {cs:List (SV τ dn)} (h:cs.all SV.pu1=true):(cs.map (SV.av D.toTE N)).all AV.pu1=true:=by
 simp only [aeJ,ae2] at h ⊢
 rintro _ ⟨v,hv,rfl⟩;exact Kp (h v hv)
theorem Ab (ok:bE D) (R:bN D N st σ g) {v w:SV τ dn} (h:snap1S D st v=some w):(snap1 (v.av D.toTE N)).run g=some (w.av D.toTE N):=by
 have other:∀{v:SV τ dn},(bif v.pu1 then some v else none)=some w->(∀a,a=v.av D.toTE N->snap1 a=if a.pu1=true then .ret a else .fail)->(snap1 (v.av D.toTE N)).run g=some (w.av D.toTE N):=by
  intro v h h2
  cases hp:v.pu1 with
  |false=>rw [hp] at h;simp at h
  |true=>
   rw [hp,aeK,aeF] at h;subst h
   rw [h2 _ rfl,aeG (Kp hp)];rfl
 cases v with
 |own nm sz=>
  simp only [snap1S] at h
  have ea:(((SV.own nm sz:SV τ dn).av D.toTE N)= .own (N.ι nm) sz 0 (N.ln nm)):=rfl
  split at h
  ·rename_i t xs hc
   obtain ⟨c1,c2⟩:=sq R hc
   cases hp:D.pu t with
   |false=>rw [hp] at h;simp at h
   |true=>
    rw [hp,aeK,aeF] at h;subst h
    have hz:=c2 t xs rfl
    rw [ea] at c1 ⊢
    simp only [snap1]
    rw [eW c1]
    have cA:((xs.map (D.ea N.ρ t)).all fun cs=>cs.all AV.pu1)=true:=by
     simp only [aeJ,ae2]
     rintro _ ⟨y,_,rfl⟩
     have:=ok.pu1 N t y hp
     simpa [aeJ] using this
    simp only [Ct.els,cA,aeI,RM.run,SV.av,hz]
  ·rename_i els hc
   obtain ⟨c1,c2⟩:=sq R hc
   cases hp:els.all (fun cs=>cs.all SV.pu1) with
   |false=>rw [hp] at h;simp at h
   |true=>
    rw [hp,aeK,aeF] at h;subst h
    rw [ea] at c1 ⊢
    simp only [snap1]
    rw [eW c1]
    have cA:((els.map fun cs=>cs.map (SV.av D.toTE N)).all fun cs=>cs.all AV.pu1)=true:=by
     simp only [aeJ,ae2]
     rintro _ ⟨cs,hcs,rfl⟩
     have h1:=(aeJ.1 hp) cs hcs
     have:=Kq (D:=D) (N:=N) h1
     simpa [aeJ] using this
    simp only [Ct.els,SV.lC,cA,aeI,RM.run,SV.av]
  ·simp at h
 |ref nm sz i o=>
  simp only [snap1S] at h
  split at h
  ·rename_i q els hB
   split at h
   ·rename_i hq
    split at h
    ·rename_i cs hcs
     cases hp:cs.all SV.pu1 with
     |false=>rw [hp] at h;simp at h
     |true=>
      rw [hp,aeK,aeF] at h;subst h
      have g1:=(R.gm hB).1
      simp only [SV.av,snap1,RM.run,g1,SB.av,hq,aeI,SV.lC,aeY,hcs,aeT,Kq hp,SV.bX]
    ·simp at h
   ·simp at h
  ·simp at h
 |_=>first
  |exact other h fun a ha=>by subst ha;rfl
  |(simp [snap1S,SV.pu1] at h)
def pM (D:TD τ dn) (st:SS τ dn):List (SV τ dn)->Option (List (SV τ dn))
 |[]=>some []
 |v::r=>match snap1S D st v,pM D st r with
  |some x,some l=>some (x::l)
  |_,_=>none
theorem Ac (ok:bE D) (R:bN D N st σ g):∀{vs ws:List (SV τ dn)},pM D st vs=some ws->(jO (vs.map (SV.av D.toTE N))).run g=some (ws.map (SV.av D.toTE N))
 |[],ws,h=>by simp only [pM,aeF] at h;subst h;rfl
 |v::r,ws,h=>by
  simp only [pM] at h
  split at h
  ·rename_i x l h1 h2
   simp only [aeF] at h;subst h
   simp only [aeR,jO]
   rw [eW (Ab ok R h1),eW (Ac ok R h2)];rfl
  ·simp at h
def jY (D:TD τ dn) (st:SS τ dn):SV τ dn->Option (SV τ dn)
 | .agg cs=>(pM D st cs).map .agg
 | .fn f cs=>(pM D st cs).map (.fn f)
 | .bf f cs=>(pM D st cs).map (.bf f)
 |v=>snap1S D st v
theorem EA (ok:bE D) (R:bN D N st σ g) {v w:SV τ dn} (h:jY D st v=some w):(fp (v.av D.toTE N)).run g=some (w.av D.toTE N):=by
 cases v with
 |agg cs=>
  simp only [jY,aeM] at h;obtain ⟨l,hl,rfl⟩:=h
  simp only [SV.av,SV.bX,fp]
  rw [eW (Ac ok R hl)];rfl
 |fn f cs=>
  simp only [jY,aeM] at h;obtain ⟨l,hl,rfl⟩:=h
  simp only [SV.av,SV.bX,fp]
  rw [eW (Ac ok R hl)];rfl
 |bf f cs=>
  simp only [jY,aeM] at h;obtain ⟨l,hl,rfl⟩:=h
  simp only [SV.av,SV.bX,fp]
  rw [eW (Ac ok R hl)];rfl
 |vg p c v=>simp [jY,snap1S,SV.pu1] at h
 |rw t r=>simp [jY,snap1S,SV.pu1] at h
 |eg t r i o=>simp [jY,snap1S,SV.pu1] at h
 |_=>
  simp only [jY] at h
  exact Ab ok R h
def nt (D:TD τ dn) (st:SS τ dn):List (SV τ dn)->Option (List (SV τ dn))
 |[]=>some []
 |v::r=>match jY D st v,nt D st r with
  |some x,some l=>some (x::l)
  |_,_=>none
theorem Kr (ok:bE D) (R:bN D N st σ g):∀{vs ws:List (SV τ dn)},nt D st vs=some ws->(fF (vs.map (SV.av D.toTE N))).run g=some (ws.map (SV.av D.toTE N))
 |[],ws,h=>by simp only [nt,aeF] at h;subst h;rfl
 |v::r,ws,h=>by
  simp only [nt] at h
  split at h
  ·rename_i x l h1 h2
   simp only [aeF] at h;subst h
   simp only [aeR,fF]
   rw [eW (EA ok R h1),eW (Kr ok R h2)];rfl
  ·simp at h
variable [DecidableEq τ]
def Ad (D:TD τ dn) (st:SS τ dn):SV τ dn->Option (List Prop×SV τ dn)
 | .rw t r=>Ez D st t r
 |v=>(jY D st v).map fun w=>([],w)
theorem Xo (ok:bE D) (R:bN D N st σ g) {v w:SV τ dn} {O:List Prop} (h:Ad D st v=some (O,w)) (hO:∀p,p∈O->p):(fp (v.av D.toTE N)).run g=some (w.av D.toTE N):=by
 have other:∀{v:SV τ dn},((jY D st v).map fun w=>(([]:List Prop),w))=some (O,w)->(fp (v.av D.toTE N)).run g=some (w.av D.toTE N):=fun h=>by
  simp only [aeM,aeX] at h
  obtain ⟨c',h1,_,rfl⟩:=h
  exact EA ok R h1
 cases v with
 |rw t r=>
  simp only [Ad,Ez] at h
  split at h
  ·rename_i A hA
   cases hp:D.pu t with
   |false=>rw [hp] at h;simp at h
   |true=>
    rw [hp,aeK] at h
    simp only [aeF,aeX] at h
    obtain ⟨rfl,rfl⟩:=h
    simp only [aeQ,afN,or_false,agj,aeZ] at hO
    cases hk:r.kd with
    |nil=>exact absurd hk hO.2
    |aV=>simp only [SV.av,hk,fp,snap1,AV.pu1,aeI,RM.run,sr hk]
    |own=>
     obtain ⟨e1,e2,e3⟩:=pI R hA hO.1 hk
     have c1:(content (D.sz t) (.own r.id (D.sz t) 0 r.n)).run g=some ((r.get A).map (D.ea N.ρ t)):=by
      simp only [content,RM.run,e3,e2,aeW,aeS,aeO,ae5,aeI,agy]
      rw [afA (by simp)]
     simp only [SV.av,hk,fp,snap1]
     rw [eW c1]
     have cA:(((r.get A).map (D.ea N.ρ t)).all fun cs=>cs.all AV.pu1)=true:=by
      simp only [aeJ,ae2]
      rintro _ ⟨y,_,rfl⟩
      have:=ok.pu1 N t y hp
      simpa [aeJ] using this
     simp only [cA,aeI,RM.run]
  ·simp at h
 |_=>exact other h
def sv (D:TD τ dn) (st:SS τ dn):List (SV τ dn)->Option (List Prop×List (SV τ dn))
 |[]=>some ([],[])
 |v::r=>match Ad D st v,sv D st r with
  |some (O,x),some (O',l)=>some (O++O',x::l)
  |_,_=>none
theorem Ae (ok:bE D) (R:bN D N st σ g):∀{vs ws:List (SV τ dn)} {O:List Prop},sv D st vs=some (O,ws)->(∀p,p∈O->p)->(fF (vs.map (SV.av D.toTE N))).run g=some (ws.map (SV.av D.toTE N))
 |[],ws,O,h,hO=>by simp only [sv,aeF,aeX] at h;obtain ⟨_,rfl⟩:=h;rfl
 |v::r,ws,O,h,hO=>by
  simp only [sv] at h
  split at h
  ·rename_i O1 x O2 l h1 h2
   simp only [aeF,aeX] at h
   obtain ⟨rfl,rfl⟩:=h
   simp only [aeR,fF]
   rw [eW (Xo ok R h1 fun p hp=>hO p (afm _ hp)),eW (Ae ok R h2 fun p hp=>hO p (afl _ hp))];rfl
  ·simp at h
end
open Go.RowKit
section
variable {τ:Type} {dn:τ->Type}
inductive Pt (τ:Type) where
 |ty (t:τ)
 |ptr (t:τ)
 |jx (f:FuncId) (cs:List (Bool×τ))
abbrev CD (dn:τ->Type):List (Bool×τ)->Type
 |[]=>Unit
 |p::r=>dn p.2×CD dn r
abbrev Pt.T (dn:τ->Type):Pt τ->Type
 | .ty t=>dn t
 | .ptr t=>dn t
 | .jx _ cs=>CD dn cs
abbrev PD (dn:τ->Type):List (Pt τ)->Type
 |[]=>Unit
 |p::r=>p.T dn×PD dn r
abbrev RD (dn:τ->Type):List τ->Type
 |[]=>Unit
 |[t]=>dn t
 |t::s::r=>dn t×RD dn (s::r)
variable (D:TD τ dn) {N:aL}
def TD.en (t:τ) (x:dn t):SV τ dn:=bif D.ag t then .agg (D.es t x) else (D.es t x).headD .dead
def pN (t:τ) (v:SV τ dn):Option (dn t):=bif D.ag t then (match v with
 | .agg cs=>D.ds t cs
 |_=>none) else D.ds t [v]
def lE:(cs:List (Bool×τ))->CD dn cs->List (SV τ dn)
 |[],_=>[]
 |(false,t)::r,x=>D.en t x.1::lE r x.2
 |(true,t)::r,x=> .pim (D.es t x.1) 0::lE r x.2
def Af (t:τ):SV τ dn->Option (dn t)
 | .pim cs 0=>bif cs.all SV.ne then D.ds t cs else none
 |_=>none
def pO:(cs:List (Bool×τ))->List (SV τ dn)->Option (CD dn cs)
 |[],[]=>some ()
 |(false,t)::r,v::l=>bif v.cells.all SV.ne then (match pN D t v,pO r l with
  |some x,some y=>some (x,y)
  |_,_=>none) else none
 |(true,t)::r,v::l=>match Af D t v,pO r l with
  |some x,some y=>some (x,y)
  |_,_=>none
 |_,_=>none
def Pt.enc:(p:Pt τ)->p.T dn->SV τ dn
 | .ty t,x=>D.en t x
 | .ptr t,x=> .pim (D.es t x) 0
 | .jx f cs,x=> .fn f (lE D cs x)
def Pt.dec:(p:Pt τ)->SV τ dn->Option (p.T dn)
 | .ty t,v=>pN D t v
 | .ptr t,v=>Af D t v
 | .jx f cs, .fn f' l=>bif Nat.beq f f' then pO D cs l else none
 | .jx _ _,_=>none
def lF:(ps:List (Pt τ))->PD dn ps->List (SV τ dn)
 |[],_=>[]
 |p::r,x=>p.enc D x.1::lF r x.2
def nu:(ps:List (Pt τ))->List (SV τ dn)->Option (PD dn ps)
 |[],[]=>some ()
 |p::r,v::l=>match p.dec D v,nu r l with
  |some x,some y=>some (x,y)
  |_,_=>none
 |_,_=>none
def iZ:(rs:List τ)->RD dn rs->List (SV τ dn)
 |[],_=>[]
 |[t],x=>[D.en t x]
 |t::s::r,x=>D.en t x.1::iZ (s::r) x.2
def og:(rs:List τ)->List (SV τ dn)->Option (RD dn rs)
 |[],[]=>some ()
 |[t],[v]=>pN D t v
 |t::s::r,v::l=>match pN D t v,og (s::r) l with
  |some x,some y=>some (x,y)
  |_,_=>none
 |_,_=>none
def qS:List (SV τ dn)->SV τ dn
 |[v]=>v
 |l=> .bm l
end
section
variable {τ:Type} {dn:τ->Type} {D:TD τ dn} {N:aL}
theorem Xp {a:AV} {l:List AV} (h:eP [a] l):∃b,l=[b]/\cH a b:=by
 cases h with
 |cons h t=>cases t;exact ⟨_,rfl,h⟩
theorem wT {t:τ} {x:dn t} (h:D.ag t=true):D.en t x= .agg (D.es t x):=by unfold TD.en;rw [h];rfl
theorem EB (ok:bE D) {t:τ} {x:dn t} (h:D.ag t=false) {b:AV} (hb:D.ea N.ρ t x=[b]):(D.en t x).av D.toTE N=b:=by
 unfold TD.en
 rw [h,ae0]
 have:=ok.dD N t x
 rw [hb] at this
 cases he:D.es t x with
 |nil=>rw [he] at this;simp at this
 |cons v r=>rw [he] at this;simp at this;rw [List.headD_cons];exact this.1
theorem Ag (ok:bE D) {t:τ} {v:SV τ dn} {x:dn t} (h:pN D t v=some x):cH (v.av D.toTE N) ((D.en t x).av D.toTE N):=by
 unfold pN at h
 cases ha:D.ag t with
 |true=>
  rw [ha,aeK] at h
  split at h
  ·rw [wT ha,SV.av,SV.av,SV.bX,SV.bX,ok.dD]
   exact cH.agg (ok.iF N t _ _ h)
  ·simp at h
 |false=>
  rw [ha,ae0] at h
  obtain ⟨b,hb,hle⟩:=Xp (ok.iF N t _ _ h)
  rw [EB ok ha hb];exact hle
theorem Xq (ok:bE D) {t:τ} {v:SV τ dn} {x:dn t} (h:pN D t v=some x) (hn:v.cells.all SV.ne=true):v.av D.toTE N=(D.en t x).av D.toTE N:=by
 unfold pN at h
 cases ha:D.ag t with
 |true=>
  rw [ha,aeK] at h
  split at h
  ·rw [wT ha,SV.av,SV.av,SV.bX,SV.bX,ok.dD,ok.wm N t _ _ h hn]
  ·simp at h
 |false=>
  rw [ha,ae0] at h
  have Xr:[v].all SV.ne=true:=by
   cases v<;>first|exact hn|rfl
  have:=ok.wm N t _ _ h Xr
  rw [EB ok ha (b:=v.av D.toTE N) this.symm]
theorem Ks (ok:bE D) {t:τ} {v:SV τ dn} {x:dn t} (h:Af D t v=some x):v.av D.toTE N=(SV.pim (D.es t x) 0:SV τ dn).av D.toTE N:=by
 unfold Af at h
 split at h
 ·rename_i cs
  cases hn:cs.all SV.ne with
  |false=>rw [hn] at h;simp at h
  |true=>
   rw [hn,aeK] at h
   rw [SV.av,SV.av,SV.bX,SV.bX,ok.dD,ok.wm N t _ _ h hn]
 ·simp at h
theorem EC (ok:bE D):∀{cs:List (Bool×τ)} {l:List (SV τ dn)} {x:CD dn cs},pO D cs l=some x->SV.dy D.toTE N l=SV.dy D.toTE N (lE D cs x)
 |[],[],x,h=>rfl
 |[],v::l,x,h=>by simp [pO] at h
 |(false,t)::r,[],x,h=>by simp [pO] at h
 |(true,t)::r,[],x,h=>by simp [pO] at h
 |(false,t)::r,v::l,x,h=>by
  simp only [pO] at h
  cases hn:v.cells.all SV.ne with
  |false=>rw [hn] at h;simp at h
  |true=>
   rw [hn,aeK] at h
   split at h
   ·rename_i a b h1 h2
    simp only [aeF] at h;subst h
    simp only [SV.dy,lE,Xq ok h1 hn,EC ok h2]
   ·simp at h
 |(true,t)::r,v::l,x,h=>by
  simp only [pO] at h
  split at h
  ·rename_i a b h1 h2
   simp only [aeF] at h;subst h
   simp only [SV.dy,lE,Ks ok h1,EC ok h2]
  ·simp at h
theorem Xs (ok:bE D) {p:Pt τ} {v:SV τ dn} {x:p.T dn} (h:p.dec D v=some x):cH (v.av D.toTE N) ((p.enc D x).av D.toTE N):=by
 cases p with
 |ty t=>exact Ag ok h
 |ptr t=>exact cH.of_eq (Ks ok h)
 |jx f cs=>
  cases v<;>simp only [Pt.dec,reduceCtorEq] at h
  rename_i f' l
  cases hb:Nat.beq f f' with
  |false=>rw [hb] at h;simp at h
  |true=>
   rw [hb,aeK] at h
   have:=aeU hb
   subst this
   exact cH.of_eq (by simp only [SV.av,Pt.enc,EC ok h])
theorem Ah (ok:bE D):∀{ps:List (Pt τ)} {l:List (SV τ dn)} {x:PD dn ps},nu D ps l=some x->eP (l.map (SV.av D.toTE N)) ((lF D ps x).map (SV.av D.toTE N))
 |[],[],x,h=> .nil
 |[],v::l,x,h=>by simp [nu] at h
 |p::r,[],x,h=>by simp [nu] at h
 |p::r,v::l,x,h=>by
  simp only [nu] at h
  split at h
  ·rename_i a b h1 h2
   simp only [aeF] at h;subst h
   exact .cons (Xs ok h1) (Ah ok h2)
  ·simp at h
theorem Kt (ok:bE D):∀{rs:List τ} {l:List (SV τ dn)} {x:RD dn rs},og D rs l=some x->eP (l.map (SV.av D.toTE N)) ((iZ D rs x).map (SV.av D.toTE N))
 |[],[],x,h=> .nil
 |[],v::l,x,h=>by simp [og] at h
 |[t],[],x,h=>by simp [og] at h
 |[t],[v],x,h=> .cons (Ag ok h) .nil
 |[t],v::w::l,x,h=>by simp [og] at h
 |t::s::r,[],x,h=>by simp [og] at h
 |t::s::r,v::l,x,h=>by
  simp only [og] at h
  split at h
  ·rename_i a b h1 h2
   simp only [aeF] at h;subst h
   exact .cons (Ag ok h1) (Kt ok h2)
  ·simp at h
theorem Ai (l:List (SV τ dn)):(qS l).av D.toTE N=pg (l.map (SV.av D.toTE N)):=by
 match l with
 |[]=>rfl
 |[v]=>rfl
 |v::w::r=>simp only [qS,SV.av,SV.bX];rfl
theorem Xt {a b:List AV} (h:eP a b):cH (pg a) (pg b):=by
 cases h with
 |nil=>exact cH.refl
 |cons h t=>
  cases t with
  |nil=>exact h
  |cons h2 t2=>exact cH.bm (.cons h (.cons h2 t2))
def SV.Aj:SV τ dn->Bool
 | .vi _| .vn _| .vy _| .vu _| .vw _ _| .vb _| .vt _| .vz _| .vo _=>true
 |_=>false
theorem Ku {E:TE τ dn} {N:aL} {v:SV τ dn} (h:v.Aj=true):(v.av E N).ew=true:=by
 cases v<;>simp [SV.Aj] at h<;>simp [SV.av,AV.ew]
structure bj (τ:Type) (dn:τ->Type) where
 f:FuncId
 ps:List (Pt τ)
 pre:PD dn ps->Prop
 rs:List τ
 res:PD dn ps->RD dn rs
def bj.val (D:TD τ dn) (c:bj τ dn) (x:PD dn c.ps):SV τ dn:=qS (iZ D c.rs (c.res x))
def bj.Ok (P:Program) (D:TD τ dn) (c:bj τ dn):Prop:=aX P c.f=true/\∀(x:PD dn c.ps) (N:aL),c.pre x->Fn P c.f ((lF D c.ps x).map (SV.av D.toTE N)) ((c.val D x).av D.toTE N)
theorem Xu {f:FuncId} {cR:List AV} {sz:Nat} {els:List (List AV)} (h:Fo P f as_ sz els) (ha:eP cR as_):Fo P f cR sz els:=fun w J vs hJ hG di=>
 h w J vs hJ hG ⟨di.1.trans ha.get.1,fun i u c hu hc=>let ⟨a,h1,h2⟩:=ha.get.2 i c hc;h2 _ _ (di.2 i u a hu h1)⟩
structure ja (τ:Type) (dn:τ->Type) where
 f:FuncId
 ps:List (Pt τ)
 pre:PD dn ps->Prop
 t:τ
 res:PD dn ps->List (dn t)
def ja.Ok (P:Program) (D:TD τ dn) (c:ja τ dn):Prop:=(aX P c.f=true/\∀x:dn c.t,(D.es c.t x).all (fun v=>v.Aj)=true)/\∀(x:PD dn c.ps) (N:aL),c.pre x->Fo P c.f ((lF D c.ps x).map (SV.av D.toTE N)) (D.sz c.t) ((c.res x).map (D.ea N.ρ c.t))
theorem Ak {D D':TD τ dn} (h2:D.es=D'.es) (h3:D.ag=D'.ag) (t:τ) (x:dn t):D.en t x=D'.en t x:=by unfold TD.en;rw [h2,h3]
theorem EE {D D':TD τ dn} (h2:D.es=D'.es) (h3:D.ag=D'.ag):∀(cs:List (Bool×τ)) (x:CD dn cs),lE D cs x=lE D' cs x
 |[],_=>rfl
 |(false,t)::r,x=>by simp only [lE,Ak h2 h3,EE h2 h3 r x.2]
 |(true,t)::r,x=>by simp only [lE,h2,EE h2 h3 r x.2]
theorem Kv {D D':TD τ dn} (h2:D.es=D'.es) (h3:D.ag=D'.ag):∀(ps:List (Pt τ)) (x:PD dn ps),lF D ps x=lF D' ps x
 |[],_=>rfl
 |p::r,x=>by
  have e:p.enc D x.1=p.enc D' x.1:=by
   cases p with
   |ty t=>exact Ak h2 h3 t _
   |ptr t=>simp only [Pt.enc,h2]
   |jx f cs=>simp only [Pt.enc,EE h2 h3]
  simp only [lF,e,Kv h2 h3 r x.2]
theorem Kw {D D':TD τ dn} (h2:D.es=D'.es) (h3:D.ag=D'.ag):∀(rs:List τ) (x:RD dn rs),iZ D rs x=iZ D' rs x
 |[],_=>rfl
 |[t],x=>by simp only [iZ,Ak h2 h3]
 |t::s::r,x=>by simp only [iZ,Ak h2 h3,Kw h2 h3 (s::r) x.2]
theorem bj.Ok.two {D D':TD τ dn} {c:bj τ dn} (h:c.Ok P D) (h1:D.toTE=D'.toTE) (h2:D.es=D'.es) (h3:D.ag=D'.ag):c.Ok P D':=by
 refine ⟨h.1,fun x N hp=> ?_⟩
 have:=h.2 x N hp
 unfold bj.val at this ⊢
 rwa [Kv h2 h3,Kw h2 h3,h1] at this
end
end Go.Proofs.Ytboaekdecndckaa
