/- What functions answer, said with letters. No condition. -/
import Derived.WalkKit
import Derived.Lib.Hide
import Derived.Lib.QuietBelow
import Derived.BigQuiet
import Derived.Deep.Slices
import Derived.Below
import Derived.ShutString
import Derived.OpenShut
import Derived.SizedLaws
import Derived.Deep.OwnRows
import Derived.Test.YtboaekdecndckaaPAvSide
import Derived.Test.YtboaekdecndckaaPFieldM
import Derived.Laws.Bits64
set_option linter.unusedSimpArgs false
set_option linter.unusedVariables false
namespace Go.Proofs.Ytboaekdecndckaa
open Go.RowKit Go.Sort
abbrev B (x:UInt8):Value:= .int .u8 x.toNat
abbrev I (x:Int):Value:= .int .i64 x
theorem B_xor (x y:UInt8):bits .xor .u8 (x.toNat:Int) (y.toNat:Int)=((x^^^y).toNat:Int):=by
 rw [u8_xor_nat _ _ x.toNat_lt y.toNat_lt,UInt8.toNat_xor]
theorem B_and (x y:UInt8):bits .and .u8 (x.toNat:Int) (y.toNat:Int)=((x&&&y).toNat:Int):=by
 rw [u8_and_nat _ _ x.toNat_lt y.toNat_lt,UInt8.toNat_and]
theorem B_zero (x:UInt8):((x.toNat:Int)==0)=(x==0):=by
 rw [Bool.eq_iff_iff];simp only [beq_iff_eq];exact ⟨fun h=>by apply UInt8.toNat_inj.1;simpa using h,by rintro rfl;rfl⟩
theorem B_lt (x:UInt8):(0:Int)≤(x.toNat:Int)∧(x.toNat:Int)<256:=⟨by omega,by have:=x.toNat_lt;omega⟩
theorem bt {w a b:World} (h:Below w.heap.size w a) (k:Below a.heap.size a b):Below w.heap.size w b:=h.trans (k.mono h.size)
theorem ofInt_i64 (a:Nat) (ha:a<9223372036854775808):(BitVec.ofInt 64 (a:Int)).toNat=a:=by
 rw [BitVec.ofInt_natCast,BitVec.toNat_ofNat];exact Nat.mod_eq_of_lt (by omega)
theorem i64_xor_nat (a b:Nat) (ha:a<9223372036854775808) (hb:b<9223372036854775808):bits .xor .i64 (a:Int) (b:Int)=((a^^^b:Nat):Int):=by
 have hx:a^^^b<2^63:=Nat.xor_lt_two_pow (by omega) (by omega)
 show IntKind.i64.wrap ((BitVec.ofInt 64 (a:Int)^^^BitVec.ofInt 64 (b:Int)).toNat:Int)=_
 rw [BitVec.toNat_xor,ofInt_i64 a ha,ofInt_i64 b hb,IntKind.wrap_i64]
 omega
theorem i64_bd {n:Int} (h:(Lit.int .i64 n).wf=true): -9223372036854775808≤n∧n≤9223372036854775807:=by
 simp only [Lit.wf,Bool.and_eq_true,decide_eq_true_eq] at h
 have h1:IntKind.i64.min= -9223372036854775808:=rfl
 have h2:IntKind.i64.max=9223372036854775807:=rfl
 omega
@[go_sem] theorem cell_grow {w : World} {a : Addr} {d : Nat} {os : Array Obj} (h : (w.cell? a).isSome = true) : (grow (redrawn w d) os).cell? a = w.cell? a := by
 obtain ⟨v,hv⟩:=Option.isSome_iff_exists.1 h
 rw [hv];exact cell_regrown hv d os
theorem r2 {x:Int×Int} {a b:Int} (h:x=(a,b)):Ending.returned (.tuple #[.int .i64 a, .int .i64 b])= .returned (.tuple #[.int .i64 x.1, .int .i64 x.2]):=by subst h;rfl
theorem ri {k:IntKind} {a b:Int} (h:a=b):Ending.returned (.int k a)=Ending.returned (.int k b):=by rw [h]
theorem rb {a b:Bool} (h:a=b):Ending.returned (.bool a)=Ending.returned (.bool b):=by rw [h]
theorem and_tt {a b:Bool} (h:a=true) (k:b=true):(a&&b)=true:=by rw [h,k];rfl
open Go.RowKit Go.ChangeShapes Go.WideShapes Go.Deep
class GoT (α:Type) where
 size:Nat
 rep:World→Nat→List Value→α→Prop
 len:∀{w B cs x},rep w B cs x→cs.length=size
 keep:∀{w w':World} {B cs x},rep w B cs x→(∀p:Addr,p.block<B→w'.cell? p=w.cell? p)→rep w' B cs x
 more:∀{w B B' cs x},rep w B cs x→B≤B'→rep w B' cs x
instance:GoT Int where
 size:=1
 rep _ _ cs x:=cs=[I x]∧ -9223372036854775808≤x∧x≤9223372036854775807
 len h:=by rw [h.1];rfl
 keep h _:=h
 more h _:=h
instance:GoT UInt8 where
 size:=1
 rep _ _ cs x:=cs=[B x]
 len h:=by rw [h];rfl
 keep h _:=h
 more h _:=h
structure U64 where
 n:Nat
 lt:n<18446744073709551616
instance:GoT U64 where
 size:=1
 rep _ _ cs x:=cs=[.int .u64 (x.n:Int)]
 len h:=by rw [h];rfl
 keep h _:=h
 more h _:=h
instance:GoT Bool where
 size:=1
 rep _ _ cs x:=cs=[.bool x]
 len h:=by rw [h];rfl
 keep h _:=h
 more h _:=h
instance:GoT ByteArray where
 size:=1
 rep _ _ cs x:=cs=[.string x]∧x.size≤9223372036854775807
 len h:=by rw [h.1];rfl
 keep h _:=h
 more h _:=h
instance {α β:Type} [GoT α] [GoT β]:GoT (α×β) where
 size:=GoT.size α+GoT.size β
 rep w B cs x:=∃c0 c1,cs=c0++c1∧GoT.rep w B c0 x.1∧GoT.rep w B c1 x.2
 len:=by rintro w B cs x ⟨c0,c1,rfl,h0,h1⟩;rw [List.length_append,GoT.len h0,GoT.len h1]
 keep:=by rintro w w' B cs x ⟨c0,c1,rfl,h0,h1⟩ hk;exact ⟨c0,c1,rfl,GoT.keep h0 hk,GoT.keep h1 hk⟩
 more:=by rintro w B B' cs x ⟨c0,c1,rfl,h0,h1⟩ hk;exact ⟨c0,c1,rfl,GoT.more h0 hk,GoT.more h1 hk⟩
def SliceAt {α:Type} [GoT α] (w:World) (B b off:Nat) (xs:List α):Prop:=
 ∀i x,xs[i]? =some x→∃cs,GoT.rep w B cs x∧∀j u,cs[j]? =some u→w.cell? ⟨b,off+i*GoT.size α+j,none⟩=some u
instance {α:Type} [GoT α]:GoT (List α) where
 size:=1
 rep w B cs xs:=∃A n c,cs=[.slice A n c]∧n=xs.length∧n≤c∧c≤9223372036854775807∧(xs=[]∨∃b off,A=some ⟨b,off,none⟩∧b<B∧SliceAt w B b off xs)
 len:=by rintro w B cs x ⟨A,n,c,rfl,_⟩;rfl
 keep:=by
  rintro w w' B cs xs ⟨A,n,c,rfl,hn,hc,hm,h⟩ hk
  refine ⟨A,n,c,rfl,hn,hc,hm,h.imp id ?_⟩
  rintro ⟨b,off,hA,hb,hs⟩
  refine ⟨b,off,hA,hb,fun i x hx=> ?_⟩
  obtain ⟨cs,h1,h2⟩:=hs i x hx
  exact ⟨cs,GoT.keep h1 hk,fun j u hu=>(hk _ hb).trans (h2 j u hu)⟩
 more:=by
  rintro w B B' cs xs ⟨A,n,c,rfl,hn,hc,hm,h⟩ hk
  refine ⟨A,n,c,rfl,hn,hc,hm,h.imp id ?_⟩
  rintro ⟨b,off,hA,hb,hs⟩
  refine ⟨b,off,hA,Nat.lt_of_lt_of_le hb hk,fun i x hx=> ?_⟩
  obtain ⟨cs,h1,h2⟩:=hs i x hx
  exact ⟨cs,GoT.more h1 hk,h2⟩
@[reducible] def GoT.via {α β : Type} [GoT β] (f : α → β) : GoT α where
 size:=GoT.size β
 rep w B cs x:=GoT.rep w B cs (f x)
 len h:=GoT.len h
 keep h hk:=GoT.keep h hk
 more h hk:=GoT.more h hk
structure Opens (P:Program) (t:TypeId) (α:Type) [GoT α]:Prop where
 cells:P.cellsOf t=GoT.size α
 read:∀{H:Type} {enc:TypeId×Value→H} {W:World} {base:Nat} {sp:Nat→Bool} {held:Bool} {fuel:Nat} {cs:List Value} {y:DataW H×List MemPlace},
  DataW.trod enc P W base sp held fuel t cs=some y→∃x:α,GoT.rep W W.heap.size cs x
theorem GoT_i64 {P:Program} {t:TypeId} (hu:P.underlying t=some (.int .i64)) (hc:P.cellsOf t=1):Opens P t Int where
 cells:=hc
 read h:=by
  obtain ⟨n,rfl,_,hw⟩:=DataW.trod_int hu h
  exact ⟨n,rfl,i64_bd hw⟩
theorem GoT_bool {P:Program} {t:TypeId} (hu:P.underlying t=some .bool) (hc:P.cellsOf t=1):Opens P t Bool where
 cells:=hc
 read h:=by
  obtain ⟨n,rfl,_⟩:=DataW.trod_bool hu h
  exact ⟨n,rfl⟩
theorem GoT_str {P:Program} {t:TypeId} (hu:P.underlying t=some .string) (hc:P.cellsOf t=1):Opens P t ByteArray where
 cells:=hc
 read h:=by
  obtain ⟨n,rfl,_,hw⟩:=DataW.trod_string hu h
  exact ⟨n,rfl,hw⟩
theorem addr_add (b off i:Nat):(⟨b,off,none⟩:Addr).add i=⟨b,off+i,none⟩:=by
 unfold Addr.add
 by_cases h:i=0
 ·subst h;rfl
 ·simp [h]
theorem cell_lt {w:World} {p:Addr} {v:Value} (h:w.cell? p=some v):p.block<w.heap.size:=by
 rcases Nat.lt_or_ge p.block w.heap.size with h1|h1
 ·exact h1
 ·unfold World.cell? at h
  rw [Array.getElem?_eq_none h1] at h
  simp at h
theorem opens_slice {P:Program} {t e:TypeId} {α:Type} [GoT α] (hu:P.underlying t=some (.slice e)) (hc:P.cellsOf t=1) (he:Opens P e α) (hpos:0<GoT.size α):Opens P t (List α) where
 cells:=hc
 read:=by
  intro H enc W base sp held fuel cs y h
  rcases open_slice hu h with ⟨rfl,_⟩|⟨a,len,cap,m,n,D,Pl,rfl,hb,hl,hm,hmm,_,hx⟩
  ·exact ⟨[],none,0,0,rfl,rfl,by omega,by omega, .inl rfl⟩
  ·have hlm:len≤m:=by rw [hmm];split<;>omega
   have hel:∀i,i<len→∃x:α,∃cs,GoT.rep W W.heap.size cs x∧∀j u,cs[j]? =some u→W.cell? (a.add (i*GoT.size α+j))=some u:=by
    intro i hi
    obtain ⟨cs',h1,h2⟩:=hx i (by omega)
    obtain ⟨x,hr⟩:=he.read h2
    rw [he.cells] at h1
    obtain ⟨_,hcl,hat⟩:=World.cells?_some h1
    refine ⟨x,cs',hr,fun j u hu=> ?_⟩
    have hj:j<cs'.length:=(List.getElem?_eq_some_iff.1 hu).1
    have:=hat j (by omega)
    rw [Go.Deep.add_add] at this
    rw [this,hu]
   clear hx
   have hxs:∀k,k≤len→∃xs:List α,xs.length=k∧∀i x,xs[i]? =some x→∃cs,GoT.rep W W.heap.size cs x∧∀j u,cs[j]? =some u→W.cell? (a.add (i*GoT.size α+j))=some u:=by
    intro k
    induction k with
    |zero=>intro _;exact ⟨[],rfl,by simp⟩
    |succ k ih=>
     intro hk
     obtain ⟨xs,h1,h2⟩:=ih (by omega)
     obtain ⟨x,cs,h3,h4⟩:=hel k (by omega)
     refine ⟨xs++[x],by simp [h1],fun i z hz=> ?_⟩
     by_cases hi:i<k
     ·rw [List.getElem?_append_left (by omega)] at hz
      exact h2 i z hz
     ·rw [List.getElem?_append_right (by omega)] at hz
      obtain ⟨hi2,rfl⟩:i=k∧x=z:=by
       have:i - xs.length=0:=by
        rcases Nat.eq_zero_or_pos (i - xs.length) with h|h
        ·exact h
        ·rw [List.getElem?_eq_none (by simp;omega)] at hz;cases hz
       rw [this] at hz
       simp at hz
       exact ⟨by omega,hz⟩
      subst hi2
      exact ⟨cs,h3,h4⟩
   obtain ⟨xs,h1,h2⟩:=hxs len (Nat.le_refl _)
   refine ⟨xs,some a,len,cap,rfl,h1.symm,hl,hm, ?_⟩
   by_cases h0:xs=[]
   ·exact .inl h0
   ·right
    have hp:0<xs.length:=List.length_pos_iff.2 h0
    obtain ⟨cs0,h3,h4⟩:=h2 0 xs[0] (List.getElem?_eq_getElem hp)
    have hlen:=GoT.len h3
    have h5:=h4 0 cs0[0] (List.getElem?_eq_getElem (by omega))
    have hlt:=cell_lt h5
    obtain ⟨b,off,spot⟩:=a
    have hsp:spot=none:=by
     have:=World.cell?_spot h5
     simpa [Addr.add] using this
    subst hsp
    simp only [addr_add] at h2 h5 hlt
    refine ⟨b,off,rfl,hlt,fun i x hx=> ?_⟩
    obtain ⟨cs,h6,h7⟩:=h2 i x hx
    exact ⟨cs,h6,fun j u hu=>by rw [Nat.add_assoc];exact h7 j u hu⟩
structure OpensFields (P:Program) (fs:List Field) (off:Nat) (β:Type) [GoT β]:Prop where
 read:∀{H:Type} {enc:TypeId×Value→H} {W:World} {base:Nat} {sp:Nat→Bool} {held:Bool} {n:Nat} {cs:List Value} {ys:List (DataW H×List MemPlace)},
  cs.length=off+GoT.size β→fs.length≤ys.length→
  (∀(i:Nat) (f:Field),fs[i]? =some f→DataW.trod enc P W base sp held n f.type ((cs.drop f.offset).take (P.cellsOf f.type))=ys[i]?)→∃x:β,GoT.rep W W.heap.size (cs.drop off) x
theorem opens_last {P:Program} {f:Field} {off:Nat} {α:Type} [GoT α] (h:Opens P f.type α) (ho:f.offset=off):OpensFields P [f] off α where
 read:=by
  intro H enc W base sp held n cs ys hl hy hx
  obtain ⟨y0,ys',rfl⟩:∃y0 ys',ys=y0::ys':=by
   cases ys with
   |nil=>simp at hy
   |cons a b=>exact ⟨a,b,rfl⟩
  have h0:=hx 0 f rfl
  rw [h.cells,ho,List.take_of_length_le (by rw [List.length_drop];omega)] at h0
  exact h.read h0
theorem opens_cons {P:Program} {f:Field} {fs:List Field} {off:Nat} {α β:Type} [GoT α] [GoT β] (h:Opens P f.type α) (ho:f.offset=off) (hr:OpensFields P fs (off+GoT.size α) β):OpensFields P (f::fs) off (α×β) where
 read:=by
  intro H enc W base sp held n cs ys hl hy hx
  obtain ⟨y0,ys',rfl⟩:∃y0 ys',ys=y0::ys':=by
   cases ys with
   |nil=>simp at hy
   |cons a b=>exact ⟨a,b,rfl⟩
  have hsz:GoT.size (α×β)=GoT.size α+GoT.size β:=rfl
  have h0:=hx 0 f rfl
  rw [h.cells,ho] at h0
  obtain ⟨x,hx0⟩:=h.read (y:=y0) (by rw [h0];rfl)
  obtain ⟨z,hz⟩:=hr.read (cs:=cs) (ys:=ys') (n:=n) (by omega) (by simpa using hy) (fun i g hg=>by rw [hx (i+1) g (by simpa using hg)];rfl)
  refine ⟨(x,z),_,_, ?_,hx0,hz⟩
  rw [←List.drop_drop,List.take_append_drop]
theorem opens_struct {P:Program} {t:TypeId} {fs:Array Field} {l:List Field} {β:Type} [GoT β] (hu:P.underlying t=some (.struct fs)) (hf:fs.toList=l) (hc:P.cellsOf t=GoT.size β) (h:OpensFields P l 0 β):Opens P t β where
 cells:=hc
 read:=by
  intro H enc W base sp held fuel cs y ht
  obtain ⟨xs,n,_,_,hl,hxl,hg⟩:=DataW.trod_struct hu ht
  have hlen:l.length=fs.size:=by rw [←hf];rfl
  have:=h.read (cs:=cs) (ys:=xs) (n:=n) (by rw [hl,hc];omega) (by omega) (fun i f hi=>hg i f (by rw [←hf] at hi;simpa using hi))
  simpa using this
theorem Opens.via {P:Program} {t:TypeId} {α β:Type} [GoT β] (h:Opens P t β) (f:α→β) (g:β→α) (hg:∀x,f (g x)=x): @Opens P t α (GoT.via f):=
 @Opens.mk P t α (GoT.via f) h.cells (fun ht=>by obtain ⟨x,hx⟩:=h.read ht;exact ⟨g x,by show GoT.rep _ _ _ (f (g x));rw [hg];exact hx⟩)
theorem open_agg {P:Program} {t:TypeId} {fs:Array Field} {α:Type} [GoT α] (ho:Opens P t α) (hu:P.underlying t=some (.struct fs)) {W:World} {r:Reach} {b0:Nat} {v:Value} {H:Type} {enc:TypeId×Value→H} {base:Nat} {sp:Nat→Bool} {held:Bool} {d:DataW H} {p:List MemPlace}
  (hv:Value.okWide P W r b0 t v) (h:DataW.Trod enc P W base sp held t v d p):∃(x:α) (cs:List Value),v= .agg cs.toArray∧GoT.rep W W.heap.size cs x:=by
 obtain ⟨cs,rfl,_⟩:=okWide_struct hu hv
 obtain ⟨fuel,hf⟩:=h
 obtain ⟨x,hx⟩:=ho.read hf
 exact ⟨x,cs.toList,rfl,hx⟩
open Go.RowKit
@[ext] structure Layout where
 nodes:Int
 data:Int
 more:Int
 turn:Int
instance:GoT Layout:=GoT.via (fun x=>(x.nodes,x.data,x.more,x.turn))
@[go_sem, simp] theorem Layout.eta (x : Layout) : (⟨x.nodes, x.data, x.more, x.turn⟩ : Layout) = x := rfl
@[ext] structure Lease where
 holder:Int
 till:Int
 token:Int
instance:GoT Lease:=GoT.via (fun x=>(x.holder,x.till,x.token))
@[go_sem, simp] theorem Lease.eta (x : Lease) : (⟨x.holder, x.till, x.token⟩ : Lease) = x := rfl
@[ext] structure Fence where
 seen:Int
instance:GoT Fence:=GoT.via (fun x=>x.seen)
@[go_sem, simp] theorem Fence.eta (x : Fence) : (⟨x.seen⟩ : Fence) = x := rfl
@[ext] structure Stp where
 time:Int
 who:Int
instance:GoT Stp:=GoT.via (fun x=>(x.time,x.who))
@[go_sem, simp] theorem Stp.eta (x : Stp) : (⟨x.time, x.who⟩ : Stp) = x := rfl
@[ext] structure Copy where
 at_:Stp
 data:ByteArray
instance:GoT Copy:=GoT.via (fun x=>(x.at_,x.data))
@[go_sem, simp] theorem Copy.eta (x : Copy) : (⟨x.at_, x.data⟩ : Copy) = x := rfl
@[ext] structure Bucket where
 level:Int
 now:Int
 burst:Int
 rate:Int
instance:GoT Bucket:=GoT.via (fun x=>(x.level,x.now,x.burst,x.rate))
@[go_sem, simp] theorem Bucket.eta (x : Bucket) : (⟨x.level, x.now, x.burst, x.rate⟩ : Bucket) = x := rfl
@[ext] structure Term where
 begin:Int
 end_:Int
instance:GoT Term:=GoT.via (fun x=>(x.begin,x.end_))
@[go_sem, simp] theorem Term.eta (x : Term) : (⟨x.begin, x.end_⟩ : Term) = x := rfl
@[ext] structure Msg where
 kind:Int
 op:Int
 node:Int
 copy:Copy
instance:GoT Msg:=GoT.via (fun x=>(x.kind,x.op,x.node,x.copy))
@[go_sem, simp] theorem Msg.eta (x : Msg) : (⟨x.kind, x.op, x.node, x.copy⟩ : Msg) = x := rfl
@[ext] structure Epoch where
 no:Int
 members:U64
instance:GoT Epoch:=GoT.via (fun x=>(x.no,x.members))
@[go_sem, simp] theorem Epoch.eta (x : Epoch) : (⟨x.no, x.members⟩ : Epoch) = x := rfl
@[ext] structure Record where
 block:Int
 data:ByteArray
instance:GoT Record:=GoT.via (fun x=>(x.block,x.data))
@[go_sem, simp] theorem Record.eta (x : Record) : (⟨x.block, x.data⟩ : Record) = x := rfl
@[ext] structure Act where
 kind:Int
 n:Int
 data:ByteArray
instance:GoT Act:=GoT.via (fun x=>(x.kind,x.n,x.data))
@[go_sem, simp] theorem Act.eta (x : Act) : (⟨x.kind, x.n, x.data⟩ : Act) = x := rfl
@[ext] structure Vote where
 kind:Int
 bid:Int
 node:Int
 copy:Copy
instance:GoT Vote:=GoT.via (fun x=>(x.kind,x.bid,x.node,x.copy))
@[go_sem, simp] theorem Vote.eta (x : Vote) : (⟨x.kind, x.bid, x.node, x.copy⟩ : Vote) = x := rfl
@[ext] structure Seat where
 promised:Stp
 kept:Copy
instance:GoT Seat:=GoT.via (fun x=>(x.promised,x.kept))
@[go_sem, simp] theorem Seat.eta (x : Seat) : (⟨x.promised, x.kept⟩ : Seat) = x := rfl
@[ext] structure Bid where
 time:Int
 phase:Int
 own:ByteArray
 value:ByteArray
 best:Copy
 heard:U64
instance:GoT Bid:=GoT.via (fun x=>(x.time,x.phase,x.own,x.value,x.best,x.heard))
@[go_sem, simp] theorem Bid.eta (x : Bid) : (⟨x.time, x.phase, x.own, x.value, x.best, x.heard⟩ : Bid) = x := rfl
@[ext] structure Ask where
 op:Int
 kind:Int
 phase:Int
 data:ByteArray
 best:Copy
 heard:U64
instance:GoT Ask:=GoT.via (fun x=>(x.op,x.kind,x.phase,x.data,x.best,x.heard))
@[go_sem, simp] theorem Ask.eta (x : Ask) : (⟨x.op, x.kind, x.phase, x.data, x.best, x.heard⟩ : Ask) = x := rfl
@[ext] structure Step where
 kind:Int
 n:Int
 data:ByteArray
instance:GoT Step:=GoT.via (fun x=>(x.kind,x.n,x.data))
@[go_sem, simp] theorem Step.eta (x : Step) : (⟨x.kind, x.n, x.data⟩ : Step) = x := rfl
open Go.RowKit
inductive R2 (R:Value→AV→Prop):List Value→List AV→Prop
 |nil:R2 R [] []
 |cons {v:Value} {a:AV} {vs:List Value} {as_:List AV} (h:R v a) (t:R2 R vs as_):R2 R (v::vs) (a::as_)
theorem R2.len {R:Value→AV→Prop} {vs:List Value} {as_:List AV} (h:R2 R vs as_):vs.length=as_.length:=by
 induction h with
 |nil=>rfl
 |cons _ _ ih=>simp [ih]
theorem R2.get {R:Value→AV→Prop} {vs:List Value} {as_:List AV} (h:R2 R vs as_):∀(i:Nat) v a,vs[i]? =some v→as_[i]? =some a→R v a:=by
 induction h with
 |nil=>intro i v a hv;simp at hv
 |cons h _ ih=>
  intro i v a hv ha
  cases i with
  |zero=>simp at hv ha;subst hv;subst ha;exact h
  |succ i=>exact ih i v a (by simpa using hv) (by simpa using ha)
theorem R2.rc {E:Env} {vs:List Value} {as_:List AV} (h:R2 (Rep E) vs as_):RC E vs.toArray as_:=⟨by simpa using h.len,fun j u c hu hc=>h.get j u c (by simpa using hu) hc⟩
theorem R2.agg {E:Env} {vs:List Value} {as_:List AV} (h:R2 (Rep E) vs as_):Rep E (.agg vs.toArray) (.agg as_):= .agg (by simpa using h.len) fun j u c hu hc=>h.get j u c (by simpa using hu) hc
theorem fn_law {P:Program} {f:FuncId} {vs:List Value} {as_:List AV} {w:World} (h:Fn P f as_ (.v (.bool true))) (hG:GlE (E0 w fun b=>b<w.heap.size)) (hrc:R2 (Rep (E0 w fun b=>b<w.heap.size)) vs as_):
  Calls P f vs.toArray w fun e w'=>e= .returned (.bool true)∧Below w.heap.size w w':=
 (h w _ vs.toArray (fun _ h=>h) hG hrc.rc).mono fun e w' ⟨v,he,hr,hb⟩=>⟨he.trans (by rw [hr.v_inv]),hb⟩
open Go.RowKit
inductive Cn where
 |lt (x y:Int)
 |le (x y:Int)
 |eq (x y:Int)
 |ey (x y:UInt8)
 |ly (x y:UInt8)
 |ez (x y:ByteArray)
 |lz (x y:ByteArray)
 |b (x:Bool)
 |eb (x y:Bool)
 |not (c:Cn)
 |and (c d:Cn)
 |or (c d:Cn)
def Cn.den:Cn→Bool
 | .lt x y=>decide (x<y)
 | .le x y=>decide (x≤y)
 | .eq x y=>x==y
 | .ey x y=>x==y
 | .ly x y=>decide (x<y)
 | .ez x y=>strEq x y
 | .lz x y=>Op.bytesLess x.toList y.toList
 | .b x=>x
 | .eb x y=>x==y
 | .not c=> !c.den
 | .and c d=>c.den&&d.den
 | .or c d=>c.den||d.den
def Cn.tf:Cn→Bool→Prop
 | .lt x y,true=>x<y
 | .lt x y,false=>y≤x
 | .le x y,true=>x≤y
 | .le x y,false=>y<x
 | .eq x y,true=>x=y
 | .eq x y,false=>¬x=y
 | .ey x y,true=>x=y
 | .ey x y,false=>¬x=y
 | .ly x y,true=>x<y
 | .ly x y,false=>y≤x
 | .ez x y,true=>x=y
 | .ez x y,false=>¬x=y
 | .lz x y,p=>Op.bytesLess x.toList y.toList=p
 | .b x,p=>x=p
 | .eb x y,true=>x=y
 | .eb x y,false=>¬x=y
 | .not c,p=>c.tf (!p)
 | .and c d,true=>c.tf true∧d.tf true
 | .and c d,false=>c.tf false∨d.tf false
 | .or c d,true=>c.tf true∨d.tf true
 | .or c d,false=>c.tf false∧d.tf false
theorem sxEq_iff {a b:ByteArray}:strEq a b=true↔a=b:=by
 unfold strEq
 rw [beq_iff_eq]
 constructor
 ·intro h
  have:a.data=b.data:=by rw [←Array.toList_inj];exact h
  cases a;cases b;simp_all
 ·intro h;rw [h]
theorem Cn.tf_iff (c:Cn) (p:Bool):c.tf p↔c.den=p:=by
 induction c generalizing p with
 |lt x y=>cases p<;>simp [tf,den]
 |le x y=>cases p<;>simp [tf,den]
 |eq x y=>cases p<;>simp [tf,den]
 |ey x y=>cases p<;>simp [tf,den]
 |ly x y=>cases p<;>simp [tf,den]
 |ez x y=>
  cases p
  ·simp only [tf,den,Bool.eq_false_iff,ne_eq,sxEq_iff]
  ·simp only [tf,den,sxEq_iff]
 |lz x y=>cases p<;>simp [tf,den]
 |b x=>cases p<;>simp [tf,den]
 |eb x y=>cases p<;>simp [tf,den]
 |not c ih=>simp only [tf,den,ih];cases c.den<;>cases p<;>simp
 |and c d ihc ihd=>cases p<;>simp [tf,den,ihc,ihd]<;>cases c.den<;>simp
 |or c d ihc ihd=>cases p<;>simp [tf,den,ihc,ihd]<;>cases c.den<;>simp
inductive RK where
 |nil
 |own
 |lst
structure Row (α:Type) where
 kd:RK
 id:Nat
 n:Nat
 xs:List α
def Row.no (α:Type):Row α:=⟨.nil,0,0,[]⟩
def Row.at (α:Type) (id n:Nat):Row α:=⟨.own,id,n,[]⟩
def Row.fix (α:Type) (xs:List α):Row α:=⟨.lst,0,0,xs⟩
inductive SV (τ:Type) (dn:τ→Type) where
 |vi (x:Int)
 |vn (x:Int)
 |vy (x:UInt8)
 |vu (x:U64)
 |vw (q:IntKind) (x:Int)
 |vb (c:Cn)
 |vt (x:Bool)
 |vz (s:ByteArray)
 |vo (x:Value)
 |agg (cs:List (SV τ dn))
 |tup (cs:List (SV τ dn))
 |vl (t:τ) (xs:List (dn t))
 |vc (sz:Nat) (els:List (List (SV τ dn)))
 |emp
 |pim (cs:List (SV τ dn)) (o:Nat)
 |ref (nm sz i o:Nat)
 |own (nm sz:Nat)
 |part (nm sz off len:Nat)
 |fn (f:FuncId) (cs:List (SV τ dn))
 |bf (f:FuncId) (cs:List (SV τ dn))
 |mp (nm:Nat)
 |rw (t:τ) (r:Row (dn t))
 |rwp (t:τ) (r:Row (dn t)) (i o:Nat)
 |vg (p:Bool) (c:Cn) (v:SV τ dn)
 |dead
section
variable {τ:Type} {dn:τ→Type}
mutual
def SV.fr (p:Nat→Bool):SV τ dn→Bool
 | .own nm _| .part nm _ _ _| .ref nm _ _ _| .mp nm=>p nm
 | .agg cs| .tup cs| .pim cs _| .fn _ cs| .bf _ cs=>SV.frL p cs
 | .vc _ els=>SV.frM p els
 | .vg _ _ v=>SV.fr p v
 |_=>true
def SV.frL (p:Nat→Bool):List (SV τ dn)→Bool
 |[]=>true
 |v::r=>SV.fr p v&&SV.frL p r
def SV.frM (p:Nat→Bool):List (List (SV τ dn))→Bool
 |[]=>true
 |cs::r=>SV.frL p cs&&SV.frM p r
end
end
structure TE (τ:Type) (dn:τ→Type) where
 sz:τ→Nat
 ea:(ρ:Nat→AV)→(t:τ)→dn t→List AV
structure Nms where
 ι:Nat→Nat
 ln:Nat→Nat
 ρ:Nat→AV
section
variable {τ:Type} {dn:τ→Type} (E:TE τ dn) (N:Nms)
mutual
def SV.av:SV τ dn→AV
 | .vi x=> .v (.int .i64 x)
 | .vn x=> .v (.int .i64 x)
 | .vy x=> .v (.int .u8 x.toNat)
 | .vu x=> .v (.int .u64 (x.n:Int))
 | .vw q x=> .v (.int q x)
 | .vb c=> .v (.bool c.den)
 | .vt x=> .v (.bool x)
 | .vz s=> .v (.string s)
 | .vo x=> .v x
 | .agg cs=> .agg (SV.avL cs)
 | .tup cs=> .tup (SV.avL cs)
 | .vl ty xs=> .lst (E.sz ty) (xs.map (E.ea N.ρ ty))
 | .vc sz els=> .lst sz (SV.avM els)
 | .emp=> .emp
 | .pim cs o=> .pim (SV.avL cs) o
 | .ref nm sz i o=> .ref (N.ι nm) sz i o
 | .own nm sz=> .own (N.ι nm) sz 0 (N.ln nm)
 | .part nm sz off len=> .own (N.ι nm) sz off len
 | .fn f cs=> .fn f (SV.avL cs)
 | .bf f cs=> .bf f (SV.avL cs)
 | .mp nm=> .mp (N.ι nm)
 | .rw t r=>match r.kd with
  | .nil=> .emp
  | .own=> .own r.id (E.sz t) 0 r.n
  | .lst=> .lst (E.sz t) (r.xs.map (E.ea N.ρ t))
 | .rwp t r i o=>match r.kd with
  | .nil=> .dead
  | .own=> .ref r.id (E.sz t) i o
  | .lst=>match r.xs[i]? with
   |some x=> .pim (E.ea N.ρ t x) o
   |none=> .dead
 | .vg p c v=>if c.den=p then SV.av v else .v undef
 | .dead=> .dead
def SV.avL:List (SV τ dn)→List AV
 |[]=>[]
 |v::r=>SV.av v::SV.avL r
def SV.avM:List (List (SV τ dn))→List (List AV)
 |[]=>[]
 |cs::r=>SV.avL cs::SV.avM r
end
theorem SV.avL_map (cs:List (SV τ dn)):SV.avL E N cs=cs.map (SV.av E N):=by
 induction cs with
 |nil=>simp [SV.avL]
 |cons v r ih=>simp [SV.avL,ih]
theorem SV.avM_map (els:List (List (SV τ dn))):SV.avM E N els=els.map fun cs=>cs.map (SV.av E N):=by
 induction els with
 |nil=>simp [SV.avM]
 |cons v r ih=>simp [SV.avM,ih,SV.avL_map]
inductive SB (τ:Type) (dn:τ→Type) where
 |bl (t:τ) (xs:List (dn t))
 |bc (sz:Nat) (els:List (List (SV τ dn)))
 |mc (els:List (List (SV τ dn)))
 |ar (t:τ) (A:List (Nat×List (dn t)))
def SB.av:SB τ dn→Bk
 | .bl ty xs=>⟨E.sz ty,xs.map (E.ea N.ρ ty)⟩
 | .bc sz els=>⟨sz,SV.avM E N els⟩
 | .mc els=>⟨0,SV.avM E N els⟩
 | .ar ty _=>⟨E.sz ty,[]⟩
def SB.len:SB τ dn→Nat
 | .bl _ xs=>xs.length
 | .bc _ els=>els.length
 | .mc _=>0
 | .ar _ _=>0
def SB.isA:SB τ dn→Bool
 | .ar _ _=>true
 |_=>false
def SB.isM:SB τ dn→Bool
 | .mc _=>true
 |_=>false
theorem SB.av_len (B:SB τ dn) (h:B.isM=false):(B.av E N).els.length=B.len:=by
 cases B with
 |bl t xs=>simp [SB.av,SB.len]
 |bc sz els=>simp [SB.av,SB.len,SV.avM_map]
 |mc els=>simp [SB.isM] at h
 |ar t A=>simp [SB.av,SB.len]
end
section
variable {τ:Type} {dn:τ→Type}
def SV.cells:SV τ dn→List (SV τ dn)
 | .agg cs=>cs
 |a=>[a]
def SV.one:SV τ dn→Bool
 | .agg _| .tup _| .dead| .vg _ _ _| .rwp _ _ _ _=>false
 | .vo x=>x.oneCell'
 |_=>true
def SV.solid:SV τ dn→Bool
 | .agg _=>true
 |a=>a.one
theorem SV.cells_av {E:TE τ dn} {N:Nms} {v:SV τ dn} (h:v.solid=true):(v.av E N).cells=v.cells.map (SV.av E N):=by
 cases v<;>simp [SV.solid,SV.one] at h<;>first
  |(simp [SV.av,AV.cells,SV.cells,SV.avL_map];done)
  |(simp only [SV.av,SV.cells,List.map_cons,List.map_nil];(repeat' split)<;>rfl)
theorem SV.one_av {E:TE τ dn} {N:Nms} {v:SV τ dn} (h:v.one=true):(v.av E N).one=true:=by
 cases v<;>simp [SV.one] at h<;>first|exact h|rfl|(simp only [SV.av];(repeat' split)<;>rfl)
theorem SV.solid_av {E:TE τ dn} {N:Nms} {v:SV τ dn} (h:v.solid=true):(v.av E N).solid=true:=by
 cases v<;>simp [SV.solid,SV.one] at h<;>first|exact h|rfl|(simp only [SV.av];(repeat' split)<;>rfl)
end
section
variable {α:Type}
def hasA (A:List (Nat×α)) (id:Nat):Prop:=id∈A.map Prod.fst
def lkD (d:α):List (Nat×α)→Nat→α
 |[],_=>d
 |(j,x)::r,id=>if id=j then x else lkD d r id
def lkA (A:List (Nat×List α)) (id:Nat):List α:=lkD [] A id
theorem hasA_nil {id:Nat}:¬hasA ([]:List (Nat×α)) id:=by simp [hasA]
theorem hasA_cons {j:Nat} {x:α} {A:List (Nat×α)} {id:Nat}:hasA ((j,x)::A) id↔id=j∨hasA A id:=by simp [hasA]
theorem lkA_cons {j:Nat} {x:List α} {A:List (Nat×List α)} {id:Nat}:lkA ((j,x)::A) id=if id=j then x else lkA A id:=rfl
def Row.get (r:Row α) (A:List (Nat×List α)):List α:=match r.kd with
 | .nil=>[]
 | .own=>lkA A r.id
 | .lst=>r.xs
def Row.ok (r:Row α) (A:List (Nat×List α)):Prop:=match r.kd with
 | .own=>hasA A r.id∧(lkA A r.id).length=r.n
 |_=>True
@[simp, grind =] theorem Row.at_id {id n : Nat} : (Row.at α id n).id = id := rfl
@[simp, grind =] theorem Row.at_n {id n : Nat} : (Row.at α id n).n = n := rfl
@[simp, grind =] theorem Row.at_kd {id n : Nat} : (Row.at α id n).kd = .own := rfl
@[simp, grind =] theorem Row.no_kd : (Row.no α).kd = .nil := rfl
@[simp, grind =] theorem Row.fix_kd {xs : List α} : (Row.fix α xs).kd = .lst := rfl
@[simp, grind =] theorem Row.fix_xs {xs : List α} : (Row.fix α xs).xs = xs := rfl
def Row.mine (r:Row α) (A:List (Nat×List α)):Prop:=r.kd= .own∧hasA A r.id∧(lkA A r.id).length=r.n
end
open Go.RowKit
def I64 (x:Int):Prop:= -9223372036854775808≤x∧x≤9223372036854775807
theorem I64.wr {x:Int} (h:I64 x):IntKind.i64.wrap x=x:=by rw [IntKind.wrap_i64];unfold I64 at h;omega
def uN (n:Nat):U64:=⟨n%18446744073709551616,Nat.mod_lt _ (by decide)⟩
theorem uN_n {n:Nat} (h:n<18446744073709551616):(uN n).n=n:=Nat.mod_eq_of_lt h
theorem wrap_u8 (x:Int):IntKind.u8.wrap x=x%256:=by simp [IntKind.wrap,IntKind.bits,IntKind.signed]
theorem wrap_u64 (x:Int):IntKind.u64.wrap x=x%18446744073709551616:=by simp [IntKind.wrap,IntKind.bits,IntKind.signed]
theorem bits_nat (op:BinOp) (k:IntKind) (a b:Nat):bits op k a b=k.wrap ((match op with
  | .and=>BitVec.ofNat k.bits a&&&BitVec.ofNat k.bits b
  | .or=>BitVec.ofNat k.bits a|||BitVec.ofNat k.bits b
  | .xor=>BitVec.ofNat k.bits a^^^BitVec.ofNat k.bits b
  |_=>BitVec.ofNat k.bits a&&& ~~~BitVec.ofNat k.bits b).toNat:Int):=by
 unfold bits;simp only [BitVec.ofInt_natCast]
 cases op<;>rfl
def opN:BinOp→Nat→Nat→Nat
 | .and,a,b=>a&&&b
 | .or,a,b=>a|||b
 | .xor,a,b=>a^^^b
 |_,a,b=>a&&&(a^^^b)
theorem andNot_nat (a b:Nat) (n:Nat) (ha:a<2^n):(BitVec.ofNat n a&&& ~~~BitVec.ofNat n b).toNat=a&&&(a^^^(b%2^n)):=by
 rw [BitVec.toNat_and,BitVec.toNat_not,BitVec.toNat_ofNat,BitVec.toNat_ofNat,Nat.mod_eq_of_lt ha]
 apply Nat.eq_of_testBit_eq
 intro i
 rw [Nat.testBit_and,Nat.testBit_and,Nat.testBit_xor,show 2^n - 1 - b%2^n=2^n - (b%2^n+1) by omega,Nat.testBit_two_pow_sub_succ (Nat.mod_lt _ (Nat.two_pow_pos n))]
 cases h:a.testBit i with
 |false=>simp
 |true=>
  have hi:i<n:=by
   by_cases hi:i<n
   ·exact hi
   ·exfalso
    have:a<2^i:=Nat.lt_of_lt_of_le ha (Nat.pow_le_pow_right (by decide) (by omega))
    rw [Nat.testBit_lt_two_pow this] at h;simp at h
  simp [hi]
theorem bits_opN (op:BinOp) (k:IntKind) (a b:Nat) (ha:a<2^k.bits) (hb:b<2^k.bits):bits op k a b=k.wrap (opN op a b:Nat):=by
 rw [bits_nat]
 have h1:=Nat.mod_eq_of_lt ha
 have h2:=Nat.mod_eq_of_lt hb
 cases op<;>simp only [opN]<;>first
  |rw [BitVec.toNat_and,BitVec.toNat_ofNat,BitVec.toNat_ofNat,h1,h2]
  |rw [BitVec.toNat_or,BitVec.toNat_ofNat,BitVec.toNat_ofNat,h1,h2]
  |rw [BitVec.toNat_xor,BitVec.toNat_ofNat,BitVec.toNat_ofNat,h1,h2]
  |rw [andNot_nat _ _ _ ha,h2]
theorem opN_lt (op:BinOp) {n a b:Nat} (ha:a<2^n) (hb:b<2^n):opN op a b<2^n:=by
 cases op<;>simp only [opN]<;>first
  |exact Nat.or_lt_two_pow ha hb
  |exact Nat.xor_lt_two_pow ha hb
  |exact Nat.lt_of_le_of_lt Nat.and_le_left ha
theorem opN_le (op:BinOp) (a b:Nat) (h:a<2^63) (h2:b<2^63):opN op a b<2^63:=opN_lt op h h2
theorem bits_int (op:BinOp) (x y:Int) (hx:0≤x) (hy:0≤y) (hx2:I64 x) (hy2:I64 y):bits op .i64 x y=((opN op x.toNat y.toNat:Nat):Int):=by
 unfold I64 at hx2 hy2
 have e1:((x.toNat:Nat):Int)=x:=by omega
 have e2:((y.toNat:Nat):Int)=y:=by omega
 have h1:x.toNat<2^63:=by omega
 have h2:y.toNat<2^63:=by omega
 have:=bits_opN op .i64 x.toNat y.toNat (Nat.lt_trans h1 (by decide)) (Nat.lt_trans h2 (by decide))
 rw [e1,e2] at this
 rw [this]
 have h3:=opN_le op _ _ h1 h2
 have h4:opN op x.toNat y.toNat<9223372036854775808:=h3
 exact I64.wr ⟨by omega,by omega⟩
def opY:BinOp→UInt8→UInt8→UInt8
 | .and,a,b=>a&&&b
 | .or,a,b=>a|||b
 | .xor,a,b=>a^^^b
 |_,a,b=>a&&&(a^^^b)
theorem opY_toNat (op:BinOp) (a b:UInt8):(opY op a b).toNat=opN op a.toNat b.toNat:=by
 cases op<;>simp [opY,opN]
theorem bits_u8 (op:BinOp) (a b:UInt8):bits op .u8 (a.toNat:Int) (b.toNat:Int)=((opY op a b).toNat:Int):=by
 rw [bits_opN op .u8 _ _ a.toNat_lt b.toNat_lt,opY_toNat,wrap_u8]
 have:opN op a.toNat b.toNat<2^8:=opN_lt op a.toNat_lt b.toNat_lt
 omega
def opU (op:BinOp) (a b:U64):U64:=uN (opN op a.n b.n)
theorem opU_n (op:BinOp) (a b:U64):(opU op a b).n=opN op a.n b.n:=uN_n (by
 have:opN op a.n b.n<2^64:=opN_lt op a.lt b.lt
 exact this)
theorem bits_u64 (op:BinOp) (a b:U64):bits op .u64 (a.n:Int) (b.n:Int)=((opU op a b).n:Int):=by
 rw [bits_opN op .u64 _ _ a.lt b.lt,opU_n,wrap_u64]
 have:opN op a.n b.n<2^64:=opN_lt op a.lt b.lt
 omega
theorem add_u8 (a b:UInt8):IntKind.u8.wrap ((a.toNat:Int)+b.toNat)=((a+b).toNat:Int):=by
 rw [wrap_u8,UInt8.toNat_add];omega
theorem sub_u8 (a b:UInt8):IntKind.u8.wrap ((a.toNat:Int) - b.toNat)=((a - b).toNat:Int):=by
 rw [wrap_u8,UInt8.toNat_sub];have:=b.toNat_lt;omega
theorem mul_u8 (a b:UInt8):IntKind.u8.wrap ((a.toNat:Int)*b.toNat)=((a*b).toNat:Int):=by
 rw [wrap_u8,UInt8.toNat_mul, ←Int.natCast_mul];omega
theorem add_u64 (a b:U64):IntKind.u64.wrap ((a.n:Int)+b.n)=((uN (a.n+b.n)).n:Int):=by
 rw [wrap_u64];show _=(((a.n+b.n)%18446744073709551616:Nat):Int);omega
theorem sub_u64 (a b:U64):IntKind.u64.wrap ((a.n:Int) - b.n)=((uN (a.n+18446744073709551616 - b.n)).n:Int):=by
 have:=b.lt
 rw [wrap_u64];show _=(((a.n+18446744073709551616 - b.n)%18446744073709551616:Nat):Int);omega
theorem mul_u64 (a b:U64):IntKind.u64.wrap ((a.n:Int)*b.n)=((uN (a.n*b.n)).n:Int):=by
 rw [wrap_u64, ←Int.natCast_mul];show _=(((a.n*b.n)%18446744073709551616:Nat):Int);omega
def shlY (a:UInt8) (k:Nat):UInt8:=UInt8.ofNat (a.toNat*2^(min k 8))
def shrY (a:UInt8) (k:Nat):UInt8:=UInt8.ofNat (a.toNat / 2^(min k 8))
theorem cast_mul_pow (a k:Nat):((a:Int)*2^k)=((a*2^k:Nat):Int):=by rw [Int.natCast_mul,Int.natCast_pow];rfl
theorem shl_u8 (a:UInt8) (k:Nat):IntKind.u8.wrap ((a.toNat:Int)*2^(min k IntKind.u8.bits))=((shlY a k).toNat:Int):=by
 have e:(shlY a k).toNat=a.toNat*2^min k 8%256:=by unfold shlY;exact UInt8.toNat_ofNat ..
 rw [wrap_u8,e,show IntKind.u8.bits=8 from rfl,cast_mul_pow,Int.natCast_emod];rfl
theorem fdiv_pow (a k:Nat):((a:Int).fdiv (2^k))=((a / 2^k:Nat):Int):=by
 rw [show (2:Int)^k=((2^k:Nat):Int) by simp]
 exact Int.fdiv_eq_ediv_of_nonneg _ (Int.natCast_nonneg _)
theorem shr_u8 (a:UInt8) (k:Nat):((a.toNat:Int).fdiv (2^(min k IntKind.u8.bits)))=((shrY a k).toNat:Int):=by
 have e:(shrY a k).toNat=a.toNat / 2^min k 8%256:=by unfold shrY;exact UInt8.toNat_ofNat ..
 have h:a.toNat / 2^min k 8<256:=Nat.lt_of_le_of_lt (Nat.div_le_self _ _) a.toNat_lt
 rw [e,Nat.mod_eq_of_lt h,show IntKind.u8.bits=8 from rfl,fdiv_pow]
theorem shl_u64 (a:U64) (k:Nat):IntKind.u64.wrap ((a.n:Int)*2^(min k IntKind.u64.bits))=((uN (a.n*2^min k 64)).n:Int):=by
 rw [wrap_u64,show IntKind.u64.bits=64 from rfl,cast_mul_pow]
 show _=(((a.n*2^min k 64)%18446744073709551616:Nat):Int);rw [Int.natCast_emod];rfl
theorem shr_u64 (a:U64) (k:Nat):((a.n:Int).fdiv (2^(min k IntKind.u64.bits)))=((uN (a.n / 2^min k 64)).n:Int):=by
 have h:a.n / 2^min k 64<18446744073709551616:=Nat.lt_of_le_of_lt (Nat.div_le_self _ _) a.lt
 rw [uN_n h,show IntKind.u64.bits=64 from rfl,fdiv_pow]
theorem shl_i64 (x:Int) (k:Nat) (h:I64 (x*2^k)):IntKind.i64.wrap (x*2^(min k IntKind.i64.bits))=x*2^k:=by
 rw [show IntKind.i64.bits=64 from rfl]
 by_cases hk:k≤64
 ·rw [Nat.min_eq_left hk];exact h.wr
 ·rw [Nat.min_eq_right (by omega)]
  have h0:x=0:=by
   obtain ⟨j,rfl⟩:∃j,k=64+j:=⟨k - 64,by omega⟩
   have hp:(1:Int)≤2^j:=by exact_mod_cast Nat.two_pow_pos j
   unfold I64 at h
   rw [Int.pow_add] at h
   by_cases hx:0<x
   ·exfalso
    have h2:x*(2^64*1)≤x*(2^64*2^j):=Int.mul_le_mul_of_nonneg_left (Int.mul_le_mul_of_nonneg_left hp (by decide)) (by omega)
    have:=h.2;omega
   ·by_cases hx2:x<0
    ·exfalso
     have h2:(-x)*(2^64*1)≤(-x)*(2^64*2^j):=Int.mul_le_mul_of_nonneg_left (Int.mul_le_mul_of_nonneg_left hp (by decide)) (by omega)
     rw [Int.neg_mul (b:=2^64*2^j)] at h2
     have:=h.1;omega
    ·omega
  rw [h0];simp;exact I64.wr ⟨by decide,by decide⟩
theorem shr_i64 (x:Int) (k:Nat) (h:k≤64):x.fdiv (2^(min k IntKind.i64.bits))=x / 2^k:=by
 rw [show IntKind.i64.bits=64 from rfl,Nat.min_eq_left h]
 exact Int.fdiv_eq_ediv_of_nonneg _ (Int.pow_nonneg (by decide))
theorem quo_i64 {x y:Int} (h:0≤x∧0<y∧I64 x):IntKind.i64.wrap (x.tdiv y)=x / y:=by
 rw [Int.tdiv_eq_ediv_of_nonneg h.1]
 have h1:=Int.ediv_nonneg (b:=y) h.1 (by omega)
 have h2:=Int.ediv_le_self y h.1
 have:=h.2.2
 unfold I64 at this
 exact I64.wr ⟨by omega,by omega⟩
theorem rem_i64 {x y:Int} (h:0≤x):x.tmod y=x%y:=Int.tmod_eq_emod_of_nonneg h
theorem conv_u8 {x:Int} (h:0≤x):IntKind.u8.wrap x=((UInt8.ofNat x.toNat).toNat:Int):=by
 have e:(UInt8.ofNat x.toNat).toNat=x.toNat%256:=UInt8.toNat_ofNat ..
 rw [wrap_u8,e];omega
theorem conv_u64 {x:Int} (h:0≤x):IntKind.u64.wrap x=((uN x.toNat).n:Int):=by
 rw [wrap_u64];show _=((x.toNat%18446744073709551616:Nat):Int);omega
open Go.RowKit
def gd {α:Type} (d:α) (xs:List α) (i:Nat):α:=(xs[i]?).getD d
theorem gd_get {α:Type} {d:α} {xs:List α} {i:Nat} (h:i<xs.length):xs[i]? =some (gd d xs i):=by
 unfold gd;rw [List.getElem?_eq_getElem h];rfl
theorem gd_drop {α:Type} (d:α) {xs:List α} {i:Nat} (h:i<xs.length):xs.drop i=gd d xs i::xs.drop (i+1):=by
 rw [List.drop_eq_getElem_cons h];unfold gd;rw [List.getElem?_eq_getElem h];rfl
theorem gd_mem {α:Type} {d:α} {xs:List α} {i:Nat} (h:i<xs.length):gd d xs i∈xs:=List.mem_of_getElem? (gd_get h)
def gb (s:ByteArray) (i:Nat):UInt8:=(s[i]?).getD 0
structure TD (τ:Type) (dn:τ→Type) extends TE τ dn where
 df:(t:τ)→dn t
 es:(t:τ)→dn t→List (SV τ dn)
 ds:(t:τ)→List (SV τ dn)→Option (dn t)
 ag:τ→Bool
 pu:τ→Bool
 hint:Nat→Nat→Option τ
 neg:Bool
 em:τ→Bool:=fun _=>false
 ar:Option τ:=none
 hr:τ→Bool:=fun _=>false
 fz:(t ta:τ)→(A:List (Nat×List (dn ta)))→Option ((t':τ)×(dn t→dn t')×(dn t→Prop)):=fun _ _ _=>none
 bt:(t:τ)→Option ((dn t→UInt8)×(UInt8→dn t)):=fun _=>none
 th:(t t':τ)→Option (dn t→dn t'):=fun _ _=>none
def SV.ne {τ:Type} {dn:τ→Type}:SV τ dn→Bool
 | .emp=>false
 |_=>true
def TD.nee {τ:Type} {dn:τ→Type} (D:TD τ dn) (t:τ) (cs:List (SV τ dn)):Bool:=D.em t||cs.all SV.ne
structure TDok {τ:Type} {dn:τ→Type} (D:TD τ dn):Prop where
 es_av:∀(N:Nms) (t:τ) (x:dn t),(D.es t x).map (SV.av D.toTE N)=D.ea N.ρ t x
 ds_le:∀(N:Nms) (t:τ) (cs:List (SV τ dn)) (x:dn t),D.ds t cs=some x→AleL (cs.map (SV.av D.toTE N)) (D.ea N.ρ t x)
 ds_eq:∀(N:Nms) (t:τ) (cs:List (SV τ dn)) (x:dn t),D.ds t cs=some x→D.nee t cs=true→cs.map (SV.av D.toTE N)=D.ea N.ρ t x
 len:∀(t:τ) (x:dn t),(D.es t x).length=D.sz t
 one:∀(t:τ) (x:dn t),(D.es t x).all SV.one=true
 nf:∀(p:Nat→Bool) (t:τ) (x:dn t),SV.frL p (D.es t x)=true
 pρ:∀(ρ ρ':Nat→AV) (t:τ) (x:dn t),D.pu t=true→D.ea ρ t x=D.ea ρ' t x
 pu1:∀(N:Nms) (t:τ) (x:dn t),D.pu t=true→(D.ea N.ρ t x).all AV.pu1=true
 bt:∀(N:Nms) (t:τ) (p:(dn t→UInt8)×(UInt8→dn t)),D.bt t=some p→(∀x,D.ea N.ρ t x=[.v (.int .u8 (p.1 x).toNat)])∧∀b,p.1 (p.2 b)=b
 th:∀(ρ:Nat→AV) (t t':τ) (f:dn t→dn t'),D.th t t'=some f→D.sz t'=D.sz t∧∀x,D.ea ρ t' (f x)=D.ea ρ t x
 fz:∀(N:Nms) (φ:AV→AV) (t ta:τ) (A:List (Nat×List (dn ta))) (t':τ) (f:dn t→dn t') (O:dn t→Prop),D.fz t ta A=some ⟨t',f,O⟩→(∀a,a.pu1=true→φ a=a)→
  (∀id n,hasA A id→(lkA A id).length=n→φ (.own id (D.sz ta) 0 n)= .lst (D.sz ta) ((lkA A id).map (D.ea N.ρ ta)))→D.sz t'=D.sz t∧∀x,O x→(D.ea N.ρ t x).map φ=D.ea N.ρ t' (f x)
theorem TDok.ds_ne {τ:Type} {dn:τ→Type} {D:TD τ dn} (ok:TDok D) (N:Nms) (t:τ) (cs:List (SV τ dn)) (x:dn t) (h:D.ds t cs=some x) (hn:cs.all SV.ne=true):cs.map (SV.av D.toTE N)=D.ea N.ρ t x:=
 ok.ds_eq N t cs x h (by unfold TD.nee;rw [hn,Bool.or_true])
def getS {α:Type}:List (Nat×α)→Nat→Option α
 |[],_=>none
 |(j,v)::r,i=>bif Nat.beq i j then some v else getS r i
structure SS (τ:Type) (dn:τ→Type) where
 rt:List (Nat×SV τ dn)
 rm:List (Nat×Option (SB τ dn))
 t:List (Nat×SV τ dn)
 m:List (Nat×Option (SB τ dn))
 nx:Nat
section
variable {τ:Type} {dn:τ→Type} [DecidableEq τ]
def ofV:Value→Option (SV τ dn)
 | .int .i64 k=>some (.vn k)
 | .int .u8 k=>if 0≤k∧k<256 then some (.vy (UInt8.ofNat k.toNat)) else none
 | .int .u64 k=>if 0≤k∧k<18446744073709551616 then some (.vu (uN k.toNat)) else none
 | .int q k=>some (.vw q k)
 | .bool b=>some (.vt b)
 | .string s=>some (.vz s)
 | .nilFunc=>some (.vo .nilFunc)
 | .nilIface=>some (.vo .nilIface)
 | .pointer none=>some (.vo (.pointer none))
 | .tuple vs=>if vs.isEmpty=true then some (.vo undef) else none
 |_=>none
mutual
def ofA:AV→Option (SV τ dn)
 | .v x=>ofV x
 | .agg cs=>(ofAs cs).map .agg
 | .emp=>some .emp
 | .fn f cs=>(ofAs cs).map (.fn f)
 | .pim cs o=>(ofAs cs).map (.pim · o)
 | .dead=>some .dead
 |_=>none
def ofAs:List AV→Option (List (SV τ dn))
 |[]=>some []
 |a::r=>match ofA a,ofAs r with
  |some v,some l=>some (v::l)
  |_,_=>none
end
def SS.gt (st:SS τ dn) (i:Nat):Option (SV τ dn):=match getS st.t i with
 |some v=>some v
 |none=>getS st.rt i
def SS.gm (st:SS τ dn) (nm:Nat):Option (SB τ dn):=match getS st.m nm with
 |some b=>b
 |none=>(getS st.rm nm).join
def SS.ev (st:SS τ dn):Arg→Option (SV τ dn)
 | .s i=>st.gt i
 | .c a=>ofA a
def SS.rw (st:SS τ dn) (nm:Nat):Bool:=(match getS st.m nm with|some (some _)=>true|_=>false)&&(getS st.rm nm).isNone
inductive SR (τ:Type) (dn:τ→Type) where
 |val (O:List Prop) (v:SV τ dn)
 |new (O:List Prop) (v:SV τ dn) (B:SB τ dn)
 |put (O:List Prop) (v:SV τ dn) (nm:Nat) (B:SB τ dn)
 |mov (O:List Prop) (v:SV τ dn) (old:Nat) (B:SB τ dn)
 |kil (O:List Prop) (v:SV τ dn) (ns:List Nat)
 |rput (O:List Prop) (v:SV τ dn) (id:Nat) (t:τ) (row:List (dn t)) (A:List (Nat×List (dn t)))
def SV.int:SV τ dn→Option (Int×Bool)
 | .vi x=>some (x,false)
 | .vn x=>some (x,true)
 |_=>none
def notS:SV τ dn→Option (SV τ dn)
 | .vb c=>some (.vb (.not c))
 | .vt b=>some (.vt !b)
 |_=>none
def andS:SV τ dn→SV τ dn→Option (SV τ dn)
 | .vt true,a=>some a
 | .vt false, .vb _=>some (.vt false)
 | .vt false, .vt _=>some (.vt false)
 | .vb c, .vt true=>some (.vb c)
 | .vb _, .vt false=>some (.vt false)
 | .vb c, .vb d=>some (.vb (.and c d))
 |_,_=>none
def SV.lit:SV τ dn→Option Value
 | .vn x=>some (.int .i64 x)
 | .vt b=>some (.bool b)
 |_=>none
def oLit (bt:Bool) (op:BinOp) (a b:SV τ dn):Option (SV τ dn):=
 match a.lit,b.lit with
 |some x,some y=>match binA bt op x y with
  |some v=>ofV v
  |none=>none
 |_,_=>none
def oInt (neg:Bool) (op:BinOp) (x y:Int):Option (SR τ dn):=
 match op with
 | .add=>some (.val [I64 (x+y)] (.vi (x+y)))
 | .sub=>some (.val [I64 (x - y)] (.vi (x - y)))
 | .mul=>some (.val [I64 (x*y)] (.vi (x*y)))
 | .quo=>bif neg then some (.val [y≠0,I64 (x.tdiv y)] (.vi (x.tdiv y))) else some (.val [0≤x∧0<y∧I64 x] (.vi (x / y)))
 | .rem=>bif neg then some (.val [y≠0] (.vi (x.tmod y))) else some (.val [0≤x∧y≠0] (.vi (x%y)))
 | .and=>some (.val [0≤x∧0≤y∧I64 x∧I64 y] (.vi ((x.toNat&&&y.toNat:Nat):Int)))
 | .or=>some (.val [0≤x∧0≤y∧I64 x∧I64 y] (.vi ((x.toNat|||y.toNat:Nat):Int)))
 | .xor=>some (.val [0≤x∧0≤y∧I64 x∧I64 y] (.vi ((x.toNat^^^y.toNat:Nat):Int)))
 | .shl=>some (.val [0≤y∧I64 (x*2^y.toNat)] (.vi (x*2^y.toNat)))
 | .shr=>some (.val [0≤y∧y≤64] (.vi (x / 2^y.toNat)))
 | .eql=>some (.val [] (.vb (.eq x y)))
 | .neq=>some (.val [] (.vb (.not (.eq x y))))
 | .lss=>some (.val [] (.vb (.lt x y)))
 | .leq=>some (.val [] (.vb (.le x y)))
 | .gtr=>some (.val [] (.vb (.lt y x)))
 | .geq=>some (.val [] (.vb (.le y x)))
 |_=>none
def oY (op:BinOp) (x y:UInt8):Option (SV τ dn):=
 match op with
 | .add=>some (.vy (x+y))
 | .sub=>some (.vy (x - y))
 | .mul=>some (.vy (x*y))
 | .and=>some (.vy (x&&&y))
 | .or=>some (.vy (x|||y))
 | .xor=>some (.vy (x^^^y))
 | .eql=>some (.vb (.ey x y))
 | .neq=>some (.vb (.not (.ey x y)))
 | .lss=>some (.vb (.ly x y))
 | .leq=>some (.vb (.not (.ly y x)))
 | .gtr=>some (.vb (.ly y x))
 | .geq=>some (.vb (.not (.ly x y)))
 |_=>none
def oU (op:BinOp) (x y:U64):Option (SV τ dn):=
 match op with
 | .add=>some (.vu (uN (x.n+y.n)))
 | .sub=>some (.vu (uN (x.n+18446744073709551616 - y.n)))
 | .mul=>some (.vu (uN (x.n*y.n)))
 | .and=>some (.vu (opU .and x y))
 | .or=>some (.vu (opU .or x y))
 | .xor=>some (.vu (opU .xor x y))
 | .andNot=>some (.vu (opU .andNot x y))
 | .eql=>some (.vb (.eq x.n y.n))
 | .neq=>some (.vb (.not (.eq x.n y.n)))
 | .lss=>some (.vb (.lt x.n y.n))
 | .leq=>some (.vb (.le x.n y.n))
 | .gtr=>some (.vb (.lt y.n x.n))
 | .geq=>some (.vb (.le y.n x.n))
 |_=>none
def oZ (op:BinOp) (x y:ByteArray):Option (SR τ dn):=
 match op with
 | .eql=>some (.val [] (.vb (.ez x y)))
 | .neq=>some (.val [] (.vb (.not (.ez x y))))
 | .lss=>some (.val [] (.vb (.lz x y)))
 | .add=>some (.val [((x.size+y.size:Nat):Int)≤9223372036854775807] (.vz (x++y)))
 |_=>none
def eqB:SV τ dn→SV τ dn→Option (SV τ dn)
 | .vb c, .vt b=>some (.vb (if b then c else .not c))
 | .vt b, .vb c=>some (.vb (if b then c else .not c))
 | .vb c, .vb d=>some (.vb (.eb c.den d.den))
 |_,_=>none
def oBin (neg bt:Bool) (op:BinOp) (a b:SV τ dn):Option (SR τ dn):=
 match oLit bt op a b with
 |some v=>some (.val [] v)
 |none=>match a.int,b.int with
  |some (x,_),some (y,_)=>oInt neg op x y
  |_,_=>match a,b with
   | .vy x, .vy y=>(oY op x y).map (.val [])
   | .vu x, .vu y=>(oU op x y).map (.val [])
   | .vz x, .vz y=>oZ op x y
   | .vy x, .vi y=>match op with
    | .shl=>some (.val [0≤y] (.vy (shlY x y.toNat)))
    | .shr=>some (.val [0≤y] (.vy (shrY x y.toNat)))
    |_=>none
   | .vy x, .vn y=>match op with
    | .shl=>some (.val [0≤y] (.vy (shlY x y.toNat)))
    | .shr=>some (.val [0≤y] (.vy (shrY x y.toNat)))
    |_=>none
   | .vu x, .vi y=>match op with
    | .shl=>some (.val [0≤y] (.vu (uN (x.n*2^min y.toNat 64))))
    | .shr=>some (.val [0≤y] (.vu (uN (x.n / 2^min y.toNat 64))))
    |_=>none
   | .vu x, .vn y=>match op with
    | .shl=>some (.val [0≤y] (.vu (uN (x.n*2^min y.toNat 64))))
    | .shr=>some (.val [0≤y] (.vu (uN (x.n / 2^min y.toNat 64))))
    |_=>none
   | .vw q x, .vw q' y=>if q=q' then (match op with
    | .and=>some (.val [] (.vw q (bits .and q x y)))
    | .or=>some (.val [] (.vw q (bits .or q x y)))
    | .xor=>some (.val [] (.vw q (bits .xor q x y)))
    | .add=>some (.val [] (.vw q (q.wrap (x+y))))
    | .sub=>some (.val [] (.vw q (q.wrap (x - y))))
    | .mul=>some (.val [] (.vw q (q.wrap (x*y))))
    | .eql=>some (.val [] (.vb (.eq x y)))
    | .neq=>some (.val [] (.vb (.not (.eq x y))))
    | .lss=>some (.val [] (.vb (.lt x y)))
    | .leq=>some (.val [] (.vb (.le x y)))
    | .gtr=>some (.val [] (.vb (.lt y x)))
    | .geq=>some (.val [] (.vb (.le y x)))
    |_=>none) else none
   | .vw q x, .vi y=>match op with
    | .shl=>some (.val [0≤y] (.vw q (q.wrap (x*2^(min y.toNat q.bits)))))
    | .shr=>some (.val [0≤y] (.vw q (x.fdiv (2^(min y.toNat q.bits)))))
    |_=>none
   | .vw q x, .vn y=>match op with
    | .shl=>some (.val [0≤y] (.vw q (q.wrap (x*2^(min y.toNat q.bits)))))
    | .shr=>some (.val [0≤y] (.vw q (x.fdiv (2^(min y.toNat q.bits)))))
    |_=>none
   |a,b=>if bt=true then (match op with
    | .eql=>(eqB a b).map (.val [])
    | .neq=>((eqB a b).bind notS).map (.val [])
    |_=>none) else none
def oUn (op:UnOp) (a:SV τ dn):Option (SR τ dn):=
 match op,a with
 | .neg, .vn x=>(ofV (.int .i64 (IntKind.i64.wrap (0 - x)))).map (.val [])
 | .neg, .vi x=>some (.val [I64 (0 - x)] (.vi (0 - x)))
 | .xor, .vu x=>some (.val [] (.vu (opU .xor (uN 18446744073709551615) x)))
 | .not,a=>(notS a).map (.val [])
 |_,_=>none
def oConv (k:IntKind) (a:SV τ dn):Option (SR τ dn):=
 match k,a with
 |k, .vn x=>(ofV (.int k (k.wrap x))).map (.val [])
 | .i64, .vi x=>some (.val [I64 x] (.vi x))
 | .i64, .vy x=>some (.val [] (.vi x.toNat))
 | .i64, .vu x=>some (.val [I64 x.n] (.vi x.n))
 | .i64, .vw _ x=>some (.val [I64 x] (.vi x))
 | .u8, .vi x=>some (.val [0≤x] (.vy (UInt8.ofNat x.toNat)))
 | .u8, .vu x=>some (.val [] (.vy (UInt8.ofNat x.n)))
 | .u8, .vw _ x=>some (.val [0≤x] (.vy (UInt8.ofNat x.toNat)))
 | .u64, .vi x=>some (.val [0≤x] (.vu (uN x.toNat)))
 | .u64, .vy x=>some (.val [] (.vu (uN x.toNat)))
 | .u16, .vi x=>some (.val [] (.vw .u16 (IntKind.u16.wrap x)))
 | .u16, .vy x=>some (.val [] (.vw .u16 (IntKind.u16.wrap x.toNat)))
 | .u16, .vw _ x=>some (.val [] (.vw .u16 (IntKind.u16.wrap x)))
 |_,_=>none
def gcS (cs:List (SV τ dn)) (o:Nat):Option Nat→Option (SV τ dn)
 |none=>cs[o]?
 |some n=>if o+n≤cs.length then some (.agg ((cs.drop o).take n)) else none
def pcS (cs:List (SV τ dn)) (o:Nat) (ys:List (SV τ dn)):List (SV τ dn):=cs.take o++ys++cs.drop (o+ys.length)
def fillS (st:SS τ dn) (cells:List (SV τ dn)):List (Nat×Nat×Arg)→Option (List (SV τ dn))
 |[]=>some cells
 |(off,n,x)::r=>match st.ev x with
  |some v=>if v.cells.length=n∧off+n≤cells.length∧v.solid=true then fillS st (pcS cells off v.cells) r else none
  |none=>none
def fillT (st:SS τ dn) (sz:Nat) (els:List (List (SV τ dn))):List (Nat×Arg)→Option (List (List (SV τ dn)))
 |[]=>some els
 |(i,x)::r=>match st.ev x with
  |some v=>if v.cells.length=sz∧i<els.length∧v.solid=true∧v.cells.all SV.one=true then fillT st sz (els.set i v.cells) r else none
  |none=>none
def eqS1:LK→SV τ dn→SV τ dn→Option (SV τ dn)
 | .int,a,b=>match oLit false .eql a b with
  |some v=>some v
  |none=>match a.int,b.int with
   |some (x,_),some (y,_)=>some (.vb (.eq x y))
   |_,_=>match a,b with
    | .vu x, .vu y=>some (.vb (.eq x.n y.n))
    | .vy x, .vy y=>some (.vb (.ey x y))
    |_,_=>none
 | .str, .vz a, .vz b=>some (.vb (.ez a b))
 | .bool, .vt a, .vt b=>some (.vt (a==b))
 | .bool,a,b=>eqB a b
 |_,_,_=>none
def eqS (cs ds:List (SV τ dn)):List (Nat×LK)→Option (SV τ dn)
 |[]=>some (.vt true)
 |(o,k)::r=>match cs[o]?,ds[o]? with
  |some a,some b=>match eqS1 k a b,eqS cs ds r with
   |some x,some y=>andS x y
   |_,_=>none
  |_,_=>none
inductive Ct (τ:Type) (dn:τ→Type) where
 |ty (t:τ) (xs:List (dn t))
 |li (els:List (List (SV τ dn)))
def Ct.len:Ct τ dn→Nat
 | .ty _ xs=>xs.length
 | .li els=>els.length
variable (D:TD τ dn)
def SS.cont (st:SS τ dn) (sz:Nat):SV τ dn→Option (Ct τ dn)
 | .vl ty xs=>if D.sz ty=sz then some (.ty ty xs) else none
 | .vc k els=>if k=sz then some (.li els) else none
 | .emp=>some (.li [])
 | .own nm k=>if k=sz then (match st.gm nm with
  |some (.bl ty xs)=>if D.sz ty=sz then some (.ty ty xs) else none
  |some (.bc q els)=>if q=sz then some (.li els) else none
  |_=>none) else none
 |_=>none
def decL (ty:τ):List (List (SV τ dn))→Option (List (dn ty))
 |[]=>some []
 |cs::r=>if D.nee ty cs=true then (match D.ds ty cs,decL ty r with
  |some x,some l=>some (x::l)
  |_,_=>none) else none
def catB (sz:Nat):SB τ dn→Ct τ dn→Option (SB τ dn)
 | .bl ty xs, .ty ty' ys=>if h:ty'=ty then some (.bl ty (xs++h▸ys)) else none
 | .bl ty xs, .li els=>(decL D ty els).map fun ys=> .bl ty (xs++ys)
 | .bc q els, .ty ty ys=>if q=D.sz ty then (decL D ty els).map fun xs=> .bl ty (xs++ys) else none
 | .bc q els, .li fs=>if q=sz then some (.bc q (els++fs)) else none
 | .mc _,_=>none
 | .ar _ _,_=>none
def Ct.blk (sz:Nat):Ct τ dn→SB τ dn
 | .ty t xs=> .bl t xs
 | .li els=> .bc sz els
def SB.sz:SB τ dn→Nat
 | .bl ty _=>D.sz ty
 | .bc sz _=>sz
 | .mc _=>0
 | .ar ty _=>D.sz ty
def SB.lenS:SB τ dn→SV τ dn
 | .bl _ xs=> .vi (xs.length:Int)
 | .bc _ els=> .vn (els.length:Int)
 | .mc _=> .vn 0
 | .ar _ _=> .vn 0
def optI (st:SS τ dn):Option Arg→Option (Option Int)
 |none=>some none
 |some x=>match st.ev x with
  |some v=>match v.int with
   |some (k,_)=>some (some k)
   |none=>none
  |none=>none
def cutT {α:Type} (xs:List α):Option Int→Option Int→List α
 |none,none=>xs
 |some l,none=>xs.drop l.toNat
 |none,some h=>xs.take h.toNat
 |some l,some h=>(xs.drop l.toNat).take (h.toNat - l.toNat)
def cutO (len:Int):Option Int→Option Int→List Prop
 |none,none=>[]
 |some l,none=>[0≤l∧l≤len]
 |none,some h=>[0≤h∧h≤len]
 |some l,some h=>[0≤l∧l≤h∧h≤len]
def oLoad (st:SS τ dn) (m:Option Nat):SV τ dn→Option (SR τ dn)
 | .pim cs o=>(gcS cs o m).map (.val [])
 | .ref nm sz i o=>match st.gm nm with
  |some (.bl ty xs)=>if D.sz ty=sz then (gcS (D.es ty (gd (D.df ty) xs i)) o m).map (.val [i<xs.length]) else none
  |some (.bc q els)=>if q=sz then (match els[i]? with
   |some cs=>(gcS cs o m).map (.val [])
   |none=>none) else none
  |_=>none
 |_=>none
def oStore (st:SS τ dn) (n:Nat) (a y:SV τ dn):Option (SR τ dn):=
 if y.cells.length=n∧y.solid=true∧y.cells.all SV.one=true then match a with
 | .ref nm sz i o=>if o+n≤sz∧st.rw nm=true then (match st.gm nm with
  |some (.bl ty xs)=>if D.sz ty=sz∧D.nee ty (pcS (D.es ty (gd (D.df ty) xs i)) o y.cells)=true then (match D.ds ty (pcS (D.es ty (gd (D.df ty) xs i)) o y.cells) with
   |some z=>some (.put [i<xs.length] (.vo undef) nm (.bl ty (xs.set i z)))
   |none=>none) else none
  |some (.bc q els)=>if q=sz then (match els[i]? with
   |some cs=>some (.put [] (.vo undef) nm (.bc q (els.set i (pcS cs o y.cells))))
   |none=>none) else none
  |_=>none) else none
 |_=>none
 else none
def oIad (st:SS τ dn) (sz:Nat) (a:SV τ dn) (x:Int) (lit:Bool):Option (SR τ dn):=
 match a with
 | .vl ty xs=>if D.sz ty=sz then some (.val [0≤x∧x<xs.length] (.pim (D.es ty (gd (D.df ty) xs x.toNat)) 0)) else none
 | .vc q els=>bif lit then (if q=sz∧0≤x then (els[x.toNat]?).map fun cs=> .val [] (.pim cs 0) else none) else none
 | .own nm q=>if q=sz then (match st.gm nm with
  |some (.bl _ xs)=>some (.val [0≤x∧x<xs.length] (.ref nm sz x.toNat 0))
  |some (.bc _ els)=>bif lit then (if 0≤x∧x<els.length then some (.val [] (.ref nm sz x.toNat 0)) else none) else some (.val [0≤x∧x<els.length] (.ref nm sz x.toNat 0))
  |_=>none) else none
 | .part nm q off len=>if q=sz then (st.gm nm).map fun _=> .val [0≤x∧x<len] (.ref nm sz (off+x.toNat) 0) else none
 |_=>none
def oLen (st:SS τ dn):Bool→SV τ dn→Option (SR τ dn)
 |true, .vz s=>some (.val [] (.vi (s.size:Int)))
 |false, .vl _ xs=>some (.val [] (.vi (xs.length:Int)))
 |false, .vc _ els=>some (.val [] (.vn (els.length:Int)))
 |false, .emp=>some (.val [] (.vn 0))
 |false, .own nm _=>(st.gm nm).map fun B=> .val [] B.lenS
 |false, .part nm _ _ n=>(st.gm nm).map fun _=> .val [] (.vi (n:Int))
 |_,_=>none
def oIsn (st:SS τ dn):NK→Bool→SV τ dn→Option (SR τ dn)
 | .fn,neg, .fn _ _=>some (.val [] (.vt neg))
 | .fn,neg, .bf _ _=>some (.val [] (.vt neg))
 | .fn,neg, .vo .nilFunc=>some (.val [] (.vt !neg))
 | .pt,neg, .ref nm _ _ _=>(st.gm nm).map fun _=> .val [] (.vt neg)
 | .pt,neg, .pim _ _=>some (.val [] (.vt neg))
 | .pt,neg, .vo (.pointer none)=>some (.val [] (.vt !neg))
 | .sl,neg, .vl _ xs=>some (.val [xs≠[]] (.vt neg))
 |_,_,_=>none
def oSlc (st:SS τ dn) (sz:Nat) (a:SV τ dn) (lo hi:Option Int):Option (SR τ dn):=
 match a with
 | .vl ty xs=>if D.sz ty=sz then some (.val (cutO xs.length lo hi) (.vl ty (cutT xs lo hi))) else none
 | .emp=>match lo,hi with
  |none,none=>some (.val [] .emp)
  |_,_=>none
 | .own nm q=>if q=sz then (match lo,hi with
  |none,none=>(st.gm nm).map fun _=> .val [] (.own nm q)
  |_,_=>(st.gm nm).map fun B=> .val (cutO B.len lo hi) (.part nm sz (lo.getD 0).toNat ((hi.getD B.len).toNat - (lo.getD 0).toNat))) else none
 |_=>none
def oApp (st:SS τ dn) (sz bytes:Nat) (s x:SV τ dn):Option (SR τ dn):=
 match st.cont D sz x with
 |some ys=>match s with
  | .emp=>some (.new [ys.len*bytes≤140737488355328] (.own st.nx sz) (ys.blk sz))
  | .own nm q=>if q=sz∧st.rw nm=true then (match st.gm nm with
   |some B=>if B.sz D=sz then (catB D sz B ys).map fun B'=> .mov [(B.len+ys.len)*bytes≤140737488355328] (.own st.nx sz) nm B' else none
   |none=>none) else none
  |_=>none
 |none=>none
def hintB (bytes:Nat):List AV→Nat
 | .v (.bool _)::_=>1000+bytes
 |_=>bytes
def bytesS:List (List (SV τ dn))→Option (List UInt8)
 |[]=>some []
 |[.vy b]::r=>match bytesS r with
  |some l=>some (b::l)
  |none=>none
 |_=>none
def oB2s (st:SS τ dn) (v:SV τ dn):Option (SR τ dn):=match st.cont D 1 v with
 |some (.ty t xs)=>match D.bt t with
  |some p=>some (.val [] (.vz ⟨(xs.map p.1).toArray⟩))
  |none=>none
 |some (.li els)=>match bytesS els with
  |some l=>some (.val [] (.vz ⟨l.toArray⟩))
  |none=>none
 |none=>none
def oS2b (st:SS τ dn) (s:ByteArray):Option (SR τ dn):=match D.hint 1 1 with
 |some t=>match D.bt t with
  |some p=>if D.sz t=1 then some (.new [s.size≤140737488355328] (.own st.nx 1) (.bl t (s.data.toList.map p.2))) else none
  |none=>none
 |none=>none
def oMsl (st:SS τ dn) (sz bytes:Nat) (zs:List AV) (l c:Int):Option (SR τ dn):=
 match D.hint sz (hintB bytes zs),ofAs zs with
 |some ty,some cs=>if D.sz ty=sz∧D.nee ty cs=true then (match D.ds ty cs with
  |some z=>some (.new [0≤l∧l≤c∧c*bytes≤140737488355328] (.own st.nx sz) (.bl ty (List.replicate l.toNat z)))
  |none=>none) else none
 |_,_=>none
def oCpy (st:SS τ dn) (sz:Nat) (x y:SV τ dn):Option (SR τ dn):=
 match x,st.cont D sz y with
 | .own nm q,some (.ty ty ys)=>if q=sz∧st.rw nm=true then (match st.gm nm with
  |some (.bl ty' xs)=>if h:ty=ty' then (if D.sz ty'=sz then some (.put [] (.vi ((min ys.length xs.length:Nat):Int)) nm (.bl ty' (((h▸ys):List (dn ty')).take xs.length++xs.drop (min ys.length xs.length)))) else none) else none
  |_=>none) else none
 |_,_=>none
def SV.key:SV τ dn→Option Value
 | .vn x=>some (.int .i64 x)
 | .vt b=>some (.bool b)
 | .vz s=>some (.string s)
 |_=>none
def mfindS (kd:LK) (k:Value):List (List (SV τ dn))→Option (Option (SV τ dn))
 |[]=>some none
 |[kv,x]::r=>match kv.key with
  |some k'=>match keyEq kd k k' with
   |some true=>some (some x)
   |some false=>mfindS kd k r
   |none=>none
  |none=>none
 |_=>none
def intsM:List (List (SV τ dn))→Option (List (Int×Int))
 |[]=>some []
 |[.vn k,x]::r=>match x.int,intsM r with
  |some (v,_),some l=>some ((k,v)::l)
  |_,_=>none
 |_=>none
def pickI (z x:Int):List (Int×Int)→Int
 |[]=>z
 |(k,v)::r=>if x=k then v else pickI z x r
def oMup (st:SS τ dn) (kd:LK) (x k y:SV τ dn):Option (SR τ dn):=
 match x,k.key with
 | .mp nm,some key=>match st.gm nm with
  |some (.mc els)=>bif st.rw nm&&plainV key then (match mfindS kd key els with
   |some none=>some (.put [] (.vo undef) nm (.mc (els++[[k,y]])))
   |_=>none) else none
  |_=>none
 |_,_=>none
def oMlk (st:SS τ dn) (kd:LK) (z:AV) (x k:SV τ dn):Option (SR τ dn):=
 match x,ofA z with
 | .mp nm,some zs=>match st.gm nm with
  |some (.mc els)=>match k with
   | .vi n=>match kd,intsM els,zs.int with
    | .int,some l,some (zi,_)=>some (.val [] (.vi (pickI zi n l)))
    |_,_,_=>none
   |k=>match k.key with
    |some key=>(mfindS kd key els).map fun r=> .val [] (r.getD zs)
    |none=>none
  |_=>none
 |_,_=>none
def sx (st:SS τ dn):AO→Option (SR τ dn)
 | .mov x=>(st.ev x).map (.val [])
 | .new zs=>(ofAs zs).map fun cs=> .new [] (.ref st.nx zs.length 0 0) (.bc zs.length [cs])
 | .box n x=>match st.ev x with
  |some v=>if v.cells.length=n∧v.solid=true∧v.cells.all SV.one=true then some (.new [] (.ref st.nx n 0 0) (.bc n [v.cells])) else none
  |none=>none
 | .agg zs parts=>match ofAs zs with
  |some cs=>(fillS st cs parts).map fun cs=> .val [] (.agg cs)
  |none=>none
 | .bsl sz ln zs parts=>match ofAs zs with
  |some cs=>(fillT st sz (List.replicate ln cs) parts).map fun els=> .new [] (.own st.nx sz) (.bc sz els)
  |none=>none
 | .load m x=>(st.ev x).bind (oLoad D st m)
 | .store n x y=>match st.ev x,st.ev y with
  |some a,some b=>oStore D st n a b
  |_,_=>none
 | .nilc x=>match st.ev x with
  |some (.ref nm sz i o)=>(st.gm nm).map fun _=> .val [] (.ref nm sz i o)
  |some (.pim cs o)=>some (.val [] (.pim cs o))
  |_=>none
 | .bin bt op x y=>match st.ev x,st.ev y with
  |some a,some b=>oBin D.neg bt op a b
  |_,_=>none
 | .un op x=>(st.ev x).bind (oUn op)
 | .conv k x=>(st.ev x).bind (oConv k)
 | .fad off x=>match st.ev x with
  |some (.ref nm sz i o)=>(st.gm nm).map fun _=> .val [] (.ref nm sz i (o+off))
  |some (.pim cs o)=>some (.val [] (.pim cs (o+off)))
  |_=>none
 | .fld off m x=>match st.ev x with
  |some (.agg cs)=>(gcS cs off m).map (.val [])
  |_=>none
 | .iad sz x i=>match st.ev x,st.ev i with
  |some a,some b=>match b.int with
   |some (k,lit)=>oIad D st sz a k lit
   |none=>none
  |_,_=>none
 | .iap sz ln x i=>match st.ev x,st.ev i with
  |some (.ref nm s e o),some (.vn k)=>if 0≤k∧k<ln∧(st.gm nm).isSome=true then some (.val [] (.ref nm s e (o+k.toNat*sz))) else none
  |some (.pim cs o),some (.vn k)=>if 0≤k∧k<ln then some (.val [] (.pim cs (o+k.toNat*sz))) else none
  |_,_=>none
 | .ixa sz ln m x i=>match st.ev x,st.ev i with
  |some (.agg cs),some (.vn k)=>if 0≤k∧k<ln then (gcS cs (k.toNat*sz) m).map (.val []) else none
  |_,_=>none
 | .mkm=>some (.new [] (.mp st.nx) (.mc []))
 | .mup kd x k y=>match st.ev x,st.ev k,st.ev y with
  |some a,some b,some c=>oMup st kd a b c
  |_,_,_=>none
 | .mlk kd z x k=>match st.ev x,st.ev k with
  |some a,some b=>oMlk st kd z a b
  |_,_=>none
 | .ext i x=>match st.ev x with
  |some (.tup vs)=>(vs[i]?).map (.val [])
  |_=>none
 | .len s x=>(st.ev x).bind (oLen st s)
 | .isn kd neg x=>(st.ev x).bind (oIsn st kd neg)
 | .mnx mx x y=>match st.ev x,st.ev y with
  |some a,some b=>match a.int,b.int with
   |some (x,_),some (y,_)=>some (.val [] (.vi (if mx then max x y else min x y)))
   |_,_=>none
  |_,_=>none
 | .eqs neg n L x y=>match st.ev x,st.ev y with
  |some (.agg cs),some (.agg ds)=>if cs.length=n∧ds.length=n then (match eqS cs ds L with
   |some v=>(if neg then notS v else some v).map (.val [])
   |none=>none) else none
  |_,_=>none
 | .msl sz bytes zs l c=>match st.ev l,st.ev c with
  |some a,some b=>match a.int,b.int with
   |some (x,_),some (y,_)=>oMsl D st sz bytes zs x y
   |_,_=>none
  |_,_=>none
 | .slc sz x lo hi none=>match st.ev x,optI st lo,optI st hi with
  |some a,some l,some h=>oSlc D st sz a l h
  |_,_,_=>none
 | .sls x lo hi=>match st.ev x,optI st lo,optI st hi with
  |some (.vz s),some l,some h=>some (.val (cutO s.size l h) (.vz (s.extract (l.getD 0).toNat (h.getD s.size).toNat)))
  |_,_,_=>none
 | .six x i=>match st.ev x,st.ev i with
  |some (.vz s),some b=>match b.int with
   |some (k,_)=>some (.val [0≤k∧k<s.size] (.vy (gb s k.toNat)))
   |none=>none
  |_,_=>none
 | .b2s x=>match st.ev x with
  |some v=>oB2s D st v
  |none=>none
 | .s2b x=>match st.ev x with
  |some (.vz s)=>oS2b D st s
  |_=>none
 | .app sz bytes s x=>match st.ev s,st.ev x with
  |some a,some b=>oApp D st sz bytes a b
  |_,_=>none
 | .cpy sz x y=>match st.ev x,st.ev y with
  |some a,some b=>oCpy D st sz a b
  |_,_=>none
 | .mkf f caps=>(caps.mapM st.ev).map fun cs=> .val [] (.fn f cs)
 | .mkb f caps=>(caps.mapM st.ev).map fun cs=> .val [] (.bf f cs)
 |_=>none
end
open Go.RowKit
section
variable {τ:Type} {dn:τ→Type} (E:TE τ dn) (N:Nms)
theorem ofV_av {x:Value} {v:SV τ dn} (h:ofV x=some v):v.av E N= .v x:=by
 unfold ofV at h
 split at h<;>first
  |(simp only [Option.some.injEq] at h;subst h;rfl)
  |skip
 ·split at h
  ·rename_i k hk
   simp only [Option.some.injEq] at h;subst h
   have e:(UInt8.ofNat k.toNat).toNat=k.toNat%256:=UInt8.toNat_ofNat ..
   simp only [SV.av,e]
   congr 2;omega
  ·simp at h
 ·split at h
  ·rename_i k hk
   simp only [Option.some.injEq] at h;subst h
   have e:(uN k.toNat).n=k.toNat:=uN_n (by omega)
   simp only [SV.av,e]
   congr 2;omega
  ·simp at h
 ·split at h
  ·rename_i vs hk
   simp only [Option.some.injEq] at h;subst h
   simp only [SV.av,undef]
   congr 2
   simpa using hk.symm
  ·simp at h
 ·simp at h
mutual
theorem ofA_av:∀{a:AV} {v:SV τ dn},ofA a=some v→v.av E N=a
 | .v x,v,h=>by simp only [ofA] at h;exact ofV_av E N h
 | .agg cs,v,h=>by
  simp only [ofA,Option.map_eq_some_iff] at h
  obtain ⟨l,hl,rfl⟩:=h
  simp only [SV.av,ofAs_av hl]
 | .emp,v,h=>by simp only [ofA,Option.some.injEq] at h;subst h;rfl
 | .fn f cs,v,h=>by
  simp only [ofA,Option.map_eq_some_iff] at h
  obtain ⟨l,hl,rfl⟩:=h
  simp only [SV.av,ofAs_av hl]
 | .pim cs o,v,h=>by
  simp only [ofA,Option.map_eq_some_iff] at h
  obtain ⟨l,hl,rfl⟩:=h
  simp only [SV.av,ofAs_av hl]
 | .dead,v,h=>by simp only [ofA,Option.some.injEq] at h;subst h;rfl
 | .tup _,v,h| .lst _ _,v,h| .tls _ _,v,h| .ref _ _ _ _,v,h| .own _ _ _ _,v,h| .bf _ _,v,h| .yld _ _,v,h| .mp _,v,h| .anyb,v,h=>by simp [ofA] at h
theorem ofAs_av:∀{as_:List AV} {l:List (SV τ dn)},ofAs as_=some l→SV.avL E N l=as_
 |[],l,h=>by simp only [ofAs,Option.some.injEq] at h;subst h;rfl
 |a::r,l,h=>by
  simp only [ofAs] at h
  split at h
  ·rename_i v l' h1 h2
   simp only [Option.some.injEq] at h;subst h
   simp only [SV.avL,ofA_av h1,ofAs_av h2]
  ·simp at h
end
end
section
variable {τ:Type} {dn:τ→Type} {D:TD τ dn} {N:Nms} {st:SS τ dn} {σ:Nat→AV} {g:Nat→Option Bk}
def SS.alv (st:SS τ dn) (nm:Nat) (B:SB τ dn):Prop:=getS st.m nm=some (some B)∨getS st.rm nm=some (some B)
theorem gm_alive {st:SS τ dn} {nm:Nat} {B:SB τ dn} (h:st.gm nm=some B):st.alv nm B:=by
 unfold SS.gm at h
 split at h
 ·rename_i b hb;subst h;exact .inl hb
 ·rw [Option.join_eq_some_iff] at h;exact .inr h
structure RelAt (D:TD τ dn) (N:Nms) (st:SS τ dn) (σ:Nat→AV) (g:Nat→Option Bk):Prop where
 sl:∀i v,getS st.t i=some v→σ i=v.av D.toTE N
 rs:∀i v,getS st.rt i=some v→σ i=v.av D.toTE N
 bl:∀nm B,getS st.m nm=some (some B)→g (N.ι nm)=some (B.av D.toTE N)∧N.ln nm=B.len
 rb:∀nm B,getS st.rm nm=some (some B)→g (N.ι nm)=some (B.av D.toTE N)∧N.ln nm=B.len
 ar:∀t A,st.alv 0 (.ar t A)→∀id,hasA A id→g id=some ⟨D.sz t,(lkA A id).map (D.ea N.ρ t)⟩
theorem RelAt.gt (R:RelAt D N st σ g) {i:Nat} {v:SV τ dn} (h:st.gt i=some v):σ i=v.av D.toTE N:=by
 unfold SS.gt at h
 split at h
 ·rename_i w hw;simp only [Option.some.injEq] at h;subst h;exact R.sl i _ hw
 ·exact R.rs i v h
theorem RelAt.gm (R:RelAt D N st σ g) {nm:Nat} {B:SB τ dn} (h:st.gm nm=some B):g (N.ι nm)=some (B.av D.toTE N)∧N.ln nm=B.len:=by
 unfold SS.gm at h
 split at h
 ·rename_i b hb;subst h;exact R.bl nm B hb
 ·rw [Option.join_eq_some_iff] at h;exact R.rb nm B h
theorem RelAt.ev (R:RelAt D N st σ g) {a:Arg} {v:SV τ dn} (h:st.ev a=some v):argσ σ a=v.av D.toTE N:=by
 cases a with
 |s i=>exact R.gt h
 |c a=>exact (ofA_av _ _ h).symm
def SR.O:SR τ dn→List Prop
 | .val O _| .new O _ _| .put O _ _ _| .mov O _ _ _| .kil O _ _| .rput O _ _ _ _ _=>O
def SR.v:SR τ dn→SV τ dn
 | .val _ v| .new _ v _| .put _ v _ _| .mov _ v _ _| .kil _ v _| .rput _ v _ _ _ _=>v
def SR.ups (D:TD τ dn) (N:Nms) (k:Nat):SR τ dn→List (Nat×Option Bk)
 | .val _ _=>[]
 | .new _ _ B=>[(k,some (B.av D.toTE N))]
 | .put _ _ nm B=>[(N.ι nm,some (B.av D.toTE N))]
 | .mov _ _ old B=>[(N.ι old,none),(k,some (B.av D.toTE N))]
 | .kil _ _ ns=>(ns.map N.ι).map fun i=>(i,none)
 | .rput _ _ id t row _=>[(id,some ⟨D.sz t,row.map (D.ea N.ρ t)⟩)]
def SR.fresh (N:Nms) (nx k:Nat):SR τ dn→Prop
 | .new _ _ B| .mov _ _ _ B=>N.ι nx=k∧N.ln nx=B.len
 |_=>True
def SR.Good (D:TD τ dn) (N:Nms) (nx:Nat) (σ:Nat→AV) (g:Nat→Option Bk) (ao:AO) (r:SR τ dn):Prop:=
 ∀k,(∀p,p∈r.O→p)→r.fresh N nx k→(ao.sem k (argσ σ)).run g=some (.done (r.v.av D.toTE N) (r.ups D N k))
theorem lit_av {a:SV τ dn} {x:Value} (h:a.lit=some x):a.av D.toTE N= .v x:=by
 cases a<;>simp [SV.lit] at h<;>subst h<;>rfl
theorem int_av {a:SV τ dn} {x:Int} {l:Bool} (h:a.int=some (x,l)):a.av D.toTE N= .v (.int .i64 x):=by
 cases a<;>simp [SV.int] at h<;>obtain ⟨rfl,_⟩:=h<;>rfl
theorem oLit_ok {bt:Bool} {op:BinOp} {a b v:SV τ dn} (h:oLit bt op a b=some v):∃x y w,a.av D.toTE N= .v x∧b.av D.toTE N= .v y∧binA bt op x y=some w∧v.av D.toTE N= .v w:=by
 unfold oLit at h
 split at h
 ·rename_i x y h1 h2
  split at h
  ·rename_i w h3
   exact ⟨x,y,w,lit_av h1,lit_av h2,h3,ofV_av _ _ h⟩
  ·simp at h
 ·simp at h
def Bin (D:TD τ dn) (N:Nms) (bt:Bool) (op:BinOp) (a b:SV τ dn) (r:SR τ dn):Prop:=
 (∀p,p∈r.O→p)→∃O v x y w,r= .val O v∧a.av D.toTE N= .v x∧b.av D.toTE N= .v y∧binA bt op x y=some w∧v.av D.toTE N= .v w
theorem oInt_ok {neg bt:Bool} {op:BinOp} {a b:SV τ dn} {x y:Int} {l l':Bool} (ha:a.int=some (x,l)) (hb:b.int=some (y,l')) {r:SR τ dn} (h:oInt neg op x y=some r):Bin D N bt op a b r:=by
 have h1:=int_av (D:=D) (N:=N) ha
 have h2:=int_av (D:=D) (N:=N) hb
 intro hO
 have key:∀O v,r= .val O v→(∃w,binA bt op (.int .i64 x) (.int .i64 y)=some w∧v.av D.toTE N= .v w)→∃O v x y w,r= .val O v∧a.av D.toTE N= .v x∧b.av D.toTE N= .v y∧binA bt op x y=some w∧v.av D.toTE N= .v w:=
  fun O v hr ⟨w,hw1,hw2⟩=>⟨O,v,_,_,w,hr,h1,h2,hw1,hw2⟩
 cases op<;>simp only [oInt,Option.some.injEq,reduceCtorEq] at h
 case add=>subst h;exact key _ _ rfl ⟨_,rfl,by simp only [SR.O,List.mem_singleton,forall_eq] at hO;rw [hO.wr];rfl⟩
 case sub=>subst h;exact key _ _ rfl ⟨_,rfl,by simp only [SR.O,List.mem_singleton,forall_eq] at hO;rw [hO.wr];rfl⟩
 case mul=>subst h;exact key _ _ rfl ⟨_,rfl,by simp only [SR.O,List.mem_singleton,forall_eq] at hO;rw [hO.wr];rfl⟩
 case quo=>
  cases neg with
  |true=>
   simp only [cond_true,Option.some.injEq] at h;subst h
   simp only [SR.O,List.mem_cons,List.not_mem_nil,or_false,forall_eq_or_imp,forall_eq] at hO
   exact key _ _ rfl ⟨_,by simp only [binA,if_true];rw [if_neg hO.1],by rw [hO.2.wr];rfl⟩
  |false=>
   simp only [cond_false,Option.some.injEq] at h;subst h
   simp only [SR.O,List.mem_singleton,forall_eq] at hO
   exact key _ _ rfl ⟨_,by simp only [binA,if_true];rw [if_neg (by omega)],by rw [quo_i64 hO];rfl⟩
 case rem=>
  cases neg with
  |true=>
   simp only [cond_true,Option.some.injEq] at h;subst h
   simp only [SR.O,List.mem_singleton,forall_eq] at hO
   exact key _ _ rfl ⟨_,by simp only [binA,if_true];rw [if_neg hO],rfl⟩
  |false=>
   simp only [cond_false,Option.some.injEq] at h;subst h
   simp only [SR.O,List.mem_singleton,forall_eq] at hO
   exact key _ _ rfl ⟨_,by simp only [binA,if_true];rw [if_neg hO.2],by rw [rem_i64 hO.1];rfl⟩
 case and=>subst h;simp only [SR.O,List.mem_singleton,forall_eq] at hO;exact key _ _ rfl ⟨_,rfl,by rw [bits_int _ _ _ hO.1 hO.2.1 hO.2.2.1 hO.2.2.2];rfl⟩
 case or=>subst h;simp only [SR.O,List.mem_singleton,forall_eq] at hO;exact key _ _ rfl ⟨_,rfl,by rw [bits_int _ _ _ hO.1 hO.2.1 hO.2.2.1 hO.2.2.2];rfl⟩
 case xor=>subst h;simp only [SR.O,List.mem_singleton,forall_eq] at hO;exact key _ _ rfl ⟨_,rfl,by rw [bits_int _ _ _ hO.1 hO.2.1 hO.2.2.1 hO.2.2.2];rfl⟩
 case shl=>subst h;simp only [SR.O,List.mem_singleton,forall_eq] at hO;exact key _ _ rfl ⟨_,by simp only [binA];rw [if_neg (by omega)],by rw [shl_i64 _ _ hO.2];rfl⟩
 case shr=>subst h;simp only [SR.O,List.mem_singleton,forall_eq] at hO;exact key _ _ rfl ⟨_,by simp only [binA];rw [if_neg (by omega)],by rw [shr_i64 _ _ (by omega)];rfl⟩
 case eql=>subst h;exact key _ _ rfl ⟨_,rfl,rfl⟩
 case neq=>subst h;exact key _ _ rfl ⟨_,rfl,rfl⟩
 case lss=>subst h;exact key _ _ rfl ⟨_,rfl,rfl⟩
 case leq=>subst h;exact key _ _ rfl ⟨_,rfl,rfl⟩
 case gtr=>subst h;exact key _ _ rfl ⟨_,rfl,rfl⟩
 case geq=>subst h;exact key _ _ rfl ⟨_,rfl,rfl⟩
theorem oY_ok {bt:Bool} {op:BinOp} {x y:UInt8} {v:SV τ dn} (h:oY op x y=some v):Bin D N bt op (.vy x) (.vy y) (.val [] v):=by
 intro _
 have key:(∃w,binA bt op (.int .u8 (x.toNat:Int)) (.int .u8 (y.toNat:Int))=some w∧v.av D.toTE N= .v w)→∃O v' x' y' w,(SR.val [] v:SR τ dn)= .val O v'∧(SV.vy x:SV τ dn).av D.toTE N= .v x'∧(SV.vy y:SV τ dn).av D.toTE N= .v y'∧binA bt op x' y'=some w∧v'.av D.toTE N= .v w:=
  fun ⟨w,h1,h2⟩=>⟨_,_,_,_,w,rfl,rfl,rfl,h1,h2⟩
 refine key ?_
 cases op<;>simp only [oY,Option.some.injEq,reduceCtorEq] at h<;>subst h
 case add=>exact ⟨_,rfl,by rw [add_u8];rfl⟩
 case sub=>exact ⟨_,rfl,by rw [sub_u8];rfl⟩
 case mul=>exact ⟨_,rfl,by rw [mul_u8];rfl⟩
 case and=>exact ⟨_,rfl,by rw [bits_u8];rfl⟩
 case or=>exact ⟨_,rfl,by rw [bits_u8];rfl⟩
 case xor=>exact ⟨_,rfl,by rw [bits_u8];rfl⟩
 case eql=>exact ⟨_,rfl,by simp only [SV.av,Cn.den];congr 2;rw [Bool.eq_iff_iff];simp [←UInt8.toNat_inj];omega⟩
 case neq=>exact ⟨_,rfl,by simp only [SV.av,Cn.den];congr 2;rw [Bool.eq_iff_iff];simp [←UInt8.toNat_inj];omega⟩
 case lss=>exact ⟨_,rfl,by simp only [SV.av,Cn.den];congr 2;rw [Bool.eq_iff_iff];simp [UInt8.lt_iff_toNat_lt]⟩
 case leq=>exact ⟨_,rfl,by simp only [SV.av,Cn.den];congr 2;rw [Bool.eq_iff_iff];simp [UInt8.le_iff_toNat_le]⟩
 case gtr=>exact ⟨_,rfl,by simp only [SV.av,Cn.den];congr 2;rw [Bool.eq_iff_iff];simp [UInt8.lt_iff_toNat_lt]⟩
 case geq=>exact ⟨_,rfl,by simp only [SV.av,Cn.den];congr 2;rw [Bool.eq_iff_iff];simp [UInt8.le_iff_toNat_le]⟩
theorem oU_ok {bt:Bool} {op:BinOp} {x y:U64} {v:SV τ dn} (h:oU op x y=some v):Bin D N bt op (.vu x) (.vu y) (.val [] v):=by
 intro _
 have key:(∃w,binA bt op (.int .u64 (x.n:Int)) (.int .u64 (y.n:Int))=some w∧v.av D.toTE N= .v w)→∃O v' x' y' w,(SR.val [] v:SR τ dn)= .val O v'∧(SV.vu x:SV τ dn).av D.toTE N= .v x'∧(SV.vu y:SV τ dn).av D.toTE N= .v y'∧binA bt op x' y'=some w∧v'.av D.toTE N= .v w:=
  fun ⟨w,h1,h2⟩=>⟨_,_,_,_,w,rfl,rfl,rfl,h1,h2⟩
 refine key ?_
 cases op<;>simp only [oU,Option.some.injEq,reduceCtorEq] at h<;>subst h
 case add=>exact ⟨_,rfl,by rw [add_u64];rfl⟩
 case sub=>exact ⟨_,rfl,by rw [sub_u64];rfl⟩
 case mul=>exact ⟨_,rfl,by rw [mul_u64];rfl⟩
 case and=>exact ⟨_,rfl,by rw [bits_u64];rfl⟩
 case or=>exact ⟨_,rfl,by rw [bits_u64];rfl⟩
 case xor=>exact ⟨_,rfl,by rw [bits_u64];rfl⟩
 case andNot=>exact ⟨_,rfl,by rw [bits_u64];rfl⟩
 all_goals exact ⟨_,rfl,rfl⟩
theorem oZ_ok {bt:Bool} {op:BinOp} {x y:ByteArray} {r:SR τ dn} (h:oZ op x y=some r):Bin D N bt op (.vz x) (.vz y) r:=by
 intro hO
 cases op<;>simp only [oZ,Option.some.injEq,reduceCtorEq] at h<;>subst h
 case add=>
  simp only [SR.O,List.mem_singleton,forall_eq] at hO
  exact ⟨_,_,_,_,_,rfl,rfl,rfl,by simp only [binA];rw [if_neg (by rw [show IntKind.i64.max=9223372036854775807 from rfl];omega)],rfl⟩
 all_goals exact ⟨_,_,_,_,_,rfl,rfl,rfl,rfl,rfl⟩
theorem eqB_ok {a b v:SV τ dn} (h:eqB a b=some v):∃x y,a.av D.toTE N= .v (.bool x)∧b.av D.toTE N= .v (.bool y)∧v.av D.toTE N= .v (.bool (x==y)):=by
 unfold eqB at h
 split at h<;>simp only [Option.some.injEq,reduceCtorEq] at h<;>subst h
 ·rename_i c b;exact ⟨_,_,rfl,rfl,by cases b<;>simp [SV.av,Cn.den]⟩
 ·rename_i b c;exact ⟨_,_,rfl,rfl,by cases b<;>simp [SV.av,Cn.den]<;>cases c.den<;>rfl⟩
 ·exact ⟨_,_,rfl,rfl,rfl⟩
theorem notS_ok {a v:SV τ dn} (h:notS a=some v):∃x,a.av D.toTE N= .v (.bool x)∧v.av D.toTE N= .v (.bool !x):=by
 unfold notS at h
 split at h<;>simp only [Option.some.injEq,reduceCtorEq] at h<;>subst h
 ·exact ⟨_,rfl,rfl⟩
 ·exact ⟨_,rfl,rfl⟩
theorem oBin_ok {neg bt:Bool} {op:BinOp} {a b:SV τ dn} {r:SR τ dn} (h:oBin neg bt op a b=some r):Bin D N bt op a b r:=by
 unfold oBin at h
 split at h
 ·rename_i v hv
  simp only [Option.some.injEq] at h;subst h
  intro _
  obtain ⟨x,y,w,h1,h2,h3,h4⟩:=oLit_ok (D:=D) (N:=N) hv
  exact ⟨_,_,_,_,_,rfl,h1,h2,h3,h4⟩
 ·split at h
  ·rename_i ha hb;exact oInt_ok ha hb h
  ·split at h
   ·simp only [Option.map_eq_some_iff] at h;obtain ⟨v,hv,rfl⟩:=h;exact oY_ok hv
   ·simp only [Option.map_eq_some_iff] at h;obtain ⟨v,hv,rfl⟩:=h;exact oU_ok hv
   ·exact oZ_ok h
   ·split at h<;>simp only [Option.some.injEq,reduceCtorEq] at h<;>subst h<;>intro hO<;>simp only [SR.O,List.mem_singleton,forall_eq] at hO
    ·exact ⟨_,_,_,_,_,rfl,rfl,rfl,by simp only [binA];rw [if_neg (by omega)],by rw [shl_u8];rfl⟩
    ·exact ⟨_,_,_,_,_,rfl,rfl,rfl,by simp only [binA];rw [if_neg (by omega)],by rw [shr_u8];rfl⟩
   ·split at h<;>simp only [Option.some.injEq,reduceCtorEq] at h<;>subst h<;>intro hO<;>simp only [SR.O,List.mem_singleton,forall_eq] at hO
    ·exact ⟨_,_,_,_,_,rfl,rfl,rfl,by simp only [binA];rw [if_neg (by omega)],by rw [shl_u8];rfl⟩
    ·exact ⟨_,_,_,_,_,rfl,rfl,rfl,by simp only [binA];rw [if_neg (by omega)],by rw [shr_u8];rfl⟩
   ·split at h<;>simp only [Option.some.injEq,reduceCtorEq] at h<;>subst h<;>intro hO<;>simp only [SR.O,List.mem_singleton,forall_eq] at hO
    ·exact ⟨_,_,_,_,_,rfl,rfl,rfl,by simp only [binA];rw [if_neg (by omega)],by rw [shl_u64];rfl⟩
    ·exact ⟨_,_,_,_,_,rfl,rfl,rfl,by simp only [binA];rw [if_neg (by omega)],by rw [shr_u64];rfl⟩
   ·split at h<;>simp only [Option.some.injEq,reduceCtorEq] at h<;>subst h<;>intro hO<;>simp only [SR.O,List.mem_singleton,forall_eq] at hO
    ·exact ⟨_,_,_,_,_,rfl,rfl,rfl,by simp only [binA];rw [if_neg (by omega)],by rw [shl_u64];rfl⟩
    ·exact ⟨_,_,_,_,_,rfl,rfl,rfl,by simp only [binA];rw [if_neg (by omega)],by rw [shr_u64];rfl⟩
   ·split at h
    ·rename_i hq
     subst hq
     split at h<;>simp only [Option.some.injEq,reduceCtorEq] at h<;>subst h<;>intro _<;>exact ⟨_,_,_,_,_,rfl,rfl,rfl,by simp only [binA,if_true]<;>rfl,rfl⟩
    ·simp at h
   ·split at h<;>simp only [Option.some.injEq,reduceCtorEq] at h<;>subst h<;>intro hO<;>simp only [SR.O,List.mem_singleton,forall_eq] at hO
    ·exact ⟨_,_,_,_,_,rfl,rfl,rfl,by simp only [binA];rw [if_neg (by omega)],rfl⟩
    ·exact ⟨_,_,_,_,_,rfl,rfl,rfl,by simp only [binA];rw [if_neg (by omega)],rfl⟩
   ·split at h<;>simp only [Option.some.injEq,reduceCtorEq] at h<;>subst h<;>intro hO<;>simp only [SR.O,List.mem_singleton,forall_eq] at hO
    ·exact ⟨_,_,_,_,_,rfl,rfl,rfl,by simp only [binA];rw [if_neg (by omega)],rfl⟩
    ·exact ⟨_,_,_,_,_,rfl,rfl,rfl,by simp only [binA];rw [if_neg (by omega)],rfl⟩
   ·split at h
    ·rename_i hbt
     subst hbt
     split at h
     ·simp only [Option.map_eq_some_iff] at h;obtain ⟨v,hv,rfl⟩:=h
      obtain ⟨x,y,h1,h2,h3⟩:=eqB_ok (D:=D) (N:=N) hv
      intro _;exact ⟨_,_,_,_,_,rfl,h1,h2,rfl,h3⟩
     ·simp only [Option.map_eq_some_iff,Option.bind_eq_some_iff] at h;obtain ⟨v,⟨w,hw,hv⟩,rfl⟩:=h
      obtain ⟨x,y,h1,h2,h3⟩:=eqB_ok (D:=D) (N:=N) hw
      obtain ⟨z,h4,h5⟩:=notS_ok (D:=D) (N:=N) hv
      rw [h3] at h4;simp only [AV.v.injEq,Value.bool.injEq] at h4;subst h4
      intro _;exact ⟨_,_,_,_,_,rfl,h1,h2,rfl,h5⟩
     ·simp at h
    ·simp at h
theorem oUn_ok {op:UnOp} {a:SV τ dn} {r:SR τ dn} (h:oUn op a=some r):(∀p,p∈r.O→p)→∃O v x w,r= .val O v∧a.av D.toTE N= .v x∧unA op x=some w∧v.av D.toTE N= .v w:=by
 intro hO
 unfold oUn at h
 split at h
 ·simp only [Option.map_eq_some_iff] at h;obtain ⟨v,hv,rfl⟩:=h
  exact ⟨_,_,_,_,rfl,rfl,rfl,ofV_av _ _ hv⟩
 ·simp only [Option.some.injEq] at h;subst h
  simp only [SR.O,List.mem_singleton,forall_eq] at hO
  exact ⟨_,_,_,_,rfl,rfl,rfl,by rw [hO.wr];rfl⟩
 ·simp only [Option.some.injEq] at h;subst h
  rename_i x
  refine ⟨_,_,_,_,rfl,rfl,rfl, ?_⟩
  have e:(if IntKind.u64.signed=true then (-1:Int) else IntKind.u64.max)=((uN 18446744073709551615).n:Int):=rfl
  rw [e,bits_u64];rfl
 ·simp only [Option.map_eq_some_iff] at h;obtain ⟨v,hv,rfl⟩:=h
  obtain ⟨x,h1,h2⟩:=notS_ok (D:=D) (N:=N) hv
  exact ⟨_,_,_,_,rfl,h1,rfl,h2⟩
 ·simp at h
theorem oConv_ok {k:IntKind} {a:SV τ dn} {r:SR τ dn} (h:oConv k a=some r):(∀p,p∈r.O→p)→∃O v q x,r= .val O v∧a.av D.toTE N= .v (.int q x)∧v.av D.toTE N= .v (.int k (k.wrap x)):=by
 intro hO
 unfold oConv at h
 split at h<;>simp only [Option.map_eq_some_iff,Option.some.injEq,reduceCtorEq] at h
 ·obtain ⟨v,hv,rfl⟩:=h
  exact ⟨_,_,_,_,rfl,rfl,ofV_av _ _ hv⟩
 all_goals subst h;try simp only [SR.O,List.mem_singleton,forall_eq] at hO
 ·exact ⟨_,_,_,_,rfl,rfl,by rw [hO.wr];rfl⟩
 ·rename_i x;exact ⟨_,_,_,_,rfl,rfl,by rw [I64.wr (x:=(x.toNat:Int)) (by have:=x.toNat_lt;exact ⟨by omega,by omega⟩)];rfl⟩
 ·exact ⟨_,_,_,_,rfl,rfl,by rw [hO.wr];rfl⟩
 ·exact ⟨_,_,_,_,rfl,rfl,by rw [hO.wr];rfl⟩
 ·exact ⟨_,_,_,_,rfl,rfl,by rw [conv_u8 hO];rfl⟩
 ·rename_i x;exact ⟨_,_,_,_,rfl,rfl,by rw [conv_u8 (Int.natCast_nonneg _)];rfl⟩
 ·exact ⟨_,_,_,_,rfl,rfl,by rw [conv_u8 hO];rfl⟩
 ·exact ⟨_,_,_,_,rfl,rfl,by rw [conv_u64 hO];rfl⟩
 ·rename_i x;exact ⟨_,_,_,_,rfl,rfl,by rw [conv_u64 (Int.natCast_nonneg _)];rfl⟩
 all_goals exact ⟨_,_,_,_,rfl,rfl,rfl⟩
theorem gcS_ok {cs:List (SV τ dn)} {o:Nat} {m:Option Nat} {v:SV τ dn} (h:gcS cs o m=some v):getCells (cs.map (SV.av D.toTE N)) o m=some (v.av D.toTE N):=by
 cases m with
 |none=>simp only [gcS] at h;simp only [getCells,List.getElem?_map,h];rfl
 |some n=>
  simp only [gcS] at h
  split at h
  ·rename_i hl
   simp only [Option.some.injEq] at h;subst h
   simp only [getCells,List.length_map,if_pos hl,SV.av,SV.avL_map,List.map_take,List.map_drop]
  ·simp at h
theorem pcS_map {cs:List (SV τ dn)} {o:Nat} {ys:List (SV τ dn)}:(pcS cs o ys).map (SV.av D.toTE N)=putCells (cs.map (SV.av D.toTE N)) o (ys.map (SV.av D.toTE N)):=by
 simp only [pcS,putCells,List.map_append,List.map_take,List.map_drop,List.length_map]
theorem all_one {cs:List (SV τ dn)} (h:cs.all SV.one=true):(cs.map (SV.av D.toTE N)).all AV.one=true:=by
 simp only [List.all_eq_true,List.mem_map] at h ⊢
 rintro _ ⟨v,hv,rfl⟩
 exact SV.one_av (h v hv)
theorem fillS_ok (R:RelAt D N st σ g):∀{parts:List (Nat×Nat×Arg)} {cells l:List (SV τ dn)},fillS st cells parts=some l→fillA (argσ σ) (cells.map (SV.av D.toTE N)) parts=some (l.map (SV.av D.toTE N))
 |[],cells,l,h=>by simp only [fillS,Option.some.injEq] at h;subst h;rfl
 |(off,n,x)::r,cells,l,h=>by
  simp only [fillS] at h
  split at h
  ·rename_i v hv
   split at h
   ·rename_i hc
    have hs:=SV.cells_av (E:=D.toTE) (N:=N) hc.2.2
    simp only [fillA,R.ev hv,hs,List.length_map,hc.1,hc.2.1,SV.solid_av hc.2.2,and_self,if_true]
    rw [←pcS_map];exact fillS_ok R h
   ·simp at h
  ·simp at h
theorem fillT_ok (R:RelAt D N st σ g) {sz:Nat}:∀{parts:List (Nat×Arg)} {els l:List (List (SV τ dn))},fillT st sz els parts=some l→fillE (argσ σ) sz (els.map fun cs=>cs.map (SV.av D.toTE N)) parts=some (l.map fun cs=>cs.map (SV.av D.toTE N))
 |[],els,l,h=>by simp only [fillT,Option.some.injEq] at h;subst h;rfl
 |(i,x)::r,els,l,h=>by
  simp only [fillT] at h
  split at h
  ·rename_i v hv
   split at h
   ·rename_i hc
    have hs:=SV.cells_av (E:=D.toTE) (N:=N) hc.2.2.1
    simp only [fillE,R.ev hv,hs,List.length_map,hc.1,hc.2.1,all_one hc.2.2.2,and_self,if_true]
    have:=fillT_ok R h
    rw [List.map_set] at this;exact this
   ·simp at h
  ·simp at h
theorem eqS1_ok {k:LK} {a b v:SV τ dn} (h:eqS1 k a b=some v):∃x,v.av D.toTE N= .v (.bool x)∧eqV k (a.av D.toTE N) (b.av D.toTE N)=some x:=by
 unfold eqS1 at h
 split at h
 ·split at h
  ·rename_i v hv
   simp only [Option.some.injEq] at h;subst h
   obtain ⟨x,y,w,h1,h2,h3,h4⟩:=oLit_ok (D:=D) (N:=N) hv
   rw [h1,h2]
   unfold oLit at hv
   split at hv
   ·rename_i x' y' g1 g2
    rw [lit_av (D:=D) (N:=N) g1] at h1;rw [lit_av (D:=D) (N:=N) g2] at h2
    simp only [AV.v.injEq] at h1 h2;subst h1;subst h2
    clear hv
    cases a<;>simp only [SV.lit,Option.some.injEq,reduceCtorEq] at g1<;>subst g1<;>cases b<;>simp only [SV.lit,Option.some.injEq,reduceCtorEq] at g2<;>subst g2
    ·simp only [binA,if_true,Option.some.injEq] at h3;subst h3
     exact ⟨_,h4,by simp [eqV]⟩
    all_goals simp [binA] at h3
   ·simp at hv
  ·split at h
   ·rename_i ha hb
    simp only [Option.some.injEq] at h;subst h
    rw [int_av ha,int_av hb]
    exact ⟨_,rfl,by simp [eqV,Cn.den]⟩
   ·split at h<;>simp only [Option.some.injEq,reduceCtorEq] at h<;>subst h
    ·exact ⟨_,rfl,by simp [eqV,SV.av,Cn.den]⟩
    ·refine ⟨_,rfl, ?_⟩
     simp only [eqV,SV.av,Cn.den,if_true,Option.some.injEq]
     rw [Bool.eq_iff_iff];simp [←UInt8.toNat_inj];omega
 ·simp only [Option.some.injEq] at h;subst h;exact ⟨_,rfl,rfl⟩
 ·simp only [Option.some.injEq] at h;subst h;exact ⟨_,rfl,rfl⟩
 ·obtain ⟨x,y,h1,h2,h3⟩:=eqB_ok (D:=D) (N:=N) h
  exact ⟨_,h3,by rw [h1,h2];rfl⟩
 ·simp at h
theorem andS_ok {a b v:SV τ dn} (h:andS a b=some v) {x y:Bool} (hx:a.av D.toTE N= .v (.bool x)) (hy:b.av D.toTE N= .v (.bool y)):v.av D.toTE N= .v (.bool (x&&y)):=by
 unfold andS at h
 split at h<;>simp only [Option.some.injEq,reduceCtorEq] at h<;>subst h<;>simp only [SV.av,AV.v.injEq,Value.bool.injEq,Cn.den] at hx hy ⊢
 ·subst hx;rw [hy];simp
 ·subst hx;simp
 ·subst hx;simp
 ·subst hx;subst hy;simp
 ·subst hx;subst hy;simp
 ·subst hx;subst hy;rfl
theorem eqS_ok:∀{L:List (Nat×LK)} {cs ds:List (SV τ dn)} {v:SV τ dn},eqS cs ds L=some v→∃x,v.av D.toTE N= .v (.bool x)∧eqA (cs.map (SV.av D.toTE N)) (ds.map (SV.av D.toTE N)) L=some x
 |[],cs,ds,v,h=>by simp only [eqS,Option.some.injEq] at h;subst h;exact ⟨_,rfl,rfl⟩
 |(o,k)::r,cs,ds,v,h=>by
  simp only [eqS] at h
  split at h
  ·rename_i a b ha hb
   split at h
   ·rename_i x y hx hy
    obtain ⟨p,h1,h2⟩:=eqS1_ok (D:=D) (N:=N) hx
    obtain ⟨q,h3,h4⟩:=eqS_ok hy
    refine ⟨_,andS_ok h h1 h3, ?_⟩
    simp only [eqA,List.getElem?_map,ha,hb,Option.map_some,h2,h4]
   ·simp at h
  ·simp at h
end
open Go.RowKit
section
variable {τ:Type} {dn:τ→Type} {D:TD τ dn} {N:Nms} {st:SS τ dn} {σ:Nat→AV} {g:Nat→Option Bk}
theorem optI_ok (R:RelAt D N st σ g) {x:Option Arg} {r:Option Int} (h:optI st x=some r) (h0:∀l,r=some l→0≤l):optNat (argσ σ) x=some (r.map Int.toNat):=by
 cases x with
 |none=>simp only [optI,Option.some.injEq] at h;subst h;rfl
 |some x=>
  simp only [optI] at h
  split at h
  ·rename_i v hv
   split at h
   ·rename_i k l hk
    simp only [Option.some.injEq] at h;subst h
    have:=h0 k rfl
    simp only [optNat,R.ev hv,int_av hk,natOf,this,if_true,Option.map_some]
   ·simp at h
  ·simp at h
theorem oLoad_ok (ok:TDok D) (R:RelAt D N st σ g) {m:Option Nat} {x:Arg} {v:SV τ dn} (hx:st.ev x=some v) {r:SR τ dn} (h:oLoad D st m v=some r):r.Good D N st.nx σ g (.load m x):=by
 intro k hO hf
 unfold oLoad at h
 split at h
 ·rename_i cs o
  simp only [Option.map_eq_some_iff] at h;obtain ⟨w,hw,rfl⟩:=h
  have:=gcS_ok (D:=D) (N:=N) hw
  simp only [AO.sem,R.ev hx,SV.av,SV.avL_map,this,Option.map_some,RM.opt,RM.run,SR.v,SR.ups]
 ·rename_i nm sz i o
  split at h
  ·rename_i ty xs hB
   split at h
   ·rename_i hs
    simp only [Option.map_eq_some_iff] at h;obtain ⟨w,hw,rfl⟩:=h
    simp only [SR.O,List.mem_singleton,forall_eq] at hO
    have hg:=(R.gm hB).1
    have hq:=gcS_ok (D:=D) (N:=N) hw
    rw [ok.es_av] at hq
    simp only [AO.sem,R.ev hx,SV.av,RM.run,hg,SB.av,hs,if_true,List.getElem?_map,gd_get (d:=D.df ty) hO,Option.map_some,Option.bind_some,hq,RM.opt,SR.v,SR.ups]
   ·simp at h
  ·rename_i q els hB
   split at h
   ·rename_i hs
    split at h
    ·rename_i cs hcs
     simp only [Option.map_eq_some_iff] at h;obtain ⟨w,hw,rfl⟩:=h
     have hg:=(R.gm hB).1
     have hq:=gcS_ok (D:=D) (N:=N) hw
     simp only [AO.sem,R.ev hx,SV.av,RM.run,hg,SB.av,hs,if_true,SV.avM_map,List.getElem?_map,hcs,Option.map_some,Option.bind_some,hq,RM.opt,SR.v,SR.ups]
    ·simp at h
   ·simp at h
  ·simp at h
 ·simp at h
theorem oStore_ok (ok:TDok D) (R:RelAt D N st σ g) {n:Nat} {x y:Arg} {a b:SV τ dn} (hx:st.ev x=some a) (hy:st.ev y=some b) {r:SR τ dn} (h:oStore D st n a b=some r):r.Good D N st.nx σ g (.store n x y):=by
 intro k hO hf
 unfold oStore at h
 split at h
 case isFalse=>simp at h
 rename_i hc
 have hcl:=SV.cells_av (E:=D.toTE) (N:=N) hc.2.1
 have hone:=all_one (D:=D) (N:=N) hc.2.2
 split at h
 ·rename_i nm sz i o
  split at h
  case isFalse=>simp at h
  rename_i hn
  have hle:=hn.1
  split at h
  ·rename_i ty xs hB
   split at h
   ·rename_i hs
    split at h
    ·rename_i z hz
     simp only [Option.some.injEq] at h;subst h
     simp only [SR.O,List.mem_singleton,forall_eq] at hO
     have hg:=(R.gm hB).1
     have he:=ok.ds_eq N ty _ z hz hs.2
     rw [pcS_map,ok.es_av] at he
     simp only [AO.sem,R.ev hx,R.ev hy,SV.av,RM.run,hg,SB.av,hs.1,hcl,List.length_map,hc.1,hone,hle,and_self,if_true,List.getElem?_map,gd_get (d:=D.df ty) hO,Option.map_some,SR.v,SR.ups,he,List.map_set]
    ·simp at h
   ·simp at h
  ·rename_i q els hB
   split at h
   ·rename_i hs
    split at h
    ·rename_i cs hcs
     simp only [Option.some.injEq] at h;subst h
     have hg:=(R.gm hB).1
     simp only [AO.sem,R.ev hx,R.ev hy,SV.av,RM.run,hg,SB.av,hs,hcl,List.length_map,hc.1,hone,hle,and_self,if_true,SV.avM_map,List.getElem?_map,hcs,Option.map_some,SR.v,SR.ups,List.map_set,pcS_map]
    ·simp at h
   ·simp at h
  ·simp at h
 ·simp at h
theorem oIad_ok (ok:TDok D) (R:RelAt D N st σ g) {sz:Nat} {x y:Arg} {a b:SV τ dn} {n:Int} {l:Bool} (hx:st.ev x=some a) (hy:st.ev y=some b) (hb:b.int=some (n,l)) {r:SR τ dn} (h:oIad D st sz a n l=some r):r.Good D N st.nx σ g (.iad sz x y):=by
 intro k hO hf
 unfold oIad at h
 split at h
 ·rename_i ty xs
  split at h
  ·rename_i hs
   simp only [Option.some.injEq] at h;subst h
   simp only [SR.O,List.mem_singleton,forall_eq] at hO
   have hl:n.toNat<xs.length:=by omega
   simp only [AO.sem,R.ev hx,R.ev hy,int_av hb,SV.av,hs,hO.1,and_self,if_true,List.getElem?_map,gd_get (d:=D.df ty) hl,Option.map_some,RM.opt,RM.run,SR.v,SR.ups,SV.avL_map,ok.es_av]
  ·simp at h
 ·rename_i q els
  cases l with
  |false=>simp at h
  |true=>
   simp only [cond_true] at h
   split at h
   ·rename_i hs
    simp only [Option.map_eq_some_iff] at h;obtain ⟨cs,hcs,rfl⟩:=h
    simp only [AO.sem,R.ev hx,R.ev hy,int_av hb,SV.av,hs.1,hs.2,and_self,if_true,SV.avM_map,List.getElem?_map,hcs,Option.map_some,RM.opt,RM.run,SR.v,SR.ups,SV.avL_map]
   ·simp at h
 ·rename_i nm q
  split at h
  case isFalse=>simp at h
  rename_i hs
  have key:∀B,st.gm nm=some B→0≤n∧n<B.len→r= .val r.O (.ref nm sz n.toNat 0)→(AO.sem k (argσ σ) (.iad sz x y)).run g=some (.done (r.v.av D.toTE N) (r.ups D N k)):=by
   intro B hB hr he
   obtain ⟨g1,g2⟩:=R.gm hB
   have:n<(N.ln nm:Int):=by rw [g2];exact hr.2
   rw [he]
   simp only [AO.sem,R.ev hx,R.ev hy,int_av hb,SV.av,hs,hr.1,this,and_self,if_true,RM.run,g1,SR.v,SR.ups,Nat.zero_add]
  split at h
  ·rename_i ty xs hB
   simp only [Option.some.injEq] at h;subst h
   simp only [SR.O,List.mem_singleton,forall_eq] at hO
   exact key _ hB hO rfl
  ·rename_i q' els hB
   cases l with
   |true=>
    simp only [cond_true] at h
    split at h
    ·rename_i hr
     simp only [Option.some.injEq] at h;subst h
     exact key _ hB hr rfl
    ·simp at h
   |false=>
    simp only [cond_false,Option.some.injEq] at h;subst h
    simp only [SR.O,List.mem_singleton,forall_eq] at hO
    exact key _ hB hO rfl
  ·simp at h
 ·rename_i nm q off len
  split at h
  case isFalse=>simp at h
  rename_i hs
  simp only [Option.map_eq_some_iff] at h;obtain ⟨B,hB,rfl⟩:=h
  simp only [SR.O,List.mem_singleton,forall_eq] at hO
  obtain ⟨g1,g2⟩:=R.gm hB
  simp only [AO.sem,R.ev hx,R.ev hy,int_av hb,SV.av,hs,hO.1,hO.2,and_self,if_true,RM.run,g1,SR.v,SR.ups]
 ·simp at h
theorem lenS_av (B:SB τ dn):B.lenS.av D.toTE N= .v (goInt B.len):=by cases B<;>rfl
theorem oLen_ok (R:RelAt D N st σ g) {s:Bool} {x:Arg} {v:SV τ dn} (hx:st.ev x=some v) {r:SR τ dn} (h:oLen st s v=some r):r.Good D N st.nx σ g (.len s x):=by
 intro k hO hf
 unfold oLen at h
 split at h
 ·simp only [Option.some.injEq] at h;subst h;simp only [AO.sem,R.ev hx,SV.av,RM.run,SR.v,SR.ups,goInt]
 ·simp only [Option.some.injEq] at h;subst h;simp only [AO.sem,R.ev hx,SV.av,RM.run,SR.v,SR.ups,goInt,List.length_map]
 ·simp only [Option.some.injEq] at h;subst h;simp only [AO.sem,R.ev hx,SV.av,RM.run,SR.v,SR.ups,goInt,SV.avM_map,List.length_map]
 ·simp only [Option.some.injEq] at h;subst h;simp only [AO.sem,R.ev hx,SV.av,RM.run,SR.v,SR.ups,goInt]
 ·rename_i nm _
  simp only [Option.map_eq_some_iff] at h;obtain ⟨B,hB,rfl⟩:=h
  obtain ⟨g1,g2⟩:=R.gm hB
  simp only [AO.sem,R.ev hx,SV.av,RM.run,g1,g2,SR.v,SR.ups,lenS_av]
 ·rename_i nm _ _ n
  simp only [Option.map_eq_some_iff] at h;obtain ⟨B,hB,rfl⟩:=h
  obtain ⟨g1,g2⟩:=R.gm hB
  simp only [AO.sem,R.ev hx,SV.av,RM.run,g1,SR.v,SR.ups,goInt]
 ·simp at h
theorem oIsn_ok (R:RelAt D N st σ g) {kd:NK} {neg:Bool} {x:Arg} {v:SV τ dn} (hx:st.ev x=some v) {r:SR τ dn} (h:oIsn st kd neg v=some r):r.Good D N st.nx σ g (.isn kd neg x):=by
 intro k hO hf
 unfold oIsn at h
 split at h
 ·simp only [Option.some.injEq] at h;subst h;simp only [AO.sem,R.ev hx,SV.av,RM.run,SR.v,SR.ups]
 ·simp only [Option.some.injEq] at h;subst h;simp only [AO.sem,R.ev hx,SV.av,RM.run,SR.v,SR.ups]
 ·simp only [Option.some.injEq] at h;subst h;simp only [AO.sem,R.ev hx,SV.av,RM.run,SR.v,SR.ups]
 ·rename_i nm _ _ _
  simp only [Option.map_eq_some_iff] at h;obtain ⟨B,hB,rfl⟩:=h
  obtain ⟨g1,g2⟩:=R.gm hB
  simp only [AO.sem,R.ev hx,SV.av,RM.run,g1,SR.v,SR.ups]
 ·simp only [Option.some.injEq] at h;subst h;simp only [AO.sem,R.ev hx,SV.av,RM.run,SR.v,SR.ups]
 ·simp only [Option.some.injEq] at h;subst h;simp only [AO.sem,R.ev hx,SV.av,RM.run,SR.v,SR.ups]
 ·rename_i ty xs
  simp only [Option.some.injEq] at h;subst h
  simp only [SR.O,List.mem_singleton,forall_eq] at hO
  cases xs with
  |nil=>exact absurd rfl hO
  |cons a l=>simp only [AO.sem,R.ev hx,SV.av,RM.run,SR.v,SR.ups,List.map_cons,List.isEmpty_cons,Bool.false_eq_true,if_false]
 ·simp at h
theorem cutO_nn {len:Int} {lo hi:Option Int} (h:∀p,p∈cutO len lo hi→p):(∀l,lo=some l→0≤l)∧(∀l,hi=some l→0≤l)∧((lo.getD 0:Int)≤hi.getD len∨(lo=none∧hi=none))∧(hi.getD len≤len):=by
 cases lo<;>cases hi<;>simp only [cutO,List.mem_singleton,forall_eq,List.not_mem_nil,false_implies,implies_true] at h<;>simp<;>omega
theorem bounds_cut {n:Nat} {lo hi:Option Int} (h:∀p,p∈cutO (n:Int) lo hi→p):bounds n (lo.map Int.toNat) (hi.map Int.toNat)=some ((lo.getD 0).toNat,(hi.getD (n:Int)).toNat):=by
 cases lo<;>cases hi<;>simp only [cutO,List.mem_singleton,forall_eq,List.not_mem_nil,false_implies,implies_true] at h<;>simp only [bounds,Option.map_none,Option.map_some,Option.getD_none,Option.getD_some]
 ·rw [if_pos (by omega)];simp
 ·rw [if_pos (by omega)];simp
 ·rw [if_pos (by omega)];simp
 ·rw [if_pos (by omega)]
theorem cutT_eq {α:Type} {xs:List α} {lo hi:Option Int} (h:∀p,p∈cutO (xs.length:Int) lo hi→p):cutT xs lo hi=(xs.drop (lo.getD 0).toNat).take ((hi.getD (xs.length:Int)).toNat - (lo.getD 0).toNat):=by
 cases lo<;>cases hi<;>simp only [cutO,List.mem_singleton,forall_eq,List.not_mem_nil,false_implies,implies_true] at h<;>simp only [cutT,Option.getD_none,Option.getD_some]
 ·simp
 ·simp
 ·rw [List.take_of_length_le (by simp)]
theorem oSlc_ok (R:RelAt D N st σ g) {sz:Nat} {x:Arg} {lo hi:Option Arg} {v:SV τ dn} {l h':Option Int} (hx:st.ev x=some v) (hl:optI st lo=some l) (hh:optI st hi=some h') {r:SR τ dn} (h:oSlc D st sz v l h'=some r):r.Good D N st.nx σ g (.slc sz x lo hi none):=by
 intro k hO hf
 have hn:optNat (argσ σ) none=some none:=rfl
 unfold oSlc at h
 split at h
 ·rename_i ty xs
  split at h
  ·rename_i hs
   simp only [Option.some.injEq] at h;subst h
   simp only [SR.O] at hO
   have nn:=cutO_nn hO
   have e1:=optI_ok R hl nn.1
   have e2:=optI_ok R hh nn.2.1
   have hb:=bounds_cut hO
   simp only [AO.sem,e1,e2,hn,R.ev hx,SV.av,hs,if_true,List.length_map,hb,Option.bind_some,cutL,Option.map_some,RM.opt,RM.run,SR.v,SR.ups,cutT_eq hO,List.map_take,List.map_drop]
  ·simp at h
 ·split at h
  ·simp only [Option.some.injEq] at h;subst h
   have e1:=optI_ok R hl (by simp)
   have e2:=optI_ok R hh (by simp)
   simp only [AO.sem,e1,e2,hn,R.ev hx,SV.av,Option.map_none,bounds,Option.getD_none,Nat.le_refl,and_self,if_true,Option.bind_some,RM.opt,RM.run,SR.v,SR.ups]
  ·simp at h
 ·rename_i nm q
  split at h
  case isFalse=>simp at h
  rename_i hs
  split at h
  ·simp only [Option.map_eq_some_iff] at h;obtain ⟨B,hB,rfl⟩:=h
   obtain ⟨g1,g2⟩:=R.gm hB
   have e1:=optI_ok R hl (by simp)
   have e2:=optI_ok R hh (by simp)
   simp only [AO.sem,e1,e2,hn,R.ev hx,SV.av,Option.map_none,RM.run,g1,hs,if_true,bounds,Option.getD_none,Nat.zero_le,Nat.le_refl,and_self,SR.v,SR.ups,Nat.zero_add,Nat.sub_zero]
  ·simp only [Option.map_eq_some_iff] at h;obtain ⟨B,hB,rfl⟩:=h
   obtain ⟨g1,g2⟩:=R.gm hB
   simp only [SR.O] at hO
   have nn:=cutO_nn hO
   have e1:=optI_ok R hl nn.1
   have e2:=optI_ok R hh nn.2.1
   have hb:=bounds_cut hO
   simp only [AO.sem,e1,e2,hn,R.ev hx,SV.av,RM.run,g1,hs,if_true,g2,hb,SR.v,SR.ups,Nat.zero_add]
 ·simp at h
theorem decL_ok [DecidableEq τ] (ok:TDok D) {ty:τ}:∀{els:List (List (SV τ dn))} {xs:List (dn ty)},decL D ty els=some xs→(SV.avM D.toTE N els)=xs.map (D.ea N.ρ ty)
 |[],xs,h=>by simp only [decL,Option.some.injEq] at h;subst h;rfl
 |cs::r,xs,h=>by
  simp only [decL] at h
  split at h
  ·rename_i hn
   split at h
   ·rename_i x l h1 h2
    simp only [Option.some.injEq] at h;subst h
    have e1:=ok.ds_eq N ty _ _ h1 hn
    have e2:=decL_ok ok h2
    simp only [SV.avM,SV.avL_map,e1,e2,List.map_cons]
   ·simp at h
  ·simp at h
theorem decL_len [DecidableEq τ] {ty:τ}:∀{els:List (List (SV τ dn))} {xs:List (dn ty)},decL D ty els=some xs→els.length=xs.length
 |[],xs,h=>by simp only [decL,Option.some.injEq] at h;subst h;rfl
 |cs::r,xs,h=>by
  simp only [decL] at h
  split at h
  ·split at h
   ·rename_i x l h1 h2
    simp only [Option.some.injEq] at h;subst h
    simp [decL_len h2]
   ·simp at h
  ·simp at h
theorem key_av {a:SV τ dn} {x:Value} (h:a.key=some x):a.av D.toTE N= .v x:=by
 cases a<;>simp [SV.key] at h<;>subst h<;>rfl
theorem mfindS_ok {kd:LK} {k:Value}:∀{els:List (List (SV τ dn))} {r:Option (SV τ dn)},mfindS kd k els=some r→mfind kd k (SV.avM D.toTE N els)=some (r.map (SV.av D.toTE N))
 |[],r,h=>by simp only [mfindS,Option.some.injEq] at h;subst h;rfl
 |[kv,x]::l,r,h=>by
  simp only [mfindS] at h
  split at h
  ·rename_i k' hk
   simp only [SV.avM,SV.avL,key_av hk,mfind]
   split at h
   ·rename_i he
    simp only [Option.some.injEq] at h;subst h
    simp only [he];rfl
   ·rename_i he
    simp only [he];exact mfindS_ok h
   ·simp at h
  ·simp at h
 |[]::l,r,h=>by simp [mfindS] at h
 |[_]::l,r,h=>by simp [mfindS] at h
 |(_::_::_::_)::l,r,h=>by simp [mfindS] at h
theorem intsM_ok {n z:Int}:∀{els:List (List (SV τ dn))} {l:List (Int×Int)},intsM els=some l→∃r,mfind .int (.int .i64 n) (SV.avM D.toTE N els)=some r∧r.getD (.v (.int .i64 z))= .v (.int .i64 (pickI z n l))
 |[],l,h=>by simp only [intsM,Option.some.injEq] at h;subst h;exact ⟨none,rfl,rfl⟩
 |[kv,x]::els,l,h=>by
  cases kv with
  |vn k=>
   simp only [intsM] at h
   split at h
   ·rename_i v b l' h1 h2
    simp only [Option.some.injEq] at h;subst h
    obtain ⟨r,q1,q2⟩:=intsM_ok (n:=n) (z:=z) h2
    simp only [SV.avM,SV.avL,SV.av,int_av h1,mfind,keyEq,if_true,pickI]
    by_cases hk:n=k
    ·subst hk;exact ⟨some (.v (.int .i64 v)),by simp,by simp⟩
    ·have:(n==k)=false:=by simpa using hk
     rw [this,if_neg hk];exact ⟨r,q1,q2⟩
   ·simp at h
  |_=>simp [intsM] at h
 |[]::l,r,h=>by simp [intsM] at h
 |[_]::l,r,h=>by simp [intsM] at h
 |(_::_::_::_)::l,r,h=>by simp [intsM] at h
theorem oMup_ok (R:RelAt D N st σ g) {kd:LK} {x k y:Arg} {a b c:SV τ dn} (hx:st.ev x=some a) (hk:st.ev k=some b) (hy:st.ev y=some c) {r:SR τ dn} (h:oMup st kd a b c=some r):r.Good D N st.nx σ g (.mup kd x k y):=by
 unfold oMup at h
 split at h
 case h_2=>simp at h
 rename_i nm key hkey
 split at h
 case h_2=>simp at h
 rename_i els hB
 cases hb:(st.rw nm&&plainV key) with
 |false=>rw [hb] at h;simp at h
 |true=>
  rw [hb,cond_true] at h
  rw [Bool.and_eq_true] at hb
  split at h
  case h_2=>simp at h
  rename_i hf
  simp only [Option.some.injEq] at h;subst h
  intro k' hO hfr
  have g1:=(R.gm hB).1
  have hm:=mfindS_ok (D:=D) (N:=N) hf
  rw [SV.avM_map] at hm
  simp only [AO.sem,R.ev hx,R.ev hk,R.ev hy,key_av hkey,SV.av,RM.run,g1,SB.av,hb.2,and_self,if_true,hm,Option.map_none,SR.v,SR.ups,SV.avM_map,List.map_append,List.map_cons,List.map_nil]
theorem oMlk_ok (R:RelAt D N st σ g) {kd:LK} {z:AV} {x k:Arg} {a b:SV τ dn} (hx:st.ev x=some a) (hk:st.ev k=some b) {r:SR τ dn} (h:oMlk st kd z a b=some r):r.Good D N st.nx σ g (.mlk kd z x k):=by
 unfold oMlk at h
 split at h
 case h_2=>simp at h
 rename_i nm zs hz
 have ez:zs.av D.toTE N=z:=ofA_av _ _ hz
 split at h
 case h_2=>simp at h
 rename_i els hB
 have g1:=(R.gm hB).1
 split at h
 ·rename_i n
  split at h
  case h_2=>simp at h
  rename_i l zi b' hl hzi
  simp only [Option.some.injEq] at h;subst h
  intro k' hO hfr
  obtain ⟨q,q1,q2⟩:=intsM_ok (D:=D) (N:=N) (n:=n) (z:=zi) hl
  rw [int_av hzi] at ez
  subst ez
  simp only [AO.sem,R.ev hx,R.ev hk,SV.av,RM.run,g1,SB.av,if_true,q1,Option.map_some,RM.opt,q2,SR.v,SR.ups]
 ·split at h
  ·rename_i key hkey
   simp only [Option.map_eq_some_iff] at h;obtain ⟨q,hq,rfl⟩:=h
   intro k' hO hfr
   have hm:=mfindS_ok (D:=D) (N:=N) hq
   simp only [AO.sem,R.ev hx,R.ev hk,key_av hkey,SV.av,RM.run,g1,SB.av,if_true,hm,Option.map_some,RM.opt,SR.v,SR.ups]
   cases q with
   |none=>simp [ez]
   |some w=>simp
  ·simp at h
def Ct.els (D:TD τ dn) (N:Nms):Ct τ dn→List (List AV)
 | .ty t xs=>xs.map (D.ea N.ρ t)
 | .li els=>SV.avM D.toTE N els
theorem Ct.els_len (c:Ct τ dn):(c.els D N).length=c.len:=by
 cases c with
 |ty t xs=>simp [Ct.els,Ct.len]
 |li els=>simp [Ct.els,Ct.len,SV.avM_map]
theorem cont_ok (R:RelAt D N st σ g) {sz:Nat} {v:SV τ dn} {c:Ct τ dn} (h:st.cont D sz v=some c):(content sz (v.av D.toTE N)).run g=some (c.els D N)∧(∀t xs,c= .ty t xs→D.sz t=sz):=by
 unfold SS.cont at h
 split at h
 ·split at h
  ·rename_i ty xs hs
   simp only [Option.some.injEq] at h;subst h
   refine ⟨by simp only [SV.av,content,hs,if_true,RM.run,Ct.els],fun t ys e=> ?_⟩
   simp only [Ct.ty.injEq] at e;obtain ⟨rfl,_⟩:=e;exact hs
  ·simp at h
 ·split at h
  ·rename_i k els hs
   simp only [Option.some.injEq] at h;subst h
   exact ⟨by simp only [SV.av,content,hs,if_true,RM.run,Ct.els],fun t ys e=>by simp at e⟩
  ·simp at h
 ·simp only [Option.some.injEq] at h;subst h
  exact ⟨rfl,fun t ys e=>by simp at e⟩
 ·rename_i nm k
  split at h
  case isFalse=>simp at h
  rename_i hs
  subst hs
  split at h
  ·rename_i ty xs hB
   split at h
   ·rename_i hs
    simp only [Option.some.injEq] at h;subst h
    obtain ⟨g1,g2⟩:=R.gm hB
    refine ⟨?_,fun t ys e=> ?_⟩
    ·simp only [SV.av,content,RM.run,g1,SB.av,hs,g2,SB.len,Nat.zero_add,List.length_map,Nat.le_refl,and_self,if_true,List.drop_zero,Ct.els]
     rw [List.take_of_length_le (by simp)]
    ·simp only [Ct.ty.injEq] at e;obtain ⟨rfl,_⟩:=e;exact hs
   ·simp at h
  ·rename_i q els hB
   split at h
   ·rename_i hs
    simp only [Option.some.injEq] at h;subst h
    obtain ⟨g1,g2⟩:=R.gm hB
    refine ⟨?_,fun t ys e=>by simp at e⟩
    have e:(SV.avM D.toTE N els).length=els.length:=by simp [SV.avM_map]
    simp only [SV.av,content,RM.run,g1,SB.av,hs,g2,SB.len,Nat.zero_add,e,Nat.le_refl,and_self,if_true,List.drop_zero,Ct.els]
    rw [List.take_of_length_le (by rw [e];exact Nat.le_refl _)]
   ·simp at h
  ·simp at h
 ·simp at h
theorem catB_isM [DecidableEq τ] {D:TD τ dn} {sz:Nat} {B B':SB τ dn} {c:Ct τ dn} (h:catB D sz B c=some B'):B.isM=false:=by
 cases B with
 |mc els=>simp [catB] at h
 |_=>rfl
theorem catB_ok [DecidableEq τ] (ok:TDok D) {sz:Nat} {B B':SB τ dn} {c:Ct τ dn} (h:catB D sz B c=some B') (hs:B.sz D=sz) (hc:∀t xs,c= .ty t xs→D.sz t=sz):B'.av D.toTE N=⟨sz,(B.av D.toTE N).els++c.els D N⟩∧B'.len=B.len+c.len:=by
 unfold catB at h
 split at h
 ·split at h
  ·rename_i ty xs ty' ys he
   simp only [Option.some.injEq] at h;subst h
   subst he
   simp only [SB.sz] at hs
   refine ⟨?_, ?_⟩
   ·simp only [SB.av,Ct.els,List.map_append,hs]
   ·simp [SB.len,Ct.len]
  ·simp at h
 ·simp only [Option.map_eq_some_iff] at h;obtain ⟨ys,hy,rfl⟩:=h
  simp only [SB.sz] at hs
  have e:=decL_ok (N:=N) ok hy
  have e2:=decL_len hy
  refine ⟨?_, ?_⟩
  ·simp only [SB.av,Ct.els,List.map_append,hs,e]
  ·simp [SB.len,Ct.len,e2]
 ·split at h
  ·rename_i q els ty ys hq
   simp only [Option.map_eq_some_iff] at h;obtain ⟨xs,hx,rfl⟩:=h
   simp only [SB.sz] at hs
   have e:=decL_ok (N:=N) ok hx
   have e2:=decL_len hx
   refine ⟨?_, ?_⟩
   ·simp only [SB.av,Ct.els,List.map_append, ←hq,hs,e]
   ·simp [SB.len,Ct.len,e2]
  ·simp at h
 ·split at h
  ·rename_i q els fs hq
   simp only [Option.some.injEq] at h;subst h
   refine ⟨?_, ?_⟩
   ·simp only [SB.av,Ct.els,SV.avM_map,List.map_append,hq]
   ·simp [SB.len,Ct.len]
  ·simp at h
 ·simp at h
 ·simp at h
theorem blk_av {sz:Nat} {c:Ct τ dn} (hc:∀t xs,c= .ty t xs→D.sz t=sz):(c.blk sz).av D.toTE N=⟨sz,c.els D N⟩∧(c.blk sz).len=c.len:=by
 cases c with
 |ty t xs=>simp only [Ct.blk,SB.av,Ct.els,hc t xs rfl,SB.len,Ct.len,and_self]
 |li els=>simp only [Ct.blk,SB.av,Ct.els,SB.len,Ct.len,and_self]
theorem sz_av (B:SB τ dn):(B.av D.toTE N).sz=B.sz D:=by cases B<;>rfl
theorem run_bindS {α β:Type} {f:α→RM β} {m:RM α} {a:α} (h:m.run g=some a):(m.bind f).run g=(f a).run g:=(run_bind m h).1
theorem oApp_ok [DecidableEq τ] (ok:TDok D) (R:RelAt D N st σ g) {sz bytes:Nat} {x y:Arg} {s v:SV τ dn} (hx:st.ev x=some s) (hy:st.ev y=some v) {r:SR τ dn} (h:oApp D st sz bytes s v=some r):r.Good D N st.nx σ g (.app sz bytes x y):=by
 intro k hO hf
 unfold oApp at h
 split at h
 case h_2=>simp at h
 rename_i c hc
 obtain ⟨c1,c2⟩:=cont_ok R hc
 have cl:(c.els D N).length=c.len:=c.els_len
 have e0:(AO.sem k (argσ σ) (.app sz bytes x y)).run g=_:=run_bindS (by rw [R.ev hy];exact c1)
 rw [e0,R.ev hx]
 clear e0
 split at h
 ·simp only [Option.some.injEq] at h;subst h
  simp only [SR.O,List.mem_singleton,forall_eq] at hO
  obtain ⟨b1,b2⟩:=blk_av (N:=N) c2
  obtain ⟨f1,f2⟩:=hf
  simp only [SV.av,cl,hO,if_true,RM.run,SR.v,SR.ups,b1,f1,f2,b2]
 ·rename_i nm q
  split at h
  case isFalse=>simp at h
  rename_i hs
  split at h
  ·rename_i B hB
   split at h
   ·rename_i hz
    simp only [Option.map_eq_some_iff] at h;obtain ⟨B',hB',rfl⟩:=h
    simp only [SR.O,List.mem_singleton,forall_eq] at hO
    obtain ⟨g1,g2⟩:=R.gm hB
    obtain ⟨b1,b2⟩:=catB_ok (N:=N) ok hB' hz c2
    obtain ⟨f1,f2⟩:=hf
    have e1:=B.av_len D.toTE N (catB_isM hB')
    simp only [SV.av,RM.run,g1,sz_av,hz,hs.1,g2,e1,cl,hO,and_self,if_true,SR.v,SR.ups,b1,f1,f2,b2]
   ·simp at h
  ·simp at h
 ·simp at h
theorem oMsl_ok [DecidableEq τ] (ok:TDok D) (R:RelAt D N st σ g) {sz bytes:Nat} {zs:List AV} {x y:Arg} {a b:SV τ dn} {l c:Int} {p q:Bool} (hx:st.ev x=some a) (hy:st.ev y=some b) (ha:a.int=some (l,p)) (hb:b.int=some (c,q)) {r:SR τ dn} (h:oMsl D st sz bytes zs l c=some r):r.Good D N st.nx σ g (.msl sz bytes zs x y):=by
 intro k hO hf
 unfold oMsl at h
 split at h
 ·rename_i ty cs h1 h2
  split at h
  ·rename_i hs
   split at h
   ·rename_i z hz
    simp only [Option.some.injEq] at h;subst h
    simp only [SR.O,List.mem_singleton,forall_eq] at hO
    have e1:=ofAs_av D.toTE N h2
    have e2:=ok.ds_eq N ty cs z hz hs.2
    rw [SV.avL_map] at e1
    rw [e1] at e2
    obtain ⟨f1,f2⟩:=hf
    have h0:0≤c:=by omega
    have hb2:c.toNat*bytes≤140737488355328:=by
     have:=hO.2.2
     obtain ⟨m,rfl⟩:=Int.eq_ofNat_of_zero_le h0
     rw [←Int.natCast_mul] at this
     exact Int.ofNat_le.1 this
    simp only [AO.sem,R.ev hx,R.ev hy,int_av ha,int_av hb,natOf,hO.1,h0,if_true,Int.toNat_le_toNat hO.2.1,hb2,and_self,RM.run,SR.v,SR.ups,SV.av,f1,f2,SB.len,List.length_replicate,SB.av,hs.1,List.map_replicate,e2]
   ·simp at h
  ·simp at h
 ·simp at h
theorem oCpy_ok [DecidableEq τ] (R:RelAt D N st σ g) {sz:Nat} {x y:Arg} {a b:SV τ dn} (hx:st.ev x=some a) (hy:st.ev y=some b) {r:SR τ dn} (h:oCpy D st sz a b=some r):r.Good D N st.nx σ g (.cpy sz x y):=by
 intro k hO hf
 unfold oCpy at h
 split at h
 ·rename_i nm q ty ys hc
  obtain ⟨c1,c2⟩:=cont_ok R hc
  split at h
  case isFalse=>simp at h
  rename_i hs
  split at h
  ·rename_i ty' xs hB
   split at h
   ·rename_i he
    subst he
    split at h
    ·rename_i hz
     simp only [Option.some.injEq] at h;subst h
     obtain ⟨g1,g2⟩:=R.gm hB
     have e0:(AO.sem k (argσ σ) (.cpy sz x y)).run g=_:=run_bindS (by rw [R.ev hy];exact c1)
     rw [e0,R.ev hx]
     simp only [SV.av,RM.run,g1,SB.av,hz,hs.1,g2,SB.len,List.length_map,Nat.zero_add,Nat.le_refl,and_self,if_true,Ct.els,SR.v,SR.ups,List.take_zero,List.nil_append,goInt,List.map_append,List.map_take,List.map_drop]
    ·simp at h
   ·simp at h
  ·simp at h
 ·simp at h
theorem strOf_u8 (ok:TDok D) {t:τ} {p:(dn t→UInt8)×(UInt8→dn t)} (h:D.bt t=some p):∀xs:List (dn t),strOf (xs.map (D.ea N.ρ t))=some (xs.map p.1)
 |[]=>rfl
 |x::r=>by
  rw [List.map_cons,(ok.bt N t p h).1 x,strOf,strOf_u8 ok h r,Int.toNat_natCast,UInt8.ofNat_toNat];rfl
theorem bytesS_ok:∀{els:List (List (SV τ dn))} {l:List UInt8},bytesS els=some l→strOf (SV.avM D.toTE N els)=some l
 |[],l,h=>by simp only [bytesS,Option.some.injEq] at h;subst h;rfl
 |cs::r,l,h=>by
  unfold bytesS at h
  split at h
  ·rename_i e;simp at e
  ·rename_i b r' e
   simp only [List.cons.injEq] at e
   obtain ⟨rfl,rfl⟩:=e
   split at h
   ·rename_i l' hl
    simp only [Option.some.injEq] at h;subst h
    have:=bytesS_ok hl
    simp only [SV.avM,SV.avL,SV.av,strOf,this,Option.map_some,Int.toNat_natCast,UInt8.ofNat_toNat]
   ·simp at h
  ·simp at h
theorem oB2s_ok [DecidableEq τ] (ok:TDok D) (R:RelAt D N st σ g) {x:Arg} {v:SV τ dn} (hx:st.ev x=some v) {r:SR τ dn} (h:oB2s D st v=some r):r.Good D N st.nx σ g (.b2s x):=by
 intro k hO hf
 unfold oB2s at h
 split at h
 ·rename_i t xs hc
  obtain ⟨c1,_⟩:=cont_ok R hc
  split at h
  ·rename_i p hp
   simp only [Option.some.injEq] at h;subst h
   have e0:(AO.sem k (argσ σ) (.b2s x)).run g=_:=run_bindS (by rw [R.ev hx];exact c1)
   rw [e0]
   simp only [Ct.els,strOf_u8 ok hp,Option.map_some,RM.opt,RM.run,SR.v,SR.ups,SV.av]
  ·simp at h
 ·rename_i els hc
  obtain ⟨c1,_⟩:=cont_ok R hc
  split at h
  ·rename_i l hl
   simp only [Option.some.injEq] at h;subst h
   have e0:(AO.sem k (argσ σ) (.b2s x)).run g=_:=run_bindS (by rw [R.ev hx];exact c1)
   rw [e0]
   simp only [Ct.els,bytesS_ok hl,Option.map_some,RM.opt,RM.run,SR.v,SR.ups,SV.av]
  ·simp at h
 ·simp at h
theorem oS2b_ok [DecidableEq τ] (ok:TDok D) (R:RelAt D N st σ g) {x:Arg} {s:ByteArray} (hx:st.ev x=some (.vz s)) {r:SR τ dn} (h:oS2b D st s=some r):r.Good D N st.nx σ g (.s2b x):=by
 intro k hO hf
 unfold oS2b at h
 split at h
 ·rename_i t ht
  split at h
  ·rename_i p hp
   split at h
   ·rename_i hs
    simp only [Option.some.injEq] at h;subst h
    simp only [SR.O,List.mem_singleton,forall_eq] at hO
    obtain ⟨f1,f2⟩:=hf
    have hl:s.data.toList.length=s.size:=rfl
    have e:(s.data.toList.map p.2).map (D.ea N.ρ t)=s.data.toList.map fun b=>[AV.v (.int .u8 b.toNat)]:=by
     rw [List.map_map]
     refine List.map_congr_left fun b _=> ?_
     show D.ea N.ρ t (p.2 b)=_
     rw [(ok.bt N t p hp).1,(ok.bt N t p hp).2]
    simp only [AO.sem,R.ev hx,SV.av,hO,if_true,RM.run,SR.v,SR.ups,f1,f2,SB.len,List.length_map,SB.av,hs,e,hl]
   ·simp at h
  ·simp at h
 ·simp at h
theorem mapM_ev (R:RelAt D N st σ g):∀{l:List Arg} {cs:List (SV τ dn)},l.mapM st.ev=some cs→l.map (argσ σ)=cs.map (SV.av D.toTE N)
 |[],cs,h=>by simp at h;subst h;rfl
 |x::r,cs,h=>by
  simp only [List.mapM_cons,Option.pure_def,Option.bind_eq_bind,Option.bind_eq_some_iff,Option.some.injEq] at h
  obtain ⟨v,hv,l,hl,rfl⟩:=h
  simp only [List.map_cons,R.ev hv,mapM_ev R hl]
theorem sx_ok [DecidableEq τ] (ok:TDok D) (R:RelAt D N st σ g):∀{ao:AO} {r:SR τ dn},sx D st ao=some r→r.Good D N st.nx σ g ao:=by
 intro ao r h
 cases ao<;>simp only [sx] at h
 case mov x=>
  simp only [Option.map_eq_some_iff] at h;obtain ⟨v,hv,rfl⟩:=h
  intro k hO hf
  simp only [AO.sem,R.ev hv,RM.run,SR.v,SR.ups]
 case pick=>simp at h
 case new zs=>
  simp only [Option.map_eq_some_iff] at h;obtain ⟨cs,hcs,rfl⟩:=h
  intro k hO hf
  obtain ⟨f1,f2⟩:=hf
  simp only [AO.sem,RM.run,SR.v,SR.ups,SV.av,f1,SB.av,SV.avM,ofAs_av D.toTE N hcs]
 case box n x=>
  split at h
  ·rename_i v hv
   split at h
   ·rename_i hc
    simp only [Option.some.injEq] at h;subst h
    intro k hO hf
    obtain ⟨f1,f2⟩:=hf
    have hcl:=SV.cells_av (E:=D.toTE) (N:=N) hc.2.1
    simp only [AO.sem,R.ev hv,hcl,List.length_map,hc.1,all_one hc.2.2,and_self,if_true,RM.run,SR.v,SR.ups,SV.av,f1,SB.av,SV.avM,SV.avL_map]
   ·simp at h
  ·simp at h
 case agg zs parts=>
  split at h
  ·rename_i cs hcs
   simp only [Option.map_eq_some_iff] at h;obtain ⟨l,hl,rfl⟩:=h
   intro k hO hf
   have e1:=ofAs_av D.toTE N hcs
   rw [SV.avL_map] at e1
   have:=fillS_ok R hl
   rw [e1] at this
   simp only [AO.sem,this,Option.map_some,RM.opt,RM.run,SR.v,SR.ups,SV.av,SV.avL_map]
  ·simp at h
 case bsl sz ln zs parts=>
  split at h
  ·rename_i cs hcs
   simp only [Option.map_eq_some_iff] at h;obtain ⟨l,hl,rfl⟩:=h
   intro k hO hf
   obtain ⟨f1,f2⟩:=hf
   have e1:=ofAs_av D.toTE N hcs
   rw [SV.avL_map] at e1
   have:=fillT_ok R hl
   rw [List.map_replicate,e1] at this
   have hlen:l.length=ln:=by
    have:∀(parts:List (Nat×Arg)) (els l:List (List (SV τ dn))),fillT st sz els parts=some l→l.length=els.length:=by
     intro parts
     induction parts with
     |nil=>intro els l h;simp only [fillT,Option.some.injEq] at h;subst h;rfl
     |cons p r ih=>
      intro els l h
      obtain ⟨i,x⟩:=p
      simp only [fillT] at h
      split at h
      ·split at h
       ·have:=ih _ _ h;simpa using this
       ·simp at h
      ·simp at h
    have:=this _ _ _ hl
    simpa using this
   simp only [AO.sem,this,Option.map_some,RM.opt,RM.run,SR.v,SR.ups,SV.av,f1,f2,SB.len,hlen,SB.av,SV.avM_map]
  ·simp at h
 case load m x=>
  simp only [Option.bind_eq_some_iff] at h;obtain ⟨v,hv,h⟩:=h
  exact oLoad_ok ok R hv h
 case store n x y=>
  split at h
  ·rename_i a b ha hb;exact oStore_ok ok R ha hb h
  ·simp at h
 case nilc x=>
  split at h
  ·rename_i nm sz i o hv
   simp only [Option.map_eq_some_iff] at h;obtain ⟨B,hB,rfl⟩:=h
   intro k hO hf
   obtain ⟨g1,g2⟩:=R.gm hB
   simp only [AO.sem,R.ev hv,SV.av,RM.run,g1,SR.v,SR.ups]
  ·rename_i cs o hv
   simp only [Option.some.injEq] at h;subst h
   intro k hO hf
   simp only [AO.sem,R.ev hv,SV.av,RM.run,SR.v,SR.ups]
  ·simp at h
 case bin bt op x y=>
  split at h
  ·rename_i a b ha hb
   intro k hO hf
   obtain ⟨O,v,p,q,w,rfl,h1,h2,h3,h4⟩:=oBin_ok (D:=D) (N:=N) h hO
   simp only [AO.sem,R.ev ha,R.ev hb,h1,h2,h3,Option.map_some,RM.opt,RM.run,SR.v,SR.ups,h4]
  ·simp at h
 case un op x=>
  simp only [Option.bind_eq_some_iff] at h;obtain ⟨a,ha,h⟩:=h
  intro k hO hf
  obtain ⟨O,v,p,w,rfl,h1,h3,h4⟩:=oUn_ok (D:=D) (N:=N) h hO
  simp only [AO.sem,R.ev ha,h1,h3,Option.map_some,RM.opt,RM.run,SR.v,SR.ups,h4]
 case conv q x=>
  simp only [Option.bind_eq_some_iff] at h;obtain ⟨a,ha,h⟩:=h
  intro k hO hf
  obtain ⟨O,v,p,w,rfl,h1,h4⟩:=oConv_ok (D:=D) (N:=N) h hO
  simp only [AO.sem,R.ev ha,h1,RM.run,SR.v,SR.ups,h4]
 case fad off x=>
  split at h
  ·rename_i nm sz i o hv
   simp only [Option.map_eq_some_iff] at h;obtain ⟨B,hB,rfl⟩:=h
   intro k hO hf
   obtain ⟨g1,g2⟩:=R.gm hB
   simp only [AO.sem,R.ev hv,SV.av,RM.run,g1,SR.v,SR.ups]
  ·rename_i cs o hv
   simp only [Option.some.injEq] at h;subst h
   intro k hO hf
   simp only [AO.sem,R.ev hv,SV.av,RM.run,SR.v,SR.ups]
  ·simp at h
 case fld off m x=>
  split at h
  ·rename_i cs hv
   simp only [Option.map_eq_some_iff] at h;obtain ⟨w,hw,rfl⟩:=h
   intro k hO hf
   have:=gcS_ok (D:=D) (N:=N) hw
   simp only [AO.sem,R.ev hv,SV.av,SV.avL_map,this,Option.map_some,RM.opt,RM.run,SR.v,SR.ups]
  ·simp at h
 case iad sz x i=>
  split at h
  ·rename_i a b ha hb
   split at h
   ·rename_i n l hn;exact oIad_ok ok R ha hb hn h
   ·simp at h
  ·simp at h
 case ext i x=>
  split at h
  ·rename_i vs hv
   simp only [Option.map_eq_some_iff] at h;obtain ⟨w,hw,rfl⟩:=h
   intro k hO hf
   simp only [AO.sem,R.ev hv,SV.av,SV.avL_map,List.getElem?_map,hw,Option.map_some,RM.opt,RM.run,SR.v,SR.ups]
  ·simp at h
 case len s x=>
  simp only [Option.bind_eq_some_iff] at h;obtain ⟨v,hv,h⟩:=h
  exact oLen_ok R hv h
 case isn kd neg x=>
  simp only [Option.bind_eq_some_iff] at h;obtain ⟨v,hv,h⟩:=h
  exact oIsn_ok R hv h
 case mnx mx x y=>
  split at h
  ·rename_i a b ha hb
   split at h
   ·rename_i p _ q _ h1 h2
    simp only [Option.some.injEq] at h;subst h
    intro k hO hf
    simp only [AO.sem,R.ev ha,R.ev hb,int_av h1,int_av h2,minmaxA,if_true,Option.map_some,RM.opt,RM.run,SR.v,SR.ups,SV.av]
    congr 5
    all_goals (simp only [Int.max_def,Int.min_def];(repeat' split)<;>omega)
   ·simp at h
  ·simp at h
 case eqs ng n L x y=>
  split at h
  ·rename_i cs ds hc hd
   split at h
   ·rename_i hl
    split at h
    ·rename_i v hv
     simp only [Option.map_eq_some_iff] at h;obtain ⟨w,hw,rfl⟩:=h
     intro k hO hf
     obtain ⟨p,h1,h2⟩:=eqS_ok (D:=D) (N:=N) hv
     have h3:w.av D.toTE N= .v (.bool (if ng then !p else p)):=by
      cases ng with
      |true=>
       simp only [if_true] at hw ⊢
       obtain ⟨z,q1,q2⟩:=notS_ok (D:=D) (N:=N) hw
       rw [h1] at q1;simp only [AV.v.injEq,Value.bool.injEq] at q1;subst q1;exact q2
      |false=>simp only [Bool.false_eq_true,if_false,Option.some.injEq] at hw ⊢; subst hw;exact h1
     simp only [AO.sem,R.ev hc,R.ev hd,SV.av,SV.avL_map,List.length_map,hl.1,hl.2,and_self,if_true,h2,Option.map_some,RM.opt,RM.run,SR.v,SR.ups,h3]
    ·simp at h
   ·simp at h
  ·simp at h
 case b2s x=>
  split at h
  ·rename_i v hv;exact oB2s_ok ok R hv h
  ·simp at h
 case s2b x=>
  split at h
  ·rename_i s hs;exact oS2b_ok ok R hs h
  ·simp at h
 case msl sz by_ zs x y=>
  split at h
  ·rename_i a b ha hb
   split at h
   ·rename_i p _ q _ h1 h2;exact oMsl_ok ok R ha hb h1 h2 h
   ·simp at h
  ·simp at h
 case slc sz x lo hi mx=>
  cases mx with
  |some m=>simp at h
  |none=>
   simp only at h
   split at h
   ·rename_i a l h' ha hl hh;exact oSlc_ok R ha hl hh h
   ·simp at h
 case sls x lo hi=>
  split at h
  ·rename_i s l h' hs hl hh
   simp only [Option.some.injEq] at h;subst h
   intro k hO hf
   simp only [SR.O] at hO
   have nn:=cutO_nn hO
   have e1:=optI_ok R hl nn.1
   have e2:=optI_ok R hh nn.2.1
   have hb:=bounds_cut hO
   simp only [AO.sem,e1,e2,R.ev hs,SV.av,hb,Option.map_some,RM.opt,RM.run,SR.v,SR.ups]
  ·simp at h
 case six x i=>
  split at h
  ·rename_i s b hs hb
   split at h
   ·rename_i n _ h1
    simp only [Option.some.injEq] at h;subst h
    intro k hO hf
    simp only [SR.O,List.mem_singleton,forall_eq] at hO
    have hl:n.toNat<s.size:=by omega
    have e:s[n.toNat]? =some (gb s n.toNat):=by unfold gb;rw [getElem?_pos s n.toNat hl];rfl
    simp only [AO.sem,R.ev hs,R.ev hb,int_av h1,SV.av,natOf,hO.1,if_true,e,Option.map_some,RM.opt,RM.run,SR.v,SR.ups]
   ·simp at h
  ·simp at h
 case app sz by_ x y=>
  split at h
  ·rename_i a b ha hb;exact oApp_ok ok R ha hb h
  ·simp at h
 case cpy sz x y=>
  split at h
  ·rename_i a b ha hb;exact oCpy_ok R ha hb h
  ·simp at h
 case mkf f caps=>
  simp only [Option.map_eq_some_iff] at h;obtain ⟨cs,hcs,rfl⟩:=h
  intro k hO hf
  simp only [AO.sem,mapM_ev R hcs,RM.run,SR.v,SR.ups,SV.av,SV.avL_map]
 case mkb f caps=>
  simp only [Option.map_eq_some_iff] at h;obtain ⟨cs,hcs,rfl⟩:=h
  intro k hO hf
  simp only [AO.sem,mapM_ev R hcs,RM.run,SR.v,SR.ups,SV.av,SV.avL_map]
 case iap sz ln x i=>
  split at h
  ·rename_i nm s e o n hv hn
   split at h
   ·rename_i hc
    simp only [Option.some.injEq] at h;subst h
    intro k hO hf
    obtain ⟨B,hB⟩:=Option.isSome_iff_exists.1 hc.2.2
    obtain ⟨g1,g2⟩:=R.gm hB
    simp only [AO.sem,R.ev hv,R.ev hn,SV.av,hc.1,hc.2.1,and_self,if_true,RM.run,g1,SR.v,SR.ups]
   ·simp at h
  ·rename_i cs o n hv hn
   split at h
   ·rename_i hc
    simp only [Option.some.injEq] at h;subst h
    intro k hO hf
    simp only [AO.sem,R.ev hv,R.ev hn,SV.av,hc.1,hc.2,and_self,if_true,RM.run,SR.v,SR.ups]
   ·simp at h
  ·simp at h
 case ixa sz ln m x i=>
  split at h
  ·rename_i cs n hv hn
   split at h
   ·rename_i hc
    simp only [Option.map_eq_some_iff] at h;obtain ⟨w,hw,rfl⟩:=h
    intro k hO hf
    simp only [AO.sem,R.ev hv,R.ev hn,SV.av,hc.1,hc.2,and_self,if_true,SV.avL_map,gcS_ok hw,Option.map_some,RM.opt,RM.run,SR.v,SR.ups]
   ·simp at h
  ·simp at h
 case mkm=>
  simp only [Option.some.injEq] at h;subst h
  intro k hO hf
  simp only [AO.sem,RM.run,SR.v,SR.ups,SV.av,SB.av,SV.avM,hf.1]
 case mup kd x key y=>
  split at h
  ·rename_i a b c ha hb hc;exact oMup_ok R ha hb hc h
  ·simp at h
 case mlk kd z x key=>
  split at h
  ·rename_i a b ha hb;exact oMlk_ok R ha hb h
  ·simp at h
 all_goals simp at h
end
open Go.RowKit
section
variable {τ:Type} {dn:τ→Type}
def SV.isRw:SV τ dn→Bool
 | .rw _ _| .rwp _ _ _ _=>true
 |_=>false
def AO.lk:AO→List Arg
 | .load _ x| .nilc x| .fad _ x| .len _ x| .isn _ _ x| .clr _ x| .b2s x=>[x]
 | .store _ x _| .iad _ x _| .iap _ _ x _| .slc _ x _ _ _| .mup _ x _ _| .mlk _ _ x _=>[x]
 | .app _ _ s x=>[x,s]
 | .cpy _ x y=>[y,x]
 |_=>[]
def SS.rwa (st:SS τ dn) (x:Arg):Bool:=match st.ev x with
 |some v=>v.isRw
 |none=>false
variable [DecidableEq τ]
def SS.arA (st:SS τ dn) (t:τ):Option (List (Nat×List (dn t))):=match st.gm 0 with
 |some (.ar t' A)=>if h:t'=t then some (h▸A) else none
 |_=>none
theorem arA_gm {st:SS τ dn} {t:τ} {A:List (Nat×List (dn t))} (h:st.arA t=some A):st.gm 0=some (.ar t A):=by
 unfold SS.arA at h
 split at h
 ·rename_i t' A' hB
  split at h
  ·rename_i he
   subst he
   simp only [Option.some.injEq] at h;subst h;exact hB
  ·simp at h
 ·simp at h
variable (D:TD τ dn)
def srcR (st:SS τ dn) (sz:Nat):SV τ dn→Option (List Prop×Ct τ dn)
 | .rw t r=>match st.arA t with
  |some A=>if D.sz t=sz then some ([r.ok A], .ty t (r.get A)) else none
  |none=>none
 |v=>(st.cont D sz v).map fun c=>([],c)
def sxR (st:SS τ dn):AO→Option (SR τ dn)
 | .load m x=>match st.ev x with
  |some (.rwp t r i o)=>match st.arA t with
   |some A=>(gcS (D.es t (gd (D.df t) (r.get A) i)) o m).map (.val [r.ok A,i<(r.get A).length])
   |none=>none
  |_=>none
 | .store n x y=>match st.ev x,st.ev y with
  |some (.rwp t r i o),some y=>match st.arA t with
   |some A=>if (y.cells.length=n∧y.solid=true∧y.cells.all SV.one=true)∧o+n≤D.sz t∧st.rw 0=true∧D.nee t (pcS (D.es t (gd (D.df t) (r.get A) i)) o y.cells)=true then (match D.ds t (pcS (D.es t (gd (D.df t) (r.get A) i)) o y.cells) with
    |some z=>some (.rput [r.mine A,i<(r.get A).length] (.vo undef) r.id t ((r.get A).set i z) A)
    |none=>none) else none
   |none=>none
  |_,_=>none
 | .nilc x=>match st.ev x with
  |some (.rwp t r i o)=>match st.arA t with
   |some A=>some (.val [r.ok A,i<(r.get A).length] (.rwp t r i o))
   |none=>none
  |_=>none
 | .fad off x=>match st.ev x with
  |some (.rwp t r i o)=>match st.arA t with
   |some A=>some (.val [r.ok A,i<(r.get A).length] (.rwp t r i (o+off)))
   |none=>none
  |_=>none
 | .iad sz x y=>match st.ev x,st.ev y with
  |some (.rw t r),some b=>match st.arA t,b.int with
   |some A,some (n,_)=>if D.sz t=sz then some (.val [r.ok A,0≤n∧n<(r.get A).length] (.rwp t r n.toNat 0)) else none
   |_,_=>none
  |_,_=>none
 | .len false x=>match st.ev x with
  |some (.rw t r)=>match st.arA t with
   |some A=>some (.val [r.ok A] (.vi ((r.get A).length:Int)))
   |none=>none
  |_=>none
 | .cpy sz x y=>match st.ev x,st.ev y with
  |some (.rw t r),some b=>match st.arA t,srcR D st sz b with
   |some A,some (O, .ty t' ys)=>if h:t'=t then (if D.sz t=sz∧st.rw 0=true then some (.rput (O++[r.mine A]) (.vi ((min ys.length (r.get A).length:Nat):Int)) r.id t (((h▸ys):List (dn t)).take (r.get A).length++(r.get A).drop (min ys.length (r.get A).length)) A) else none) else none
   |_,_=>none
  |_,_=>none
 |_=>none
end
section
variable {τ:Type} {dn:τ→Type} {D:TD τ dn} {N:Nms} {st:SS τ dn} {σ:Nat→AV} {g:Nat→Option Bk} [DecidableEq τ]
theorem row_own (R:RelAt D N st σ g) {t:τ} {A:List (Nat×List (dn t))} (h:st.arA t=some A) {r:Row (dn t)} (hr:r.ok A) (hk:r.kd= .own):r.get A=lkA A r.id∧r.n=(r.get A).length∧g r.id=some ⟨D.sz t,(r.get A).map (D.ea N.ρ t)⟩:=by
 unfold Row.ok at hr
 rw [hk] at hr
 have e:r.get A=lkA A r.id:=by unfold Row.get;rw [hk]
 rw [e]
 exact ⟨rfl,hr.2.symm,R.ar t A (gm_alive (arA_gm h)) _ hr.1⟩
theorem row_nil {α:Type} {A:List (Nat×List α)} {r:Row α} (hk:r.kd= .nil):r.get A=[]:=by unfold Row.get;rw [hk]
theorem row_lst {α:Type} {A:List (Nat×List α)} {r:Row α} (hk:r.kd= .lst):r.get A=r.xs:=by unfold Row.get;rw [hk]
theorem Row.mine.ok {α:Type} {A:List (Nat×List α)} {r:Row α} (h:r.mine A):r.ok A:=by unfold Row.ok;rw [h.1];exact h.2
theorem srcR_ok (R:RelAt D N st σ g) {sz:Nat} {v:SV τ dn} {O:List Prop} {c:Ct τ dn} (h:srcR D st sz v=some (O,c)) (hO:∀p,p∈O→p):(content sz (v.av D.toTE N)).run g=some (c.els D N)∧(∀t xs,c= .ty t xs→D.sz t=sz):=by
 have other:∀{v:SV τ dn},((st.cont D sz v).map fun c=>(([]:List Prop),c))=some (O,c)→(content sz (v.av D.toTE N)).run g=some (c.els D N)∧(∀t xs,c= .ty t xs→D.sz t=sz):=fun h=>by
  simp only [Option.map_eq_some_iff,Prod.mk.injEq] at h
  obtain ⟨c',h1,_,rfl⟩:=h
  exact cont_ok R h1
 cases v with
 |rw t r=>
  simp only [srcR] at h
  split at h
  ·rename_i A hA
   split at h
   ·rename_i hs
    simp only [Option.some.injEq,Prod.mk.injEq] at h
    obtain ⟨rfl,rfl⟩:=h
    simp only [List.mem_singleton,forall_eq] at hO
    refine ⟨?_,fun t' ys e=>by simp only [Ct.ty.injEq] at e;obtain ⟨rfl,_⟩:=e;exact hs⟩
    cases hk:r.kd with
    |nil=>simp only [SV.av,hk,content,RM.run,Ct.els,row_nil hk,List.map_nil]
    |lst=>simp only [SV.av,hk,content,hs,if_true,RM.run,Ct.els,row_lst hk]
    |own=>
     obtain ⟨e1,e2,e3⟩:=row_own R hA hO hk
     simp only [SV.av,hk,content,RM.run,e3,hs,e2,Nat.zero_add,List.length_map,Nat.le_refl,and_self,if_true,List.drop_zero,Ct.els]
     rw [List.take_of_length_le (by simp)]
   ·simp at h
  ·simp at h
 |_=>exact other h
theorem sxR_ok (ok:TDok D) (R:RelAt D N st σ g) {ao:AO} {r:SR τ dn} (h:sxR D st ao=some r):r.Good D N st.nx σ g ao:=by
 intro k hO hf
 cases ao<;>simp only [sxR,reduceCtorEq] at h
 case load m x=>
  split at h
  case h_2=>simp at h
  rename_i t q i o hx
  split at h
  case h_2=>simp at h
  rename_i A hA
  simp only [Option.map_eq_some_iff] at h;obtain ⟨w,hw,rfl⟩:=h
  simp only [SR.O,List.mem_cons,List.not_mem_nil,or_false,forall_eq_or_imp,forall_eq] at hO
  have hq:=gcS_ok (D:=D) (N:=N) hw
  rw [ok.es_av] at hq
  cases hk:q.kd with
  |nil=>rw [row_nil hk] at hO;simp at hO
  |lst=>
   rw [row_lst hk] at hq hO
   simp only [AO.sem,R.ev hx,SV.av,hk,gd_get (d:=D.df t) hO.2,hq,Option.map_some,RM.opt,RM.run,SR.v,SR.ups]
  |own=>
   obtain ⟨e1,e2,e3⟩:=row_own R hA hO.1 hk
   simp only [AO.sem,R.ev hx,SV.av,hk,RM.run,e3,if_true,List.getElem?_map,gd_get (d:=D.df t) hO.2,Option.map_some,Option.bind_some,hq,RM.opt,SR.v,SR.ups]
 case store n x y=>
  split at h
  case h_2=>simp at h
  rename_i t q i o b hx hy
  split at h
  case h_2=>simp at h
  rename_i A hA
  split at h
  case isFalse=>simp at h
  rename_i hc
  split at h
  case h_2=>simp at h
  rename_i z hz
  simp only [Option.some.injEq] at h;subst h
  simp only [SR.O,List.mem_cons,List.not_mem_nil,or_false,forall_eq_or_imp,forall_eq] at hO
  have hcl:=SV.cells_av (E:=D.toTE) (N:=N) hc.1.2.1
  have hone:=all_one (D:=D) (N:=N) hc.1.2.2
  obtain ⟨e1,e2,e3⟩:=row_own R hA hO.1.ok hO.1.1
  have he:=ok.ds_eq N t _ z hz hc.2.2.2
  rw [pcS_map,ok.es_av] at he
  simp only [AO.sem,R.ev hx,R.ev hy,SV.av,hO.1.1,RM.run,e3,hcl,List.length_map,hc.1.1,hone,hc.2.1,and_self,if_true,List.getElem?_map,gd_get (d:=D.df t) hO.2,Option.map_some,SR.v,SR.ups,he,List.map_set]
 case nilc x=>
  split at h
  case h_2=>simp at h
  rename_i t q i o hx
  split at h
  case h_2=>simp at h
  rename_i A hA
  simp only [Option.some.injEq] at h;subst h
  simp only [SR.O,List.mem_cons,List.not_mem_nil,or_false,forall_eq_or_imp,forall_eq] at hO
  cases hk:q.kd with
  |nil=>rw [row_nil hk] at hO;simp at hO
  |lst=>rw [row_lst hk] at hO;simp only [AO.sem,R.ev hx,SV.av,hk,gd_get (d:=D.df t) hO.2,RM.run,SR.v,SR.ups]
  |own=>
   obtain ⟨e1,e2,e3⟩:=row_own R hA hO.1 hk
   simp only [AO.sem,R.ev hx,SV.av,hk,RM.run,e3,SR.v,SR.ups]
 case fad off x=>
  split at h
  case h_2=>simp at h
  rename_i t q i o hx
  split at h
  case h_2=>simp at h
  rename_i A hA
  simp only [Option.some.injEq] at h;subst h
  simp only [SR.O,List.mem_cons,List.not_mem_nil,or_false,forall_eq_or_imp,forall_eq] at hO
  cases hk:q.kd with
  |nil=>rw [row_nil hk] at hO;simp at hO
  |lst=>rw [row_lst hk] at hO;simp only [AO.sem,R.ev hx,SV.av,hk,gd_get (d:=D.df t) hO.2,RM.run,SR.v,SR.ups]
  |own=>
   obtain ⟨e1,e2,e3⟩:=row_own R hA hO.1 hk
   simp only [AO.sem,R.ev hx,SV.av,hk,RM.run,e3,SR.v,SR.ups]
 case iad sz x y=>
  split at h
  case h_2=>simp at h
  rename_i t q b hx hy
  split at h
  case h_2=>simp at h
  rename_i A n l hA hb
  split at h
  case isFalse=>simp at h
  rename_i hs
  simp only [Option.some.injEq] at h;subst h
  simp only [SR.O,List.mem_cons,List.not_mem_nil,or_false,forall_eq_or_imp,forall_eq] at hO
  have hl:n.toNat<(q.get A).length:=by omega
  cases hk:q.kd with
  |nil=>rw [row_nil hk] at hl;simp at hl
  |lst=>
   rw [row_lst hk] at hl
   simp only [AO.sem,R.ev hx,R.ev hy,int_av hb,SV.av,hk,hs,hO.2.1,and_self,if_true,List.getElem?_map,gd_get (d:=D.df t) hl,Option.map_some,RM.opt,RM.run,SR.v,SR.ups]
  |own=>
   obtain ⟨e1,e2,e3⟩:=row_own R hA hO.1 hk
   have:n<(q.n:Int):=by rw [e2];exact hO.2.2
   simp only [AO.sem,R.ev hx,R.ev hy,int_av hb,SV.av,hk,hs,hO.2.1,this,and_self,if_true,RM.run,e3,SR.v,SR.ups,Nat.zero_add]
 case len s x=>
  cases s with
  |true=>simp at h
  |false=>
   simp only at h
   split at h
   case h_2=>simp at h
   rename_i t q hx
   split at h
   case h_2=>simp at h
   rename_i A hA
   simp only [Option.some.injEq] at h;subst h
   simp only [SR.O,List.mem_singleton,forall_eq] at hO
   cases hk:q.kd with
   |nil=>simp only [AO.sem,R.ev hx,SV.av,hk,RM.run,SR.v,SR.ups,goInt,row_nil hk,List.length_nil];rfl
   |lst=>simp only [AO.sem,R.ev hx,SV.av,hk,RM.run,SR.v,SR.ups,goInt,row_lst hk,List.length_map]
   |own=>
    obtain ⟨e1,e2,e3⟩:=row_own R hA hO hk
    simp only [AO.sem,R.ev hx,SV.av,hk,RM.run,e3,SR.v,SR.ups,goInt,e2]
 case cpy sz x y=>
  split at h
  case h_2=>simp at h
  rename_i t q b hx hy
  split at h
  case h_2=>simp at h
  rename_i A O t' ys hA hsrc
  split at h
  case isFalse=>simp at h
  rename_i ht
  subst ht
  split at h
  case isFalse=>simp at h
  rename_i hs
  simp only [Option.some.injEq] at h;subst h
  simp only [SR.O,List.mem_append,List.mem_singleton] at hO
  have hm:=hO _ (.inr rfl)
  obtain ⟨c1,c2⟩:=srcR_ok R hsrc fun p hp=>hO p (.inl hp)
  obtain ⟨e1,e2,e3⟩:=row_own R hA hm.ok hm.1
  have e0:(AO.sem k (argσ σ) (.cpy sz x y)).run g=_:=run_bindS (by rw [R.ev hy];exact c1)
  rw [e0,R.ev hx]
  simp only [SV.av,hm.1,RM.run,e3,hs.1,e2,List.length_map,Nat.zero_add,Nat.le_refl,and_self,if_true,Ct.els,SR.v,SR.ups,List.take_zero,List.nil_append,goInt,List.map_append,List.map_take,List.map_drop]
theorem sxR_see (R:RelAt D N st σ g) {ao:AO} {r:SR τ dn} (h:sxR D st ao=some r) (hO:∀p,p∈r.O→p) {x:Arg} {v:SV τ dn} (hx:x∈ao.lk) (hv:st.ev x=some v) (hr:v.isRw=true):∀id,id∈(match v.av D.toTE N with| .own id _ _ _| .ref id _ _ _| .mp id=>[id]|_=>[])→∃t A,st.gm 0=some (.ar t A)∧hasA A id:=by
 have rwc:∀{t:τ} {A:List (Nat×List (dn t))} {q:Row (dn t)},st.arA t=some A→q.ok A→v= .rw t q→∀id,id∈(match v.av D.toTE N with| .own id _ _ _| .ref id _ _ _| .mp id=>[id]|_=>[])→∃t A,st.gm 0=some (.ar t A)∧hasA A id:=by
  rintro t A q hA hq rfl id hid
  cases hk:q.kd with
  |nil=>simp [SV.av,hk] at hid
  |lst=>simp [SV.av,hk] at hid
  |own=>
   simp only [SV.av,hk,List.mem_singleton] at hid
   unfold Row.ok at hq
   rw [hk] at hq
   exact ⟨t,A,arA_gm hA,hid▸hq.1⟩
 have rpc:∀{t:τ} {A:List (Nat×List (dn t))} {q:Row (dn t)} {i o:Nat},st.arA t=some A→q.ok A→v= .rwp t q i o→∀id,id∈(match v.av D.toTE N with| .own id _ _ _| .ref id _ _ _| .mp id=>[id]|_=>[])→∃t A,st.gm 0=some (.ar t A)∧hasA A id:=by
  rintro t A q i o hA hq rfl id hid
  cases hk:q.kd with
  |nil=>simp [SV.av,hk] at hid
  |lst=>
   simp only [SV.av,hk] at hid
   exfalso
   revert hid
   cases q.xs[i]? <;>simp
  |own=>
   simp only [SV.av,hk,List.mem_singleton] at hid
   unfold Row.ok at hq
   rw [hk] at hq
   exact ⟨t,A,arA_gm hA,hid▸hq.1⟩
 cases ao<;>simp only [sxR,reduceCtorEq] at h<;>simp only [AO.lk,List.mem_singleton,List.mem_cons,List.not_mem_nil,or_false] at hx
 case load m x'=>
  subst hx
  rw [hv] at h
  split at h
  case h_2=>simp at h
  rename_i t q i o he
  simp only [Option.some.injEq] at he
  split at h
  case h_2=>simp at h
  rename_i A hA
  simp only [Option.map_eq_some_iff] at h;obtain ⟨w,hw,rfl⟩:=h
  exact rpc hA (hO _ (by simp [SR.O])) he
 case store n x' y=>
  subst hx
  rw [hv] at h
  split at h
  case h_2=>simp at h
  rename_i t q i o b he hy
  simp only [Option.some.injEq] at he
  split at h
  case h_2=>simp at h
  rename_i A hA
  split at h
  case isFalse=>simp at h
  split at h
  case h_2=>simp at h
  simp only [Option.some.injEq] at h;subst h
  exact rpc hA (hO _ (List.mem_cons_self ..):q.mine A).ok he
 case nilc x'=>
  subst hx
  rw [hv] at h
  split at h
  case h_2=>simp at h
  rename_i t q i o he
  simp only [Option.some.injEq] at he
  split at h
  case h_2=>simp at h
  rename_i A hA
  simp only [Option.some.injEq] at h;subst h
  exact rpc hA (hO _ (by simp [SR.O])) he
 case fad off x'=>
  subst hx
  rw [hv] at h
  split at h
  case h_2=>simp at h
  rename_i t q i o he
  simp only [Option.some.injEq] at he
  split at h
  case h_2=>simp at h
  rename_i A hA
  simp only [Option.some.injEq] at h;subst h
  exact rpc hA (hO _ (by simp [SR.O])) he
 case iad sz x' y=>
  subst hx
  rw [hv] at h
  split at h
  case h_2=>simp at h
  rename_i t q b he hy
  simp only [Option.some.injEq] at he
  split at h
  case h_2=>simp at h
  rename_i A n l hA hb
  split at h
  case isFalse=>simp at h
  simp only [Option.some.injEq] at h;subst h
  exact rwc hA (hO _ (by simp [SR.O])) he
 case len s x'=>
  subst hx
  cases s with
  |true=>simp at h
  |false=>
   simp only at h
   rw [hv] at h
   split at h
   case h_2=>simp at h
   rename_i t q he
   simp only [Option.some.injEq] at he
   split at h
   case h_2=>simp at h
   rename_i A hA
   simp only [Option.some.injEq] at h;subst h
   exact rwc hA (hO _ (by simp [SR.O])) he
 case cpy sz x' y=>
  split at h
  case h_2=>simp at h
  rename_i t q b hx' hy
  split at h
  case h_2=>simp at h
  rename_i A O t' ys hA hsrc
  split at h
  case isFalse=>simp at h
  rename_i ht
  subst ht
  split at h
  case isFalse=>simp at h
  simp only [Option.some.injEq] at h;subst h
  simp only [SR.O,List.mem_append,List.mem_singleton] at hO
  rcases hx with rfl|rfl
  ·rw [hv] at hy
   simp only [Option.some.injEq] at hy;subst hy
   cases v with
   |rw t2 q2=>
    simp only [srcR] at hsrc
    split at hsrc
    ·rename_i A2 hA2
     split at hsrc
     ·simp only [Option.some.injEq,Prod.mk.injEq] at hsrc
      obtain ⟨rfl,_⟩:=hsrc
      exact rwc hA2 (hO _ (.inl (List.mem_singleton.2 rfl))) rfl
     ·simp at hsrc
    ·simp at hsrc
   |rwp t2 q2 i o=>simp [srcR,SS.cont] at hsrc
   |_=>simp [SV.isRw] at hr
  ·rw [hv] at hx'
   simp only [Option.some.injEq] at hx'
   exact rwc hA (hO _ (.inr rfl):q.mine A).ok hx'
end
open Go.RowKit
def Nms.agree (n:Nat) (N N':Nms):Prop:=(∀a,a<n→N'.ι a=N.ι a∧N'.ln a=N.ln a)∧N'.ρ=N.ρ
theorem Nms.agree_refl (n:Nat) (N:Nms):N.agree n N:=⟨fun _ _=>⟨rfl,rfl⟩,rfl⟩
theorem Nms.agree_trans {n m:Nat} {N N' N'':Nms} (h:N.agree n N') (k:N'.agree m N'') (hm:n≤m):N.agree n N'':=
 ⟨fun a ha=>⟨((k.1 a (by omega)).1).trans (h.1 a ha).1,((k.1 a (by omega)).2).trans (h.1 a ha).2⟩,k.2.trans h.2⟩
def Nms.upd (N:Nms) (nm id ln:Nat):Nms:=⟨fun a=>if a=nm then id else N.ι a,fun a=>if a=nm then ln else N.ln a,N.ρ⟩
theorem Nms.upd_agree (N:Nms) (nm id ln:Nat):N.agree nm (N.upd nm id ln):=
 ⟨fun a ha=>⟨if_neg (by omega),if_neg (by omega)⟩,rfl⟩
section
variable {τ:Type} {dn:τ→Type} {D:TD τ dn}
structure Rel (D:TD τ dn) (N:Nms) (st:SS τ dn) (s:S3):Prop where
 at_:∀N',N.agree st.nx N'→RelAt D N' st s.σ s.g
 inj:∀a b,a<st.nx→b<st.nx→N.ι a=N.ι b→a=b
 lt:∀a,a<st.nx→N.ι a<s.k
 ml:∀nm B,getS st.m nm=some B→nm<st.nx
 rl:∀nm B,getS st.rm nm=some B→nm<st.nx
 sp:∀t A,st.alv 0 (.ar t A)→∀id,hasA A id→id<s.k∧∀nm B,st.alv nm B→N.ι nm≠id
theorem Rel.here {N:Nms} {st:SS τ dn} {s:S3} (R:Rel D N st s):RelAt D N st s.σ s.g:=R.at_ N (N.agree_refl _)
def dstS (n:Nat) (rt:List (Nat×SV τ dn)):Option Nat→Bool
 |none=>true
 |some d=>Nat.blt d n&&(getS rt d).isNone
def setT (t:List (Nat×SV τ dn)):Option Nat→SV τ dn→List (Nat×SV τ dn)
 |none,_=>t
 |some d,v=>(d,v)::t
theorem getS_cons {α:Type} {j:Nat} {v:α} {r:List (Nat×α)} {i:Nat}:getS ((j,v)::r) i=if i=j then some v else getS r i:=by
 simp only [getS]
 by_cases h:i=j
 ·subst h;simp
 ·have:Nat.beq i j=false:=by
   cases hb:Nat.beq i j with
   |false=>rfl
   |true=>exact absurd (Nat.eq_of_beq_eq_true hb) h
  simp [this,h]
theorem set_slot {n:Nat} {rt t:List (Nat×SV τ dn)} {d:Option Nat} {v:SV τ dn} {a:AV} {σ:Nat→AV} {N:Nms} (hd:dstS n rt d=true)
  (h1:∀i v,getS t i=some v→σ i=v.av D.toTE N) (h2:∀i v,getS rt i=some v→σ i=v.av D.toTE N) (ha:a=v.av D.toTE N):
  (∀i w,getS (setT t d v) i=some w→putσ n d a σ i=w.av D.toTE N)∧(∀i w,getS rt i=some w→putσ n d a σ i=w.av D.toTE N):=by
 cases d with
 |none=>exact ⟨fun i w h=>by simp only [putσ];rw [if_neg (by simp)];exact h1 i w h,fun i w h=>by simp only [putσ];rw [if_neg (by simp)];exact h2 i w h⟩
 |some d=>
  simp only [dstS,Bool.and_eq_true] at hd
  have hdn:d<n:=Nat.le_of_ble_eq_true hd.1
  refine ⟨fun i w h=> ?_,fun i w h=> ?_⟩
  ·simp only [setT,getS_cons] at h
   simp only [putσ,Option.some.injEq]
   by_cases hi:i=d
   ·subst hi
    rw [if_pos rfl,Option.some.injEq] at h
    rw [if_pos ⟨rfl,hdn⟩,ha,h]
   ·rw [if_neg hi] at h
    rw [if_neg (fun hh=>hi hh.1.symm)];exact h1 i w h
  ·simp only [putσ,Option.some.injEq]
   have hi:¬d=i:=fun e=>by subst e;rw [h] at hd;simp at hd
   rw [if_neg (fun hh=>hi hh.1)];exact h2 i w h
def SR.st (st:SS τ dn) (d:Option Nat):SR τ dn→SS τ dn
 | .val _ v=>⟨st.rt,st.rm,setT st.t d v,st.m,st.nx⟩
 | .new _ v B=>⟨st.rt,st.rm,setT st.t d v,(st.nx,some B)::st.m,st.nx+1⟩
 | .put _ v nm B=>⟨st.rt,st.rm,setT st.t d v,(nm,some B)::st.m,st.nx⟩
 | .mov _ v old B=>⟨st.rt,st.rm,setT st.t d v,(st.nx,some B)::(old,none)::st.m,st.nx+1⟩
 | .kil _ v ns=>⟨st.rt,st.rm,setT st.t d v,(ns.map fun a=>(a,none))++st.m,st.nx⟩
 | .rput _ v id t row A=>⟨st.rt,st.rm,setT st.t d v,(0,some (.ar t ((id,row)::A)))::st.m,st.nx⟩
def SR.keys (st:SS τ dn):SR τ dn→List Nat
 | .val _ _=>[]
 | .new _ _ _=>[st.nx]
 | .put _ _ nm _=>[nm]
 | .mov _ _ old _=>[old,st.nx]
 | .kil _ _ ns=>ns
 | .rput _ _ _ _ _ _=>[0]
def SR.may (D:TD τ dn) (N:Nms) (st:SS τ dn):SR τ dn→Prop
 | .put _ _ nm B=>(∃B0,getS st.m nm=some (some B0)∧N.ln nm=B.len)∧getS st.rm nm=none∧B.isA=false
 | .mov _ _ old B=>(∃B0,getS st.m old=some (some B0))∧getS st.rm old=none∧B.isA=false
 | .kil _ _ ns=>∀a,a∈ns→(∃B0,getS st.m a=some (some B0))∧getS st.rm a=none
 | .new _ _ B=>B.isA=false
 | .rput _ _ id t _ A=>getS st.m 0=some (some (.ar t A))∧getS st.rm 0=none∧hasA A id
 | .val _ _=>True
def SR.up (N:Nms) (st:SS τ dn) (k:Nat):SR τ dn→Nms
 | .new _ _ B| .mov _ _ _ B=>N.upd st.nx k B.len
 |_=>N
def SR.k1 (k:Nat):SR τ dn→Nat
 | .new _ _ _| .mov _ _ _ _=>k+1
 |_=>k
theorem gput_nones:∀(l:List Nat) (g:Nat→Option Bk) (id:Nat),gput g (l.map fun i=>(i,none)) id=if id∈l then none else g id
 |[],g,id=>by simp [gput]
 |a::r,g,id=>by
  rw [List.map_cons,gput,gput_nones r]
  by_cases h1:id∈r<;>by_cases h2:id=a<;>simp [h1,h2]
theorem getS_nones {α:Type} {m:List (Nat×Option α)}:∀{ns:List Nat} {i:Nat} {B:Option α},getS ((ns.map fun a=>(a,none))++m) i=some B→(i∈ns∧B=none)∨(¬i∈ns∧getS m i=some B)
 |[],i,B,h=> .inr ⟨by simp,h⟩
 |a::r,i,B,h=>by
  rw [List.map_cons,List.cons_append,getS_cons] at h
  by_cases hi:i=a
  ·rw [if_pos hi,Option.some.injEq] at h;exact .inl ⟨by simp [hi],h.symm⟩
  ·rw [if_neg hi] at h
   rcases getS_nones h with ⟨h1,h2⟩|⟨h1,h2⟩
   ·exact .inl ⟨by simp [h1],h2⟩
   ·exact .inr ⟨by simp [hi,h1],h2⟩
theorem gm_cons {rt rt' t t':List (Nat×SV τ dn)} {rm m:List (Nat×Option (SB τ dn))} {nx nx' nm0:Nat} {x:Option (SB τ dn)} (nm:Nat):(⟨rt,rm,t,(nm0,x)::m,nx⟩:SS τ dn).gm nm=if nm=nm0 then x else (⟨rt',rm,t',m,nx'⟩:SS τ dn).gm nm:=by
 unfold SS.gm
 simp only [getS_cons]
 by_cases h:nm=nm0
 ·rw [if_pos h,if_pos h]
 ·rw [if_neg h,if_neg h]
theorem gm_m {st:SS τ dn} {nm:Nat} {x:Option (SB τ dn)} (h:getS st.m nm=some x):st.gm nm=x:=by unfold SS.gm;rw [h]
theorem Rel.go {N:Nms} {st:SS τ dn} {s:S3} (R:Rel D N st s) {n:Nat} {d:Option Nat} (hd:dstS n st.rt d=true) {r:SR τ dn} (hm:r.may D N st) {val:AV} (hv:∀N',(r.up N st s.k).agree (r.st st d).nx N'→val=r.v.av D.toTE N') {ups:List (Nat×Option Bk)} (hu:∀N',(r.up N st s.k).agree (r.st st d).nx N'→ups=r.ups D N' s.k):
  Rel D (r.up N st s.k) (r.st st d) ⟨putσ n d val s.σ,gput s.g ups,r.k1 s.k⟩:=by
 have hrb:∀(N':Nms) (nm:Nat) (B:SB τ dn) (id:Nat) (x:Option Bk),getS st.rm nm=some (some B)→RelAt D N' st s.σ s.g→¬N'.ι nm=id→(if N'.ι nm=id then x else s.g (N'.ι nm))=some (B.av D.toTE N')∧N'.ln nm=B.len:=fun N' nm B id x h A hne=>by rw [if_neg hne];exact A.rb nm B h
 cases r with
 |val O v=>
  refine ⟨fun N' hN=> ?_,R.inj,R.lt,R.ml,R.rl,R.sp⟩
  have A:=R.at_ N' hN
  obtain ⟨q1,q2⟩:=set_slot (D:=D) (n:=n) (v:=v) (a:=val) hd A.sl A.rs (hv N' hN)
  have e:=hu N' hN
  simp only [SR.ups] at e
  subst e
  exact ⟨q1,q2,A.bl,A.rb,A.ar⟩
 |new O v B=>
  have hag:∀N',(N.upd st.nx s.k B.len).agree (st.nx+1) N'→N.agree st.nx N'∧N'.ι st.nx=s.k∧N'.ln st.nx=B.len:=fun N' hN=>by
   refine ⟨Nms.agree_trans (N.upd_agree st.nx s.k B.len) hN (by omega), ?_, ?_⟩
   ·rw [(hN.1 st.nx (by omega)).1];exact if_pos rfl
   ·rw [(hN.1 st.nx (by omega)).2];exact if_pos rfl
  have hga:∀t A,(SR.st st d (SR.new O v B:SR τ dn)).alv 0 (.ar t A)→st.alv 0 (.ar t A):=fun t A h=>by
   rcases h with h|h
   ·simp only [SR.st,getS_cons] at h
    by_cases h0:0=st.nx
    ·rw [if_pos h0,Option.some.injEq,Option.some.injEq] at h
     have hm':B.isA=false:=hm
     subst h;simp [SB.isA] at hm'
    ·rw [if_neg h0] at h;exact .inl h
   ·exact .inr h
  refine ⟨fun N' hN=> ?_,fun a b ha hb he=> ?_,fun a ha=> ?_,fun nm B' h=> ?_,fun nm B' h=>Nat.lt_succ_of_lt (R.rl nm B' h),fun t A h id hid=> ?_⟩
  ·obtain ⟨h1,h2,h3⟩:=hag N' hN
   have A:=R.at_ N' h1
   obtain ⟨q1,q2⟩:=set_slot (D:=D) (n:=n) (v:=v) (a:=val) hd A.sl A.rs (hv N' hN)
   have e:=hu N' hN
   simp only [SR.ups] at e
   subst e
   have hne:∀nm,nm<st.nx→¬N'.ι nm=s.k:=fun nm hnm he=>by
    rw [(h1.1 nm hnm).1] at he;have:=R.lt nm hnm;omega
   refine ⟨q1,q2,fun nm B' h=> ?_,fun nm B' h=> ?_,fun t A' h id hid=> ?_⟩
   ·simp only [SR.st,getS_cons] at h
    simp only [gput]
    by_cases hn:nm=st.nx
    ·subst hn
     rw [if_pos rfl,Option.some.injEq,Option.some.injEq] at h
     subst h
     rw [if_pos h2];exact ⟨rfl,h3⟩
    ·rw [if_neg hn] at h
     rw [if_neg (hne nm (R.ml nm _ h))];exact A.bl nm B' h
   ·simp only [gput];exact hrb N' nm B' _ _ h A (hne nm (R.rl nm _ h))
   ·have h':=hga t A' h
    simp only [gput]
    rw [if_neg (fun e=>by have:=(R.sp t A' h' id hid).1;omega)]
    exact A.ar t A' h' id hid
  ·simp only [SR.st] at ha hb
   simp only [SR.up,Nms.upd] at he
   by_cases h1:a=st.nx<;>by_cases h2:b=st.nx
   ·rw [h1,h2]
   ·rw [if_pos h1,if_neg h2] at he;have:=R.lt b (by omega);omega
   ·rw [if_neg h1,if_pos h2] at he;have:=R.lt a (by omega);omega
   ·rw [if_neg h1,if_neg h2] at he;exact R.inj a b (by omega) (by omega) he
  ·simp only [SR.st] at ha
   simp only [SR.up,Nms.upd,SR.k1]
   by_cases h1:a=st.nx
   ·rw [if_pos h1];omega
   ·rw [if_neg h1];have:=R.lt a (by omega);omega
  ·simp only [SR.st,getS_cons] at h ⊢
   by_cases hn:nm=st.nx
   ·omega
   ·rw [if_neg hn] at h;have:=R.ml nm _ h;omega
  ·have h':=hga t A h
   obtain ⟨h1,h2⟩:=R.sp t A h' id hid
   refine ⟨Nat.lt_succ_of_lt h1,fun nm B' hB'=> ?_⟩
   simp only [SR.up,Nms.upd]
   by_cases hn:nm=st.nx
   ·rw [if_pos hn];omega
   ·rw [if_neg hn]
    simp only [SS.alv,SR.st,getS_cons] at hB'
    rw [if_neg hn] at hB'
    exact h2 nm B' hB'
 |put O v nm0 B=>
  obtain ⟨⟨B0,hB0,hln⟩,hnone,hisA⟩:=hm
  have h0:=R.ml nm0 _ hB0
  have hga:∀t A,(SR.st st d (SR.put O v nm0 B:SR τ dn)).alv 0 (.ar t A)→st.alv 0 (.ar t A):=fun t A h=>by
   rcases h with h|h
   ·simp only [SR.st,getS_cons] at h
    by_cases h1:0=nm0
    ·rw [if_pos h1,Option.some.injEq,Option.some.injEq] at h
     subst h;simp [SB.isA] at hisA
    ·rw [if_neg h1] at h;exact .inl h
   ·exact .inr h
  refine ⟨fun N' hN=> ?_,R.inj,R.lt,fun nm B' h=> ?_,R.rl,fun t A h id hid=> ?_⟩
  ·have A:=R.at_ N' hN
   obtain ⟨q1,q2⟩:=set_slot (D:=D) (n:=n) (v:=v) (a:=val) hd A.sl A.rs (hv N' hN)
   have e:=hu N' hN
   simp only [SR.ups] at e
   subst e
   have hne:∀nm,nm<st.nx→¬nm=nm0→¬N'.ι nm=N'.ι nm0:=fun nm hnm hx he=>by
    rw [(hN.1 nm hnm).1,(hN.1 nm0 h0).1] at he;exact hx (R.inj _ _ hnm h0 he)
   refine ⟨q1,q2,fun nm B' h=> ?_,fun nm B' h=> ?_,fun t A' h id hid=> ?_⟩
   ·simp only [SR.st,getS_cons] at h
    simp only [gput]
    by_cases hn:nm=nm0
    ·subst hn
     rw [if_pos rfl,Option.some.injEq,Option.some.injEq] at h
     subst h
     rw [if_pos rfl];exact ⟨rfl,by rw [(hN.1 nm h0).2];exact hln⟩
    ·rw [if_neg hn] at h
     rw [if_neg (hne nm (R.ml nm _ h) hn)];exact A.bl nm B' h
   ·simp only [gput]
    have h':getS st.rm nm=some (some B'):=h
    by_cases hn:nm=nm0
    ·subst hn;rw [hnone] at h';simp at h'
    ·exact hrb N' nm B' _ _ h' A (hne nm (R.rl nm _ h') hn)
   ·have h':=hga t A' h
    simp only [gput]
    rw [if_neg (fun e=>(R.sp t A' h' id hid).2 nm0 B0 (.inl hB0) (((hN.1 nm0 h0).1).symm.trans e.symm))]
    exact A.ar t A' h' id hid
  ·simp only [SR.st,getS_cons] at h ⊢
   by_cases hn:nm=nm0
   ·subst hn;exact h0
   ·rw [if_neg hn] at h;exact R.ml nm _ h
  ·obtain ⟨h1,h2⟩:=R.sp t A (hga t A h) id hid
   refine ⟨h1,fun nm B' hB'=> ?_⟩
   simp only [SS.alv,SR.st,getS_cons] at hB'
   by_cases hn:nm=nm0
   ·subst hn;exact h2 nm B0 (.inl hB0)
   ·rw [if_neg hn] at hB';exact h2 nm B' hB'
 |kil O v ns=>
  have hal:∀nm B',(SR.st st d (SR.kil O v ns:SR τ dn)).alv nm B'→st.alv nm B':=fun nm B' h=>by
   rcases h with h|h
   ·rcases getS_nones h with ⟨_,h2⟩|⟨_,h2⟩
    ·simp at h2
    ·exact .inl h2
   ·exact .inr h
  have hga:∀t A,(SR.st st d (SR.kil O v ns:SR τ dn)).alv 0 (.ar t A)→st.alv 0 (.ar t A):=fun t A h=>hal 0 _ h
  refine ⟨fun N' hN=> ?_,R.inj,R.lt,fun nm B' h=> ?_,R.rl,fun t A h id hid=> ?_⟩
  ·have A:=R.at_ N' hN
   obtain ⟨q1,q2⟩:=set_slot (D:=D) (n:=n) (v:=v) (a:=val) hd A.sl A.rs (hv N' hN)
   have e:=hu N' hN
   simp only [SR.ups] at e
   subst e
   have hne:∀nm,nm<st.nx→¬nm∈ns→¬N'.ι nm∈ns.map N'.ι:=fun nm hnm hx he=>by
    obtain ⟨a,ha,e⟩:=List.mem_map.1 he
    obtain ⟨⟨B0,hB0⟩,_⟩:=hm a ha
    have h0:=R.ml a _ hB0
    rw [(hN.1 nm hnm).1,(hN.1 a h0).1] at e
    have:=R.inj _ _ h0 hnm e
    subst this;exact hx ha
   refine ⟨q1,q2,fun nm B' h=> ?_,fun nm B' h=> ?_,fun t A' h id hid=> ?_⟩
   ·rcases getS_nones h with ⟨_,h2⟩|⟨h1,h2⟩
    ·simp at h2
    ·show gput s.g _ _=_∧_
     rw [gput_nones,if_neg (hne nm (R.ml nm _ h2) h1)];exact A.bl nm B' h2
   ·have h':getS st.rm nm=some (some B'):=h
    have hx:¬nm∈ns:=fun hh=>by have:=(hm nm hh).2;rw [this] at h';simp at h'
    show gput s.g _ _=_∧_
    rw [gput_nones,if_neg (hne nm (R.rl nm _ h') hx)];exact A.rb nm B' h'
   ·have h':=hga t A' h
    show gput s.g _ _=_
    rw [gput_nones,if_neg]
    ·exact A.ar t A' h' id hid
    ·intro hin
     obtain ⟨a,ha,e⟩:=List.mem_map.1 hin
     obtain ⟨⟨B0,hB0⟩,_⟩:=hm a ha
     exact (R.sp t A' h' id hid).2 a B0 (.inl hB0) (((hN.1 a (R.ml a _ hB0)).1).symm.trans e)
  ·rcases getS_nones h with ⟨h1,h2⟩|⟨h1,h2⟩
   ·obtain ⟨⟨B0,hB0⟩,_⟩:=hm nm h1
    exact R.ml nm _ hB0
   ·exact R.ml nm _ h2
  ·obtain ⟨h1,h2⟩:=R.sp t A (hga t A h) id hid
   exact ⟨h1,fun nm B' hB'=>h2 nm B' (hal nm B' hB')⟩
 |mov O v old B=>
  obtain ⟨⟨B0,hB0⟩,hnone,hisA⟩:=hm
  have h0:=R.ml old _ hB0
  have hag:∀N',(N.upd st.nx s.k B.len).agree (st.nx+1) N'→N.agree st.nx N'∧N'.ι st.nx=s.k∧N'.ln st.nx=B.len:=fun N' hN=>by
   refine ⟨Nms.agree_trans (N.upd_agree st.nx s.k B.len) hN (by omega), ?_, ?_⟩
   ·rw [(hN.1 st.nx (by omega)).1];exact if_pos rfl
   ·rw [(hN.1 st.nx (by omega)).2];exact if_pos rfl
  have hga:∀t A,(SR.st st d (SR.mov O v old B:SR τ dn)).alv 0 (.ar t A)→st.alv 0 (.ar t A):=fun t A h=>by
   rcases h with h|h
   ·simp only [SR.st,getS_cons] at h
    by_cases h1:0=st.nx
    ·rw [if_pos h1,Option.some.injEq,Option.some.injEq] at h
     subst h;simp [SB.isA] at hisA
    ·rw [if_neg h1] at h
     by_cases h2:0=old
     ·rw [if_pos h2] at h;simp at h
     ·rw [if_neg h2] at h;exact .inl h
   ·exact .inr h
  refine ⟨fun N' hN=> ?_,fun a b ha hb he=> ?_,fun a ha=> ?_,fun nm B' h=> ?_,fun nm B' h=>Nat.lt_succ_of_lt (R.rl nm B' h),fun t A h id hid=> ?_⟩
  ·obtain ⟨h1,h2,h3⟩:=hag N' hN
   have A:=R.at_ N' h1
   obtain ⟨q1,q2⟩:=set_slot (D:=D) (n:=n) (v:=v) (a:=val) hd A.sl A.rs (hv N' hN)
   have e:=hu N' hN
   simp only [SR.ups] at e
   subst e
   have hne:∀nm,nm<st.nx→¬N'.ι nm=s.k:=fun nm hnm he=>by
    rw [(h1.1 nm hnm).1] at he;have:=R.lt nm hnm;omega
   have hne2:∀nm,nm<st.nx→¬nm=old→¬N'.ι nm=N'.ι old:=fun nm hnm hx he=>by
    rw [(h1.1 nm hnm).1,(h1.1 old h0).1] at he;exact hx (R.inj _ _ hnm h0 he)
   refine ⟨q1,q2,fun nm B' h=> ?_,fun nm B' h=> ?_,fun t A' h id hid=> ?_⟩
   ·simp only [SR.st,getS_cons] at h
    simp only [gput]
    by_cases hn:nm=st.nx
    ·subst hn
     rw [if_pos rfl,Option.some.injEq,Option.some.injEq] at h
     subst h
     rw [if_pos h2];exact ⟨rfl,h3⟩
    ·rw [if_neg hn] at h
     by_cases ho:nm=old
     ·rw [if_pos ho] at h;simp at h
     ·rw [if_neg ho] at h
      rw [if_neg (hne nm (R.ml nm _ h)),if_neg (hne2 nm (R.ml nm _ h) ho)];exact A.bl nm B' h
   ·simp only [gput]
    have h':getS st.rm nm=some (some B'):=h
    by_cases ho:nm=old
    ·subst ho;rw [hnone] at h';simp at h'
    ·rw [if_neg (hne nm (R.rl nm _ h')),if_neg (hne2 nm (R.rl nm _ h') ho)];exact A.rb nm B' h'
   ·have h':=hga t A' h
    simp only [gput]
    rw [if_neg (fun e=>by have:=(R.sp t A' h' id hid).1;omega),if_neg (fun e=>(R.sp t A' h' id hid).2 old B0 (.inl hB0) (by rw [←(h1.1 old h0).1];exact e.symm))]
    exact A.ar t A' h' id hid
  ·simp only [SR.st] at ha hb
   simp only [SR.up,Nms.upd] at he
   by_cases h1:a=st.nx<;>by_cases h2:b=st.nx
   ·rw [h1,h2]
   ·rw [if_pos h1,if_neg h2] at he;have:=R.lt b (by omega);omega
   ·rw [if_neg h1,if_pos h2] at he;have:=R.lt a (by omega);omega
   ·rw [if_neg h1,if_neg h2] at he;exact R.inj a b (by omega) (by omega) he
  ·simp only [SR.st] at ha
   simp only [SR.up,Nms.upd,SR.k1]
   by_cases h1:a=st.nx
   ·rw [if_pos h1];omega
   ·rw [if_neg h1];have:=R.lt a (by omega);omega
  ·simp only [SR.st,getS_cons] at h ⊢
   by_cases hn:nm=st.nx
   ·omega
   ·rw [if_neg hn] at h
    by_cases ho:nm=old
    ·omega
    ·rw [if_neg ho] at h;have:=R.ml nm _ h;omega
  ·obtain ⟨h1,h2⟩:=R.sp t A (hga t A h) id hid
   refine ⟨Nat.lt_succ_of_lt h1,fun nm B' hB'=> ?_⟩
   simp only [SR.up,Nms.upd]
   by_cases hn:nm=st.nx
   ·rw [if_pos hn];omega
   ·rw [if_neg hn]
    simp only [SS.alv,SR.st,getS_cons] at hB'
    rw [if_neg hn] at hB'
    by_cases ho:nm=old
    ·subst ho;exact h2 nm B0 (.inl hB0)
    ·rw [if_neg ho] at hB';exact h2 nm B' hB'
 |rput O v id0 t0 row A0=>
  obtain ⟨hg0,hnone,hid0⟩:=hm
  have hgm:=gm_m hg0
  have h00:=R.ml 0 _ hg0
  have hal9:st.alv 0 (.ar t0 A0):= .inl hg0
  obtain ⟨hk0,hal0⟩:=R.sp t0 A0 hal9 id0 hid0
  have h00':∀t A,(SR.st st d (SR.rput O v id0 t0 row A0:SR τ dn)).alv 0 (.ar t A)→(SB.ar t A:SB τ dn)= .ar t0 ((id0,row)::A0):=fun t A h=>by
   rcases h with h|h
   ·simp only [SR.st,getS_cons,if_true,Option.some.injEq] at h;exact h.symm
   ·have h':getS st.rm 0=some (some (.ar t A)):=h
    rw [hnone] at h';simp at h'
  have hne:∀(N':Nms),N.agree st.nx N'→∀nm B',st.alv nm B'→nm<st.nx→¬N'.ι nm=id0:=fun N' hN nm B' hB' hlt e=>hal0 nm B' hB' (by rw [←(hN.1 nm hlt).1];exact e)
  refine ⟨fun N' hN=> ?_,R.inj,R.lt,fun nm B' h=> ?_,R.rl,fun t A h id hid=> ?_⟩
  ·have A:=R.at_ N' hN
   obtain ⟨q1,q2⟩:=set_slot (D:=D) (n:=n) (v:=v) (a:=val) hd A.sl A.rs (hv N' hN)
   have e:=hu N' hN
   simp only [SR.ups] at e
   subst e
   refine ⟨q1,q2,fun nm B' h=> ?_,fun nm B' h=> ?_,fun t A' h id hid=> ?_⟩
   ·simp only [SR.st,getS_cons] at h
    simp only [gput]
    by_cases hn:nm=0
    ·subst hn
     rw [if_pos rfl,Option.some.injEq,Option.some.injEq] at h
     subst h
     rw [if_neg (hne N' hN 0 _ (.inl hg0) h00)]
     have q:=A.bl 0 _ hg0
     exact ⟨q.1,q.2⟩
    ·rw [if_neg hn] at h
     rw [if_neg (hne N' hN nm _ (.inl h) (R.ml nm _ h))];exact A.bl nm B' h
   ·simp only [gput]
    have h':getS st.rm nm=some (some B'):=h
    rw [if_neg (hne N' hN nm _ (.inr h') (R.rl nm _ h'))];exact A.rb nm B' h'
   ·have h:=h00' t A' h
    simp only [SB.ar.injEq] at h
    obtain ⟨rfl,h⟩:=h
    have h:=eq_of_heq h
    subst h
    simp only [gput]
    rw [lkA_cons]
    by_cases hi:id=id0
    ·rw [if_pos hi,if_pos hi]
    ·rw [if_neg hi,if_neg hi]
     rcases hasA_cons.1 hid with hh|hh
     ·exact absurd hh hi
     ·exact A.ar _ A0 hal9 id hh
  ·simp only [SR.st,getS_cons] at h ⊢
   by_cases hn:nm=0
   ·subst hn;exact h00
   ·rw [if_neg hn] at h;exact R.ml nm _ h
  ·have h:=h00' t A h
   simp only [SB.ar.injEq] at h
   obtain ⟨rfl,h⟩:=h
   have h:=eq_of_heq h
   subst h
   have hid':hasA A0 id:=by
    rcases hasA_cons.1 hid with hh|hh
    ·subst hh;exact hid0
    ·exact hh
   obtain ⟨h1,h2⟩:=R.sp _ A0 hal9 id hid'
   refine ⟨h1,fun nm B' hB'=> ?_⟩
   simp only [SS.alv,SR.st,getS_cons] at hB'
   by_cases hn:nm=0
   ·subst hn;exact h2 0 _ (.inl hg0)
   ·rw [if_neg hn] at hB';exact h2 nm B' hB'
def SR.isV:SR τ dn→Bool
 | .val _ _=>true
 | .new _ _ B=> !B.isA
 |_=>false
theorem isV_may {N:Nms} {st:SS τ dn} {r:SR τ dn} (h:r.isV=true):r.may D N st:=by cases r<;>first|trivial|(simp [SR.isV] at h;done)|(simpa [SR.isV,SR.may] using h)
theorem oInt_v {neg:Bool} {op:BinOp} {x y:Int} {r:SR τ dn} (h:oInt neg op x y=some r):r.isV=true:=by
 unfold oInt at h
 cases neg<;>simp only [cond_true,cond_false] at h
 repeat' split at h
 all_goals first|(simp at h;done)|(simp only [Option.some.injEq] at h;subst h;rfl)|(simp only [Option.map_eq_some_iff] at h;obtain ⟨_,_,rfl⟩:=h;rfl)
theorem oZ_v {op:BinOp} {x y:ByteArray} {r:SR τ dn} (h:oZ op x y=some r):r.isV=true:=by
 unfold oZ at h
 repeat' split at h
 all_goals first|(simp at h;done)|(simp only [Option.some.injEq] at h;subst h;rfl)|(simp only [Option.map_eq_some_iff] at h;obtain ⟨_,_,rfl⟩:=h;rfl)
theorem oUn_v {op:UnOp} {a:SV τ dn} {r:SR τ dn} (h:oUn op a=some r):r.isV=true:=by
 unfold oUn at h
 repeat' split at h
 all_goals first|(simp at h;done)|(simp only [Option.some.injEq] at h;subst h;rfl)|(simp only [Option.map_eq_some_iff] at h;obtain ⟨_,_,rfl⟩:=h;rfl)
theorem oConv_v {k:IntKind} {a:SV τ dn} {r:SR τ dn} (h:oConv k a=some r):r.isV=true:=by
 unfold oConv at h
 repeat' split at h
 all_goals first|(simp at h;done)|(simp only [Option.some.injEq] at h;subst h;rfl)|(simp only [Option.map_eq_some_iff] at h;obtain ⟨_,_,rfl⟩:=h;rfl)
theorem oLoad_v {st:SS τ dn} {m:Option Nat} {v:SV τ dn} {r:SR τ dn} (h:oLoad D st m v=some r):r.isV=true:=by
 unfold oLoad at h
 repeat' split at h
 all_goals first|(simp at h;done)|(simp only [Option.some.injEq] at h;subst h;rfl)|(simp only [Option.map_eq_some_iff] at h;obtain ⟨_,_,rfl⟩:=h;rfl)
theorem oIad_v {st:SS τ dn} {sz:Nat} {v:SV τ dn} {n:Int} {l:Bool} {r:SR τ dn} (h:oIad D st sz v n l=some r):r.isV=true:=by
 unfold oIad at h
 cases l<;>simp only [cond_true,cond_false] at h
 repeat' split at h
 all_goals first|(simp at h;done)|(simp only [Option.some.injEq] at h;subst h;rfl)|(simp only [Option.map_eq_some_iff] at h;obtain ⟨_,_,rfl⟩:=h;rfl)
theorem oLen_v {st:SS τ dn} {b:Bool} {v:SV τ dn} {r:SR τ dn} (h:oLen st b v=some r):r.isV=true:=by
 unfold oLen at h
 repeat' split at h
 all_goals first|(simp at h;done)|(simp only [Option.some.injEq] at h;subst h;rfl)|(simp only [Option.map_eq_some_iff] at h;obtain ⟨_,_,rfl⟩:=h;rfl)
theorem oIsn_v {st:SS τ dn} {kd:NK} {neg:Bool} {v:SV τ dn} {r:SR τ dn} (h:oIsn st kd neg v=some r):r.isV=true:=by
 unfold oIsn at h
 repeat' split at h
 all_goals first|(simp at h;done)|(simp only [Option.some.injEq] at h;subst h;rfl)|(simp only [Option.map_eq_some_iff] at h;obtain ⟨_,_,rfl⟩:=h;rfl)
theorem oSlc_v {st:SS τ dn} {sz:Nat} {v:SV τ dn} {lo hi:Option Int} {r:SR τ dn} (h:oSlc D st sz v lo hi=some r):r.isV=true:=by
 unfold oSlc at h
 repeat' split at h
 all_goals first|(simp at h;done)|(simp only [Option.some.injEq] at h;subst h;rfl)|(simp only [Option.map_eq_some_iff] at h;obtain ⟨_,_,rfl⟩:=h;rfl)
theorem oB2s_v {st:SS τ dn} {v:SV τ dn} {r:SR τ dn} (h:oB2s D st v=some r):r.isV=true:=by
 unfold oB2s at h
 repeat' split at h
 all_goals first|(simp at h;done)|(simp only [Option.some.injEq] at h;subst h;rfl)
theorem oS2b_v {st:SS τ dn} {s:ByteArray} {r:SR τ dn} (h:oS2b D st s=some r):r.isV=true:=by
 unfold oS2b at h
 repeat' split at h
 all_goals first|(simp at h;done)|(simp only [Option.some.injEq] at h;subst h;rfl)
theorem oMsl_v {st:SS τ dn} {sz by_:Nat} {zs:List AV} {l c:Int} {r:SR τ dn} (h:oMsl D st sz by_ zs l c=some r):r.isV=true:=by
 unfold oMsl at h
 repeat' split at h
 all_goals first|(simp at h;done)|(simp only [Option.some.injEq] at h;subst h;rfl)|(simp only [Option.map_eq_some_iff] at h;obtain ⟨_,_,rfl⟩:=h;rfl)
theorem oBin_v {neg bt:Bool} {op:BinOp} {a b:SV τ dn} {r:SR τ dn} (h:oBin neg bt op a b=some r):r.isV=true:=by
 unfold oBin at h
 repeat' split at h
 all_goals first|exact oInt_v h|exact oZ_v h|first|(simp at h;done)|(simp only [Option.some.injEq] at h;subst h;rfl)|(simp only [Option.map_eq_some_iff] at h;obtain ⟨_,_,rfl⟩:=h;rfl)
theorem rw_may {st:SS τ dn} {nm:Nat} (h:st.rw nm=true):(∃B0,getS st.m nm=some (some B0))∧getS st.rm nm=none:=by
 unfold SS.rw at h
 rw [Bool.and_eq_true] at h
 refine ⟨?_,by simpa using h.2⟩
 have h1:=h.1
 split at h1
 ·rename_i B hB;exact ⟨B,hB⟩
 ·simp at h1
theorem blk_isA (sz:Nat) (c:Ct τ dn):(c.blk sz).isA=false:=by cases c<;>rfl
theorem catB_isA [DecidableEq τ] {sz:Nat} {B B':SB τ dn} {c:Ct τ dn} (h:catB D sz B c=some B'):B'.isA=false:=by
 unfold catB at h
 repeat' split at h
 all_goals first|(simp at h;done)|(simp only [Option.some.injEq] at h;subst h;rfl)|(simp only [Option.map_eq_some_iff] at h;obtain ⟨_,_,rfl⟩:=h;rfl)
theorem sx_may [DecidableEq τ] {N:Nms} {st:SS τ dn} {σ:Nat→AV} {g:Nat→Option Bk} (R:RelAt D N st σ g):∀{ao:AO} {r:SR τ dn},sx D st ao=some r→r.may D N st:=by
 intro ao r h
 have val:∀{O:List Prop} {v:SV τ dn},(SR.val O v).may D N st:=trivial
 have hput:∀{O:List Prop} {v:SV τ dn} {nm:Nat} {B0 B:SB τ dn},st.rw nm=true→st.gm nm=some B0→B.len=B0.len→(hb:B.isA=false:=by rfl)→(SR.put O v nm B).may D N st:=fun h1 h2 h3 hb=>by
  obtain ⟨⟨B1,h4⟩,h5⟩:=rw_may h1
  exact ⟨⟨B1,h4,by rw [h3];exact (R.gm h2).2⟩,h5,hb⟩
 cases ao<;>simp only [sx] at h
 case store n x y=>
  split at h
  ·unfold oStore at h
   split at h
   ·split at h
    ·split at h
     ·rename_i hc
      split at h
      ·rename_i hB
       split at h
       ·split at h
        ·simp only [Option.some.injEq] at h;subst h;exact hput hc.2 hB (by simp [SB.len])
        ·simp at h
       ·simp at h
      ·rename_i hB
       split at h
       ·split at h
        ·simp only [Option.some.injEq] at h;subst h;exact hput hc.2 hB (by simp [SB.len])
        ·simp at h
       ·simp at h
      ·simp at h
     ·simp at h
    ·simp at h
   ·simp at h
  ·simp at h
 case app sz by_ x y=>
  split at h
  ·unfold oApp at h
   split at h
   ·split at h
    ·simp only [Option.some.injEq] at h;subst h;exact blk_isA _ _
    ·split at h
     ·rename_i hc
      split at h
      ·split at h
       ·simp only [Option.map_eq_some_iff] at h;obtain ⟨B',hB',rfl⟩:=h;exact ⟨(rw_may hc.2).1,(rw_may hc.2).2,catB_isA hB'⟩
       ·simp at h
      ·simp at h
     ·simp at h
    ·simp at h
   ·simp at h
  ·simp at h
 case cpy sz x y=>
  split at h
  ·unfold oCpy at h
   split at h
   ·split at h
    ·rename_i hc
     split at h
     ·rename_i hB
      split at h
      ·rename_i he
       subst he
       split at h
       ·simp only [Option.some.injEq] at h;subst h
        exact hput hc.2 hB (by simp only [SB.len,List.length_append,List.length_take,List.length_drop];omega)
       ·simp at h
      ·simp at h
     ·simp at h
    ·simp at h
   ·simp at h
  ·simp at h
 case mup kd x k y=>
  split at h
  ·unfold oMup at h
   split at h
   case h_2=>simp at h
   rename_i nm key hkey _
   split at h
   case h_2=>simp at h
   rename_i els hB
   cases hb:(st.rw nm&&plainV key) with
   |false=>rw [hb] at h;simp at h
   |true=>
    rw [hb,cond_true] at h
    rw [Bool.and_eq_true] at hb
    split at h
    case h_2=>simp at h
    simp only [Option.some.injEq] at h;subst h
    exact hput hb.1 hB rfl
  ·simp at h
 case mlk kd z x k=>
  split at h
  ·unfold oMlk at h
   refine isV_may ?_
   repeat' split at h
   all_goals first|(simp at h;done)|(simp only [Option.some.injEq] at h;subst h;rfl)|(simp only [Option.map_eq_some_iff] at h;obtain ⟨_,_,rfl⟩:=h;rfl)
  ·simp at h
 case slc sz x lo hi mx=>
  refine isV_may ?_
  cases mx with
  |some m=>simp at h
  |none=>
   simp only at h
   split at h
   ·exact oSlc_v h
   ·simp at h
 all_goals refine isV_may ?_
 all_goals try (simp only [Option.bind_eq_some_iff] at h;obtain ⟨_,_,h⟩:=h)
 all_goals repeat' split at h
 all_goals first|exact oBin_v h|exact oUn_v h|exact oConv_v h|exact oLoad_v h|exact oIad_v h|exact oLen_v h|exact oIsn_v h|exact oSlc_v h|exact oMsl_v h|exact oB2s_v h|exact oS2b_v h|(simp at h;done)|(simp only [Option.some.injEq] at h;subst h;rfl)|(simp only [Option.map_eq_some_iff] at h;obtain ⟨_,_,rfl⟩:=h;rfl)|(subst h;rfl)
end
open Go.RowKit
def obl:List Prop→Prop→Prop
 |[],K=>K
 |p::r,K=>p∧obl r K
theorem obl_iff {K:Prop}:∀{O:List Prop},obl O K↔(∀p,p∈O→p)∧K
 |[]=>by simp [obl]
 |p::r=>by simp only [obl,obl_iff (O:=r),List.mem_cons,forall_eq_or_imp,and_assoc]
def Cn.pol (c:Cn):Bool→Cn
 |true=>c
 |false=> .not c
theorem Cn.pol_den (c:Cn) (p:Bool):(c.pol p).den=(c.den==p):=by cases p<;>cases h:c.den<;>simp [pol,den,h]
section
variable {τ:Type} {dn:τ→Type} {D:TD τ dn} {N:Nms} {st:SS τ dn} {σ:Nat→AV} {g:Nat→Option Bk}
inductive Gd where
 |yes
 |no
 |cnd (e:Cn)
 |bad
def SS.gd (st:SS τ dn):Option (Nat×Bool)→Gd
 |none=> .yes
 |some (i,w)=>match st.gt i with
  |some (.vt b)=>bif b==w then .yes else .no
  |some (.vo (.tuple _))=> .no
  |some (.vb c)=> .cnd (c.pol w)
  |some (.vg p c (.vb c2))=> .cnd (.and (c.pol p) (c2.pol w))
  |some (.vg p c (.vt b))=>bif b==w then .cnd (c.pol p) else .no
  |_=> .bad
theorem gd_ok (R:RelAt D N st σ g) {x:Option (Nat×Bool)}:(st.gd x= .yes→guardA σ x=some true)∧(st.gd x= .no→guardA σ x=some false)∧(∀e,st.gd x= .cnd e→guardA σ x=some e.den):=by
 cases x with
 |none=>exact ⟨fun _=>rfl,fun h=>by simp [SS.gd] at h,fun e h=>by simp [SS.gd] at h⟩
 |some x=>
  obtain ⟨i,w⟩:=x
  simp only [SS.gd]
  split
  ·rename_i b h
   have e:=R.gt h
   simp only [SV.av] at e
   simp only [guardA,e]
   cases b<;>cases w<;>simp
  ·rename_i vs h
   have e:=R.gt h
   simp only [SV.av] at e
   simp [guardA,e]
  ·rename_i c h
   have e:=R.gt h
   simp only [SV.av] at e
   simp [guardA,e,Cn.pol_den]
  ·rename_i p c c2 h
   have e:=R.gt h
   simp only [SV.av] at e
   refine ⟨by simp,by simp,fun e' he=> ?_⟩
   simp only [Gd.cnd.injEq] at he;subst he
   simp only [guardA,e,Cn.den,Cn.pol_den]
   cases c.den<;>cases p<;>simp [undef]
  ·rename_i p c b h
   have e:=R.gt h
   simp only [SV.av] at e
   simp only [guardA,e]
   cases hc:c.den<;>cases p<;>cases b<;>cases w<;>simp [undef,Cn.pol,Cn.den,hc]
  ·exact ⟨by simp,by simp,by simp⟩
def unwL (st:SS τ dn):List Nat→List (Nat×SV τ dn)
 |[]=>st.t
 |i::r=>match st.gt i with
  |some (.vg _ _ v)=>(i,v)::unwL st r
  |_=>unwL st r
def SS.unw (st:SS τ dn) (ss:List Nat):SS τ dn:=⟨st.rt,st.rm,unwL st ss,st.m,st.nx⟩
def unwO (st:SS τ dn) (e:Cn):List Nat→List Prop
 |[]=>[]
 |i::r=>match st.gt i with
  |some (.vg p c _)=>(e.tf true→c.tf p)::unwO st e r
  |_=>unwO st e r
theorem unw_ok (R:RelAt D N st σ g) {e:Cn} (he:e.den=true) {ss:List Nat} (h:∀p,p∈unwO st e ss→p):RelAt D N (st.unw ss) σ g:=by
 refine ⟨?_,R.rs,R.bl,R.rb,R.ar⟩
 show ∀i v,getS (unwL st ss) i=some v→σ i=v.av D.toTE N
 have et:=(Cn.tf_iff e true).2 he
 induction ss with
 |nil=>exact R.sl
 |cons j r ih=>
  simp only [unwL]
  simp only [unwO] at h
  split
  ·rename_i p c v hj
   rw [hj] at h
   simp only [List.mem_cons,forall_eq_or_imp] at h
   intro i w hw
   rw [getS_cons] at hw
   by_cases hi:i=j
   ·rw [if_pos hi,Option.some.injEq] at hw
    subst hw;subst hi
    rw [R.gt hj,SV.av,if_pos ((Cn.tf_iff c p).1 (h.1 et))]
   ·rw [if_neg hi] at hw;exact ih h.2 i w hw
  ·rename_i hj
   have:unwO st e (j::r)=unwO st e r:=by
    simp only [unwO]
   refine ih ?_
   intro p hp
   refine h p ?_
   split
   ·rename_i q c v hq;exact absurd hq (hj _ _ _)
   ·exact hp
def unG (c:Cn) (b:Bool):SV τ dn→List Prop×SV τ dn
 | .vg p c' v=>([c.tf b→c'.tf p],v)
 |v=>([],v)
theorem unG_ok {c:Cn} {b:Bool} {v:SV τ dn} (hc:c.den=b) (h:∀p,p∈(unG c b v).1→p):v.av D.toTE N=(unG c b v).2.av D.toTE N:=by
 unfold unG at h ⊢
 split
 ·rename_i p c' v
  simp only [List.mem_singleton,forall_eq] at h
  rw [SV.av,if_pos ((Cn.tf_iff c' p).1 (h ((Cn.tf_iff c b).2 hc)))]
 ·rfl
def iteS (c:Cn):SV τ dn→SV τ dn→Option (SV τ dn)
 | .vt true, .vt true=>some (.vt true)
 | .vt false, .vt false=>some (.vt false)
 | .vt true, .vt false=>some (.vb c)
 | .vt false, .vt true=>some (.vb (.not c))
 | .vb x, .vt false=>some (.vb (.and c x))
 | .vb x, .vt true=>some (.vb (.or (.not c) x))
 | .vt true, .vb y=>some (.vb (.or c y))
 | .vt false, .vb y=>some (.vb (.and (.not c) y))
 | .vb x, .vb y=>some (.vb (.or (.and c x) (.and (.not c) y)))
 |_,_=>none
theorem iteS_ok {c:Cn} {a b v:SV τ dn} (h:iteS c a b=some v):v.av D.toTE N=if c.den=true then a.av D.toTE N else b.av D.toTE N:=by
 unfold iteS at h
 split at h<;>simp only [Option.some.injEq,reduceCtorEq] at h<;>subst h<;>cases hc:c.den<;>simp [SV.av,Cn.den,hc]
def oPick (st:SS τ dn) (c a b:Arg):Option (SR τ dn):=
 match st.ev c with
 |some (.vt true)=>(st.ev a).map (.val [])
 |some (.vt false)=>(st.ev b).map (.val [])
 |some (.vb cc)=>match st.ev a,st.ev b with
  |some va,some vb=>(iteS cc (unG cc true va).2 (unG cc false vb).2).map (.val ((unG cc true va).1++(unG cc false vb).1))
  |_,_=>none
 |_=>none
theorem oPick_ok (R:RelAt D N st σ g) {c a b:Arg} {r:SR τ dn} (h:oPick st c a b=some r):r.Good D N st.nx σ g (.pick c a b)∧r.may D N st:=by
 unfold oPick at h
 split at h
 ·rename_i hc
  simp only [Option.map_eq_some_iff] at h;obtain ⟨v,hv,rfl⟩:=h
  refine ⟨fun k hO hf=> ?_,trivial⟩
  simp only [AO.sem,R.ev hc,SV.av,if_true,R.ev hv,RM.run,SR.v,SR.ups]
 ·rename_i hc
  simp only [Option.map_eq_some_iff] at h;obtain ⟨v,hv,rfl⟩:=h
  refine ⟨fun k hO hf=> ?_,trivial⟩
  simp only [AO.sem,R.ev hc,SV.av,Bool.false_eq_true,if_false,R.ev hv,RM.run,SR.v,SR.ups]
 ·rename_i cc hc
  split at h
  ·rename_i va vb ha hb
   simp only [Option.map_eq_some_iff] at h;obtain ⟨v,hv,rfl⟩:=h
   refine ⟨fun k hO hf=> ?_,trivial⟩
   simp only [SR.O,List.mem_append] at hO
   simp only [AO.sem,R.ev hc,SV.av,RM.run,SR.v,SR.ups,iteS_ok hv,R.ev ha,R.ev hb]
   cases hcc:cc.den with
   |true=>simp only [if_true];rw [←unG_ok hcc fun p hp=>hO p (.inl hp)]
   |false=>simp only [Bool.false_eq_true,if_false];rw [←unG_ok hcc fun p hp=>hO p (.inr hp)]
  ·simp at h
 ·simp at h
variable [DecidableEq τ]
def sxp (D:TD τ dn) (st:SS τ dn) (ao:AO):Option (SR τ dn):=
 match ao with
 | .pick c a b=>oPick st c a b
 |ao=>bif ao.lk.any st.rwa then sxR D st ao else sx D st ao
theorem sxR_may {ao:AO} {r:SR τ dn} (h:sxR D st ao=some r) (hO:∀p,p∈r.O→p):r.may D N st:=by
 have rput:∀{O:List Prop} {v:SV τ dn} {t:τ} {A:List (Nat×List (dn t))} {q:Row (dn t)} {row:List (dn t)},st.arA t=some A→st.rw 0=true→q.mine A→(SR.rput O v q.id t row A).may D N st:=fun hA hw hm=>by
  obtain ⟨⟨B1,h4⟩,h5⟩:=rw_may hw
  have:=arA_gm hA
  have h6:=gm_m h4
  rw [h6] at this
  simp only [Option.some.injEq] at this;subst this
  exact ⟨h4,h5,hm.2.1⟩
 cases ao<;>simp only [sxR,reduceCtorEq] at h
 case store n x y=>
  split at h
  case h_2=>simp at h
  rename_i t q i o b hx hy
  split at h
  case h_2=>simp at h
  rename_i A hA
  split at h
  case isFalse=>simp at h
  rename_i hc
  split at h
  case h_2=>simp at h
  simp only [Option.some.injEq] at h;subst h
  exact rput hA hc.2.2.1 (hO _ (List.mem_cons_self ..))
 case cpy sz x y=>
  split at h
  case h_2=>simp at h
  rename_i t q b hx' hy
  split at h
  case h_2=>simp at h
  rename_i A O t' ys hA hsrc
  split at h
  case isFalse=>simp at h
  rename_i ht
  subst ht
  split at h
  case isFalse=>simp at h
  rename_i hs
  simp only [Option.some.injEq] at h;subst h
  simp only [SR.O,List.mem_append,List.mem_singleton] at hO
  exact rput hA hs.2 (hO _ (.inr rfl))
 all_goals refine isV_may ?_
 case len s x=>
  cases s with
  |true=>simp at h
  |false=>
   simp only at h
   split at h
   case h_2=>simp at h
   split at h
   case h_2=>simp at h
   simp only [Option.some.injEq] at h;subst h;rfl
 case iad sz x y=>
  split at h
  case h_2=>simp at h
  split at h
  case h_2=>simp at h
  split at h
  case isFalse=>simp at h
  simp only [Option.some.injEq] at h;subst h;rfl
 all_goals repeat' split at h
 all_goals first|(simp at h;done)|(simp only [Option.some.injEq] at h;subst h;rfl)|(simp only [Option.map_eq_some_iff] at h;obtain ⟨_,_,rfl⟩:=h;rfl)
theorem sxp_ok (ok:TDok D) (R:RelAt D N st σ g) {ao:AO} {r:SR τ dn} (h:sxp D st ao=some r) (hO:∀p,p∈r.O→p):r.Good D N st.nx σ g ao∧r.may D N st:=by
 unfold sxp at h
 split at h
 ·exact oPick_ok R h
 ·cases hb:(ao.lk.any st.rwa) with
  |true=>rw [hb,cond_true] at h;exact ⟨sxR_ok ok R h,sxR_may h hO⟩
  |false=>rw [hb,cond_false] at h;exact ⟨sx_ok ok R h,sx_may R h⟩
end
section
variable {τ:Type} {dn:τ→Type} {D:TD τ dn} {N:Nms} {st:SS τ dn} {σ:Nat→AV} {g:Nat→Option Bk}
def SV.pu1:SV τ dn→Bool
 | .vi _| .vn _| .vy _| .vu _| .vw _ _| .vb _| .vt _| .vz _| .vo _| .emp| .vl _ _| .vc _ _| .pim _ _| .dead=>true
 | .fn _ cs=>cs.isEmpty
 |_=>false
theorem pu1_av {v:SV τ dn} (h:v.pu1=true):(v.av D.toTE N).pu1=true:=by
 cases v<;>simp [SV.pu1] at h<;>simp [SV.av,AV.pu1]
 subst h;rfl
def snapRw [DecidableEq τ] (D:TD τ dn) (st:SS τ dn) (t:τ) (r:Row (dn t)):Option (List Prop×SV τ dn):=match st.arA t with
 |some A=>bif D.pu t then some ([r.ok A,r.kd≠ .nil], .vl t (r.get A)) else none
 |none=>none
def snap1S (D:TD τ dn) (st:SS τ dn):SV τ dn→Option (SV τ dn)
 | .own nm sz=>match st.cont D sz (.own nm sz) with
  |some (.ty t xs)=>bif D.pu t then some (.vl t xs) else none
  |some (.li els)=>bif els.all (fun cs=>cs.all SV.pu1) then some (.vc sz els) else none
  |none=>none
 | .ref nm sz i o=>match st.gm nm with
  |some (.bc q els)=>if q=sz then (match els[i]? with
   |some cs=>bif cs.all SV.pu1 then some (.pim cs o) else none
   |none=>none) else none
  |_=>none
 |v=>bif v.pu1 then some v else none
theorem all_pu1 {cs:List (SV τ dn)} (h:cs.all SV.pu1=true):(cs.map (SV.av D.toTE N)).all AV.pu1=true:=by
 simp only [List.all_eq_true,List.mem_map] at h ⊢
 rintro _ ⟨v,hv,rfl⟩;exact pu1_av (h v hv)
theorem snap1S_ok (ok:TDok D) (R:RelAt D N st σ g) {v w:SV τ dn} (h:snap1S D st v=some w):(snap1 (v.av D.toTE N)).run g=some (w.av D.toTE N):=by
 have other:∀{v:SV τ dn},(bif v.pu1 then some v else none)=some w→(∀a,a=v.av D.toTE N→snap1 a=if a.pu1=true then .ret a else .fail)→(snap1 (v.av D.toTE N)).run g=some (w.av D.toTE N):=by
  intro v h h2
  cases hp:v.pu1 with
  |false=>rw [hp] at h;simp at h
  |true=>
   rw [hp,cond_true,Option.some.injEq] at h;subst h
   rw [h2 _ rfl,if_pos (pu1_av hp)];rfl
 cases v with
 |own nm sz=>
  simp only [snap1S] at h
  have ea:(((SV.own nm sz:SV τ dn).av D.toTE N)= .own (N.ι nm) sz 0 (N.ln nm)):=rfl
  split at h
  ·rename_i t xs hc
   obtain ⟨c1,c2⟩:=cont_ok R hc
   cases hp:D.pu t with
   |false=>rw [hp] at h;simp at h
   |true=>
    rw [hp,cond_true,Option.some.injEq] at h;subst h
    have hz:=c2 t xs rfl
    rw [ea] at c1 ⊢
    simp only [snap1]
    rw [run_bindS c1]
    have hall:((xs.map (D.ea N.ρ t)).all fun cs=>cs.all AV.pu1)=true:=by
     simp only [List.all_eq_true,List.mem_map]
     rintro _ ⟨y,_,rfl⟩
     have:=ok.pu1 N t y hp
     simpa [List.all_eq_true] using this
    simp only [Ct.els,hall,if_true,RM.run,SV.av,hz]
  ·rename_i els hc
   obtain ⟨c1,c2⟩:=cont_ok R hc
   cases hp:els.all (fun cs=>cs.all SV.pu1) with
   |false=>rw [hp] at h;simp at h
   |true=>
    rw [hp,cond_true,Option.some.injEq] at h;subst h
    rw [ea] at c1 ⊢
    simp only [snap1]
    rw [run_bindS c1]
    have hall:((els.map fun cs=>cs.map (SV.av D.toTE N)).all fun cs=>cs.all AV.pu1)=true:=by
     simp only [List.all_eq_true,List.mem_map]
     rintro _ ⟨cs,hcs,rfl⟩
     have h1:=(List.all_eq_true.1 hp) cs hcs
     have:=all_pu1 (D:=D) (N:=N) h1
     simpa [List.all_eq_true] using this
    simp only [Ct.els,SV.avM_map,hall,if_true,RM.run,SV.av]
  ·simp at h
 |ref nm sz i o=>
  simp only [snap1S] at h
  split at h
  ·rename_i q els hB
   split at h
   ·rename_i hq
    split at h
    ·rename_i cs hcs
     cases hp:cs.all SV.pu1 with
     |false=>rw [hp] at h;simp at h
     |true=>
      rw [hp,cond_true,Option.some.injEq] at h;subst h
      have g1:=(R.gm hB).1
      simp only [SV.av,snap1,RM.run,g1,SB.av,hq,if_true,SV.avM_map,List.getElem?_map,hcs,Option.map_some,all_pu1 hp,SV.avL_map]
    ·simp at h
   ·simp at h
  ·simp at h
 |_=>first
  |exact other h fun a ha=>by subst ha;rfl
  |(simp [snap1S,SV.pu1] at h)
def snapLS (D:TD τ dn) (st:SS τ dn):List (SV τ dn)→Option (List (SV τ dn))
 |[]=>some []
 |v::r=>match snap1S D st v,snapLS D st r with
  |some x,some l=>some (x::l)
  |_,_=>none
theorem snapLS_ok (ok:TDok D) (R:RelAt D N st σ g):∀{vs ws:List (SV τ dn)},snapLS D st vs=some ws→(snapL (vs.map (SV.av D.toTE N))).run g=some (ws.map (SV.av D.toTE N))
 |[],ws,h=>by simp only [snapLS,Option.some.injEq] at h;subst h;rfl
 |v::r,ws,h=>by
  simp only [snapLS] at h
  split at h
  ·rename_i x l h1 h2
   simp only [Option.some.injEq] at h;subst h
   simp only [List.map_cons,snapL]
   rw [run_bindS (snap1S_ok ok R h1),run_bindS (snapLS_ok ok R h2)];rfl
  ·simp at h
def snapAS (D:TD τ dn) (st:SS τ dn):SV τ dn→Option (SV τ dn)
 | .agg cs=>(snapLS D st cs).map .agg
 | .fn f cs=>(snapLS D st cs).map (.fn f)
 | .bf f cs=>(snapLS D st cs).map (.bf f)
 |v=>snap1S D st v
theorem snapAS_ok (ok:TDok D) (R:RelAt D N st σ g) {v w:SV τ dn} (h:snapAS D st v=some w):(snapA (v.av D.toTE N)).run g=some (w.av D.toTE N):=by
 cases v with
 |agg cs=>
  simp only [snapAS,Option.map_eq_some_iff] at h;obtain ⟨l,hl,rfl⟩:=h
  simp only [SV.av,SV.avL_map,snapA]
  rw [run_bindS (snapLS_ok ok R hl)];rfl
 |fn f cs=>
  simp only [snapAS,Option.map_eq_some_iff] at h;obtain ⟨l,hl,rfl⟩:=h
  simp only [SV.av,SV.avL_map,snapA]
  rw [run_bindS (snapLS_ok ok R hl)];rfl
 |bf f cs=>
  simp only [snapAS,Option.map_eq_some_iff] at h;obtain ⟨l,hl,rfl⟩:=h
  simp only [SV.av,SV.avL_map,snapA]
  rw [run_bindS (snapLS_ok ok R hl)];rfl
 |vg p c v=>simp [snapAS,snap1S,SV.pu1] at h
 |rw t r=>simp [snapAS,snap1S,SV.pu1] at h
 |rwp t r i o=>simp [snapAS,snap1S,SV.pu1] at h
 |_=>
  simp only [snapAS] at h
  exact snap1S_ok ok R h
def snapMS (D:TD τ dn) (st:SS τ dn):List (SV τ dn)→Option (List (SV τ dn))
 |[]=>some []
 |v::r=>match snapAS D st v,snapMS D st r with
  |some x,some l=>some (x::l)
  |_,_=>none
theorem snapMS_ok (ok:TDok D) (R:RelAt D N st σ g):∀{vs ws:List (SV τ dn)},snapMS D st vs=some ws→(snapAs (vs.map (SV.av D.toTE N))).run g=some (ws.map (SV.av D.toTE N))
 |[],ws,h=>by simp only [snapMS,Option.some.injEq] at h;subst h;rfl
 |v::r,ws,h=>by
  simp only [snapMS] at h
  split at h
  ·rename_i x l h1 h2
   simp only [Option.some.injEq] at h;subst h
   simp only [List.map_cons,snapAs]
   rw [run_bindS (snapAS_ok ok R h1),run_bindS (snapMS_ok ok R h2)];rfl
  ·simp at h
variable [DecidableEq τ]
def snapAO (D:TD τ dn) (st:SS τ dn):SV τ dn→Option (List Prop×SV τ dn)
 | .rw t r=>snapRw D st t r
 |v=>(snapAS D st v).map fun w=>([],w)
theorem snapAO_ok (ok:TDok D) (R:RelAt D N st σ g) {v w:SV τ dn} {O:List Prop} (h:snapAO D st v=some (O,w)) (hO:∀p,p∈O→p):(snapA (v.av D.toTE N)).run g=some (w.av D.toTE N):=by
 have other:∀{v:SV τ dn},((snapAS D st v).map fun w=>(([]:List Prop),w))=some (O,w)→(snapA (v.av D.toTE N)).run g=some (w.av D.toTE N):=fun h=>by
  simp only [Option.map_eq_some_iff,Prod.mk.injEq] at h
  obtain ⟨c',h1,_,rfl⟩:=h
  exact snapAS_ok ok R h1
 cases v with
 |rw t r=>
  simp only [snapAO,snapRw] at h
  split at h
  ·rename_i A hA
   cases hp:D.pu t with
   |false=>rw [hp] at h;simp at h
   |true=>
    rw [hp,cond_true] at h
    simp only [Option.some.injEq,Prod.mk.injEq] at h
    obtain ⟨rfl,rfl⟩:=h
    simp only [List.mem_cons,List.not_mem_nil,or_false,forall_eq_or_imp,forall_eq] at hO
    cases hk:r.kd with
    |nil=>exact absurd hk hO.2
    |lst=>simp only [SV.av,hk,snapA,snap1,AV.pu1,if_true,RM.run,row_lst hk]
    |own=>
     obtain ⟨e1,e2,e3⟩:=row_own R hA hO.1 hk
     have c1:(content (D.sz t) (.own r.id (D.sz t) 0 r.n)).run g=some ((r.get A).map (D.ea N.ρ t)):=by
      simp only [content,RM.run,e3,e2,Nat.zero_add,List.length_map,Nat.le_refl,and_self,if_true,List.drop_zero]
      rw [List.take_of_length_le (by simp)]
     simp only [SV.av,hk,snapA,snap1]
     rw [run_bindS c1]
     have hall:(((r.get A).map (D.ea N.ρ t)).all fun cs=>cs.all AV.pu1)=true:=by
      simp only [List.all_eq_true,List.mem_map]
      rintro _ ⟨y,_,rfl⟩
      have:=ok.pu1 N t y hp
      simpa [List.all_eq_true] using this
     simp only [hall,if_true,RM.run]
  ·simp at h
 |_=>exact other h
def snapMO (D:TD τ dn) (st:SS τ dn):List (SV τ dn)→Option (List Prop×List (SV τ dn))
 |[]=>some ([],[])
 |v::r=>match snapAO D st v,snapMO D st r with
  |some (O,x),some (O',l)=>some (O++O',x::l)
  |_,_=>none
theorem snapMO_ok (ok:TDok D) (R:RelAt D N st σ g):∀{vs ws:List (SV τ dn)} {O:List Prop},snapMO D st vs=some (O,ws)→(∀p,p∈O→p)→(snapAs (vs.map (SV.av D.toTE N))).run g=some (ws.map (SV.av D.toTE N))
 |[],ws,O,h,hO=>by simp only [snapMO,Option.some.injEq,Prod.mk.injEq] at h;obtain ⟨_,rfl⟩:=h;rfl
 |v::r,ws,O,h,hO=>by
  simp only [snapMO] at h
  split at h
  ·rename_i O1 x O2 l h1 h2
   simp only [Option.some.injEq,Prod.mk.injEq] at h
   obtain ⟨rfl,rfl⟩:=h
   simp only [List.map_cons,snapAs]
   rw [run_bindS (snapAO_ok ok R h1 fun p hp=>hO p (List.mem_append_left _ hp)),run_bindS (snapMO_ok ok R h2 fun p hp=>hO p (List.mem_append_right _ hp))];rfl
  ·simp at h
end
open Go.RowKit
section
variable {τ:Type} {dn:τ→Type}
inductive Pt (τ:Type) where
 |ty (t:τ)
 |ptr (t:τ)
 |fnc (f:FuncId) (cs:List (Bool×τ))
abbrev CD (dn:τ→Type):List (Bool×τ)→Type
 |[]=>Unit
 |p::r=>dn p.2×CD dn r
abbrev Pt.T (dn:τ→Type):Pt τ→Type
 | .ty t=>dn t
 | .ptr t=>dn t
 | .fnc _ cs=>CD dn cs
abbrev PD (dn:τ→Type):List (Pt τ)→Type
 |[]=>Unit
 |p::r=>p.T dn×PD dn r
abbrev RD (dn:τ→Type):List τ→Type
 |[]=>Unit
 |[t]=>dn t
 |t::s::r=>dn t×RD dn (s::r)
variable (D:TD τ dn) {N:Nms}
def TD.en (t:τ) (x:dn t):SV τ dn:=bif D.ag t then .agg (D.es t x) else (D.es t x).headD .dead
def deV (t:τ) (v:SV τ dn):Option (dn t):=bif D.ag t then (match v with
 | .agg cs=>D.ds t cs
 |_=>none) else D.ds t [v]
def encC:(cs:List (Bool×τ))→CD dn cs→List (SV τ dn)
 |[],_=>[]
 |(false,t)::r,x=>D.en t x.1::encC r x.2
 |(true,t)::r,x=> .pim (D.es t x.1) 0::encC r x.2
def decP1 (t:τ):SV τ dn→Option (dn t)
 | .pim cs 0=>bif cs.all SV.ne then D.ds t cs else none
 |_=>none
def decC:(cs:List (Bool×τ))→List (SV τ dn)→Option (CD dn cs)
 |[],[]=>some ()
 |(false,t)::r,v::l=>bif v.cells.all SV.ne then (match deV D t v,decC r l with
  |some x,some y=>some (x,y)
  |_,_=>none) else none
 |(true,t)::r,v::l=>match decP1 D t v,decC r l with
  |some x,some y=>some (x,y)
  |_,_=>none
 |_,_=>none
def Pt.enc:(p:Pt τ)→p.T dn→SV τ dn
 | .ty t,x=>D.en t x
 | .ptr t,x=> .pim (D.es t x) 0
 | .fnc f cs,x=> .fn f (encC D cs x)
def Pt.dec:(p:Pt τ)→SV τ dn→Option (p.T dn)
 | .ty t,v=>deV D t v
 | .ptr t,v=>decP1 D t v
 | .fnc f cs, .fn f' l=>bif Nat.beq f f' then decC D cs l else none
 | .fnc _ _,_=>none
def encP:(ps:List (Pt τ))→PD dn ps→List (SV τ dn)
 |[],_=>[]
 |p::r,x=>p.enc D x.1::encP r x.2
def decP:(ps:List (Pt τ))→List (SV τ dn)→Option (PD dn ps)
 |[],[]=>some ()
 |p::r,v::l=>match p.dec D v,decP r l with
  |some x,some y=>some (x,y)
  |_,_=>none
 |_,_=>none
def enR:(rs:List τ)→RD dn rs→List (SV τ dn)
 |[],_=>[]
 |[t],x=>[D.en t x]
 |t::s::r,x=>D.en t x.1::enR (s::r) x.2
def deR:(rs:List τ)→List (SV τ dn)→Option (RD dn rs)
 |[],[]=>some ()
 |[t],[v]=>deV D t v
 |t::s::r,v::l=>match deV D t v,deR (s::r) l with
  |some x,some y=>some (x,y)
  |_,_=>none
 |_,_=>none
def oneS:List (SV τ dn)→SV τ dn
 |[v]=>v
 |l=> .tup l
end
section
variable {τ:Type} {dn:τ→Type} {D:TD τ dn} {N:Nms}
theorem aleL_one {a:AV} {l:List AV} (h:AleL [a] l):∃b,l=[b]∧Ale a b:=by
 cases h with
 |cons h t=>cases t;exact ⟨_,rfl,h⟩
theorem en_ag {t:τ} {x:dn t} (h:D.ag t=true):D.en t x= .agg (D.es t x):=by unfold TD.en;rw [h];rfl
theorem en_one (ok:TDok D) {t:τ} {x:dn t} (h:D.ag t=false) {b:AV} (hb:D.ea N.ρ t x=[b]):(D.en t x).av D.toTE N=b:=by
 unfold TD.en
 rw [h,cond_false]
 have:=ok.es_av N t x
 rw [hb] at this
 cases he:D.es t x with
 |nil=>rw [he] at this;simp at this
 |cons v r=>rw [he] at this;simp at this;rw [List.headD_cons];exact this.1
theorem deV_le (ok:TDok D) {t:τ} {v:SV τ dn} {x:dn t} (h:deV D t v=some x):Ale (v.av D.toTE N) ((D.en t x).av D.toTE N):=by
 unfold deV at h
 cases ha:D.ag t with
 |true=>
  rw [ha,cond_true] at h
  split at h
  ·rw [en_ag ha,SV.av,SV.av,SV.avL_map,SV.avL_map,ok.es_av]
   exact Ale.agg (ok.ds_le N t _ _ h)
  ·simp at h
 |false=>
  rw [ha,cond_false] at h
  obtain ⟨b,hb,hle⟩:=aleL_one (ok.ds_le N t _ _ h)
  rw [en_one ok ha hb];exact hle
theorem deV_eq (ok:TDok D) {t:τ} {v:SV τ dn} {x:dn t} (h:deV D t v=some x) (hn:v.cells.all SV.ne=true):v.av D.toTE N=(D.en t x).av D.toTE N:=by
 unfold deV at h
 cases ha:D.ag t with
 |true=>
  rw [ha,cond_true] at h
  split at h
  ·rw [en_ag ha,SV.av,SV.av,SV.avL_map,SV.avL_map,ok.es_av,ok.ds_ne N t _ _ h hn]
  ·simp at h
 |false=>
  rw [ha,cond_false] at h
  have hn':[v].all SV.ne=true:=by
   cases v<;>first|exact hn|rfl
  have:=ok.ds_ne N t _ _ h hn'
  rw [en_one ok ha (b:=v.av D.toTE N) this.symm]
theorem decP1_eq (ok:TDok D) {t:τ} {v:SV τ dn} {x:dn t} (h:decP1 D t v=some x):v.av D.toTE N=(SV.pim (D.es t x) 0:SV τ dn).av D.toTE N:=by
 unfold decP1 at h
 split at h
 ·rename_i cs
  cases hn:cs.all SV.ne with
  |false=>rw [hn] at h;simp at h
  |true=>
   rw [hn,cond_true] at h
   rw [SV.av,SV.av,SV.avL_map,SV.avL_map,ok.es_av,ok.ds_ne N t _ _ h hn]
 ·simp at h
theorem decC_eq (ok:TDok D):∀{cs:List (Bool×τ)} {l:List (SV τ dn)} {x:CD dn cs},decC D cs l=some x→SV.avL D.toTE N l=SV.avL D.toTE N (encC D cs x)
 |[],[],x,h=>rfl
 |[],v::l,x,h=>by simp [decC] at h
 |(false,t)::r,[],x,h=>by simp [decC] at h
 |(true,t)::r,[],x,h=>by simp [decC] at h
 |(false,t)::r,v::l,x,h=>by
  simp only [decC] at h
  cases hn:v.cells.all SV.ne with
  |false=>rw [hn] at h;simp at h
  |true=>
   rw [hn,cond_true] at h
   split at h
   ·rename_i a b h1 h2
    simp only [Option.some.injEq] at h;subst h
    simp only [SV.avL,encC,deV_eq ok h1 hn,decC_eq ok h2]
   ·simp at h
 |(true,t)::r,v::l,x,h=>by
  simp only [decC] at h
  split at h
  ·rename_i a b h1 h2
   simp only [Option.some.injEq] at h;subst h
   simp only [SV.avL,encC,decP1_eq ok h1,decC_eq ok h2]
  ·simp at h
theorem dec_le (ok:TDok D) {p:Pt τ} {v:SV τ dn} {x:p.T dn} (h:p.dec D v=some x):Ale (v.av D.toTE N) ((p.enc D x).av D.toTE N):=by
 cases p with
 |ty t=>exact deV_le ok h
 |ptr t=>exact Ale.of_eq (decP1_eq ok h)
 |fnc f cs=>
  cases v<;>simp only [Pt.dec,reduceCtorEq] at h
  rename_i f' l
  cases hb:Nat.beq f f' with
  |false=>rw [hb] at h;simp at h
  |true=>
   rw [hb,cond_true] at h
   have:=Nat.eq_of_beq_eq_true hb
   subst this
   exact Ale.of_eq (by simp only [SV.av,Pt.enc,decC_eq ok h])
theorem decP_le (ok:TDok D):∀{ps:List (Pt τ)} {l:List (SV τ dn)} {x:PD dn ps},decP D ps l=some x→AleL (l.map (SV.av D.toTE N)) ((encP D ps x).map (SV.av D.toTE N))
 |[],[],x,h=> .nil
 |[],v::l,x,h=>by simp [decP] at h
 |p::r,[],x,h=>by simp [decP] at h
 |p::r,v::l,x,h=>by
  simp only [decP] at h
  split at h
  ·rename_i a b h1 h2
   simp only [Option.some.injEq] at h;subst h
   exact .cons (dec_le ok h1) (decP_le ok h2)
  ·simp at h
theorem deR_le (ok:TDok D):∀{rs:List τ} {l:List (SV τ dn)} {x:RD dn rs},deR D rs l=some x→AleL (l.map (SV.av D.toTE N)) ((enR D rs x).map (SV.av D.toTE N))
 |[],[],x,h=> .nil
 |[],v::l,x,h=>by simp [deR] at h
 |[t],[],x,h=>by simp [deR] at h
 |[t],[v],x,h=> .cons (deV_le ok h) .nil
 |[t],v::w::l,x,h=>by simp [deR] at h
 |t::s::r,[],x,h=>by simp [deR] at h
 |t::s::r,v::l,x,h=>by
  simp only [deR] at h
  split at h
  ·rename_i a b h1 h2
   simp only [Option.some.injEq] at h;subst h
   exact .cons (deV_le ok h1) (deR_le ok h2)
  ·simp at h
theorem oneS_av (l:List (SV τ dn)):(oneS l).av D.toTE N=one1 (l.map (SV.av D.toTE N)):=by
 match l with
 |[]=>rfl
 |[v]=>rfl
 |v::w::r=>simp only [oneS,SV.av,SV.avL_map];rfl
theorem one1_le {a b:List AV} (h:AleL a b):Ale (one1 a) (one1 b):=by
 cases h with
 |nil=>exact Ale.refl
 |cons h t=>
  cases t with
  |nil=>exact h
  |cons h2 t2=>exact Ale.tup (.cons h (.cons h2 t2))
def SV.nob0:SV τ dn→Bool
 | .vi _| .vn _| .vy _| .vu _| .vw _ _| .vb _| .vt _| .vz _| .vo _=>true
 |_=>false
theorem nob0_av {E:TE τ dn} {N:Nms} {v:SV τ dn} (h:v.nob0=true):(v.av E N).nob1=true:=by
 cases v<;>simp [SV.nob0] at h<;>simp [SV.av,AV.nob1]
structure Con (τ:Type) (dn:τ→Type) where
 f:FuncId
 ps:List (Pt τ)
 pre:PD dn ps→Prop
 rs:List τ
 res:PD dn ps→RD dn rs
def Con.val (D:TD τ dn) (c:Con τ dn) (x:PD dn c.ps):SV τ dn:=oneS (enR D c.rs (c.res x))
def Con.Ok (P:Program) (D:TD τ dn) (c:Con τ dn):Prop:=callable P c.f=true∧∀(x:PD dn c.ps) (N:Nms),c.pre x→Fn P c.f ((encP D c.ps x).map (SV.av D.toTE N)) ((c.val D x).av D.toTE N)
theorem fo_args {P:Program} {f:FuncId} {as_ as':List AV} {sz:Nat} {els:List (List AV)} (h:Fo P f as_ sz els) (ha:AleL as' as_):Fo P f as' sz els:=fun w J vs hJ hG hrc=>
 h w J vs hJ hG ⟨hrc.1.trans ha.get.1,fun i u c hu hc=>let ⟨a,h1,h2⟩:=ha.get.2 i c hc;h2 _ _ (hrc.2 i u a hu h1)⟩
structure ConO (τ:Type) (dn:τ→Type) where
 f:FuncId
 ps:List (Pt τ)
 pre:PD dn ps→Prop
 t:τ
 res:PD dn ps→List (dn t)
def ConO.Ok (P:Program) (D:TD τ dn) (c:ConO τ dn):Prop:=(callable P c.f=true∧∀x:dn c.t,(D.es c.t x).all (fun v=>v.nob0)=true)∧∀(x:PD dn c.ps) (N:Nms),c.pre x→Fo P c.f ((encP D c.ps x).map (SV.av D.toTE N)) (D.sz c.t) ((c.res x).map (D.ea N.ρ c.t))
theorem en_two {D D':TD τ dn} (h2:D.es=D'.es) (h3:D.ag=D'.ag) (t:τ) (x:dn t):D.en t x=D'.en t x:=by unfold TD.en;rw [h2,h3]
theorem encC_two {D D':TD τ dn} (h2:D.es=D'.es) (h3:D.ag=D'.ag):∀(cs:List (Bool×τ)) (x:CD dn cs),encC D cs x=encC D' cs x
 |[],_=>rfl
 |(false,t)::r,x=>by simp only [encC,en_two h2 h3,encC_two h2 h3 r x.2]
 |(true,t)::r,x=>by simp only [encC,h2,encC_two h2 h3 r x.2]
theorem encP_two {D D':TD τ dn} (h2:D.es=D'.es) (h3:D.ag=D'.ag):∀(ps:List (Pt τ)) (x:PD dn ps),encP D ps x=encP D' ps x
 |[],_=>rfl
 |p::r,x=>by
  have e:p.enc D x.1=p.enc D' x.1:=by
   cases p with
   |ty t=>exact en_two h2 h3 t _
   |ptr t=>simp only [Pt.enc,h2]
   |fnc f cs=>simp only [Pt.enc,encC_two h2 h3]
  simp only [encP,e,encP_two h2 h3 r x.2]
theorem enR_two {D D':TD τ dn} (h2:D.es=D'.es) (h3:D.ag=D'.ag):∀(rs:List τ) (x:RD dn rs),enR D rs x=enR D' rs x
 |[],_=>rfl
 |[t],x=>by simp only [enR,en_two h2 h3]
 |t::s::r,x=>by simp only [enR,en_two h2 h3,enR_two h2 h3 (s::r) x.2]
theorem Con.Ok.two {P:Program} {D D':TD τ dn} {c:Con τ dn} (h:c.Ok P D) (h1:D.toTE=D'.toTE) (h2:D.es=D'.es) (h3:D.ag=D'.ag):c.Ok P D':=by
 refine ⟨h.1,fun x N hp=> ?_⟩
 have:=h.2 x N hp
 unfold Con.val at this ⊢
 rwa [encP_two h2 h3,enR_two h2 h3,h1] at this
end
end Go.Proofs.Ytboaekdecndckaa
