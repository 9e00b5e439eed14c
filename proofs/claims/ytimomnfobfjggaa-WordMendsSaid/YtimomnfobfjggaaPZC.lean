/- What functions answer (contracts). No condition. -/
import Derived.Test.YtimomnfobfjggaaPZW
import Derived.WalkKit
import Derived.Handy
import Derived.ProofKit
import Derived.OpenShut
import Derived.ShutString
import Derived.ChangeOld
import Derived.Below
import Derived.Lib.Hide
import Derived.WalkLawsBesides
import Derived.WalkSpells
import Derived.Deep.QuietTactic
import Derived.BigQuiet
import Derived.Shelf.Strings.BuilderK
import Derived.BigCall
import Derived.Test.YtimomnfobfjggaaPZA
import Derived.Test.YtimomnfobfjggaaPZV
set_option linter.unusedSimpArgs false
set_option linter.unusedVariables false
set_option maxHeartbeats 4000000
set_option maxRecDepth 100000
namespace Go.Proofs.Ytimomnfobfjggaa
variable {E:Env} {i:Int} {bs:List Value} {b:Nat} {w:World}
open Go.ChangeShapes Go.WideShapes Go.ChangeAt Go.RowKit
open Go.ChangeMaps (open_string shut_string)
open Go.Shelf
def Er:Go.Shelf.Ren:=⟨fun|169=>15|n=>n,fun|70=>39|9=>9|0=>0|72=>41|37=>32|127=>49|3=>3|5=>5|n=>n,fun|n=>n⟩
theorem MO:Go.Proofs.Lays.n169 Try.prog Er:={
 mixed:=by kernel_rfl
 f169:=Try.func15.trans (congrArg some (by kernel_rfl))
 t0:=Try.underlying0
 a0:=Try.isAgg0
 z0:=Try.sizeOf0
 v0:=Try.zeroValue0
 t3:=Try.underlying3
 a3:=Try.isAgg3
 z3:=Try.sizeOf3
 v3:=Try.zeroValue3
 t9:=Try.underlying9
 a9:=Try.isAgg9
 z9:=Try.sizeOf9
 v9:=Try.zeroValue9
 t37:=Try.underlying32
 a37:=Try.isAgg32
 z37:=Try.sizeOf32
 v37:=Try.zeroValue32
 t70:=Try.underlying39
 a70:=Try.isAgg39
 z70:=Try.sizeOf39
 v70:=Try.zeroValue39
 t72:=Try.underlying41
 a72:=Try.isAgg41
 z72:=Try.sizeOf41
 v72:=Try.zeroValue41
 t127:=Try.underlying49
 a127:=Try.isAgg49
 z127:=Try.sizeOf49
 v127:=Try.zeroValue49 }
theorem vj:Builder.Extra Try.prog Er:={
 sizeBuilder:=by kernel_rfl
 liesBuilder:=by kernel_rfl
 t5:=Try.underlying5
 a5:=Try.isAgg5
 z5:=Try.sizeOf5
 v5:=Try.zeroValue5
 infoByte:=by kernel_rfl
 cellsByte:=by kernel_rfl
 sizeByte:=by kernel_rfl
 neB5:=by decide }
def Bd (B b:Nat) (bs:List Value) (w:World):Prop:=b<B/\∃p v,(p= .pointer none\/p= .pointer (some ⟨b,0,none⟩))/\w.heap[b]? =some (.cells #[p,v] 41 (0,0))/\w.ownsRowF B 5 1 v bs.length bs
structure Kp (B b:Nat) (w w':World):Prop where
 below:Below b w w'
 old:∀k,k<B->k≠b->w'.heap[k]? =w.heap[k]?
theorem MP (h0:w.cell? ⟨b,0,none⟩=some (.pointer (some ⟨b,0,none⟩))):Calls Try.prog 18 #[.pointer (some ⟨b,0,none⟩)] w fun e w'=>e= .returned (.tuple #[])/\w'=w:=by
 obtain ⟨j,hj,_⟩:=Ou.1 vj.sizeBuilder
 go_enter Try.func18,Try.ntmps18
 go_wp2
 rw [Lib.run_neq_ptr_same (te:=41) w _ Try.underlying39 hj]
 go_wp2
 go_end0
 exact ⟨rfl,rfl⟩
theorem MQ (h0:w.cell? ⟨b,0,none⟩=some (.pointer none)) (hsh:w.shape? b=some (41,2)) (hfz:w.frozen? ⟨b,0,none⟩=false):Calls Try.prog 18 #[.pointer (some ⟨b,0,none⟩)] w fun e w'=>e= .returned (.tuple #[])/\w'=w.setCell ⟨b,0,none⟩ (.pointer (some ⟨b,0,none⟩)):=by
 obtain ⟨j,hj,hjs⟩:=Ou.1 vj.sizeBuilder
 go_enter Try.func18,Try.ntmps18
 go_wp2
 rw [Lib.run_to_unsafe w ⟨b,0,none⟩ Try.underlying39 Try.underlying54 hj (by rw [hjs];decide) hsh (Nat.zero_lt_succ 1)]
 simp only [Result.andThen]
 rw [Oper.upon_value]
 go_wp2
 rw [run_callFunc_extern Try.func21 (by kernel_rfl) (by kernel_rfl) (by kernel_rfl) (e:=Extern.AbiNoEscape.same) (by kernel_rfl),Lib.run_noEscape]
 simp only [Result.andThen]
 rw [Oper.upon_value]
 go_wp2
 rw [Lib.run_from_unsafe w ⟨b,0,none⟩ Try.underlying54 Try.underlying39 hj hsh vj.liesBuilder]
 simp only [Result.andThen]
 rw [Oper.upon_value]
 go_wp2
 go_end0
 exact ⟨rfl,rfl⟩
theorem MR {B:Nat} (h:Bd B b bs w):Calls Try.prog 18 #[.pointer (some ⟨b,0,none⟩)] w fun e w'=>e= .returned (.tuple #[])/\(∃v,w'.heap[b]? =some (.cells #[.pointer (some ⟨b,0,none⟩),v] 41 (0,0))/\w'.ownsRowF B 5 1 v bs.length bs)/\Kp B b w w':=by
 obtain ⟨hB,p,v,hp,hb,ho⟩:=h
 rcases hp with rfl|rfl
 ·refine (MQ (by simp [World.cell?,hb]) (by simp [World.shape?,hb]) (by simp [World.frozen?,hb])).mono ?_
  rintro e w' ⟨rfl,rfl⟩
  refine ⟨rfl,⟨v,by simp [World.setCell,Array.getElem?_modify,hb],ho.kept (row:=some b) ⟨rfl,rfl,rfl,by simp [World.setCell],fun k _ hk=>Below.heap_setCell _ _ _ _ (fun e=>hk (by simp [e]))⟩ (.inr fun e=> ?_)⟩,⟨(OY b w).setCell (p:=⟨b,0,none⟩) (Ox _) _,fun k _ hk=>Below.heap_setCell _ _ _ _ (fun e=>hk (by simp [e]))⟩⟩
  have:=(ho.lt b e).1
  omega
 ·refine (MP (by simp [World.cell?,hb])).mono ?_
  rintro e w' ⟨rfl,rfl⟩
  exact ⟨rfl,⟨v,hb,ho⟩,⟨OY _ _,fun _ _ _=>rfl⟩⟩
theorem Kp.trans {B b:Nat} {w w' uM:World} (h:Kp B b w w') (k:Kp B b w' uM):Kp B b w uM:=⟨h.below.trans k.below,fun q h1 h2=>(k.old q h1 h2).trans (h.old q h1 h2)⟩
theorem MS:(Try.prog.info? 5).map (fun i=>(i.zero,i.size,i.bytes))=some (some (.int .u8 0),1,1):=by kernel_rfl
theorem Es {B:Nat} (c:Int) (h:Bd B b bs w) (hl:bs.length+1<=1000000) (hBw:B<=w.heap.size):Calls Try.prog 14 #[.pointer (some ⟨b,0,none⟩), .int .u8 c] w fun e w'=>e= .returned .nilIface/\Bd B b (bs++[.int .u8 c]) w'/\Kp B b w w':=by
 obtain ⟨i0,hi,hz0,hz1,hz2⟩:=info_parts MS
 have hbB:=h.1
 go_enter Try.func14,Try.ntmps14
 go_wp2_with (go_at_call 18;refine (MR h).mono ?_)
 rintro e w1 ⟨rfl,⟨v,hb,ho⟩,hk⟩
 have c0:w1.cell? ⟨b,0,none⟩=some (.pointer (some ⟨b,0,none⟩)):=by simp [World.cell?,hb]
 have c1:w1.cell? ⟨b,1,none⟩=some v:=by simp [World.cell?,hb]
 have hs1:=hk.below.size
 go_wp2_with (at_builtin;refine wpList_append_ownF _ rfl _ _ 32 rfl B 5 i0 (.int .u8 0) 1 1 Try.underlying32 hi hz0 hz1 hz2 rfl (by decide) _ _ _ rfl (ho.alloc _) ⟨w1.heap.size,0,none⟩ 1 1 [.int .u8 c] rfl rfl ?c1 ?c2 ?c3 ?c4 ?c5 ?_)
 case c1=>
  intro j u hj
  match j,hj with
  |0,hj=>simp at hj;subst hj;simp [Addr.add]
 case c2=>intro u hu;simp at hu;subst hu;rfl
 case c3=>unfold maxLen;omega
 case c4=>omega
 case c5=>simp;omega
 intro v' w2 ho2 hgr _
 have hne:v.ownBlock≠some b:=fun e=>by have:=(ho.lt b e).1;omega
 have hlt:b<w1.heap.size:=(OX.1 hb).1
 have hb2:w2.heap[b]? =some (.cells #[.pointer (some ⟨b,0,none⟩),v] 41 (0,0)):=by
  rw [hgr.block b (by simp;omega) (fun e=>hne e.symm)]
  exact (Pk w1 _ b hlt).trans hb
 have d0:w2.cell? ⟨b,0,none⟩=some (.pointer (some ⟨b,0,none⟩)):=by simp [World.cell?,hb2]
 have d1:w2.cell? ⟨b,1,none⟩=some v:=by simp [World.cell?,hb2]
 have f1:w2.frozen? ⟨b,1,none⟩=false:=by simp [World.frozen?,hb2]
 obtain ⟨g,cap,rfl,hg⟩:∃g cap,v'= .slice (some ⟨g,0,none⟩) (bs.length+1) cap/\B<=g:=by
  rcases ho2.2 with ⟨_,h0⟩|⟨g,cap,cur,fz,hv,hB,_⟩
  ·omega
  ·exact ⟨g,cap,hv,hB⟩
 have hsz2:=hgr.size
 simp only [World.size_alloc] at hsz2
 have hk2:Kp B b w1 w2:=by
  refine ⟨((OY b w1).alloc (by omega) _).grown hgr (by simp;omega) (fun k hk=>by have:=(ho.lt k hk).1;omega),fun k h1 h2=> ?_⟩
  rw [hgr.block k (by simp;omega) (fun e=>by have:=(ho.lt k e.symm).1;omega)]
  exact Pk w1 _ k (by omega)
 go_wp2
 go_ret
 refine ⟨rfl,⟨hbB,_, .slice (some ⟨g,0,none⟩) (bs.length+1) cap, .inr rfl,by simp [World.setCell,Array.getElem?_modify,hb2], ?_⟩,(hk.trans hk2).trans ⟨(OY b _).setCell (p:=⟨b,1,none⟩) (Ox _) _,fun k _ hk=>Below.heap_setCell _ _ _ _ (fun e=>hk (by simp [e]))⟩⟩
 rw [Pz]
 refine ho2.kept (row:=some b) ⟨rfl,rfl,rfl,by simp [World.setCell],fun k _ hk=>Below.heap_setCell _ _ _ _ (fun e=>hk (by simp [e]))⟩ (.inr fun e=> ?_)
 simp [Value.ownBlock] at e
 omega
theorem MT {B:Nat} {l:List UInt8} (h:Bd B b (Lib.byteCells l) w):Calls Try.prog 15 #[.pointer (some ⟨b,0,none⟩)] w fun e w'=>e= .returned (.string ⟨l.toArray⟩)/\Below b w w':=by
 obtain ⟨hB,p,v,hp,hb,ho⟩:=h
 have hlt:b<w.heap.size:=(OX.1 hb).1
 have hx:Lib.BuilderAtF 41 5 b b p (Lib.byteCells l) w:=⟨Ox _,v,hb,⟨ho.1,ho.2.imp id fun ⟨g,cap,cur,fz,e,hg,r⟩=>⟨g,cap,cur,fz,e,by omega,r⟩⟩,fun e=>by have:=(ho.lt b e).1;omega⟩
 refine (Any.Builder_String_any_k MO vj b b l w (by rcases hp with rfl|rfl;exact .inl hx;exact .inr hx) (by omega)).mono ?_
 rintro e w' ⟨rfl,_,hb2,_⟩
 exact ⟨rfl,hb2⟩
theorem MU (b:UInt8) (w:World):Calls Try.prog 6 #[.int .u8 b.toNat] w fun e w'=>e= .returned (.int .u16 (aL (b.toNat:Int)))/\Below w.heap.size w w':=
 (Em b w (fun _=>False) #[.int .u8 b.toNat] (fun _ h=>h.elim) trivial ⟨rfl,fun i v c hv hc=>by
  cases i with
  |zero=>simp at hv hc;subst hv;subst hc;exact .v rfl
  |succ i=>simp at hv⟩).mono fun e w' ⟨v,he,hr,hb⟩=>⟨he.trans (by rw [hr.iw]),hb⟩
theorem Bd.bL {B:Nat} {w':World} (h:Bd B b bs w) (hk:∀k,k<w.heap.size->w'.heap[k]? =w.heap[k]?):Bd B b bs w':=by
 obtain ⟨hB,p,v,hp,hb,ho⟩:=h
 refine ⟨hB,p,v,hp,(hk b (OX.1 hb).1).trans hb,ho.1,ho.2.imp id fun ⟨g,cap,cur,fz,e,hg,hc,r⟩=>⟨g,cap,cur,fz,e,hg,(hk g (OX.1 hc).1).trans hc,r⟩⟩
def vm (b:UInt8):List UInt8:=[UInt8.ofNat ((aL (b.toNat:Int)).toNat / 256),UInt8.ofNat (aL (b.toNat:Int)).toNat]
def ot (l:List UInt8):List UInt8:=l.flatMap vm
theorem Et (b:Int):0<=aL b/\aL b<65536:=by
 have hS:∀s n m w:Int,(0<=w/\w<65536)->0<=cj s n m w/\cj s n m w<65536:=fun s n m w h=>by
  unfold cj
  split
  ·exact h
  ·exact du _ _ _
 unfold aL
 split
 ·exact du _ _ _
 ·exact hS _ _ _ _ (hS _ _ _ _ (hS _ _ _ _ (hS _ _ _ _ (dW _))))
theorem Eu (l:List UInt8):(ot l).length=2*l.length:=by
 induction l with
 |nil=>rfl
 |cons a l ih=>show (vm a++ot l).length=_;rw [Pz,ih];simp [vm];omega
def dY (s:ByteArray):ByteArray×Int:=if 64<s.size then (⟨#[]⟩,2) else (⟨(ot s.data.toList).toArray⟩,0)
theorem MV (s:ByteArray) (w:World) (hs:s.size<=9223372036854775807):Calls Try.prog 9 #[.string s] w fun e w'=>e= .returned (.tuple #[.string (dY s).1, .int .i64 (dY s).2])/\Below w.heap.size w w':=by
 have hcv2:=fun w s=>run_bytes_of_string (P:=Try.prog) w 9 32 5 s Try.underlying9 Try.underlying32 Try.underlying5
 go_enter Try.func9,Try.ntmps9
 go_wp2
 ·rename_i h
  go_ret2
  unfold dY
  rw [Om (by omega)]
  exact ⟨rfl,OY _ _⟩
 ·have h64:(s.size:Int)<=64:=by assumption
  have hrow:∀j (hj:j<s.size),(bytesRow s (grownCap (w.alloc (.cells #[.pointer none, .slice none 0 0] 41)) s.size 0 5))[j]? =some (.int .u8 ((s.data[j]'hj).toNat:Int)):=fun j hj=>bytesRow_at s _ j hj
  generalize grownCap (w.alloc (.cells #[.pointer none, .slice none 0 0] 41)) s.size 0 5=cap at hrow ⊢
  go_loopw [14] (fun i wr=>∃k:Nat,i= .int .i64 (k:Int)/\k<=s.size/\Bd (w.heap.size+2) w.heap.size (Lib.byteCells (ot (s.data.toList.take k))) wr/\(∀j (hj:j<s.size),wr.cell? ⟨w.heap.size+1,j,none⟩=some (.int .u8 ((s.data[j]'hj).toNat:Int)))/\w.heap.size+2<=wr.heap.size/\Below w.heap.size w wr) (fun i wr=>s.size - (intOf i).toNat)
  case atStart=>
   refine ⟨0,rfl,Nat.zero_le _,⟨by omega, .pointer none, .slice none 0 0, .inl rfl, ?_,World.ownsRowF_nil _ _ _ _⟩,fun j hj=> ?_,by simp,(((OY _ w).alloc (Ox _) _).alloc (by simp) _).drew⟩
   ·exact (Pk _ _ _ (by simp)).trans (World.alloc_heap_new w _)
   ·have hsz:(w.alloc (.cells #[.pointer none, .slice none 0 0] 41)).heap.size=w.heap.size+1:=by simp
    rw [<-hrow j hj, <-hsz]
    exact World.cell?_alloc_mark _ _ _ _ _
  case round=>
   obtain ⟨k,rfl,hk,hB,hc,hsz,hbw⟩:=hrel
   by_cases hks:k<s.size
   ·have hck:=hc k hks
    have hlt:(k:Int)<s.size:=by omega
    go_wp2_with (go_at_call 6;refine (MU _ _).mono ?_)
    rintro e w1 ⟨rfl,b1⟩
    have hl:(s.data.toList.take k).length=k:=by rw [PG];show min k s.data.size=k;exact P2 hk
    have hsz1:=b1.size
    have hB1:=hB.bL fun q hq=>b1.block q hq
    go_wp2_with (go_at_call 14;refine (Es _ hB1 (by rw [Lib.byteCells_length,Eu,hl];omega) (by omega)).mono ?_)
    rintro e w2 ⟨rfl,hB2,k2⟩
    have hsz2:=k2.below.size
    go_wp2_with (go_at_call 14;refine (Es _ hB2 (by rw [Pz,Lib.byteCells_length,Eu,hl];simp;omega) (by omega)).mono ?_)
    rintro e w3 ⟨rfl,hB3,k3⟩
    have hsz3:=k3.below.size
    go_wp2
    go_roundw
    case rel=>
     refine ⟨k+1,by first|rfl|simp|omega,by omega, ?_,fun j hj=> ?_,by omega, ?_⟩
     ·have he:Lib.byteCells (ot (s.data.toList.take (k+1)))=Lib.byteCells (ot (s.data.toList.take k))++[Value.int IntKind.u8 (aL ↑s.data[k].toNat / 256%256)]++[Value.int IntKind.u8 (aL ↑s.data[k].toNat%256)]:=by
       have h0:=Et (s.data[k].toNat:Int)
       rw [List.take_succ_eq_append_getElem (by simpa using hks),ot,List.flatMap_append,Lib.byteCells_append,PF]
       congr 1
       simp [vm,Lib.byteCells]
       omega
      rw [he];exact hB3
     ·have hq:(w.heap.size+1)<wr.heap.size:=by omega
      have e1:=k3.old (w.heap.size+1) (by omega) (by omega)
      have e2:=k2.old (w.heap.size+1) (by omega) (by omega)
      have e3:=b1.block (w.heap.size+1) hq
      rw [<-hc j hj]
      unfold World.cell?
      simp only [e1,e2,e3]
     ·exact hbw.trans ((b1.mono (by omega)).trans (k2.below.trans k3.below))
    case measure=>simp only [intOf];omega
   ·have hlt:¬(k:Int)<s.size:=by omega
    go_wp2_with (go_at_call 15;refine (MT hB).mono ?_)
    rintro e w1 rfl b1
    go_wp2
    go_ret2
    have e:s.data.toList.take k=s.data.toList:=PO (by show s.data.toList.length<=k;simp;omega)
    rw [e]
    unfold dY
    rw [Ol (by omega)]
    exact ⟨rfl,hbw.trans b1⟩
open Go.RowKit
theorem MW:∀{vs:List Value} {ws:Array Value},RC E ws (vs.map AV.v)->ws=vs.toArray:=by
 intro vs ws h
 apply Array.ext
 ·simpa using h.1
 ·intro i h1 h2
  have h3:i<vs.length:=by simpa using h2
  have:=h.2 i ws[i] (.v vs[i]) (OE h1) (by rw [OM,OG h3];rfl)
  generalize hq:ws[i]=q at this
  generalize hp:vs[i]=p at this
  have e:q=p:=by cases this with|v h=>rfl
  rw [e, <-hp];simp
theorem MX {P:Program} {f:FuncId} {vs:List Value} {u:Value} {r:AV} (hr:∀E:Env,aj E u r) (h:∀w,Calls P f vs.toArray w fun e w'=>e= .returned u/\Below w.heap.size w w'):Fn P f (vs.map AV.v) r:=by
 intro w J ws hJ hG bG
 rw [MW bG]
 exact (h w).mono fun e w' ⟨h1,h2⟩=>⟨u,h1,hr _,h2⟩
theorem MY {a b:Value} (ha:plainV a=true) (hb:plainV b=true):aj E (.tuple #[a,b]) (.aK [.v a, .v b]):=by
 refine .aK rfl fun i v c hv hc=> ?_
 match i with
 |0=>simp at hv hc;subst hv;subst hc;exact .v ha
 |1=>simp at hv hc;subst hv;subst hc;exact .v hb
 |i+2=>simp at hc
theorem MZ (x y:Int):0<=bits BinOp.or IntKind.u8 x y/\bits BinOp.or IntKind.u8 x y<256:=by
 unfold bits
 show 0<=IntKind.u8.wrap _/\IntKind.u8.wrap _<256
 rw [IntKind.wrap_u8'];omega
theorem Ev (w:Int):0<=jl w/\jl w<256:=MZ _ _
theorem M1 (w:Int):0<=gi w/\gi w<256:=by
 have h1:=Ev w
 have h2:=Ev (dF w (synI w))
 unfold gi
 repeat' split
 all_goals omega
def b6 (w:Int):UInt8:=UInt8.ofNat (gi w).toNat
theorem Ew (w:Int):((b6 w).toNat:Int)=gi w:=by
 have:=M1 w
 unfold b6
 rw [UInt8.toNat_ofNat']
 omega
def zu:dt Tc Tc.dn:=⟨6,[.ty .iI],fun _=>True,[.cW],fun x=>aL (x.1.toNat:Int)⟩
theorem Ey:zu.Ok Try.prog tD:=⟨Bq,fun x N h=>Em x.1⟩
def vp:dt Tc Tc.dn:=⟨7,[.ty .cW],fun x=>(0:Int)<=x.1/\(x.1:Int)<65536,[.iI, .dN],fun x=>(b6 x.1,bp x.1)⟩
theorem zw:vp.Ok Try.prog tD:=⟨Bs,fun x N h=>by
 have:=MN x.1 h
 rw [<-Ew] at this
 exact this⟩
def zx:dt Tc Tc.dn:=⟨9,[.ty .lW],fun x=>ByteArray.size x.1<=9223372036854775807,[.lW, .dN],fun x=>dY x.1⟩
theorem Ez:zx.Ok Try.prog tD:=⟨Bv,fun x N h=>MX (vs:=[.string x.1]) (u:= .tuple #[.string (dY x.1).1, .int .i64 (dY x.1).2]) (fun _=>MY rfl rfl) fun w=>MV x.1 w h⟩
def jY (a b:UInt8):Int:=bits BinOp.or IntKind.u16 (IntKind.u16.wrap (IntKind.u16.wrap (a.toNat:Int)*2^min (uN (Int.toNat 8)).n IntKind.u16.bits)) (IntKind.u16.wrap (b.toNat:Int))
theorem EA (a b:UInt8):0<=jY a b/\jY a b<65536:=by unfold jY;exact du _ _ _
theorem zy (w:Int): -1<=bp w/\bp w<=1:=by
 unfold bp
 repeat' split
 all_goals omega
def pK (t:ByteArray) (i:Nat):Int:=jY (gb t (2*i)) (gb t (2*i+1))
def vq (t:ByteArray) (k:Nat):List UInt8:=(List.range k).map fun i=>b6 (pK t i)
def mV (t:ByteArray):Nat->Int
 |0=>0
 |k+1=>mV t k+bp (pK t k)
def vr (t:ByteArray) (k:Nat):Bool:=(List.range k).any fun i=>decide (bp (pK t i)<0)
def gO (t:ByteArray):ByteArray×Int×Int:=if 128<t.size then (⟨#[]⟩,0,2) else if ¬t.size%2=0 then (⟨#[]⟩,0,1) else if vr t (t.size / 2)=true then (⟨#[]⟩,0,5) else (⟨(vq t (t.size / 2)).toArray⟩,mV t (t.size / 2),0)
theorem EB (t:ByteArray):∀k:Nat, -(k:Int)<=mV t k/\mV t k<=k
 |0=>by unfold mV;omega
 |k+1=>by
  have h1:=EB t k
  have h2:=zy (pK t k)
  unfold mV;omega
structure eE (t:ByteArray) (i n:Int) (out:List UInt8):Prop where
 vA:t.size<=128
 ev:t.size%2=0
 lo:0<=i
 hi:i<=t.size
 e2:i%2=0
 ok:vr t (i.toNat / 2)=false
 n:n=mV t (i.toNat / 2)
 o:out=vq t (i.toNat / 2)
theorem eE.start {t:ByteArray} (h:(t.size:Int)<=128) (h2:(t.size:Int)%2=0):eE t 0 0 []:=⟨by omega,by omega,by omega,by omega,by omega,rfl,rfl,rfl⟩
theorem eE.bd {t:ByteArray} {i n:Int} {out:List UInt8} (h:eE t i n out):0<=i/\i<=128/\(i<t.size->i+1<t.size)/\out.length<=64/\ -64<=n/\n<=64:=by
 have h1:=h.vA;have h2:=h.ev;have h3:=h.lo;have h4:=h.hi;have h5:=h.e2
 have h6:=EB t (i.toNat / 2)
 have h7:out.length=i.toNat / 2:=by rw [h.o];simp [vq]
 have:=h.n
 omega
theorem eE.wd {t:ByteArray} {n:Int} {out:List UInt8} (h:eE t i n out):jY (gb t i.toNat) (gb t (i+1).toNat)=pK t (i.toNat / 2):=by
 have h3:=h.lo;have h5:=h.e2
 unfold pK
 rw [show 2*(i.toNat / 2)=i.toNat by omega,show (i+1).toNat=i.toNat+1 by omega]
theorem eE.bad {t:ByteArray} {i n:Int} {out:List UInt8} (h:eE t i n out) (hi:i<t.size) (hb:bp (jY (gb t i.toNat) (gb t (i+1).toNat))<0):((⟨#[]⟩:ByteArray),(0:Int),(5:Int))=gO t:=by
 have h1:=h.vA;have h2:=h.ev;have h3:=h.lo;have h5:=h.e2
 rw [h.wd] at hb
 unfold gO
 rw [Ol (by omega),Ol (by omega),Om]
 unfold vr
 rw [P6]
 exact ⟨i.toNat / 2,OZ.2 (by omega),by simpa using hb⟩
theorem eE.step {t:ByteArray} {i n:Int} {out:List UInt8} (h:eE t i n out) (hi:i<t.size) (hb:0<=bp (jY (gb t i.toNat) (gb t (i+1).toNat))):eE t (i+2) (n+bp (jY (gb t i.toNat) (gb t (i+1).toNat))) (out++[b6 (jY (gb t i.toNat) (gb t (i+1).toNat))]):=by
 have h1:=h.vA;have h2:=h.ev;have h3:=h.lo;have h5:=h.e2
 rw [h.wd] at hb ⊢
 have e:(i+2).toNat / 2=i.toNat / 2+1:=by omega
 refine ⟨h1,h2,by omega,by omega,by omega, ?_, ?_, ?_⟩
 ·have:=h.ok
  unfold vr at this ⊢
  rw [e,List.range_succ,List.any_append,this]
  simpa using hb
 ·rw [e,mV,h.n]
 ·rw [e,h.o];unfold vq;rw [List.range_succ,Po];rfl
theorem eE.fin {t:ByteArray} {i n:Int} {out:List UInt8} (h:eE t i n out) (hi:t.size<=i):((⟨(List.map id out).toArray⟩:ByteArray),n,(0:Int))=gO t:=by
 have h1:=h.vA;have h2:=h.ev;have h3:=h.lo;have h4:=h.hi
 have e:i.toNat=t.size:=by omega
 unfold gO
 rw [Ol (by omega),Ol (by omega),Ol (by rw [<-e,h.ok];simp),List.map_id,h.o,h.n,e]
def se (t:ByteArray) (i:Int) (n:Int) (out:(List UInt8)):Prop:=eE t i n out
def vB:dt Tc Tc.dn:=⟨10,[.ty .lW],fun x=>(fun (t:ByteArray)=>True) x.1,[.lW, .dN, .dN],fun x=>(fun (t:ByteArray)=>gO t) x.1⟩
theorem M3 (t:ByteArray):((128:Int)<(↑t.size:Int)->(ByteArray.mk #[],(0:Int),(2:Int))=gO t)/\((↑t.size:Int)<=(128:Int)->((0:Int)<=(↑t.size:Int)/\(2:Int)≠(0:Int))/\(¬(↑t.size:Int)%(2:Int)=(0:Int)->(ByteArray.mk #[],(0:Int),(1:Int))=gO t)/\((↑t.size:Int)%(2:Int)=(0:Int)->se t (0:Int) (0:Int) []/\∀(x jX:Int) (vC:List UInt8),se t x jX vC->(x<(↑t.size:Int)->((0:Int)<=x/\x<(↑t.size:Int))/\bT (x+(1:Int))/\((0:Int)<=x+(1:Int)/\x+(1:Int)<(↑t.size:Int))/\((0:Int)<=bits BinOp.or IntKind.u16 (IntKind.u16.wrap (IntKind.u16.wrap (↑(gb t x.toNat).toNat:Int)*(2:Int)^min (uN (Int.toNat (8:Int))).n IntKind.u16.bits)) (IntKind.u16.wrap (↑(gb t (x+(1:Int)).toNat).toNat:Int))/\bits BinOp.or IntKind.u16 (IntKind.u16.wrap (IntKind.u16.wrap (↑(gb t x.toNat).toNat:Int)*(2:Int)^min (uN (Int.toNat (8:Int))).n IntKind.u16.bits)) (IntKind.u16.wrap (↑(gb t (x+(1:Int)).toNat).toNat:Int))<(65536:Pt.T Tc.dn (Pt.ty Tc.cW)))/\(bp (bits BinOp.or IntKind.u16 (IntKind.u16.wrap (IntKind.u16.wrap (↑(gb t x.toNat).toNat:Int)*(2:Int)^min (uN (Int.toNat (8:Int))).n IntKind.u16.bits)) (IntKind.u16.wrap (↑(gb t (x+(1:Int)).toNat).toNat:Int)))<(0:Int)->(ByteArray.mk #[],(0:Int),(5:Int))=gO t)/\((0:Int)<=bp (bits BinOp.or IntKind.u16 (IntKind.u16.wrap (IntKind.u16.wrap (↑(gb t x.toNat).toNat:Int)*(2:Int)^min (uN (Int.toNat (8:Int))).n IntKind.u16.bits)) (IntKind.u16.wrap (↑(gb t (x+(1:Int)).toNat).toNat:Int)))->(vC.length+(1:Nat))*(1:Nat)<=(140737488355328:Nat)/\bT (jX+bp (bits BinOp.or IntKind.u16 (IntKind.u16.wrap (IntKind.u16.wrap (↑(gb t x.toNat).toNat:Int)*(2:Int)^min (uN (Int.toNat (8:Int))).n IntKind.u16.bits)) (IntKind.u16.wrap (↑(gb t (x+(1:Int)).toNat).toNat:Int))))/\bT (x+(2:Int))/\se t (x+(2:Int)) (jX+bp (bits BinOp.or IntKind.u16 (IntKind.u16.wrap (IntKind.u16.wrap (↑(gb t x.toNat).toNat:Int)*(2:Int)^min (uN (Int.toNat (8:Int))).n IntKind.u16.bits)) (IntKind.u16.wrap (↑(gb t (x+(1:Int)).toNat).toNat:Int)))) (vC++[b6 (bits BinOp.or IntKind.u16 (IntKind.u16.wrap (IntKind.u16.wrap (↑(gb t x.toNat).toNat:Int)*(2:Int)^min (uN (Int.toNat (8:Int))).n IntKind.u16.bits)) (IntKind.u16.wrap (↑(gb t (x+(1:Int)).toNat).toNat:Int)))])/\((↑t.size:Int) - (x+(2:Int))).toNat<((↑t.size:Int) - x).toNat))/\((↑t.size:Int)<=x->(ByteArray.mk (List.map id vC).toArray,jX,(0:Int))=gO t))):=by
 have h1:= @eE.start t
 have h2:= @eE.bd t
 have h3:= @eE.bad t
 have h4:= @eE.step t
 have h5:= @eE.fin t
 have h6:∀a b:UInt8,bits BinOp.or IntKind.u16 (IntKind.u16.wrap (IntKind.u16.wrap (a.toNat:Int)*2^min (uN (Int.toNat 8)).n IntKind.u16.bits)) (IntKind.u16.wrap (b.toNat:Int))=jY a b:=fun a b=>rfl
 have h7:=EA
 have h8:=zy
 have e1:128<(t.size:Int)->gO t=(⟨#[]⟩,0,2):=fun h=>by unfold gO;rw [Om (by omega)]
 have e2:(t.size:Int)<=128->¬(t.size:Int)%2=0->gO t=(⟨#[]⟩,0,1):=fun h h2=>by unfold gO;rw [Ol (by omega),Om (by omega)]
 simp only [h6]
 unfold se
 refine ⟨fun h=>(e1 h).symm,fun h=>⟨by omega,fun h2=>(e2 h h2).symm,fun s5=>⟨eE.start h s5,fun i n out hI=> ?_⟩⟩⟩
 have b:=hI.bd
 have hm:=zy (jY (gb t i.toNat) (gb t (i+1).toNat))
 clear e1 e2 h1 h2 h3 h4 h5 h6 h7 h8
 exact ⟨fun hi=>⟨by omega,by unfold bT;omega,by omega,EA _ _,fun hb=>hI.bad hi hb,fun hb=>⟨by omega,by unfold bT;omega,by unfold bT;omega,hI.step hi hb,by omega⟩⟩,hI.fin⟩
theorem EC:vB.Ok Try.prog tD:=pH lX (Δ:=[vp]) ⟨zw,trivial⟩ (Ω:=[]) trivial vB Bx By (fun _=>[]) (fun _=>trivial) 0 (fun x=>(fun (t:ByteArray)=>(fun k=>bif Nat.beq k 0 then some (.inv [.sl 7 .dN, .sl 6 .dN, .ow 5 .iI] (fun zo zv=>(fun (i:Int) (n:Int) (out:(List UInt8))=>se t i n out) zv.1 zv.2.1 zv.2.2.1) (fun zo zv=>(fun (i:Int) (n:Int) (out:(List UInt8))=>((t.size:Int) - i).toNat) zv.1 zv.2.1 zv.2.2.1)) else none)) x.1) fun x hp=>Eq.mp (by kernel_rfl) (M3 x.1)
open Go.RowKit
def ik (w:Nat):Nat:=Nat.xor (Nat.xor (Nat.xor (Nat.xor (Nat.xor (Nat.xor (Nat.xor (Nat.xor (Nat.xor (Nat.xor (Nat.xor (Nat.xor (Nat.mul (Nat.mod w 2) 0) (Nat.mul (Nat.mod (Nat.div w 2) 2) 1)) (Nat.mul (Nat.mod (Nat.div w 4) 2) 2)) (Nat.mul (Nat.mod (Nat.div w 8) 2) 3)) (Nat.mul (Nat.mod (Nat.div w 16) 2) 4)) (Nat.mul (Nat.mod (Nat.div w 32) 2) 5)) (Nat.mul (Nat.mod (Nat.div w 64) 2) 6)) (Nat.mul (Nat.mod (Nat.div w 128) 2) 7)) (Nat.mul (Nat.mod (Nat.div w 256) 2) 8)) (Nat.mul (Nat.mod (Nat.div w 512) 2) 9)) (Nat.mul (Nat.mod (Nat.div w 1024) 2) 10)) (Nat.mul (Nat.mod (Nat.div w 2048) 2) 11)) (Nat.mul (Nat.mod (Nat.div w 4096) 2) 12)
def parF (w:Nat):Nat:=Nat.mod (Nat.add (Nat.mod w 2) (Nat.add (Nat.mod (Nat.div w 2) 2) (Nat.add (Nat.mod (Nat.div w 4) 2) (Nat.add (Nat.mod (Nat.div w 8) 2) (Nat.add (Nat.mod (Nat.div w 16) 2) (Nat.add (Nat.mod (Nat.div w 32) 2) (Nat.add (Nat.mod (Nat.div w 64) 2) (Nat.add (Nat.mod (Nat.div w 128) 2) (Nat.add (Nat.mod (Nat.div w 256) 2) (Nat.add (Nat.mod (Nat.div w 512) 2) (Nat.add (Nat.mod (Nat.div w 1024) 2) (Nat.add (Nat.mod (Nat.div w 2048) 2) (Nat.add (Nat.mod (Nat.div w 4096) 2) (Nat.add (Nat.mod (Nat.div w 8192) 2) (Nat.add (Nat.mod (Nat.div w 16384) 2) (Nat.mod (Nat.div w 32768) 2)))))))))))))))) 2
def vD (w:Nat):Nat:=Nat.add (Nat.mul (Nat.mod (Nat.div w 8) 2) 1) (Nat.add (Nat.mul (Nat.mod (Nat.div w 32) 2) 2) (Nat.add (Nat.mul (Nat.mod (Nat.div w 64) 2) 4) (Nat.add (Nat.mul (Nat.mod (Nat.div w 128) 2) 8) (Nat.add (Nat.mul (Nat.mod (Nat.div w 512) 2) 16) (Nat.add (Nat.mul (Nat.mod (Nat.div w 1024) 2) 32) (Nat.add (Nat.mul (Nat.mod (Nat.div w 2048) 2) 64) (Nat.mul (Nat.mod (Nat.div w 4096) 2) 128)))))))
def jZ (w:Nat):Nat:=bif Nat.beq (parF w) 1 then (bif Nat.ble 13 (ik w) then 2 else 1) else (bif Nat.beq (ik w) 0 then 0 else 2)
def pL (w:Nat):Nat:=bif Nat.beq (parF w) 1 then vD (Nat.xor w (Nat.pow 2 (ik w))) else vD w
def M4 (b:Nat):Nat:=Nat.add (Nat.mul (Nat.mod b 2) 8) (Nat.add (Nat.mul (Nat.mod (Nat.div b 2) 2) 32) (Nat.add (Nat.mul (Nat.mod (Nat.div b 4) 2) 64) (Nat.add (Nat.mul (Nat.mod (Nat.div b 8) 2) 128) (Nat.add (Nat.mul (Nat.mod (Nat.div b 16) 2) 512) (Nat.add (Nat.mul (Nat.mod (Nat.div b 32) 2) 1024) (Nat.add (Nat.mul (Nat.mod (Nat.div b 64) 2) 2048) (Nat.mul (Nat.mod (Nat.div b 128) 2) 4096)))))))
def vE (b:Nat):Nat:=Nat.xor (Nat.xor (Nat.xor (Nat.xor (Nat.xor (Nat.xor (Nat.xor (Nat.mul (Nat.mod b 2) 3) (Nat.mul (Nat.mod (Nat.div b 2) 2) 5)) (Nat.mul (Nat.mod (Nat.div b 4) 2) 6)) (Nat.mul (Nat.mod (Nat.div b 8) 2) 7)) (Nat.mul (Nat.mod (Nat.div b 16) 2) 9)) (Nat.mul (Nat.mod (Nat.div b 32) 2) 10)) (Nat.mul (Nat.mod (Nat.div b 64) 2) 11)) (Nat.mul (Nat.mod (Nat.div b 128) 2) 12)
def EE (b:Nat):Nat:=Nat.add (M4 b) (Nat.add (Nat.mul (Nat.mod (vE b) 2) 2) (Nat.add (Nat.mul (Nat.mod (Nat.div (vE b) 2) 2) 4) (Nat.add (Nat.mul (Nat.mod (Nat.div (vE b) 4) 2) 16) (Nat.mul (Nat.mod (Nat.div (vE b) 8) 2) 256))))
def fE (b:Nat):Nat:=Nat.add (EE b) (parF (EE b))
def mW (p:Nat->Bool):Nat->Bool
 |0=>true
 |n+1=>p n&&mW p n
theorem pM {p:Nat->Bool}:∀{n:Nat},mW p n=true->∀i,i<n->p i=true
 |0,_,i,hi=>by omega
 |n+1,h,i,hi=>by
  unfold mW at h
  rw [On] at h
  by_cases e:i=n
  ·rw [e];exact h.1
  ·exact pM h.2 i (by omega)
theorem M5:mW (fun b=>decide (aL (b:Int)=(fE b:Int))) 256=true:=by decide+kernel
def EF (b w:Nat):Bool:=Nat.beq (pL w) b&&(Nat.beq (jZ w) 0&&mW (fun i=>Nat.beq (pL (Nat.xor w (Nat.pow 2 i))) b&&(Nat.beq (jZ (Nat.xor w (Nat.pow 2 i))) 1&&mW (fun k=>Nat.beq (jZ (Nat.xor (Nat.xor w (Nat.pow 2 i)) (Nat.pow 2 k))) 2) i)) 13)
theorem M6:mW (fun b=>EF b (fE b)) 256=true:=by decide+kernel
open Go.RowKit
theorem iJ (w p:Nat):gh w (p+1)=Nat.xor (gh w p) (Nat.mul (Nat.mod (Nat.div w (2^p)) 2) p):=by
 show (if w / 2^p%2=1 then gh w p^^^p else gh w p)=gh w p^^^(w / 2^p%2*p)
 by_cases h:w / 2^p%2=1
 ·rw [Om h,h,Nat.one_mul]
 ·rw [Ol h,show w / 2^p%2=0 by omega,Nat.zero_mul,Nat.xor_zero]
theorem EG (w:Nat):gh w 13=ik w:=by
 have e0:gh w 1=Nat.mul (Nat.mod w 2) 0:=by
  rw [iJ]
  show 0^^^(w / 2^0%2*0)=w%2*0
  simp
 rw [iJ,iJ,iJ,iJ,iJ,iJ,iJ,iJ,iJ,iJ,iJ,iJ,e0]
 rfl
theorem EH (a b:Nat):Nat.div a b=a / b:=rfl
theorem EI (a b:Nat):Nat.mod a b=a%b:=rfl
theorem EJ (a b:Nat):Nat.add a b=a+b:=rfl
theorem M7 (a b:Nat):Nat.mul a b=a*b:=rfl
theorem EK (n:Nat):kI 8 n=n%2+n / 2%2+n / 4%2+n / 8%2+n / 16%2+n / 32%2+n / 64%2+n / 128%2:=by
 simp only [kI,Nat.div_div_eq_div_mul,Nat.reduceMul,Pd,Nat.add_assoc]
theorem ou (w k:Nat) (h:k ∣ 256) (h2:2*k ∣ 256):w%256 / k%2=w / k%2:=by
 obtain ⟨m,hm⟩:=h2
 have e:256=k*(2*m):=by rw [hm,PH 2 k,Nat.mul_assoc]
 rw [e,Nat.mod_mul_right_div_self,Nat.mod_mul_right_mod]
theorem M8 (w:Nat):lY w%2=parF w:=by
 unfold parF lY
 simp only [EH,EI,EJ]
 rw [EK,EK]
 simp only [Nat.div_div_eq_div_mul,Nat.reduceMul]
 have h1:w%256%2=w%2:=by omega
 rw [h1,ou w 2 (by decide) (by decide),ou w 4 (by decide) (by decide),ou w 8 (by decide) (by decide),ou w 16 (by decide) (by decide),ou w 32 (by decide) (by decide),ou w 64 (by decide) (by decide),ou w 128 (by decide) (by decide)]
 congr 1
 ac_rfl
theorem EM (w:Nat):odW (w:Int)=Nat.beq (parF w) 1:=by
 unfold odW
 rw [Pl,M8,PR,Pn,Nat.beq_eq]
theorem EN (w:Nat):synI (w:Int)=(ik w:Int):=by unfold synI;rw [Pl,EG]
theorem M9 (w:Nat):ik w<16:=by rw [<-EG];exact zm w 13 (by omega)
def Na (n:Nat):Int:=if n=2 then -1 else (n:Int)
theorem zA {w:Nat} (h:w<8192):bp (w:Int)=Na (jZ w):=by
 unfold bp jZ
 rw [Ol (by omega),EM,EN]
 cases hp:Nat.beq (parF w) 1 with
 |true=>
  rw [Om rfl,Oq]
  by_cases hs:13<=ik w
  ·rw [Ol (by omega),Nat.ble_eq_true_of_le hs];rfl
  ·rw [Om (by omega),show Nat.ble 13 (ik w)=false by rw [Qc];intro hh;exact hs (O3 hh)];rfl
 |false=>
  rw [Ol (by simp),OH]
  by_cases hs:ik w=0
  ·rw [Om (by omega),hs];rfl
  ·rw [Ol (by omega),show Nat.beq (ik w) 0=false by rw [Qc];intro hh;exact hs (Oy hh)];rfl
theorem mX {w o i p:Nat} (hw:w<65536) (ho:o<2^i) (hi:i<8) (hp:p<16):ae (w:Int) (o:Int) (i:Int) (p:Int)=((o+w / 2^p%2*2^i:Nat):Int):=by
 unfold ae
 rw [Pl,Pl,show min p IntKind.u16.bits=p by show min p 16=p;omega,show min i IntKind.u8.bits=i by show min i 8=i;omega,zn (by omega),Pl,Ee (Qd (Nat.div_le_self _ _) hw),IntKind.wrap_u8',IntKind.wrap_u8']
 have h2:2^i<=2^7:=Nat.pow_le_pow_right (by omega) (by omega)
 have h3:w / 2^p%2<2:=Nat.mod_lt _ (by omega)
 have h4:w / 2^p%2*2^i<=1*2^i:=OP _ (by omega)
 have e:(((w / 2^p%2:Nat):Int)%256*2^i)%256=((w / 2^p%2*2^i:Nat):Int):=by
  have a1:((w / 2^p%2:Nat):Int)%256=((w / 2^p%2:Nat):Int):=Int.emod_eq_of_lt (by omega) (by omega)
  have:((w / 2^p%2:Nat):Int)*2^i=((w / 2^p%2*2^i:Nat):Int):=by rw [Int.natCast_mul];simp
  rw [a1,this]
  exact Int.emod_eq_of_lt (by omega) (by omega)
 rw [e,u8_or_nat _ _ (by omega) (by omega),Nat.or_comm]
 congr 1
 rw [nat_join i _ _ (Nat.mul_mod_left _ _) ho,Nat.add_comm]
theorem EO {w:Nat} (hw:w<65536):jl (w:Int)=(vD w:Int):=by
 have b:∀p,w / 2^p%2<2:=fun p=>Nat.mod_lt _ (by omega)
 have e1:=mX (o:=0) (i:=0) (p:=3) hw (by decide) (by omega) (by omega)
 have e2:=mX (i:=1) (p:=5) (o:=0+w / 2^3%2*2^0) hw (by have:=b 3;omega) (by omega) (by omega)
 have e3:=mX (i:=2) (p:=6) (o:=0+w / 2^3%2*2^0+w / 2^5%2*2^1) hw (by have:=b 3;have:=b 5;omega) (by omega) (by omega)
 have e4:=mX (i:=3) (p:=7) (o:=0+w / 2^3%2*2^0+w / 2^5%2*2^1+w / 2^6%2*2^2) hw (by have:=b 3;have:=b 5;have:=b 6;omega) (by omega) (by omega)
 have e5:=mX (i:=4) (p:=9) (o:=0+w / 2^3%2*2^0+w / 2^5%2*2^1+w / 2^6%2*2^2+w / 2^7%2*2^3) hw (by have:=b 3;have:=b 5;have:=b 6;have:=b 7;omega) (by omega) (by omega)
 have e6:=mX (i:=5) (p:=10) (o:=0+w / 2^3%2*2^0+w / 2^5%2*2^1+w / 2^6%2*2^2+w / 2^7%2*2^3+w / 2^9%2*2^4) hw (by have:=b 3;have:=b 5;have:=b 6;have:=b 7;have:=b 9;omega) (by omega) (by omega)
 have e7:=mX (i:=6) (p:=11) (o:=0+w / 2^3%2*2^0+w / 2^5%2*2^1+w / 2^6%2*2^2+w / 2^7%2*2^3+w / 2^9%2*2^4+w / 2^10%2*2^5) hw (by have:=b 3;have:=b 5;have:=b 6;have:=b 7;have:=b 9;have:=b 10;omega) (by omega) (by omega)
 have e8:=mX (i:=7) (p:=12) (o:=0+w / 2^3%2*2^0+w / 2^5%2*2^1+w / 2^6%2*2^2+w / 2^7%2*2^3+w / 2^9%2*2^4+w / 2^10%2*2^5+w / 2^11%2*2^6) hw (by have:=b 3;have:=b 5;have:=b 6;have:=b 7;have:=b 9;have:=b 10;have:=b 11;omega) (by omega) (by omega)
 have e:jl (w:Int)=ae w (ae w (ae w (ae w (ae w (ae w (ae w (ae w ((0:Nat):Int) ((0:Nat):Int) ((3:Nat):Int)) ((1:Nat):Int) ((5:Nat):Int)) ((2:Nat):Int) ((6:Nat):Int)) ((3:Nat):Int) ((7:Nat):Int)) ((4:Nat):Int) ((9:Nat):Int)) ((5:Nat):Int) ((10:Nat):Int)) ((6:Nat):Int) ((11:Nat):Int)) ((7:Nat):Int) ((12:Nat):Int):=rfl
 rw [e,e1,e2,e3,e4,e5,e6,e7,e8]
 congr 1
 unfold vD
 simp only [EH,EI,EJ,M7,Nat.reducePow,OF,Nat.add_assoc]
theorem zB {w s:Nat} (hw:w<65536) (hs:s<16):dF (w:Int) (s:Int)=((Nat.xor w (Nat.pow 2 s):Nat):Int):=by
 have h2:2^s<=2^15:=Nat.pow_le_pow_right (by omega) (by omega)
 have e:IntKind.u16.wrap (1*2^(min (Int.toNat (s:Int)) IntKind.u16.bits))=((2^s:Nat):Int):=by
  rw [Pl,show min s IntKind.u16.bits=s by show min s 16=s;omega,IntKind.wrap_u16,Int.one_mul,show ((2:Int)^s)=((2^s:Nat):Int) by simp]
  exact Int.emod_eq_of_lt (Int.natCast_nonneg _) (Int.ofNat_lt.2 (Qd h2 (by decide)))
 unfold dF
 rw [e,u16_xor_nat _ _ hw (by omega)]
 rfl
theorem EP {w:Nat} (h:w<8192) (hm:jZ w≠2):gi (w:Int)=(pL w:Int):=by
 unfold gi pL
 unfold jZ at hm
 rw [Ol (by omega),EM,EN]
 cases hp:Nat.beq (parF w) 1 with
 |true=>
  rw [hp,Oq] at hm
  rw [Om rfl,Oq]
  by_cases hs:13<=ik w
  ·rw [Nat.ble_eq_true_of_le hs] at hm;exact absurd rfl hm
  ·rw [Om (by omega),zB (by omega) (by omega)]
   refine EO ?_
   have:Nat.xor w (Nat.pow 2 (ik w))<2^16:=Nat.xor_lt_two_pow (n:=16) (by omega) (ON (Nat.pow_lt_pow_right (by omega) (M9 w)) (by decide))
   exact this
 |false=>
  rw [hp,OH] at hm
  rw [Ol (by simp),OH]
  by_cases hs:ik w=0
  ·rw [Om (by omega)];exact EO (by omega)
  ·rw [show Nat.beq (ik w) 0=false by rw [Qc];intro hh;exact hs (Oy hh)] at hm;exact absurd rfl hm
open Go.RowKit
theorem ER (b:UInt8):aL (b.toNat:Int)=(fE b.toNat:Int):=PE (pM M5 b.toNat b.toNat_lt)
theorem Nb:mW (fun b=>Nat.blt (fE b) 8192) 256=true:=by decide+kernel
theorem vF (b:UInt8):fE b.toNat<8192:=by
 have:=pM Nb b.toNat b.toNat_lt
 exact O3 this
theorem zC (b:UInt8):pL (fE b.toNat)=b.toNat/\jZ (fE b.toNat)=0/\∀i,i<13->pL (Nat.xor (fE b.toNat) (Nat.pow 2 i))=b.toNat/\jZ (Nat.xor (fE b.toNat) (Nat.pow 2 i))=1/\∀k,k<i->jZ (Nat.xor (Nat.xor (fE b.toNat) (Nat.pow 2 i)) (Nat.pow 2 k))=2:=by
 have h:=pM M6 b.toNat b.toNat_lt
 unfold EF at h
 simp only [On] at h
 obtain ⟨h1,h2,h3⟩:=h
 refine ⟨Oy h1,Oy h2,fun i hi=> ?_⟩
 have h4:=pM h3 i hi
 simp only [On] at h4
 obtain ⟨h5,h6,h7⟩:=h4
 exact ⟨Oy h5,Oy h6,fun k hk=>Oy (pM h7 k hk)⟩
theorem zD {w i:Nat} (hw:w<8192) (hi:i<13):Nat.xor w (Nat.pow 2 i)<8192:=
 Nat.xor_lt_two_pow (n:=13) hw (Nat.pow_lt_pow_right (by omega) hi)
theorem Nc {w:Int} (h:bp w<0):gi w=0/\bp w= -1:=by
 unfold bp at h ⊢
 unfold gi
 split at h
 ·rename_i h1;rw [Om h1,Om h1];exact ⟨rfl,rfl⟩
 ·rename_i h1
  rw [Ol h1,Ol h1]
  split at h
  ·rename_i h2
   rw [Om h2,Om h2]
   split at h
   ·omega
   ·rename_i h3;rw [Ol h3,Ol h3];exact ⟨rfl,rfl⟩
  ·rename_i h2
   rw [Ol h2,Ol h2]
   split at h
   ·omega
   ·rename_i h3;rw [Ol h3,Ol h3];exact ⟨rfl,rfl⟩
theorem zE {w:Int} {n:Nat} (h:gi w=(n:Int)):(b6 w).toNat=n:=by have:=Ew w;omega
theorem Nd (b:UInt8):b6 (aL (b.toNat:Int))=b/\bp (aL (b.toNat:Int))=0:=by
 obtain ⟨h1,h2,_⟩:=zC b
 have hl:=vF b
 rw [ER]
 refine ⟨UInt8.toNat_inj.1 (zE ?_),by rw [zA hl,h2];rfl⟩
 rw [EP hl (by omega),h1]
theorem ES (b:UInt8) (h0:0<=i) (h1:i<=12):dF (aL (b.toNat:Int)) i=((Nat.xor (fE b.toNat) (Nat.pow 2 i.toNat):Nat):Int):=by
 have hl:=vF b
 rw [ER]
 conv=>lhs;rw [<-Int.toNat_of_nonneg h0]
 exact zB (by omega) (by omega)
theorem Nf (b:UInt8) {i:Int} (h0:0<=i) (h1:i<=12):b6 (dF (aL (b.toNat:Int)) i)=b/\bp (dF (aL (b.toNat:Int)) i)=1:=by
 obtain ⟨_,_,h⟩:=zC b
 obtain ⟨h2,h3,_⟩:=h i.toNat (by omega)
 have hl:=zD (i:=i.toNat) (vF b) (by omega)
 rw [ES b h0 h1]
 refine ⟨UInt8.toNat_inj.1 (zE ?_),by rw [zA hl,h3];rfl⟩
 rw [EP hl (by omega),h2]
theorem Ng (b:UInt8) {i k:Int} (h0:0<=i) (h1:i<=12) (h2:0<=k) (h3:k<=12) (hn:¬i=k):bp (dF (dF (aL (b.toNat:Int)) i) k)= -1/\b6 (dF (dF (aL (b.toNat:Int)) i) k)=UInt8.ofNat (Int.toNat 0):=by
 obtain ⟨_,_,h⟩:=zC b
 have hl:=zD (i:=i.toNat) (vF b) (by omega)
 have oS:=zD (i:=k.toNat) hl (by omega)
 have e:dF (dF (aL (b.toNat:Int)) i) k=((Nat.xor (Nat.xor (fE b.toNat) (Nat.pow 2 i.toNat)) (Nat.pow 2 k.toNat):Nat):Int):=by
  rw [ES b h0 h1]
  conv=>lhs;rw [<-Int.toNat_of_nonneg h2]
  exact zB (by omega) (by omega)
 have hm:jZ (Nat.xor (Nat.xor (fE b.toNat) (Nat.pow 2 i.toNat)) (Nat.pow 2 k.toNat))=2:=by
  rcases O8 k.toNat i.toNat with hk|hk
  ·exact (h i.toNat (by omega)).2.2 k.toNat hk
  ·have:=(h k.toNat (by omega)).2.2 i.toNat (by omega)
   have hx:Nat.xor (Nat.xor (fE b.toNat) (Nat.pow 2 i.toNat)) (Nat.pow 2 k.toNat)=Nat.xor (Nat.xor (fE b.toNat) (Nat.pow 2 k.toNat)) (Nat.pow 2 i.toNat):=by
    show fE b.toNat^^^2^i.toNat^^^2^k.toNat=fE b.toNat^^^2^k.toNat^^^2^i.toNat
    rw [Nat.xor_assoc,Nat.xor_comm (2^i.toNat),Nat.xor_assoc]
   rw [hx];exact this
 have hd:bp (dF (dF (aL (b.toNat:Int)) i) k)= -1:=by rw [e,zA oS,hm];rfl
 exact ⟨hd,UInt8.toNat_inj.1 (zE (n:=0) (Nc (by omega)).1)⟩
def zF:dt Tc Tc.dn:=⟨8,[],fun _=>True,[.mQ],fun _=>true⟩
abbrev dZ:=(↑(UInt8.ofNat (Int.toNat (1:Int))).toNat:Int)
abbrev fF:=(bits BinOp.xor IntKind.u16 (aL dZ) (32:Int))
abbrev eo:=(gO (dY (ByteArray.mk #[(97:UInt8)])).fst)
abbrev kK:=(aL dZ=(15:Int)/\b6 fF=UInt8.ofNat (Int.toNat (1:Int)))
abbrev kL:=((kK/\bp fF=(1:Int))/\bp (bits BinOp.xor IntKind.u16 (aL dZ) (3:Int))=(-1:Int))
abbrev pN:=((kL/\(dY (ByteArray.mk #[(97:UInt8)])).snd=(0:Int))/\(↑(dY (ByteArray.mk #[(97:UInt8)])).fst.size:Int)=(2:Int))
abbrev l0:=(pN/\eo.fst=ByteArray.mk #[(97:UInt8)])
abbrev zG:=((kL/\(dY (ByteArray.mk #[(97:UInt8)])).snd=(0:Int))/\(↑(dY (ByteArray.mk #[(97:UInt8)])).fst.size:Int)=(2:Int)->(kL/\(dY (ByteArray.mk #[(97:UInt8)])).snd=(0:Int))/\(↑(dY (ByteArray.mk #[(97:UInt8)])).fst.size:Int)=(2:Int))
theorem Nh  :True/\((0:Int)<=bits BinOp.xor IntKind.u16 (aL dZ) (32:Int)/\bits BinOp.xor IntKind.u16 (aL dZ) (32:Int)<(65536:Pt.T Tc.dn (Pt.ty Tc.cW)))/\((0:Int)<=bits BinOp.xor IntKind.u16 (aL dZ) (3:Int)/\bits BinOp.xor IntKind.u16 (aL dZ) (3:Int)<(65536:Pt.T Tc.dn (Pt.ty Tc.cW)))/\(ByteArray.mk #[(97:UInt8)]).size<=(9223372036854775807:Nat)/\True/\True/\(aL dZ=(15:Int)->aL dZ=(15:Int))/\(aL dZ=(15:Int)->aL dZ=(15:Int))/\(aL dZ=(15:Int)/\b6 fF=UInt8.ofNat (Int.toNat (1:Int))->aL dZ=(15:Int)/\b6 fF=UInt8.ofNat (Int.toNat (1:Int)))/\(aL dZ=(15:Int)/\b6 fF=UInt8.ofNat (Int.toNat (1:Int))->aL dZ=(15:Int)/\b6 fF=UInt8.ofNat (Int.toNat (1:Int)))/\(kK/\bp fF=(1:Int)->kK/\bp fF=(1:Int))/\(kK/\bp fF=(1:Int)->kK/\bp fF=(1:Int))/\((kK/\bp fF=(1:Int))/\bp (bits BinOp.xor IntKind.u16 (aL dZ) (3:Int))=(-1:Int)->(kK/\bp fF=(1:Int))/\bp (bits BinOp.xor IntKind.u16 (aL dZ) (3:Int))=(-1:Int))/\((kK/\bp fF=(1:Int))/\bp (bits BinOp.xor IntKind.u16 (aL dZ) (3:Int))=(-1:Int)->(kK/\bp fF=(1:Int))/\bp (bits BinOp.xor IntKind.u16 (aL dZ) (3:Int))=(-1:Int))/\(kL/\(dY (ByteArray.mk #[(97:UInt8)])).snd=(0:Int)->kL/\(dY (ByteArray.mk #[(97:UInt8)])).snd=(0:Int))/\(kL/\(dY (ByteArray.mk #[(97:UInt8)])).snd=(0:Int)->kL/\(dY (ByteArray.mk #[(97:UInt8)])).snd=(0:Int))/\(kL/\(dY (ByteArray.mk #[(97:UInt8)])).snd=(0:Int)->kL/\(dY (ByteArray.mk #[(97:UInt8)])).snd=(0:Int))/\zG/\zG/\(pN/\eo.fst=ByteArray.mk #[(97:UInt8)]->pN/\eo.fst=ByteArray.mk #[(97:UInt8)])/\(pN/\eo.fst=ByteArray.mk #[(97:UInt8)]->pN/\eo.fst=ByteArray.mk #[(97:UInt8)])/\(l0/\eo.snd.fst=(0:Int)->l0/\eo.snd.fst=(0:Int))/\(l0/\eo.snd.fst=(0:Int)->l0/\eo.snd.fst=(0:Int))/\((l0/\eo.snd.fst=(0:Int))/\eo.snd.snd=(0:Int)->(l0/\eo.snd.fst=(0:Int))/\eo.snd.snd=(0:Int))/\((l0/\eo.snd.fst=(0:Int))/\eo.snd.snd=(0:Int)->(l0/\eo.snd.fst=(0:Int))/\eo.snd.snd=(0:Int))/\(aL dZ==(15:Int)&&b6 fF==UInt8.ofNat (Int.toNat (1:Int))&&bp fF==(1:Int)&&bp (bits BinOp.xor IntKind.u16 (aL dZ) (3:Int))==(-1:Int)&&(dY (ByteArray.mk #[(97:UInt8)])).snd==(0:Int)&&(↑(dY (ByteArray.mk #[(97:UInt8)])).fst.size:Int)==(2:Int)&&l5 eo.fst (ByteArray.mk #[(97:UInt8)])&&eo.snd.fst==(0:Int)&&eo.snd.snd==(0:Int)&&(gO (ByteArray.mk #[(120:UInt8)])).snd.snd==(1:Int))=true:=by
 delta zG pN kK eo fF l0 dZ kL
 (repeat' (first|apply And.intro|intro _))<;>first|assumption|exact True.intro|(decide+kernel)|trace_state
theorem Ni:zF.Ok Try.prog tD:=pH lX (Δ:=[zu,vp,zx,vB]) ⟨Ey,zw,Ez,EC,trivial⟩ (Ω:=[]) trivial zF Bt Bu (fun _=>[]) (fun _=>trivial) 0 (fun _=>fun _=>none) fun x hp=>Eq.mp (by kernel_rfl) (Nh )
def ET:dt Tc Tc.dn:=⟨3,[.ty .iI, .ty .dN, .ty .dN],fun x=>(fun (b:UInt8) (i:Int) (k:Int)=>True) x.1 x.2.1 x.2.2.1,[.mQ],fun x=>(fun (b:UInt8) (i:Int) (k:Int)=>true) x.1 x.2.1 x.2.2.1⟩
abbrev dv (b:UInt8) (i:Int):=(bits BinOp.xor IntKind.u16 (aL (↑b.toNat:Int)) (IntKind.u16.wrap ((1:Int)*(2:Int)^min i.toNat IntKind.u16.bits)))
abbrev ov (b:UInt8) (i:Int) (k:Int):=(bits BinOp.xor IntKind.u16 (dv b i) (IntKind.u16.wrap ((1:Int)*(2:Int)^min k.toNat IntKind.u16.bits)))
abbrev vG (i:Int) (k:Int):=((((0:Int)<=i/\i<=(12:Int))/\(0:Int)<=k)/\k<=(12:Int)->(((0:Int)<=i/\i<=(12:Int))/\(0:Int)<=k)/\k<=(12:Int))
theorem Nj (b:UInt8) (i:Int) (k:Int):True/\((0:Int)<=aL (↑b.toNat:Int)/\aL (↑b.toNat:Int)<(65536:Pt.T Tc.dn (Pt.ty Tc.cW)))/\True/\(true= !!true->true= !!true)/\(true= !!true->true= !!true)/\(true= !false->true= !!true)/\(true= !false/\b6 (aL (↑b.toNat:Int))=b->true= !false/\b6 (aL (↑b.toNat:Int))=b)/\(true= !false/\b6 (aL (↑b.toNat:Int))=b->true= !false/\b6 (aL (↑b.toNat:Int))=b)/\((true= !true\/¬b6 (aL (↑b.toNat:Int))=b)\/¬bp (aL (↑b.toNat:Int))=(0:Int)->false=true)/\((true= !false/\b6 (aL (↑b.toNat:Int))=b)/\bp (aL (↑b.toNat:Int))=(0:Int)->((0:Int)<=i->(0:Int)<=i)/\((0:Int)<=i->(0:Int)<=i)/\((0:Int)<=i/\i<=(12:Int)->(0:Int)<=i/\i<=(12:Int))/\((0:Int)<=i/\i<=(12:Int)->(0:Int)<=i/\i<=(12:Int))/\(((0:Int)<=i/\i<=(12:Int))/\(0:Int)<=k->((0:Int)<=i/\i<=(12:Int))/\(0:Int)<=k)/\(((0:Int)<=i/\i<=(12:Int))/\(0:Int)<=k->((0:Int)<=i/\i<=(12:Int))/\(0:Int)<=k)/\(vG i k)/\(vG i k)/\(vG i k)/\((((i<(0:Int)\/(12:Int)<i)\/k<(0:Int))\/(12:Int)<k)\/i=k->true=true)/\(((((0:Int)<=i/\i<=(12:Int))/\(0:Int)<=k)/\k<=(12:Int))/\¬i=k->(0:Int)<=i/\((0:Int)<=bits BinOp.xor IntKind.u16 (aL (↑b.toNat:Int)) (IntKind.u16.wrap ((1:Int)*(2:Int)^min i.toNat IntKind.u16.bits))/\bits BinOp.xor IntKind.u16 (aL (↑b.toNat:Int)) (IntKind.u16.wrap ((1:Int)*(2:Int)^min i.toNat IntKind.u16.bits))<(65536:Pt.T Tc.dn (Pt.ty Tc.cW)))/\(0:Int)<=i/\(0:Int)<=k/\((0:Int)<=bits BinOp.xor IntKind.u16 (dv b i) (IntKind.u16.wrap ((1:Int)*(2:Int)^min k.toNat IntKind.u16.bits))/\bits BinOp.xor IntKind.u16 (dv b i) (IntKind.u16.wrap ((1:Int)*(2:Int)^min k.toNat IntKind.u16.bits))<(65536:Pt.T Tc.dn (Pt.ty Tc.cW)))/\(b6 (dv b i)=b->b6 (dv b i)=b)/\(b6 (dv b i)=b->b6 (dv b i)=b)/\(b6 (dv b i)=b/\bp (dv b i)=(1:Int)->b6 (dv b i)=b/\bp (dv b i)=(1:Int))/\(b6 (dv b i)=b/\bp (dv b i)=(1:Int)->b6 (dv b i)=b/\bp (dv b i)=(1:Int))/\((b6 (dv b i)=b/\bp (dv b i)=(1:Int))/\b6 (ov b i k)=UInt8.ofNat (Int.toNat (0:Int))->(b6 (dv b i)=b/\bp (dv b i)=(1:Int))/\b6 (ov b i k)=UInt8.ofNat (Int.toNat (0:Int)))/\((b6 (dv b i)=b/\bp (dv b i)=(1:Int))/\b6 (ov b i k)=UInt8.ofNat (Int.toNat (0:Int))->(b6 (dv b i)=b/\bp (dv b i)=(1:Int))/\b6 (ov b i k)=UInt8.ofNat (Int.toNat (0:Int)))/\(b6 (dv b i)==b&&bp (dv b i)==(1:Int)&&b6 (ov b i k)==UInt8.ofNat (Int.toNat (0:Int))&&bp (ov b i k)==(-1:Int))=true)):=by
 delta vG ov dv
 have e:∀w s:Int,bits BinOp.xor IntKind.u16 w (IntKind.u16.wrap (1*2^min s.toNat IntKind.u16.bits))=dF w s:=fun _ _=>rfl
 have f0:=Nd b
 have f1:= @Nf b i
 have f2:= @Ng b i k
 have r1:=Et (b.toNat:Int)
 have r2:∀w s:Int,0<=dF w s/\dF w s<65536:=fun w s=>by unfold dF;exact du _ _ _
 simp only [e]
 simp only [f0.1,f0.2]
 (repeat' (first|apply And.intro|intro _))<;>first|assumption|trivial|omega|(grind [])|trace_state
theorem Nk:ET.Ok Try.prog tD:=pH lX (Δ:=[zu,vp,zx,vB,zF]) ⟨Ey,zw,Ez,EC,Ni,trivial⟩ (Ω:=[]) trivial ET Bn Bo (fun _=>[]) (fun _=>trivial) 0 (fun x=>(fun (b:UInt8) (i:Int) (k:Int)=>(fun _=>none)) x.1 x.2.1 x.2.2.1) fun x hp=>Eq.mp (by kernel_rfl) (Nj x.1 x.2.1 x.2.2.1)
theorem WordMends_walk (b:UInt8) (i:Int) (wi:(Lit.int .i64 i).wf=true) (k:Int) (wk:(Lit.int .i64 k).wf=true):Calls Try.prog 3 #[B b,I i,I k] w fun e w'=>e= .returned (.bool true)/\Below w.heap.size w w':=by
 have ri:aV.rep w w.heap.size [I i] i:=⟨rfl,BV wi⟩
 have rk:aV.rep w w.heap.size [I k] k:=⟨rfl,BV wk⟩
 have hf:Fn Try.prog 3 [(tD.en .iI b).av tD.toTE N0,(tD.en .dN i).av tD.toTE N0,(tD.en .dN k).av tD.toTE N0] (.v (.bool true)):=Nk.2 (b,i,k,()) N0 trivial
 exact Jc (vs:=[B b,I i,I k]) hf trivial (.cons (zk lX (t:= .iI) rfl (LG.u8.av (x:=b) rfl)) (.cons (zk lX (t:= .dN) rfl (LG.i64.av ri)) (.cons (zk lX (t:= .dN) rfl (LG.i64.av rk)) .nil)))
end Go.Proofs.Ytimomnfobfjggaa
