/- What functions answer (contracts). No condition. -/
import Derived.Test.YtimomnfobfjggaaPZW
import Derived.WalkKit
import Derived.Handy
import Derived.ProofKit
import Derived.OpenShut
import Derived.ShutString
import Derived.ChangeOld
import Derived.Below
import Derived.Lib.Hide
import Derived.WalkLawsBesides
import Derived.WalkSpells
import Derived.Deep.QuietTactic
import Derived.BigQuiet
import Derived.Shelf.Strings.BuilderK
import Derived.BigCall
import Derived.Test.YtimomnfobfjggaaPZA
import Derived.Test.YtimomnfobfjggaaPZV
set_option linter.unusedSimpArgs false
set_option linter.unusedVariables false
set_option maxHeartbeats 4000000
set_option maxRecDepth 100000
namespace Go.Proofs.Ytimomnfobfjggaa
variable {E:Env} {i n k:Int} {X:List UInt8} {bs:List Value} {b p:Nat} {w:World}
open Go.ChangeShapes Go.WideShapes Go.ChangeAt Go.RowKit
open Go.ChangeMaps (open_string shut_string)
open Go.Shelf
abbrev QI:=@Nat.testBit_two_pow_mul_add
def Ew:Go.Shelf.Ren:=⟨fun|169=>15|n=>n,fun|70=>39|9=>9|0=>0|72=>41|37=>32|127=>49|3=>3|5=>5|n=>n,fun|n=>n⟩
theorem M7:Go.Proofs.Lays.n169 Try.prog Ew:={
 mixed:=by kernel_rfl
 f169:=Try.func15.trans (congrArg some (by kernel_rfl))
 t0:=Try.underlying0
 a0:=Try.isAgg0
 z0:=Try.sizeOf0
 v0:=Try.zeroValue0
 t3:=Try.underlying3
 a3:=Try.isAgg3
 z3:=Try.sizeOf3
 v3:=Try.zeroValue3
 t9:=Try.underlying9
 a9:=Try.isAgg9
 z9:=Try.sizeOf9
 v9:=Try.zeroValue9
 t37:=Try.underlying32
 a37:=Try.isAgg32
 z37:=Try.sizeOf32
 v37:=Try.zeroValue32
 t70:=Try.underlying39
 a70:=Try.isAgg39
 z70:=Try.sizeOf39
 v70:=Try.zeroValue39
 t72:=Try.underlying41
 a72:=Try.isAgg41
 z72:=Try.sizeOf41
 v72:=Try.zeroValue41
 t127:=Try.underlying49
 a127:=Try.isAgg49
 z127:=Try.sizeOf49
 v127:=Try.zeroValue49 }
theorem vL:Builder.Extra Try.prog Ew:={
 sizeBuilder:=by kernel_rfl
 liesBuilder:=by kernel_rfl
 t5:=Try.underlying5
 a5:=Try.isAgg5
 z5:=Try.sizeOf5
 v5:=Try.zeroValue5
 infoByte:=by kernel_rfl
 cellsByte:=by kernel_rfl
 sizeByte:=by kernel_rfl
 neB5:=by decide }
def Bd (B b:Nat) (bs:List Value) (w:World):Prop:=b<B/\∃p v,(p= .pointer none\/p= .pointer (some ⟨b,0,none⟩))/\w.heap[b]? =some (.cells #[p,v] 41 (0,0))/\w.ownsRowF B 5 1 v bs.length bs
structure Kp (B b:Nat) (w w':World):Prop where
 below:Below b w w'
 old:∀k,k<B->k≠b->w'.heap[k]? =w.heap[k]?
theorem M8 (h0:w.cell? ⟨b,0,none⟩=some (.pointer (some ⟨b,0,none⟩))):Calls Try.prog 18 #[.pointer (some ⟨b,0,none⟩)] w fun e w'=>e= .returned (.tuple #[])/\w'=w:=by
 obtain ⟨j,hj,_⟩:=OM.1 vL.sizeBuilder
 go_enter Try.func18,Try.ntmps18
 go_wp2
 rw [Lib.run_neq_ptr_same (te:=41) w _ Try.underlying39 hj]
 go_wp2
 go_end0
 exact ⟨rfl,rfl⟩
theorem M9 (h0:w.cell? ⟨b,0,none⟩=some (.pointer none)) (hsh:w.shape? b=some (41,2)) (hfz:w.frozen? ⟨b,0,none⟩=false):Calls Try.prog 18 #[.pointer (some ⟨b,0,none⟩)] w fun e w'=>e= .returned (.tuple #[])/\w'=w.setCell ⟨b,0,none⟩ (.pointer (some ⟨b,0,none⟩)):=by
 obtain ⟨j,hj,hjs⟩:=OM.1 vL.sizeBuilder
 go_enter Try.func18,Try.ntmps18
 go_wp2
 rw [Lib.run_to_unsafe w ⟨b,0,none⟩ Try.underlying39 Try.underlying54 hj (by rw [hjs];decide) hsh (Nat.zero_lt_succ 1)]
 simp only [Result.andThen]
 rw [Oper.upon_value]
 go_wp2
 rw [run_callFunc_extern Try.func21 (by kernel_rfl) (by kernel_rfl) (by kernel_rfl) (e:=Extern.AbiNoEscape.same) (by kernel_rfl),Lib.run_noEscape]
 simp only [Result.andThen]
 rw [Oper.upon_value]
 go_wp2
 rw [Lib.run_from_unsafe w ⟨b,0,none⟩ Try.underlying54 Try.underlying39 hj hsh vL.liesBuilder]
 simp only [Result.andThen]
 rw [Oper.upon_value]
 go_wp2
 go_end0
 exact ⟨rfl,rfl⟩
theorem Na {B:Nat} (h:Bd B b bs w):Calls Try.prog 18 #[.pointer (some ⟨b,0,none⟩)] w fun e w'=>e= .returned (.tuple #[])/\(∃v,w'.heap[b]? =some (.cells #[.pointer (some ⟨b,0,none⟩),v] 41 (0,0))/\w'.ownsRowF B 5 1 v bs.length bs)/\Kp B b w w':=by
 obtain ⟨hB,p,v,hp,hb,ho⟩:=h
 rcases hp with rfl|rfl
 ·refine (M9 (by simp [World.cell?,hb]) (by simp [World.shape?,hb]) (by simp [World.frozen?,hb])).mono ?_
  rintro e w' ⟨rfl,rfl⟩
  refine ⟨rfl,⟨v,by simp [World.setCell,Array.getElem?_modify,hb],ho.kept (row:=some b) ⟨rfl,rfl,rfl,by simp [World.setCell],fun k _ hk=>Below.heap_setCell _ _ _ _ (fun e=>hk (by simp [e]))⟩ (.inr fun e=> ?_)⟩,⟨(Pk b w).setCell (p:=⟨b,0,none⟩) (OQ _) _,fun k _ hk=>Below.heap_setCell _ _ _ _ (fun e=>hk (by simp [e]))⟩⟩
  have:=(ho.lt b e).1
  omega
 ·refine (M8 (by simp [World.cell?,hb])).mono ?_
  rintro e w' ⟨rfl,rfl⟩
  exact ⟨rfl,⟨v,hb,ho⟩,⟨Pk _ _,fun _ _ _=>rfl⟩⟩
theorem Kp.trans {B b:Nat} {w w' u6:World} (h:Kp B b w w') (k:Kp B b w' u6):Kp B b w u6:=⟨h.below.trans k.below,fun q h1 h2=>(k.old q h1 h2).trans (h.old q h1 h2)⟩
theorem Nb:(Try.prog.info? 5).map (fun i=>(i.zero,i.size,i.bytes))=some (some (.int .u8 0),1,1):=by kernel_rfl
theorem Ey {B:Nat} (c:Int) (h:Bd B b bs w) (hl:bs.length+1<=1000000) (hBw:B<=w.heap.size):Calls Try.prog 14 #[.pointer (some ⟨b,0,none⟩), .int .u8 c] w fun e w'=>e= .returned .nilIface/\Bd B b (bs++[.int .u8 c]) w'/\Kp B b w w':=by
 obtain ⟨i0,hi,hz0,hz1,hz2⟩:=info_parts Nb
 have hbB:=h.1
 go_enter Try.func14,Try.ntmps14
 go_wp2_with (go_at_call 18;refine (Na h).mono ?_)
 rintro e w1 ⟨rfl,⟨v,hb,ho⟩,hk⟩
 have c0:w1.cell? ⟨b,0,none⟩=some (.pointer (some ⟨b,0,none⟩)):=by simp [World.cell?,hb]
 have c1:w1.cell? ⟨b,1,none⟩=some v:=by simp [World.cell?,hb]
 have hs1:=hk.below.size
 go_wp2_with (at_builtin;refine wpList_append_ownF _ rfl _ _ 32 rfl B 5 i0 (.int .u8 0) 1 1 Try.underlying32 hi hz0 hz1 hz2 rfl (by decide) _ _ _ rfl (ho.alloc _) ⟨w1.heap.size,0,none⟩ 1 1 [.int .u8 c] rfl rfl ?c1 ?c2 ?c3 ?c4 ?c5 ?_)
 case c1=>
  intro j u hj
  match j,hj with
  |0,hj=>simp at hj;subst hj;simp [Addr.add]
 case c2=>intro u hu;simp at hu;subst hu;rfl
 case c3=>unfold maxLen;omega
 case c4=>omega
 case c5=>simp;omega
 intro v' w2 ho2 hgr _
 have hne:v.ownBlock≠some b:=fun e=>by have:=(ho.lt b e).1;omega
 have hlt:b<w1.heap.size:=(Ph.1 hb).1
 have hb2:w2.heap[b]? =some (.cells #[.pointer (some ⟨b,0,none⟩),v] 41 (0,0)):=by
  rw [hgr.block b (by simp;omega) (fun e=>hne e.symm)]
  exact (PI w1 _ b hlt).trans hb
 have d0:w2.cell? ⟨b,0,none⟩=some (.pointer (some ⟨b,0,none⟩)):=by simp [World.cell?,hb2]
 have d1:w2.cell? ⟨b,1,none⟩=some v:=by simp [World.cell?,hb2]
 have f1:w2.frozen? ⟨b,1,none⟩=false:=by simp [World.frozen?,hb2]
 obtain ⟨g,cap,rfl,hg⟩:∃g cap,v'= .slice (some ⟨g,0,none⟩) (bs.length+1) cap/\B<=g:=by
  rcases ho2.2 with ⟨_,h0⟩|⟨g,cap,cur,fz,hv,hB,_⟩
  ·omega
  ·exact ⟨g,cap,hv,hB⟩
 have hsz2:=hgr.size
 simp only [World.size_alloc] at hsz2
 have hk2:Kp B b w1 w2:=by
  refine ⟨((Pk b w1).alloc (by omega) _).grown hgr (by simp;omega) (fun k hk=>by have:=(ho.lt k hk).1;omega),fun k h1 h2=> ?_⟩
  rw [hgr.block k (by simp;omega) (fun e=>by have:=(ho.lt k e.symm).1;omega)]
  exact PI w1 _ k (by omega)
 go_wp2
 go_ret
 refine ⟨rfl,⟨hbB,_, .slice (some ⟨g,0,none⟩) (bs.length+1) cap, .inr rfl,by simp [World.setCell,Array.getElem?_modify,hb2], ?_⟩,(hk.trans hk2).trans ⟨(Pk b _).setCell (p:=⟨b,1,none⟩) (OQ _) _,fun k _ hk=>Below.heap_setCell _ _ _ _ (fun e=>hk (by simp [e]))⟩⟩
 rw [PV]
 refine ho2.kept (row:=some b) ⟨rfl,rfl,rfl,by simp [World.setCell],fun k _ hk=>Below.heap_setCell _ _ _ _ (fun e=>hk (by simp [e]))⟩ (.inr fun e=> ?_)
 simp [Value.ownBlock] at e
 omega
theorem Nc {B:Nat} {l:List UInt8} (h:Bd B b (Lib.byteCells l) w):Calls Try.prog 15 #[.pointer (some ⟨b,0,none⟩)] w fun e w'=>e= .returned (.string ⟨l.toArray⟩)/\Below b w w':=by
 obtain ⟨hB,p,v,hp,hb,ho⟩:=h
 have hlt:b<w.heap.size:=(Ph.1 hb).1
 have hx:Lib.BuilderAtF 41 5 b b p (Lib.byteCells l) w:=⟨OQ _,v,hb,⟨ho.1,ho.2.imp id fun ⟨g,cap,cur,fz,e,hg,r⟩=>⟨g,cap,cur,fz,e,by omega,r⟩⟩,fun e=>by have:=(ho.lt b e).1;omega⟩
 refine (Any.Builder_String_any_k M7 vL b b l w (by rcases hp with rfl|rfl;exact .inl hx;exact .inr hx) (by omega)).mono ?_
 rintro e w' ⟨rfl,_,hb2,_⟩
 exact ⟨rfl,hb2⟩
theorem Nd (b:UInt8) (w:World):Calls Try.prog 6 #[.int .u8 b.toNat] w fun e w'=>e= .returned (.int .u16 (aR (b.toNat:Int)))/\Below w.heap.size w w':=
 (Es b w (fun _=>False) #[.int .u8 b.toNat] (fun _ h=>h.elim) trivial ⟨rfl,fun i v c hv hc=>by
  cases i with
  |zero=>simp at hv hc;subst hv;subst hc;exact .v rfl
  |succ i=>simp at hv⟩).mono fun e w' ⟨v,he,hr,hb⟩=>⟨he.trans (by rw [hr.iC]),hb⟩
theorem Bd.bO {B:Nat} {w':World} (h:Bd B b bs w) (hk:∀k,k<w.heap.size->w'.heap[k]? =w.heap[k]?):Bd B b bs w':=by
 obtain ⟨hB,p,v,hp,hb,ho⟩:=h
 refine ⟨hB,p,v,hp,(hk b (Ph.1 hb).1).trans hb,ho.1,ho.2.imp id fun ⟨g,cap,cur,fz,e,hg,hc,r⟩=>⟨g,cap,cur,fz,e,hg,(hk g (Ph.1 hc).1).trans hc,r⟩⟩
def vM (b:UInt8):List UInt8:=[UInt8.ofNat ((aR (b.toNat:Int)).toNat / 256),UInt8.ofNat (aR (b.toNat:Int)).toNat]
def j6 (l:List UInt8):List UInt8:=l.flatMap vM
theorem Ez (b:Int):0<=aR b/\aR b<65536:=by
 have hS:∀s n m w:Int,(0<=w/\w<65536)->0<=cm s n m w/\cm s n m w<65536:=fun s n m w h=>by
  unfold cm
  split
  ·exact h
  ·exact dB _ _ _
 unfold aR
 split
 ·exact dB _ _ _
 ·exact hS _ _ _ _ (hS _ _ _ _ (hS _ _ _ _ (hS _ _ _ _ (dY _))))
theorem vN (l:List UInt8):(j6 l).length=2*l.length:=by
 induction l with
 |nil=>rfl
 |cons a l ih=>show (vM a++j6 l).length=_;rw [PV,ih];simp [vM];omega
def cr (s:ByteArray):ByteArray×Int:=if 64<s.size then (⟨#[]⟩,2) else (⟨(j6 s.data.toList).toArray⟩,0)
theorem Nf (s:ByteArray) (w:World) (hs:s.size<=9223372036854775807):Calls Try.prog 9 #[.string s] w fun e w'=>e= .returned (.tuple #[.string (cr s).1, .int .i64 (cr s).2])/\Below w.heap.size w w':=by
 have hcv2:=fun w s=>run_bytes_of_string (P:=Try.prog) w 9 32 5 s Try.underlying9 Try.underlying32 Try.underlying5
 go_enter Try.func9,Try.ntmps9
 go_wp2
 ·rename_i h
  go_ret2
  unfold cr
  rw [OI (by omega)]
  exact ⟨rfl,Pk _ _⟩
 ·have h64:(s.size:Int)<=64:=by assumption
  have hrow:∀j (hj:j<s.size),(bytesRow s (grownCap (w.alloc (.cells #[.pointer none, .slice none 0 0] 41)) s.size 0 5))[j]? =some (.int .u8 ((s.data[j]'hj).toNat:Int)):=fun j hj=>bytesRow_at s _ j hj
  generalize grownCap (w.alloc (.cells #[.pointer none, .slice none 0 0] 41)) s.size 0 5=cap at hrow ⊢
  go_loopw [14] (fun i wr=>∃k:Nat,i= .int .i64 (k:Int)/\k<=s.size/\Bd (w.heap.size+2) w.heap.size (Lib.byteCells (j6 (s.data.toList.take k))) wr/\(∀j (hj:j<s.size),wr.cell? ⟨w.heap.size+1,j,none⟩=some (.int .u8 ((s.data[j]'hj).toNat:Int)))/\w.heap.size+2<=wr.heap.size/\Below w.heap.size w wr) (fun i wr=>s.size - (intOf i).toNat)
  case atStart=>
   refine ⟨0,rfl,Nat.zero_le _,⟨by omega, .pointer none, .slice none 0 0, .inl rfl, ?_,World.ownsRowF_nil _ _ _ _⟩,fun j hj=> ?_,by simp,(((Pk _ w).alloc (OQ _) _).alloc (by simp) _).drew⟩
   ·exact (PI _ _ _ (by simp)).trans (World.alloc_heap_new w _)
   ·have hsz:(w.alloc (.cells #[.pointer none, .slice none 0 0] 41)).heap.size=w.heap.size+1:=by simp
    rw [<-hrow j hj, <-hsz]
    exact World.cell?_alloc_mark _ _ _ _ _
  case round=>
   obtain ⟨k,rfl,hk,hB,hc,hsz,hbw⟩:=hrel
   by_cases hks:k<s.size
   ·have hck:=hc k hks
    have hlt:(k:Int)<s.size:=by omega
    go_wp2_with (go_at_call 6;refine (Nd _ _).mono ?_)
    rintro e w1 ⟨rfl,b1⟩
    have hl:(s.data.toList.take k).length=k:=by rw [P0];show min k s.data.size=k;exact Qo hk
    have hsz1:=b1.size
    have hB1:=hB.bO fun q hq=>b1.block q hq
    go_wp2_with (go_at_call 14;refine (Ey _ hB1 (by rw [Lib.byteCells_length,vN,hl];omega) (by omega)).mono ?_)
    rintro e w2 ⟨rfl,hB2,k2⟩
    have hsz2:=k2.below.size
    go_wp2_with (go_at_call 14;refine (Ey _ hB2 (by rw [PV,Lib.byteCells_length,vN,hl];simp;omega) (by omega)).mono ?_)
    rintro e w3 ⟨rfl,hB3,k3⟩
    have hsz3:=k3.below.size
    go_wp2
    go_roundw
    case rel=>
     refine ⟨k+1,by first|rfl|simp|omega,by omega, ?_,fun j hj=> ?_,by omega, ?_⟩
     ·have he:Lib.byteCells (j6 (s.data.toList.take (k+1)))=Lib.byteCells (j6 (s.data.toList.take k))++[Value.int IntKind.u8 (aR ↑s.data[k].toNat / 256%256)]++[Value.int IntKind.u8 (aR ↑s.data[k].toNat%256)]:=by
       have h0:=Ez (s.data[k].toNat:Int)
       rw [List.take_succ_eq_append_getElem (by simpa using hks),j6,List.flatMap_append,Lib.byteCells_append,PZ]
       congr 1
       simp [vM,Lib.byteCells]
       omega
      rw [he];exact hB3
     ·have hq:(w.heap.size+1)<wr.heap.size:=by omega
      have e1:=k3.old (w.heap.size+1) (by omega) (by omega)
      have e2:=k2.old (w.heap.size+1) (by omega) (by omega)
      have e3:=b1.block (w.heap.size+1) hq
      rw [<-hc j hj]
      unfold World.cell?
      simp only [e1,e2,e3]
     ·exact hbw.trans ((b1.mono (by omega)).trans (k2.below.trans k3.below))
    case measure=>simp only [intOf];omega
   ·have hlt:¬(k:Int)<s.size:=by omega
    go_wp2_with (go_at_call 15;refine (Nc hB).mono ?_)
    rintro e w1 rfl b1
    go_wp2
    go_ret2
    have e:s.data.toList.take k=s.data.toList:=Qa (by show s.data.toList.length<=k;simp;omega)
    rw [e]
    unfold cr
    rw [OH (by omega)]
    exact ⟨rfl,hbw.trans b1⟩
open Go.RowKit
theorem Ng:∀{vs:List Value} {ws:Array Value},RC E ws (vs.map AV.v)->ws=vs.toArray:=by
 intro vs ws h
 apply Array.ext
 ·simpa using h.1
 ·intro i h1 h2
  have h3:i<vs.length:=by simpa using h2
  have:=h.2 i ws[i] (.v vs[i]) (OY h1) (by rw [O6,OV h3];rfl)
  generalize hq:ws[i]=q at this
  generalize hp:vs[i]=p at this
  have e:q=p:=by cases this with|v h=>rfl
  rw [e, <-hp];simp
theorem Nh {P:Program} {f:FuncId} {vs:List Value} {u:Value} {r:AV} (hr:∀E:Env,aj E u r) (h:∀w,Calls P f vs.toArray w fun e w'=>e= .returned u/\Below w.heap.size w w'):Fn P f (vs.map AV.v) r:=by
 intro w J ws hJ hG bJ
 rw [Ng bJ]
 exact (h w).mono fun e w' ⟨h1,h2⟩=>⟨u,h1,hr _,h2⟩
theorem Ni {a b:Value} (ha:plainV a=true) (hb:plainV b=true):aj E (.tuple #[a,b]) (.aK [.v a, .v b]):=by
 refine .aK rfl fun i v c hv hc=> ?_
 match i with
 |0=>simp at hv hc;subst hv;subst hc;exact .v ha
 |1=>simp at hv hc;subst hv;subst hc;exact .v hb
 |i+2=>simp at hc
theorem Nj (x y:Int):0<=bits BinOp.or IntKind.u8 x y/\bits BinOp.or IntKind.u8 x y<256:=by
 unfold bits
 show 0<=IntKind.u8.wrap _/\IntKind.u8.wrap _<256
 rw [IntKind.wrap_u8'];omega
theorem EA (w:Int):0<=ju w/\ju w<256:=Nj _ _
theorem Nk (w:Int):0<=iu w/\iu w<256:=by
 have h1:=EA w
 have h2:=EA (fH w (synI w))
 unfold iu
 repeat' split
 all_goals omega
def gq (w:Int):UInt8:=UInt8.ofNat (iu w).toNat
theorem EB (w:Int):((gq w).toNat:Int)=iu w:=by
 have:=Nk w
 unfold gq
 rw [UInt8.toNat_ofNat']
 omega
def zE:dx Tc Tc.dn:=⟨6,[.ty .j5],fun _=>True,[.cW],fun x=>aR (x.1.toNat:Int)⟩
theorem EC:zE.Ok Try.prog tD:=⟨Bw,fun x N h=>Es x.1⟩
def vO:dx Tc Tc.dn:=⟨7,[.ty .cW],fun x=>(0:Int)<=x.1/\(x.1:Int)<65536,[.j5, .eS],fun x=>(gq x.1,b8 x.1)⟩
theorem zF:vO.Ok Try.prog tD:=⟨By,fun x N h=>by
 have:=M6 x.1 h
 rw [<-EB] at this
 exact this⟩
def zG:dx Tc Tc.dn:=⟨9,[.ty .jt],fun x=>ByteArray.size x.1<=9223372036854775807,[.jt, .eS],fun x=>cr x.1⟩
theorem EE:zG.Ok Try.prog tD:=⟨BB,fun x N h=>Nh (vs:=[.string x.1]) (u:= .tuple #[.string (cr x.1).1, .int .i64 (cr x.1).2]) (fun _=>Ni rfl rfl) fun w=>Nf x.1 w h⟩
def er (a b:UInt8):Int:=bits BinOp.or IntKind.u16 (IntKind.u16.wrap (IntKind.u16.wrap (a.toNat:Int)*2^min (uN (Int.toNat 8)).n IntKind.u16.bits)) (IntKind.u16.wrap (b.toNat:Int))
theorem EF (a b:UInt8):0<=er a b/\er a b<65536:=by unfold er;exact dB _ _ _
theorem zH (w:Int): -1<=b8 w/\b8 w<=1:=by
 unfold b8
 repeat' split
 all_goals omega
def kS (t:ByteArray) (i:Nat):Int:=er (gb t (2*i)) (gb t (2*i+1))
def pU (t:ByteArray) (k:Nat):List UInt8:=(List.range k).map fun i=>gq (kS t i)
def kT (t:ByteArray):Nat->Int
 |0=>0
 |k+1=>kT t k+b8 (kS t k)
def pV (t:ByteArray) (k:Nat):Bool:=(List.range k).any fun i=>decide (b8 (kS t i)<0)
def aV (t:ByteArray):ByteArray×Int×Int:=if 128<t.size then (⟨#[]⟩,0,2) else if ¬t.size%2=0 then (⟨#[]⟩,0,1) else if pV t (t.size / 2)=true then (⟨#[]⟩,0,5) else (⟨(pU t (t.size / 2)).toArray⟩,kT t (t.size / 2),0)
theorem EG (t:ByteArray):∀k:Nat, -(k:Int)<=kT t k/\kT t k<=k
 |0=>by unfold kT;omega
 |k+1=>by
  have h1:=EG t k
  have h2:=zH (kS t k)
  unfold kT;omega
structure eH (t:ByteArray) (i n:Int) (out:List UInt8):Prop where
 mh:t.size<=128
 ev:t.size%2=0
 lo:0<=i
 hi:i<=t.size
 e2:i%2=0
 ok:pV t (i.toNat / 2)=false
 n:n=kT t (i.toNat / 2)
 o:out=pU t (i.toNat / 2)
theorem eH.start {t:ByteArray} (h:(t.size:Int)<=128) (h2:(t.size:Int)%2=0):eH t 0 0 []:=⟨by omega,by omega,by omega,by omega,by omega,rfl,rfl,rfl⟩
theorem eH.bd {t:ByteArray} {i n:Int} {out:List UInt8} (h:eH t i n out):0<=i/\i<=128/\(i<t.size->i+1<t.size)/\out.length<=64/\ -64<=n/\n<=64:=by
 have h1:=h.mh;have h2:=h.ev;have h3:=h.lo;have h4:=h.hi;have h5:=h.e2
 have h6:=EG t (i.toNat / 2)
 have h7:out.length=i.toNat / 2:=by rw [h.o];simp [pU]
 have:=h.n
 omega
theorem eH.wd {t:ByteArray} {out:List UInt8} (h:eH t i n out):er (gb t i.toNat) (gb t (i+1).toNat)=kS t (i.toNat / 2):=by
 have h3:=h.lo;have h5:=h.e2
 unfold kS
 rw [show 2*(i.toNat / 2)=i.toNat by omega,show (i+1).toNat=i.toNat+1 by omega]
theorem eH.bad {t:ByteArray} {i n:Int} {out:List UInt8} (h:eH t i n out) (hi:i<t.size) (hb:b8 (er (gb t i.toNat) (gb t (i+1).toNat))<0):((⟨#[]⟩:ByteArray),(0:Int),(5:Int))=aV t:=by
 have h1:=h.mh;have h2:=h.ev;have h3:=h.lo;have h5:=h.e2
 rw [h.wd] at hb
 unfold aV
 rw [OH (by omega),OH (by omega),OI]
 unfold pV
 rw [Qr]
 exact ⟨i.toNat / 2,Pj.2 (by omega),by simpa using hb⟩
theorem eH.step {t:ByteArray} {i n:Int} {out:List UInt8} (h:eH t i n out) (hi:i<t.size) (hb:0<=b8 (er (gb t i.toNat) (gb t (i+1).toNat))):eH t (i+2) (n+b8 (er (gb t i.toNat) (gb t (i+1).toNat))) (out++[gq (er (gb t i.toNat) (gb t (i+1).toNat))]):=by
 have h1:=h.mh;have h2:=h.ev;have h3:=h.lo;have h5:=h.e2
 rw [h.wd] at hb ⊢
 have e:(i+2).toNat / 2=i.toNat / 2+1:=by omega
 refine ⟨h1,h2,by omega,by omega,by omega, ?_, ?_, ?_⟩
 ·have:=h.ok
  unfold pV at this ⊢
  rw [e,List.range_succ,List.any_append,this]
  simpa using hb
 ·rw [e,kT,h.n]
 ·rw [e,h.o];unfold pU;rw [List.range_succ,PL];rfl
theorem eH.fin {t:ByteArray} {i n:Int} {out:List UInt8} (h:eH t i n out) (hi:t.size<=i):((⟨(List.map id out).toArray⟩:ByteArray),n,(0:Int))=aV t:=by
 have h1:=h.mh;have h2:=h.ev;have h3:=h.lo;have h4:=h.hi
 have e:i.toNat=t.size:=by omega
 unfold aV
 rw [OH (by omega),OH (by omega),OH (by rw [<-e,h.ok];simp),List.map_id,h.o,h.n,e]
def sv (t:ByteArray) (i:Int) (n:Int) (out:(List UInt8)):Prop:=eH t i n out
def vP:dx Tc Tc.dn:=⟨10,[.ty .jt],fun x=>(fun (t:ByteArray)=>True) x.1,[.jt, .eS, .eS],fun x=>(fun (t:ByteArray)=>aV t) x.1⟩
theorem Nl (t:ByteArray):((128:Int)<(↑t.size:Int)->(ByteArray.mk #[],(0:Int),(2:Int))=aV t)/\((↑t.size:Int)<=(128:Int)->((0:Int)<=(↑t.size:Int)/\(2:Int)≠(0:Int))/\(¬(↑t.size:Int)%(2:Int)=(0:Int)->(ByteArray.mk #[],(0:Int),(1:Int))=aV t)/\((↑t.size:Int)%(2:Int)=(0:Int)->sv t (0:Int) (0:Int) []/\∀(x cX:Int) (aS:List UInt8),sv t x cX aS->(x<(↑t.size:Int)->((0:Int)<=x/\x<(↑t.size:Int))/\bp (x+(1:Int))/\((0:Int)<=x+(1:Int)/\x+(1:Int)<(↑t.size:Int))/\((0:Int)<=bits BinOp.or IntKind.u16 (IntKind.u16.wrap (IntKind.u16.wrap (↑(gb t x.toNat).toNat:Int)*(2:Int)^min (uN (Int.toNat (8:Int))).n IntKind.u16.bits)) (IntKind.u16.wrap (↑(gb t (x+(1:Int)).toNat).toNat:Int))/\bits BinOp.or IntKind.u16 (IntKind.u16.wrap (IntKind.u16.wrap (↑(gb t x.toNat).toNat:Int)*(2:Int)^min (uN (Int.toNat (8:Int))).n IntKind.u16.bits)) (IntKind.u16.wrap (↑(gb t (x+(1:Int)).toNat).toNat:Int))<(65536:Pt.T Tc.dn (Pt.ty Tc.cW)))/\(b8 (bits BinOp.or IntKind.u16 (IntKind.u16.wrap (IntKind.u16.wrap (↑(gb t x.toNat).toNat:Int)*(2:Int)^min (uN (Int.toNat (8:Int))).n IntKind.u16.bits)) (IntKind.u16.wrap (↑(gb t (x+(1:Int)).toNat).toNat:Int)))<(0:Int)->(ByteArray.mk #[],(0:Int),(5:Int))=aV t)/\((0:Int)<=b8 (bits BinOp.or IntKind.u16 (IntKind.u16.wrap (IntKind.u16.wrap (↑(gb t x.toNat).toNat:Int)*(2:Int)^min (uN (Int.toNat (8:Int))).n IntKind.u16.bits)) (IntKind.u16.wrap (↑(gb t (x+(1:Int)).toNat).toNat:Int)))->(aS.length+(1:Nat))*(1:Nat)<=(140737488355328:Nat)/\bp (cX+b8 (bits BinOp.or IntKind.u16 (IntKind.u16.wrap (IntKind.u16.wrap (↑(gb t x.toNat).toNat:Int)*(2:Int)^min (uN (Int.toNat (8:Int))).n IntKind.u16.bits)) (IntKind.u16.wrap (↑(gb t (x+(1:Int)).toNat).toNat:Int))))/\bp (x+(2:Int))/\sv t (x+(2:Int)) (cX+b8 (bits BinOp.or IntKind.u16 (IntKind.u16.wrap (IntKind.u16.wrap (↑(gb t x.toNat).toNat:Int)*(2:Int)^min (uN (Int.toNat (8:Int))).n IntKind.u16.bits)) (IntKind.u16.wrap (↑(gb t (x+(1:Int)).toNat).toNat:Int)))) (aS++[gq (bits BinOp.or IntKind.u16 (IntKind.u16.wrap (IntKind.u16.wrap (↑(gb t x.toNat).toNat:Int)*(2:Int)^min (uN (Int.toNat (8:Int))).n IntKind.u16.bits)) (IntKind.u16.wrap (↑(gb t (x+(1:Int)).toNat).toNat:Int)))])/\((↑t.size:Int) - (x+(2:Int))).toNat<((↑t.size:Int) - x).toNat))/\((↑t.size:Int)<=x->(ByteArray.mk (List.map id aS).toArray,cX,(0:Int))=aV t))):=by
 have h1:= @eH.start t
 have h2:= @eH.bd t
 have h3:= @eH.bad t
 have h4:= @eH.step t
 have h5:= @eH.fin t
 have h6:∀a b:UInt8,bits BinOp.or IntKind.u16 (IntKind.u16.wrap (IntKind.u16.wrap (a.toNat:Int)*2^min (uN (Int.toNat 8)).n IntKind.u16.bits)) (IntKind.u16.wrap (b.toNat:Int))=er a b:=fun a b=>rfl
 have h7:=EF
 have h8:=zH
 have e1:128<(t.size:Int)->aV t=(⟨#[]⟩,0,2):=fun h=>by unfold aV;rw [OI (by omega)]
 have e2:(t.size:Int)<=128->¬(t.size:Int)%2=0->aV t=(⟨#[]⟩,0,1):=fun h h2=>by unfold aV;rw [OH (by omega),OI (by omega)]
 simp only [h6]
 unfold sv
 refine ⟨fun h=>(e1 h).symm,fun h=>⟨by omega,fun h2=>(e2 h h2).symm,fun tr=>⟨eH.start h tr,fun i n out hI=> ?_⟩⟩⟩
 have b:=hI.bd
 have hm:=zH (er (gb t i.toNat) (gb t (i+1).toNat))
 clear e1 e2 h1 h2 h3 h4 h5 h6 h7 h8
 exact ⟨fun hi=>⟨by omega,by unfold bp;omega,by omega,EF _ _,fun hb=>hI.bad hi hb,fun hb=>⟨by omega,by unfold bp;omega,by unfold bp;omega,hI.step hi hb,by omega⟩⟩,hI.fin⟩
theorem EH:vP.Ok Try.prog tD:=pR m6 (Δ:=[vO]) ⟨zF,trivial⟩ (Ω:=[]) trivial vP BD BE (fun _=>[]) (fun _=>trivial) 0 (fun x=>(fun (t:ByteArray)=>(fun k=>bif Nat.beq k 0 then some (.inv [.sl 7 .eS, .sl 6 .eS, .ow 5 .j5] (fun zo zv=>(fun (i:Int) (n:Int) (out:(List UInt8))=>sv t i n out) zv.1 zv.2.1 zv.2.2.1) (fun zo zv=>(fun (i:Int) (n:Int) (out:(List UInt8))=>((t.size:Int) - i).toNat) zv.1 zv.2.1 zv.2.2.1)) else none)) x.1) fun x hp=>Eq.mp (by kernel_rfl) (Nl x.1)
open Go.RowKit
def iw (w:Nat):Nat:=Nat.xor (Nat.xor (Nat.xor (Nat.xor (Nat.xor (Nat.xor (Nat.xor (Nat.xor (Nat.xor (Nat.xor (Nat.xor (Nat.xor (Nat.mul (Nat.mod w 2) 0) (Nat.mul (Nat.mod (Nat.div w 2) 2) 1)) (Nat.mul (Nat.mod (Nat.div w 4) 2) 2)) (Nat.mul (Nat.mod (Nat.div w 8) 2) 3)) (Nat.mul (Nat.mod (Nat.div w 16) 2) 4)) (Nat.mul (Nat.mod (Nat.div w 32) 2) 5)) (Nat.mul (Nat.mod (Nat.div w 64) 2) 6)) (Nat.mul (Nat.mod (Nat.div w 128) 2) 7)) (Nat.mul (Nat.mod (Nat.div w 256) 2) 8)) (Nat.mul (Nat.mod (Nat.div w 512) 2) 9)) (Nat.mul (Nat.mod (Nat.div w 1024) 2) 10)) (Nat.mul (Nat.mod (Nat.div w 2048) 2) 11)) (Nat.mul (Nat.mod (Nat.div w 4096) 2) 12)
def parF (w:Nat):Nat:=Nat.mod (Nat.add (Nat.mod w 2) (Nat.add (Nat.mod (Nat.div w 2) 2) (Nat.add (Nat.mod (Nat.div w 4) 2) (Nat.add (Nat.mod (Nat.div w 8) 2) (Nat.add (Nat.mod (Nat.div w 16) 2) (Nat.add (Nat.mod (Nat.div w 32) 2) (Nat.add (Nat.mod (Nat.div w 64) 2) (Nat.add (Nat.mod (Nat.div w 128) 2) (Nat.add (Nat.mod (Nat.div w 256) 2) (Nat.add (Nat.mod (Nat.div w 512) 2) (Nat.add (Nat.mod (Nat.div w 1024) 2) (Nat.add (Nat.mod (Nat.div w 2048) 2) (Nat.add (Nat.mod (Nat.div w 4096) 2) (Nat.add (Nat.mod (Nat.div w 8192) 2) (Nat.add (Nat.mod (Nat.div w 16384) 2) (Nat.mod (Nat.div w 32768) 2)))))))))))))))) 2
def vQ (w:Nat):Nat:=Nat.add (Nat.mul (Nat.mod (Nat.div w 8) 2) 1) (Nat.add (Nat.mul (Nat.mod (Nat.div w 32) 2) 2) (Nat.add (Nat.mul (Nat.mod (Nat.div w 64) 2) 4) (Nat.add (Nat.mul (Nat.mod (Nat.div w 128) 2) 8) (Nat.add (Nat.mul (Nat.mod (Nat.div w 512) 2) 16) (Nat.add (Nat.mul (Nat.mod (Nat.div w 1024) 2) 32) (Nat.add (Nat.mul (Nat.mod (Nat.div w 2048) 2) 64) (Nat.mul (Nat.mod (Nat.div w 4096) 2) 128)))))))
def kU (w:Nat):Nat:=bif Nat.beq (parF w) 1 then (bif Nat.ble 13 (iw w) then 2 else 1) else (bif Nat.beq (iw w) 0 then 0 else 2)
def pW (w:Nat):Nat:=bif Nat.beq (parF w) 1 then vQ (Nat.xor w (Nat.pow 2 (iw w))) else vQ w
def Nn (b:Nat):Nat:=Nat.add (Nat.mul (Nat.mod b 2) 8) (Nat.add (Nat.mul (Nat.mod (Nat.div b 2) 2) 32) (Nat.add (Nat.mul (Nat.mod (Nat.div b 4) 2) 64) (Nat.add (Nat.mul (Nat.mod (Nat.div b 8) 2) 128) (Nat.add (Nat.mul (Nat.mod (Nat.div b 16) 2) 512) (Nat.add (Nat.mul (Nat.mod (Nat.div b 32) 2) 1024) (Nat.add (Nat.mul (Nat.mod (Nat.div b 64) 2) 2048) (Nat.mul (Nat.mod (Nat.div b 128) 2) 4096)))))))
def vR (b:Nat):Nat:=Nat.xor (Nat.xor (Nat.xor (Nat.xor (Nat.xor (Nat.xor (Nat.xor (Nat.mul (Nat.mod b 2) 3) (Nat.mul (Nat.mod (Nat.div b 2) 2) 5)) (Nat.mul (Nat.mod (Nat.div b 4) 2) 6)) (Nat.mul (Nat.mod (Nat.div b 8) 2) 7)) (Nat.mul (Nat.mod (Nat.div b 16) 2) 9)) (Nat.mul (Nat.mod (Nat.div b 32) 2) 10)) (Nat.mul (Nat.mod (Nat.div b 64) 2) 11)) (Nat.mul (Nat.mod (Nat.div b 128) 2) 12)
def EI (b:Nat):Nat:=Nat.add (Nn b) (Nat.add (Nat.mul (Nat.mod (vR b) 2) 2) (Nat.add (Nat.mul (Nat.mod (Nat.div (vR b) 2) 2) 4) (Nat.add (Nat.mul (Nat.mod (Nat.div (vR b) 4) 2) 16) (Nat.mul (Nat.mod (Nat.div (vR b) 8) 2) 256))))
def j7 (b:Nat):Nat:=Nat.add (EI b) (parF (EI b))
def nc (p:Nat->Bool):Nat->Bool
 |0=>true
 |n+1=>p n&&nc p n
theorem pX {p:Nat->Bool}:∀{n:Nat},nc p n=true->∀i,i<n->p i=true
 |0,_,i,hi=>by omega
 |n+1,h,i,hi=>by
  unfold nc at h
  rw [OJ] at h
  by_cases e:i=n
  ·rw [e];exact h.1
  ·exact pX h.2 i (by omega)
theorem No:nc (fun b=>decide (aR (b:Int)=(j7 b:Int))) 256=true:=by decide+kernel
def EJ (b w:Nat):Bool:=Nat.beq (pW w) b&&(Nat.beq (kU w) 0&&nc (fun i=>Nat.beq (pW (Nat.xor w (Nat.pow 2 i))) b&&(Nat.beq (kU (Nat.xor w (Nat.pow 2 i))) 1&&nc (fun k=>Nat.beq (kU (Nat.xor (Nat.xor w (Nat.pow 2 i)) (Nat.pow 2 k))) 2) i)) 13)
theorem Np:nc (fun b=>EJ b (j7 b)) 256=true:=by decide+kernel
open Go.RowKit
theorem iQ (w p:Nat):gk w (p+1)=Nat.xor (gk w p) (Nat.mul (Nat.mod (Nat.div w (2^p)) 2) p):=by
 show (if w / 2^p%2=1 then gk w p^^^p else gk w p)=gk w p^^^(w / 2^p%2*p)
 by_cases h:w / 2^p%2=1
 ·rw [OI h,h,Nat.one_mul]
 ·rw [OH h,show w / 2^p%2=0 by omega,Nat.zero_mul,Nat.xor_zero]
theorem EK (w:Nat):gk w 13=iw w:=by
 have e0:gk w 1=Nat.mul (Nat.mod w 2) 0:=by
  rw [iQ]
  show 0^^^(w / 2^0%2*0)=w%2*0
  simp
 rw [iQ,iQ,iQ,iQ,iQ,iQ,iQ,iQ,iQ,iQ,iQ,iQ,e0]
 rfl
theorem EM (a b:Nat):Nat.div a b=a / b:=rfl
theorem EN (a b:Nat):Nat.mod a b=a%b:=rfl
theorem EO (a b:Nat):Nat.add a b=a+b:=rfl
theorem Nq (a b:Nat):Nat.mul a b=a*b:=rfl
theorem EP (n:Nat):kQ 8 n=n%2+n / 2%2+n / 4%2+n / 8%2+n / 16%2+n / 32%2+n / 64%2+n / 128%2:=by
 simp only [kQ,Nat.div_div_eq_div_mul,Nat.reduceMul,Pz,Qe]
theorem oG (w k:Nat) (h:k ∣ 256) (h2:2*k ∣ 256):w%256 / k%2=w / k%2:=by
 obtain ⟨m,hm⟩:=h2
 have e:256=k*(2*m):=by rw [hm,PJ 2 k,Nat.mul_assoc]
 rw [e,Nat.mod_mul_right_div_self,Nat.mod_mul_right_mod]
theorem Nr (w:Nat):mf w%2=parF w:=by
 unfold parF mf
 simp only [EM,EN,EO]
 rw [EP,EP]
 simp only [Nat.div_div_eq_div_mul,Nat.reduceMul]
 have h1:w%256%2=w%2:=by omega
 rw [h1,oG w 2 (by decide) (by decide),oG w 4 (by decide) (by decide),oG w 8 (by decide) (by decide),oG w 16 (by decide) (by decide),oG w 32 (by decide) (by decide),oG w 64 (by decide) (by decide),oG w 128 (by decide) (by decide)]
 congr 1
 ac_rfl
theorem ER (w:Nat):odW (w:Int)=Nat.beq (parF w) 1:=by
 unfold odW
 rw [PK,Nr,P4,PG,Nat.beq_eq]
theorem ES (w:Nat):synI (w:Int)=(iw w:Int):=by unfold synI;rw [PK,EK]
theorem Ns (w:Nat):iw w<16:=by rw [<-EK];exact zx w 13 (by omega)
def Nt (n:Nat):Int:=if n=2 then -1 else (n:Int)
theorem ET {w:Nat} (h:w<8192):b8 (w:Int)=Nt (kU w):=by
 unfold b8 kU
 rw [OH (by omega),ER,ES]
 cases hp:Nat.beq (parF w) 1 with
 |true=>
  rw [OI rfl,OL]
  by_cases hs:13<=iw w
  ·rw [OH (by omega),Nat.ble_eq_true_of_le hs];rfl
  ·rw [OI (by omega),show Nat.ble 13 (iw w)=false by rw [Qy];intro hh;exact hs (Pn hh)];rfl
 |false=>
  rw [OH (by simp),O0]
  by_cases hs:iw w=0
  ·rw [OI (by omega),hs];rfl
  ·rw [OH (by omega),show Nat.beq (iw w) 0=false by rw [Qy];intro hh;exact hs (OR hh)];rfl
theorem nd {w o i:Nat} (hw:w<65536) (ho:o<2^i) (hi:i<8) (hp:p<16):ae (w:Int) (o:Int) (i:Int) (p:Int)=((o+w / 2^p%2*2^i:Nat):Int):=by
 unfold ae
 rw [PK,PK,show min p IntKind.u16.bits=p by show min p 16=p;omega,show min i IntKind.u8.bits=i by show min i 8=i;omega,zy (by omega),PK,Ej (Qz (Nat.div_le_self _ _) hw),IntKind.wrap_u8',IntKind.wrap_u8']
 have h2:2^i<=2^7:=Nat.pow_le_pow_right (by omega) (by omega)
 have h3:w / 2^p%2<2:=Nat.mod_lt _ (by omega)
 have h4:w / 2^p%2*2^i<=1*2^i:=Pa _ (by omega)
 have e:(((w / 2^p%2:Nat):Int)%256*2^i)%256=((w / 2^p%2*2^i:Nat):Int):=by
  have a1:((w / 2^p%2:Nat):Int)%256=((w / 2^p%2:Nat):Int):=Int.emod_eq_of_lt (by omega) (by omega)
  have:((w / 2^p%2:Nat):Int)*2^i=((w / 2^p%2*2^i:Nat):Int):=by rw [Int.natCast_mul];simp
  rw [a1,this]
  exact Int.emod_eq_of_lt (by omega) (by omega)
 rw [e,u8_or_nat _ _ (by omega) (by omega),Nat.or_comm]
 congr 1
 rw [nat_join i _ _ (Nat.mul_mod_left _ _) ho,Nat.add_comm]
theorem EU {w:Nat} (hw:w<65536):ju (w:Int)=(vQ w:Int):=by
 have b:∀p,w / 2^p%2<2:=fun p=>Nat.mod_lt _ (by omega)
 have e1:=nd (o:=0) (i:=0) (p:=3) hw (by decide) (by omega) (by omega)
 have e2:=nd (i:=1) (p:=5) (o:=0+w / 2^3%2*2^0) hw (by have:=b 3;omega) (by omega) (by omega)
 have e3:=nd (i:=2) (p:=6) (o:=0+w / 2^3%2*2^0+w / 2^5%2*2^1) hw (by have:=b 3;have:=b 5;omega) (by omega) (by omega)
 have e4:=nd (i:=3) (p:=7) (o:=0+w / 2^3%2*2^0+w / 2^5%2*2^1+w / 2^6%2*2^2) hw (by have:=b 3;have:=b 5;have:=b 6;omega) (by omega) (by omega)
 have e5:=nd (i:=4) (p:=9) (o:=0+w / 2^3%2*2^0+w / 2^5%2*2^1+w / 2^6%2*2^2+w / 2^7%2*2^3) hw (by have:=b 3;have:=b 5;have:=b 6;have:=b 7;omega) (by omega) (by omega)
 have e6:=nd (i:=5) (p:=10) (o:=0+w / 2^3%2*2^0+w / 2^5%2*2^1+w / 2^6%2*2^2+w / 2^7%2*2^3+w / 2^9%2*2^4) hw (by have:=b 3;have:=b 5;have:=b 6;have:=b 7;have:=b 9;omega) (by omega) (by omega)
 have e7:=nd (i:=6) (p:=11) (o:=0+w / 2^3%2*2^0+w / 2^5%2*2^1+w / 2^6%2*2^2+w / 2^7%2*2^3+w / 2^9%2*2^4+w / 2^10%2*2^5) hw (by have:=b 3;have:=b 5;have:=b 6;have:=b 7;have:=b 9;have:=b 10;omega) (by omega) (by omega)
 have e8:=nd (i:=7) (p:=12) (o:=0+w / 2^3%2*2^0+w / 2^5%2*2^1+w / 2^6%2*2^2+w / 2^7%2*2^3+w / 2^9%2*2^4+w / 2^10%2*2^5+w / 2^11%2*2^6) hw (by have:=b 3;have:=b 5;have:=b 6;have:=b 7;have:=b 9;have:=b 10;have:=b 11;omega) (by omega) (by omega)
 have e:ju (w:Int)=ae w (ae w (ae w (ae w (ae w (ae w (ae w (ae w ((0:Nat):Int) ((0:Nat):Int) ((3:Nat):Int)) ((1:Nat):Int) ((5:Nat):Int)) ((2:Nat):Int) ((6:Nat):Int)) ((3:Nat):Int) ((7:Nat):Int)) ((4:Nat):Int) ((9:Nat):Int)) ((5:Nat):Int) ((10:Nat):Int)) ((6:Nat):Int) ((11:Nat):Int)) ((7:Nat):Int) ((12:Nat):Int):=rfl
 rw [e,e1,e2,e3,e4,e5,e6,e7,e8]
 congr 1
 unfold vQ
 simp only [EM,EN,EO,Nq,Nat.reducePow,OZ,Qe]
theorem vS {w s:Nat} (hw:w<65536) (hs:s<16):fH (w:Int) (s:Int)=((Nat.xor w (Nat.pow 2 s):Nat):Int):=by
 have h2:2^s<=2^15:=Nat.pow_le_pow_right (by omega) (by omega)
 have e:IntKind.u16.wrap (1*2^(min (Int.toNat (s:Int)) IntKind.u16.bits))=((2^s:Nat):Int):=by
  rw [PK,show min s IntKind.u16.bits=s by show min s 16=s;omega,IntKind.wrap_u16,Int.one_mul,show ((2:Int)^s)=((2^s:Nat):Int) by simp]
  exact Int.emod_eq_of_lt (Int.natCast_nonneg _) (Int.ofNat_lt.2 (Qz h2 (by decide)))
 unfold fH
 rw [e,u16_xor_nat _ _ hw (by omega)]
 rfl
theorem EV {w:Nat} (h:w<8192) (hm:kU w≠2):iu (w:Int)=(pW w:Int):=by
 unfold iu pW
 unfold kU at hm
 rw [OH (by omega),ER,ES]
 cases hp:Nat.beq (parF w) 1 with
 |true=>
  rw [hp,OL] at hm
  rw [OI rfl,OL]
  by_cases hs:13<=iw w
  ·rw [Nat.ble_eq_true_of_le hs] at hm;exact absurd rfl hm
  ·rw [OI (by omega),vS (by omega) (by omega)]
   refine EU ?_
   have:Nat.xor w (Nat.pow 2 (iw w))<2^16:=Nat.xor_lt_two_pow (n:=16) (by omega) (O8 (Nat.pow_lt_pow_right (by omega) (Ns w)) (by decide))
   exact this
 |false=>
  rw [hp,O0] at hm
  rw [OH (by simp),O0]
  by_cases hs:iw w=0
  ·rw [OI (by omega)];exact EU (by omega)
  ·rw [show Nat.beq (iw w) 0=false by rw [Qy];intro hh;exact hs (OR hh)] at hm;exact absurd rfl hm
open Go.RowKit
theorem EX (b:UInt8):aR (b.toNat:Int)=(j7 b.toNat:Int):=P2 (pX No b.toNat b.toNat_lt)
theorem Nu:nc (fun b=>Nat.blt (j7 b) 8192) 256=true:=by decide+kernel
theorem zI (b:UInt8):j7 b.toNat<8192:=by
 have:=pX Nu b.toNat b.toNat_lt
 exact Pn this
theorem EY (b:UInt8):pW (j7 b.toNat)=b.toNat/\kU (j7 b.toNat)=0/\∀i,i<13->pW (Nat.xor (j7 b.toNat) (Nat.pow 2 i))=b.toNat/\kU (Nat.xor (j7 b.toNat) (Nat.pow 2 i))=1/\∀k,k<i->kU (Nat.xor (Nat.xor (j7 b.toNat) (Nat.pow 2 i)) (Nat.pow 2 k))=2:=by
 have h:=pX Np b.toNat b.toNat_lt
 unfold EJ at h
 simp only [OJ] at h
 obtain ⟨h1,h2,h3⟩:=h
 refine ⟨OR h1,OR h2,fun i hi=> ?_⟩
 have h4:=pX h3 i hi
 simp only [OJ] at h4
 obtain ⟨h5,h6,h7⟩:=h4
 exact ⟨OR h5,OR h6,fun k hk=>OR (pX h7 k hk)⟩
theorem Nv {w i:Nat} (hw:w<8192) (hi:i<13):Nat.xor w (Nat.pow 2 i)<8192:=
 Nat.xor_lt_two_pow (n:=13) hw (Nat.pow_lt_pow_right (by omega) hi)
theorem EZ {w:Int} {n:Nat} (h:iu w=(n:Int)):(gq w).toNat=n:=by have:=EB w;omega
theorem Nw (b:UInt8):gq (aR (b.toNat:Int))=b/\b8 (aR (b.toNat:Int))=0:=by
 obtain ⟨h1,h2,_⟩:=EY b
 have hl:=zI b
 rw [EX]
 refine ⟨UInt8.toNat_inj.1 (EZ ?_),by rw [ET hl,h2];rfl⟩
 rw [EV hl (by omega),h1]
theorem Nx (b:UInt8) (h0:0<=i) (h1:i<=12):fH (aR (b.toNat:Int)) i=((Nat.xor (j7 b.toNat) (Nat.pow 2 i.toNat):Nat):Int):=by
 have hl:=zI b
 rw [EX]
 conv=>lhs;rw [<-Int.toNat_of_nonneg h0]
 exact vS (by omega) (by omega)
theorem Ny (b:UInt8) (h0:0<=i) (h1:i<=12):gq (fH (aR (b.toNat:Int)) i)=b/\b8 (fH (aR (b.toNat:Int)) i)=1:=by
 obtain ⟨_,_,h⟩:=EY b
 obtain ⟨h2,h3,_⟩:=h i.toNat (by omega)
 have hl:=Nv (i:=i.toNat) (zI b) (by omega)
 rw [Nx b h0 h1]
 refine ⟨UInt8.toNat_inj.1 (EZ ?_),by rw [ET hl,h3];rfl⟩
 rw [EV hl (by omega),h2]
def zJ:dx Tc Tc.dn:=⟨8,[],fun _=>True,[.m4],fun _=>true⟩
abbrev ec:=(↑(UInt8.ofNat (Int.toNat (1:Int))).toNat:Int)
abbrev fI:=(bits BinOp.xor IntKind.u16 (aR ec) (32:Int))
abbrev eu:=(aV (cr (ByteArray.mk #[(97:UInt8)])).fst)
abbrev kV:=(aR ec=(15:Int)/\gq fI=UInt8.ofNat (Int.toNat (1:Int)))
abbrev kW:=((kV/\b8 fI=(1:Int))/\b8 (bits BinOp.xor IntKind.u16 (aR ec) (3:Int))=(-1:Int))
abbrev pY:=((kW/\(cr (ByteArray.mk #[(97:UInt8)])).snd=(0:Int))/\(↑(cr (ByteArray.mk #[(97:UInt8)])).fst.size:Int)=(2:Int))
abbrev mi:=(pY/\eu.fst=ByteArray.mk #[(97:UInt8)])
abbrev zK:=((kW/\(cr (ByteArray.mk #[(97:UInt8)])).snd=(0:Int))/\(↑(cr (ByteArray.mk #[(97:UInt8)])).fst.size:Int)=(2:Int)->(kW/\(cr (ByteArray.mk #[(97:UInt8)])).snd=(0:Int))/\(↑(cr (ByteArray.mk #[(97:UInt8)])).fst.size:Int)=(2:Int))
theorem Nz  :True/\((0:Int)<=bits BinOp.xor IntKind.u16 (aR ec) (32:Int)/\bits BinOp.xor IntKind.u16 (aR ec) (32:Int)<(65536:Pt.T Tc.dn (Pt.ty Tc.cW)))/\((0:Int)<=bits BinOp.xor IntKind.u16 (aR ec) (3:Int)/\bits BinOp.xor IntKind.u16 (aR ec) (3:Int)<(65536:Pt.T Tc.dn (Pt.ty Tc.cW)))/\(ByteArray.mk #[(97:UInt8)]).size<=(9223372036854775807:Nat)/\True/\True/\(aR ec=(15:Int)->aR ec=(15:Int))/\(aR ec=(15:Int)->aR ec=(15:Int))/\(aR ec=(15:Int)/\gq fI=UInt8.ofNat (Int.toNat (1:Int))->aR ec=(15:Int)/\gq fI=UInt8.ofNat (Int.toNat (1:Int)))/\(aR ec=(15:Int)/\gq fI=UInt8.ofNat (Int.toNat (1:Int))->aR ec=(15:Int)/\gq fI=UInt8.ofNat (Int.toNat (1:Int)))/\(kV/\b8 fI=(1:Int)->kV/\b8 fI=(1:Int))/\(kV/\b8 fI=(1:Int)->kV/\b8 fI=(1:Int))/\((kV/\b8 fI=(1:Int))/\b8 (bits BinOp.xor IntKind.u16 (aR ec) (3:Int))=(-1:Int)->(kV/\b8 fI=(1:Int))/\b8 (bits BinOp.xor IntKind.u16 (aR ec) (3:Int))=(-1:Int))/\((kV/\b8 fI=(1:Int))/\b8 (bits BinOp.xor IntKind.u16 (aR ec) (3:Int))=(-1:Int)->(kV/\b8 fI=(1:Int))/\b8 (bits BinOp.xor IntKind.u16 (aR ec) (3:Int))=(-1:Int))/\(kW/\(cr (ByteArray.mk #[(97:UInt8)])).snd=(0:Int)->kW/\(cr (ByteArray.mk #[(97:UInt8)])).snd=(0:Int))/\(kW/\(cr (ByteArray.mk #[(97:UInt8)])).snd=(0:Int)->kW/\(cr (ByteArray.mk #[(97:UInt8)])).snd=(0:Int))/\(kW/\(cr (ByteArray.mk #[(97:UInt8)])).snd=(0:Int)->kW/\(cr (ByteArray.mk #[(97:UInt8)])).snd=(0:Int))/\zK/\zK/\(pY/\eu.fst=ByteArray.mk #[(97:UInt8)]->pY/\eu.fst=ByteArray.mk #[(97:UInt8)])/\(pY/\eu.fst=ByteArray.mk #[(97:UInt8)]->pY/\eu.fst=ByteArray.mk #[(97:UInt8)])/\(mi/\eu.snd.fst=(0:Int)->mi/\eu.snd.fst=(0:Int))/\(mi/\eu.snd.fst=(0:Int)->mi/\eu.snd.fst=(0:Int))/\((mi/\eu.snd.fst=(0:Int))/\eu.snd.snd=(0:Int)->(mi/\eu.snd.fst=(0:Int))/\eu.snd.snd=(0:Int))/\((mi/\eu.snd.fst=(0:Int))/\eu.snd.snd=(0:Int)->(mi/\eu.snd.fst=(0:Int))/\eu.snd.snd=(0:Int))/\(aR ec==(15:Int)&&gq fI==UInt8.ofNat (Int.toNat (1:Int))&&b8 fI==(1:Int)&&b8 (bits BinOp.xor IntKind.u16 (aR ec) (3:Int))==(-1:Int)&&(cr (ByteArray.mk #[(97:UInt8)])).snd==(0:Int)&&(↑(cr (ByteArray.mk #[(97:UInt8)])).fst.size:Int)==(2:Int)&&jG eu.fst (ByteArray.mk #[(97:UInt8)])&&eu.snd.fst==(0:Int)&&eu.snd.snd==(0:Int)&&(aV (ByteArray.mk #[(120:UInt8)])).snd.snd==(1:Int))=true:=by
 delta zK pY kV eu fI mi ec kW
 (repeat' (first|apply And.intro|intro _))<;>first|assumption|exact True.intro|(decide+kernel)|trace_state
theorem NA:zJ.Ok Try.prog tD:=pR m6 (Δ:=[zE,vO,zG,vP]) ⟨EC,zF,EE,EH,trivial⟩ (Ω:=[]) trivial zJ Bz BA (fun _=>[]) (fun _=>trivial) 0 (fun _=>fun _=>none) fun x hp=>Eq.mp (by kernel_rfl) (Nz )
open Go.RowKit
theorem E5:∀(l:List UInt8) (j:Nat),j<l.length->gd 0 (j6 l) (2*j)=UInt8.ofNat ((aR ((gd 0 l j).toNat:Int)).toNat / 256)/\gd 0 (j6 l) (2*j+1)=UInt8.ofNat (aR ((gd 0 l j).toNat:Int)).toNat
 |[],j,h=>by simp at h
 |a::r,0,h=>⟨rfl,rfl⟩
 |a::r,j+1,h=>E5 r j (by simpa using h)
theorem sw (a b:UInt8):er a b=((a.toNat*256+b.toNat:Nat):Int):=by
 have ha:=a.toNat_lt
 have hb:=b.toNat_lt
 have e:IntKind.u16.wrap (IntKind.u16.wrap (a.toNat:Int)*2^min (uN (Int.toNat 8)).n IntKind.u16.bits)=((a.toNat*256:Nat):Int):=by
  rw [show min (uN (Int.toNat 8)).n IntKind.u16.bits=8 from rfl,IntKind.wrap_u16,IntKind.wrap_u16,show ((2:Int)^8)=256 from rfl];omega
 have e2:IntKind.u16.wrap (b.toNat:Int)=(b.toNat:Int):=by rw [IntKind.wrap_u16];omega
 unfold er
 rw [e,e2,u16_or_nat _ _ (by omega) (by omega),nat_join 8 _ _ (by omega) hb]
theorem NB (a b m:Nat) (hb:b<2^8):(a^^^2^m)*256+b=(a*256+b)^^^2^(m+8):=by
 rw [PJ,PJ a]
 refine Nat.eq_of_testBit_eq fun j=> ?_
 rw [Nat.testBit_xor,show 256=2^8 from rfl,QI _ hb,QI _ hb,Nat.testBit_two_pow]
 by_cases h:j<8
 ·rw [OI h,OI h,decide_eq_false (by omega),Bool.xor_false]
 ·rw [OH h,OH h,Nat.testBit_xor,Nat.testBit_two_pow]
  congr 1
  rw [P4,PG,PG];omega
theorem NC (a b k:Nat) (hb:b<2^8) (hk:k<8):a*256+(b^^^2^k)=(a*256+b)^^^2^k:=by
 have hb2:b^^^2^k<2^8:=Nat.xor_lt_two_pow hb (Nat.pow_lt_pow_right (by omega) hk)
 rw [PJ a]
 refine Nat.eq_of_testBit_eq fun j=> ?_
 rw [Nat.testBit_xor,show 256=2^8 from rfl,QI _ hb2,QI _ hb,Nat.testBit_two_pow]
 by_cases h:j<8
 ·rw [OI h,OI h,Nat.testBit_xor,Nat.testBit_two_pow]
 ·rw [OH h,OH h,decide_eq_false (by omega),Bool.xor_false]
theorem E6 {m:Nat} (h:m<8):(iO (UInt8.ofNat (Int.toNat 1)) m).toNat=2^m:=by
 have h2:2^m<=2^7:=Nat.pow_le_pow_right (by omega) (by omega)
 unfold iO
 rw [UInt8.toNat_ofNat',show min m 8=m by omega,show (UInt8.ofNat (Int.toNat 1)).toNat=1 from rfl,Nat.one_mul]
 exact P1 (by omega)
theorem ND (a b:UInt8) (h0:8<=k) (h1:k<=12):er (a^^^iO (UInt8.ofNat (Int.toNat 1)) (k - 8).toNat) b=fH (er a b) k:=by
 have ha:=a.toNat_lt
 have hb:=b.toNat_lt
 rw [sw,sw,UInt8.toNat_xor,E6 (by omega)]
 conv=>rhs;rw [<-Int.toNat_of_nonneg (show 0<=k by omega)]
 rw [vS (by omega) (by omega),NB _ _ _ hb,show (k - 8).toNat+8=k.toNat by omega]
 rfl
theorem NF (a b:UInt8) (h0:0<=k) (h1:k<8):er a (b^^^iO (UInt8.ofNat (Int.toNat 1)) k.toNat)=fH (er a b) k:=by
 have ha:=a.toNat_lt
 have hb:=b.toNat_lt
 rw [sw,sw,UInt8.toNat_xor,E6 (by omega)]
 conv=>rhs;rw [<-Int.toNat_of_nonneg h0]
 rw [vS (by omega) (by omega),NC _ _ _ hb (by omega)]
 rfl
theorem NG (b:UInt8):er (UInt8.ofNat ((aR (b.toNat:Int)).toNat / 256)) (UInt8.ofNat (aR (b.toNat:Int)).toNat)=aR (b.toNat:Int):=by
 have h:=Ez (b.toNat:Int)
 rw [sw,UInt8.toNat_ofNat',UInt8.toNat_ofNat']
 omega
def gR (l:List Int) (j:Nat):Prop:=0<=gd 0 l j/\gd 0 l j<=12
instance (l:List Int) (j:Nat):Decidable (gR l j):=by unfold gR;exact inferInstance
def kX (l:List Int):Nat->Int
 |0=>0
 |k+1=>kX l k+if gR l k then 1 else 0
theorem zL (s:ByteArray) (j:Nat):gd 0 s.data.toList j=gb s j:=by
 unfold gd gb
 rw [Array.getElem?_toList];rfl
structure dC (s:ByteArray) (l:List Int) (i n:Int) (X:List UInt8):Prop where
 mh:s.size<=64
 lo:0<=i
 hl:i<=l.length
 hs:i<=s.size
 len:X.length=2*s.size
 w:∀j:Nat,j<s.size->er (gd 0 X (2*j)) (gd 0 X (2*j+1))=if (j:Int)<i/\gR l j then fH (aR ((gb s j).toNat:Int)) (gd 0 l j) else aR ((gb s j).toNat:Int)
 n:n=kX l i.toNat
theorem E7 {s:ByteArray} (h:(cr s).2=0):s.size<=64/\(cr s).1=⟨(j6 s.data.toList).toArray⟩:=by
 unfold cr at h ⊢
 split at h
 ·simp at h
 ·rename_i h1;rw [OH h1];exact ⟨by omega,rfl⟩
theorem NH {s:ByteArray} (h:¬(cr s).2=0):(cr s).1=⟨#[]⟩:=by
 unfold cr at h ⊢
 split at h
 ·rename_i h1;rw [OI h1]
 ·simp at h
theorem dC.start {s:ByteArray} {l:List Int} (h:(cr s).2=0):dC s l 0 0 (List.map id (cr s).1.data.toList):=by
 obtain ⟨h1,h2⟩:=E7 h
 rw [h2,List.map_id]
 refine ⟨h1,by omega,by omega,by omega,by rw [vN];rfl,fun j hj=> ?_,rfl⟩
 obtain ⟨e1,e2⟩:=E5 s.data.toList j (by simpa using hj)
 rw [OH (by omega),e1,e2,zL]
 exact NG _
theorem dC.bd {s:ByteArray} {l:List Int} {i n:Int} {X:List UInt8} (h:dC s l i n X):0<=i/\i<=64/\X.length=2*s.size/\s.size<=64/\0<=n/\n<=64:=by
 have h1:=h.mh;have h2:=h.lo;have h3:=h.hs;have h4:=h.len
 have key:∀k:Nat,0<=kX l k/\kX l k<=k:=fun k=>by
  induction k with
  |zero=>unfold kX;omega
  |succ k ih=>unfold kX;split<;>omega
 have:=key i.toNat
 have:=h.n
 omega
theorem dC.skip {s:ByteArray} {l:List Int} {i n:Int} {X:List UInt8} (h:dC s l i n X) (h1:i<l.length) (h2:i<s.size) (hk:gd 0 l i.toNat<0\/12<gd 0 l i.toNat):dC s l (i+1) n X:=by
 have h0:=h.lo
 have hn:¬gR l i.toNat:=fun hh=>by unfold gR at hh;omega
 refine ⟨h.mh,by omega,by omega,by omega,h.len,fun j hj=> ?_, ?_⟩
 ·rw [h.w j hj]
  by_cases e:j=i.toNat
  ·subst e;rw [OH (fun hh=>hn hh.2),OH (fun hh=>hn hh.2)]
  ·have:((j:Int)<i/\gR l j)↔((j:Int)<i+1/\gR l j):=⟨fun hh=>⟨by omega,hh.2⟩,fun hh=>⟨by omega,hh.2⟩⟩
   simp only [this]
 ·rw [show (i+1).toNat=i.toNat+1 by omega,kX,OH hn,h.n];omega
theorem dC.nJ {s:ByteArray} {l:List Int} {Y:List UInt8} (h:dC s l i n X) (h1:i<l.length) (h2:i<s.size) (hH:0<=gd 0 l i.toNat) (bI:gd 0 l i.toNat<=12) (hY:Y.length=X.length)
  (hi:er (gd 0 Y (2*i.toNat)) (gd 0 Y (2*i.toNat+1))=fH (er (gd 0 X (2*i.toNat)) (gd 0 X (2*i.toNat+1))) (gd 0 l i.toNat)) (ho:∀j:Nat,j≠i.toNat->gd 0 Y (2*j)=gd 0 X (2*j)/\gd 0 Y (2*j+1)=gd 0 X (2*j+1)):dC s l (i+1) (n+1) Y:=by
 have h0:=h.lo
 have ht:gR l i.toNat:=⟨hH,bI⟩
 refine ⟨h.mh,by omega,by omega,by omega,by rw [hY,h.len],fun j hj=> ?_, ?_⟩
 ·by_cases e:j=i.toNat
  ·subst e
   rw [OI ⟨by omega,ht⟩,hi,h.w _ hj,OH (fun hh=>by omega)]
  ·rw [(ho j e).1,(ho j e).2,h.w j hj]
   have:((j:Int)<i/\gR l j)↔((j:Int)<i+1/\gR l j):=⟨fun hh=>⟨by omega,hh.2⟩,fun hh=>⟨by omega,hh.2⟩⟩
   simp only [this]
 ·rw [show (i+1).toNat=i.toNat+1 by omega,kX,OI ht,h.n]
theorem nh {v:UInt8} (h:p<X.length) (q:Nat):gd 0 (X.set p v) q=if p=q then v else gd 0 X q:=by
 unfold gd
 rw [List.getElem?_set]
 by_cases e:p=q
 ·subst e;rw [OI rfl,OI rfl,OI h];rfl
 ·rw [OH e,OH e]
theorem dC.hi {s:ByteArray} {l:List Int} {i n:Int} {X:List UInt8} (h:dC s l i n X) (h1:i<l.length) (h2:i<s.size) (hH:8<=gd 0 l i.toNat) (bI:gd 0 l i.toNat<=12):dC s l (i+1) (n+1) (X.set (2*i).toNat (gd 0 X (2*i).toNat^^^iO (UInt8.ofNat (Int.toNat 1)) (gd 0 l i.toNat - 8).toNat)):=by
 have h0:=h.lo
 have hp:(2*i).toNat<X.length:=by rw [h.len];omega
 have e:(2*i).toNat=2*i.toNat:=by omega
 refine h.nJ h1 h2 (by omega) bI (by rw [Qh]) ?_ fun j hj=> ?_
 ·rw [nh hp,nh hp,OI e,OH (by omega),e]
  exact ND _ _ hH bI
 ·rw [nh hp,nh hp,OH (by omega),OH (by omega)];exact ⟨rfl,rfl⟩
theorem dC.low {s:ByteArray} {l:List Int} {i n:Int} {X:List UInt8} (h:dC s l i n X) (h1:i<l.length) (h2:i<s.size) (hH:0<=gd 0 l i.toNat) (bI:gd 0 l i.toNat<8):dC s l (i+1) (n+1) (X.set (2*i+1).toNat (gd 0 X (2*i+1).toNat^^^iO (UInt8.ofNat (Int.toNat 1)) (gd 0 l i.toNat).toNat)):=by
 have h0:=h.lo
 have hp:(2*i+1).toNat<X.length:=by rw [h.len];omega
 have e:(2*i+1).toNat=2*i.toNat+1:=by omega
 refine h.nJ h1 h2 hH (by omega) (by rw [Qh]) ?_ fun j hj=> ?_
 ·rw [nh hp,nh hp,OH (by omega),OI e,e]
  exact NF _ _ hH bI
 ·rw [nh hp,nh hp,OH (by omega),OH (by omega)];exact ⟨rfl,rfl⟩
theorem dC.fin {s:ByteArray} {l:List Int} {i n:Int} {X:List UInt8} (h:dC s l i n X) (hi:(l.length:Int)<=i\/(s.size:Int)<=i):aV ⟨(List.map id X).toArray⟩=(s,n,0):=by
 have h0:=h.lo;have h1:=h.mh;have h2:=h.hl;have h3:=h.hs;have h4:=h.len
 rw [List.map_id]
 have hsz:(⟨X.toArray⟩:ByteArray).size=2*s.size:=by rw [<-h4];rfl
 have hg:∀j,gb ⟨X.toArray⟩ j=gd 0 X j:=fun j=>by rw [<-zL]
 have hw:∀j,j<s.size->kS ⟨X.toArray⟩ j=if (j:Int)<i/\gR l j then fH (aR ((gb s j).toNat:Int)) (gd 0 l j) else aR ((gb s j).toNat:Int):=fun j hj=>by
  unfold kS
  rw [hg,hg];exact h.w j hj
 have hm:∀j,j<s.size->b8 (kS ⟨X.toArray⟩ j)=(if (j:Int)<i/\gR l j then 1 else 0)/\gq (kS ⟨X.toArray⟩ j)=gb s j:=fun j hj=>by
  rw [hw j hj]
  split
  ·rename_i hh
   have:=Ny (gb s j) hh.2.1 hh.2.2
   exact ⟨this.2,this.1⟩
  ·have:=Nw (gb s j)
   exact ⟨this.2,this.1⟩
 have hB:pV ⟨X.toArray⟩ s.size=false:=by
  unfold pV
  rw [List.any_eq_false]
  intro j hj
  rw [(hm j (Pj.1 hj)).1]
  split<;>simp
 have hO:pU ⟨X.toArray⟩ s.size=s.data.toList:=by
  unfold pU
  refine List.ext_getElem (by simp) fun j q1 q2=> ?_
  simp only [List.getElem_map,List.getElem_range]
  have hj:j<s.size:=by simpa using q1
  rw [(hm j hj).2, <-zL]
  unfold gd
  rw [OV q2];rfl
 have hN:∀k,k<=s.size->kT ⟨X.toArray⟩ k=kX l (min k i.toNat):=fun k=>by
  induction k with
  |zero=>intro _;rw [Nat.zero_min];rfl
  |succ k ih=>
   intro hk
   unfold kT
   rw [ih (by omega),(hm k (by omega)).1]
   by_cases e:k<i.toNat
   ·rw [show min (k+1) i.toNat=k+1 by omega,show min k i.toNat=k by omega,kX]
    congr 1
    have:((k:Int)<i/\gR l k)↔gR l k:=⟨fun hh=>hh.2,fun hh=>⟨by omega,hh⟩⟩
    simp only [this]
   ·rw [show min (k+1) i.toNat=i.toNat by omega,show min k i.toNat=i.toNat by omega,OH (fun hh=>by omega),Int.add_zero]
 unfold aV
 rw [hsz,OH (by omega),OH (by omega),show 2*s.size / 2=s.size by omega,hB,OH (by simp),hO,hN _ (OQ _),show min s.size i.toNat=i.toNat by omega, <-h.n]
def oH (s:ByteArray) (l:(List Int)) (i:Int) (n:Int) (X:(List UInt8)):Prop:=dC s l i n X
def E8:dx Tc Tc.dn:=⟨4,[.ty .jt, .ty .m5],fun x=>(fun (s:ByteArray) (l:(List Int))=>s.size<=9223372036854775807) x.1 x.2.1,[.m4],fun x=>(fun (s:ByteArray) (l:(List Int))=>true) x.1 x.2.1⟩
theorem NI (s:ByteArray) (l:(List Int)) (hp:s.size<=9223372036854775807):s.size<=(9223372036854775807:Nat)/\True/\(true= !true->false=true)/\(true= !false->(¬(cr s).snd=(0:Int)->jG (cr s).fst (ByteArray.mk #[])=true)/\((cr s).snd=(0:Int)->(cr s).fst.size<=(140737488355328:Nat)/\oH s l (0:Int) (0:Int) (List.map id (cr s).fst.data.toList)/\∀(x cX:Int) (aS:List UInt8),oH s l x cX aS->(x<(↑l.length:Int)->x<(↑l.length:Int))/\(x<(↑l.length:Int)->x<(↑l.length:Int))/\(x<(↑l.length:Int)->x<(↑l.length:Int))/\(x<(↑l.length:Int)->x<(↑l.length:Int))/\(x<(↑l.length:Int)/\x<(↑s.size:Int)->((0:Int)<=x/\x<(↑l.length:Int))/\((0:Int)<=gd (0:Int) l x.toNat->(0:Int)<=gd (0:Int) l x.toNat)/\((0:Int)<=gd (0:Int) l x.toNat->(0:Int)<=gd (0:Int) l x.toNat)/\(gd (0:Int) l x.toNat<(0:Int)\/(12:Int)<gd (0:Int) l x.toNat->bp (x+(1:Int))/\oH s l (x+(1:Int)) cX aS/\((64:Int) - (x+(1:Int))).toNat<((64:Int) - x).toNat)/\((0:Int)<=gd (0:Int) l x.toNat/\gd (0:Int) l x.toNat<=(12:Int)->bp (cX+(1:Int))/\((8:Int)<=gd (0:Int) l x.toNat->bp ((2:Int)*x)/\((0:Int)<=(2:Int)*x/\(2:Int)*x<(↑aS.length:Int))/\((2:Int)*x).toNat<aS.length/\bp (gd (0:Int) l x.toNat - (8:Int))/\(0:Int)<=gd (0:Int) l x.toNat - (8:Int)/\((0:Int)<=(2:Int)*x/\(2:Int)*x<(↑aS.length:Int))/\((2:Int)*x).toNat<aS.length/\bp (x+(1:Int))/\oH s l (x+(1:Int)) (cX+(1:Int)) (aS.set ((2:Int)*x).toNat (gd (0:UInt8) aS ((2:Int)*x).toNat^^^iO (UInt8.ofNat (Int.toNat (1:Int))) (gd (0:Int) l x.toNat - (8:Int)).toNat))/\((64:Int) - (x+(1:Int))).toNat<((64:Int) - x).toNat)/\(gd (0:Int) l x.toNat<(8:Int)->bp ((2:Int)*x)/\bp ((2:Int)*x+(1:Int))/\((0:Int)<=(2:Int)*x+(1:Int)/\(2:Int)*x+(1:Int)<(↑aS.length:Int))/\((2:Int)*x+(1:Int)).toNat<aS.length/\(0:Int)<=gd (0:Int) l x.toNat/\((0:Int)<=(2:Int)*x+(1:Int)/\(2:Int)*x+(1:Int)<(↑aS.length:Int))/\((2:Int)*x+(1:Int)).toNat<aS.length/\bp (x+(1:Int))/\oH s l (x+(1:Int)) (cX+(1:Int)) (aS.set ((2:Int)*x+(1:Int)).toNat (gd (0:UInt8) aS ((2:Int)*x+(1:Int)).toNat^^^iO (UInt8.ofNat (Int.toNat (1:Int))) (gd (0:Int) l x.toNat).toNat))/\((64:Int) - (x+(1:Int))).toNat<((64:Int) - x).toNat)))/\((↑l.length:Int)<=x\/(↑s.size:Int)<=x->True/\((aV (ByteArray.mk (List.map id aS).toArray)).snd.snd=(0:Int)->(aV (ByteArray.mk (List.map id aS).toArray)).snd.snd=(0:Int))/\((aV (ByteArray.mk (List.map id aS).toArray)).snd.snd=(0:Int)->(aV (ByteArray.mk (List.map id aS).toArray)).snd.snd=(0:Int))/\((aV (ByteArray.mk (List.map id aS).toArray)).snd.snd=(0:Int)->(aV (ByteArray.mk (List.map id aS).toArray)).snd.snd=(0:Int))/\((aV (ByteArray.mk (List.map id aS).toArray)).snd.snd=(0:Int)/\(aV (ByteArray.mk (List.map id aS).toArray)).fst=s->(aV (ByteArray.mk (List.map id aS).toArray)).snd.snd=(0:Int)/\(aV (ByteArray.mk (List.map id aS).toArray)).fst=s)/\((aV (ByteArray.mk (List.map id aS).toArray)).snd.snd=(0:Int)/\(aV (ByteArray.mk (List.map id aS).toArray)).fst=s->(aV (ByteArray.mk (List.map id aS).toArray)).snd.snd=(0:Int)/\(aV (ByteArray.mk (List.map id aS).toArray)).fst=s)/\((aV (ByteArray.mk (List.map id aS).toArray)).snd.snd=(0:Int)/\(aV (ByteArray.mk (List.map id aS).toArray)).fst=s->(aV (ByteArray.mk (List.map id aS).toArray)).snd.snd=(0:Int)/\(aV (ByteArray.mk (List.map id aS).toArray)).fst=s)/\(((aV (ByteArray.mk (List.map id aS).toArray)).snd.snd=(0:Int)/\(aV (ByteArray.mk (List.map id aS).toArray)).fst=s)/\(aV (ByteArray.mk (List.map id aS).toArray)).snd.fst=cX->((aV (ByteArray.mk (List.map id aS).toArray)).snd.snd=(0:Int)/\(aV (ByteArray.mk (List.map id aS).toArray)).fst=s)/\(aV (ByteArray.mk (List.map id aS).toArray)).snd.fst=cX)/\(((aV (ByteArray.mk (List.map id aS).toArray)).snd.snd=(0:Int)/\(aV (ByteArray.mk (List.map id aS).toArray)).fst=s)/\(aV (ByteArray.mk (List.map id aS).toArray)).snd.fst=cX->((aV (ByteArray.mk (List.map id aS).toArray)).snd.snd=(0:Int)/\(aV (ByteArray.mk (List.map id aS).toArray)).fst=s)/\(aV (ByteArray.mk (List.map id aS).toArray)).snd.fst=cX)/\(((aV (ByteArray.mk (List.map id aS).toArray)).snd.snd=(0:Int)/\(aV (ByteArray.mk (List.map id aS).toArray)).fst=s)/\(aV (ByteArray.mk (List.map id aS).toArray)).snd.fst=cX->((aV (ByteArray.mk (List.map id aS).toArray)).snd.snd=(0:Int)/\(aV (ByteArray.mk (List.map id aS).toArray)).fst=s)/\(aV (ByteArray.mk (List.map id aS).toArray)).snd.fst=cX)/\(((aV (ByteArray.mk (List.map id aS).toArray)).snd.snd=(0:Int)/\(aV (ByteArray.mk (List.map id aS).toArray)).fst=s)/\(aV (ByteArray.mk (List.map id aS).toArray)).snd.fst=cX->bp ((2:Int)*(↑s.size:Int)))/\(((aV (ByteArray.mk (List.map id aS).toArray)).snd.snd=(0:Int)/\(aV (ByteArray.mk (List.map id aS).toArray)).fst=s)/\(aV (ByteArray.mk (List.map id aS).toArray)).snd.fst=cX->((aV (ByteArray.mk (List.map id aS).toArray)).snd.snd=(0:Int)/\(aV (ByteArray.mk (List.map id aS).toArray)).fst=s)/\(aV (ByteArray.mk (List.map id aS).toArray)).snd.fst=cX)/\(((aV (ByteArray.mk (List.map id aS).toArray)).snd.snd=(0:Int)/\(aV (ByteArray.mk (List.map id aS).toArray)).fst=s)/\(aV (ByteArray.mk (List.map id aS).toArray)).snd.fst=cX->((aV (ByteArray.mk (List.map id aS).toArray)).snd.snd=(0:Int)/\(aV (ByteArray.mk (List.map id aS).toArray)).fst=s)/\(aV (ByteArray.mk (List.map id aS).toArray)).snd.fst=cX)/\(((aV (ByteArray.mk (List.map id aS).toArray)).snd.snd=(0:Int)/\(aV (ByteArray.mk (List.map id aS).toArray)).fst=s)/\(aV (ByteArray.mk (List.map id aS).toArray)).snd.fst=cX->((aV (ByteArray.mk (List.map id aS).toArray)).snd.snd=(0:Int)/\(aV (ByteArray.mk (List.map id aS).toArray)).fst=s)/\(aV (ByteArray.mk (List.map id aS).toArray)).snd.fst=cX)/\((aV (ByteArray.mk (List.map id aS).toArray)).snd.snd==(0:Int)&&jG (aV (ByteArray.mk (List.map id aS).toArray)).fst s&&(aV (ByteArray.mk (List.map id aS).toArray)).snd.fst==cX&&(↑(cr s).fst.size:Int)==(2:Int)*(↑s.size:Int))=true))):=by
 have a1:= @dC.start s l
 have a2:= @dC.bd s l
 have a3:= @dC.skip s l
 have a4:= @dC.hi s l
 have a5:= @dC.low s l
 have a6:= @dC.fin s l
 have b1:= @NH s
 have b2:= @E7 s
 unfold oH
 refine ⟨hp,trivial,fun h=>absurd h (by decide),fun _=>⟨fun h=>by rw [b1 h];rfl,fun h=> ?_⟩⟩
 obtain ⟨q1,q2⟩:=b2 h
 have hz:(cr s).1.size=2*s.size:=by
  rw [q2]
  show (j6 s.data.toList).toArray.size=_
  rw [List.size_toArray,vN];rfl
 refine ⟨by omega,a1 h,fun i n X hI=> ?_⟩
 have b:=a2 hI
 refine ⟨fun h=>h,fun h=>h,fun h=>h,fun h=>h,fun h1=>⟨⟨by omega,h1.1⟩,fun h=>h,fun h=>h,fun h2=>⟨by unfold bp;omega,a3 hI h1.1 h1.2 h2,by omega⟩,fun h2=>⟨by unfold bp;omega,fun h3=>⟨by unfold bp;omega,by omega,by omega,by unfold bp;omega,by omega,by omega,by omega,by unfold bp;omega,a4 hI h1.1 h1.2 h3 h2.2,by omega⟩,fun h3=>⟨by unfold bp;omega,by unfold bp;omega,by omega,by omega,by omega,by omega,by omega,by unfold bp;omega,a5 hI h1.1 h1.2 h2.1 h3,by omega⟩⟩⟩,fun hx=> ?_⟩
 have e:=a6 hI hx
 rw [hz]
 simp only [e]
 clear a1 a2 a3 a4 a5 a6 b1 b2
 refine ⟨trivial, ?_⟩
 have sE:jG s s=true:=xP.2 rfl
 have sI:bp (2*(s.size:Int)):=by unfold bp;omega
 simp [sE,sI]
theorem NJ:E8.Ok Try.prog tD:=pR m6 (Δ:=[zE,vO,zG,vP,zJ]) ⟨EC,zF,EE,EH,NA,trivial⟩ (Ω:=[]) trivial E8 Bt Bu (fun _=>[]) (fun _=>trivial) 0 (fun x=>(fun (s:ByteArray) (l:(List Int))=>(fun k=>bif Nat.beq k 0 then some (.inv [.sl 9 .eS, .sl 8 .eS, .ow 7 .j5] (fun zo zv=>(fun (i:Int) (n:Int) (X:(List UInt8))=>oH s l i n X) zv.1 zv.2.1 zv.2.2.1) (fun zo zv=>(fun (i:Int) (n:Int) (X:(List UInt8))=>(64 - i).toNat) zv.1 zv.2.1 zv.2.2.1)) else none)) x.1 x.2.1) fun x hp=>Eq.mp (by kernel_rfl) (NI x.1 x.2.1 hp)
theorem WordAll_walk (s:ByteArray) (E9:s.size<=9223372036854775807) (l:(List Int)) (Al:Option Addr) (nl cl:Nat) (rl:aN.rep w w.heap.size [.slice Al nl cl] l):Calls Try.prog 4 #[.string s, .slice Al nl cl] w fun e w'=>e= .returned (.bool true)/\Below w.heap.size w w':=by
 have rs:aN.rep w w.heap.size [.string s] s:=⟨rfl,E9⟩
 have hf:Fn Try.prog 4 [(tD.en .jt s).av tD.toTE N0,(tD.en .m5 l).av tD.toTE N0] (.v (.bool true)):=NJ.2 (s,l,()) N0 (E9)
 exact Js (vs:=[.string s, .slice Al nl cl]) hf trivial (.cons (Eg m6 (t:= .jt) rfl (LG.str.av rs)) (.cons (Eg m6 (t:= .m5) rfl ((LG.list LG.i64).av rl)) .nil))
end Go.Proofs.Ytimomnfobfjggaa
