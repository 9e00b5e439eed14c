/- What functions answer (contracts). No condition. -/
import Derived.Test.YtimomnfobfjggaaPZW
import Derived.WalkKit
import Derived.Handy
import Derived.ProofKit
import Derived.OpenShut
import Derived.ShutString
import Derived.ChangeOld
import Derived.Below
import Derived.Lib.Hide
import Derived.WalkLawsBesides
import Derived.WalkSpells
import Derived.Deep.QuietTactic
import Derived.BigQuiet
import Derived.Shelf.Strings.BuilderK
import Derived.BigCall
import Derived.Test.YtimomnfobfjggaaPZA
import Derived.Test.YtimomnfobfjggaaPZV
set_option linter.unusedSimpArgs false
set_option linter.unusedVariables false
set_option maxHeartbeats 4000000
set_option maxRecDepth 100000
namespace Go.Proofs.Ytimomnfobfjggaa
variable {E:Env} {i:Int} {bs:List Value} {b:Nat} {w:World}
open Go.ChangeShapes Go.WideShapes Go.ChangeAt Go.RowKit
open Go.ChangeMaps (open_string shut_string)
open Go.Shelf
def Ej:Go.Shelf.Ren:=⟨fun|169=>15|n=>n,fun|70=>39|9=>9|0=>0|72=>41|37=>32|127=>49|3=>3|5=>5|n=>n,fun|n=>n⟩
theorem MG:Go.Proofs.Lays.n169 Try.prog Ej:={
 mixed:=by kernel_rfl
 f169:=Try.func15.trans (congrArg some (by kernel_rfl))
 t0:=Try.underlying0
 a0:=Try.isAgg0
 z0:=Try.sizeOf0
 v0:=Try.zeroValue0
 t3:=Try.underlying3
 a3:=Try.isAgg3
 z3:=Try.sizeOf3
 v3:=Try.zeroValue3
 t9:=Try.underlying9
 a9:=Try.isAgg9
 z9:=Try.sizeOf9
 v9:=Try.zeroValue9
 t37:=Try.underlying32
 a37:=Try.isAgg32
 z37:=Try.sizeOf32
 v37:=Try.zeroValue32
 t70:=Try.underlying39
 a70:=Try.isAgg39
 z70:=Try.sizeOf39
 v70:=Try.zeroValue39
 t72:=Try.underlying41
 a72:=Try.isAgg41
 z72:=Try.sizeOf41
 v72:=Try.zeroValue41
 t127:=Try.underlying49
 a127:=Try.isAgg49
 z127:=Try.sizeOf49
 v127:=Try.zeroValue49 }
theorem vq:Builder.Extra Try.prog Ej:={
 sizeBuilder:=by kernel_rfl
 liesBuilder:=by kernel_rfl
 t5:=Try.underlying5
 a5:=Try.isAgg5
 z5:=Try.sizeOf5
 v5:=Try.zeroValue5
 infoByte:=by kernel_rfl
 cellsByte:=by kernel_rfl
 sizeByte:=by kernel_rfl
 neB5:=by decide }
def Bd (B b:Nat) (bs:List Value) (w:World):Prop:=b<B/\∃p v,(p= .pointer none\/p= .pointer (some ⟨b,0,none⟩))/\w.heap[b]? =some (.cells #[p,v] 41 (0,0))/\w.ownsRowF B 5 1 v bs.length bs
structure Kp (B b:Nat) (w w':World):Prop where
 below:Below b w w'
 old:∀k,k<B->k≠b->w'.heap[k]? =w.heap[k]?
theorem MH (h0:w.cell? ⟨b,0,none⟩=some (.pointer (some ⟨b,0,none⟩))):Calls Try.prog 18 #[.pointer (some ⟨b,0,none⟩)] w fun e w'=>e= .returned (.tuple #[])/\w'=w:=by
 obtain ⟨j,hj,_⟩:=Od.1 vq.sizeBuilder
 go_enter Try.func18,Try.ntmps18
 go_wp2
 rw [Lib.run_neq_ptr_same (te:=41) w _ Try.underlying39 hj]
 go_wp2
 go_end0
 exact ⟨rfl,rfl⟩
theorem MI (h0:w.cell? ⟨b,0,none⟩=some (.pointer none)) (hsh:w.shape? b=some (41,2)) (hfz:w.frozen? ⟨b,0,none⟩=false):Calls Try.prog 18 #[.pointer (some ⟨b,0,none⟩)] w fun e w'=>e= .returned (.tuple #[])/\w'=w.setCell ⟨b,0,none⟩ (.pointer (some ⟨b,0,none⟩)):=by
 obtain ⟨j,hj,hjs⟩:=Od.1 vq.sizeBuilder
 go_enter Try.func18,Try.ntmps18
 go_wp2
 rw [Lib.run_to_unsafe w ⟨b,0,none⟩ Try.underlying39 Try.underlying54 hj (by rw [hjs];decide) hsh (Nat.zero_lt_succ 1)]
 simp only [Result.andThen]
 rw [Oper.upon_value]
 go_wp2
 rw [run_callFunc_extern Try.func21 (by kernel_rfl) (by kernel_rfl) (by kernel_rfl) (e:=Extern.AbiNoEscape.same) (by kernel_rfl),Lib.run_noEscape]
 simp only [Result.andThen]
 rw [Oper.upon_value]
 go_wp2
 rw [Lib.run_from_unsafe w ⟨b,0,none⟩ Try.underlying54 Try.underlying39 hj hsh vq.liesBuilder]
 simp only [Result.andThen]
 rw [Oper.upon_value]
 go_wp2
 go_end0
 exact ⟨rfl,rfl⟩
theorem MJ {B:Nat} (h:Bd B b bs w):Calls Try.prog 18 #[.pointer (some ⟨b,0,none⟩)] w fun e w'=>e= .returned (.tuple #[])/\(∃v,w'.heap[b]? =some (.cells #[.pointer (some ⟨b,0,none⟩),v] 41 (0,0))/\w'.ownsRowF B 5 1 v bs.length bs)/\Kp B b w w':=by
 obtain ⟨hB,p,v,hp,hb,ho⟩:=h
 rcases hp with rfl|rfl
 ·refine (MI (by simp [World.cell?,hb]) (by simp [World.shape?,hb]) (by simp [World.frozen?,hb])).mono ?_
  rintro e w' ⟨rfl,rfl⟩
  refine ⟨rfl,⟨v,by simp [World.setCell,Array.getElem?_modify,hb],ho.kept (row:=some b) ⟨rfl,rfl,rfl,by simp [World.setCell],fun k _ hk=>Below.heap_setCell _ _ _ _ (fun e=>hk (by simp [e]))⟩ (.inr fun e=> ?_)⟩,⟨(OK b w).setCell (p:=⟨b,0,none⟩) (Og _) _,fun k _ hk=>Below.heap_setCell _ _ _ _ (fun e=>hk (by simp [e]))⟩⟩
  have:=(ho.lt b e).1
  omega
 ·refine (MH (by simp [World.cell?,hb])).mono ?_
  rintro e w' ⟨rfl,rfl⟩
  exact ⟨rfl,⟨v,hb,ho⟩,⟨OK _ _,fun _ _ _=>rfl⟩⟩
theorem Kp.trans {B b:Nat} {w w' uP:World} (h:Kp B b w w') (k:Kp B b w' uP):Kp B b w uP:=⟨h.below.trans k.below,fun q h1 h2=>(k.old q h1 h2).trans (h.old q h1 h2)⟩
theorem MK:(Try.prog.info? 5).map (fun i=>(i.zero,i.size,i.bytes))=some (some (.int .u8 0),1,1):=by kernel_rfl
theorem Ek {B:Nat} (c:Int) (h:Bd B b bs w) (hl:bs.length+1<=1000000) (hBw:B<=w.heap.size):Calls Try.prog 14 #[.pointer (some ⟨b,0,none⟩), .int .u8 c] w fun e w'=>e= .returned .nilIface/\Bd B b (bs++[.int .u8 c]) w'/\Kp B b w w':=by
 obtain ⟨i0,hi,hz0,hz1,hz2⟩:=info_parts MK
 have hbB:=h.1
 go_enter Try.func14,Try.ntmps14
 go_wp2_with (go_at_call 18;refine (MJ h).mono ?_)
 rintro e w1 ⟨rfl,⟨v,hb,ho⟩,hk⟩
 have c0:w1.cell? ⟨b,0,none⟩=some (.pointer (some ⟨b,0,none⟩)):=by simp [World.cell?,hb]
 have c1:w1.cell? ⟨b,1,none⟩=some v:=by simp [World.cell?,hb]
 have hs1:=hk.below.size
 go_wp2_with (at_builtin;refine wpList_append_ownF _ rfl _ _ 32 rfl B 5 i0 (.int .u8 0) 1 1 Try.underlying32 hi hz0 hz1 hz2 rfl (by decide) _ _ _ rfl (ho.alloc _) ⟨w1.heap.size,0,none⟩ 1 1 [.int .u8 c] rfl rfl ?c1 ?c2 ?c3 ?c4 ?c5 ?_)
 case c1=>
  intro j u hj
  match j,hj with
  |0,hj=>simp at hj;subst hj;simp [Addr.add]
 case c2=>intro u hu;simp at hu;subst hu;rfl
 case c3=>unfold maxLen;omega
 case c4=>omega
 case c5=>simp;omega
 intro v' w2 ho2 hgr _
 have hne:v.ownBlock≠some b:=fun e=>by have:=(ho.lt b e).1;omega
 have hlt:b<w1.heap.size:=(OJ.1 hb).1
 have hb2:w2.heap[b]? =some (.cells #[.pointer (some ⟨b,0,none⟩),v] 41 (0,0)):=by
  rw [hgr.block b (by simp;omega) (fun e=>hne e.symm)]
  exact (O7 w1 _ b hlt).trans hb
 have d0:w2.cell? ⟨b,0,none⟩=some (.pointer (some ⟨b,0,none⟩)):=by simp [World.cell?,hb2]
 have d1:w2.cell? ⟨b,1,none⟩=some v:=by simp [World.cell?,hb2]
 have f1:w2.frozen? ⟨b,1,none⟩=false:=by simp [World.frozen?,hb2]
 obtain ⟨g,cap,rfl,hg⟩:∃g cap,v'= .slice (some ⟨g,0,none⟩) (bs.length+1) cap/\B<=g:=by
  rcases ho2.2 with ⟨_,h0⟩|⟨g,cap,cur,fz,hv,hB,_⟩
  ·omega
  ·exact ⟨g,cap,hv,hB⟩
 have hsz2:=hgr.size
 simp only [World.size_alloc] at hsz2
 have hk2:Kp B b w1 w2:=by
  refine ⟨((OK b w1).alloc (by omega) _).grown hgr (by simp;omega) (fun k hk=>by have:=(ho.lt k hk).1;omega),fun k h1 h2=> ?_⟩
  rw [hgr.block k (by simp;omega) (fun e=>by have:=(ho.lt k e.symm).1;omega)]
  exact O7 w1 _ k (by omega)
 go_wp2
 go_ret
 refine ⟨rfl,⟨hbB,_, .slice (some ⟨g,0,none⟩) (bs.length+1) cap, .inr rfl,by simp [World.setCell,Array.getElem?_modify,hb2], ?_⟩,(hk.trans hk2).trans ⟨(OK b _).setCell (p:=⟨b,1,none⟩) (Og _) _,fun k _ hk=>Below.heap_setCell _ _ _ _ (fun e=>hk (by simp [e]))⟩⟩
 rw [Pk]
 refine ho2.kept (row:=some b) ⟨rfl,rfl,rfl,by simp [World.setCell],fun k _ hk=>Below.heap_setCell _ _ _ _ (fun e=>hk (by simp [e]))⟩ (.inr fun e=> ?_)
 simp [Value.ownBlock] at e
 omega
theorem ML {B:Nat} {l:List UInt8} (h:Bd B b (Lib.byteCells l) w):Calls Try.prog 15 #[.pointer (some ⟨b,0,none⟩)] w fun e w'=>e= .returned (.string ⟨l.toArray⟩)/\Below b w w':=by
 obtain ⟨hB,p,v,hp,hb,ho⟩:=h
 have hlt:b<w.heap.size:=(OJ.1 hb).1
 have hx:Lib.BuilderAtF 41 5 b b p (Lib.byteCells l) w:=⟨Og _,v,hb,⟨ho.1,ho.2.imp id fun ⟨g,cap,cur,fz,e,hg,r⟩=>⟨g,cap,cur,fz,e,by omega,r⟩⟩,fun e=>by have:=(ho.lt b e).1;omega⟩
 refine (Any.Builder_String_any_k MG vq b b l w (by rcases hp with rfl|rfl;exact .inl hx;exact .inr hx) (by omega)).mono ?_
 rintro e w' ⟨rfl,_,hb2,_⟩
 exact ⟨rfl,hb2⟩
theorem MM (b:UInt8) (w:World):Calls Try.prog 6 #[.int .u8 b.toNat] w fun e w'=>e= .returned (.int .u16 (aR (b.toNat:Int)))/\Below w.heap.size w w':=
 (Ef b w (fun _=>False) #[.int .u8 b.toNat] (fun _ h=>h.elim) trivial ⟨rfl,fun i v c hv hc=>by
  cases i with
  |zero=>simp at hv hc;subst hv;subst hc;exact .v rfl
  |succ i=>simp at hv⟩).mono fun e w' ⟨v,he,hr,hb⟩=>⟨he.trans (by rw [hr.iw]),hb⟩
theorem Bd.bL {B:Nat} {w':World} (h:Bd B b bs w) (hk:∀k,k<w.heap.size->w'.heap[k]? =w.heap[k]?):Bd B b bs w':=by
 obtain ⟨hB,p,v,hp,hb,ho⟩:=h
 refine ⟨hB,p,v,hp,(hk b (OJ.1 hb).1).trans hb,ho.1,ho.2.imp id fun ⟨g,cap,cur,fz,e,hg,hc,r⟩=>⟨g,cap,cur,fz,e,hg,(hk g (OJ.1 hc).1).trans hc,r⟩⟩
def vr (b:UInt8):List UInt8:=[UInt8.ofNat ((aR (b.toNat:Int)).toNat / 256),UInt8.ofNat (aR (b.toNat:Int)).toNat]
def ot (l:List UInt8):List UInt8:=l.flatMap vr
theorem MN (b:Int):0<=aR b/\aR b<65536:=by
 have hS:∀s n m w:Int,(0<=w/\w<65536)->0<=cd s n m w/\cd s n m w<65536:=fun s n m w h=>by
  unfold cd
  split
  ·exact h
  ·exact dt _ _ _
 unfold aR
 split
 ·exact dt _ _ _
 ·exact hS _ _ _ _ (hS _ _ _ _ (hS _ _ _ _ (hS _ _ _ _ (dS _))))
theorem El (l:List UInt8):(ot l).length=2*l.length:=by
 induction l with
 |nil=>rfl
 |cons a l ih=>show (vr a++ot l).length=_;rw [Pk,ih];simp [vr];omega
def dU (s:ByteArray):ByteArray×Int:=if 64<s.size then (⟨#[]⟩,2) else (⟨(ot s.data.toList).toArray⟩,0)
theorem MO (s:ByteArray) (w:World) (hs:s.size<=9223372036854775807):Calls Try.prog 9 #[.string s] w fun e w'=>e= .returned (.tuple #[.string (dU s).1, .int .i64 (dU s).2])/\Below w.heap.size w w':=by
 have hcv2:=fun w s=>run_bytes_of_string (P:=Try.prog) w 9 32 5 s Try.underlying9 Try.underlying32 Try.underlying5
 go_enter Try.func9,Try.ntmps9
 go_wp2
 ·rename_i h
  go_ret2
  unfold dU
  rw [N8 (by omega)]
  exact ⟨rfl,OK _ _⟩
 ·have h64:(s.size:Int)<=64:=by assumption
  have hrow:∀j (hj:j<s.size),(bytesRow s (grownCap (w.alloc (.cells #[.pointer none, .slice none 0 0] 41)) s.size 0 5))[j]? =some (.int .u8 ((s.data[j]'hj).toNat:Int)):=fun j hj=>bytesRow_at s _ j hj
  generalize grownCap (w.alloc (.cells #[.pointer none, .slice none 0 0] 41)) s.size 0 5=cap at hrow ⊢
  go_loopw [14] (fun i wr=>∃k:Nat,i= .int .i64 (k:Int)/\k<=s.size/\Bd (w.heap.size+2) w.heap.size (Lib.byteCells (ot (s.data.toList.take k))) wr/\(∀j (hj:j<s.size),wr.cell? ⟨w.heap.size+1,j,none⟩=some (.int .u8 ((s.data[j]'hj).toNat:Int)))/\w.heap.size+2<=wr.heap.size/\Below w.heap.size w wr) (fun i wr=>s.size - (intOf i).toNat)
  case atStart=>
   refine ⟨0,rfl,Nat.zero_le _,⟨by omega, .pointer none, .slice none 0 0, .inl rfl, ?_,World.ownsRowF_nil _ _ _ _⟩,fun j hj=> ?_,by simp,(((OK _ w).alloc (Og _) _).alloc (by simp) _).drew⟩
   ·exact (O7 _ _ _ (by simp)).trans (World.alloc_heap_new w _)
   ·have hsz:(w.alloc (.cells #[.pointer none, .slice none 0 0] 41)).heap.size=w.heap.size+1:=by simp
    rw [<-hrow j hj, <-hsz]
    exact World.cell?_alloc_mark _ _ _ _ _
  case round=>
   obtain ⟨k,rfl,hk,hB,hc,hsz,hbw⟩:=hrel
   by_cases hks:k<s.size
   ·have hck:=hc k hks
    have hlt:(k:Int)<s.size:=by omega
    go_wp2_with (go_at_call 6;refine (MM _ _).mono ?_)
    rintro e w1 ⟨rfl,b1⟩
    have hl:(s.data.toList.take k).length=k:=by rw [Pp];show min k s.data.size=k;exact PQ hk
    have hsz1:=b1.size
    have hB1:=hB.bL fun q hq=>b1.block q hq
    go_wp2_with (go_at_call 14;refine (Ek _ hB1 (by rw [Lib.byteCells_length,El,hl];omega) (by omega)).mono ?_)
    rintro e w2 ⟨rfl,hB2,k2⟩
    have hsz2:=k2.below.size
    go_wp2_with (go_at_call 14;refine (Ek _ hB2 (by rw [Pk,Lib.byteCells_length,El,hl];simp;omega) (by omega)).mono ?_)
    rintro e w3 ⟨rfl,hB3,k3⟩
    have hsz3:=k3.below.size
    go_wp2
    go_roundw
    case rel=>
     refine ⟨k+1,by first|rfl|simp|omega,by omega, ?_,fun j hj=> ?_,by omega, ?_⟩
     ·have he:Lib.byteCells (ot (s.data.toList.take (k+1)))=Lib.byteCells (ot (s.data.toList.take k))++[Value.int IntKind.u8 (aR ↑s.data[k].toNat / 256%256)]++[Value.int IntKind.u8 (aR ↑s.data[k].toNat%256)]:=by
       have h0:=MN (s.data[k].toNat:Int)
       rw [List.take_succ_eq_append_getElem (by simpa using hks),ot,List.flatMap_append,Lib.byteCells_append,Po]
       congr 1
       simp [vr,Lib.byteCells]
       omega
      rw [he];exact hB3
     ·have hq:(w.heap.size+1)<wr.heap.size:=by omega
      have e1:=k3.old (w.heap.size+1) (by omega) (by omega)
      have e2:=k2.old (w.heap.size+1) (by omega) (by omega)
      have e3:=b1.block (w.heap.size+1) hq
      rw [<-hc j hj]
      unfold World.cell?
      simp only [e1,e2,e3]
     ·exact hbw.trans ((b1.mono (by omega)).trans (k2.below.trans k3.below))
    case measure=>simp only [intOf];omega
   ·have hlt:¬(k:Int)<s.size:=by omega
    go_wp2_with (go_at_call 15;refine (ML hB).mono ?_)
    rintro e w1 rfl b1
    go_wp2
    go_ret2
    have e:s.data.toList.take k=s.data.toList:=PA (by show s.data.toList.length<=k;simp;omega)
    rw [e]
    unfold dU
    rw [N7 (by omega)]
    exact ⟨rfl,hbw.trans b1⟩
open Go.RowKit
theorem MP:∀{vs:List Value} {ws:Array Value},RC E ws (vs.map AV.v)->ws=vs.toArray:=by
 intro vs ws h
 apply Array.ext
 ·simpa using h.1
 ·intro i h1 h2
  have h3:i<vs.length:=by simpa using h2
  have:=h.2 i ws[i] (.v vs[i]) (Oo h1) (by rw [Oy,Oq h3];rfl)
  generalize hq:ws[i]=q at this
  generalize hp:vs[i]=p at this
  have e:q=p:=by cases this with|v h=>rfl
  rw [e, <-hp];simp
theorem MQ {P:Program} {f:FuncId} {vs:List Value} {u:Value} {r:AV} (hr:∀E:Env,aj E u r) (h:∀w,Calls P f vs.toArray w fun e w'=>e= .returned u/\Below w.heap.size w w'):Fn P f (vs.map AV.v) r:=by
 intro w J ws hJ hG bF
 rw [MP bF]
 exact (h w).mono fun e w' ⟨h1,h2⟩=>⟨u,h1,hr _,h2⟩
theorem MR {a b:Value} (ha:plainV a=true) (hb:plainV b=true):aj E (.tuple #[a,b]) (.aK [.v a, .v b]):=by
 refine .aK rfl fun i v c hv hc=> ?_
 match i with
 |0=>simp at hv hc;subst hv;subst hc;exact .v ha
 |1=>simp at hv hc;subst hv;subst hc;exact .v hb
 |i+2=>simp at hc
theorem MS (x y:Int):0<=bits BinOp.or IntKind.u8 x y/\bits BinOp.or IntKind.u8 x y<256:=by
 unfold bits
 show 0<=IntKind.u8.wrap _/\IntKind.u8.wrap _<256
 rw [IntKind.wrap_u8'];omega
theorem Em (w:Int):0<=jj w/\jj w<256:=MS _ _
theorem En (w:Int):0<=gf w/\gf w<256:=by
 have h1:=Em w
 have h2:=Em (lV w (synI w))
 unfold gf
 repeat' split
 all_goals omega
def cI (w:Int):UInt8:=UInt8.ofNat (gf w).toNat
theorem Eo (w:Int):((cI w).toNat:Int)=gf w:=by
 have:=En w
 unfold cI
 rw [UInt8.toNat_ofNat']
 omega
def zr:dr Tc Tc.dn:=⟨6,[.ty .kE],fun _=>True,[.cW],fun x=>aR (x.1.toNat:Int)⟩
theorem Ep:zr.Ok Try.prog tD:=⟨Bj,fun x N h=>Ef x.1⟩
def vA:dr Tc Tc.dn:=⟨7,[.ty .cW],fun x=>(0:Int)<=x.1/\(x.1:Int)<65536,[.kE, .eM],fun x=>(cI x.1,br x.1)⟩
theorem zt:vA.Ok Try.prog tD:=⟨Bm,fun x N h=>by
 have:=MF x.1 h
 rw [<-Eo] at this
 exact this⟩
def zu:dr Tc Tc.dn:=⟨9,[.ty .lT],fun x=>ByteArray.size x.1<=9223372036854775807,[.lT, .eM],fun x=>dU x.1⟩
theorem Er:zu.Ok Try.prog tD:=⟨Bp,fun x N h=>MQ (vs:=[.string x.1]) (u:= .tuple #[.string (dU x.1).1, .int .i64 (dU x.1).2]) (fun _=>MR rfl rfl) fun w=>MO x.1 w h⟩
def jV (a b:UInt8):Int:=bits BinOp.or IntKind.u16 (IntKind.u16.wrap (IntKind.u16.wrap (a.toNat:Int)*2^min (uN (Int.toNat 8)).n IntKind.u16.bits)) (IntKind.u16.wrap (b.toNat:Int))
theorem Es (a b:UInt8):0<=jV a b/\jV a b<65536:=by unfold jV;exact dt _ _ _
theorem vB (w:Int): -1<=br w/\br w<=1:=by
 unfold br
 repeat' split
 all_goals omega
def pI (t:ByteArray) (i:Nat):Int:=jV (gb t (2*i)) (gb t (2*i+1))
def vC (t:ByteArray) (k:Nat):List UInt8:=(List.range k).map fun i=>cI (pI t i)
def mS (t:ByteArray):Nat->Int
 |0=>0
 |k+1=>mS t k+br (pI t k)
def vD (t:ByteArray) (k:Nat):Bool:=(List.range k).any fun i=>decide (br (pI t i)<0)
def gM (t:ByteArray):ByteArray×Int×Int:=if 128<t.size then (⟨#[]⟩,0,2) else if ¬t.size%2=0 then (⟨#[]⟩,0,1) else if vD t (t.size / 2)=true then (⟨#[]⟩,0,5) else (⟨(vC t (t.size / 2)).toArray⟩,mS t (t.size / 2),0)
theorem Et (t:ByteArray):∀k:Nat, -(k:Int)<=mS t k/\mS t k<=k
 |0=>by unfold mS;omega
 |k+1=>by
  have h1:=Et t k
  have h2:=vB (pI t k)
  unfold mS;omega
structure eB (t:ByteArray) (i n:Int) (out:List UInt8):Prop where
 vE:t.size<=128
 ev:t.size%2=0
 lo:0<=i
 hi:i<=t.size
 e2:i%2=0
 ok:vD t (i.toNat / 2)=false
 n:n=mS t (i.toNat / 2)
 o:out=vC t (i.toNat / 2)
theorem eB.start {t:ByteArray} (h:(t.size:Int)<=128) (h2:(t.size:Int)%2=0):eB t 0 0 []:=⟨by omega,by omega,by omega,by omega,by omega,rfl,rfl,rfl⟩
theorem eB.bd {t:ByteArray} {i n:Int} {out:List UInt8} (h:eB t i n out):0<=i/\i<=128/\(i<t.size->i+1<t.size)/\out.length<=64/\ -64<=n/\n<=64:=by
 have h1:=h.vE;have h2:=h.ev;have h3:=h.lo;have h4:=h.hi;have h5:=h.e2
 have h6:=Et t (i.toNat / 2)
 have h7:out.length=i.toNat / 2:=by rw [h.o];simp [vC]
 have:=h.n
 omega
theorem eB.wd {t:ByteArray} {n:Int} {out:List UInt8} (h:eB t i n out):jV (gb t i.toNat) (gb t (i+1).toNat)=pI t (i.toNat / 2):=by
 have h3:=h.lo;have h5:=h.e2
 unfold pI
 rw [show 2*(i.toNat / 2)=i.toNat by omega,show (i+1).toNat=i.toNat+1 by omega]
theorem eB.bad {t:ByteArray} {i n:Int} {out:List UInt8} (h:eB t i n out) (hi:i<t.size) (hb:br (jV (gb t i.toNat) (gb t (i+1).toNat))<0):((⟨#[]⟩:ByteArray),(0:Int),(5:Int))=gM t:=by
 have h1:=h.vE;have h2:=h.ev;have h3:=h.lo;have h5:=h.e2
 rw [h.wd] at hb
 unfold gM
 rw [N7 (by omega),N7 (by omega),N8]
 unfold vD
 rw [PU]
 exact ⟨i.toNat / 2,OL.2 (by omega),by simpa using hb⟩
theorem eB.step {t:ByteArray} {i n:Int} {out:List UInt8} (h:eB t i n out) (hi:i<t.size) (hb:0<=br (jV (gb t i.toNat) (gb t (i+1).toNat))):eB t (i+2) (n+br (jV (gb t i.toNat) (gb t (i+1).toNat))) (out++[cI (jV (gb t i.toNat) (gb t (i+1).toNat))]):=by
 have h1:=h.vE;have h2:=h.ev;have h3:=h.lo;have h5:=h.e2
 rw [h.wd] at hb ⊢
 have e:(i+2).toNat / 2=i.toNat / 2+1:=by omega
 refine ⟨h1,h2,by omega,by omega,by omega, ?_, ?_, ?_⟩
 ·have:=h.ok
  unfold vD at this ⊢
  rw [e,List.range_succ,List.any_append,this]
  simpa using hb
 ·rw [e,mS,h.n]
 ·rw [e,h.o];unfold vC;rw [List.range_succ,O9];rfl
theorem eB.fin {t:ByteArray} {i n:Int} {out:List UInt8} (h:eB t i n out) (hi:t.size<=i):((⟨(List.map id out).toArray⟩:ByteArray),n,(0:Int))=gM t:=by
 have h1:=h.vE;have h2:=h.ev;have h3:=h.lo;have h4:=h.hi
 have e:i.toNat=t.size:=by omega
 unfold gM
 rw [N7 (by omega),N7 (by omega),N7 (by rw [<-e,h.ok];simp),List.map_id,h.o,h.n,e]
def se (t:ByteArray) (i:Int) (n:Int) (out:(List UInt8)):Prop:=eB t i n out
def vF:dr Tc Tc.dn:=⟨10,[.ty .lT],fun x=>(fun (t:ByteArray)=>True) x.1,[.lT, .eM, .eM],fun x=>(fun (t:ByteArray)=>gM t) x.1⟩
theorem MT (t:ByteArray):((128:Int)<(↑t.size:Int)->(ByteArray.mk #[],(0:Int),(2:Int))=gM t)/\((↑t.size:Int)<=(128:Int)->((0:Int)<=(↑t.size:Int)/\(2:Int)≠(0:Int))/\(¬(↑t.size:Int)%(2:Int)=(0:Int)->(ByteArray.mk #[],(0:Int),(1:Int))=gM t)/\((↑t.size:Int)%(2:Int)=(0:Int)->se t (0:Int) (0:Int) []/\∀(x ee:Int) (vG:List UInt8),se t x ee vG->(x<(↑t.size:Int)->((0:Int)<=x/\x<(↑t.size:Int))/\bJ (x+(1:Int))/\((0:Int)<=x+(1:Int)/\x+(1:Int)<(↑t.size:Int))/\((0:Int)<=bits BinOp.or IntKind.u16 (IntKind.u16.wrap (IntKind.u16.wrap (↑(gb t x.toNat).toNat:Int)*(2:Int)^min (uN (Int.toNat (8:Int))).n IntKind.u16.bits)) (IntKind.u16.wrap (↑(gb t (x+(1:Int)).toNat).toNat:Int))/\bits BinOp.or IntKind.u16 (IntKind.u16.wrap (IntKind.u16.wrap (↑(gb t x.toNat).toNat:Int)*(2:Int)^min (uN (Int.toNat (8:Int))).n IntKind.u16.bits)) (IntKind.u16.wrap (↑(gb t (x+(1:Int)).toNat).toNat:Int))<(65536:Pt.T Tc.dn (Pt.ty Tc.cW)))/\(br (bits BinOp.or IntKind.u16 (IntKind.u16.wrap (IntKind.u16.wrap (↑(gb t x.toNat).toNat:Int)*(2:Int)^min (uN (Int.toNat (8:Int))).n IntKind.u16.bits)) (IntKind.u16.wrap (↑(gb t (x+(1:Int)).toNat).toNat:Int)))<(0:Int)->(ByteArray.mk #[],(0:Int),(5:Int))=gM t)/\((0:Int)<=br (bits BinOp.or IntKind.u16 (IntKind.u16.wrap (IntKind.u16.wrap (↑(gb t x.toNat).toNat:Int)*(2:Int)^min (uN (Int.toNat (8:Int))).n IntKind.u16.bits)) (IntKind.u16.wrap (↑(gb t (x+(1:Int)).toNat).toNat:Int)))->(vG.length+(1:Nat))*(1:Nat)<=(140737488355328:Nat)/\bJ (ee+br (bits BinOp.or IntKind.u16 (IntKind.u16.wrap (IntKind.u16.wrap (↑(gb t x.toNat).toNat:Int)*(2:Int)^min (uN (Int.toNat (8:Int))).n IntKind.u16.bits)) (IntKind.u16.wrap (↑(gb t (x+(1:Int)).toNat).toNat:Int))))/\bJ (x+(2:Int))/\se t (x+(2:Int)) (ee+br (bits BinOp.or IntKind.u16 (IntKind.u16.wrap (IntKind.u16.wrap (↑(gb t x.toNat).toNat:Int)*(2:Int)^min (uN (Int.toNat (8:Int))).n IntKind.u16.bits)) (IntKind.u16.wrap (↑(gb t (x+(1:Int)).toNat).toNat:Int)))) (vG++[cI (bits BinOp.or IntKind.u16 (IntKind.u16.wrap (IntKind.u16.wrap (↑(gb t x.toNat).toNat:Int)*(2:Int)^min (uN (Int.toNat (8:Int))).n IntKind.u16.bits)) (IntKind.u16.wrap (↑(gb t (x+(1:Int)).toNat).toNat:Int)))])/\((↑t.size:Int) - (x+(2:Int))).toNat<((↑t.size:Int) - x).toNat))/\((↑t.size:Int)<=x->(ByteArray.mk (List.map id vG).toArray,ee,(0:Int))=gM t))):=by
 have h1:= @eB.start t
 have h2:= @eB.bd t
 have h3:= @eB.bad t
 have h4:= @eB.step t
 have h5:= @eB.fin t
 have h6:∀a b:UInt8,bits BinOp.or IntKind.u16 (IntKind.u16.wrap (IntKind.u16.wrap (a.toNat:Int)*2^min (uN (Int.toNat 8)).n IntKind.u16.bits)) (IntKind.u16.wrap (b.toNat:Int))=jV a b:=fun a b=>rfl
 have h7:=Es
 have h8:=vB
 have e1:128<(t.size:Int)->gM t=(⟨#[]⟩,0,2):=fun h=>by unfold gM;rw [N8 (by omega)]
 have e2:(t.size:Int)<=128->¬(t.size:Int)%2=0->gM t=(⟨#[]⟩,0,1):=fun h h2=>by unfold gM;rw [N7 (by omega),N8 (by omega)]
 simp only [h6]
 unfold se
 refine ⟨fun h=>(e1 h).symm,fun h=>⟨by omega,fun h2=>(e2 h h2).symm,fun s7=>⟨eB.start h s7,fun i n out hI=> ?_⟩⟩⟩
 have b:=hI.bd
 have hm:=vB (jV (gb t i.toNat) (gb t (i+1).toNat))
 clear e1 e2 h1 h2 h3 h4 h5 h6 h7 h8
 exact ⟨fun hi=>⟨by omega,by unfold bJ;omega,by omega,Es _ _,fun hb=>hI.bad hi hb,fun hb=>⟨by omega,by unfold bJ;omega,by unfold bJ;omega,hI.step hi hb,by omega⟩⟩,hI.fin⟩
theorem Eu:vF.Ok Try.prog tD:=pF og (Δ:=[vA]) ⟨zt,trivial⟩ (Ω:=[]) trivial vF Br Bs (fun _=>[]) (fun _=>trivial) 0 (fun x=>(fun (t:ByteArray)=>(fun k=>bif Nat.beq k 0 then some (.inv [.sl 7 .eM, .sl 6 .eM, .ow 5 .kE] (fun zo zv=>(fun (i:Int) (n:Int) (out:(List UInt8))=>se t i n out) zv.1 zv.2.1 zv.2.2.1) (fun zo zv=>(fun (i:Int) (n:Int) (out:(List UInt8))=>((t.size:Int) - i).toNat) zv.1 zv.2.1 zv.2.2.1)) else none)) x.1) fun x hp=>Eq.mp (by kernel_rfl) (MT x.1)
open Go.RowKit
def ik (w:Nat):Nat:=Nat.xor (Nat.xor (Nat.xor (Nat.xor (Nat.xor (Nat.xor (Nat.xor (Nat.xor (Nat.xor (Nat.xor (Nat.xor (Nat.xor (Nat.mul (Nat.mod w 2) 0) (Nat.mul (Nat.mod (Nat.div w 2) 2) 1)) (Nat.mul (Nat.mod (Nat.div w 4) 2) 2)) (Nat.mul (Nat.mod (Nat.div w 8) 2) 3)) (Nat.mul (Nat.mod (Nat.div w 16) 2) 4)) (Nat.mul (Nat.mod (Nat.div w 32) 2) 5)) (Nat.mul (Nat.mod (Nat.div w 64) 2) 6)) (Nat.mul (Nat.mod (Nat.div w 128) 2) 7)) (Nat.mul (Nat.mod (Nat.div w 256) 2) 8)) (Nat.mul (Nat.mod (Nat.div w 512) 2) 9)) (Nat.mul (Nat.mod (Nat.div w 1024) 2) 10)) (Nat.mul (Nat.mod (Nat.div w 2048) 2) 11)) (Nat.mul (Nat.mod (Nat.div w 4096) 2) 12)
def parF (w:Nat):Nat:=Nat.mod (Nat.add (Nat.mod w 2) (Nat.add (Nat.mod (Nat.div w 2) 2) (Nat.add (Nat.mod (Nat.div w 4) 2) (Nat.add (Nat.mod (Nat.div w 8) 2) (Nat.add (Nat.mod (Nat.div w 16) 2) (Nat.add (Nat.mod (Nat.div w 32) 2) (Nat.add (Nat.mod (Nat.div w 64) 2) (Nat.add (Nat.mod (Nat.div w 128) 2) (Nat.add (Nat.mod (Nat.div w 256) 2) (Nat.add (Nat.mod (Nat.div w 512) 2) (Nat.add (Nat.mod (Nat.div w 1024) 2) (Nat.add (Nat.mod (Nat.div w 2048) 2) (Nat.add (Nat.mod (Nat.div w 4096) 2) (Nat.add (Nat.mod (Nat.div w 8192) 2) (Nat.add (Nat.mod (Nat.div w 16384) 2) (Nat.mod (Nat.div w 32768) 2)))))))))))))))) 2
def vH (w:Nat):Nat:=Nat.add (Nat.mul (Nat.mod (Nat.div w 8) 2) 1) (Nat.add (Nat.mul (Nat.mod (Nat.div w 32) 2) 2) (Nat.add (Nat.mul (Nat.mod (Nat.div w 64) 2) 4) (Nat.add (Nat.mul (Nat.mod (Nat.div w 128) 2) 8) (Nat.add (Nat.mul (Nat.mod (Nat.div w 512) 2) 16) (Nat.add (Nat.mul (Nat.mod (Nat.div w 1024) 2) 32) (Nat.add (Nat.mul (Nat.mod (Nat.div w 2048) 2) 64) (Nat.mul (Nat.mod (Nat.div w 4096) 2) 128)))))))
def mT (w:Nat):Nat:=bif Nat.beq (parF w) 1 then (bif Nat.ble 13 (ik w) then 2 else 1) else (bif Nat.beq (ik w) 0 then 0 else 2)
def sf (w:Nat):Nat:=bif Nat.beq (parF w) 1 then vH (Nat.xor w (Nat.pow 2 (ik w))) else vH w
def MU (b:Nat):Nat:=Nat.add (Nat.mul (Nat.mod b 2) 8) (Nat.add (Nat.mul (Nat.mod (Nat.div b 2) 2) 32) (Nat.add (Nat.mul (Nat.mod (Nat.div b 4) 2) 64) (Nat.add (Nat.mul (Nat.mod (Nat.div b 8) 2) 128) (Nat.add (Nat.mul (Nat.mod (Nat.div b 16) 2) 512) (Nat.add (Nat.mul (Nat.mod (Nat.div b 32) 2) 1024) (Nat.add (Nat.mul (Nat.mod (Nat.div b 64) 2) 2048) (Nat.mul (Nat.mod (Nat.div b 128) 2) 4096)))))))
def vI (b:Nat):Nat:=Nat.xor (Nat.xor (Nat.xor (Nat.xor (Nat.xor (Nat.xor (Nat.xor (Nat.mul (Nat.mod b 2) 3) (Nat.mul (Nat.mod (Nat.div b 2) 2) 5)) (Nat.mul (Nat.mod (Nat.div b 4) 2) 6)) (Nat.mul (Nat.mod (Nat.div b 8) 2) 7)) (Nat.mul (Nat.mod (Nat.div b 16) 2) 9)) (Nat.mul (Nat.mod (Nat.div b 32) 2) 10)) (Nat.mul (Nat.mod (Nat.div b 64) 2) 11)) (Nat.mul (Nat.mod (Nat.div b 128) 2) 12)
def Ev (b:Nat):Nat:=Nat.add (MU b) (Nat.add (Nat.mul (Nat.mod (vI b) 2) 2) (Nat.add (Nat.mul (Nat.mod (Nat.div (vI b) 2) 2) 4) (Nat.add (Nat.mul (Nat.mod (Nat.div (vI b) 4) 2) 16) (Nat.mul (Nat.mod (Nat.div (vI b) 8) 2) 256))))
def pJ (b:Nat):Nat:=Nat.add (Ev b) (parF (Ev b))
def pK (w:Nat):Nat:=Nat.add (Nat.mod w 2) (Nat.add (Nat.mod (Nat.div w 2) 2) (Nat.add (Nat.mod (Nat.div w 4) 2) (Nat.add (Nat.mod (Nat.div w 8) 2) (Nat.add (Nat.mod (Nat.div w 16) 2) (Nat.add (Nat.mod (Nat.div w 32) 2) (Nat.add (Nat.mod (Nat.div w 64) 2) (Nat.add (Nat.mod (Nat.div w 128) 2) (Nat.add (Nat.mod (Nat.div w 256) 2) (Nat.add (Nat.mod (Nat.div w 512) 2) (Nat.add (Nat.mod (Nat.div w 1024) 2) (Nat.add (Nat.mod (Nat.div w 2048) 2) (Nat.add (Nat.mod (Nat.div w 4096) 2) (Nat.add (Nat.mod (Nat.div w 8192) 2) (Nat.add (Nat.mod (Nat.div w 16384) 2) (Nat.mod (Nat.div w 32768) 2)))))))))))))))
def pL (p:Nat->Bool):Nat->Bool
 |0=>true
 |n+1=>p n&&pL p n
theorem vJ {p:Nat->Bool}:∀{n:Nat},pL p n=true->∀i,i<n->p i=true
 |0,_,i,hi=>by omega
 |n+1,h,i,hi=>by
  unfold pL at h
  rw [N9] at h
  by_cases e:i=n
  ·rw [e];exact h.1
  ·exact vJ h.2 i (by omega)
theorem MV:pL (fun b=>decide (aR (b:Int)=(pJ b:Int))) 256=true:=by decide+kernel
def Ew (w:Nat):Bool:=Nat.beq (mT w) 2||Nat.beq (pK (Nat.xor (pJ (sf w)) w)) (mT w)
theorem MW:pL Ew 8192=true:=by decide+kernel
open Go.RowKit
theorem iI (w p:Nat):ga w (p+1)=Nat.xor (ga w p) (Nat.mul (Nat.mod (Nat.div w (2^p)) 2) p):=by
 show (if w / 2^p%2=1 then ga w p^^^p else ga w p)=ga w p^^^(w / 2^p%2*p)
 by_cases h:w / 2^p%2=1
 ·rw [N8 h,h,Nat.one_mul]
 ·rw [N7 h,show w / 2^p%2=0 by omega,Nat.zero_mul,Nat.xor_zero]
theorem Ey (w:Nat):ga w 13=ik w:=by
 have e0:ga w 1=Nat.mul (Nat.mod w 2) 0:=by
  rw [iI]
  show 0^^^(w / 2^0%2*0)=w%2*0
  simp
 rw [iI,iI,iI,iI,iI,iI,iI,iI,iI,iI,iI,iI,e0]
 rfl
theorem zw (a b:Nat):Nat.div a b=a / b:=rfl
theorem zx (a b:Nat):Nat.mod a b=a%b:=rfl
theorem zy (a b:Nat):Nat.add a b=a+b:=rfl
theorem MX (a b:Nat):Nat.mul a b=a*b:=rfl
theorem Ez (n:Nat):kF 8 n=n%2+n / 2%2+n / 4%2+n / 8%2+n / 16%2+n / 32%2+n / 64%2+n / 128%2:=by
 simp only [kF,Nat.div_div_eq_div_mul,Nat.reduceMul,OY,PG]
theorem ou (w k:Nat) (h:k ∣ 256) (h2:2*k ∣ 256):w%256 / k%2=w / k%2:=by
 obtain ⟨m,hm⟩:=h2
 have e:256=k*(2*m):=by rw [hm,Pq 2 k,Nat.mul_assoc]
 rw [e,Nat.mod_mul_right_div_self,Nat.mod_mul_right_mod]
theorem MY (w:Nat):lU w%2=parF w:=by
 unfold parF lU
 simp only [zw,zx,zy]
 rw [Ez,Ez]
 simp only [Nat.div_div_eq_div_mul,Nat.reduceMul]
 have h1:w%256%2=w%2:=by omega
 rw [h1,ou w 2 (by decide) (by decide),ou w 4 (by decide) (by decide),ou w 8 (by decide) (by decide),ou w 16 (by decide) (by decide),ou w 32 (by decide) (by decide),ou w 64 (by decide) (by decide),ou w 128 (by decide) (by decide)]
 congr 1
 ac_rfl
theorem EA (w:Nat):odW (w:Int)=Nat.beq (parF w) 1:=by
 unfold odW
 rw [O3,MY,PC,Pb,Nat.beq_eq]
theorem EB (w:Nat):synI (w:Int)=(ik w:Int):=by unfold synI;rw [O3,Ey]
theorem MZ (w:Nat):ik w<16:=by rw [<-Ey];exact zk w 13 (by omega)
def EC (n:Nat):Int:=if n=2 then -1 else (n:Int)
theorem M1 {w:Nat} (h:w<8192):br (w:Int)=EC (mT w):=by
 unfold br mT
 rw [N7 (by omega),EA,EB]
 cases hp:Nat.beq (parF w) 1 with
 |true=>
  rw [N8 rfl,Ob]
  by_cases hs:13<=ik w
  ·rw [N7 (by omega),Nat.ble_eq_true_of_le hs];rfl
  ·rw [N8 (by omega),show Nat.ble 13 (ik w)=false by rw [P1];intro hh;exact hs (ON hh)];rfl
 |false=>
  rw [N7 (by simp),Ot]
  by_cases hs:ik w=0
  ·rw [N8 (by omega),hs];rfl
  ·rw [N7 (by omega),show Nat.beq (ik w) 0=false by rw [P1];intro hh;exact hs (Ol hh)];rfl
theorem mU {w o i p:Nat} (hw:w<65536) (ho:o<2^i) (hi:i<8) (hp:p<16):ae (w:Int) (o:Int) (i:Int) (p:Int)=((o+w / 2^p%2*2^i:Nat):Int):=by
 unfold ae
 rw [O3,O3,show min p IntKind.u16.bits=p by show min p 16=p;omega,show min i IntKind.u8.bits=i by show min i 8=i;omega,u7 (by omega),O3,zl (PW (Nat.div_le_self _ _) hw),IntKind.wrap_u8',IntKind.wrap_u8']
 have h2:2^i<=2^7:=Nat.pow_le_pow_right (by omega) (by omega)
 have h3:w / 2^p%2<2:=Nat.mod_lt _ (by omega)
 have h4:w / 2^p%2*2^i<=1*2^i:=OC _ (by omega)
 have e:(((w / 2^p%2:Nat):Int)%256*2^i)%256=((w / 2^p%2*2^i:Nat):Int):=by
  have a1:((w / 2^p%2:Nat):Int)%256=((w / 2^p%2:Nat):Int):=Int.emod_eq_of_lt (by omega) (by omega)
  have:((w / 2^p%2:Nat):Int)*2^i=((w / 2^p%2*2^i:Nat):Int):=by rw [Int.natCast_mul];simp
  rw [a1,this]
  exact Int.emod_eq_of_lt (by omega) (by omega)
 rw [e,u8_or_nat _ _ (by omega) (by omega),Nat.or_comm]
 congr 1
 rw [nat_join i _ _ (Nat.mul_mod_left _ _) ho,Nat.add_comm]
theorem EE {w:Nat} (hw:w<65536):jj (w:Int)=(vH w:Int):=by
 have b:∀p,w / 2^p%2<2:=fun p=>Nat.mod_lt _ (by omega)
 have e1:=mU (o:=0) (i:=0) (p:=3) hw (by decide) (by omega) (by omega)
 have e2:=mU (i:=1) (p:=5) (o:=0+w / 2^3%2*2^0) hw (by have:=b 3;omega) (by omega) (by omega)
 have e3:=mU (i:=2) (p:=6) (o:=0+w / 2^3%2*2^0+w / 2^5%2*2^1) hw (by have:=b 3;have:=b 5;omega) (by omega) (by omega)
 have e4:=mU (i:=3) (p:=7) (o:=0+w / 2^3%2*2^0+w / 2^5%2*2^1+w / 2^6%2*2^2) hw (by have:=b 3;have:=b 5;have:=b 6;omega) (by omega) (by omega)
 have e5:=mU (i:=4) (p:=9) (o:=0+w / 2^3%2*2^0+w / 2^5%2*2^1+w / 2^6%2*2^2+w / 2^7%2*2^3) hw (by have:=b 3;have:=b 5;have:=b 6;have:=b 7;omega) (by omega) (by omega)
 have e6:=mU (i:=5) (p:=10) (o:=0+w / 2^3%2*2^0+w / 2^5%2*2^1+w / 2^6%2*2^2+w / 2^7%2*2^3+w / 2^9%2*2^4) hw (by have:=b 3;have:=b 5;have:=b 6;have:=b 7;have:=b 9;omega) (by omega) (by omega)
 have e7:=mU (i:=6) (p:=11) (o:=0+w / 2^3%2*2^0+w / 2^5%2*2^1+w / 2^6%2*2^2+w / 2^7%2*2^3+w / 2^9%2*2^4+w / 2^10%2*2^5) hw (by have:=b 3;have:=b 5;have:=b 6;have:=b 7;have:=b 9;have:=b 10;omega) (by omega) (by omega)
 have e8:=mU (i:=7) (p:=12) (o:=0+w / 2^3%2*2^0+w / 2^5%2*2^1+w / 2^6%2*2^2+w / 2^7%2*2^3+w / 2^9%2*2^4+w / 2^10%2*2^5+w / 2^11%2*2^6) hw (by have:=b 3;have:=b 5;have:=b 6;have:=b 7;have:=b 9;have:=b 10;have:=b 11;omega) (by omega) (by omega)
 have e:jj (w:Int)=ae w (ae w (ae w (ae w (ae w (ae w (ae w (ae w ((0:Nat):Int) ((0:Nat):Int) ((3:Nat):Int)) ((1:Nat):Int) ((5:Nat):Int)) ((2:Nat):Int) ((6:Nat):Int)) ((3:Nat):Int) ((7:Nat):Int)) ((4:Nat):Int) ((9:Nat):Int)) ((5:Nat):Int) ((10:Nat):Int)) ((6:Nat):Int) ((11:Nat):Int)) ((7:Nat):Int) ((12:Nat):Int):=rfl
 rw [e,e1,e2,e3,e4,e5,e6,e7,e8]
 congr 1
 unfold vH
 simp only [zw,zx,zy,MX,Nat.reducePow,On,PG]
theorem M3 {w s:Nat} (hw:w<65536) (hs:s<16):lV (w:Int) (s:Int)=((Nat.xor w (Nat.pow 2 s):Nat):Int):=by
 have h2:2^s<=2^15:=Nat.pow_le_pow_right (by omega) (by omega)
 have e:IntKind.u16.wrap (1*2^(min (Int.toNat (s:Int)) IntKind.u16.bits))=((2^s:Nat):Int):=by
  rw [O3,show min s IntKind.u16.bits=s by show min s 16=s;omega,IntKind.wrap_u16,Int.one_mul,show ((2:Int)^s)=((2^s:Nat):Int) by simp]
  exact Int.emod_eq_of_lt (Int.natCast_nonneg _) (Int.ofNat_lt.2 (PW h2 (by decide)))
 unfold lV
 rw [e,u16_xor_nat _ _ hw (by omega)]
 rfl
theorem M4 {w:Nat} (h:w<8192) (hm:mT w≠2):gf (w:Int)=(sf w:Int):=by
 unfold gf sf
 unfold mT at hm
 rw [N7 (by omega),EA,EB]
 cases hp:Nat.beq (parF w) 1 with
 |true=>
  rw [hp,Ob] at hm
  rw [N8 rfl,Ob]
  by_cases hs:13<=ik w
  ·rw [Nat.ble_eq_true_of_le hs] at hm;exact absurd rfl hm
  ·rw [N8 (by omega),M3 (by omega) (by omega)]
   refine EE ?_
   have:Nat.xor w (Nat.pow 2 (ik w))<2^16:=Nat.xor_lt_two_pow (n:=16) (by omega) (Oz (Nat.pow_lt_pow_right (by omega) (MZ w)) (by decide))
   exact this
 |false=>
  rw [hp,Ot] at hm
  rw [N7 (by simp),Ot]
  by_cases hs:ik w=0
  ·rw [N8 (by omega)];exact EE (by omega)
  ·rw [show Nat.beq (ik w) 0=false by rw [P1];intro hh;exact hs (Ol hh)] at hm;exact absurd rfl hm
open Go.RowKit
theorem M5 (b:UInt8):aR (b.toNat:Int)=(pJ b.toNat:Int):=Px (vJ MV b.toNat b.toNat_lt)
theorem M6:pL (fun b=>Nat.blt (pJ b) 8192) 256=true:=by decide+kernel
theorem M7 (b:UInt8):pJ b.toNat<8192:=by
 have:=vJ M6 b.toNat b.toNat_lt
 exact ON this
theorem EF {w:Int} (h:br w<0):gf w=0/\br w= -1:=by
 unfold br at h ⊢
 unfold gf
 split at h
 ·rename_i h1;rw [N8 h1,N8 h1];exact ⟨rfl,rfl⟩
 ·rename_i h1
  rw [N7 h1,N7 h1]
  split at h
  ·rename_i h2
   rw [N8 h2,N8 h2]
   split at h
   ·omega
   ·rename_i h3;rw [N7 h3,N7 h3];exact ⟨rfl,rfl⟩
  ·rename_i h2
   rw [N7 h2,N7 h2]
   split at h
   ·omega
   ·rename_i h3;rw [N7 h3,N7 h3];exact ⟨rfl,rfl⟩
theorem EG {w:Int} {n:Nat} (h:gf w=(n:Int)):(cI w).toNat=n:=by have:=Eo w;omega
def mV (x:Nat):Nat->Nat
 |0=>0
 |k+1=>mV x k+x / 2^k%2
theorem EH (x:Nat):∀k,mV x k<=k
 |0=>Og _
 |k+1=>by unfold mV;have:=EH x k;omega
theorem M8 (x:Nat):mV x 16=pK x:=by
 unfold pK
 simp only [mV,zw,zx,zy,Nat.reducePow,On,PG,Nat.pow_zero,Nat.div_one,Nat.pow_one]
structure eC (x i n:Int):Prop where
 x0:0<=x/\x<65536
 lo:0<=i
 hi:i<=16
 eq:n=(mV x.toNat i.toNat:Int)
theorem eC.bit {x n:Int} (h:eC x i n) (hi:i<16):bits BinOp.and IntKind.u16 (x.fdiv ((2:Int)^min i.toNat IntKind.u16.bits)) 1=((x.toNat / 2^i.toNat%2:Nat):Int):=by
 have h1:=h.lo;have h0:=h.x0
 rw [show min i.toNat IntKind.u16.bits=i.toNat by show min i.toNat 16=_;omega,u7 h0.1,zl]
 exact PW (Nat.div_le_self _ _) (by omega)
theorem eC.start {x:Int} (h:0<=x/\x<65536):eC x 0 0:=⟨h,by omega,by omega,rfl⟩
theorem eC.yes {x i n:Int} (h:eC x i n) (hi:i<16) (e:bits BinOp.and IntKind.u16 (x.fdiv ((2:Int)^min i.toNat IntKind.u16.bits)) 1=1):eC x (i+1) (n+1):=by
 have h1:=h.lo
 rw [h.bit hi] at e
 refine ⟨h.x0,by omega,by omega, ?_⟩
 rw [show (i+1).toNat=i.toNat+1 by omega,mV,h.eq];omega
theorem eC.no {x i n:Int} (h:eC x i n) (hi:i<16) (e:¬bits BinOp.and IntKind.u16 (x.fdiv ((2:Int)^min i.toNat IntKind.u16.bits)) 1=1):eC x (i+1) n:=by
 have h1:=h.lo
 rw [h.bit hi] at e
 refine ⟨h.x0,by omega,by omega, ?_⟩
 rw [show (i+1).toNat=i.toNat+1 by omega,mV,h.eq];omega
theorem eC.bd {x i n:Int} (h:eC x i n):0<=n/\n<=16/\0<=i:=by
 have:=EH x.toNat i.toNat
 have:=h.hi;have:=h.lo
 rw [h.eq];omega
theorem eC.fin {x i n:Int} (h:eC x i n) (hi:16<=i):n=(pK x.toNat:Int):=by
 have:=h.hi
 rw [h.eq,show i=16 by omega, <-M8];rfl
theorem M9 {w:Int} (h0:0<=w) (hm:0<=br w):(pK (bits BinOp.xor IntKind.u16 (aR ((cI w).toNat:Int)) w).toNat:Int)=br w/\br w<=1:=by
 have hl:w<8192:=by
  rcases Int.lt_or_le w 8192 with h|h
  ·exact h
  ·unfold br at hm;rw [N8 h] at hm;omega
 obtain ⟨n,rfl⟩:∃n:Nat,w=(n:Int):=⟨w.toNat,by omega⟩
 have hn:n<8192:=by omega
 have hf:=vJ MW n hn
 unfold Ew at hf
 have e:=M1 hn
 have h2:mT n≠2:=fun h=>by rw [e,h] at hm;exact absurd hm (by decide)
 have hr:=M4 hn h2
 have qN:=En (n:Int)
 rw [OA] at hf
 have gV:=Ol (hf.resolve_left fun h=>h2 (Ol h))
 have hU:(cI (n:Int)).toNat=sf n:=EG hr
 have hw:=M5 (cI (n:Int))
 rw [hw,hU,u16_xor_nat _ _ (by have:=M7 (cI (n:Int));rw [hU] at this;omega) (by omega),O3]
 have hx:pK (pJ (sf n)^^^n)=mT n:=gV
 rw [hx,e]
 refine ⟨by unfold EC;rw [N7 h2], ?_⟩
 have:=vB (n:Int)
 rw [e] at this;exact this.2
def zA:dr Tc Tc.dn:=⟨8,[],fun _=>True,[.mN],fun _=>true⟩
abbrev dV:=(↑(UInt8.ofNat (Int.toNat (1:Int))).toNat:Int)
abbrev fD:=(bits BinOp.xor IntKind.u16 (aR dV) (32:Int))
abbrev ef:=(gM (dU (ByteArray.mk #[(97:UInt8)])).fst)
abbrev kH:=(aR dV=(15:Int)/\cI fD=UInt8.ofNat (Int.toNat (1:Int)))
abbrev kI:=((kH/\br fD=(1:Int))/\br (bits BinOp.xor IntKind.u16 (aR dV) (3:Int))=(-1:Int))
abbrev pM:=((kI/\(dU (ByteArray.mk #[(97:UInt8)])).snd=(0:Int))/\(↑(dU (ByteArray.mk #[(97:UInt8)])).fst.size:Int)=(2:Int))
abbrev lX:=(pM/\ef.fst=ByteArray.mk #[(97:UInt8)])
abbrev zB:=((kI/\(dU (ByteArray.mk #[(97:UInt8)])).snd=(0:Int))/\(↑(dU (ByteArray.mk #[(97:UInt8)])).fst.size:Int)=(2:Int)->(kI/\(dU (ByteArray.mk #[(97:UInt8)])).snd=(0:Int))/\(↑(dU (ByteArray.mk #[(97:UInt8)])).fst.size:Int)=(2:Int))
theorem Na  :True/\((0:Int)<=bits BinOp.xor IntKind.u16 (aR dV) (32:Int)/\bits BinOp.xor IntKind.u16 (aR dV) (32:Int)<(65536:Pt.T Tc.dn (Pt.ty Tc.cW)))/\((0:Int)<=bits BinOp.xor IntKind.u16 (aR dV) (3:Int)/\bits BinOp.xor IntKind.u16 (aR dV) (3:Int)<(65536:Pt.T Tc.dn (Pt.ty Tc.cW)))/\(ByteArray.mk #[(97:UInt8)]).size<=(9223372036854775807:Nat)/\True/\True/\(aR dV=(15:Int)->aR dV=(15:Int))/\(aR dV=(15:Int)->aR dV=(15:Int))/\(aR dV=(15:Int)/\cI fD=UInt8.ofNat (Int.toNat (1:Int))->aR dV=(15:Int)/\cI fD=UInt8.ofNat (Int.toNat (1:Int)))/\(aR dV=(15:Int)/\cI fD=UInt8.ofNat (Int.toNat (1:Int))->aR dV=(15:Int)/\cI fD=UInt8.ofNat (Int.toNat (1:Int)))/\(kH/\br fD=(1:Int)->kH/\br fD=(1:Int))/\(kH/\br fD=(1:Int)->kH/\br fD=(1:Int))/\((kH/\br fD=(1:Int))/\br (bits BinOp.xor IntKind.u16 (aR dV) (3:Int))=(-1:Int)->(kH/\br fD=(1:Int))/\br (bits BinOp.xor IntKind.u16 (aR dV) (3:Int))=(-1:Int))/\((kH/\br fD=(1:Int))/\br (bits BinOp.xor IntKind.u16 (aR dV) (3:Int))=(-1:Int)->(kH/\br fD=(1:Int))/\br (bits BinOp.xor IntKind.u16 (aR dV) (3:Int))=(-1:Int))/\(kI/\(dU (ByteArray.mk #[(97:UInt8)])).snd=(0:Int)->kI/\(dU (ByteArray.mk #[(97:UInt8)])).snd=(0:Int))/\(kI/\(dU (ByteArray.mk #[(97:UInt8)])).snd=(0:Int)->kI/\(dU (ByteArray.mk #[(97:UInt8)])).snd=(0:Int))/\(kI/\(dU (ByteArray.mk #[(97:UInt8)])).snd=(0:Int)->kI/\(dU (ByteArray.mk #[(97:UInt8)])).snd=(0:Int))/\zB/\zB/\(pM/\ef.fst=ByteArray.mk #[(97:UInt8)]->pM/\ef.fst=ByteArray.mk #[(97:UInt8)])/\(pM/\ef.fst=ByteArray.mk #[(97:UInt8)]->pM/\ef.fst=ByteArray.mk #[(97:UInt8)])/\(lX/\ef.snd.fst=(0:Int)->lX/\ef.snd.fst=(0:Int))/\(lX/\ef.snd.fst=(0:Int)->lX/\ef.snd.fst=(0:Int))/\((lX/\ef.snd.fst=(0:Int))/\ef.snd.snd=(0:Int)->(lX/\ef.snd.fst=(0:Int))/\ef.snd.snd=(0:Int))/\((lX/\ef.snd.fst=(0:Int))/\ef.snd.snd=(0:Int)->(lX/\ef.snd.fst=(0:Int))/\ef.snd.snd=(0:Int))/\(aR dV==(15:Int)&&cI fD==UInt8.ofNat (Int.toNat (1:Int))&&br fD==(1:Int)&&br (bits BinOp.xor IntKind.u16 (aR dV) (3:Int))==(-1:Int)&&(dU (ByteArray.mk #[(97:UInt8)])).snd==(0:Int)&&(↑(dU (ByteArray.mk #[(97:UInt8)])).fst.size:Int)==(2:Int)&&lZ ef.fst (ByteArray.mk #[(97:UInt8)])&&ef.snd.fst==(0:Int)&&ef.snd.snd==(0:Int)&&(gM (ByteArray.mk #[(120:UInt8)])).snd.snd==(1:Int))=true:=by
 delta zB pM kH ef fD lX dV kI
 (repeat' (first|apply And.intro|intro _))<;>first|assumption|exact True.intro|(decide+kernel)|trace_state
theorem Nb:zA.Ok Try.prog tD:=pF og (Δ:=[zr,vA,zu,vF]) ⟨Ep,zt,Er,Eu,trivial⟩ (Ω:=[]) trivial zA Bn Bo (fun _=>[]) (fun _=>trivial) 0 (fun _=>fun _=>none) fun x hp=>Eq.mp (by kernel_rfl) (Na )
def pN (w:Int) (i:Int) (n:Int):Prop:=eC (bits BinOp.xor IntKind.u16 (aR ((cI w).toNat:Int)) w) i n
def EI:dr Tc Tc.dn:=⟨5,[.ty .cW],fun x=>(fun (w:Int)=>0<=w/\w<65536) x.1,[.mN],fun x=>(fun (w:Int)=>true) x.1⟩
theorem Nc (w:Int) (hp:0<=w/\w<65536):((0:Int)<=w/\w<(65536:Pt.T Tc.dn (Pt.ty Tc.cW)))/\True/\(true= !true->false=true)/\(true= !false->(br w<(0:Int)->(cI w=UInt8.ofNat (Int.toNat (0:Int))->cI w=UInt8.ofNat (Int.toNat (0:Int)))/\(cI w=UInt8.ofNat (Int.toNat (0:Int))->cI w=UInt8.ofNat (Int.toNat (0:Int)))/\(cI w==UInt8.ofNat (Int.toNat (0:Int))&&br w==(-1:Int))=true)/\((0:Int)<=br w->True/\pN w (0:Int) (0:Int)/\∀(x ee:Int),pN w x ee->(x<(16:Int)->(0:Int)<=x/\(bits BinOp.and IntKind.u16 ((bits BinOp.xor IntKind.u16 (aR (↑(cI w).toNat:Int)) w).fdiv ((2:Int)^min x.toNat IntKind.u16.bits)) (1:Int)=(1:Int)->bJ (ee+(1:Int))/\bJ (x+(1:Int))/\pN w (x+(1:Int)) (ee+(1:Int))/\((16:Int) - (x+(1:Int))).toNat<((16:Int) - x).toNat)/\(¬bits BinOp.and IntKind.u16 ((bits BinOp.xor IntKind.u16 (aR (↑(cI w).toNat:Int)) w).fdiv ((2:Int)^min x.toNat IntKind.u16.bits)) (1:Int)=(1:Int)->bJ (x+(1:Int))/\pN w (x+(1:Int)) ee/\((16:Int) - (x+(1:Int))).toNat<((16:Int) - x).toNat))/\((16:Int)<=x->(ee=br w->ee=br w)/\(ee=br w->ee=br w)/\(ee==br w&&decide (br w<=(1:Int)))=true))):=by
 have o0:=dt BinOp.xor (aR ((cI w).toNat:Int)) w
 have o1:= @eC.start (bits BinOp.xor IntKind.u16 (aR ((cI w).toNat:Int)) w) o0
 have o2:= @eC.yes (bits BinOp.xor IntKind.u16 (aR ((cI w).toNat:Int)) w)
 have o3:= @eC.no (bits BinOp.xor IntKind.u16 (aR ((cI w).toNat:Int)) w)
 have o4:= @eC.bd (bits BinOp.xor IntKind.u16 (aR ((cI w).toNat:Int)) w)
 have o5:= @eC.fin (bits BinOp.xor IntKind.u16 (aR ((cI w).toNat:Int)) w)
 have m0:= @EF w
 have m1:= @M9 w hp.1
 have m2:br w<0->cI w=UInt8.ofNat (Int.toNat 0):=fun h=>UInt8.toNat_inj.1 (EG (n:=0) (EF h).1)
 unfold pN
 generalize bits BinOp.xor IntKind.u16 (aR ((cI w).toNat:Int)) w=X at*
 refine ⟨hp,trivial,fun h=>absurd h (by decide),fun _=>⟨fun h=>⟨fun h=>h,fun h=>h,by rw [m2 h,(m0 h).2];rfl⟩,fun h=>⟨trivial,o1,fun i n hI=> ?_⟩⟩⟩
 have b:=o4 hI
 exact ⟨fun hi=>⟨b.2.2,fun e=>⟨by unfold bJ;omega,by unfold bJ;omega,o2 hI hi e,by omega⟩,fun e=>⟨by unfold bJ;omega,o3 hI hi e,by omega⟩⟩,fun hi=>⟨fun h=>h,fun h=>h,by rw [o5 hI hi,(m1 h).1];simp [(m1 h).2]⟩⟩
theorem Nd:EI.Ok Try.prog tD:=pF og (Δ:=[zr,vA,zu,vF,zA]) ⟨Ep,zt,Er,Eu,Nb,trivial⟩ (Ω:=[]) trivial EI Bg Bh (fun _=>[]) (fun _=>trivial) 0 (fun x=>(fun (w:Int)=>(fun k=>bif Nat.beq k 0 then some (.inv [.sl 7 .eM, .sl 6 .eM] (fun zo zv=>(fun (i:Int) (n:Int)=>pN w i n) zv.1 zv.2.1) (fun zo zv=>(fun (i:Int) (n:Int)=>(16 - i).toNat) zv.1 zv.2.1)) else none)) x.1) fun x hp=>Eq.mp (by kernel_rfl) (Nc x.1 hp)
theorem WordOnly_walk (x:D4):Calls Try.prog 5 #[.int .u16 (x.n:Int)] w fun e w'=>e= .returned (.bool true)/\Below w.heap.size w w':=by
 have hf:Fn Try.prog 5 [(tD.en .cW (x.n:Int)).av tD.toTE N0] (.v (.bool true)):=Nd.2 ((x.n:Int),()) N0 (⟨by omega,by have:=x.lt;omega⟩)
 exact I3 (vs:=[.int .u16 (x.n:Int)]) hf trivial (.cons (Mb og (t:= .cW) (x:=(x.n:Int)) rfl (.cons (.v rfl) .nil)) .nil)
end Go.Proofs.Ytimomnfobfjggaa
