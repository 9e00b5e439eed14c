/- What functions answer (contracts). No condition. -/
import Derived.Test.YtboaekdecndckaaPCD
import Derived.Test.YtboaekdecndckaaPPolE
import Derived.Test.YtboaekdecndckaaPSxK
import Derived.Test.YtboaekdecndckaaPCA
set_option linter.unusedSimpArgs false
set_option linter.unusedVariables false
set_option maxHeartbeats 4000000
set_option maxRecDepth 100000
namespace Go.Proofs.Ytboaekdecndckaa
variable {up:Bool} {n no s p size aI:Int} {l:aO} {k:Nat} {v:ah}
open Go.RowKit
def gf (v:ah) (no ver:Int) (all:List BA):Nat->List Shelf
 |0=>v.nodes
 |k+1=>if (gd (⟨false,[]⟩:Shelf) (gf v no ver all k) (v.layout.node no k).toNat).up=true then (gf v no ver all k).set (v.layout.node no k).toNat ⟨true,(gd (⟨false,[]⟩:Shelf) (gf v no ver all k) (v.layout.node no k).toNat).pieces.set no.toNat ⟨ver,gd ByteArray.empty all k⟩⟩ else gf v no ver all k
theorem pH {v:ah} {no ver:Int} {all:List BA}:∀{k:Nat},(gf v no ver all k).length=v.nodes.length
 |0=>rfl
 |k+1=>by
  unfold gf
  split
  ·rw [ada];exact pH
  ·exact pH
theorem Bb {v:ah} {no ver:Int} {all:List BA} {n:Nat} (hn:n<v.nodes.length):∀{k:Nat},(gd (⟨false,[]⟩:Shelf) (gf v no ver all k) n).up=(gd (⟨false,[]⟩:Shelf) v.nodes n).up/\(gd (⟨false,[]⟩:Shelf) (gf v no ver all k) n).pieces.length=(gd (⟨false,[]⟩:Shelf) v.nodes n).pieces.length
 |0=>⟨rfl,rfl⟩
 |k+1=>by
  have ih:=Bb (no:=no) (ver:=ver) (all:=all) hn (k:=k)
  unfold gf
  split
  ·rename_i e
   by_cases q:(v.layout.node no k).toNat=n
   ·rw [q] at e ⊢
    rw [fy (by rw [pH];exact hn),acN rfl]
    exact ⟨e.symm.trans ih.1,by rw [ada];exact ih.2⟩
   ·by_cases q2:(v.layout.node no k).toNat<(gf v no ver all k).length
    ·rw [fy q2,acL q];exact ih
    ·rw [List.set_eq_of_length_le (by omega)];exact ih
  ·exact ih
structure jt (v:ah) (no ver:Int) (all:List BA) (k:Int) (K:List az) (A:dg):Prop where
 vk:v.K
 s0:0<=no
 s1:no<v.versions.length
 k0:0<=k
 k1:k<=v.layout.data+v.layout.more
 o:lf (gf v no ver all k.toNat) K A
def lh (K:List az) (n:Int):Row Piece:=(gd (⟨false,Row.no Piece⟩:az) K n.toNat).pieces
theorem jt.start {v:ah} (k:v.K) {i no ver:Int} {all:List BA} {K:List az} {A:dg} (h:db v.nodes i K A) (hi:v.nodes.length<=i) (h0:0<=no) (h1:no<v.versions.length):jt v no ver all 0 K A:=⟨k,h0,h1,by omega,by have:=k.lay.d;have:=k.lay.m;omega,h.fin hi⟩
theorem jt.row {v:ah} {no ver k:Int} {all:List BA} {K:List az} {A:dg} (h:jt v no ver all k K A):0<=v.layout.node no k/\v.layout.node no k<K.length/\(gd (⟨false,Row.no Piece⟩:az) K (v.layout.node no k).toNat).up=(gd (⟨false,[]⟩:Shelf) v.nodes (v.layout.node no k).toNat).up/\((lh K (v.layout.node no k)).kd=RK.own/\cv A (lh K (v.layout.node no k)).id/\(bj A (lh K (v.layout.node no k)).id).length=(lh K (v.layout.node no k)).n)/\(lh K (v.layout.node no k)).ok A/\(lh K (v.layout.node no k)).get A=(gd (⟨false,[]⟩:Shelf) (gf v no ver all k.toNat) (v.layout.node no k).toNat).pieces/\((lh K (v.layout.node no k)).get A).length=v.versions.length:=by
 have hn:=h.vk.lay.node no k
 have hd:=h.vk.l8
 have hl:=h.o.len
 rw [pH] at hl
 have hj:(v.layout.node no k).toNat<v.nodes.length:=by omega
 obtain ⟨q1,q2⟩:=h.o.own (v.layout.node no k).toNat (by rw [pH];exact hj)
 have q3:(lh K (v.layout.node no k)).get A=(gd (⟨false,[]⟩:Shelf) (gf v no ver all k.toNat) (v.layout.node no k).toNat).pieces:=by unfold lh;rw [A7 q1,q2]
 have sm:=Bb (no:=no) (ver:=ver) (all:=all) (k:=k.toNat) hj
 refine ⟨hn.1,by omega,by rw [h.o.up _ (by rw [pH];exact hj)];exact sm.1,q1,Row.bD.ok q1,q3, ?_⟩
 rw [q3,sm.2]
 exact h.vk.pre.shl hn.1 (by omega)
theorem jt.down {ver k:Int} {all:List BA} {K:List az} {A:dg} (h:jt v no ver all k K A) (hk:k<v.layout.data+v.layout.more) (e:(gd (⟨false,Row.no Piece⟩:az) K (v.layout.node no k).toNat).up=false):jt v no ver all (k+1) K A:=by
 have k0:=h.k0
 refine ⟨h.vk,h.s0,h.s1,by omega,by omega, ?_⟩
 have hr:=h.row
 have hl:=h.o.len
 rw [pH] at hl
 have hj:(v.layout.node no k).toNat<v.nodes.length:=by have:=hr.1;have:=hr.2.1;omega
 have sm:=Bb (no:=no) (ver:=ver) (all:=all) (k:=k.toNat) hj
 have ek:((k.toNat:Nat):Int)=k:=by omega
 have e1:gf v no ver all (k+1).toNat=gf v no ver all k.toNat:=by
  rw [show (k+1).toNat=k.toNat+1 by omega]
  conv=>lhs;unfold gf
  rw [ek,acL (by rw [sm.1, <-hr.2.2.1,e];simp)]
 rw [e1];exact h.o
theorem jt.step {v:ah} {no ver k:Int} {all:List BA} {K:List az} {A:dg} (h:jt v no ver all k K A) (hk:k<v.layout.data+v.layout.more) (e:(gd (⟨false,Row.no Piece⟩:az) K (v.layout.node no k).toNat).up=true):jt v no ver all (k+1) K (((lh K (v.layout.node no k)).id,((lh K (v.layout.node no k)).get A).set no.toNat ⟨ver,gd ByteArray.empty all k.toNat⟩)::A):=by
 have k0:=h.k0
 refine ⟨h.vk,h.s0,h.s1,by omega,by omega, ?_⟩
 have hr:=h.row
 have hl:=h.o.len
 rw [pH] at hl
 have hj:(v.layout.node no k).toNat<v.nodes.length:=by have:=hr.1;have:=hr.2.1;omega
 have sm:=Bb (no:=no) (ver:=ver) (all:=all) (k:=k.toNat) hj
 have ek:((k.toNat:Nat):Int)=k:=by omega
 have up:(gd (⟨false,[]⟩:Shelf) (gf v no ver all k.toNat) (v.layout.node no k).toNat).up=true:=by rw [sm.1, <-hr.2.2.1,e]
 have e1:gf v no ver all (k+1).toNat=(gf v no ver all k.toNat).set (v.layout.node no k).toNat ⟨true,((lh K (v.layout.node no k)).get A).set no.toNat ⟨ver,gd ByteArray.empty all k.toNat⟩⟩:=by
  rw [show (k+1).toNat=k.toNat+1 by omega]
  conv=>lhs;unfold gf
  rw [ek,acN up,hr.2.2.2.2.2.1]
 rw [e1]
 exact h.o.put (by rw [pH];exact hj) up.symm (by rw [ada,hr.2.2.2.2.2.1])
theorem jt.done {v:ah} {no ver k:Int} {all:List BA} {K:List az} {A:dg} (h:jt v no ver all k K A) (hk:v.layout.data+v.layout.more<=k) {vs:List Int}:(∀x:az,x∈K->True/\x.pieces.ok A/\x.pieces.kd≠RK.nil)/\(⟨v.layout,v.size,vs,List.map (fun x:az=>(⟨x.up,x.pieces.get A⟩:Shelf)) K⟩:ah)=⟨v.layout,v.size,vs,gf v no ver all (v.layout.data+v.layout.more).toNat⟩:=by
 obtain ⟨e1,e2⟩:=h.o.view
 have e:k=v.layout.data+v.layout.more:=by have:=h.k1;omega
 exact ⟨fun x hx=>⟨trivial,e1 x hx⟩,by rw [e2,e]⟩
def eo (v:ah) (b:Int) (dt:BA):List BA:=(cU v (b / v.layout.data)).1.set (b%v.layout.data).toNat dt
def pI (v:ah) (b:Int) (dt:BA):List BA:=eo v b dt++(wW (eo v b dt) v.layout.more).1
def oa (v:ah) (b:Int) (dt:BA):Int:=if ¬eg v b=0 then eg v b else if ¬(dt.size:Int)=v.size then 1 else if ¬(cU v (b / v.layout.data)).2=0 then (cU v (b / v.layout.data)).2 else if gd 0 v.versions (b / v.layout.data).toNat=1000000 then 2 else 0
def My (v:ah) (b:Int) (dt:BA):ah:=⟨v.layout,v.size,v.versions.set (b / v.layout.data).toNat (gd 0 v.versions (b / v.layout.data).toNat+1),gf v (b / v.layout.data) (gd 0 v.versions (b / v.layout.data).toNat+1) (pI v b dt) (v.layout.data+v.layout.more).toNat⟩
def eD (v:ah) (b:Int) (dt:BA):ah×Int:=if ¬oa v b dt=0 then (⟨⟨0,0,0,0⟩,0,[],[]⟩,oa v b dt) else (My v b dt,0)
theorem FW:∀x,x∈jr v no k->0<=x/\x<k:=fun x hx=>by
 unfold jr cY at hx
 obtain ⟨y,hy,rfl⟩:=ade.1 (List.mem_of_mem_take hx)
 have:=adl.1 (List.mem_filter.1 hy).1
 omega
theorem aaV (k:v.K) (h0:0<=no) (h1:no<v.versions.length) (p0:0<=p) (p1:p<v.layout.data+v.layout.more):((gw v no p).size:Int)=v.size:=by
 have hn:=k.lay.node no p
 have hs:=k.lay.s
 have hd:=k.l8
 have e:=(Ak k.lay (s:=no) (p:=p) ⟨p0,by omega⟩ hn).1 rfl
 have hh:v.layout.has no (v.layout.node no p)=true:=by unfold aO.has;rw [e];exact adX p1
 have ok:=k.ok (v.layout.node no p) no hn.1 (by omega) h0 h1
 unfold fc at ok
 split at ok
 ·exact absurd ok (by decide)
 ·rename_i q
  exact aed fun hx=>q (.inr ⟨hh,hx⟩)
theorem Mz {v:ah} {no:Int} (h:((bW v no).length:Int)<v.layout.data):cU v no=([],8):=by unfold cU;rw [acN h]
theorem MA {v:ah} {no:Int} (k:v.K) (h:v.layout.data<=((bW v no).length:Int)):((bW v no).length:Int)=v.layout.data/\n7 (v.layout.data+v.layout.more) (bW v no)=0/\
  (¬cT ((bW v no).map (gw v no))=0->cU v no=([],cT ((bW v no).map (gw v no))))/\
  (cT ((bW v no).map (gw v no))=0->¬(bu (bJ v.layout.data v.layout.more (bW v no))).2=0->cU v no=([],(bu (bJ v.layout.data v.layout.more (bW v no))).2))/\
  (cT ((bW v no).map (gw v no))=0->(bu (bJ v.layout.data v.layout.more (bW v no))).2=0->cU v no=(bP (bu (bJ v.layout.data v.layout.more (bW v no))).1 ((bW v no).map (gw v no)),0)):=by
 have hd:=k.lay.d;have hm:=k.lay.m
 have hf:(bW v no).length<=v.layout.data.toNat:=Mi
 have hl:((bW v no).length:Int)=v.layout.data:=by omega
 have ha:n7 (v.layout.data+v.layout.more) (bW v no)=0:=by
  have r:∀x,x∈bW v no->0<=x/\x<v.layout.data+v.layout.more:=fun x hx=>by have:=FW _ hx;omega
  have nd:(bW v no).Nodup:=by
   unfold bW jr cY
   refine List.Nodup.sublist (List.take_sublist _ _) ?_
   have:((List.range (v.layout.data+v.layout.more).toNat).filter fun p:Nat=>cd v no p).Nodup:=List.Pairwise.filter _ List.nodup_range
   exact List.Pairwise.map _ (fun a b rB e=>rB (by omega)) this
  unfold n7
  have:∀(seen l:List Int),(∀i,i∈l->0<=i/\i<v.layout.data+v.layout.more/\¬i∈seen)->l.Nodup->n6 (v.layout.data+v.layout.more) seen l=0:=by
   intro seen l
   induction l generalizing seen with
   |nil=>intro _ _;rfl
   |cons x r ih=>
    intro h hd
    have h1:=h x (adD ..)
    rw [aeE] at hd
    unfold n6
    rw [acL (by omega),acL h1.2.2]
    refine ih _ (fun i hi=> ?_) hd.2
    have h2:=h i (adw _ hi)
    refine ⟨h2.1,h2.2.1,fun hh=> ?_⟩
    rcases adp.1 hh with e|e
    ·exact h2.2.2 e
    ·rw [acW] at e;subst e;exact hd.1 hi
  exact this [] _ (fun i hi=>⟨(r i hi).1,(r i hi).2,by simp⟩) nd
 have e:cU v no=hY v.layout.data v.layout.more (bW v no) ((bW v no).map (gw v no)):=by unfold cU;rw [acL (by omega)]
 refine ⟨hl,ha,fun h1=> ?_,fun h1 h2=> ?_,fun h1 h2=> ?_⟩<;>rw [e]<;>unfold hY<;>rw [acL (by omega),acL (by rw [ac4];simp),acL (by omega),acL (by omega),acL (by omega)]
 ·rw [acN h1]
 ·rw [acL (by omega),acN h2]
 ·rw [acL (by omega),acL (by omega)]
theorem aaW (k:v.K) (h0:0<=no) (h1:no<v.versions.length) (h:(cU v no).2=0):∀x,x∈(cU v no).1->(x.size:Int)=v.size:=fun x hx=>by
 have hd:=k.lay.d
 have c:v.layout.data<=((bW v no).length:Int):=by
  by_cases c:((bW v no).length:Int)<v.layout.data
  ·rw [Mz c] at h;simp at h
  ·omega
 obtain ⟨hl,ha,r1,r2,r3⟩:=MA k c
 by_cases a1:cT ((bW v no).map (gw v no))=0
 ·by_cases a2:(bu (bJ v.layout.data v.layout.more (bW v no))).2=0
  ·rw [r3 a1 a2] at hx
   have hx:x∈bP _ _:=hx
   unfold bP at hx
   obtain ⟨row,_,rfl⟩:=ade.1 hx
   unfold Ap
   rw [YT]
   have xU:0<(bW v no).length:=by omega
   rw [Mw (d:=(0:Int)) xU]
   have hm:0<=gd 0 (bW v no) 0/\gd 0 (bW v no) 0<(((v.layout.data+v.layout.more).toNat:Nat):Int):=FW (v:=v) (no:=no) (k:=(v.layout.data+v.layout.more).toNat) _ (iv (d:=(0:Int)) xU)
   exact aaV k h0 h1 hm.1 (by omega)
  ·rw [r2 a1 a2] at h;exact absurd h a2
 ·rw [r1 a1] at h;exact absurd h a1
theorem aaX {v:ah} {b:Int} {dt:BA} (h:eg v b=0) (hs:(dt.size:Int)=v.size) (hd:(cU v (b / v.layout.data)).2=0):((eo v b dt).length:Int)=v.layout.data/\cT (eo v b dt)=0/\wW (eo v b dt) v.layout.more=(bP (eH v.layout.more (eo v b dt).length).1 (eo v b dt),0)/\((pI v b dt).length:Int)=v.layout.data+v.layout.more:=by
 obtain ⟨k,a2,a3,a4,a5,a6,a7⟩:=xm h
 have kd:=k.lay.d;have km:=k.lay.m;have kz:=k.qH
 have hl:=FJ hd
 have hlen:((eo v b dt).length:Int)=v.layout.data:=by unfold eo;rw [ada];exact hl
 have br:∀x,x∈eo v b dt->(x.size:Int)=v.size:=fun x hx=>by
  unfold eo at hx
  rcases aeM hx with e|e
  ·exact aaW k a4 a5 hd x e
  ·rw [e];exact hs
 have hg:gd ByteArray.empty (eo v b dt) 0∈eo v b dt:=iv (by omega)
 have hk:cT (eo v b dt)=0:=Zb (fun s hx=>by have:=br s hx;omega) fun s hx=>by have:=br s hx;have:=br _ hg;omega
 have he:wW (eo v b dt) v.layout.more=(bP (eH v.layout.more (eo v b dt).length).1 (eo v b dt),0):=by
  unfold wW
  rw [acL (by omega),acL (by omega),acL (by omega),acL (by omega)]
 refine ⟨hlen,hk,he, ?_⟩
 unfold pI
 rw [he,adV]
 show (((eo v b dt).length+(bP _ _).length:Nat):Int)=_
 unfold bP
 rw [ac4,Fp (by omega) (by omega) (by omega) (by omega)]
 show (((eo v b dt).length+(dF _ _ _).length:Nat):Int)=_
 rw [aaU];omega
def xA (v:ah) (b:Int) (p:Int) (at_:(List Int)) (P:(List ByteArray)):Prop:=eg v b=0/\fv v (b / v.layout.data) p at_ P
def Bc (v:ah) (i0:Int) (a0:(List Int)) (P0:(List ByteArray)) (i:Int) (a:(List Int)) (P:(List ByteArray)):Prop:=a=a0/\P=P0/\fu (v.layout.data+v.layout.more) a i
def Bd (v:ah) (i:Int) (K:(List az)) (A:(List (Nat×List Piece))):Prop:=db v.nodes i K A
def Be (v:ah) (b:Int) (p:Int) (Z:(ct×List Int)):Prop:=Z.1.vol.layout=v.layout/\Z.1.vol.size=v.size/\Z.1.no=b / v.layout.data/\iT (v.layout.data+v.layout.more) (jS v.layout (b / v.layout.data)) p Z.2
def xB (v:ah) (b:Int) (dt:ByteArray) (p:Int) (K:(List az)) (A:(List (Nat×List Piece))):Prop:=jt v (b / v.layout.data) (gd 0 v.versions (b / v.layout.data).toNat+1) (pI v b dt) p K A
def Bf:bk Tc Tc.dn:=⟨6,[.ty .eV, .ty .aA, .ty .gL],fun x=>(fun (v:ah) (b:Int) (dt:ByteArray)=>True) x.1 x.2.1 x.2.2.1,[.eV, .aA],fun x=>(fun (v:ah) (b:Int) (dt:ByteArray)=>eD v b dt) x.1 x.2.1 x.2.2.1⟩
abbrev jV:=(aO.mk (0:Int) (0:Int) (0:Int) (0:Int))
abbrev qQ (v:ah) (b:Int):=((1:Int)<=(au v b).fst.vol.layout.data/\(au v b).fst.vol.layout.data<=(8:Int))
abbrev uf (v:ah) (b:Int):=((0:Int)<=(au v b).fst.no/\(au v b).fst.no<(↑v.versions.length:Int))
abbrev xC (v:ah) (b:Int):=(v.versions.set (au v b).fst.no.toNat (gd (0:Int) v.versions (au v b).fst.no.toNat+(1:Int)))
theorem aaY (v:ah) (b:Int) (dt:ByteArray):True/\((au v b).snd.snd=(0:Int)->(au v b).snd.snd=(0:Int))/\((au v b).snd.snd=(0:Int)->(au v b).snd.snd=(0:Int))/\((au v b).snd.snd=(0:Int)->(au v b).snd.snd=(0:Int))/\((au v b).snd.snd=(0:Int)->(au v b).snd.snd=(0:Int))/\((au v b).snd.snd=(0:Int)->(au v b).snd.snd=(0:Int))/\((au v b).snd.snd=(0:Int)/\¬(↑dt.size:Int)=v.size->(ah.mk jV (0:Int) [] [],(1:Int))=eD v b dt)/\(¬(au v b).snd.snd=(0:Int)\/(↑dt.size:Int)=v.size->(¬(au v b).snd.snd=(0:Int)->(ah.mk jV (0:Int) [] [],(au v b).snd.snd)=eD v b dt)/\((au v b).snd.snd=(0:Int)->xA v b (0:Int) [] []/\∀(x:Int) (af:List Int) (aD:List ByteArray),xA v b x af aD->(x<(↑(au v b).fst.nodes.length:Int)->(dL (au v b).fst/\(0:Int)<=x/\x<(au v b).fst.vol.layout.data+(au v b).fst.vol.layout.more)/\(cd (au v b).fst.vol (au v b).fst.no x=true->cd (au v b).fst.vol (au v b).fst.no x=true)/\(cd (au v b).fst.vol (au v b).fst.no x=true->cd (au v b).fst.vol (au v b).fst.no x=true)/\(cd (au v b).fst.vol (au v b).fst.no x=true->cd (au v b).fst.vol (au v b).fst.no x=true)/\(cd (au v b).fst.vol (au v b).fst.no x=true->cd (au v b).fst.vol (au v b).fst.no x=true)/\(cd (au v b).fst.vol (au v b).fst.no x=true->cd (au v b).fst.vol (au v b).fst.no x=true)/\(cd (au v b).fst.vol (au v b).fst.no x=true->cd (au v b).fst.vol (au v b).fst.no x=true)/\(cd (au v b).fst.vol (au v b).fst.no x=true->cd (au v b).fst.vol (au v b).fst.no x=true)/\(cd (au v b).fst.vol (au v b).fst.no x=true/\(↑af.length:Int)<(au v b).fst.vol.layout.data->(af.length+(1:Nat))*(8:Nat)<=(140737488355328:Nat)/\(dL (au v b).fst/\(0:Int)<=x/\x<(au v b).fst.vol.layout.data+(au v b).fst.vol.layout.more)/\(aD.length+(1:Nat))*(16:Nat)<=(140737488355328:Nat)/\aE (x+(1:Int))/\xA v b (x+(1:Int)) (af++[x]) (aD++[((au v b).fst.vol.at_ ((au v b).fst.vol.layout.node (au v b).fst.no x) (au v b).fst.no).data])/\(v.layout.data+v.layout.more - (x+(1:Int))).toNat<(v.layout.data+v.layout.more - x).toNat)/\(cd (au v b).fst.vol (au v b).fst.no x=false\/(au v b).fst.vol.layout.data<=(↑af.length:Int)->aE (x+(1:Int))/\xA v b (x+(1:Int)) af aD/\(v.layout.data+v.layout.more - (x+(1:Int))).toNat<(v.layout.data+v.layout.more - x).toNat))/\((↑(au v b).fst.nodes.length:Int)<=x->((↑af.length:Int)<(au v b).fst.vol.layout.data->(ah.mk jV (0:Int) [] [],(8:Int))=eD v b dt)/\((au v b).fst.vol.layout.data<=(↑af.length:Int)->True/\(decide (qQ v b)= !!true->True)/\(decide (qQ v b)= !true/\decide (qQ v b)= !true\/decide (qQ v b)= !!true/\decide ((1:Int)<=(au v b).fst.vol.layout.more/\(au v b).fst.vol.layout.more<=(6:Int))= !true->(ah.mk jV (0:Int) [] [],(3:Int))=eD v b dt)/\((decide (qQ v b)= !false\/decide (qQ v b)= !false)/\(decide (qQ v b)= !!false\/decide ((1:Int)<=(au v b).fst.vol.layout.more/\(au v b).fst.vol.layout.more<=(6:Int))= !false)->(¬(↑af.length:Int)=(↑aD.length:Int)->(ah.mk jV (0:Int) [] [],(1:Int))=eD v b dt)/\((↑af.length:Int)=(↑aD.length:Int)->((↑af.length:Int)<(au v b).fst.vol.layout.data->(ah.mk jV (0:Int) [] [],(8:Int))=eD v b dt)/\((au v b).fst.vol.layout.data<=(↑af.length:Int)->((au v b).fst.vol.layout.data<(↑af.length:Int)->(ah.mk jV (0:Int) [] [],(2:Int))=eD v b dt)/\((↑af.length:Int)<=(au v b).fst.vol.layout.data->Bc v (0:Int) af aD (0:Int) af aD/\∀(x:Int) (ae:List Int) (aB:List ByteArray),Bc v (0:Int) af aD x ae aB->(x<(↑af.length:Int)->((0:Int)<=x/\x<(↑af.length:Int))/\((0:Int)<=gd (0:Int) af x.toNat->(0:Int)<=gd (0:Int) af x.toNat)/\((0:Int)<=gd (0:Int) af x.toNat->(0:Int)<=gd (0:Int) af x.toNat)/\((0:Int)<=gd (0:Int) af x.toNat->aE ((au v b).fst.vol.layout.data+(au v b).fst.vol.layout.more))/\((0:Int)<=gd (0:Int) af x.toNat->(0:Int)<=gd (0:Int) af x.toNat)/\((0:Int)<=gd (0:Int) af x.toNat->(0:Int)<=gd (0:Int) af x.toNat)/\((0:Int)<=gd (0:Int) af x.toNat->(0:Int)<=gd (0:Int) af x.toNat)/\(gd (0:Int) af x.toNat<(0:Int)\/(au v b).fst.vol.layout.data+(au v b).fst.vol.layout.more<=gd (0:Int) af x.toNat->(ah.mk jV (0:Int) [] [],(3:Int))=eD v b dt)/\((0:Int)<=gd (0:Int) af x.toNat/\gd (0:Int) af x.toNat<(au v b).fst.vol.layout.data+(au v b).fst.vol.layout.more->((0:Int)<=x/\x<=(↑ae.length:Int))/\(List.take x.toNat ae).length<=(1000000:Nat)/\(decide (gd (0:Int) af x.toNat∈List.take x.toNat ae)=true->(ah.mk jV (0:Int) [] [],(6:Int))=eD v b dt)/\(decide (gd (0:Int) af x.toNat∈List.take x.toNat ae)=false->aE (x+(1:Int))/\Bc v (0:Int) af aD (x+(1:Int)) ae aB/\((↑ae.length:Int) - (x+(1:Int))).toNat<((↑ae.length:Int) - x).toNat)))/\((↑af.length:Int)<=x->aB.length<=(1000000:Nat)/\(¬cT aB=(0:Int)->(¬cT aB=(0:Int)->(ah.mk jV (0:Int) [] [],cT aB)=eD v b dt)/\(cT aB=(0:Int)->(uf v b)/\(gd (0:Int) v.versions (au v b).fst.no.toNat=(1000000:Int)->(ah.mk jV (0:Int) [] [],(2:Int))=eD v b dt)/\(¬gd (0:Int) v.versions (au v b).fst.no.toNat=(1000000:Int)->False)))/\(cT aB=(0:Int)->((1:Int)<=(au v b).fst.vol.layout.data/\(au v b).fst.vol.layout.data<=(8:Int)/\(1:Int)<=(au v b).fst.vol.layout.more/\(au v b).fst.vol.layout.more<=(6:Int)/\ae.length<=(100:Nat)/\∀(i:Int),i∈ae->(0:Int)<=i/\i<(au v b).fst.vol.layout.data+(au v b).fst.vol.layout.more)/\True/\(¬(bu (bJ (au v b).fst.vol.layout.data (au v b).fst.vol.layout.more ae)).snd=(0:Int)->(¬(bu (bJ (au v b).fst.vol.layout.data (au v b).fst.vol.layout.more ae)).snd=(0:Int)->(ah.mk jV (0:Int) [] [],(bu (bJ (au v b).fst.vol.layout.data (au v b).fst.vol.layout.more ae)).snd)=eD v b dt)/\((bu (bJ (au v b).fst.vol.layout.data (au v b).fst.vol.layout.more ae)).snd=(0:Int)->(uf v b)/\(gd (0:Int) v.versions (au v b).fst.no.toNat=(1000000:Int)->(ah.mk jV (0:Int) [] [],(2:Int))=eD v b dt)/\(¬gd (0:Int) v.versions (au v b).fst.no.toNat=(1000000:Int)->False)))/\((bu (bJ (au v b).fst.vol.layout.data (au v b).fst.vol.layout.more ae)).snd=(0:Int)->iA (bu (bJ (au v b).fst.vol.layout.data (au v b).fst.vol.layout.more ae)).fst aB/\(uf v b)/\(gd (0:Int) v.versions (au v b).fst.no.toNat=(1000000:Int)->(ah.mk jV (0:Int) [] [],(2:Int))=eD v b dt)/\(¬gd (0:Int) v.versions (au v b).fst.no.toNat=(1000000:Int)->((0:Int)<=(au v b).snd.fst/\(au v b).snd.fst<(↑(bP (bu (bJ (au v b).fst.vol.layout.data (au v b).fst.vol.layout.more ae)).fst aB).length:Int))/\(au v b).snd.fst.toNat<(bP (bu (bJ (au v b).fst.vol.layout.data (au v b).fst.vol.layout.more ae)).fst aB).length/\((↑((bP (bu (bJ (au v b).fst.vol.layout.data (au v b).fst.vol.layout.more ae)).fst aB).set (au v b).snd.fst.toNat dt).length:Int)=(0:Int)->(↑v.versions.length:Int)*(8:Int)<=(140737488355328:Int)/\v.nodes≠[]/\((0:Nat)+v.nodes.length)*(32:Nat)<=(140737488355328:Nat)/\False)/\(¬(↑((bP (bu (bJ (au v b).fst.vol.layout.data (au v b).fst.vol.layout.more ae)).fst aB).set (au v b).snd.fst.toNat dt).length:Int)=(0:Int)->((8:Int)<(↑((bP (bu (bJ (au v b).fst.vol.layout.data (au v b).fst.vol.layout.more ae)).fst aB).set (au v b).snd.fst.toNat dt).length:Int)->(↑v.versions.length:Int)*(8:Int)<=(140737488355328:Int)/\v.nodes≠[]/\((0:Nat)+v.nodes.length)*(32:Nat)<=(140737488355328:Nat)/\False)/\((↑((bP (bu (bJ (au v b).fst.vol.layout.data (au v b).fst.vol.layout.more ae)).fst aB).set (au v b).snd.fst.toNat dt).length:Int)<=(8:Int)->True/\(decide ((1:Int)<=v.layout.more/\v.layout.more<=(6:Int))= !true->(↑v.versions.length:Int)*(8:Int)<=(140737488355328:Int)/\v.nodes≠[]/\((0:Nat)+v.nodes.length)*(32:Nat)<=(140737488355328:Nat)/\False)/\(decide ((1:Int)<=v.layout.more/\v.layout.more<=(6:Int))= !false->((bP (bu (bJ (au v b).fst.vol.layout.data (au v b).fst.vol.layout.more ae)).fst aB).set (au v b).snd.fst.toNat dt).length<=(1000000:Nat)/\(¬cT ((bP (bu (bJ (au v b).fst.vol.layout.data (au v b).fst.vol.layout.more ae)).fst aB).set (au v b).snd.fst.toNat dt)=(0:Int)->(↑v.versions.length:Int)*(8:Int)<=(140737488355328:Int)/\v.nodes≠[]/\((0:Nat)+v.nodes.length)*(32:Nat)<=(140737488355328:Nat)/\False)/\(cT ((bP (bu (bJ (au v b).fst.vol.layout.data (au v b).fst.vol.layout.more ae)).fst aB).set (au v b).snd.fst.toNat dt)=(0:Int)->True/\iA (eH v.layout.more (↑((bP (bu (bJ (au v b).fst.vol.layout.data (au v b).fst.vol.layout.more ae)).fst aB).set (au v b).snd.fst.toNat dt).length:Int)).fst ((bP (bu (bJ (au v b).fst.vol.layout.data (au v b).fst.vol.layout.more ae)).fst aB).set (au v b).snd.fst.toNat dt)/\(↑v.versions.length:Int)*(8:Int)<=(140737488355328:Int)/\v.nodes≠[]/\((0:Nat)+v.nodes.length)*(32:Nat)<=(140737488355328:Nat)/\Bd v (0:Int) (List.map (fun x=>az.mk x.up (Row.fix Piece x.pieces)) ([]++v.nodes)) []/\∀(x:Int) (aF:List az) (aU:List (Nat×List Piece)),Bd v x aF aU->(x<(↑([]++v.nodes).length:Int)->((0:Int)<=x/\x<(↑aF.length:Int))/\x.toNat<aF.length/\(gd (az.mk false (Row.no Piece)) aF x.toNat).pieces.ok aU/\(gd (az.mk false (Row.no Piece)) aF x.toNat).pieces.kd≠RK.nil/\(↑((gd (az.mk false (Row.no Piece)) aF x.toNat).pieces.get aU).length:Int)*(24:Int)<=(140737488355328:Int)/\((0:Int)<=x/\x<(↑aF.length:Int))/\∀(id:Nat),¬cv aU id->x.toNat<aF.length/\aE (x+(1:Int))/\Bd v (x+(1:Int)) (aF.set x.toNat (az.mk (gd (az.mk false (Row.no Piece)) aF x.toNat).up (Row.at Piece id ((gd (az.mk false (Row.no Piece)) aF x.toNat).pieces.get aU).length))) ((id,(gd (az.mk false (Row.no Piece)) aF x.toNat).pieces.get aU)::aU)/\((↑v.nodes.length:Int) - (x+(1:Int))).toNat<((↑v.nodes.length:Int) - x).toNat)/\((↑([]++v.nodes).length:Int)<=x->(v.layout.K\/(1:Int)<=v.layout.data/\v.layout.data<=(8:Int)/\(1:Int)<=v.layout.more/\v.layout.more<=(6:Int))/\Be v b (0:Int) (ct.mk (ah.mk v.layout v.size [] []) (au v b).fst.no [],[])/\∀(x:Int) (aC:ct×List Int),Be v b x aC->(x<v.layout.data+v.layout.more->(v.layout.K/\(0:Int)<=(au v b).fst.no/\(au v b).fst.no<=(100:Int)/\(0:Int)<=x/\x<=(100:Int))/\(aC.snd.length+(1:Nat))*(8:Nat)<=(140737488355328:Nat)/\aE (x+(1:Int))/\Be v b (x+(1:Int)) (ct.mk (ah.mk aC.fst.vol.layout aC.fst.vol.size [] []) aC.fst.no [],aC.snd++[v.layout.node (au v b).fst.no x])/\(v.layout.data+v.layout.more - (x+(1:Int))).toNat<(v.layout.data+v.layout.more - x).toNat)/\(v.layout.data+v.layout.more<=x->(uf v b)/\(au v b).fst.no.toNat<v.versions.length/\aE (gd (0:Int) v.versions (au v b).fst.no.toNat+(1:Int))/\(uf v b)/\(au v b).fst.no.toNat<v.versions.length/\(((bP (bu (bJ (au v b).fst.vol.layout.data (au v b).fst.vol.layout.more ae)).fst aB).set (au v b).snd.fst.toNat dt).length+(bP (eH v.layout.more (↑((bP (bu (bJ (au v b).fst.vol.layout.data (au v b).fst.vol.layout.more ae)).fst aB).set (au v b).snd.fst.toNat dt).length:Int)).fst ((bP (bu (bJ (au v b).fst.vol.layout.data (au v b).fst.vol.layout.more ae)).fst aB).set (au v b).snd.fst.toNat dt)).length)*(16:Nat)<=(140737488355328:Nat)/\xB v b dt (0:Int) aF aU/\∀(x:Int) (bp:List az) (bL:List (Nat×List Piece)),xB v b dt x bp bL->(x<(↑((bP (bu (bJ (au v b).fst.vol.layout.data (au v b).fst.vol.layout.more ae)).fst aB).set (au v b).snd.fst.toNat dt++bP (eH v.layout.more (↑((bP (bu (bJ (au v b).fst.vol.layout.data (au v b).fst.vol.layout.more ae)).fst aB).set (au v b).snd.fst.toNat dt).length:Int)).fst ((bP (bu (bJ (au v b).fst.vol.layout.data (au v b).fst.vol.layout.more ae)).fst aB).set (au v b).snd.fst.toNat dt)).length:Int)->((0:Int)<=x/\x<(↑((bP (bu (bJ (au v b).fst.vol.layout.data (au v b).fst.vol.layout.more ae)).fst aB).set (au v b).snd.fst.toNat dt++bP (eH v.layout.more (↑((bP (bu (bJ (au v b).fst.vol.layout.data (au v b).fst.vol.layout.more ae)).fst aB).set (au v b).snd.fst.toNat dt).length:Int)).fst ((bP (bu (bJ (au v b).fst.vol.layout.data (au v b).fst.vol.layout.more ae)).fst aB).set (au v b).snd.fst.toNat dt)).length:Int))/\x.toNat<((bP (bu (bJ (au v b).fst.vol.layout.data (au v b).fst.vol.layout.more ae)).fst aB).set (au v b).snd.fst.toNat dt++bP (eH v.layout.more (↑((bP (bu (bJ (au v b).fst.vol.layout.data (au v b).fst.vol.layout.more ae)).fst aB).set (au v b).snd.fst.toNat dt).length:Int)).fst ((bP (bu (bJ (au v b).fst.vol.layout.data (au v b).fst.vol.layout.more ae)).fst aB).set (au v b).snd.fst.toNat dt)).length/\((0:Int)<=x/\x<(↑aC.snd.length:Int))/\x.toNat<aC.snd.length/\((0:Int)<=gd (0:Int) aC.snd x.toNat/\gd (0:Int) aC.snd x.toNat<(↑bp.length:Int))/\(gd (0:Int) aC.snd x.toNat).toNat<bp.length/\((gd (az.mk false (Row.no Piece)) bp (gd (0:Int) aC.snd x.toNat).toNat).up=true->((0:Int)<=x/\x<(↑aC.snd.length:Int))/\x.toNat<aC.snd.length/\((0:Int)<=gd (0:Int) aC.snd x.toNat/\gd (0:Int) aC.snd x.toNat<(↑bp.length:Int))/\(gd (0:Int) aC.snd x.toNat).toNat<bp.length/\(gd (az.mk false (Row.no Piece)) bp (gd (0:Int) aC.snd x.toNat).toNat).pieces.ok bL/\((0:Int)<=aC.fst.no/\aC.fst.no<(↑((gd (az.mk false (Row.no Piece)) bp (gd (0:Int) aC.snd x.toNat).toNat).pieces.get bL).length:Int))/\((0:Int)<=(au v b).fst.no/\(au v b).fst.no<(↑(xC v b).length:Int))/\(au v b).fst.no.toNat<(xC v b).length/\(gd (az.mk false (Row.no Piece)) bp (gd (0:Int) aC.snd x.toNat).toNat).pieces.ok bL/\aC.fst.no.toNat<((gd (az.mk false (Row.no Piece)) bp (gd (0:Int) aC.snd x.toNat).toNat).pieces.get bL).length/\(gd (az.mk false (Row.no Piece)) bp (gd (0:Int) aC.snd x.toNat).toNat).pieces.bD bL/\aC.fst.no.toNat<((gd (az.mk false (Row.no Piece)) bp (gd (0:Int) aC.snd x.toNat).toNat).pieces.get bL).length/\aE (x+(1:Int))/\xB v b dt (x+(1:Int)) bp (((gd (az.mk false (Row.no Piece)) bp (gd (0:Int) aC.snd x.toNat).toNat).pieces.id,((gd (az.mk false (Row.no Piece)) bp (gd (0:Int) aC.snd x.toNat).toNat).pieces.get bL).set aC.fst.no.toNat (Piece.mk (gd (0:Int) (xC v b) (au v b).fst.no.toNat) (gd ByteArray.empty ((bP (bu (bJ (au v b).fst.vol.layout.data (au v b).fst.vol.layout.more ae)).fst aB).set (au v b).snd.fst.toNat dt++bP (eH v.layout.more (↑((bP (bu (bJ (au v b).fst.vol.layout.data (au v b).fst.vol.layout.more ae)).fst aB).set (au v b).snd.fst.toNat dt).length:Int)).fst ((bP (bu (bJ (au v b).fst.vol.layout.data (au v b).fst.vol.layout.more ae)).fst aB).set (au v b).snd.fst.toNat dt)) x.toNat)))::bL)/\(v.layout.data+v.layout.more - (x+(1:Int))).toNat<(v.layout.data+v.layout.more - x).toNat)/\((gd (az.mk false (Row.no Piece)) bp (gd (0:Int) aC.snd x.toNat).toNat).up=false->aE (x+(1:Int))/\xB v b dt (x+(1:Int)) bp bL/\(v.layout.data+v.layout.more - (x+(1:Int))).toNat<(v.layout.data+v.layout.more - x).toNat))/\((↑((bP (bu (bJ (au v b).fst.vol.layout.data (au v b).fst.vol.layout.more ae)).fst aB).set (au v b).snd.fst.toNat dt++bP (eH v.layout.more (↑((bP (bu (bJ (au v b).fst.vol.layout.data (au v b).fst.vol.layout.more ae)).fst aB).set (au v b).snd.fst.toNat dt).length:Int)).fst ((bP (bu (bJ (au v b).fst.vol.layout.data (au v b).fst.vol.layout.more ae)).fst aB).set (au v b).snd.fst.toNat dt)).length:Int)<=x->(∀(x:az),x∈bp->True/\x.pieces.ok bL/\x.pieces.kd≠RK.nil)/\(ah.mk aC.fst.vol.layout aC.fst.vol.size (xC v b) (List.map (fun x=>Shelf.mk x.up (x.pieces.get bL)) bp),(0:Int))=eD v b dt))))))))))))))))))):=by
 delta xC uf qQ jV
 by_cases hz:eg v b=0
 case neg=>
  have hP:(au v b).2.2=eg v b:=by unfold au;rw [acN hz]
  have e1:eD v b dt=(⟨⟨0,0,0,0⟩,0,[],[]⟩,eg v b):=by
   have e:oa v b dt=eg v b:=by unfold oa;rw [acN hz]
   unfold eD;rw [e,acN hz]
  simp only [hP]
  (repeat' (first|apply And.intro|intro _))<;>first|(exact absurd ‹eg v b=0› hz)|exact e1.symm|(exact absurd (And.left ‹_/\_›) hz)|trivial|trace_state
 have hP:au v b=(⟨v,b / v.layout.data,iU v.layout (b / v.layout.data)⟩,b%v.layout.data,0):=by unfold au;rw [acL (by simp [hz])]
 have e0:∀p,(v.at_ (v.layout.node (b / v.layout.data) p) (b / v.layout.data)).data=gw v (b / v.layout.data) p:=fun p=>rfl
 simp only [hP,e0]
 obtain ⟨k,a2,a3,a4,a5,a6,a7⟩:=xm hz
 have hk:=k.lay
 have kd:=k.lay.d
 have km:=k.lay.m
 have kbd:=k.bd
 have Bg:=dL.mk' k a4 a5
 have bG:=Bg.len
 have hE:∀e:Int,¬e=0->oa v b dt=e->eD v b dt=(⟨⟨0,0,0,0⟩,0,[],[]⟩,e):=fun e h1 h2=>by unfold eD;rw [h2,acN h1]
 have E1:¬(dt.size:Int)=v.size->eD v b dt=(⟨⟨0,0,0,0⟩,0,[],[]⟩,1):=fun h=>hE 1 (by decide) (by unfold oa;rw [acL (by rw [hz];simp),acN h])
 have E2:(dt.size:Int)=v.size->∀e:Int,¬e=0->(cU v (b / v.layout.data)).2=e->eD v b dt=(⟨⟨0,0,0,0⟩,0,[],[]⟩,e):=fun h e h1 h2=>hE e h1 (by unfold oa;rw [acL (by rw [hz];simp),acL (by simp [h]),acN (by rw [h2];exact h1),h2])
 have E3:(dt.size:Int)=v.size->(cU v (b / v.layout.data)).2=0->gd 0 v.versions (b / v.layout.data).toNat=1000000->eD v b dt=(⟨⟨0,0,0,0⟩,0,[],[]⟩,2):=fun h h1 h2=>hE 2 (by decide) (by unfold oa;rw [acL (by rw [hz];simp),acL (by simp [h]),acL (by simp [h1]),acN h2])
 have E4:(dt.size:Int)=v.size->(cU v (b / v.layout.data)).2=0->¬gd 0 v.versions (b / v.layout.data).toNat=1000000->eD v b dt=(My v b dt,0):=fun h h1 h2=>by
  have e:oa v b dt=0:=by unfold oa;rw [acL (by rw [hz];simp),acL (by simp [h]),acL (by simp [h1]),acL h2]
  unfold eD;rw [e];rfl
 have df:= @Mz v (b / v.layout.data)
 have dr:= @MA v (b / v.layout.data) k
 have MB:(dt.size:Int)=v.size->((bW v (b / v.layout.data)).length:Int)<v.layout.data->eD v b dt=(⟨⟨0,0,0,0⟩,0,[],[]⟩,8):=fun h h1=>E2 h 8 (by decide) (by rw [df h1])
 have MC:(dt.size:Int)=v.size->v.layout.data<=((bW v (b / v.layout.data)).length:Int)->¬cT ((bW v (b / v.layout.data)).map (gw v (b / v.layout.data)))=0->eD v b dt=(⟨⟨0,0,0,0⟩,0,[],[]⟩,cT ((bW v (b / v.layout.data)).map (gw v (b / v.layout.data)))):=fun h h1 h2=>E2 h _ h2 (by rw [(dr h1).2.2.1 h2])
 have MD:(dt.size:Int)=v.size->v.layout.data<=((bW v (b / v.layout.data)).length:Int)->cT ((bW v (b / v.layout.data)).map (gw v (b / v.layout.data)))=0->¬(bu (bJ v.layout.data v.layout.more (bW v (b / v.layout.data)))).2=0->eD v b dt=(⟨⟨0,0,0,0⟩,0,[],[]⟩,(bu (bJ v.layout.data v.layout.more (bW v (b / v.layout.data)))).2):=fun h h1 h2 h3=>E2 h _ h3 (by rw [(dr h1).2.2.2.1 h2 h3])
 have M0:v.layout.data<=((bW v (b / v.layout.data)).length:Int)->cT ((bW v (b / v.layout.data)).map (gw v (b / v.layout.data)))=0->(bu (bJ v.layout.data v.layout.more (bW v (b / v.layout.data)))).2=0->bP (bu (bJ v.layout.data v.layout.more (bW v (b / v.layout.data)))).1 ((bW v (b / v.layout.data)).map (gw v (b / v.layout.data)))=(cU v (b / v.layout.data)).1/\(cU v (b / v.layout.data)).2=0/\iA (bu (bJ v.layout.data v.layout.more (bW v (b / v.layout.data)))).1 ((bW v (b / v.layout.data)).map (gw v (b / v.layout.data))):=fun h1 h2 h3=>by
  have q:=dr h1
  refine ⟨by rw [q.2.2.2.2 h2 h3],by rw [q.2.2.2.2 h2 h3],Me kd.1 kd.2 (by rw [ac4]) q.1 h2 h3⟩
 have hdc:= @FJ v (b / v.layout.data)
 have hwe:= @aaX v b dt hz
 have hwd:(cU v (b / v.layout.data)).1.set (b%v.layout.data).toNat dt=eo v b dt:=rfl
 have hwa:(wW (eo v b dt) v.layout.more).1=bP (eH v.layout.more (eo v b dt).length).1 (eo v b dt)->eo v b dt++bP (eH v.layout.more (eo v b dt).length).1 (eo v b dt)=pI v b dt:=fun h=>by unfold pI;rw [h]
 have hem:= @Zc (eo v b dt) v.layout.more
 have hvr:=k.ver _ (iv (d:=(0:Int)) (xs:=v.versions) (i:=(b / v.layout.data).toNat) (by omega))
 have d1:= @fv.start v (b / v.layout.data)
 have d2:= @fv.cm v (b / v.layout.data)
 have d3:= @fv.more v (b / v.layout.data)
 have d4:= @fv.fin v (b / v.layout.data)
 have d5:= @fv.len v (b / v.layout.data)
 have t1:= @fu.start (v.layout.data+v.layout.more)
 have t2:= @fu.out (v.layout.data+v.layout.more)
 have t3:= @fu.Mb (v.layout.data+v.layout.more)
 have t4:= @fu.step (v.layout.data+v.layout.more)
 have t6:= @fu.lo (v.layout.data+v.layout.more)
 have atR:∀x,x∈bW v (b / v.layout.data)->0<=x/\x<v.layout.data+v.layout.more:=fun x hx=>by have:=FW x hx;omega
 refine ⟨trivial,fun h=>h,fun h=>h,fun h=>h,fun h=>h,fun h=>h,fun h=>(E1 h.2).symm,fun h0=>⟨fun h=>absurd trivial h,fun _=> ?_⟩⟩
 have hs:(dt.size:Int)=v.size:=h0.resolve_left (fun h=>h trivial)
 refine ⟨⟨hz,d1 hk⟩,fun p at_ P hI=>⟨fun hp=> ?_,fun hp=> ?_⟩⟩
 ·obtain ⟨_,hI⟩:=hI
  have q:=d5 hI hk
  have hlt:p<v.layout.data+v.layout.more:=by rw [<-bG.1];exact hp
  have q0:=q.2.2.2
  refine ⟨⟨Bg,q0,hlt⟩,fun h=>h,fun h=>h,fun h=>h,fun h=>h,fun h=>h,fun h=>h,fun h=>h,fun h=>⟨by omega,⟨Bg,q0,hlt⟩,by omega,by unfold aE;omega,⟨hz,d3 hI hlt h.1 h.2⟩,by omega⟩,fun h=>⟨by unfold aE;omega,⟨hz,d2 hI hlt h⟩,by omega⟩⟩
 obtain ⟨_,hI⟩:=hI
 obtain ⟨rfl,rfl⟩:=d4 hI (by rw [<-bG.1];exact hp)
 clear hI hp h0
 have b1:decide (1<=v.layout.data/\v.layout.data<=8)=true:=adX kd
 have b2:decide (1<=v.layout.more/\v.layout.more<=6)=true:=adX km
 refine ⟨fun h=>(MB hs h).symm,fun hl=>⟨trivial,fun _=>trivial,fun h=>by rw [b1,b2] at h;simp at h,fun _=>⟨fun h=>absurd (by rw [ac4]) h,fun _=>⟨fun h=>absurd hl (by omega),fun _=>⟨fun h=>absurd h (by have:=(dr hl).1;omega),fun _=>⟨⟨rfl,rfl,t1⟩,fun x x3 x4 hI=> ?_⟩⟩⟩⟩⟩⟩
 obtain ⟨rfl,rfl,hA⟩:=hI
 obtain ⟨q1,q2,r1,r2,r3⟩:=dr hl
 have q0:=t6 hA
 refine ⟨fun hx=>⟨⟨q0,hx⟩,fun h=>h,fun h=>h,fun _=>by unfold aE;omega,fun h=>h,fun h=>h,fun h=>h,fun h=>by have:=t2 hA hx h;rw [q2] at this;simp at this,fun h=>⟨⟨q0,by omega⟩,by rw [adH];omega,fun h2=>by have:=t3 hA hx h.1 h.2 (ad8 h2);rw [q2] at this;simp at this,fun h2=>⟨by unfold aE;omega,⟨rfl,rfl,t4 hA hx h.1 h.2 (of_decide_eq_false h2)⟩,by omega⟩⟩⟩,fun hx=> ?_⟩
 refine ⟨by rw [ac4];omega,fun h=>⟨fun _=>(MC hs hl h).symm,fun h2=>absurd h2 h⟩,fun h=> ?_⟩
 refine ⟨⟨kd.1,kd.2,km.1,km.2,by omega,atR⟩,trivial,fun h2=>⟨fun _=>(MD hs hl h h2).symm,fun h3=>absurd h3 h2⟩,fun h2=> ?_⟩
 obtain ⟨m1,m2,m3⟩:=M0 hl h h2
 refine ⟨m3,⟨a4,a5⟩,fun h3=>(E3 hs m2 h3).symm,fun h3=> ?_⟩
 have e4:=E4 hs m2 h3
 obtain ⟨w1,w2,w3,w4⟩:=hwe hs m2
 have ik:=hdc m2
 have w5:=hwa (by rw [w3])
 simp only [m1,hwd,w5]
 clear hA E1 E2 MB MC MD E3 E4 M0 hE dr df t1 t2 t3 t4 t6 d1 d2 d3 d4 d5 r1 r2 r3 hx
 refine ⟨⟨a6,by omega⟩,by omega,fun h4=>by omega,fun _=>⟨fun h4=>by omega,fun _=>⟨trivial,fun h4=>by rw [b2] at h4;simp at h4,fun _=>⟨by omega,fun h4=>absurd w2 h4,fun _=>⟨trivial,hem (by omega) (by omega) km.1 km.2 w2,by omega,kbd.1,by omega, ?_,fun x x5 x6 hO=>⟨fun hx=> ?_,fun hx=> ?_⟩⟩⟩⟩⟩⟩
 ·exact db.start
 ·have hx:x<(v.nodes.length:Int):=hx
  obtain ⟨o1,o2,o3,o4⟩:=hO.rw k hx
  have o5:=hO.lo
  have o6:=hO.len
  have st:=fun id hid=>hO.step (id:=id) hx hid rfl
  rw [<-o3] at o4 st
  exact ⟨⟨o5,by omega⟩,by omega,o1,o2,by omega,⟨o5,by omega⟩,fun id hid=>⟨by omega,by unfold aE;omega,st id hid,by omega⟩⟩
 have hx:(v.nodes.length:Int)<=x:=hx
 refine ⟨.inl hk,⟨rfl,rfl,rfl,iT.start (by omega)⟩,fun p Z hZ=>⟨fun hp=> ?_,fun hp=> ?_⟩⟩
 ·obtain ⟨z1,z2,z3,hU⟩:=hZ
  have u3:=hU.len
  have u4:=hU.lo
  have u2:=hU.step hp
  have u6:jS v.layout (b / v.layout.data) p.toNat=v.layout.node (b / v.layout.data) p:=by unfold jS;rw [show ((p.toNat:Nat):Int)=p by omega]
  rw [u6] at u2
  exact ⟨⟨hk,a4,by omega,u4,by omega⟩,by omega,by unfold aE;omega,⟨z1,z2,z3,u2⟩,by omega⟩
 obtain ⟨z1,z2,z3,hU⟩:=hZ
 have hZ2:Z.2=iU v.layout (b / v.layout.data):=hU.fin hp
 have w6:(eo v b dt).length+(bP (eH v.layout.more (eo v b dt).length).1 (eo v b dt)).length=(pI v b dt).length:=by rw [<-w5,adV]
 have sK:((iU v.layout (b / v.layout.data)).length:Int)=v.layout.data+v.layout.more:=bG.1
 have ev:gd 0 (v.versions.set (b / v.layout.data).toNat (gd 0 v.versions (b / v.layout.data).toNat+1)) (b / v.layout.data).toNat=gd 0 v.versions (b / v.layout.data).toNat+1:=by rw [fy (by omega),acN rfl]
 simp only [z1,z2,z3,hZ2,ev,e4,ada]
 refine ⟨⟨a4,a5⟩,by omega,by unfold aE;omega,⟨a4,a5⟩,by omega,by rw [w6];omega,jt.start k hO hx a4 a5,fun p K A hW=>⟨fun hp=> ?_,fun hp=> ?_⟩⟩
 ·have hW:jt v (b / v.layout.data) (gd 0 v.versions (b / v.layout.data).toNat+1) (pI v b dt) p K A:=hW
  have p0:=hW.k0
  have p1:p<v.layout.data+v.layout.more:=by omega
  have ea:gd 0 (iU v.layout (b / v.layout.data)) p.toNat=v.layout.node (b / v.layout.data) p:=Bg.at_ p0 p1
  simp only [ea]
  obtain ⟨g1,g2,g3,g4,g5,g6,g7⟩:=hW.row
  have ME:=hW.step p1
  have aa6:=hW.down p1
  simp only [lh] at g4 g5 g6 g7 ME
  exact ⟨⟨p0,by omega⟩,by omega,⟨p0,by omega⟩,by omega,⟨g1,g2⟩,by omega,fun up=>⟨⟨p0,by omega⟩,by omega,⟨g1,g2⟩,by omega,g5,⟨a4,by rw [g7];exact a5⟩,⟨a4,a5⟩,by omega,g5,by rw [g7];omega,g4,by rw [g7];omega,by unfold aE;omega,ME up,by omega⟩,fun up=>⟨by unfold aE;omega,aa6 up,by omega⟩⟩
 ·have hW:jt v (b / v.layout.data) (gd 0 v.versions (b / v.layout.data).toNat+1) (pI v b dt) p K A:=hW
  obtain ⟨f1,f2⟩:=hW.done (by omega) (vs:=v.versions.set (b / v.layout.data).toNat (gd 0 v.versions (b / v.layout.data).toNat+1))
  exact ⟨f1,Prod.ext f2 rfl⟩
noncomputable def MF:PD Tc.dn Bf.ps->List (IL Tc Tc.dn):=fun x=>(fun (v:ah) (b:Int) (dt:ByteArray)=>([⟨18, .fn HT (fun k=>bif Nat.beq k 0 then some (.inv [.sl 10 .aA, .ow 4 .aA, .ow 5 .gL] (fun zo zv=>(fun (p:Int) (at_:(List Int)) (P:(List ByteArray))=>xA v b p at_ P) zv.1 zv.2.1 zv.2.2.1) (fun zo zv=>(fun (p:Int) (at_:(List Int)) (P:(List ByteArray))=>((v.layout.data+v.layout.more) - p).toNat) zv.1 zv.2.1 zv.2.2.1)) else none),none⟩,⟨44, .fn H9 (fun k=>bif Nat.beq k 0 then some (.inv [.sl 40 .aA, .sl 2 .jN, .sl 3 .jl] (fun zo zv=>(fun (i0:Int) (a0:(List Int)) (P0:(List ByteArray)) (i:Int) (a:(List Int)) (P:(List ByteArray))=>Bc v i0 a0 P0 i a P) zo.1 zo.2.1 zo.2.2.1 zv.1 zv.2.1 zv.2.2.1) (fun zo zv=>(fun (i0:Int) (a0:(List Int)) (P0:(List ByteArray)) (i:Int) (a:(List Int)) (P:(List ByteArray))=>((a.length:Int) - i).toNat) zo.1 zo.2.1 zo.2.2.1 zv.1 zv.2.1 zv.2.2.1)) else bif Nat.beq k 1016 then some (.ib [2,3]) else none),none⟩,⟨19, .fn HW (fun _=>none),none⟩,⟨21, .fn yB (fun k=>bif Nat.beq k 0 then some (.inv [.sl 15 .aA, .bl 13 .gM, .ar .eU] (fun zo zv=>(fun (i:Int) (K:(List az)) (A:(List (Nat×List Piece)))=>Bd v i K A) zv.1 zv.2.1 zv.2.2.1) (fun zo zv=>(fun (i:Int) (K:(List az)) (A:(List (Nat×List Piece)))=>((v.nodes.length:Int) - i).toNat) zv.1 zv.2.1 zv.2.2.1)) else none),none⟩,⟨51, .fn yC (fun _=>none),none⟩,⟨20, .fn HX (fun k=>bif Nat.beq k 0 then some (.inv [.sl 13 .aA, .sg 16 8 .aA .ky [(5, .aA,11,1),(6, .kX,13,2)]] (fun zo zv=>(fun (p:Int) (Z:(ct×List Int))=>Be v b p Z) zv.1 zv.2.1) (fun zo zv=>(fun (p:Int) (Z:(ct×List Int))=>(v.layout.data+v.layout.more - p).toNat) zv.1 zv.2.1)) else none),none⟩,⟨22, .fn H0 (fun _=>none),none⟩])) x.1 x.2.1 x.2.2.1
theorem aa7:∀x,nL Try.prog tD (MF x):=fun _=>⟨⟨HU,HV⟩,⟨Ia,Ib⟩,⟨Q4,Q5⟩,⟨CK,CL⟩,⟨CN,CO⟩,⟨HY,HZ⟩,⟨H3,H4⟩,trivial⟩
theorem aa8:Bf.Ok Try.prog tD:=bO cP (Δ:=[AX,xq,xp,Aw,Av,Ax,xk,xh,Au,sn,wP]) ⟨Mm,FL,FK,(LW.two rfl rfl rfl),(LV.two rfl rfl rfl),(LX.two rfl rfl rfl),(Mg.two rfl rfl rfl),(Ma.two rfl rfl rfl),(LN.two rfl rfl rfl),wN,EX,trivial⟩ (Ω:=[FU,AY,AZ]) ⟨aaE,FQ,FR,trivial⟩ Bf QB QC (MF) (aa7) 4 (fun x=>(fun (v:ah) (b:Int) (dt:ByteArray)=>(fun k=>bif Nat.beq k 0 then some (.inv [.sl 86 .aA, .bl 13 .gM, .ar .eU] (fun zo zv=>(fun (p:Int) (K:(List az)) (A:(List (Nat×List Piece)))=>xB v b dt p K A) zv.1 zv.2.1 zv.2.2.1) (fun zo zv=>(fun (p:Int) (K:(List az)) (A:(List (Nat×List Piece)))=>(v.layout.data+v.layout.more - p).toNat) zv.1 zv.2.1 zv.2.2.1)) else bif Nat.beq k 11068 then some (.z7 20) else bif Nat.beq k 11102 then some (.z7 22) else none)) x.1 x.2.1 x.2.2.1) fun x hp=>Eq.mp (by kernel_rfl) (aaY x.1 x.2.1 x.2.2.1)
theorem aa9 {n:Nat} {d:Int} (h:0<=d/\n<18446744073709551616):((n:Int)).fdiv (2^(min (Int.toNat d) IntKind.u64.bits))=((n / 2^Int.toNat d:Nat):Int):=by
 have hb:IntKind.u64.bits=64:=rfl
 rw [hb,Int.fdiv_eq_ediv_of_nonneg _ (Int.le_of_lt (Int.pow_pos (by decide)))]
 by_cases h2:Int.toNat d<=64
 ·rw [aet h2,show ((2:Int)^(Int.toNat d))=((2^(Int.toNat d):Nat):Int) by push_cast;rfl];rfl
 ·have hp:2^64<=2^Int.toNat d:=Nat.pow_le_pow_right (by decide) (by omega)
  rw [Nat.min_eq_right (by omega),Nat.div_eq_of_lt (adf h.2 (by simpa using hp))]
  show (n:Int) / 18446744073709551616=0
  omega
theorem aba {x:Nat}:((((x / 2^k:Nat):Int)%2==1):Bool)=(x / 2^k%2==1):=by
 generalize x / 2^k=q
 rw [aee];simp;omega
section
variable (k:Int) (x:bU)
abbrev FX:LS:=[(6,VI k),(5, .v (.int .u64 (x.n:Int))),(0, .v (.int .u64 (x.n:Int))),(1,VI k)]
abbrev abb:LS:=(7, .v (.int .u64 ((x.n / 2^Int.toNat k:Nat):Int)))::(FX k x)
end
theorem abc (x:bU) (k:Int) (oy:0<=k):Fn Try.prog 15 [.v (.int .u64 (x.n:Int)),VI k] (.v (.bool (x.n / 2^Int.toNat k%2==1))):=by
 refine Ui QW ?_
 refine CZ 1 [0,1] ⟨[(0, .v (.int .u64 (x.n:Int))),(1,VI k)],[]⟩ ?_
 refine C0 2 ⟨(FX k x),[]⟩ ?_
 refine yJ ⟨(7, .v (.int .u64 (((x.n:Int)).fdiv (2^(min (Int.toNat k) IntKind.u64.bits)))))::(FX k x),[]⟩ (Pw (.s 5) (.s 6) .u64 .i64 (x.n:Int) k (by kernel_rfl) (by kernel_rfl) (by kernel_rfl) (by kernel_rfl) (by omega)) ?_
 have e1:((x.n:Int)).fdiv (2^(min (Int.toNat k) IntKind.u64.bits))=((x.n / 2^Int.toNat k:Nat):Int):=aa9 (by exact ⟨oy,x.lt⟩)
 rw [e1]
 refine Ud 3 ⟨(4, .v (.bool (((((x.n / 2^Int.toNat k:Nat):Int)).tmod 2)==1)))::(9, .v (.bool (((((x.n / 2^Int.toNat k:Nat):Int)).tmod 2)==1)))::(8, .v (.int .u64 ((((x.n / 2^Int.toNat k:Nat):Int)).tmod 2)))::(abb k x),[]⟩ ?_
 have e2:(((x.n / 2^Int.toNat k:Nat):Int)).tmod 2=((x.n / 2^Int.toNat k:Nat):Int)%2:=PM (by generalize x.n / 2^Int.toNat k=q;omega)
 rw [e2]
 refine yI 0 [4] ⟨[(4, .v (.bool ((((x.n / 2^Int.toNat k:Nat):Int)%2)==1)))],[]⟩ ?_
 refine EL.ret ?_
 refine Uh (.v (.bool ((((x.n / 2^Int.toNat k:Nat):Int)%2)==1))) ?_
 focus (exact adQ (fun b=>AV.v (Value.bool b)) aba)
open Go.RowKit
def lj (x k:Nat):Bool:=x / 2^k%2==1
def MG:bk Tc Tc.dn:=⟨15,[.ty .nN, .ty .aA],fun x=>(0:Int)<=x.2.1,[.ed],fun x=>lj x.1.n x.2.1.toNat⟩
theorem abd:MG.Ok Try.prog tD:=⟨QX,fun x N h=>abc x.1 x.2.1 h⟩
structure gg {α:Type} (d:α) (a b:List α) (i:Int):Prop where
 lo:0<=i
 hi:i<=a.length
 len:a.length=b.length
 eq:∀j:Nat,j<i.toNat->gd d a j=gd d b j
theorem gg.start {α:Type} {d:α} {a b:List α} (h:(a.length:Int)=b.length):gg d a b 0:=⟨by omega,by omega,by omega,fun j hj=>by simp at hj⟩
theorem gg.step {α:Type} {d:α} {a b:List α} {i:Int} (h:gg d a b i) (hi:i<a.length) (e:gd d a i.toNat=gd d b i.toNat):gg d a b (i+1):=by
 have h0:=h.lo
 refine ⟨by omega,by omega,h.len,fun j hj=> ?_⟩
 by_cases e2:j=i.toNat
 ·rw [e2];exact e
 ·exact h.eq j (by omega)
theorem gg.fin {α:Type} {d:α} {a b:List α} {i:Int} (h:gg d a b i) (hi:a.length<=i):a=b:=aaT (d:=d) h.len fun j hj=>h.eq j (by omega)
theorem MH (a b:ah):a=b↔a.layout=b.layout/\a.size=b.size/\a.versions=b.versions/\a.nodes=b.nodes:=by
 constructor
 ·rintro rfl;exact ⟨rfl,rfl,rfl,rfl⟩
 ·intro ⟨h1,h2,h3,h4⟩;cases a;cases b;simp at h1 h2 h3 h4;subst h1;subst h2;subst h3;subst h4;rfl
theorem MI (a b:aO):a=b↔a.nodes=b.nodes/\a.data=b.data/\a.more=b.more/\a.turn=b.turn:=by
 constructor
 ·rintro rfl;exact ⟨rfl,rfl,rfl,rfl⟩
 ·intro ⟨h1,h2,h3,h4⟩;cases a;cases b;simp at h1 h2 h3 h4;subst h1;subst h2;subst h3;subst h4;rfl
theorem MJ (a b:Shelf):a=b↔a.up=b.up/\a.pieces=b.pieces:=by
 constructor
 ·rintro rfl;exact ⟨rfl,rfl⟩
 ·intro ⟨h1,h2⟩;cases a;cases b;simp at h1 h2;subst h1;subst h2;rfl
theorem MK (a b:Piece):a=b↔a.version=b.version/\a.data=b.data:=by
 constructor
 ·rintro rfl;exact ⟨rfl,rfl⟩
 ·intro ⟨h1,h2⟩;cases a;cases b;simp at h1 h2;subst h1;subst h2;rfl
instance:DecidableEq aO:=fun a b=>decidable_of_iff _ (MI a b).symm
instance:DecidableEq Piece:=fun a b=>decidable_of_iff _ (MK a b).symm
instance:DecidableEq Shelf:=fun a b=>decidable_of_iff _ (MJ a b).symm
instance:DecidableEq ah:=fun a b=>decidable_of_iff _ (MH a b).symm
structure iV (a b:ah) (n s:Int):Prop where
 o:gg (⟨false,[]⟩:Shelf) a.nodes b.nodes n
 lt:n<a.nodes.length
 u:(gd (⟨false,[]⟩:Shelf) a.nodes n.toNat).up=(gd (⟨false,[]⟩:Shelf) b.nodes n.toNat).up
 r:gg (⟨0,ByteArray.empty⟩:Piece) (gd (⟨false,[]⟩:Shelf) a.nodes n.toNat).pieces (gd (⟨false,[]⟩:Shelf) b.nodes n.toNat).pieces s
theorem iV.fin {a b:ah} {n s:Int} (h:iV a b n s) (hs:((gd (⟨false,[]⟩:Shelf) a.nodes n.toNat).pieces.length:Int)<=s):gg (⟨false,[]⟩:Shelf) a.nodes b.nodes (n+1):=h.o.step h.lt ((MJ _ _).2 ⟨h.u,h.r.fin hs⟩)
theorem iV.step {a b:ah} {n s:Int} (h:iV a b n s) (hs:s<((gd (⟨false,[]⟩:Shelf) a.nodes n.toNat).pieces.length:Int)) (e:gd (⟨0,ByteArray.empty⟩:Piece) (gd (⟨false,[]⟩:Shelf) a.nodes n.toNat).pieces s.toNat=gd (⟨0,ByteArray.empty⟩:Piece) (gd (⟨false,[]⟩:Shelf) b.nodes n.toNat).pieces s.toNat):iV a b n (s+1):=⟨h.o,h.lt,h.u,h.r.step hs e⟩
theorem iV.lo {a b:ah} {n s:Int} (h:iV a b n s):0<=n/\0<=s/\a.nodes.length=b.nodes.length/\(gd (⟨false,[]⟩:Shelf) a.nodes n.toNat).pieces.length=(gd (⟨false,[]⟩:Shelf) b.nodes n.toNat).pieces.length:=⟨h.o.lo,h.r.lo,h.o.len,h.r.len⟩
theorem iV.bd {a b:ah} {n s:Int} (h:iV a b n s):n<a.nodes.length:=h.lt
theorem iV.start {a b:ah} {n:Int} (h:gg (⟨false,[]⟩:Shelf) a.nodes b.nodes n) (hn:n<a.nodes.length) (hu:(gd (⟨false,[]⟩:Shelf) a.nodes n.toNat).up=(gd (⟨false,[]⟩:Shelf) b.nodes n.toNat).up) (hl:((gd (⟨false,[]⟩:Shelf) a.nodes n.toNat).pieces.length:Int)=(gd (⟨false,[]⟩:Shelf) b.nodes n.toNat).pieces.length):iV a b n 0:=⟨h,hn,hu, .start hl⟩
structure ah.sm (v:ah):Prop where
 vs:v.versions.length<=1000000
 ns:v.nodes.length<=1000000
 ps:∀x,x∈v.nodes->x.pieces.length<=1000000
def FY:bk Tc Tc.dn:=⟨24,[],fun _=>True,[.jM],fun _=>⟨5,2,2,1⟩⟩
theorem abe  :aO.mk (5:Int) (2:Int) (2:Int) (1:Int)=aO.mk (5:Int) (2:Int) (2:Int) (1:Int):=by
 (repeat' (first|apply And.intro|intro _))<;>first|assumption|trivial|omega|(grind [])|trace_state
theorem abf:FY.Ok Try.prog tD:=bO cP (Δ:=[]) trivial (Ω:=[]) trivial FY Ra Rb (fun _=>[]) (fun _=>trivial) 0 (fun _=>fun _=>none) fun x hp=>Eq.mp (by kernel_rfl) (abe )
def xD (a:(List Int)) (b:(List Int)) (i:Int):Prop:=gg 0 a b i
def F0:bk Tc Tc.dn:=⟨25,[.ty .jN, .ty .jN],fun x=>(fun (a:(List Int)) (b:(List Int))=>a.length<=1000000) x.1 x.2.1,[.ed],fun x=>(fun (a:(List Int)) (b:(List Int))=>decide (a=b)) x.1 x.2.1⟩
theorem abg (a:(List Int)) (b:(List Int)) (hp:a.length<=1000000):(¬(↑a.length:Int)=(↑b.length:Int)->false=decide (a=b))/\((↑a.length:Int)=(↑b.length:Int)->xD a b (0:Int)/\∀(x:Int),xD a b x->(x<(↑a.length:Int)->((0:Int)<=x/\x<(↑a.length:Int))/\((0:Int)<=x/\x<(↑b.length:Int))/\(¬gd (0:Int) a x.toNat=gd (0:Int) b x.toNat->false=decide (a=b))/\(gd (0:Int) a x.toNat=gd (0:Int) b x.toNat->aE (x+(1:Int))/\xD a b (x+(1:Int))/\((↑a.length:Int) - (x+(1:Int))).toNat<((↑a.length:Int) - x).toNat))/\((↑a.length:Int)<=x->true=decide (a=b))):=by
 have h1:= @gg.start Int 0 a b
 have h2:= @gg.step Int 0 a b
 have h3:= @gg.fin Int 0 a b
 have h6:= @gg.lo Int 0 a b
 have h7:= @gg.len Int 0 a b
 (repeat' (first|apply And.intro|intro _))<;>first|assumption|trivial|omega|(grind [xD,aE])|trace_state
theorem abh:F0.Ok Try.prog tD:=bO cP (Δ:=[]) trivial (Ω:=[]) trivial F0 Rd Re (fun _=>[]) (fun _=>trivial) 0 (fun x=>(fun (a:(List Int)) (b:(List Int))=>(fun k=>bif Nat.beq k 0 then some (.inv [.sl 5 .aA] (fun zo zv=>(fun (i:Int)=>xD a b i) zv.1) (fun zo zv=>(fun (i:Int)=>((a.length:Int) - i).toNat) zv.1)) else none)) x.1 x.2.1) fun x hp=>Eq.mp (by kernel_rfl) (abg x.1 x.2.1 hp)
def xE (a:ah) (b:ah) (s0:Int) (n0:Int) (s:Int) (n:Int):Prop:=n=n0/\a.layout=b.layout/\a.size=b.size/\a.versions=b.versions/\iV a b n s
def xF (a:ah) (b:ah) (n:Int):Prop:=a.layout=b.layout/\a.size=b.size/\a.versions=b.versions/\gg (⟨false,[]⟩:Shelf) a.nodes b.nodes n
def F1:bk Tc Tc.dn:=⟨8,[.ty .eV, .ty .eV],fun x=>(fun (a:ah) (b:ah)=>a.sm) x.1 x.2.1,[.ed],fun x=>(fun (a:ah) (b:ah)=>decide (a=b)) x.1 x.2.1⟩
abbrev iW (a:ah) (b:ah):=(a.layout.nodes=b.layout.nodes/\a.layout.data=b.layout.data/\a.layout.more=b.layout.more/\a.layout.turn=b.layout.turn)
abbrev ug (a:ah) (b:ah):=(a.layout.nodes=b.layout.nodes/\a.layout.data=b.layout.data/\a.layout.more=b.layout.more/\a.layout.turn=b.layout.turn->a.layout.nodes=b.layout.nodes/\a.layout.data=b.layout.data/\a.layout.more=b.layout.more/\a.layout.turn=b.layout.turn)
abbrev qR (a:ah) (b:ah):=(((iW a b)/\a.size=b.size)/\decide (a.versions=b.versions)= !false->((iW a b)/\a.size=b.size)/\decide (a.versions=b.versions)= !false)
theorem abi (a:ah) (b:ah) (hp:a.sm):(ug a b)/\(ug a b)/\(ug a b)/\(ug a b)/\(ug a b)/\((iW a b)/\a.size=b.size->(iW a b)/\a.size=b.size)/\((iW a b)/\a.size=b.size->(iW a b)/\a.size=b.size)/\((iW a b)/\a.size=b.size->(iW a b)/\a.size=b.size)/\((iW a b)/\a.size=b.size->(iW a b)/\a.size=b.size)/\((iW a b)/\a.size=b.size->a.versions.length<=(1000000:Nat))/\((iW a b)/\a.size=b.size->(iW a b)/\a.size=b.size)/\((iW a b)/\a.size=b.size->(iW a b)/\a.size=b.size)/\(qR a b)/\(qR a b)/\(qR a b)/\(qR a b)/\(qR a b)/\(qR a b)/\(qR a b)/\((((¬a.layout.nodes=b.layout.nodes\/¬a.layout.data=b.layout.data\/¬a.layout.more=b.layout.more\/¬a.layout.turn=b.layout.turn)\/¬a.size=b.size)\/decide (a.versions=b.versions)= !true)\/¬(↑a.nodes.length:Int)=(↑b.nodes.length:Int)->false=decide (a=b))/\((((iW a b)/\a.size=b.size)/\decide (a.versions=b.versions)= !false)/\(↑a.nodes.length:Int)=(↑b.nodes.length:Int)->xF a b (0:Int)/\∀(x:Int),xF a b x->(x<(↑a.nodes.length:Int)->((0:Int)<=x/\x<(↑a.nodes.length:Int))/\((0:Int)<=x/\x<(↑b.nodes.length:Int))/\((gd (Shelf.mk false []) a.nodes x.toNat).up=(gd (Shelf.mk false []) b.nodes x.toNat).up->(gd (Shelf.mk false []) a.nodes x.toNat).up=(gd (Shelf.mk false []) b.nodes x.toNat).up)/\((gd (Shelf.mk false []) a.nodes x.toNat).up=(gd (Shelf.mk false []) b.nodes x.toNat).up->(gd (Shelf.mk false []) a.nodes x.toNat).up=(gd (Shelf.mk false []) b.nodes x.toNat).up)/\((gd (Shelf.mk false []) a.nodes x.toNat).up=(gd (Shelf.mk false []) b.nodes x.toNat).up->(gd (Shelf.mk false []) a.nodes x.toNat).up=(gd (Shelf.mk false []) b.nodes x.toNat).up)/\((gd (Shelf.mk false []) a.nodes x.toNat).up=(gd (Shelf.mk false []) b.nodes x.toNat).up->(gd (Shelf.mk false []) a.nodes x.toNat).up=(gd (Shelf.mk false []) b.nodes x.toNat).up)/\((gd (Shelf.mk false []) a.nodes x.toNat).up=(gd (Shelf.mk false []) b.nodes x.toNat).up->(gd (Shelf.mk false []) a.nodes x.toNat).up=(gd (Shelf.mk false []) b.nodes x.toNat).up)/\((gd (Shelf.mk false []) a.nodes x.toNat).up=(gd (Shelf.mk false []) b.nodes x.toNat).up->(gd (Shelf.mk false []) a.nodes x.toNat).up=(gd (Shelf.mk false []) b.nodes x.toNat).up)/\((gd (Shelf.mk false []) a.nodes x.toNat).up=(gd (Shelf.mk false []) b.nodes x.toNat).up->(gd (Shelf.mk false []) a.nodes x.toNat).up=(gd (Shelf.mk false []) b.nodes x.toNat).up)/\(¬(gd (Shelf.mk false []) a.nodes x.toNat).up=(gd (Shelf.mk false []) b.nodes x.toNat).up\/¬(↑(gd (Shelf.mk false []) a.nodes x.toNat).pieces.length:Int)=(↑(gd (Shelf.mk false []) b.nodes x.toNat).pieces.length:Int)->false=decide (a=b))/\((gd (Shelf.mk false []) a.nodes x.toNat).up=(gd (Shelf.mk false []) b.nodes x.toNat).up/\(↑(gd (Shelf.mk false []) a.nodes x.toNat).pieces.length:Int)=(↑(gd (Shelf.mk false []) b.nodes x.toNat).pieces.length:Int)->xE a b (0:Int) x (0:Int) x/\∀(af aD:Int),xE a b (0:Int) x af aD->(af<(↑(gd (Shelf.mk false []) a.nodes x.toNat).pieces.length:Int)->((0:Int)<=af/\af<(↑(gd (Shelf.mk false []) a.nodes x.toNat).pieces.length:Int))/\((0:Int)<=af/\af<(↑(gd (Shelf.mk false []) b.nodes x.toNat).pieces.length:Int))/\(¬(gd (Piece.mk (0:Int) ByteArray.empty) (gd (Shelf.mk false []) a.nodes x.toNat).pieces af.toNat).version=(gd (Piece.mk (0:Int) ByteArray.empty) (gd (Shelf.mk false []) b.nodes x.toNat).pieces af.toNat).version\/¬(gd (Piece.mk (0:Int) ByteArray.empty) (gd (Shelf.mk false []) a.nodes x.toNat).pieces af.toNat).data=(gd (Piece.mk (0:Int) ByteArray.empty) (gd (Shelf.mk false []) b.nodes x.toNat).pieces af.toNat).data->false=decide (a=b))/\((gd (Piece.mk (0:Int) ByteArray.empty) (gd (Shelf.mk false []) a.nodes x.toNat).pieces af.toNat).version=(gd (Piece.mk (0:Int) ByteArray.empty) (gd (Shelf.mk false []) b.nodes x.toNat).pieces af.toNat).version/\(gd (Piece.mk (0:Int) ByteArray.empty) (gd (Shelf.mk false []) a.nodes x.toNat).pieces af.toNat).data=(gd (Piece.mk (0:Int) ByteArray.empty) (gd (Shelf.mk false []) b.nodes x.toNat).pieces af.toNat).data->aE (af+(1:Int))/\xE a b (0:Int) x (af+(1:Int)) aD/\((↑(gd (Shelf.mk false []) a.nodes aD.toNat).pieces.length:Int) - (af+(1:Int))).toNat<((↑(gd (Shelf.mk false []) a.nodes aD.toNat).pieces.length:Int) - af).toNat))/\((↑(gd (Shelf.mk false []) a.nodes x.toNat).pieces.length:Int)<=af->aE (aD+(1:Int))/\xF a b (aD+(1:Int))/\((↑a.nodes.length:Int) - (aD+(1:Int))).toNat<((↑a.nodes.length:Int) - x).toNat)))/\((↑a.nodes.length:Int)<=x->true=decide (a=b))):=by
 delta qR ug iW
 have h1:= @gg.start Shelf (⟨false,[]⟩:Shelf) a.nodes b.nodes
 have h3:= @gg.fin Shelf (⟨false,[]⟩:Shelf) a.nodes b.nodes
 have h4:= @gg.lo Shelf (⟨false,[]⟩:Shelf) a.nodes b.nodes
 have h5:= @gg.len Shelf (⟨false,[]⟩:Shelf) a.nodes b.nodes
 have r1:= @iV.start a b
 have r2:= @iV.fin a b
 have r3:= @iV.step a b
 have r4:= @iV.lo a b
 have r5:= @iV.bd a b
 have e1:=MH a b
 have e2:=MI a.layout b.layout
 have e3:= @MK
 have k1:∀i:Int,0<=i->i<(a.nodes.length:Int)->(gd (⟨false,[]⟩:Shelf) a.nodes i.toNat).pieces.length<=1000000:=fun i q1 q2=>hp.ps _ (iv (by omega))
 obtain ⟨p1,p2,p3⟩:=hp
 have m1:= @qG
 (try simp only [ady,adE,adh,ac9])
 (repeat' (first|apply And.intro|intro _))<;>first|assumption|trivial|omega|(grind [xE,xF,aE])|trace_state
theorem abj:F1.Ok Try.prog tD:=bO cP (Δ:=[F0]) ⟨abh,trivial⟩ (Ω:=[]) trivial F1 QF QG (fun _=>[]) (fun _=>trivial) 0 (fun x=>(fun (a:ah) (b:ah)=>(fun k=>bif Nat.beq k 0 then some (.inv [.sl 5 .aA] (fun zo zv=>(fun (n:Int)=>xF a b n) zv.1) (fun zo zv=>(fun (n:Int)=>((a.nodes.length:Int) - n).toNat) zv.1)) else bif Nat.beq k 1 then some (.inv [.sl 8 .aA, .sl 5 .aA] (fun zo zv=>(fun (s0:Int) (n0:Int) (s:Int) (n:Int)=>xE a b s0 n0 s n) zo.1 zo.2.1 zv.1 zv.2.1) (fun zo zv=>(fun (s0:Int) (n0:Int) (s:Int) (n:Int)=>(((gd (⟨false,[]⟩:Shelf) a.nodes n.toNat).pieces.length:Int) - s).toNat) zo.1 zo.2.1 zv.1 zv.2.1)) else none)) x.1 x.2.1) fun x hp=>Eq.mp (by kernel_rfl) (abi x.1 x.2.1 hp)
open Go.RowKit
def sB (l:aO) (size s p:Int) (n t:Nat):Piece:=if ((t:Int)<s/\l.has t n=true)\/((t:Int)=s/\l.pc t n<p) then ⟨1,ia size⟩ else ⟨0,ByteArray.empty⟩
def iX (l:aO) (size aI s p:Int) (n:Nat):List Piece:=(List.range aI.toNat).map fun t=>sB l size s p n t
def jW (l:aO) (size aI s p:Int):List Shelf:=(List.range l.nodes.toNat).map fun n=>⟨true,iX l size aI s p n⟩
theorem mV:(jW l size aI s p).length=l.nodes.toNat:=by simp [jW]
theorem Bh {n:Nat}:(iX l size aI s p n).length=aI.toNat:=by simp [iX]
theorem abk {α:Type} {d:α} {m j:Nat} {f:Nat->α} (h:j<m):gd d ((List.range m).map f) j=f j:=by unfold gd;rw [ac5,aeA h];rfl
theorem Bi {n:Nat} (h:n<l.nodes.toNat):gd (⟨false,[]⟩:Shelf) (jW l size aI s p) n=⟨true,iX l size aI s p n⟩:=abk h
theorem abl (k:l.K) (hs:0<=s) (ES:s<aI) (hp:0<=p) (hp2:p<l.data+l.more):(jW l size aI s p).set (l.node s p).toNat ⟨true,(iX l size aI s p (l.node s p).toNat).set s.toNat ⟨1,ia size⟩⟩=jW l size aI s (p+1):=by
 have hn:=k.node s p
 have kn:=k.n
 have kp:p<l.nodes:=by have:=k.s;omega
 refine aeh (by simp [mV]) fun j h1 h2=> ?_
 rw [mV] at h2
 have hj:(j:Int)<l.nodes:=by omega
 have iff:=Ak k (s:=s) (p:=p) (n:=(j:Int)) ⟨hp,kp⟩ ⟨by omega,hj⟩
 rw [List.getElem_set]
 have ej:(jW l size aI s (p+1))[j]'(by rw [mV];exact h2)=⟨true,iX l size aI s (p+1) j⟩:=by simp [jW]
 rw [ej]
 split
 ·rename_i e
  have e2:l.pc s j=p:=iff.1 (by omega)
  congr 1
  rw [e]
  refine aeh (by simp [Bh]) fun t h3 h4=> ?_
  rw [Bh] at h4
  rw [List.getElem_set]
  have et:∀q:Int,(iX l size aI s q j)[t]'(by rw [Bh];exact h4)=sB l size s q j t:=fun q=>by simp [iX]
  rw [et (p+1)]
  split
  ·rename_i e3
   have e4:(t:Int)=s:=by omega
   unfold sB;rw [acN (.inr ⟨e4,by rw [e4,e2];omega⟩)]
  ·rename_i e3
   have e4:¬(t:Int)=s:=by omega
   rw [et p];unfold sB
   simp only [e4,false_and,or_false]
 ·rename_i e
  have e2:¬l.pc s j=p:=fun h=>e (by have:=iff.2 h;omega)
  have ej:(jW l size aI s p)[j]'(by rw [mV];exact h2)=⟨true,iX l size aI s p j⟩:=by simp [jW]
  rw [ej]
  congr 1
  unfold iX
  refine aej fun t _=> ?_
  unfold sB
  congr 1
  by_cases e4:(t:Int)=s
  ·rw [e4]
   have:l.pc s j<p↔l.pc s j<p+1:=by omega
   rw [this]
  ·simp only [e4,false_and,or_false]
theorem abn (k:l.K) (hp:l.data+l.more<=p) (hp2:p<=l.data+l.more):jW l size aI s p=jW l size aI (s+1) 0:=by
 have e:p=l.data+l.more:=by omega
 subst e
 unfold jW iX
 refine aej fun n _=> ?_
 congr 1
 refine aej fun t _=> ?_
 unfold sB
 have h1:=(k.pc t n).1
 have h3:l.has t n=true↔l.pc t n<l.data+l.more:=by unfold aO.has;exact decide_eq_true_iff
 congr 1
 rw [h3]
 apply propext
 omega
structure uh (L:List Shelf) (i:Int) (K:List az) (A:dg):Prop where
 lo:0<=i
 hi:i<=L.length
 len:K.length=L.length
 up:∀j,j<i.toNat->(gd (⟨false,Row.no Piece⟩:az) K j).up=(gd (⟨false,[]⟩:Shelf) L j).up
 own:∀j,j<i.toNat->(gd (⟨false,Row.no Piece⟩:az) K j).pieces.bD A/\bj A (gd (⟨false,Row.no Piece⟩:az) K j).pieces.id=(gd (⟨false,[]⟩:Shelf) L j).pieces
 inj:∀j k,j<i.toNat->k<i.toNat->(gd (⟨false,Row.no Piece⟩:az) K j).pieces.id=(gd (⟨false,Row.no Piece⟩:az) K k).pieces.id->j=k
theorem uh.step {L:List Shelf} {i:Int} {K:List az} {A:dg} {id:Nat} {b:Bool} {xs:List Piece} {m:Nat} (h:uh L i K A) (hi:i<L.length) (hid:¬cv A id) (hx:gd (⟨false,[]⟩:Shelf) L i.toNat=⟨b,xs⟩) (hm:m=xs.length):uh L (i+1) (K.set i.toNat ⟨b,Row.at Piece id m⟩) ((id,xs)::A):=by
 have h0:=h.lo;have hl:=h.len
 have k9:i.toNat<K.length:=by omega
 have aZ:∀j,j<i.toNat->(gd (⟨false,Row.no Piece⟩:az) K j).pieces.id≠id:=fun j hj e=>hid (e▸(h.own j hj).1.2.1)
 subst hm
 refine ⟨by omega,by omega,by rw [ada];exact hl,fun j hj=> ?_,fun j hj=> ?_,fun j k hj hk he=> ?_⟩
 ·rw [fy k9]
  split
  ·rename_i e;rw [<-e,hx]
  ·exact h.up j (by omega)
 ·rw [fy k9]
  split
  ·rename_i e;subst e
   rw [hx]
   refine ⟨⟨rfl,jd.2 (.inl rfl), ?_⟩, ?_⟩
   ·show (bj _ id).length=_;rw [gj,acN rfl];rfl
   ·show bj _ id=_;rw [gj,acN rfl]
  ·rename_i e
   have fP:j<i.toNat:=by omega
   obtain ⟨q1,q2⟩:=h.own j fP
   have aJ:=aZ j fP
   exact ⟨⟨q1.1,jd.2 (.inr q1.2.1),by rw [gj,acL aJ];exact q1.2.2⟩,by rw [gj,acL aJ];exact q2⟩
 ·rw [fy k9,fy k9] at he
  by_cases e1:i.toNat=j<;>by_cases e2:i.toNat=k
  ·omega
  ·rw [acN e1,acL e2] at he
   exact absurd he.symm (aZ k (by omega))
  ·rw [acL e1,acN e2] at he
   exact absurd he (aZ j (by omega))
  ·rw [acL e1,acL e2] at he
   exact h.inj j k (by omega) (by omega) he
theorem uh.fin {L:List Shelf} {i:Int} {K:List az} {A:dg} (h:uh L i K A) (hi:L.length<=i):lf L K A:=by
 have hh:=h.hi
 exact ⟨h.len,fun j hj=>h.up j (by omega),fun j hj=>h.own j (by omega),fun j k hj hk=>h.inj j k (by omega) (by omega)⟩
structure ui (l:aO) (size aI:Int):Prop where
 k:l.K
 z:1<=size/\size<=64
 t:1<=aI/\aI<=64
structure jX (l:aO) (size aI i:Int) (K:List az) (A:dg):Prop where
 p:ui l size aI
 o:uh (jW l size aI 0 0) i K A
theorem ui.row {l:aO} {size aI:Int} (h:ui l size aI) (n:Nat):iX l size aI 0 0 n=List.replicate aI.toNat ⟨0,ByteArray.empty⟩:=by
 refine aeh (by simp [iX]) fun j h1 h2=> ?_
 simp only [iX,List.getElem_map,List.getElem_range,List.getElem_replicate]
 unfold sB
 have h0:=(h.k.pc j n).1
 rw [acL (by omega)]
theorem jX.start {l:aO} {size aI:Int} (h:ui l size aI):jX l size aI 0 (List.replicate l.nodes.toNat ⟨false,Row.no Piece⟩) []:=by
 have hn:=h.k.n
 exact ⟨h,by omega,by omega,by rw [mV,adU],fun j hj=>by simp at hj,fun j hj=>by simp at hj,fun j k hj=>by simp at hj⟩
theorem jX.bd {l:aO} {size aI i:Int} {K:List az} {A:dg} (h:jX l size aI i K A):0<=i/\i<=l.nodes/\(K.length:Int)=l.nodes/\1<=l.nodes/\l.nodes<=12/\1<=aI/\aI<=64:=by
 have h1:=h.o.lo;have h2:=h.o.hi;have h3:=h.o.len;have h4:=h.p.k.n;have h5:=h.p.t
 rw [mV] at h2 h3
 omega
theorem jX.step {l:aO} {size aI i:Int} {K:List az} {A:dg} {id:Nat} {m:Nat} (h:jX l size aI i K A) (hi:i<l.nodes) (hid:¬cv A id) (hm:m=aI.toNat):jX l size aI (i+1) (K.set i.toNat ⟨true,Row.at Piece id m⟩) ((id,List.replicate aI.toNat (⟨0,⟨#[]⟩⟩:Piece))::A):=by
 have b:=h.bd
 show jX l size aI (i+1) _ ((id,List.replicate aI.toNat (⟨0,ByteArray.empty⟩:Piece))::A)
 refine ⟨h.p,h.o.step (by rw [mV];omega) hid ?_ (by simp [hm])⟩
 rw [Bi (by omega),h.p.row]
structure gQ (l:aO) (size aI s p:Int) (K:List az) (A:dg):Prop where
 q:ui l size aI
 s0:0<=s/\s<=aI
 p0:0<=p/\p<=l.data+l.more
 o:lf (jW l size aI s p) K A
theorem jX.fin {l:aO} {size aI i:Int} {K:List az} {A:dg} (h:jX l size aI i K A) (hi:l.nodes<=i):gQ l size aI 0 0 K A:=by
 have b:=h.bd;have:=h.p.t;have h1:=h.p.k.d;have h2:=h.p.k.m
 exact ⟨h.p,by omega,by omega,h.o.fin (by rw [mV];omega)⟩
theorem gQ.bd {l:aO} {size aI s p:Int} {K:List az} {A:dg} (h:gQ l size aI s p K A):0<=s/\s<=aI/\0<=p/\p<=l.data+l.more/\1<=aI/\aI<=64/\1<=size/\size<=64/\l.K/\1<=l.data/\l.data<=8/\1<=l.more/\l.more<=6/\(K.length:Int)=l.nodes:=by
 have h1:=h.q.k.d;have h2:=h.q.k.m;have h3:=h.q.t;have h4:=h.q.z;have h5:=h.q.k.n;have h6:=h.o.len
 rw [mV] at h6
 exact ⟨h.s0.1,h.s0.2,h.p0.1,h.p0.2,h3.1,h3.2,h4.1,h4.2,h.q.k,h1.1,h1.2,h2.1,h2.2,by omega⟩
def mf (K:List az) (n:Int):Row Piece:=(gd (⟨false,Row.no Piece⟩:az) K n.toNat).pieces
theorem gQ.row {l:aO} {size aI s p:Int} {K:List az} {A:dg} (h:gQ l size aI s p K A):0<=l.node s p/\l.node s p<K.length/\((mf K (l.node s p)).kd=RK.own/\cv A (mf K (l.node s p)).id/\(bj A (mf K (l.node s p)).id).length=(mf K (l.node s p)).n)/\(mf K (l.node s p)).ok A/\(mf K (l.node s p)).get A=iX l size aI s p (l.node s p).toNat/\((mf K (l.node s p)).get A).length=aI.toNat:=by
 have hn:=h.q.k.node s p
 have hb:=h.bd.2.2.2.2.2.2.2.2.2.2.2.2.2
 have hj:(l.node s p).toNat<l.nodes.toNat:=by omega
 obtain ⟨q1,q2⟩:=h.o.own (l.node s p).toNat (by rw [mV];exact hj)
 have q3:(mf K (l.node s p)).get A=iX l size aI s p (l.node s p).toNat:=by unfold mf;rw [A7 q1,q2,Bi hj]
 exact ⟨hn.1,by omega,q1,Row.bD.ok q1,q3,by rw [q3,Bh]⟩
theorem gQ.step {l:aO} {size aI s p:Int} {K:List az} {A:dg} (h:gQ l size aI s p K A) (hs:s<aI) (hp:p<l.data+l.more):gQ l size aI s (p+1) K (((mf K (l.node s p)).id,((mf K (l.node s p)).get A).set s.toNat ⟨1,ia size⟩)::A):=by
 have hn:=h.q.k.node s p
 have b:=h.bd
 have hj:(l.node s p).toNat<l.nodes.toNat:=by omega
 refine ⟨h.q,h.s0,by omega, ?_⟩
 have:=h.o.put (n:=(l.node s p).toNat) (up:=true) (by rw [mV];exact hj) (by rw [Bi hj]) (xs:=(iX l size aI s p (l.node s p).toNat).set s.toNat ⟨1,ia size⟩) (by rw [Bi hj,ada])
 rw [abl h.q.k h.s0.1 hs h.p0.1 hp] at this
 rw [h.row.2.2.2.2.1]
 exact this
theorem gQ.next {l:aO} {size aI s p:Int} {K:List az} {A:dg} (h:gQ l size aI s p K A) (hs:s<aI) (hp:l.data+l.more<=p):gQ l size aI (s+1) 0 K A:=by
 have b:=h.bd
 refine ⟨h.q,by omega,by omega, ?_⟩
 rw [<-abn h.q.k hp h.p0.2];exact h.o
def F2 (l:aO) (size aI:Int):ah:=⟨l,size,List.replicate aI.toNat 1,jW l size aI aI 0⟩
def mW (l:aO) (size aI:Int):ah×Int:=if ¬l.e=0 then (⟨⟨0,0,0,0⟩,0,[],[]⟩,l.e) else if ¬(1<=size/\size<=64)\/¬(1<=aI/\aI<=64) then (⟨⟨0,0,0,0⟩,0,[],[]⟩,3) else (F2 l size aI,0)
structure mg (l:aO) (size s:Int) (Z:ah×List Int):Prop where
 a:Z.1.layout=l
 b:Z.1.size=size
 c:Z.2=List.replicate s.toNat 1
theorem mg.len {l:aO} {size s:Int} {Z:ah×List Int} (h:mg l size s Z):Z.2.length=s.toNat:=by rw [h.c,adU]
theorem mg.step {l:aO} {size s:Int} {Z:ah×List Int} (h:mg l size s Z) (hs:0<=s) {V:ah} (h1:V.layout=l) (h2:V.size=size):mg l size (s+1) (V,Z.2++[1]):=⟨h1,h2,by rw [show (V,Z.2++[1]).2=Z.2++[1] from rfl,h.c,show (s+1).toNat=s.toNat+1 by omega,List.replicate_succ']⟩
theorem gQ.done {l:aO} {size aI s:Int} {K:List az} {A:dg} {Z:ah×List Int} (h:gQ l size aI s 0 K A) (z:mg l size s Z) (hs:aI<=s):(∀x:az,x∈K->True/\x.pieces.ok A/\x.pieces.kd≠RK.nil)/\(⟨Z.1.layout,Z.1.size,Z.2,List.map (fun x:az=>(⟨x.up,x.pieces.get A⟩:Shelf)) K⟩:ah)=F2 l size aI:=by
 have e:s=aI:=by have:=h.s0;omega
 subst e
 obtain ⟨e1,e2⟩:=h.o.view
 exact ⟨fun x hx=>⟨trivial,e1 x hx⟩,by rw [e2,z.a,z.b,z.c];rfl⟩
def xG (l:aO) (size:Int) (aI:Int) (p0:Int) (s0:Int) (K0:(List az)) (A0:(List (Nat×List Piece))) (p:Int) (s:Int) (K:(List az)) (A:(List (Nat×List Piece))):Prop:=s=s0/\gQ l size aI s p K A
def xH (l:aO) (size:Int) (aI:Int) (s:Int) (K:(List az)) (A:(List (Nat×List Piece))) (Z:(ah×List Int)):Prop:=gQ l size aI s 0 K A/\mg l size s Z
def xI (l:aO) (size:Int) (aI:Int) (i:Int) (K:(List az)) (A:(List (Nat×List Piece))):Prop:=jX l size aI i K A
def F3:bk Tc Tc.dn:=⟨23,[.ty .jM, .ty .aA, .ty .aA],fun x=>(fun (l:aO) (size:Int) (aI:Int)=>True) x.1 x.2.1 x.2.2.1,[.eV, .aA],fun x=>(fun (l:aO) (size:Int) (aI:Int)=>mW l size aI) x.1 x.2.1 x.2.2.1⟩
theorem abo (l:aO) (size:Int) (aI:Int):True/\(¬l.e=(0:Int)->(ah.mk (aO.mk (0:Int) (0:Int) (0:Int) (0:Int)) (0:Int) [] [],l.e)=mW l size aI)/\(l.e=(0:Int)->True/\(decide ((1:Int)<=size/\size<=(64:Int))= !!true->decide ((1:Int)<=size/\size<=(64:Int))= !!true)/\(decide ((1:Int)<=size/\size<=(64:Int))= !!true->True)/\(decide ((1:Int)<=size/\size<=(64:Int))= !!true->decide ((1:Int)<=size/\size<=(64:Int))= !!true)/\(decide ((1:Int)<=size/\size<=(64:Int))= !false->decide ((1:Int)<=size/\size<=(64:Int))= !!true)/\(decide ((1:Int)<=size/\size<=(64:Int))= !true\/decide ((1:Int)<=aI/\aI<=(64:Int))= !true->(ah.mk (aO.mk (0:Int) (0:Int) (0:Int) (0:Int)) (0:Int) [] [],(3:Int))=mW l size aI)/\(decide ((1:Int)<=size/\size<=(64:Int))= !false/\decide ((1:Int)<=aI/\aI<=(64:Int))= !false->((0:Int)<=l.nodes/\l.nodes<=l.nodes/\l.nodes*(↑(32:Nat):Int)<=(140737488355328:Int))/\xI l size aI (0:Int) (List.replicate l.nodes.toNat (az.mk false (Row.no Piece))) []/\∀(x:Int) (af:List az) (aD:List (Nat×List Piece)),xI l size aI x af aD->(x<(↑(List.replicate l.nodes.toNat (az.mk false (Row.no Piece))).length:Int)->((0:Int)<=aI/\aI<=aI/\aI*(↑(24:Nat):Int)<=(140737488355328:Int))/\((0:Int)<=x/\x<(↑af.length:Int))/\∀(id:Nat),¬cv aD id->x.toNat<af.length/\aE (x+(1:Int))/\xI l size aI (x+(1:Int)) (af.set x.toNat (az.mk true (Row.at Piece id (List.replicate aI.toNat (Piece.mk (0:Int) (ByteArray.mk #[]))).length))) ((id,List.replicate aI.toNat (Piece.mk (0:Int) (ByteArray.mk #[])))::aD)/\(l.nodes - (x+(1:Int))).toNat<(l.nodes - x).toNat)/\((↑(List.replicate l.nodes.toNat (az.mk false (Row.no Piece))).length:Int)<=x->xH l size aI (0:Int) af aD (ah.mk l size [] [],[])/\∀(x:Int) (ae:List az) (aB:List (Nat×List Piece)) (aF:ah×List Int),xH l size aI x ae aB aF->(x<aI->(aF.snd.length+(1:Nat))*(8:Nat)<=(140737488355328:Nat)/\(l.K\/(1:Int)<=l.data/\l.data<=(8:Int)/\(1:Int)<=l.more/\l.more<=(6:Int))/\xG l size aI (0:Int) x ae aB (0:Int) x ae aB/\∀(aU aC:Int) (bp:List az) (bL:List (Nat×List Piece)),xG l size aI (0:Int) x ae aB aU aC bp bL->(aU<l.data+l.more->(l.K/\(0:Int)<=x/\x<=(100:Int)/\(0:Int)<=aU/\aU<=(100:Int))/\((0:Int)<=l.node x aU/\l.node x aU<(↑bp.length:Int))/\(l.node x aU).toNat<bp.length/\((0:Int)<=size/\size<=(65536:Int))/\(gd (az.mk false (Row.no Piece)) bp (l.node x aU).toNat).pieces.ok bL/\((0:Int)<=x/\x<(↑((gd (az.mk false (Row.no Piece)) bp (l.node x aU).toNat).pieces.get bL).length:Int))/\(gd (az.mk false (Row.no Piece)) bp (l.node x aU).toNat).pieces.bD bL/\x.toNat<((gd (az.mk false (Row.no Piece)) bp (l.node x aU).toNat).pieces.get bL).length/\aE (aU+(1:Int))/\xG l size aI (0:Int) x ae aB (aU+(1:Int)) aC bp (((gd (az.mk false (Row.no Piece)) bp (l.node x aU).toNat).pieces.id,((gd (az.mk false (Row.no Piece)) bp (l.node x aU).toNat).pieces.get bL).set x.toNat (Piece.mk (1:Int) (ia size)))::bL)/\(l.data+l.more - (aU+(1:Int))).toNat<(l.data+l.more - aU).toNat)/\(l.data+l.more<=aU->aE (aC+(1:Int))/\xH l size aI (aC+(1:Int)) bp bL (ah.mk aF.fst.layout aF.fst.size [] [],aF.snd++[(1:Int)])/\(aI - (aC+(1:Int))).toNat<(aI - x).toNat))/\(aI<=x->(∀(x:az),x∈ae->True/\x.pieces.ok aB/\x.pieces.kd≠RK.nil)/\(ah.mk aF.fst.layout aF.fst.size aF.snd (List.map (fun x=>Shelf.mk x.up (x.pieces.get aB)) ae),(0:Int))=mW l size aI)))):=by
 have h1:= @aO.pz l
 have a0:= @ui.mk l size aI
 have a1:= @jX.start l size aI
 have a2:= @jX.bd l size aI
 have a3:= @jX.step l size aI
 have a4:= @jX.fin l size aI
 have b1:= @gQ.bd l size aI
 have b2:= @gQ.row l size aI
 have b3:= @gQ.step l size aI
 have b4:= @gQ.next l size aI
 have b5:= @gQ.done l size aI
 have z1:= @mg.len l size
 have z2:= @mg.step l size
 have z0:mg l size 0 (⟨l,size,[],[]⟩,[]):=⟨rfl,rfl,rfl⟩
 have z3:= @mg.a l size
 have z4:= @mg.b l size
 have m1:= @qG
 simp only [mf] at b2 b3
 have k1:l.K->1<=l.nodes/\l.nodes<=12:=fun h=>h.n
 have r1:(List.replicate l.nodes.toNat (⟨false,Row.no Piece⟩:az)).length=l.nodes.toNat:=adU
 have r2:(List.replicate aI.toNat (⟨0,⟨#[]⟩⟩:Piece)).length=aI.toNat:=adU
 have e1:¬l.e=0->mW l size aI=(⟨⟨0,0,0,0⟩,0,[],[]⟩,l.e):=fun h=>by unfold mW;rw [acN h]
 have e2:l.e=0->¬(1<=size/\size<=64)\/¬(1<=aI/\aI<=64)->mW l size aI=(⟨⟨0,0,0,0⟩,0,[],[]⟩,3):=fun h h2=>by unfold mW;rw [acL (by simp [h]),acN h2]
 have e3:l.e=0->(1<=size/\size<=64)->(1<=aI/\aI<=64)->mW l size aI=(F2 l size aI,0):=fun h h2 h3=>by unfold mW;rw [acL (by simp [h]),acL (by simp only [h2,h3];simp)]
 (try simp only [ady,adE,adh,ac9])
 (repeat' (first|apply And.intro|intro _))<;>first|assumption|trivial|omega|(grind [xG,xH,xI,aE])|trace_state
theorem abp:F3.Ok Try.prog tD:=bO cP (Δ:=[wO,nR,sn,wP,A9]) ⟨EU,qI,wN,EX,Mu,trivial⟩ (Ω:=[]) trivial F3 Q7 Q8 (fun _=>[]) (fun _=>trivial) 0 (fun x=>(fun (l:aO) (size:Int) (aI:Int)=>(fun k=>bif Nat.beq k 0 then some (.inv [.sl 37 .aA, .bl 3 .gM, .ar .eU] (fun zo zv=>(fun (i:Int) (K:(List az)) (A:(List (Nat×List Piece)))=>xI l size aI i K A) zv.1 zv.2.1 zv.2.2.1) (fun zo zv=>(fun (i:Int) (K:(List az)) (A:(List (Nat×List Piece)))=>(l.nodes - i).toNat) zv.1 zv.2.1 zv.2.2.1)) else bif Nat.beq k 1 then some (.inv [.sl 49 .aA, .bl 3 .gM, .ar .eU, .sg 4 5 .aA .eV [(6, .kX,3,2)]] (fun zo zv=>(fun (s:Int) (K:(List az)) (A:(List (Nat×List Piece))) (Z:(ah×List Int))=>xH l size aI s K A Z) zv.1 zv.2.1 zv.2.2.1 zv.2.2.2.1) (fun zo zv=>(fun (s:Int) (K:(List az)) (A:(List (Nat×List Piece))) (Z:(ah×List Int))=>(aI - s).toNat) zv.1 zv.2.1 zv.2.2.1 zv.2.2.2.1)) else bif Nat.beq k 2 then some (.inv [.sl 59 .aA, .sl 49 .aA, .bl 3 .gM, .ar .eU] (fun zo zv=>(fun (p0:Int) (s0:Int) (K0:(List az)) (A0:(List (Nat×List Piece))) (p:Int) (s:Int) (K:(List az)) (A:(List (Nat×List Piece)))=>xG l size aI p0 s0 K0 A0 p s K A) zo.1 zo.2.1 zo.2.2.1 zo.2.2.2.1 zv.1 zv.2.1 zv.2.2.1 zv.2.2.2.1) (fun zo zv=>(fun (p0:Int) (s0:Int) (K0:(List az)) (A0:(List (Nat×List Piece))) (p:Int) (s:Int) (K:(List az)) (A:(List (Nat×List Piece)))=>(l.data+l.more - p).toNat) zo.1 zo.2.1 zo.2.2.1 zo.2.2.2.1 zv.1 zv.2.1 zv.2.2.1 zv.2.2.2.1)) else none)) x.1 x.2.1 x.2.2.1) fun x hp=>Eq.mp (by kernel_rfl) (abo x.1 x.2.1 x.2.2.1)
open Go.RowKit
def F5:bk Tc Tc.dn:=⟨7,[],fun _=>True,[.ed],fun _=>true⟩
abbrev ju:=(mW (aO.mk (5:Int) (2:Int) (2:Int) (1:Int)) (2:Int) (3:Int))
abbrev qS:=(eD ju.fst (3:Int) (ByteArray.mk #[(97:UInt8),(98:UInt8)]))
abbrev eW:=(bm qS.fst (3:Int) false)
abbrev mh:=(ju.snd=(0:Int)/\qS.snd=(0:Int))
abbrev gy:=(bm (bF eW.fst (4:Int)).fst (2:Int) false)
abbrev iY:=(fw (bF eW.fst (4:Int)).fst (2:Int))
abbrev lu:=(aR (bF eW.fst (4:Int)).fst (1:Int))
abbrev jY:=(fw (bF eW.fst (4:Int)).fst (3:Int))
abbrev oc:=(((mh/\eW.snd=(0:Int))/\(bF eW.fst (4:Int)).snd=(0:Int))/\jY.fst=ByteArray.mk #[(97:UInt8),(98:UInt8)])
abbrev od:=((oc/\jY.snd=(0:Int))/\iY.fst=ByteArray.mk #[(0:UInt8),(0:UInt8)])
abbrev Ga:=(((mh/\eW.snd=(0:Int))/\(bF eW.fst (4:Int)).snd=(0:Int))/\jY.fst=ByteArray.mk #[(97:UInt8),(98:UInt8)]->((mh/\eW.snd=(0:Int))/\(bF eW.fst (4:Int)).snd=(0:Int))/\jY.fst=ByteArray.mk #[(97:UInt8),(98:UInt8)])
abbrev uj:=((od/\iY.snd=(0:Int))/\(↑lu.fst.n:Int)=(↑(uN (Int.toNat (5:Int))).n:Int))
abbrev mi:=(uj/\lu.snd=(0:Int))
abbrev Bj:=(((mi/\gy.snd=(0:Int))/\(fw gy.fst (3:Int)).snd=(8:Int))/\(fw ju.fst (6:Int)).snd=(3:Int)->((mi/\gy.snd=(0:Int))/\(fw gy.fst (3:Int)).snd=(8:Int))/\(fw ju.fst (6:Int)).snd=(3:Int))
theorem abq  :True/\True/\True/\True/\True/\True/\True/\True/\True/\True/\True/\(ju.snd=(0:Int)->ju.snd=(0:Int))/\(ju.snd=(0:Int)->ju.snd=(0:Int))/\(ju.snd=(0:Int)/\qS.snd=(0:Int)->ju.snd=(0:Int)/\qS.snd=(0:Int))/\(ju.snd=(0:Int)/\qS.snd=(0:Int)->ju.snd=(0:Int)/\qS.snd=(0:Int))/\(mh/\eW.snd=(0:Int)->mh/\eW.snd=(0:Int))/\(mh/\eW.snd=(0:Int)->mh/\eW.snd=(0:Int))/\((mh/\eW.snd=(0:Int))/\(bF eW.fst (4:Int)).snd=(0:Int)->(mh/\eW.snd=(0:Int))/\(bF eW.fst (4:Int)).snd=(0:Int))/\((mh/\eW.snd=(0:Int))/\(bF eW.fst (4:Int)).snd=(0:Int)->(mh/\eW.snd=(0:Int))/\(bF eW.fst (4:Int)).snd=(0:Int))/\Ga/\Ga/\(oc/\jY.snd=(0:Int)->oc/\jY.snd=(0:Int))/\(oc/\jY.snd=(0:Int)->oc/\jY.snd=(0:Int))/\((oc/\jY.snd=(0:Int))/\iY.fst=ByteArray.mk #[(0:UInt8),(0:UInt8)]->(oc/\jY.snd=(0:Int))/\iY.fst=ByteArray.mk #[(0:UInt8),(0:UInt8)])/\((oc/\jY.snd=(0:Int))/\iY.fst=ByteArray.mk #[(0:UInt8),(0:UInt8)]->(oc/\jY.snd=(0:Int))/\iY.fst=ByteArray.mk #[(0:UInt8),(0:UInt8)])/\(od/\iY.snd=(0:Int)->od/\iY.snd=(0:Int))/\(od/\iY.snd=(0:Int)->od/\iY.snd=(0:Int))/\((od/\iY.snd=(0:Int))/\(↑lu.fst.n:Int)=(↑(uN (Int.toNat (5:Int))).n:Int)->(od/\iY.snd=(0:Int))/\(↑lu.fst.n:Int)=(↑(uN (Int.toNat (5:Int))).n:Int))/\((od/\iY.snd=(0:Int))/\(↑lu.fst.n:Int)=(↑(uN (Int.toNat (5:Int))).n:Int)->(od/\iY.snd=(0:Int))/\(↑lu.fst.n:Int)=(↑(uN (Int.toNat (5:Int))).n:Int))/\(uj/\lu.snd=(0:Int)->uj/\lu.snd=(0:Int))/\(uj/\lu.snd=(0:Int)->uj/\lu.snd=(0:Int))/\(mi/\gy.snd=(0:Int)->mi/\gy.snd=(0:Int))/\(mi/\gy.snd=(0:Int)->mi/\gy.snd=(0:Int))/\((mi/\gy.snd=(0:Int))/\(fw gy.fst (3:Int)).snd=(8:Int)->(mi/\gy.snd=(0:Int))/\(fw gy.fst (3:Int)).snd=(8:Int))/\((mi/\gy.snd=(0:Int))/\(fw gy.fst (3:Int)).snd=(8:Int)->(mi/\gy.snd=(0:Int))/\(fw gy.fst (3:Int)).snd=(8:Int))/\Bj/\(((mi/\gy.snd=(0:Int))/\(fw gy.fst (3:Int)).snd=(8:Int))/\(fw ju.fst (6:Int)).snd=(3:Int)->True)/\Bj/\Bj/\(ju.snd==(0:Int)&&qS.snd==(0:Int)&&eW.snd==(0:Int)&&(bF eW.fst (4:Int)).snd==(0:Int)&&oe jY.fst (ByteArray.mk #[(97:UInt8),(98:UInt8)])&&jY.snd==(0:Int)&&oe iY.fst (ByteArray.mk #[(0:UInt8),(0:UInt8)])&&iY.snd==(0:Int)&&(↑lu.fst.n:Int)==(↑(uN (Int.toNat (5:Int))).n:Int)&&lu.snd==(0:Int)&&gy.snd==(0:Int)&&(fw gy.fst (3:Int)).snd==(8:Int)&&(fw ju.fst (6:Int)).snd==(3:Int)&&bN (bF eW.fst (4:Int)).fst==(0:Int))=true:=by
 delta qS uj Ga Bj jY lu iY oc gy ju mi mh od eW
 (repeat' (first|apply And.intro|(intro h;exact absurd h (by decide+kernel))|(intro h;clear h)|decide+kernel))<;>first|decide+kernel|trace_state
theorem abr:F5.Ok Try.prog tD:=bO cP (Δ:=[FY,F3,Bf,xu,Ba,FP,AW,qL]) ⟨abf,abp,aa8,Mo,aaS,aav,Ml,tW,trivial⟩ (Ω:=[]) trivial F5 QD QE (fun _=>[]) (fun _=>trivial) 0 (fun _=>fun _=>none) fun x hp=>Eq.mp (by kernel_rfl) (abq )
open Go.RowKit
def iC (v:ah) (no:Int) (n:Nat):Bool:=decide ((gd (⟨false,[]⟩:Shelf) v.nodes n).up=true/\(v.at_ n no).version=gd 0 v.versions no.toNat)
theorem abt (k:v.layout.K):cd v no p=iC v no (v.layout.node no p).toNat:=by
 have:=(k.node no p).1
 unfold cd iC ah.at_
 rw [aez]
theorem ML {v:ah} {no:Int} (k:v.layout.K) {n:Nat}:∀{m:Nat},(m:Int)<=v.layout.data+v.layout.more->(ld v no m).testBit n=decide ((n:Int)<v.layout.nodes/\v.layout.pc no n<m/\iC v no n=true)
 |0,_=>by
  have h0:0<=v.layout.pc no n:=(k.pc no n).1
  unfold ld
  rw [Nat.zero_testBit]
  symm
  exact adZ (by omega)
 |m+1,hm=>by
  have ih:=ML (no:=no) k (n:=n) (m:=m) (by omega)
  have hs:=k.s
  have hn:=k.node no m
  unfold ld
  by_cases e:(v.layout.node no m).toNat=n
  ·have e2:v.layout.pc no n=m:=by
    have:=(Ak k (s:=no) (p:=(m:Int)) (n:=(n:Int)) ⟨by omega,by omega⟩ ⟨by omega,by omega⟩).1 (by omega)
    exact this
   have e3:cd v no m=iC v no n:=by rw [abt k,e]
   rw [e3]
   by_cases f:iC v no n=true
   ·rw [acN f,Nat.testBit_or,Nat.testBit_two_pow,adX e,Bool.or_true]
    symm
    exact adX ⟨by omega,by omega,f⟩
   ·rw [acL f,ih]
    exact aek.2 ⟨fun ⟨_,_,c⟩=>absurd c f,fun ⟨_,_,c⟩=>absurd c f⟩
  ·have e2:(n:Int)<v.layout.nodes->¬v.layout.pc no n=m:=fun h1 h2=>by
    have:=(Ak k (s:=no) (p:=(m:Int)) (n:=(n:Int)) ⟨by omega,by omega⟩ ⟨by omega,by omega⟩).2 h2
    omega
   have e3:((n:Int)<v.layout.nodes/\v.layout.pc no n<((m+1:Nat):Int)/\iC v no n=true)↔((n:Int)<v.layout.nodes/\v.layout.pc no n<(m:Int)/\iC v no n=true):=by
    constructor
    ·intro ⟨a,b,c⟩;exact ⟨a,by have:=e2 a;omega,c⟩
    ·intro ⟨a,b,c⟩;exact ⟨a,by omega,c⟩
   split
   ·rw [Nat.testBit_or,Nat.testBit_two_pow,adZ e,Bool.or_false,ih]
    exact aek.2 e3.symm
   ·rw [ih]
    exact aek.2 e3.symm
theorem abu (k:v.layout.K):(eC v no).n=ld v no (v.layout.data+v.layout.more).toNat:=by
 unfold eC;exact rH (by have:=AT (v:=v) (no:=no) k (v.layout.data+v.layout.more).toNat;omega)
theorem xJ (k:v.layout.K) (n:Nat):(eC v no).n.testBit n=decide ((n:Int)<v.layout.nodes/\v.layout.has no n=true/\iC v no n=true):=by
 have hd:=k.d;have hm:=k.m
 rw [abu k,ML k (by omega)]
 refine aek.2 ?_
 unfold aO.has
 rw [decide_eq_true_iff,show (((v.layout.data+v.layout.more).toNat:Nat):Int)=v.layout.data+v.layout.more by omega]
theorem bU.bits {a b:bU} (h:∀n,a.n.testBit n=b.n.testBit n):a=b:=bU.ext' (Nat.eq_of_testBit_eq h)
theorem ah.K.sm {v:ah} (k:v.K):v.sm:=by
 have h1:=k.bd
 exact ⟨by omega,by omega,fun x hx=>by rw [k.nP x hx];omega⟩
theorem MM:(⟨⟨0,0,0,0⟩,0,[],[]⟩:ah).sm:=⟨by simp,by simp,fun x hx=>by simp at hx⟩
theorem abv {w:ah} (hl:w.layout=v.layout) (hz:w.size=v.size) (ha:w.at_ n s=v.at_ n s) (hv:gd 0 w.versions s.toNat=gd 0 v.versions s.toNat):fc w n s=fc v n s:=by
 unfold fc;rw [hl,hz,ha,hv]
theorem MN:fc v n s=0↔(v.layout.has s n=false->(v.at_ n s).version=0/\(v.at_ n s).data=ByteArray.empty)/\(v.layout.has s n=true->((v.at_ n s).data.size:Int)=v.size)/\0<=(v.at_ n s).version/\(v.at_ n s).version<=gd 0 v.versions s.toNat:=by
 unfold fc
 constructor
 ·intro h
  split at h
  ·simp at h
  ·rename_i h1
   split at h
   ·simp at h
   ·rename_i h2
    have h2:=ad9.1 h2
    exact ⟨fun hh=>aed fun hx=>h1 (.inl ⟨hh,hx⟩),fun hh=>aed fun hx=>h1 (.inr ⟨hh,hx⟩),h2.1,h2.2⟩
 ·intro ⟨h1,h2,h3,h4⟩
  rw [acL,acL]
  ·exact fun hx=>hx ⟨h3,h4⟩
  ·rintro (⟨a,b⟩|⟨a,b⟩)
   ·exact b (h1 a)
   ·exact b (h2 a)
theorem MO (h0:0<=n) (hn:n<v.nodes.length) (m s:Int):(ck v n up).at_ m s=v.at_ m s:=by
 unfold ah.at_ ck
 show gd _ (gd _ (v.nodes.set _ _) _).pieces _=_
 rw [fy (by omega)]
 split
 ·rename_i e;rw [<-e]
 ·rfl
theorem abw (h0:0<=n) (hn:n<v.nodes.length) (m:Nat):(gd (⟨false,[]⟩:Shelf) (ck v n up).nodes m).up=if n.toNat=m then up else (gd (⟨false,[]⟩:Shelf) v.nodes m).up:=by
 unfold ck
 show (gd _ (v.nodes.set _ _) _).up=_
 rw [fy (by omega)]
 split<;>rfl
theorem MP (k:v.K) (h0:0<=n) (hn:n<v.nodes.length) (up:Bool):(ck v n up).K:=by
 refine ⟨k.lay,k.qH,k.str,k.ver,by unfold ck;simp [k.l8],fun x hx=> ?_,fun m s a b c d=> ?_⟩
 ·rcases aeM hx with e|e
  ·exact k.nP x e
  ·rw [e];show (gd (⟨false,[]⟩:Shelf) v.nodes n.toNat).pieces.length=_;exact k.nP _ (iv (d:=(⟨false,[]⟩:Shelf)) (xs:=v.nodes) (i:=n.toNat) (by omega))
 ·rw [abv (v:=v) (w:=ck v n up) rfl rfl (MO h0 hn m s) rfl]
  exact k.ok m s a (by unfold ck at b;simpa using b) c d
theorem Gb (h0:0<=n) (hn:n<v.nodes.length) (m:Nat):iC (ck v n up) no m=if n.toNat=m then (up&&decide ((v.at_ m no).version=gd 0 v.versions no.toNat)) else iC v no m:=by
 unfold iC
 rw [MO h0 hn,abw h0 hn]
 split
 ·show decide (up=true/\_)=_
  rw [Bool.decide_and,Bool.decide_eq_true];rfl
 ·rfl
theorem abx:ia 0=ByteArray.empty:=by
 have:=Mr 0
 refine YW (by rw [this];rfl) fun i hi=> ?_
 rw [this] at hi
 simp at hi
theorem MQ (h0:0<=n) (hn:n<v.nodes.length) (k:v.K) {m:Int} (m0:0<=m) (s0:0<=s) (s1:s<v.versions.length):(gP v n).at_ m s=if n=m then ⟨0,ia ((v.at_ m s).data.size:Int)⟩ else v.at_ m s:=by
 unfold ah.at_ gP
 show gd _ (gd _ (v.nodes.set _ _) _).pieces _=_
 rw [fy (by omega)]
 by_cases e:n=m
 ·subst e
  rw [acN rfl,acN rfl]
  have hl:=k.pre.shl h0 hn
  show gd _ ((gd _ v.nodes n.toNat).pieces.map sA) _=_
  rw [Mw (d:=(⟨0,ByteArray.empty⟩:Piece)) (by omega)]
  rfl
 ·rw [acL (by omega),acL e]
theorem aby (h0:0<=n) (hn:n<v.nodes.length) (m:Nat):(gd (⟨false,[]⟩:Shelf) (gP v n).nodes m).up=(gd (⟨false,[]⟩:Shelf) v.nodes m).up:=by
 unfold gP
 show (gd _ (v.nodes.set _ _) _).up=_
 rw [fy (by omega)]
 split
 ·rename_i e;rw [<-e]
 ·rfl
theorem abz (k:v.K) (h0:0<=n) (hn:n<v.nodes.length):(gP v n).K:=by
 refine ⟨k.lay,k.qH,k.str,k.ver,by unfold gP;simp [k.l8],fun x hx=> ?_,fun m s a b c d=> ?_⟩
 ·rcases aeM hx with e|e
  ·exact k.nP x e
  ·rw [e];show ((gd _ v.nodes _).pieces.map sA).length=_;rw [ac4];exact k.nP _ (iv (d:=(⟨false,[]⟩:Shelf)) (xs:=v.nodes) (i:=n.toNat) (by omega))
 ·have b':m<v.nodes.length:=by unfold gP at b;simpa using b
  have ok:=MN.1 (k.ok m s a b' c d)
  have at_:=MQ h0 hn k (m:=m) a c d
  rw [MN,at_]
  obtain ⟨o1,o2,o3,o4⟩:=ok
  have vs:=k.ver _ (iv (d:=(0:Int)) (xs:=v.versions) (i:=s.toNat) (by have d':s<v.versions.length:=d;omega))
  by_cases e:n=m
  ·rw [acN e]
   refine ⟨fun hh=>⟨rfl, ?_⟩,fun hh=> ?_,by show (0:Int)<=0;omega, ?_⟩
   ·show ia _=_
    rw [(o1 hh).2];exact abx
   ·show ((ia _).size:Int)=_
    rw [Mr];have:=o2 hh;show _=v.size;omega
   ·show (0:Int)<=gd 0 v.versions s.toNat
    omega
  ·rw [acL e];exact ⟨o1,o2,o3,o4⟩
theorem abA (k:v.K) (h0:0<=n) (hn:n<v.nodes.length) (s0:0<=no) (s1:no<v.versions.length) (m:Nat):iC (gP v n) no m=if n.toNat=m then false else iC v no m:=by
 have vs:=k.ver _ (iv (d:=(0:Int)) (xs:=v.versions) (i:=no.toNat) (by omega))
 unfold iC
 rw [MQ h0 hn k (by omega) s0 s1,aby h0 hn]
 by_cases e:n.toNat=m
 ·rw [acN e,acN (by omega)]
  refine adZ fun ⟨_,hh⟩=> ?_
  have hh:(0:Int)=gd 0 v.versions no.toNat:=hh
  omega
 ·rw [acL e,acL (by omega)];rfl
theorem MR (h0:0<=n) (h1:n<64):(uN ((uN (Int.toNat 1)).n*2^min n.toNat 64)).n=2^n.toNat:=by
 have hlt:2^n.toNat<18446744073709551616:=Nat.lt_of_le_of_lt (Nat.pow_le_pow_right (by decide) (show n.toNat<=63 by omega)) (by decide)
 rw [show min n.toNat 64=n.toNat by omega,rH]
 ·show 1*_=_;rw [Nat.one_mul]
 ·show 1*_<_;rw [Nat.one_mul];exact hlt
theorem pJ (k:v.K):aR v no=if 0<=no/\no<v.versions.length then (eC v no,0) else (uN (Int.toNat 0),3):=by
 unfold aR
 rw [acL (by rw [nQ.2 k];simp)]
 by_cases h:0<=no/\no<v.versions.length
 ·rw [acN h,acL (by omega)]
 ·rw [acL h,acN (by omega)]
theorem abB {v:ah} {n no:Int} (h:(bF v n).2=0):v.K/\0<=n/\n<64/\n<v.nodes.length/\(bF v n).1=gP v n/\bN (gP v n)=0/\(aR v no).2=(aR (gP v n) no).2/\(aR (gP v n) no).1=dU BinOp.andNot (aR v no).1 (uN ((uN (Int.toNat 1)).n*2^min n.toNat 64)):=by
 have h':=h
 unfold bF at h
 split at h;(rename_i a;exact absurd h a)
 split at h;simp at h
 rename_i a b
 have k:=nQ.1 (ad9.1 a)
 have b:=ad9.1 b
 have k2:=k.bd
 have kw:=abz k b.1 (by omega)
 have hd:(gP v n).versions=v.versions:=rfl
 have e:bF v n=(gP v n,0):=by unfold bF;rw [acL a,acL (by omega)]
 refine ⟨k,b.1,by omega,by omega,by rw [e],nQ.2 kw, ?_, ?_⟩
 ·rw [pJ k,pJ kw,hd];split<;>rfl
 ·rw [pJ k,pJ kw,hd]
  by_cases hs:0<=no/\no<v.versions.length
  ·rw [acN hs,acN hs]
   refine bU.bits fun i=> ?_
   show (eC (gP v n) no).n.testBit i=(dU _ (eC v no) _).n.testBit i
   rw [ti,MR b.1 (by omega)]
   show _=((eC v no).n&&&((eC v no).n^^^2^n.toNat)).testBit i
   rw [Nat.testBit_and,Nat.testBit_xor,Nat.testBit_two_pow,xJ k.lay,xJ (v:=gP v n) kw.lay,abA k b.1 (by omega) hs.1 hs.2]
   show decide ((i:Int)<v.layout.nodes/\v.layout.has no i=true/\_)=_
   by_cases q:n.toNat=i
   ·rw [acN q,adX q]
    cases hx:decide ((i:Int)<v.layout.nodes/\v.layout.has no i=true/\iC v no i=true)<;>simp
   ·rw [acL q,adZ q]
    rw [Bool.xor_false,Bool.and_self];rfl
  ·rw [acL hs,acL hs]
   refine bU.bits fun i=> ?_
   show _=(dU _ (uN (Int.toNat 0)) _).n.testBit i
   rw [ti]
   show (0:Nat).testBit i=(0&&&_).testBit i
   rw [Nat.zero_and]
open Go.RowKit
open Go.RowKit
open Go.RowKit
open Go.RowKit
open Go.RowKit
open Go.RowKit
section
variable {v:ah} {b:Int} {dt:BA}
end
section
variable {v:ah} {b:Int} {dt:BA}
end
def abC:LG Ai:=LG.via (LG.prod LG.i64 (LG.prod LG.i64 (LG.prod LG.i64 LG.i64)))
def abD:LG qE:=LG.via (LG.prod LG.i64 LG.str)
def abE:LG wK:=LG.via (LG.prod LG.jL (LG.list abD))
def abF:LG Aj:=LG.via (LG.prod abC (LG.prod LG.i64 (LG.prod (LG.list LG.i64) (LG.list abE))))
open Go.RowKit
theorem MS (h0:0<=n) (hn:n<v.nodes.length) {x y:Bool}:ck (ck v n x) n y=ck v n y:=by
 unfold ck
 show (⟨v.layout,v.size,v.versions,(v.nodes.set n.toNat _).set n.toNat ⟨y,(gd _ (v.nodes.set n.toNat _) n.toNat).pieces⟩⟩:ah)=_
 rw [List.set_set,fy (by omega),acN rfl]
theorem abG (h0:0<=n) (hn:n<v.nodes.length):ck v n (gd (⟨false,[]⟩:Shelf) v.nodes n.toNat).up=v:=by
 unfold ck
 have q:gd (⟨false,[]⟩:Shelf) v.nodes n.toNat=v.nodes[n.toNat]'(by omega):=by unfold gd;rw [acT (by omega)];rfl
 have:v.nodes.set n.toNat ⟨(gd (⟨false,[]⟩:Shelf) v.nodes n.toNat).up,(gd (⟨false,[]⟩:Shelf) v.nodes n.toNat).pieces⟩=v.nodes:=by
  rw [q];exact List.set_getElem_self (by omega)
 rw [this]
theorem Gc (k:v.K) (h0:0<=n) (hn:n<v.nodes.length) (up:Bool):bm v n up=(ck v n up,0):=by
 unfold bm;rw [acL (by rw [nQ.2 k];simp),acL (by omega)]
theorem abH {v:ah} {n:Int} {up:Bool} (h:¬(bm v n up).2=0):(bm v n up).1=⟨⟨0,0,0,0⟩,0,[],[]⟩:=by
 unfold bm at h ⊢
 split;rfl
 split;rfl
 rename_i h1 h2
 rw [acL h1,acL h2] at h
 exact absurd rfl h
theorem abI {v:ah} {n:Int} (h:¬(bF v n).2=0):(bF v n).1=⟨⟨0,0,0,0⟩,0,[],[]⟩:=by
 unfold bF at h ⊢
 split;rfl
 split;rfl
 rename_i h1 h2
 rw [acL h1,acL h2] at h
 exact absurd rfl h
theorem abJ {v:ah} {n no:Int} (h:(bm v n false).2=0):v.K/\(0<=n/\n<v.nodes.length/\n<64)/\(bm v n false).1=ck v n false/\bm (ck v n false) n true=(ck v n true,0)/\bm (ck v n true) n (gd (⟨false,[]⟩:Shelf) v.nodes n.toNat).up=(v,0)/\(aR (ck v n false) no).2=(aR (ck v n true) no).2/\
  dU BinOp.andNot (aR (ck v n false) no).1 (aR (ck v n true) no).1=uN (Int.toNat 0)/\lj (aR (ck v n false) no).1.n n.toNat=false/\((aR (ck v n true) no).1=(aR (ck v n false) no).1\/(aR (ck v n true) no).1=dU BinOp.or (aR (ck v n false) no).1 (uN ((uN (Int.toNat 1)).n*2^min n.toNat 64))):=by
 have h':=h
 unfold bm at h
 split at h;(rename_i a;exact absurd h a)
 split at h;simp at h
 rename_i a b
 have k:=nQ.1 (ad9.1 a)
 have b:=ad9.1 b
 have kb:=k.bd
 have hn:n<v.nodes.length:=by omega
 have kf:=MP k b.1 hn false
 have kt:=MP k b.1 hn true
 have hl:(ck v n false).nodes.length=v.nodes.length:=by unfold ck;simp
 have Co:(ck v n true).nodes.length=v.nodes.length:=by unfold ck;simp
 have e1:=Gc k b.1 hn false
 have e2:=Gc kf b.1 (by rw [hl];exact hn) true
 rw [MS b.1 hn] at e2
 have e3:=Gc kt b.1 (by rw [Co];exact hn) (gd (⟨false,[]⟩:Shelf) v.nodes n.toNat).up
 rw [MS b.1 hn,abG b.1 hn] at e3
 have Bl:∀i,(eC (ck v n false) no).n.testBit i=decide ((i:Int)<v.layout.nodes/\v.layout.has no i=true/\¬n.toNat=i/\iC v no i=true):=fun i=>by
  rw [xJ (v:=ck v n false) kf.lay,Gb b.1 hn]
  refine aek.2 ?_
  by_cases q:n.toNat=i
  ·rw [acN q];exact ⟨fun h=>by have:=h.2.2;simp at this,fun h=>absurd q h.2.2.1⟩
  ·rw [acL q];exact ⟨fun h=>⟨h.1,h.2.1,q,h.2.2⟩,fun h=>⟨h.1,h.2.1,h.2.2.2⟩⟩
 have MT:∀i,n.toNat=i->(eC (ck v n true) no).n.testBit i=decide ((i:Int)<v.layout.nodes/\v.layout.has no i=true/\(v.at_ i no).version=gd 0 v.versions no.toNat):=fun i q=>by
  rw [xJ (v:=ck v n true) kt.lay,Gb b.1 hn,acN q]
  refine aek.2 ⟨fun h=>⟨h.1,h.2.1, ?_⟩,fun h=>⟨h.1,h.2.1, ?_⟩⟩
  ·have:=h.2.2;rw [Bool.true_and] at this;exact ad8 this
  ·rw [Bool.true_and];exact adX h.2.2
 have Ge:∀i,¬n.toNat=i->(eC (ck v n true) no).n.testBit i=decide ((i:Int)<v.layout.nodes/\v.layout.has no i=true/\iC v no i=true):=fun i q=>by
  rw [xJ (v:=ck v n true) kt.lay,Gb b.1 hn,acL q];rfl
 have fz:∀{x:bU} {i:Nat},x=uN (Int.toNat 0)->x.n.testBit i=false:=fun {x i} e=>by
  rw [e];show (0:Nat).testBit i=false;exact Nat.zero_testBit i
 refine ⟨k,⟨b.1,hn,by omega⟩,by rw [e1],e2,e3, ?_, ?_, ?_, ?_⟩
 ·rw [pJ kf,pJ kt]
  show (if 0<=no/\no<(v.versions.length:Int) then _ else _:bU×Int).2=(if 0<=no/\no<(v.versions.length:Int) then _ else _:bU×Int).2
  split<;>rfl
 all_goals rw [pJ kf]
 ·rw [pJ kt]
  show dU _ (if 0<=no/\no<(v.versions.length:Int) then _ else _:bU×Int).1 (if 0<=no/\no<(v.versions.length:Int) then _ else _:bU×Int).1=_
  refine bU.bits fun i=> ?_
  rw [fz rfl,ti]
  by_cases hs:0<=no/\no<(v.versions.length:Int)
  ·rw [acN hs,acN hs]
   show ((eC (ck v n false) no).n&&&((eC (ck v n false) no).n^^^(eC (ck v n true) no).n)).testBit i=false
   rw [Nat.testBit_and,Nat.testBit_xor,Bl]
   by_cases q:n.toNat=i
   ·rw [adZ (fun hx=>hx.2.2.1 q)];rfl
   ·rw [Ge i q]
    cases hx:decide ((i:Int)<v.layout.nodes/\v.layout.has no i=true/\¬n.toNat=i/\iC v no i=true) with
    |false=>rfl
    |true=>
     have hx:=ad8 hx
     rw [adX ⟨hx.1,hx.2.1,hx.2.2.2⟩];rfl
  ·rw [acL hs,acL hs]
   show ((0:Nat)&&&_).testBit i=false
   rw [Nat.zero_and,Nat.zero_testBit]
 ·show lj (if 0<=no/\no<(v.versions.length:Int) then _ else _:bU×Int).1.n n.toNat=false
  have dm:∀x m,lj x m=x.testBit m:=fun x m=>by unfold lj;rw [Nat.testBit_eq_decide_div_mod_eq];rfl
  rw [dm]
  by_cases hs:0<=no/\no<(v.versions.length:Int)
  ·rw [acN hs]
   show (eC (ck v n false) no).n.testBit n.toNat=false
   rw [Bl];simp
  ·rw [acL hs];exact fz rfl
 ·rw [pJ kt]
  show (if 0<=no/\no<(v.versions.length:Int) then _ else _:bU×Int).1=(if 0<=no/\no<(v.versions.length:Int) then _ else _:bU×Int).1\/(if 0<=no/\no<(v.versions.length:Int) then _ else _:bU×Int).1=dU _ (if 0<=no/\no<(v.versions.length:Int) then _ else _:bU×Int).1 _
  by_cases hs:0<=no/\no<(v.versions.length:Int)
  ·rw [acN hs,acN hs]
   show eC (ck v n true) no=eC (ck v n false) no\/eC (ck v n true) no=dU _ (eC (ck v n false) no) _
   by_cases hc:(n<v.layout.nodes/\v.layout.has no n=true/\(v.at_ n no).version=gd 0 v.versions no.toNat)
   ·right
    refine bU.bits fun i=> ?_
    rw [ti,MR b.1 (by omega)]
    show _=((eC (ck v n false) no).n|||2^n.toNat).testBit i
    rw [Nat.testBit_or,Nat.testBit_two_pow,Bl]
    by_cases q:n.toNat=i
    ·have en:(i:Int)=n:=by omega
     rw [MT i q,adX q,Bool.or_true,en]
     exact adX hc
    ·rw [Ge i q,adZ q,Bool.or_false]
     exact aek.2 ⟨fun h=>⟨h.1,h.2.1,q,h.2.2⟩,fun h=>⟨h.1,h.2.1,h.2.2.2⟩⟩
   ·left
    refine bU.bits fun i=> ?_
    rw [Bl]
    by_cases q:n.toNat=i
    ·have en:(i:Int)=n:=by omega
     rw [MT i q,en,adZ hc]
     symm
     exact adZ fun hx=>hx.2.2.1 q
    ·rw [Ge i q]
     exact aek.2 ⟨fun h=>⟨h.1,h.2.1,q,h.2.2⟩,fun h=>⟨h.1,h.2.1,h.2.2.2⟩⟩
  ·left;rw [acL hs,acL hs]
theorem acB (v:ah) (n:Int) (no:Int):True/\True/\(true= !true->false=true)/\(true= !false->(¬(bF v n).snd=(0:Int)->(bF v n).fst.sm/\decide ((bF v n).fst=ah.mk (aO.mk (0:Int) (0:Int) (0:Int) (0:Int)) (0:Int) [] [])=true)/\((bF v n).snd=(0:Int)->True/\True/\((aR v no).snd=(aR (bF v n).fst no).snd->(aR v no).snd=(aR (bF v n).fst no).snd)/\((aR v no).snd=(aR (bF v n).fst no).snd->(0:Int)<=n)/\((aR v no).snd=(aR (bF v n).fst no).snd->(aR v no).snd=(aR (bF v n).fst no).snd)/\((aR v no).snd=(aR (bF v n).fst no).snd->(aR v no).snd=(aR (bF v n).fst no).snd)/\((aR v no).snd=(aR (bF v n).fst no).snd->(aR v no).snd=(aR (bF v n).fst no).snd)/\((aR v no).snd=(aR (bF v n).fst no).snd->(aR v no).snd=(aR (bF v n).fst no).snd)/\((aR v no).snd=(aR (bF v n).fst no).snd->(aR v no).snd=(aR (bF v n).fst no).snd)/\((aR v no).snd=(aR (bF v n).fst no).snd/\(↑(aR (bF v n).fst no).fst.n:Int)=(↑(dU BinOp.andNot (aR v no).fst (uN ((uN (Int.toNat (1:Int))).n*(2:Nat)^min n.toNat (64:Nat)))).n:Int)->(aR v no).snd=(aR (bF v n).fst no).snd/\(↑(aR (bF v n).fst no).fst.n:Int)=(↑(dU BinOp.andNot (aR v no).fst (uN ((uN (Int.toNat (1:Int))).n*(2:Nat)^min n.toNat (64:Nat)))).n:Int))/\((aR v no).snd=(aR (bF v n).fst no).snd/\(↑(aR (bF v n).fst no).fst.n:Int)=(↑(dU BinOp.andNot (aR v no).fst (uN ((uN (Int.toNat (1:Int))).n*(2:Nat)^min n.toNat (64:Nat)))).n:Int)->True)/\((aR v no).snd=(aR (bF v n).fst no).snd/\(↑(aR (bF v n).fst no).fst.n:Int)=(↑(dU BinOp.andNot (aR v no).fst (uN ((uN (Int.toNat (1:Int))).n*(2:Nat)^min n.toNat (64:Nat)))).n:Int)->(aR v no).snd=(aR (bF v n).fst no).snd/\(↑(aR (bF v n).fst no).fst.n:Int)=(↑(dU BinOp.andNot (aR v no).fst (uN ((uN (Int.toNat (1:Int))).n*(2:Nat)^min n.toNat (64:Nat)))).n:Int))/\((aR v no).snd=(aR (bF v n).fst no).snd/\(↑(aR (bF v n).fst no).fst.n:Int)=(↑(dU BinOp.andNot (aR v no).fst (uN ((uN (Int.toNat (1:Int))).n*(2:Nat)^min n.toNat (64:Nat)))).n:Int)->(aR v no).snd=(aR (bF v n).fst no).snd/\(↑(aR (bF v n).fst no).fst.n:Int)=(↑(dU BinOp.andNot (aR v no).fst (uN ((uN (Int.toNat (1:Int))).n*(2:Nat)^min n.toNat (64:Nat)))).n:Int))/\((aR v no).snd==(aR (bF v n).fst no).snd&&(↑(aR (bF v n).fst no).fst.n:Int)==(↑(dU BinOp.andNot (aR v no).fst (uN ((uN (Int.toNat (1:Int))).n*(2:Nat)^min n.toNat (64:Nat)))).n:Int)&&bN (bF v n).fst==(0:Int))=true)):=by
 have h1:= @abB v n no
 have h2:= @abI v n
 have h3:=MM
 (try simp only [ady,adE,adh,ac9])
 (repeat' (first|apply And.intro|intro _))<;>first|assumption|trivial|omega|(grind [aE])|trace_state
def MU:bk Tc Tc.dn:=⟨4,[.ty .eV, .ty .aA, .ty .aA],fun x=>(fun (v:ah) (n:Int) (no:Int)=>True) x.1 x.2.1 x.2.2.1,[.ed],fun x=>(fun (v:ah) (n:Int) (no:Int)=>true) x.1 x.2.1 x.2.2.1⟩
abbrev pK (v:ah) (n:Int):=(bm (bm (bm v n false).fst n true).fst n (gd (Shelf.mk false []) v.nodes n.toNat).up)
abbrev eX (v:ah) (n:Int) (no:Int):=(aR (bm (bm v n false).fst n true).fst no)
abbrev qT (v:ah) (n:Int) (no:Int):=((aR (bm v n false).fst no).snd=(eX v n no).snd/\(↑(dU BinOp.andNot (aR (bm v n false).fst no).fst (eX v n no).fst).n:Int)=(↑(uN (Int.toNat (0:Int))).n:Int))
abbrev uk (v:ah) (n:Int) (no:Int):=(((qT v n no)/\lj (aR (bm v n false).fst no).fst.n n.toNat= !true)/\¬(↑(eX v n no).fst.n:Int)=(↑(aR (bm v n false).fst no).fst.n:Int)->((qT v n no)/\lj (aR (bm v n false).fst no).fst.n n.toNat= !true)/\¬(↑(eX v n no).fst.n:Int)=(↑(aR (bm v n false).fst no).fst.n:Int))
abbrev xK (v:ah) (n:Int) (no:Int):=((aR (bm v n false).fst no).snd=(eX v n no).snd/\(↑(dU BinOp.andNot (aR (bm v n false).fst no).fst (eX v n no).fst).n:Int)=(↑(uN (Int.toNat (0:Int))).n:Int)->(aR (bm v n false).fst no).snd=(eX v n no).snd/\(↑(dU BinOp.andNot (aR (bm v n false).fst no).fst (eX v n no).fst).n:Int)=(↑(uN (Int.toNat (0:Int))).n:Int))
abbrev um (v:ah) (n:Int) (no:Int):=((qT v n no)/\lj (aR (bm v n false).fst no).fst.n n.toNat= !true->(qT v n no)/\lj (aR (bm v n false).fst no).fst.n n.toNat= !true)
abbrev xL (v:ah) (n:Int):=((bm (bm v n false).fst n true).snd=(0:Int)/\(pK v n).snd=(0:Int)->(bm (bm v n false).fst n true).snd=(0:Int)/\(pK v n).snd=(0:Int))
theorem abK (v:ah) (n:Int) (no:Int):True/\True/\(true= !true->false=true)/\(true= !false->(¬(bm v n false).snd=(0:Int)->(bm v n false).fst.sm/\decide ((bm v n false).fst=ah.mk (aO.mk (0:Int) (0:Int) (0:Int) (0:Int)) (0:Int) [] [])=true)/\((bm v n false).snd=(0:Int)->True/\((0:Int)<=n/\n<(↑v.nodes.length:Int))/\True/\((bm (bm v n false).fst n true).snd=(0:Int)->(bm (bm v n false).fst n true).snd=(0:Int))/\((bm (bm v n false).fst n true).snd=(0:Int)->(bm (bm v n false).fst n true).snd=(0:Int))/\(xL v n)/\(xL v n)/\((bm (bm v n false).fst n true).snd=(0:Int)/\(pK v n).snd=(0:Int)->(pK v n).fst.sm)/\(xL v n)/\(xL v n)/\((¬(bm (bm v n false).fst n true).snd=(0:Int)\/¬(pK v n).snd=(0:Int))\/decide ((pK v n).fst=v)= !true->false=true)/\(((bm (bm v n false).fst n true).snd=(0:Int)/\(pK v n).snd=(0:Int))/\decide ((pK v n).fst=v)= !false->True/\True/\((aR (bm v n false).fst no).snd=(eX v n no).snd->(aR (bm v n false).fst no).snd=(eX v n no).snd)/\((aR (bm v n false).fst no).snd=(eX v n no).snd->(aR (bm v n false).fst no).snd=(eX v n no).snd)/\((aR (bm v n false).fst no).snd=(eX v n no).snd->(aR (bm v n false).fst no).snd=(eX v n no).snd)/\((aR (bm v n false).fst no).snd=(eX v n no).snd->(aR (bm v n false).fst no).snd=(eX v n no).snd)/\(xK v n no)/\(xK v n no)/\((aR (bm v n false).fst no).snd=(eX v n no).snd/\(↑(dU BinOp.andNot (aR (bm v n false).fst no).fst (eX v n no).fst).n:Int)=(↑(uN (Int.toNat (0:Int))).n:Int)->(0:Int)<=n)/\(xK v n no)/\(xK v n no)/\(um v n no)/\(um v n no)/\(um v n no)/\(uk v n no)/\(((qT v n no)/\lj (aR (bm v n false).fst no).fst.n n.toNat= !true)/\¬(↑(eX v n no).fst.n:Int)=(↑(aR (bm v n false).fst no).fst.n:Int)->(0:Int)<=n)/\(uk v n no)/\(uk v n no)/\(uk v n no)/\(uk v n no)/\(um v n no)/\((qT v n no)/\lj (aR (bm v n false).fst no).fst.n n.toNat= !true->¬(↑(eX v n no).fst.n:Int)=(↑(aR (bm v n false).fst no).fst.n:Int)->((qT v n no)/\lj (aR (bm v n false).fst no).fst.n n.toNat= !true)/\¬(↑(eX v n no).fst.n:Int)=(↑(aR (bm v n false).fst no).fst.n:Int))/\(um v n no)/\((aR (bm v n false).fst no).snd==(eX v n no).snd&&(↑(dU BinOp.andNot (aR (bm v n false).fst no).fst (eX v n no).fst).n:Int)==(↑(uN (Int.toNat (0:Int))).n:Int)&& !lj (aR (bm v n false).fst no).fst.n n.toNat&&((↑(eX v n no).fst.n:Int)==(↑(aR (bm v n false).fst no).fst.n:Int)||(↑(eX v n no).fst.n:Int)==(↑(dU BinOp.or (aR (bm v n false).fst no).fst (uN ((uN (Int.toNat (1:Int))).n*(2:Nat)^min n.toNat (64:Nat)))).n:Int)))=true))):=by
 delta xL um eX pK xK uk qT
 have h1:= @abJ v n no
 have h2:= @abH v n false
 have h3:=MM
 have h4:v.K->v.sm:=fun k=>k.sm
 (try simp only [ady,adE,adh,ac9])
 (repeat' (first|apply And.intro|intro _))<;>first|assumption|trivial|omega|(grind [aE])|trace_state
theorem abL:MU.Ok Try.prog tD:=bO cP (Δ:=[F5,F1,AW,qL,xu,MG]) ⟨abr,abj,Ml,tW,Mo,abd,trivial⟩ (Ω:=[]) trivial MU Qz QA (fun _=>[]) (fun _=>trivial) 0 (fun x=>(fun (v:ah) (n:Int) (no:Int)=>(fun _=>none)) x.1 x.2.1 x.2.2.1) fun x hp=>Eq.mp (by kernel_rfl) (abK x.1 x.2.1 x.2.2.1)
theorem VolumeComesBack_walk {w:World} (v:ah) (Gf:List Value) (rv:aP.rep w w.heap.size Gf v) (n:Int) (wn:(Lit.int .i64 n).wf=true) (no:Int) (wno:(Lit.int .i64 no).wf=true):Calls Try.prog 4 #[.agg Gf.toArray,I n,I no] w fun e w'=>e= .returned (.bool true)/\Below w.heap.size w w':=by
 have rn:aP.rep w w.heap.size [I n] n:=⟨rfl,C1 wn⟩
 have rno:aP.rep w w.heap.size [I no] no:=⟨rfl,C1 wno⟩
 have hf:Fn Try.prog 4 [(tD.en .eV v).av tD.toTE N0,(tD.en .aA n).av tD.toTE N0,(tD.en .aA no).av tD.toTE N0] (.v (.bool true)):=abL.2 (v,n,no,()) N0 trivial
 exact Uv (vs:=[.agg Gf.toArray,I n,I no]) hf trivial (.cons (Xn cP (t:= .eV) rfl (abF.av rv)) (.cons (K1 cP (t:= .aA) rfl (LG.i64.av rn)) (.cons (K1 cP (t:= .aA) rfl (LG.i64.av rno)) .nil)))
end Go.Proofs.Ytboaekdecndckaa
