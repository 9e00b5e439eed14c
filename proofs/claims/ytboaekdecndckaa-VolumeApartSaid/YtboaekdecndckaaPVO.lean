/- What functions answer (contracts). No condition. -/
import Derived.Test.YtboaekdecndckaaPCD
import Derived.Test.YtboaekdecndckaaPPolE
import Derived.Test.YtboaekdecndckaaPSxK
import Derived.Test.YtboaekdecndckaaPCA
set_option linter.unusedSimpArgs false
set_option linter.unusedVariables false
set_option maxHeartbeats 4000000
set_option maxRecDepth 100000
namespace Go.Proofs.Ytboaekdecndckaa
variable {dt:BA} {no s p more size aK:Int} {l:aO} {a b X:List (List UInt8)} {n m i j t:Nat} {f:Nat->Nat->UInt8} {v w:ah}
open Go.RowKit
def eS (v:ah) (no ver:Int) (all:List BA):Nat->List Shelf
 |0=>v.nodes
 |k+1=>if (gd (⟨false,[]⟩:Shelf) (eS v no ver all k) (v.layout.node no k).toNat).up=true then (eS v no ver all k).set (v.layout.node no k).toNat ⟨true,(gd (⟨false,[]⟩:Shelf) (eS v no ver all k) (v.layout.node no k).toNat).pieces.set no.toNat ⟨ver,gd ByteArray.empty all k⟩⟩ else eS v no ver all k
theorem lR {v:ah} {no ver:Int} {all:List BA}:∀{k:Nat},(eS v no ver all k).length=v.nodes.length
 |0=>rfl
 |k+1=>by
  unfold eS
  split
  ·rw [ae4];exact lR
  ·exact lR
theorem uS {v:ah} {no ver:Int} {all:List BA} {n:Nat} (hn:n<v.nodes.length):∀{k:Nat},(gd (⟨false,[]⟩:Shelf) (eS v no ver all k) n).up=(gd (⟨false,[]⟩:Shelf) v.nodes n).up/\(gd (⟨false,[]⟩:Shelf) (eS v no ver all k) n).pieces.length=(gd (⟨false,[]⟩:Shelf) v.nodes n).pieces.length
 |0=>⟨rfl,rfl⟩
 |k+1=>by
  have ih:=uS (no:=no) (ver:=ver) (all:=all) hn (k:=k)
  unfold eS
  split
  ·rename_i e
   by_cases q:(v.layout.node no k).toNat=n
   ·rw [q] at e ⊢
    rw [fv (by rw [lR];exact hn),aeG rfl]
    exact ⟨e.symm.trans ih.1,by rw [ae4];exact ih.2⟩
   ·by_cases q2:(v.layout.node no k).toNat<(eS v no ver all k).length
    ·rw [fv q2,aeE q];exact ih
    ·rw [List.set_eq_of_length_le (by omega)];exact ih
  ·exact ih
structure jG (v:ah) (no ver:Int) (all:List BA) (k:Int) (K:List az) (A:dk):Prop where
 vk:v.K
 s0:0<=no
 s1:no<v.versions.length
 k0:0<=k
 k1:k<=v.layout.data+v.layout.more
 o:lQ (eS v no ver all k.toNat) K A
def lS (K:List az) (n:Int):Row Piece:=(gd (⟨false,Row.no Piece⟩:az) K n.toNat).pieces
theorem jG.start {v:ah} (k:v.K) {i no ver:Int} {all:List BA} {K:List az} {A:dk} (h:dg v.nodes i K A) (hi:v.nodes.length<=i) (h0:0<=no) (h1:no<v.versions.length):jG v no ver all 0 K A:=⟨k,h0,h1,by omega,by have:=k.lay.d;have:=k.lay.m;omega,h.fin hi⟩
theorem jG.row {v:ah} {no ver k:Int} {all:List BA} {K:List az} {A:dk} (h:jG v no ver all k K A):0<=v.layout.node no k/\v.layout.node no k<K.length/\(gd (⟨false,Row.no Piece⟩:az) K (v.layout.node no k).toNat).up=(gd (⟨false,[]⟩:Shelf) v.nodes (v.layout.node no k).toNat).up/\((lS K (v.layout.node no k)).kd=RK.own/\cz A (lS K (v.layout.node no k)).id/\(bk A (lS K (v.layout.node no k)).id).length=(lS K (v.layout.node no k)).n)/\(lS K (v.layout.node no k)).ok A/\(lS K (v.layout.node no k)).get A=(gd (⟨false,[]⟩:Shelf) (eS v no ver all k.toNat) (v.layout.node no k).toNat).pieces/\((lS K (v.layout.node no k)).get A).length=v.versions.length:=by
 have hn:=h.vk.lay.node no k
 have hd:=h.vk.jc
 have hl:=h.o.len
 rw [lR] at hl
 have hj:(v.layout.node no k).toNat<v.nodes.length:=by omega
 obtain ⟨q1,q2⟩:=h.o.own (v.layout.node no k).toNat (by rw [lR];exact hj)
 have q3:(lS K (v.layout.node no k)).get A=(gd (⟨false,[]⟩:Shelf) (eS v no ver all k.toNat) (v.layout.node no k).toNat).pieces:=by unfold lS;rw [BY q1,q2]
 have sm:=uS (no:=no) (ver:=ver) (all:=all) (k:=k.toNat) hj
 refine ⟨hn.1,by omega,by rw [h.o.up _ (by rw [lR];exact hj)];exact sm.1,q1,Row.bF.ok q1,q3, ?_⟩
 rw [q3,sm.2]
 exact h.vk.pre.shl hn.1 (by omega)
theorem jG.down {ver k:Int} {all:List BA} {K:List az} {A:dk} (h:jG v no ver all k K A) (hk:k<v.layout.data+v.layout.more) (e:(gd (⟨false,Row.no Piece⟩:az) K (v.layout.node no k).toNat).up=false):jG v no ver all (k+1) K A:=by
 have k0:=h.k0
 refine ⟨h.vk,h.s0,h.s1,by omega,by omega, ?_⟩
 have hr:=h.row
 have hl:=h.o.len
 rw [lR] at hl
 have hj:(v.layout.node no k).toNat<v.nodes.length:=by have:=hr.1;have:=hr.2.1;omega
 have sm:=uS (no:=no) (ver:=ver) (all:=all) (k:=k.toNat) hj
 have ek:((k.toNat:Nat):Int)=k:=by omega
 have e1:eS v no ver all (k+1).toNat=eS v no ver all k.toNat:=by
  rw [show (k+1).toNat=k.toNat+1 by omega]
  conv=>lhs;unfold eS
  rw [ek,aeE (by rw [sm.1, <-hr.2.2.1,e];simp)]
 rw [e1];exact h.o
theorem jG.step {v:ah} {no ver k:Int} {all:List BA} {K:List az} {A:dk} (h:jG v no ver all k K A) (hk:k<v.layout.data+v.layout.more) (e:(gd (⟨false,Row.no Piece⟩:az) K (v.layout.node no k).toNat).up=true):jG v no ver all (k+1) K (((lS K (v.layout.node no k)).id,((lS K (v.layout.node no k)).get A).set no.toNat ⟨ver,gd ByteArray.empty all k.toNat⟩)::A):=by
 have k0:=h.k0
 refine ⟨h.vk,h.s0,h.s1,by omega,by omega, ?_⟩
 have hr:=h.row
 have hl:=h.o.len
 rw [lR] at hl
 have hj:(v.layout.node no k).toNat<v.nodes.length:=by have:=hr.1;have:=hr.2.1;omega
 have sm:=uS (no:=no) (ver:=ver) (all:=all) (k:=k.toNat) hj
 have ek:((k.toNat:Nat):Int)=k:=by omega
 have up:(gd (⟨false,[]⟩:Shelf) (eS v no ver all k.toNat) (v.layout.node no k).toNat).up=true:=by rw [sm.1, <-hr.2.2.1,e]
 have e1:eS v no ver all (k+1).toNat=(eS v no ver all k.toNat).set (v.layout.node no k).toNat ⟨true,((lS K (v.layout.node no k)).get A).set no.toNat ⟨ver,gd ByteArray.empty all k.toNat⟩⟩:=by
  rw [show (k+1).toNat=k.toNat+1 by omega]
  conv=>lhs;unfold eS
  rw [ek,aeG up,hr.2.2.2.2.2.1]
 rw [e1]
 exact h.o.put (by rw [lR];exact hj) up.symm (by rw [ae4,hr.2.2.2.2.2.1])
theorem jG.done {v:ah} {no ver k:Int} {all:List BA} {K:List az} {A:dk} (h:jG v no ver all k K A) (hk:v.layout.data+v.layout.more<=k) {vs:List Int}:(∀x:az,x∈K->True/\x.pieces.ok A/\x.pieces.kd≠RK.nil)/\(⟨v.layout,v.size,vs,List.map (fun x:az=>(⟨x.up,x.pieces.get A⟩:Shelf)) K⟩:ah)=⟨v.layout,v.size,vs,eS v no ver all (v.layout.data+v.layout.more).toNat⟩:=by
 obtain ⟨e1,e2⟩:=h.o.view
 have e:k=v.layout.data+v.layout.more:=by have:=h.k1;omega
 exact ⟨fun x hx=>⟨trivial,e1 x hx⟩,by rw [e2,e]⟩
def dm (v:ah) (b:Int) (dt:BA):List BA:=(bR v (b / v.layout.data)).1.set (b%v.layout.data).toNat dt
def kZ (v:ah) (b:Int) (dt:BA):List BA:=dm v b dt++(kS (dm v b dt) v.layout.more).1
def nI (v:ah) (b:Int) (dt:BA):Int:=if ¬dH v b=0 then dH v b else if ¬(dt.size:Int)=v.size then 1 else if ¬(bR v (b / v.layout.data)).2=0 then (bR v (b / v.layout.data)).2 else if gd 0 v.versions (b / v.layout.data).toNat=1000000 then 2 else 0
def bY (v:ah) (b:Int) (dt:BA):ah:=⟨v.layout,v.size,v.versions.set (b / v.layout.data).toNat (gd 0 v.versions (b / v.layout.data).toNat+1),eS v (b / v.layout.data) (gd 0 v.versions (b / v.layout.data).toNat+1) (kZ v b dt) (v.layout.data+v.layout.more).toNat⟩
def bw (v:ah) (b:Int) (dt:BA):ah×Int:=if ¬nI v b dt=0 then (⟨⟨0,0,0,0⟩,0,[],[]⟩,nI v b dt) else (bY v b dt,0)
theorem yh {k:Nat}:∀x,x∈gh v no k->0<=x/\x<k:=fun x hx=>by
 unfold gh ck at hx
 obtain ⟨y,hy,rfl⟩:=ae2.1 (List.mem_of_mem_take hx)
 have:=ae6.1 (List.mem_filter.1 hy).1
 omega
theorem acr (k:v.K) (h0:0<=no) (h1:no<v.versions.length) (p0:0<=p) (p1:p<v.layout.data+v.layout.more):((fh v no p).size:Int)=v.size:=by
 have hn:=k.lay.node no p
 have hs:=k.lay.s
 have hd:=k.jc
 have e:=(sT k.lay (s:=no) (p:=p) ⟨p0,by omega⟩ hn).1 rfl
 have hh:v.layout.has no (v.layout.node no p)=true:=by unfold aO.has;rw [e];exact af3 p1
 have ok:=k.ok (v.layout.node no p) no hn.1 (by omega) h0 h1
 unfold gw at ok
 split at ok
 ·exact absurd ok (by decide)
 ·rename_i q
  exact af7 fun hx=>q (.inr ⟨hh,hx⟩)
theorem NI {v:ah} {no:Int} (h:((bC v no).length:Int)<v.layout.data):bR v no=([],8):=by unfold bR;rw [aeG h]
theorem NJ {v:ah} {no:Int} (k:v.K) (h:v.layout.data<=((bC v no).length:Int)):((bC v no).length:Int)=v.layout.data/\lO (v.layout.data+v.layout.more) (bC v no)=0/\
  (¬cN ((bC v no).map (fh v no))=0->bR v no=([],cN ((bC v no).map (fh v no))))/\
  (cN ((bC v no).map (fh v no))=0->¬(bp (bu v.layout.data v.layout.more (bC v no))).2=0->bR v no=([],(bp (bu v.layout.data v.layout.more (bC v no))).2))/\
  (cN ((bC v no).map (fh v no))=0->(bp (bu v.layout.data v.layout.more (bC v no))).2=0->bR v no=(bH (bp (bu v.layout.data v.layout.more (bC v no))).1 ((bC v no).map (fh v no)),0)):=by
 have hd:=k.lay.d;have hm:=k.lay.m
 have hf:(bC v no).length<=v.layout.data.toNat:=Nv
 have hl:((bC v no).length:Int)=v.layout.data:=by omega
 have ha:lO (v.layout.data+v.layout.more) (bC v no)=0:=by
  have r:∀x,x∈bC v no->0<=x/\x<v.layout.data+v.layout.more:=fun x hx=>by have:=yh _ hx;omega
  have nd:(bC v no).Nodup:=by
   unfold bC gh ck
   refine List.Nodup.sublist (List.take_sublist _ _) ?_
   have:((List.range (v.layout.data+v.layout.more).toNat).filter fun p:Nat=>bP v no p).Nodup:=List.Pairwise.filter _ List.nodup_range
   exact List.Pairwise.map _ (fun a b m9 e=>m9 (by omega)) this
  unfold lO
  have:∀(seen l:List Int),(∀i,i∈l->0<=i/\i<v.layout.data+v.layout.more/\¬i∈seen)->l.Nodup->ke (v.layout.data+v.layout.more) seen l=0:=by
   intro seen l
   induction l generalizing seen with
   |nil=>intro _ _;rfl
   |cons x r ih=>
    intro h hd
    have h1:=h x (afo ..)
    rw [af6] at hd
    unfold ke
    rw [aeE (by omega),aeE h1.2.2]
    refine ih _ (fun i hi=> ?_) hd.2
    have h2:=h i (afi _ hi)
    refine ⟨h2.1,h2.2.1,fun hh=> ?_⟩
    rcases afc.1 hh with e|e
    ·exact h2.2.2 e
    ·rw [aeP] at e;subst e;exact hd.1 hi
  exact this [] _ (fun i hi=>⟨(r i hi).1,(r i hi).2,by simp⟩) nd
 have e:bR v no=dG v.layout.data v.layout.more (bC v no) ((bC v no).map (fh v no)):=by unfold bR;rw [aeE (by omega)]
 refine ⟨hl,ha,fun h1=> ?_,fun h1 h2=> ?_,fun h1 h2=> ?_⟩<;>rw [e]<;>unfold dG<;>rw [aeE (by omega),aeE (by rw [aeS];simp),aeE (by omega),aeE (by omega),aeE (by omega)]
 ·rw [aeG h1]
 ·rw [aeE (by omega),aeG h2]
 ·rw [aeE (by omega),aeE (by omega)]
theorem NL (k:v.K) (h0:0<=no) (h1:no<v.versions.length) (h:(bR v no).2=0):∀x,x∈(bR v no).1->(x.size:Int)=v.size:=fun x hx=>by
 have hd:=k.lay.d
 have c:v.layout.data<=((bC v no).length:Int):=by
  by_cases c:((bC v no).length:Int)<v.layout.data
  ·rw [NI c] at h;simp at h
  ·omega
 obtain ⟨hl,ha,r1,r2,r3⟩:=NJ k c
 by_cases a1:cN ((bC v no).map (fh v no))=0
 ·by_cases a2:(bp (bu v.layout.data v.layout.more (bC v no))).2=0
  ·rw [r3 a1 a2] at hx
   have hx:x∈bH _ _:=hx
   unfold bH at hx
   obtain ⟨row,_,rfl⟩:=ae2.1 hx
   unfold oE
   rw [Bn]
   have yH:0<(bC v no).length:=by omega
   rw [Cb (d:=(0:Int)) yH]
   have hm:0<=gd 0 (bC v no) 0/\gd 0 (bC v no) 0<(((v.layout.data+v.layout.more).toNat:Nat):Int):=yh (v:=v) (no:=no) (k:=(v.layout.data+v.layout.more).toNat) _ (eV (d:=(0:Int)) yH)
   exact acr k h0 h1 hm.1 (by omega)
  ·rw [r2 a1 a2] at h;exact absurd h a2
 ·rw [r1 a1] at h;exact absurd h a1
theorem NM {v:ah} {b:Int} {dt:BA} (h:dH v b=0) (hs:(dt.size:Int)=v.size) (hd:(bR v (b / v.layout.data)).2=0):((dm v b dt).length:Int)=v.layout.data/\cN (dm v b dt)=0/\kS (dm v b dt) v.layout.more=(bH (eD v.layout.more (dm v b dt).length).1 (dm v b dt),0)/\((kZ v b dt).length:Int)=v.layout.data+v.layout.more:=by
 obtain ⟨k,a2,a3,a4,a5,a6,a7⟩:=sZ h
 have kd:=k.lay.d;have km:=k.lay.m;have kz:=k.mF
 have hl:=BR hd
 have hlen:((dm v b dt).length:Int)=v.layout.data:=by unfold dm;rw [ae4];exact hl
 have aZ:∀x,x∈dm v b dt->(x.size:Int)=v.size:=fun x hx=>by
  unfold dm at hx
  rcases agF hx with e|e
  ·exact NL k a4 a5 hd x e
  ·rw [e];exact hs
 have hg:gd ByteArray.empty (dm v b dt) 0∈dm v b dt:=eV (by omega)
 have hk:cN (dm v b dt)=0:=Bs (fun s hx=>by have:=aZ s hx;omega) fun s hx=>by have:=aZ s hx;have:=aZ _ hg;omega
 have he:kS (dm v b dt) v.layout.more=(bH (eD v.layout.more (dm v b dt).length).1 (dm v b dt),0):=by
  unfold kS
  rw [aeE (by omega),aeE (by omega),aeE (by omega),aeE (by omega)]
 refine ⟨hlen,hk,he, ?_⟩
 unfold kZ
 rw [he,afK]
 show (((dm v b dt).length+(bH _ _).length:Nat):Int)=_
 unfold bH
 rw [aeS,Bt (by omega) (by omega) (by omega) (by omega)]
 show (((dm v b dt).length+(bM _ _ _).length:Nat):Int)=_
 rw [Ca];omega
def yi (v:ah) (b:Int) (p:Int) (at_:(List Int)) (P:(List ByteArray)):Prop:=dH v b=0/\fK v (b / v.layout.data) p at_ P
def Cc (v:ah) (i0:Int) (a0:(List Int)) (P0:(List ByteArray)) (i:Int) (a:(List Int)) (P:(List ByteArray)):Prop:=a=a0/\P=P0/\fJ (v.layout.data+v.layout.more) a i
def Cd (v:ah) (i:Int) (K:(List az)) (A:(List (Nat×List Piece))):Prop:=dg v.nodes i K A
def Ce (v:ah) (b:Int) (p:Int) (Z:(cx×List Int)):Prop:=Z.1.vol.layout=v.layout/\Z.1.vol.size=v.size/\Z.1.no=b / v.layout.data/\jf (v.layout.data+v.layout.more) (kf v.layout (b / v.layout.data)) p Z.2
def yj (v:ah) (b:Int) (dt:ByteArray) (p:Int) (K:(List az)) (A:(List (Nat×List Piece))):Prop:=jG v (b / v.layout.data) (gd 0 v.versions (b / v.layout.data).toNat+1) (kZ v b dt) p K A
def yk:bj Tc Tc.dn:=⟨6,[.ty .ff, .ty .aA, .ty .fZ],fun x=>(fun (v:ah) (b:Int) (dt:ByteArray)=>True) x.1 x.2.1 x.2.2.1,[.ff, .aA],fun x=>(fun (v:ah) (b:Int) (dt:ByteArray)=>bw v b dt) x.1 x.2.1 x.2.2.1⟩
abbrev kj:=(aO.mk (0:Int) (0:Int) (0:Int) (0:Int))
abbrev rB (v:ah) (b:Int):=((1:Int)<=(au v b).fst.vol.layout.data/\(au v b).fst.vol.layout.data<=(8:Int))
abbrev uT (v:ah) (b:Int):=((0:Int)<=(au v b).fst.no/\(au v b).fst.no<(↑v.versions.length:Int))
abbrev yl (v:ah) (b:Int):=(v.versions.set (au v b).fst.no.toNat (gd (0:Int) v.versions (au v b).fst.no.toNat+(1:Int)))
theorem acs (v:ah) (b:Int) (dt:ByteArray):True/\((au v b).snd.snd=(0:Int)->(au v b).snd.snd=(0:Int))/\((au v b).snd.snd=(0:Int)->(au v b).snd.snd=(0:Int))/\((au v b).snd.snd=(0:Int)->(au v b).snd.snd=(0:Int))/\((au v b).snd.snd=(0:Int)->(au v b).snd.snd=(0:Int))/\((au v b).snd.snd=(0:Int)->(au v b).snd.snd=(0:Int))/\((au v b).snd.snd=(0:Int)/\¬(↑dt.size:Int)=v.size->(ah.mk kj (0:Int) [] [],(1:Int))=bw v b dt)/\(¬(au v b).snd.snd=(0:Int)\/(↑dt.size:Int)=v.size->(¬(au v b).snd.snd=(0:Int)->(ah.mk kj (0:Int) [] [],(au v b).snd.snd)=bw v b dt)/\((au v b).snd.snd=(0:Int)->yi v b (0:Int) [] []/\∀(x:Int) (af:List Int) (aC:List ByteArray),yi v b x af aC->(x<(↑(au v b).fst.nodes.length:Int)->(dU (au v b).fst/\(0:Int)<=x/\x<(au v b).fst.vol.layout.data+(au v b).fst.vol.layout.more)/\(bP (au v b).fst.vol (au v b).fst.no x=true->bP (au v b).fst.vol (au v b).fst.no x=true)/\(bP (au v b).fst.vol (au v b).fst.no x=true->bP (au v b).fst.vol (au v b).fst.no x=true)/\(bP (au v b).fst.vol (au v b).fst.no x=true->bP (au v b).fst.vol (au v b).fst.no x=true)/\(bP (au v b).fst.vol (au v b).fst.no x=true->bP (au v b).fst.vol (au v b).fst.no x=true)/\(bP (au v b).fst.vol (au v b).fst.no x=true->bP (au v b).fst.vol (au v b).fst.no x=true)/\(bP (au v b).fst.vol (au v b).fst.no x=true->bP (au v b).fst.vol (au v b).fst.no x=true)/\(bP (au v b).fst.vol (au v b).fst.no x=true->bP (au v b).fst.vol (au v b).fst.no x=true)/\(bP (au v b).fst.vol (au v b).fst.no x=true/\(↑af.length:Int)<(au v b).fst.vol.layout.data->(af.length+(1:Nat))*(8:Nat)<=(140737488355328:Nat)/\(dU (au v b).fst/\(0:Int)<=x/\x<(au v b).fst.vol.layout.data+(au v b).fst.vol.layout.more)/\(aC.length+(1:Nat))*(16:Nat)<=(140737488355328:Nat)/\aB (x+(1:Int))/\yi v b (x+(1:Int)) (af++[x]) (aC++[((au v b).fst.vol.at_ ((au v b).fst.vol.layout.node (au v b).fst.no x) (au v b).fst.no).data])/\(v.layout.data+v.layout.more - (x+(1:Int))).toNat<(v.layout.data+v.layout.more - x).toNat)/\(bP (au v b).fst.vol (au v b).fst.no x=false\/(au v b).fst.vol.layout.data<=(↑af.length:Int)->aB (x+(1:Int))/\yi v b (x+(1:Int)) af aC/\(v.layout.data+v.layout.more - (x+(1:Int))).toNat<(v.layout.data+v.layout.more - x).toNat))/\((↑(au v b).fst.nodes.length:Int)<=x->((↑af.length:Int)<(au v b).fst.vol.layout.data->(ah.mk kj (0:Int) [] [],(8:Int))=bw v b dt)/\((au v b).fst.vol.layout.data<=(↑af.length:Int)->True/\(decide (rB v b)= !!true->True)/\(decide (rB v b)= !true/\decide (rB v b)= !true\/decide (rB v b)= !!true/\decide ((1:Int)<=(au v b).fst.vol.layout.more/\(au v b).fst.vol.layout.more<=(6:Int))= !true->(ah.mk kj (0:Int) [] [],(3:Int))=bw v b dt)/\((decide (rB v b)= !false\/decide (rB v b)= !false)/\(decide (rB v b)= !!false\/decide ((1:Int)<=(au v b).fst.vol.layout.more/\(au v b).fst.vol.layout.more<=(6:Int))= !false)->(¬(↑af.length:Int)=(↑aC.length:Int)->(ah.mk kj (0:Int) [] [],(1:Int))=bw v b dt)/\((↑af.length:Int)=(↑aC.length:Int)->((↑af.length:Int)<(au v b).fst.vol.layout.data->(ah.mk kj (0:Int) [] [],(8:Int))=bw v b dt)/\((au v b).fst.vol.layout.data<=(↑af.length:Int)->((au v b).fst.vol.layout.data<(↑af.length:Int)->(ah.mk kj (0:Int) [] [],(2:Int))=bw v b dt)/\((↑af.length:Int)<=(au v b).fst.vol.layout.data->Cc v (0:Int) af aC (0:Int) af aC/\∀(x:Int) (ae:List Int) (aD:List ByteArray),Cc v (0:Int) af aC x ae aD->(x<(↑af.length:Int)->((0:Int)<=x/\x<(↑af.length:Int))/\((0:Int)<=gd (0:Int) af x.toNat->(0:Int)<=gd (0:Int) af x.toNat)/\((0:Int)<=gd (0:Int) af x.toNat->(0:Int)<=gd (0:Int) af x.toNat)/\((0:Int)<=gd (0:Int) af x.toNat->aB ((au v b).fst.vol.layout.data+(au v b).fst.vol.layout.more))/\((0:Int)<=gd (0:Int) af x.toNat->(0:Int)<=gd (0:Int) af x.toNat)/\((0:Int)<=gd (0:Int) af x.toNat->(0:Int)<=gd (0:Int) af x.toNat)/\((0:Int)<=gd (0:Int) af x.toNat->(0:Int)<=gd (0:Int) af x.toNat)/\(gd (0:Int) af x.toNat<(0:Int)\/(au v b).fst.vol.layout.data+(au v b).fst.vol.layout.more<=gd (0:Int) af x.toNat->(ah.mk kj (0:Int) [] [],(3:Int))=bw v b dt)/\((0:Int)<=gd (0:Int) af x.toNat/\gd (0:Int) af x.toNat<(au v b).fst.vol.layout.data+(au v b).fst.vol.layout.more->((0:Int)<=x/\x<=(↑ae.length:Int))/\(List.take x.toNat ae).length<=(1000000:Nat)/\(decide (gd (0:Int) af x.toNat∈List.take x.toNat ae)=true->(ah.mk kj (0:Int) [] [],(6:Int))=bw v b dt)/\(decide (gd (0:Int) af x.toNat∈List.take x.toNat ae)=false->aB (x+(1:Int))/\Cc v (0:Int) af aC (x+(1:Int)) ae aD/\((↑ae.length:Int) - (x+(1:Int))).toNat<((↑ae.length:Int) - x).toNat)))/\((↑af.length:Int)<=x->aD.length<=(1000000:Nat)/\(¬cN aD=(0:Int)->(¬cN aD=(0:Int)->(ah.mk kj (0:Int) [] [],cN aD)=bw v b dt)/\(cN aD=(0:Int)->(uT v b)/\(gd (0:Int) v.versions (au v b).fst.no.toNat=(1000000:Int)->(ah.mk kj (0:Int) [] [],(2:Int))=bw v b dt)/\(¬gd (0:Int) v.versions (au v b).fst.no.toNat=(1000000:Int)->False)))/\(cN aD=(0:Int)->((1:Int)<=(au v b).fst.vol.layout.data/\(au v b).fst.vol.layout.data<=(8:Int)/\(1:Int)<=(au v b).fst.vol.layout.more/\(au v b).fst.vol.layout.more<=(6:Int)/\ae.length<=(100:Nat)/\∀(i:Int),i∈ae->(0:Int)<=i/\i<(au v b).fst.vol.layout.data+(au v b).fst.vol.layout.more)/\True/\(¬(bp (bu (au v b).fst.vol.layout.data (au v b).fst.vol.layout.more ae)).snd=(0:Int)->(¬(bp (bu (au v b).fst.vol.layout.data (au v b).fst.vol.layout.more ae)).snd=(0:Int)->(ah.mk kj (0:Int) [] [],(bp (bu (au v b).fst.vol.layout.data (au v b).fst.vol.layout.more ae)).snd)=bw v b dt)/\((bp (bu (au v b).fst.vol.layout.data (au v b).fst.vol.layout.more ae)).snd=(0:Int)->(uT v b)/\(gd (0:Int) v.versions (au v b).fst.no.toNat=(1000000:Int)->(ah.mk kj (0:Int) [] [],(2:Int))=bw v b dt)/\(¬gd (0:Int) v.versions (au v b).fst.no.toNat=(1000000:Int)->False)))/\((bp (bu (au v b).fst.vol.layout.data (au v b).fst.vol.layout.more ae)).snd=(0:Int)->iK (bp (bu (au v b).fst.vol.layout.data (au v b).fst.vol.layout.more ae)).fst aD/\(uT v b)/\(gd (0:Int) v.versions (au v b).fst.no.toNat=(1000000:Int)->(ah.mk kj (0:Int) [] [],(2:Int))=bw v b dt)/\(¬gd (0:Int) v.versions (au v b).fst.no.toNat=(1000000:Int)->((0:Int)<=(au v b).snd.fst/\(au v b).snd.fst<(↑(bH (bp (bu (au v b).fst.vol.layout.data (au v b).fst.vol.layout.more ae)).fst aD).length:Int))/\(au v b).snd.fst.toNat<(bH (bp (bu (au v b).fst.vol.layout.data (au v b).fst.vol.layout.more ae)).fst aD).length/\((↑((bH (bp (bu (au v b).fst.vol.layout.data (au v b).fst.vol.layout.more ae)).fst aD).set (au v b).snd.fst.toNat dt).length:Int)=(0:Int)->(↑v.versions.length:Int)*(8:Int)<=(140737488355328:Int)/\v.nodes≠[]/\((0:Nat)+v.nodes.length)*(32:Nat)<=(140737488355328:Nat)/\False)/\(¬(↑((bH (bp (bu (au v b).fst.vol.layout.data (au v b).fst.vol.layout.more ae)).fst aD).set (au v b).snd.fst.toNat dt).length:Int)=(0:Int)->((8:Int)<(↑((bH (bp (bu (au v b).fst.vol.layout.data (au v b).fst.vol.layout.more ae)).fst aD).set (au v b).snd.fst.toNat dt).length:Int)->(↑v.versions.length:Int)*(8:Int)<=(140737488355328:Int)/\v.nodes≠[]/\((0:Nat)+v.nodes.length)*(32:Nat)<=(140737488355328:Nat)/\False)/\((↑((bH (bp (bu (au v b).fst.vol.layout.data (au v b).fst.vol.layout.more ae)).fst aD).set (au v b).snd.fst.toNat dt).length:Int)<=(8:Int)->True/\(decide ((1:Int)<=v.layout.more/\v.layout.more<=(6:Int))= !true->(↑v.versions.length:Int)*(8:Int)<=(140737488355328:Int)/\v.nodes≠[]/\((0:Nat)+v.nodes.length)*(32:Nat)<=(140737488355328:Nat)/\False)/\(decide ((1:Int)<=v.layout.more/\v.layout.more<=(6:Int))= !false->((bH (bp (bu (au v b).fst.vol.layout.data (au v b).fst.vol.layout.more ae)).fst aD).set (au v b).snd.fst.toNat dt).length<=(1000000:Nat)/\(¬cN ((bH (bp (bu (au v b).fst.vol.layout.data (au v b).fst.vol.layout.more ae)).fst aD).set (au v b).snd.fst.toNat dt)=(0:Int)->(↑v.versions.length:Int)*(8:Int)<=(140737488355328:Int)/\v.nodes≠[]/\((0:Nat)+v.nodes.length)*(32:Nat)<=(140737488355328:Nat)/\False)/\(cN ((bH (bp (bu (au v b).fst.vol.layout.data (au v b).fst.vol.layout.more ae)).fst aD).set (au v b).snd.fst.toNat dt)=(0:Int)->True/\iK (eD v.layout.more (↑((bH (bp (bu (au v b).fst.vol.layout.data (au v b).fst.vol.layout.more ae)).fst aD).set (au v b).snd.fst.toNat dt).length:Int)).fst ((bH (bp (bu (au v b).fst.vol.layout.data (au v b).fst.vol.layout.more ae)).fst aD).set (au v b).snd.fst.toNat dt)/\(↑v.versions.length:Int)*(8:Int)<=(140737488355328:Int)/\v.nodes≠[]/\((0:Nat)+v.nodes.length)*(32:Nat)<=(140737488355328:Nat)/\Cd v (0:Int) (List.map (fun x=>az.mk x.up (Row.fix Piece x.pieces)) ([]++v.nodes)) []/\∀(x:Int) (aF:List az) (aU:List (Nat×List Piece)),Cd v x aF aU->(x<(↑([]++v.nodes).length:Int)->((0:Int)<=x/\x<(↑aF.length:Int))/\x.toNat<aF.length/\(gd (az.mk false (Row.no Piece)) aF x.toNat).pieces.ok aU/\(gd (az.mk false (Row.no Piece)) aF x.toNat).pieces.kd≠RK.nil/\(↑((gd (az.mk false (Row.no Piece)) aF x.toNat).pieces.get aU).length:Int)*(24:Int)<=(140737488355328:Int)/\((0:Int)<=x/\x<(↑aF.length:Int))/\∀(id:Nat),¬cz aU id->x.toNat<aF.length/\aB (x+(1:Int))/\Cd v (x+(1:Int)) (aF.set x.toNat (az.mk (gd (az.mk false (Row.no Piece)) aF x.toNat).up (Row.at Piece id ((gd (az.mk false (Row.no Piece)) aF x.toNat).pieces.get aU).length))) ((id,(gd (az.mk false (Row.no Piece)) aF x.toNat).pieces.get aU)::aU)/\((↑v.nodes.length:Int) - (x+(1:Int))).toNat<((↑v.nodes.length:Int) - x).toNat)/\((↑([]++v.nodes).length:Int)<=x->(v.layout.K\/(1:Int)<=v.layout.data/\v.layout.data<=(8:Int)/\(1:Int)<=v.layout.more/\v.layout.more<=(6:Int))/\Ce v b (0:Int) (cx.mk (ah.mk v.layout v.size [] []) (au v b).fst.no [],[])/\∀(x:Int) (aE:cx×List Int),Ce v b x aE->(x<v.layout.data+v.layout.more->(v.layout.K/\(0:Int)<=(au v b).fst.no/\(au v b).fst.no<=(100:Int)/\(0:Int)<=x/\x<=(100:Int))/\(aE.snd.length+(1:Nat))*(8:Nat)<=(140737488355328:Nat)/\aB (x+(1:Int))/\Ce v b (x+(1:Int)) (cx.mk (ah.mk aE.fst.vol.layout aE.fst.vol.size [] []) aE.fst.no [],aE.snd++[v.layout.node (au v b).fst.no x])/\(v.layout.data+v.layout.more - (x+(1:Int))).toNat<(v.layout.data+v.layout.more - x).toNat)/\(v.layout.data+v.layout.more<=x->(uT v b)/\(au v b).fst.no.toNat<v.versions.length/\aB (gd (0:Int) v.versions (au v b).fst.no.toNat+(1:Int))/\(uT v b)/\(au v b).fst.no.toNat<v.versions.length/\(((bH (bp (bu (au v b).fst.vol.layout.data (au v b).fst.vol.layout.more ae)).fst aD).set (au v b).snd.fst.toNat dt).length+(bH (eD v.layout.more (↑((bH (bp (bu (au v b).fst.vol.layout.data (au v b).fst.vol.layout.more ae)).fst aD).set (au v b).snd.fst.toNat dt).length:Int)).fst ((bH (bp (bu (au v b).fst.vol.layout.data (au v b).fst.vol.layout.more ae)).fst aD).set (au v b).snd.fst.toNat dt)).length)*(16:Nat)<=(140737488355328:Nat)/\yj v b dt (0:Int) aF aU/\∀(x:Int) (bq:List az) (bO:List (Nat×List Piece)),yj v b dt x bq bO->(x<(↑((bH (bp (bu (au v b).fst.vol.layout.data (au v b).fst.vol.layout.more ae)).fst aD).set (au v b).snd.fst.toNat dt++bH (eD v.layout.more (↑((bH (bp (bu (au v b).fst.vol.layout.data (au v b).fst.vol.layout.more ae)).fst aD).set (au v b).snd.fst.toNat dt).length:Int)).fst ((bH (bp (bu (au v b).fst.vol.layout.data (au v b).fst.vol.layout.more ae)).fst aD).set (au v b).snd.fst.toNat dt)).length:Int)->((0:Int)<=x/\x<(↑((bH (bp (bu (au v b).fst.vol.layout.data (au v b).fst.vol.layout.more ae)).fst aD).set (au v b).snd.fst.toNat dt++bH (eD v.layout.more (↑((bH (bp (bu (au v b).fst.vol.layout.data (au v b).fst.vol.layout.more ae)).fst aD).set (au v b).snd.fst.toNat dt).length:Int)).fst ((bH (bp (bu (au v b).fst.vol.layout.data (au v b).fst.vol.layout.more ae)).fst aD).set (au v b).snd.fst.toNat dt)).length:Int))/\x.toNat<((bH (bp (bu (au v b).fst.vol.layout.data (au v b).fst.vol.layout.more ae)).fst aD).set (au v b).snd.fst.toNat dt++bH (eD v.layout.more (↑((bH (bp (bu (au v b).fst.vol.layout.data (au v b).fst.vol.layout.more ae)).fst aD).set (au v b).snd.fst.toNat dt).length:Int)).fst ((bH (bp (bu (au v b).fst.vol.layout.data (au v b).fst.vol.layout.more ae)).fst aD).set (au v b).snd.fst.toNat dt)).length/\((0:Int)<=x/\x<(↑aE.snd.length:Int))/\x.toNat<aE.snd.length/\((0:Int)<=gd (0:Int) aE.snd x.toNat/\gd (0:Int) aE.snd x.toNat<(↑bq.length:Int))/\(gd (0:Int) aE.snd x.toNat).toNat<bq.length/\((gd (az.mk false (Row.no Piece)) bq (gd (0:Int) aE.snd x.toNat).toNat).up=true->((0:Int)<=x/\x<(↑aE.snd.length:Int))/\x.toNat<aE.snd.length/\((0:Int)<=gd (0:Int) aE.snd x.toNat/\gd (0:Int) aE.snd x.toNat<(↑bq.length:Int))/\(gd (0:Int) aE.snd x.toNat).toNat<bq.length/\(gd (az.mk false (Row.no Piece)) bq (gd (0:Int) aE.snd x.toNat).toNat).pieces.ok bO/\((0:Int)<=aE.fst.no/\aE.fst.no<(↑((gd (az.mk false (Row.no Piece)) bq (gd (0:Int) aE.snd x.toNat).toNat).pieces.get bO).length:Int))/\((0:Int)<=(au v b).fst.no/\(au v b).fst.no<(↑(yl v b).length:Int))/\(au v b).fst.no.toNat<(yl v b).length/\(gd (az.mk false (Row.no Piece)) bq (gd (0:Int) aE.snd x.toNat).toNat).pieces.ok bO/\aE.fst.no.toNat<((gd (az.mk false (Row.no Piece)) bq (gd (0:Int) aE.snd x.toNat).toNat).pieces.get bO).length/\(gd (az.mk false (Row.no Piece)) bq (gd (0:Int) aE.snd x.toNat).toNat).pieces.bF bO/\aE.fst.no.toNat<((gd (az.mk false (Row.no Piece)) bq (gd (0:Int) aE.snd x.toNat).toNat).pieces.get bO).length/\aB (x+(1:Int))/\yj v b dt (x+(1:Int)) bq (((gd (az.mk false (Row.no Piece)) bq (gd (0:Int) aE.snd x.toNat).toNat).pieces.id,((gd (az.mk false (Row.no Piece)) bq (gd (0:Int) aE.snd x.toNat).toNat).pieces.get bO).set aE.fst.no.toNat (Piece.mk (gd (0:Int) (yl v b) (au v b).fst.no.toNat) (gd ByteArray.empty ((bH (bp (bu (au v b).fst.vol.layout.data (au v b).fst.vol.layout.more ae)).fst aD).set (au v b).snd.fst.toNat dt++bH (eD v.layout.more (↑((bH (bp (bu (au v b).fst.vol.layout.data (au v b).fst.vol.layout.more ae)).fst aD).set (au v b).snd.fst.toNat dt).length:Int)).fst ((bH (bp (bu (au v b).fst.vol.layout.data (au v b).fst.vol.layout.more ae)).fst aD).set (au v b).snd.fst.toNat dt)) x.toNat)))::bO)/\(v.layout.data+v.layout.more - (x+(1:Int))).toNat<(v.layout.data+v.layout.more - x).toNat)/\((gd (az.mk false (Row.no Piece)) bq (gd (0:Int) aE.snd x.toNat).toNat).up=false->aB (x+(1:Int))/\yj v b dt (x+(1:Int)) bq bO/\(v.layout.data+v.layout.more - (x+(1:Int))).toNat<(v.layout.data+v.layout.more - x).toNat))/\((↑((bH (bp (bu (au v b).fst.vol.layout.data (au v b).fst.vol.layout.more ae)).fst aD).set (au v b).snd.fst.toNat dt++bH (eD v.layout.more (↑((bH (bp (bu (au v b).fst.vol.layout.data (au v b).fst.vol.layout.more ae)).fst aD).set (au v b).snd.fst.toNat dt).length:Int)).fst ((bH (bp (bu (au v b).fst.vol.layout.data (au v b).fst.vol.layout.more ae)).fst aD).set (au v b).snd.fst.toNat dt)).length:Int)<=x->(∀(x:az),x∈bq->True/\x.pieces.ok bO/\x.pieces.kd≠RK.nil)/\(ah.mk aE.fst.vol.layout aE.fst.vol.size (yl v b) (List.map (fun x=>Shelf.mk x.up (x.pieces.get bO)) bq),(0:Int))=bw v b dt))))))))))))))))))):=by
 delta yl uT rB kj
 by_cases hz:dH v b=0
 case neg=>
  have hP:(au v b).2.2=dH v b:=by unfold au;rw [aeG hz]
  have e1:bw v b dt=(⟨⟨0,0,0,0⟩,0,[],[]⟩,dH v b):=by
   have e:nI v b dt=dH v b:=by unfold nI;rw [aeG hz]
   unfold bw;rw [e,aeG hz]
  simp only [hP]
  (repeat' (first|apply And.intro|intro _))<;>first|(exact absurd ‹dH v b=0› hz)|exact e1.symm|(exact absurd (And.left ‹_/\_›) hz)|trivial|trace_state
 have hP:au v b=(⟨v,b / v.layout.data,jg v.layout (b / v.layout.data)⟩,b%v.layout.data,0):=by unfold au;rw [aeE (by simp [hz])]
 have e0:∀p,(v.at_ (v.layout.node (b / v.layout.data) p) (b / v.layout.data)).data=fh v (b / v.layout.data) p:=fun p=>rfl
 simp only [hP,e0]
 obtain ⟨k,a2,a3,a4,a5,a6,a7⟩:=sZ hz
 have hk:=k.lay
 have kd:=k.lay.d
 have km:=k.lay.m
 have kbd:=k.bd
 have Cf:=dU.mk' k a4 a5
 have bJ:=Cf.len
 have hE:∀e:Int,¬e=0->nI v b dt=e->bw v b dt=(⟨⟨0,0,0,0⟩,0,[],[]⟩,e):=fun e h1 h2=>by unfold bw;rw [h2,aeG h1]
 have E1:¬(dt.size:Int)=v.size->bw v b dt=(⟨⟨0,0,0,0⟩,0,[],[]⟩,1):=fun h=>hE 1 (by decide) (by unfold nI;rw [aeE (by rw [hz];simp),aeG h])
 have E2:(dt.size:Int)=v.size->∀e:Int,¬e=0->(bR v (b / v.layout.data)).2=e->bw v b dt=(⟨⟨0,0,0,0⟩,0,[],[]⟩,e):=fun h e h1 h2=>hE e h1 (by unfold nI;rw [aeE (by rw [hz];simp),aeE (by simp [h]),aeG (by rw [h2];exact h1),h2])
 have E3:(dt.size:Int)=v.size->(bR v (b / v.layout.data)).2=0->gd 0 v.versions (b / v.layout.data).toNat=1000000->bw v b dt=(⟨⟨0,0,0,0⟩,0,[],[]⟩,2):=fun h h1 h2=>hE 2 (by decide) (by unfold nI;rw [aeE (by rw [hz];simp),aeE (by simp [h]),aeE (by simp [h1]),aeG h2])
 have E4:(dt.size:Int)=v.size->(bR v (b / v.layout.data)).2=0->¬gd 0 v.versions (b / v.layout.data).toNat=1000000->bw v b dt=(bY v b dt,0):=fun h h1 h2=>by
  have e:nI v b dt=0:=by unfold nI;rw [aeE (by rw [hz];simp),aeE (by simp [h]),aeE (by simp [h1]),aeE h2]
  unfold bw;rw [e];rfl
 have df:= @NI v (b / v.layout.data)
 have dr:= @NJ v (b / v.layout.data) k
 have NN:(dt.size:Int)=v.size->((bC v (b / v.layout.data)).length:Int)<v.layout.data->bw v b dt=(⟨⟨0,0,0,0⟩,0,[],[]⟩,8):=fun h h1=>E2 h 8 (by decide) (by rw [df h1])
 have NO:(dt.size:Int)=v.size->v.layout.data<=((bC v (b / v.layout.data)).length:Int)->¬cN ((bC v (b / v.layout.data)).map (fh v (b / v.layout.data)))=0->bw v b dt=(⟨⟨0,0,0,0⟩,0,[],[]⟩,cN ((bC v (b / v.layout.data)).map (fh v (b / v.layout.data)))):=fun h h1 h2=>E2 h _ h2 (by rw [(dr h1).2.2.1 h2])
 have NP:(dt.size:Int)=v.size->v.layout.data<=((bC v (b / v.layout.data)).length:Int)->cN ((bC v (b / v.layout.data)).map (fh v (b / v.layout.data)))=0->¬(bp (bu v.layout.data v.layout.more (bC v (b / v.layout.data)))).2=0->bw v b dt=(⟨⟨0,0,0,0⟩,0,[],[]⟩,(bp (bu v.layout.data v.layout.more (bC v (b / v.layout.data)))).2):=fun h h1 h2 h3=>E2 h _ h3 (by rw [(dr h1).2.2.2.1 h2 h3])
 have M0:v.layout.data<=((bC v (b / v.layout.data)).length:Int)->cN ((bC v (b / v.layout.data)).map (fh v (b / v.layout.data)))=0->(bp (bu v.layout.data v.layout.more (bC v (b / v.layout.data)))).2=0->bH (bp (bu v.layout.data v.layout.more (bC v (b / v.layout.data)))).1 ((bC v (b / v.layout.data)).map (fh v (b / v.layout.data)))=(bR v (b / v.layout.data)).1/\(bR v (b / v.layout.data)).2=0/\iK (bp (bu v.layout.data v.layout.more (bC v (b / v.layout.data)))).1 ((bC v (b / v.layout.data)).map (fh v (b / v.layout.data))):=fun h1 h2 h3=>by
  have q:=dr h1
  refine ⟨by rw [q.2.2.2.2 h2 h3],by rw [q.2.2.2.2 h2 h3],Nr kd.1 kd.2 (by rw [aeS]) q.1 h2 h3⟩
 have hdc:= @BR v (b / v.layout.data)
 have hwe:= @NM v b dt hz
 have hwd:(bR v (b / v.layout.data)).1.set (b%v.layout.data).toNat dt=dm v b dt:=rfl
 have hwa:(kS (dm v b dt) v.layout.more).1=bH (eD v.layout.more (dm v b dt).length).1 (dm v b dt)->dm v b dt++bH (eD v.layout.more (dm v b dt).length).1 (dm v b dt)=kZ v b dt:=fun h=>by unfold kZ;rw [h]
 have hem:= @aaL (dm v b dt) v.layout.more
 have hvr:=k.ver _ (eV (d:=(0:Int)) (xs:=v.versions) (i:=(b / v.layout.data).toNat) (by omega))
 have d1:= @fK.start v (b / v.layout.data)
 have d2:= @fK.ct v (b / v.layout.data)
 have d3:= @fK.more v (b / v.layout.data)
 have d4:= @fK.fin v (b / v.layout.data)
 have d5:= @fK.len v (b / v.layout.data)
 have t1:= @fJ.start (v.layout.data+v.layout.more)
 have t2:= @fJ.out (v.layout.data+v.layout.more)
 have t3:= @fJ.Nn (v.layout.data+v.layout.more)
 have t4:= @fJ.step (v.layout.data+v.layout.more)
 have t6:= @fJ.lo (v.layout.data+v.layout.more)
 have atR:∀x,x∈bC v (b / v.layout.data)->0<=x/\x<v.layout.data+v.layout.more:=fun x hx=>by have:=yh x hx;omega
 refine ⟨trivial,fun h=>h,fun h=>h,fun h=>h,fun h=>h,fun h=>h,fun h=>(E1 h.2).symm,fun h0=>⟨fun h=>absurd trivial h,fun _=> ?_⟩⟩
 have hs:(dt.size:Int)=v.size:=h0.resolve_left (fun h=>h trivial)
 refine ⟨⟨hz,d1 hk⟩,fun p at_ P hI=>⟨fun hp=> ?_,fun hp=> ?_⟩⟩
 ·obtain ⟨_,hI⟩:=hI
  have q:=d5 hI hk
  have hlt:p<v.layout.data+v.layout.more:=by rw [<-bJ.1];exact hp
  have q0:=q.2.2.2
  refine ⟨⟨Cf,q0,hlt⟩,fun h=>h,fun h=>h,fun h=>h,fun h=>h,fun h=>h,fun h=>h,fun h=>h,fun h=>⟨by omega,⟨Cf,q0,hlt⟩,by omega,by unfold aB;omega,⟨hz,d3 hI hlt h.1 h.2⟩,by omega⟩,fun h=>⟨by unfold aB;omega,⟨hz,d2 hI hlt h⟩,by omega⟩⟩
 obtain ⟨_,hI⟩:=hI
 obtain ⟨rfl,rfl⟩:=d4 hI (by rw [<-bJ.1];exact hp)
 clear hI hp h0
 have b1:decide (1<=v.layout.data/\v.layout.data<=8)=true:=af3 kd
 have b2:decide (1<=v.layout.more/\v.layout.more<=6)=true:=af3 km
 refine ⟨fun h=>(NN hs h).symm,fun hl=>⟨trivial,fun _=>trivial,fun h=>by rw [b1,b2] at h;simp at h,fun _=>⟨fun h=>absurd (by rw [aeS]) h,fun _=>⟨fun h=>absurd hl (by omega),fun _=>⟨fun h=>absurd h (by have:=(dr hl).1;omega),fun _=>⟨⟨rfl,rfl,t1⟩,fun x x3 x4 hI=> ?_⟩⟩⟩⟩⟩⟩
 obtain ⟨rfl,rfl,hA⟩:=hI
 obtain ⟨q1,q2,r1,r2,r3⟩:=dr hl
 have q0:=t6 hA
 refine ⟨fun hx=>⟨⟨q0,hx⟩,fun h=>h,fun h=>h,fun _=>by unfold aB;omega,fun h=>h,fun h=>h,fun h=>h,fun h=>by have:=t2 hA hx h;rw [q2] at this;simp at this,fun h=>⟨⟨q0,by omega⟩,by rw [afu];omega,fun h2=>by have:=t3 hA hx h.1 h.2 (af1 h2);rw [q2] at this;simp at this,fun h2=>⟨by unfold aB;omega,⟨rfl,rfl,t4 hA hx h.1 h.2 (of_decide_eq_false h2)⟩,by omega⟩⟩⟩,fun hx=> ?_⟩
 refine ⟨by rw [aeS];omega,fun h=>⟨fun _=>(NO hs hl h).symm,fun h2=>absurd h2 h⟩,fun h=> ?_⟩
 refine ⟨⟨kd.1,kd.2,km.1,km.2,by omega,atR⟩,trivial,fun h2=>⟨fun _=>(NP hs hl h h2).symm,fun h3=>absurd h3 h2⟩,fun h2=> ?_⟩
 obtain ⟨m1,m2,m3⟩:=M0 hl h h2
 refine ⟨m3,⟨a4,a5⟩,fun h3=>(E3 hs m2 h3).symm,fun h3=> ?_⟩
 have e4:=E4 hs m2 h3
 obtain ⟨w1,w2,w3,w4⟩:=hwe hs m2
 have iB:=hdc m2
 have w5:=hwa (by rw [w3])
 simp only [m1,hwd,w5]
 clear hA E1 E2 NN NO NP E3 E4 M0 hE dr df t1 t2 t3 t4 t6 d1 d2 d3 d4 d5 r1 r2 r3 hx
 refine ⟨⟨a6,by omega⟩,by omega,fun h4=>by omega,fun _=>⟨fun h4=>by omega,fun _=>⟨trivial,fun h4=>by rw [b2] at h4;simp at h4,fun _=>⟨by omega,fun h4=>absurd w2 h4,fun _=>⟨trivial,hem (by omega) (by omega) km.1 km.2 w2,by omega,kbd.1,by omega, ?_,fun x x5 x6 hO=>⟨fun hx=> ?_,fun hx=> ?_⟩⟩⟩⟩⟩⟩
 ·exact dg.start
 ·have hx:x<(v.nodes.length:Int):=hx
  obtain ⟨o1,o2,o3,o4⟩:=hO.rw k hx
  have o5:=hO.lo
  have o6:=hO.len
  have st:=fun id hid=>hO.step (id:=id) hx hid rfl
  rw [<-o3] at o4 st
  exact ⟨⟨o5,by omega⟩,by omega,o1,o2,by omega,⟨o5,by omega⟩,fun id hid=>⟨by omega,by unfold aB;omega,st id hid,by omega⟩⟩
 have hx:(v.nodes.length:Int)<=x:=hx
 refine ⟨.inl hk,⟨rfl,rfl,rfl,jf.start (by omega)⟩,fun p Z hZ=>⟨fun hp=> ?_,fun hp=> ?_⟩⟩
 ·obtain ⟨z1,z2,z3,hU⟩:=hZ
  have u3:=hU.len
  have u4:=hU.lo
  have u2:=hU.step hp
  have u6:kf v.layout (b / v.layout.data) p.toNat=v.layout.node (b / v.layout.data) p:=by unfold kf;rw [show ((p.toNat:Nat):Int)=p by omega]
  rw [u6] at u2
  exact ⟨⟨hk,a4,by omega,u4,by omega⟩,by omega,by unfold aB;omega,⟨z1,z2,z3,u2⟩,by omega⟩
 obtain ⟨z1,z2,z3,hU⟩:=hZ
 have hZ2:Z.2=jg v.layout (b / v.layout.data):=hU.fin hp
 have w6:(dm v b dt).length+(bH (eD v.layout.more (dm v b dt).length).1 (dm v b dt)).length=(kZ v b dt).length:=by rw [<-w5,afK]
 have lh:((jg v.layout (b / v.layout.data)).length:Int)=v.layout.data+v.layout.more:=bJ.1
 have ev:gd 0 (v.versions.set (b / v.layout.data).toNat (gd 0 v.versions (b / v.layout.data).toNat+1)) (b / v.layout.data).toNat=gd 0 v.versions (b / v.layout.data).toNat+1:=by rw [fv (by omega),aeG rfl]
 simp only [z1,z2,z3,hZ2,ev,e4,ae4]
 refine ⟨⟨a4,a5⟩,by omega,by unfold aB;omega,⟨a4,a5⟩,by omega,by rw [w6];omega,jG.start k hO hx a4 a5,fun p K A hW=>⟨fun hp=> ?_,fun hp=> ?_⟩⟩
 ·have hW:jG v (b / v.layout.data) (gd 0 v.versions (b / v.layout.data).toNat+1) (kZ v b dt) p K A:=hW
  have p0:=hW.k0
  have p1:p<v.layout.data+v.layout.more:=by omega
  have ea:gd 0 (jg v.layout (b / v.layout.data)) p.toNat=v.layout.node (b / v.layout.data) p:=Cf.at_ p0 p1
  simp only [ea]
  obtain ⟨g1,g2,g3,g4,g5,g6,g7⟩:=hW.row
  have NQ:=hW.step p1
  have acB:=hW.down p1
  simp only [lS] at g4 g5 g6 g7 NQ
  exact ⟨⟨p0,by omega⟩,by omega,⟨p0,by omega⟩,by omega,⟨g1,g2⟩,by omega,fun up=>⟨⟨p0,by omega⟩,by omega,⟨g1,g2⟩,by omega,g5,⟨a4,by rw [g7];exact a5⟩,⟨a4,a5⟩,by omega,g5,by rw [g7];omega,g4,by rw [g7];omega,by unfold aB;omega,NQ up,by omega⟩,fun up=>⟨by unfold aB;omega,acB up,by omega⟩⟩
 ·have hW:jG v (b / v.layout.data) (gd 0 v.versions (b / v.layout.data).toNat+1) (kZ v b dt) p K A:=hW
  obtain ⟨f1,f2⟩:=hW.done (by omega) (vs:=v.versions.set (b / v.layout.data).toNat (gd 0 v.versions (b / v.layout.data).toNat+1))
  exact ⟨f1,Prod.ext f2 rfl⟩
noncomputable def NS:PD Tc.dn yk.ps->List (IL Tc Tc.dn):=fun x=>(fun (v:ah) (b:Int) (dt:ByteArray)=>([⟨18, .fn I9 (fun k=>bif Nat.beq k 0 then some (.inv [.sl 10 .aA, .ow 4 .aA, .ow 5 .fZ] (fun zo zv=>(fun (p:Int) (at_:(List Int)) (P:(List ByteArray))=>yi v b p at_ P) zv.1 zv.2.1 zv.2.2.1) (fun zo zv=>(fun (p:Int) (at_:(List Int)) (P:(List ByteArray))=>((v.layout.data+v.layout.more) - p).toNat) zv.1 zv.2.1 zv.2.2.1)) else none),none⟩,⟨44, .fn Jn (fun k=>bif Nat.beq k 0 then some (.inv [.sl 40 .aA, .sl 2 .j6, .sl 3 .jB] (fun zo zv=>(fun (i0:Int) (a0:(List Int)) (P0:(List ByteArray)) (i:Int) (a:(List Int)) (P:(List ByteArray))=>Cc v i0 a0 P0 i a P) zo.1 zo.2.1 zo.2.2.1 zv.1 zv.2.1 zv.2.2.1) (fun zo zv=>(fun (i0:Int) (a0:(List Int)) (P0:(List ByteArray)) (i:Int) (a:(List Int)) (P:(List ByteArray))=>((a.length:Int) - i).toNat) zo.1 zo.2.1 zo.2.2.1 zv.1 zv.2.1 zv.2.2.1)) else bif Nat.beq k 1016 then some (.ix [2,3]) else none),none⟩,⟨19, .fn Jc (fun _=>none),none⟩,⟨21, .fn zk (fun k=>bif Nat.beq k 0 then some (.inv [.sl 15 .aA, .bl 13 .gX, .ar .fc] (fun zo zv=>(fun (i:Int) (K:(List az)) (A:(List (Nat×List Piece)))=>Cd v i K A) zv.1 zv.2.1 zv.2.2.1) (fun zo zv=>(fun (i:Int) (K:(List az)) (A:(List (Nat×List Piece)))=>((v.nodes.length:Int) - i).toNat) zv.1 zv.2.1 zv.2.2.1)) else none),none⟩,⟨51, .fn zl (fun _=>none),none⟩,⟨20, .fn Jd (fun k=>bif Nat.beq k 0 then some (.inv [.sl 13 .aA, .sg 16 8 .aA .kQ [(5, .aA,11,1),(6, .lH,13,2)]] (fun zo zv=>(fun (p:Int) (Z:(cx×List Int))=>Ce v b p Z) zv.1 zv.2.1) (fun zo zv=>(fun (p:Int) (Z:(cx×List Int))=>(v.layout.data+v.layout.more - p).toNat) zv.1 zv.2.1)) else none),none⟩,⟨22, .fn Jg (fun _=>none),none⟩])) x.1 x.2.1 x.2.2.1
theorem acC:∀x,oz Try.prog tD (NS x):=fun _=>⟨⟨Ja,Jb⟩,⟨Jo,Jp⟩,⟨SF,SG⟩,⟨DH,DI⟩,⟨DK,DL⟩,⟨Je,Jf⟩,⟨Jh,Ji⟩,trivial⟩
theorem NT:yk.Ok Try.prog tD:=bV cQ (Δ:=[BU,x9,x8,Bw,Bv,Bx,xY,xV,Br,sU,xD]) ⟨Nz,GX,GW,(Na.two rfl rfl rfl),(M9.two rfl rfl rfl),(Nb.two rfl rfl rfl),(Nt.two rfl rfl rfl),(Nk.two rfl rfl rfl),(M6.two rfl rfl rfl),xB,Gi,trivial⟩ (Ω:=[G5,BW,BX]) ⟨acd,G1,G2,trivial⟩ yk R8 R9 (NS) (acC) 4 (fun x=>(fun (v:ah) (b:Int) (dt:ByteArray)=>(fun k=>bif Nat.beq k 0 then some (.inv [.sl 86 .aA, .bl 13 .gX, .ar .fc] (fun zo zv=>(fun (p:Int) (K:(List az)) (A:(List (Nat×List Piece)))=>yj v b dt p K A) zv.1 zv.2.1 zv.2.2.1) (fun zo zv=>(fun (p:Int) (K:(List az)) (A:(List (Nat×List Piece)))=>(v.layout.data+v.layout.more - p).toNat) zv.1 zv.2.1 zv.2.2.1)) else bif Nat.beq k 11068 then some (.AW 20) else bif Nat.beq k 11102 then some (.AW 22) else none)) x.1 x.2.1 x.2.2.1) fun x hp=>Eq.mp (by kernel_rfl) (acs x.1 x.2.1 x.2.2.1)
theorem acD {d:Int} (h:0<=d/\n<18446744073709551616):((n:Int)).fdiv (2^(min (Int.toNat d) IntKind.u64.bits))=((n / 2^Int.toNat d:Nat):Int):=by
 have hb:IntKind.u64.bits=64:=rfl
 rw [hb,Int.fdiv_eq_ediv_of_nonneg _ (Int.le_of_lt (Int.pow_pos (by decide)))]
 by_cases h2:Int.toNat d<=64
 ·rw [agp h2,show ((2:Int)^(Int.toNat d))=((2^(Int.toNat d):Nat):Int) by push_cast;rfl];rfl
 ·have hp:2^64<=2^Int.toNat d:=Nat.pow_le_pow_right (by decide) (by omega)
  rw [Nat.min_eq_right (by omega),Nat.div_eq_of_lt (ae7 h.2 (by simpa using hp))]
  show (n:Int) / 18446744073709551616=0
  omega
theorem acE {x k:Nat}:((((x / 2^k:Nat):Int)%2==1):Bool)=(x / 2^k%2==1):=by
 generalize x / 2^k=q
 rw [af8];simp;omega
section
variable (k:Int) (x:cY)
abbrev G7:LS:=[(6,VI k),(5, .v (.int .u64 (x.n:Int))),(0, .v (.int .u64 (x.n:Int))),(1,VI k)]
abbrev acF:LS:=(7, .v (.int .u64 ((x.n / 2^Int.toNat k:Nat):Int)))::(G7 k x)
end
theorem acG (x:cY) (k:Int) (o7:0<=k):Fn Try.prog 15 [.v (.int .u64 (x.n:Int)),VI k] (.v (.bool (x.n / 2^Int.toNat k%2==1))):=by
 refine VN Sw ?_
 refine DY 1 [0,1] ⟨[(0, .v (.int .u64 (x.n:Int))),(1,VI k)],[]⟩ ?_
 refine DZ 2 ⟨(G7 k x),[]⟩ ?_
 refine zx ⟨(7, .v (.int .u64 (((x.n:Int)).fdiv (2^(min (Int.toNat k) IntKind.u64.bits)))))::(G7 k x),[]⟩ (QV (.s 5) (.s 6) .u64 .i64 (x.n:Int) k (by kernel_rfl) (by kernel_rfl) (by kernel_rfl) (by kernel_rfl) (by omega)) ?_
 have e1:((x.n:Int)).fdiv (2^(min (Int.toNat k) IntKind.u64.bits))=((x.n / 2^Int.toNat k:Nat):Int):=acD (by exact ⟨o7,x.lt⟩)
 rw [e1]
 refine VG 3 ⟨(4, .v (.bool (((((x.n / 2^Int.toNat k:Nat):Int)).tmod 2)==1)))::(9, .v (.bool (((((x.n / 2^Int.toNat k:Nat):Int)).tmod 2)==1)))::(8, .v (.int .u64 ((((x.n / 2^Int.toNat k:Nat):Int)).tmod 2)))::(acF k x),[]⟩ ?_
 have e2:(((x.n / 2^Int.toNat k:Nat):Int)).tmod 2=((x.n / 2^Int.toNat k:Nat):Int)%2:=Ra (by generalize x.n / 2^Int.toNat k=q;omega)
 rw [e2]
 refine zw 0 [4] ⟨[(4, .v (.bool ((((x.n / 2^Int.toNat k:Nat):Int)%2)==1)))],[]⟩ ?_
 refine EL.ret ?_
 refine VM (.v (.bool ((((x.n / 2^Int.toNat k:Nat):Int)%2)==1))) ?_
 focus (exact afD (fun b=>AV.v (Value.bool b)) acE)
open Go.RowKit
def ym (x k:Nat):Bool:=x / 2^k%2==1
def bsize:Nat->Nat->Nat
 |0,_=>0
 |k+1,x=>x%2+bsize k (x / 2)
def dI (x:Nat):Nat:=bsize 64 x
def NU:bj Tc Tc.dn:=⟨15,[.ty .nC, .ty .aA],fun x=>(0:Int)<=x.2.1,[.eC],fun x=>ym x.1.n x.2.1.toNat⟩
theorem acH:NU.Ok Try.prog tD:=⟨Sx,fun x N h=>acG x.1 x.2.1 h⟩
theorem acI {x:Nat} {i:Int} (h:0<=i/\i<64):bsize (64 - i).toNat (x / 2^i.toNat)=(if ym x i.toNat=true then 1 else 0)+bsize (64 - (i+1)).toNat (x / 2^(i+1).toNat):=by
 obtain ⟨k,hk⟩:∃k:Nat,(64 - i).toNat=k+1:=⟨(64 - i).toNat - 1,by omega⟩
 have e2:x / 2^i.toNat / 2=x / 2^(i+1).toNat:=by rw [show (i+1).toNat=i.toNat+1 by omega,Nat.div_div_eq_div_mul,Nat.pow_succ]
 rw [hk,show (64 - (i+1)).toNat=k by omega]
 simp only [bsize]
 rw [e2]
 unfold ym
 rcases Nat.mod_two_eq_zero_or_one (x / 2^i.toNat) with h|h<;>rw [h]<;>simp
structure gz {α:Type} (d:α) (a b:List α) (i:Int):Prop where
 lo:0<=i
 hi:i<=a.length
 len:a.length=b.length
 eq:∀j:Nat,j<i.toNat->gd d a j=gd d b j
theorem gz.start {α:Type} {d:α} {a b:List α} (h:(a.length:Int)=b.length):gz d a b 0:=⟨by omega,by omega,by omega,fun j hj=>by simp at hj⟩
theorem gz.step {α:Type} {d:α} {a b:List α} {i:Int} (h:gz d a b i) (hi:i<a.length) (e:gd d a i.toNat=gd d b i.toNat):gz d a b (i+1):=by
 have h0:=h.lo
 refine ⟨by omega,by omega,h.len,fun j hj=> ?_⟩
 by_cases e2:j=i.toNat
 ·rw [e2];exact e
 ·exact h.eq j (by omega)
theorem gz.fin {α:Type} {d:α} {a b:List α} {i:Int} (h:gz d a b i) (hi:a.length<=i):a=b:=B9 (d:=d) h.len fun j hj=>h.eq j (by omega)
theorem NV (a b:ah):a=b↔a.layout=b.layout/\a.size=b.size/\a.versions=b.versions/\a.nodes=b.nodes:=by
 constructor
 ·rintro rfl;exact ⟨rfl,rfl,rfl,rfl⟩
 ·intro ⟨h1,h2,h3,h4⟩;cases a;cases b;simp at h1 h2 h3 h4;subst h1;subst h2;subst h3;subst h4;rfl
theorem NW (a b:aO):a=b↔a.nodes=b.nodes/\a.data=b.data/\a.more=b.more/\a.bU=b.bU:=by
 constructor
 ·rintro rfl;exact ⟨rfl,rfl,rfl,rfl⟩
 ·intro ⟨h1,h2,h3,h4⟩;cases a;cases b;simp at h1 h2 h3 h4;subst h1;subst h2;subst h3;subst h4;rfl
theorem NX (a b:Shelf):a=b↔a.up=b.up/\a.pieces=b.pieces:=by
 constructor
 ·rintro rfl;exact ⟨rfl,rfl⟩
 ·intro ⟨h1,h2⟩;cases a;cases b;simp at h1 h2;subst h1;subst h2;rfl
theorem NY (a b:Piece):a=b↔a.version=b.version/\a.data=b.data:=by
 constructor
 ·rintro rfl;exact ⟨rfl,rfl⟩
 ·intro ⟨h1,h2⟩;cases a;cases b;simp at h1 h2;subst h1;subst h2;rfl
instance:DecidableEq aO:=fun a b=>decidable_of_iff _ (NW a b).symm
instance:DecidableEq Piece:=fun a b=>decidable_of_iff _ (NY a b).symm
instance:DecidableEq Shelf:=fun a b=>decidable_of_iff _ (NX a b).symm
instance:DecidableEq ah:=fun a b=>decidable_of_iff _ (NV a b).symm
structure jh (a b:ah) (n s:Int):Prop where
 o:gz (⟨false,[]⟩:Shelf) a.nodes b.nodes n
 lt:n<a.nodes.length
 u:(gd (⟨false,[]⟩:Shelf) a.nodes n.toNat).up=(gd (⟨false,[]⟩:Shelf) b.nodes n.toNat).up
 r:gz (⟨0,ByteArray.empty⟩:Piece) (gd (⟨false,[]⟩:Shelf) a.nodes n.toNat).pieces (gd (⟨false,[]⟩:Shelf) b.nodes n.toNat).pieces s
theorem jh.fin {a b:ah} {n s:Int} (h:jh a b n s) (hs:((gd (⟨false,[]⟩:Shelf) a.nodes n.toNat).pieces.length:Int)<=s):gz (⟨false,[]⟩:Shelf) a.nodes b.nodes (n+1):=h.o.step h.lt ((NX _ _).2 ⟨h.u,h.r.fin hs⟩)
theorem jh.step {a b:ah} {n s:Int} (h:jh a b n s) (hs:s<((gd (⟨false,[]⟩:Shelf) a.nodes n.toNat).pieces.length:Int)) (e:gd (⟨0,ByteArray.empty⟩:Piece) (gd (⟨false,[]⟩:Shelf) a.nodes n.toNat).pieces s.toNat=gd (⟨0,ByteArray.empty⟩:Piece) (gd (⟨false,[]⟩:Shelf) b.nodes n.toNat).pieces s.toNat):jh a b n (s+1):=⟨h.o,h.lt,h.u,h.r.step hs e⟩
theorem jh.lo {a b:ah} {n s:Int} (h:jh a b n s):0<=n/\0<=s/\a.nodes.length=b.nodes.length/\(gd (⟨false,[]⟩:Shelf) a.nodes n.toNat).pieces.length=(gd (⟨false,[]⟩:Shelf) b.nodes n.toNat).pieces.length:=⟨h.o.lo,h.r.lo,h.o.len,h.r.len⟩
theorem jh.bd {a b:ah} {n s:Int} (h:jh a b n s):n<a.nodes.length:=h.lt
theorem jh.start {a b:ah} {n:Int} (h:gz (⟨false,[]⟩:Shelf) a.nodes b.nodes n) (hn:n<a.nodes.length) (hu:(gd (⟨false,[]⟩:Shelf) a.nodes n.toNat).up=(gd (⟨false,[]⟩:Shelf) b.nodes n.toNat).up) (hl:((gd (⟨false,[]⟩:Shelf) a.nodes n.toNat).pieces.length:Int)=(gd (⟨false,[]⟩:Shelf) b.nodes n.toNat).pieces.length):jh a b n 0:=⟨h,hn,hu, .start hl⟩
structure ah.sm (v:ah):Prop where
 vs:v.versions.length<=1000000
 ns:v.nodes.length<=1000000
 ps:∀x,x∈v.nodes->x.pieces.length<=1000000
def G8:bj Tc Tc.dn:=⟨24,[],fun _=>True,[.j5],fun _=>⟨5,2,2,1⟩⟩
theorem acJ  :aO.mk (5:Int) (2:Int) (2:Int) (1:Int)=aO.mk (5:Int) (2:Int) (2:Int) (1:Int):=by
 (repeat' (first|apply And.intro|intro _))<;>first|assumption|trivial|omega|(grind [])|trace_state
theorem acK:G8.Ok Try.prog tD:=bV cQ (Δ:=[]) trivial (Ω:=[]) trivial G8 SL SM (fun _=>[]) (fun _=>trivial) 0 (fun _=>fun _=>none) fun x hp=>Eq.mp (by kernel_rfl) (acJ )
def uU (x:cY) (i:Int) (n:Int):Prop:=0<=i/\i<=64/\0<=n/\n<=i/\n+bsize (64 - i).toNat (x.n / 2^i.toNat)=dI x.n
def G9:bj Tc Tc.dn:=⟨13,[.ty .nC],fun x=>(fun (x:cY)=>True) x.1,[.aA],fun x=>(fun (x:cY)=>(dI x.n:Int)) x.1⟩
theorem acL (x:cY):uU x (0:Int) (0:Int)/\∀(af aC:Int),uU x af aC->(af<(64:Int)->(0:Int)<=af/\(ym x.n af.toNat=true->aB (aC+(1:Int))/\aB (af+(1:Int))/\uU x (af+(1:Int)) (aC+(1:Int))/\((64:Int) - (af+(1:Int))).toNat<((64:Int) - af).toNat)/\(ym x.n af.toNat=false->aB (af+(1:Int))/\uU x (af+(1:Int)) aC/\((64:Int) - (af+(1:Int))).toNat<((64:Int) - af).toNat))/\((64:Int)<=af->aC=(↑(dI x.n):Int)):=by
 have hz:x.n / 2^(0:Int).toNat=x.n:=by simp
 have h0:∀(i:Int) (y:Nat),64<=i->bsize (64 - i).toNat y=0:=fun i y h=>by rw [show (64 - i).toNat=0 by omega];rfl
 have hu:= @acI x.n
 have hs:bsize (64 - 0:Int).toNat x.n=dI x.n:=rfl
 (repeat' (first|apply And.intro|intro _))<;>first|omega|grind [uU,aB]|trace_state
theorem acM:G9.Ok Try.prog tD:=bV cQ (Δ:=[NU]) ⟨acH,trivial⟩ (Ω:=[]) trivial G9 Sq Sr (fun _=>[]) (fun _=>trivial) 0 (fun x=>(fun (x:cY)=>(fun k=>bif Nat.beq k 0 then some (.inv [.sl 4 .aA, .sl 3 .aA] (fun zo zv=>(fun (i:Int) (n:Int)=>uU x i n) zv.1 zv.2.1) (fun zo zv=>(fun (i:Int) (n:Int)=>(64 - i).toNat) zv.1 zv.2.1)) else none)) x.1) fun x hp=>Eq.mp (by kernel_rfl) (acL x.1)
def yn (a:(List Int)) (b:(List Int)) (i:Int):Prop:=gz 0 a b i
def Ha:bj Tc Tc.dn:=⟨25,[.ty .j6, .ty .j6],fun x=>(fun (a:(List Int)) (b:(List Int))=>a.length<=1000000) x.1 x.2.1,[.eC],fun x=>(fun (a:(List Int)) (b:(List Int))=>decide (a=b)) x.1 x.2.1⟩
theorem acN (a:(List Int)) (b:(List Int)) (hp:a.length<=1000000):(¬(↑a.length:Int)=(↑b.length:Int)->false=decide (a=b))/\((↑a.length:Int)=(↑b.length:Int)->yn a b (0:Int)/\∀(x:Int),yn a b x->(x<(↑a.length:Int)->((0:Int)<=x/\x<(↑a.length:Int))/\((0:Int)<=x/\x<(↑b.length:Int))/\(¬gd (0:Int) a x.toNat=gd (0:Int) b x.toNat->false=decide (a=b))/\(gd (0:Int) a x.toNat=gd (0:Int) b x.toNat->aB (x+(1:Int))/\yn a b (x+(1:Int))/\((↑a.length:Int) - (x+(1:Int))).toNat<((↑a.length:Int) - x).toNat))/\((↑a.length:Int)<=x->true=decide (a=b))):=by
 have h1:= @gz.start Int 0 a b
 have h2:= @gz.step Int 0 a b
 have h3:= @gz.fin Int 0 a b
 have h6:= @gz.lo Int 0 a b
 have h7:= @gz.len Int 0 a b
 (repeat' (first|apply And.intro|intro _))<;>first|assumption|trivial|omega|(grind [yn,aB])|trace_state
theorem acO:Ha.Ok Try.prog tD:=bV cQ (Δ:=[]) trivial (Ω:=[]) trivial Ha SO SP (fun _=>[]) (fun _=>trivial) 0 (fun x=>(fun (a:(List Int)) (b:(List Int))=>(fun k=>bif Nat.beq k 0 then some (.inv [.sl 5 .aA] (fun zo zv=>(fun (i:Int)=>yn a b i) zv.1) (fun zo zv=>(fun (i:Int)=>((a.length:Int) - i).toNat) zv.1)) else none)) x.1 x.2.1) fun x hp=>Eq.mp (by kernel_rfl) (acN x.1 x.2.1 hp)
def yp (a:ah) (b:ah) (s0:Int) (n0:Int) (s:Int) (n:Int):Prop:=n=n0/\a.layout=b.layout/\a.size=b.size/\a.versions=b.versions/\jh a b n s
def yq (a:ah) (b:ah) (n:Int):Prop:=a.layout=b.layout/\a.size=b.size/\a.versions=b.versions/\gz (⟨false,[]⟩:Shelf) a.nodes b.nodes n
def Hc:bj Tc Tc.dn:=⟨8,[.ty .ff, .ty .ff],fun x=>(fun (a:ah) (b:ah)=>a.sm) x.1 x.2.1,[.eC],fun x=>(fun (a:ah) (b:ah)=>decide (a=b)) x.1 x.2.1⟩
abbrev ji (a:ah) (b:ah):=(a.layout.nodes=b.layout.nodes/\a.layout.data=b.layout.data/\a.layout.more=b.layout.more/\a.layout.bU=b.layout.bU)
abbrev uV (a:ah) (b:ah):=(a.layout.nodes=b.layout.nodes/\a.layout.data=b.layout.data/\a.layout.more=b.layout.more/\a.layout.bU=b.layout.bU->a.layout.nodes=b.layout.nodes/\a.layout.data=b.layout.data/\a.layout.more=b.layout.more/\a.layout.bU=b.layout.bU)
abbrev rC (a:ah) (b:ah):=(((ji a b)/\a.size=b.size)/\decide (a.versions=b.versions)= !false->((ji a b)/\a.size=b.size)/\decide (a.versions=b.versions)= !false)
theorem acP (a:ah) (b:ah) (hp:a.sm):(uV a b)/\(uV a b)/\(uV a b)/\(uV a b)/\(uV a b)/\((ji a b)/\a.size=b.size->(ji a b)/\a.size=b.size)/\((ji a b)/\a.size=b.size->(ji a b)/\a.size=b.size)/\((ji a b)/\a.size=b.size->(ji a b)/\a.size=b.size)/\((ji a b)/\a.size=b.size->(ji a b)/\a.size=b.size)/\((ji a b)/\a.size=b.size->a.versions.length<=(1000000:Nat))/\((ji a b)/\a.size=b.size->(ji a b)/\a.size=b.size)/\((ji a b)/\a.size=b.size->(ji a b)/\a.size=b.size)/\(rC a b)/\(rC a b)/\(rC a b)/\(rC a b)/\(rC a b)/\(rC a b)/\(rC a b)/\((((¬a.layout.nodes=b.layout.nodes\/¬a.layout.data=b.layout.data\/¬a.layout.more=b.layout.more\/¬a.layout.bU=b.layout.bU)\/¬a.size=b.size)\/decide (a.versions=b.versions)= !true)\/¬(↑a.nodes.length:Int)=(↑b.nodes.length:Int)->false=decide (a=b))/\((((ji a b)/\a.size=b.size)/\decide (a.versions=b.versions)= !false)/\(↑a.nodes.length:Int)=(↑b.nodes.length:Int)->yq a b (0:Int)/\∀(x:Int),yq a b x->(x<(↑a.nodes.length:Int)->((0:Int)<=x/\x<(↑a.nodes.length:Int))/\((0:Int)<=x/\x<(↑b.nodes.length:Int))/\((gd (Shelf.mk false []) a.nodes x.toNat).up=(gd (Shelf.mk false []) b.nodes x.toNat).up->(gd (Shelf.mk false []) a.nodes x.toNat).up=(gd (Shelf.mk false []) b.nodes x.toNat).up)/\((gd (Shelf.mk false []) a.nodes x.toNat).up=(gd (Shelf.mk false []) b.nodes x.toNat).up->(gd (Shelf.mk false []) a.nodes x.toNat).up=(gd (Shelf.mk false []) b.nodes x.toNat).up)/\((gd (Shelf.mk false []) a.nodes x.toNat).up=(gd (Shelf.mk false []) b.nodes x.toNat).up->(gd (Shelf.mk false []) a.nodes x.toNat).up=(gd (Shelf.mk false []) b.nodes x.toNat).up)/\((gd (Shelf.mk false []) a.nodes x.toNat).up=(gd (Shelf.mk false []) b.nodes x.toNat).up->(gd (Shelf.mk false []) a.nodes x.toNat).up=(gd (Shelf.mk false []) b.nodes x.toNat).up)/\((gd (Shelf.mk false []) a.nodes x.toNat).up=(gd (Shelf.mk false []) b.nodes x.toNat).up->(gd (Shelf.mk false []) a.nodes x.toNat).up=(gd (Shelf.mk false []) b.nodes x.toNat).up)/\((gd (Shelf.mk false []) a.nodes x.toNat).up=(gd (Shelf.mk false []) b.nodes x.toNat).up->(gd (Shelf.mk false []) a.nodes x.toNat).up=(gd (Shelf.mk false []) b.nodes x.toNat).up)/\((gd (Shelf.mk false []) a.nodes x.toNat).up=(gd (Shelf.mk false []) b.nodes x.toNat).up->(gd (Shelf.mk false []) a.nodes x.toNat).up=(gd (Shelf.mk false []) b.nodes x.toNat).up)/\(¬(gd (Shelf.mk false []) a.nodes x.toNat).up=(gd (Shelf.mk false []) b.nodes x.toNat).up\/¬(↑(gd (Shelf.mk false []) a.nodes x.toNat).pieces.length:Int)=(↑(gd (Shelf.mk false []) b.nodes x.toNat).pieces.length:Int)->false=decide (a=b))/\((gd (Shelf.mk false []) a.nodes x.toNat).up=(gd (Shelf.mk false []) b.nodes x.toNat).up/\(↑(gd (Shelf.mk false []) a.nodes x.toNat).pieces.length:Int)=(↑(gd (Shelf.mk false []) b.nodes x.toNat).pieces.length:Int)->yp a b (0:Int) x (0:Int) x/\∀(af aC:Int),yp a b (0:Int) x af aC->(af<(↑(gd (Shelf.mk false []) a.nodes x.toNat).pieces.length:Int)->((0:Int)<=af/\af<(↑(gd (Shelf.mk false []) a.nodes x.toNat).pieces.length:Int))/\((0:Int)<=af/\af<(↑(gd (Shelf.mk false []) b.nodes x.toNat).pieces.length:Int))/\(¬(gd (Piece.mk (0:Int) ByteArray.empty) (gd (Shelf.mk false []) a.nodes x.toNat).pieces af.toNat).version=(gd (Piece.mk (0:Int) ByteArray.empty) (gd (Shelf.mk false []) b.nodes x.toNat).pieces af.toNat).version\/¬(gd (Piece.mk (0:Int) ByteArray.empty) (gd (Shelf.mk false []) a.nodes x.toNat).pieces af.toNat).data=(gd (Piece.mk (0:Int) ByteArray.empty) (gd (Shelf.mk false []) b.nodes x.toNat).pieces af.toNat).data->false=decide (a=b))/\((gd (Piece.mk (0:Int) ByteArray.empty) (gd (Shelf.mk false []) a.nodes x.toNat).pieces af.toNat).version=(gd (Piece.mk (0:Int) ByteArray.empty) (gd (Shelf.mk false []) b.nodes x.toNat).pieces af.toNat).version/\(gd (Piece.mk (0:Int) ByteArray.empty) (gd (Shelf.mk false []) a.nodes x.toNat).pieces af.toNat).data=(gd (Piece.mk (0:Int) ByteArray.empty) (gd (Shelf.mk false []) b.nodes x.toNat).pieces af.toNat).data->aB (af+(1:Int))/\yp a b (0:Int) x (af+(1:Int)) aC/\((↑(gd (Shelf.mk false []) a.nodes aC.toNat).pieces.length:Int) - (af+(1:Int))).toNat<((↑(gd (Shelf.mk false []) a.nodes aC.toNat).pieces.length:Int) - af).toNat))/\((↑(gd (Shelf.mk false []) a.nodes x.toNat).pieces.length:Int)<=af->aB (aC+(1:Int))/\yq a b (aC+(1:Int))/\((↑a.nodes.length:Int) - (aC+(1:Int))).toNat<((↑a.nodes.length:Int) - x).toNat)))/\((↑a.nodes.length:Int)<=x->true=decide (a=b))):=by
 delta rC uV ji
 have h1:= @gz.start Shelf (⟨false,[]⟩:Shelf) a.nodes b.nodes
 have h3:= @gz.fin Shelf (⟨false,[]⟩:Shelf) a.nodes b.nodes
 have h4:= @gz.lo Shelf (⟨false,[]⟩:Shelf) a.nodes b.nodes
 have h5:= @gz.len Shelf (⟨false,[]⟩:Shelf) a.nodes b.nodes
 have r1:= @jh.start a b
 have r2:= @jh.fin a b
 have r3:= @jh.step a b
 have r4:= @jh.lo a b
 have r5:= @jh.bd a b
 have e1:=NV a b
 have e2:=NW a.layout b.layout
 have e3:= @NY
 have k1:∀i:Int,0<=i->i<(a.nodes.length:Int)->(gd (⟨false,[]⟩:Shelf) a.nodes i.toNat).pieces.length<=1000000:=fun i q1 q2=>hp.ps _ (eV (by omega))
 obtain ⟨p1,p2,p3⟩:=hp
 have m1:= @rf
 (try simp only [afw,afC,aff,ae3])
 (repeat' (first|apply And.intro|intro _))<;>first|assumption|trivial|omega|(grind [yp,yq,aB])|trace_state
theorem acQ:Hc.Ok Try.prog tD:=bV cQ (Δ:=[Ha]) ⟨acO,trivial⟩ (Ω:=[]) trivial Hc Sc Sd (fun _=>[]) (fun _=>trivial) 0 (fun x=>(fun (a:ah) (b:ah)=>(fun k=>bif Nat.beq k 0 then some (.inv [.sl 5 .aA] (fun zo zv=>(fun (n:Int)=>yq a b n) zv.1) (fun zo zv=>(fun (n:Int)=>((a.nodes.length:Int) - n).toNat) zv.1)) else bif Nat.beq k 1 then some (.inv [.sl 8 .aA, .sl 5 .aA] (fun zo zv=>(fun (s0:Int) (n0:Int) (s:Int) (n:Int)=>yp a b s0 n0 s n) zo.1 zo.2.1 zv.1 zv.2.1) (fun zo zv=>(fun (s0:Int) (n0:Int) (s:Int) (n:Int)=>(((gd (⟨false,[]⟩:Shelf) a.nodes n.toNat).pieces.length:Int) - s).toNat) zo.1 zo.2.1 zv.1 zv.2.1)) else none)) x.1 x.2.1) fun x hp=>Eq.mp (by kernel_rfl) (acP x.1 x.2.1 hp)
open Go.RowKit
def s5 (l:aO) (size s p:Int) (n t:Nat):Piece:=if ((t:Int)<s/\l.has t n=true)\/((t:Int)=s/\l.pc t n<p) then ⟨1,kY size⟩ else ⟨0,ByteArray.empty⟩
def jj (l:aO) (size aK s p:Int) (n:Nat):List Piece:=(List.range aK.toNat).map fun t=>s5 l size s p n t
def ko (l:aO) (size aK s p:Int):List Shelf:=(List.range l.nodes.toNat).map fun n=>⟨true,jj l size aK s p n⟩
theorem nJ:(ko l size aK s p).length=l.nodes.toNat:=by simp [ko]
theorem Cg:(jj l size aK s p n).length=aK.toNat:=by simp [jj]
theorem acR {α:Type} {d:α} {f:Nat->α} (h:j<m):gd d ((List.range m).map f) j=f j:=by unfold gd;rw [aeY,afW h];rfl
theorem Ci (h:n<l.nodes.toNat):gd (⟨false,[]⟩:Shelf) (ko l size aK s p) n=⟨true,jj l size aK s p n⟩:=acR h
theorem acS (k:l.K) (hs:0<=s) (Ge:s<aK) (hp:0<=p) (DV:p<l.data+l.more):(ko l size aK s p).set (l.node s p).toNat ⟨true,(jj l size aK s p (l.node s p).toNat).set s.toNat ⟨1,kY size⟩⟩=ko l size aK s (p+1):=by
 have hn:=k.node s p
 have kn:=k.n
 have kp:p<l.nodes:=by have:=k.s;omega
 refine agb (by simp [nJ]) fun j h1 h2=> ?_
 rw [nJ] at h2
 have hj:(j:Int)<l.nodes:=by omega
 have iff:=sT k (s:=s) (p:=p) (n:=(j:Int)) ⟨hp,kp⟩ ⟨by omega,hj⟩
 rw [List.getElem_set]
 have ej:(ko l size aK s (p+1))[j]'(by rw [nJ];exact h2)=⟨true,jj l size aK s (p+1) j⟩:=by simp [ko]
 rw [ej]
 split
 ·rename_i e
  have e2:l.pc s j=p:=iff.1 (by omega)
  congr 1
  rw [e]
  refine agb (by simp [Cg]) fun t h3 h4=> ?_
  rw [Cg] at h4
  rw [List.getElem_set]
  have et:∀q:Int,(jj l size aK s q j)[t]'(by rw [Cg];exact h4)=s5 l size s q j t:=fun q=>by simp [jj]
  rw [et (p+1)]
  split
  ·rename_i e3
   have e4:(t:Int)=s:=by omega
   unfold s5;rw [aeG (.inr ⟨e4,by rw [e4,e2];omega⟩)]
  ·rename_i e3
   have e4:¬(t:Int)=s:=by omega
   rw [et p];unfold s5
   simp only [e4,false_and,or_false]
 ·rename_i e
  have e2:¬l.pc s j=p:=fun h=>e (by have:=iff.2 h;omega)
  have ej:(ko l size aK s p)[j]'(by rw [nJ];exact h2)=⟨true,jj l size aK s p j⟩:=by simp [ko]
  rw [ej]
  congr 1
  unfold jj
  refine afR fun t _=> ?_
  unfold s5
  congr 1
  by_cases e4:(t:Int)=s
  ·rw [e4]
   have:l.pc s j<p↔l.pc s j<p+1:=by omega
   rw [this]
  ·simp only [e4,false_and,or_false]
theorem acT (k:l.K) (hp:l.data+l.more<=p) (DV:p<=l.data+l.more):ko l size aK s p=ko l size aK (s+1) 0:=by
 have e:p=l.data+l.more:=by omega
 subst e
 unfold ko jj
 refine afR fun n _=> ?_
 congr 1
 refine afR fun t _=> ?_
 unfold s5
 have h1:=(k.pc t n).1
 have h3:l.has t n=true↔l.pc t n<l.data+l.more:=by unfold aO.has;exact agG
 congr 1
 rw [h3]
 apply propext
 omega
structure uW (L:List Shelf) (i:Int) (K:List az) (A:dk):Prop where
 lo:0<=i
 hi:i<=L.length
 len:K.length=L.length
 up:∀j,j<i.toNat->(gd (⟨false,Row.no Piece⟩:az) K j).up=(gd (⟨false,[]⟩:Shelf) L j).up
 own:∀j,j<i.toNat->(gd (⟨false,Row.no Piece⟩:az) K j).pieces.bF A/\bk A (gd (⟨false,Row.no Piece⟩:az) K j).pieces.id=(gd (⟨false,[]⟩:Shelf) L j).pieces
 inj:∀j k,j<i.toNat->k<i.toNat->(gd (⟨false,Row.no Piece⟩:az) K j).pieces.id=(gd (⟨false,Row.no Piece⟩:az) K k).pieces.id->j=k
theorem uW.step {L:List Shelf} {i:Int} {K:List az} {A:dk} {id:Nat} {b:Bool} {xs:List Piece} {m:Nat} (h:uW L i K A) (hi:i<L.length) (hid:¬cz A id) (hx:gd (⟨false,[]⟩:Shelf) L i.toNat=⟨b,xs⟩) (hm:m=xs.length):uW L (i+1) (K.set i.toNat ⟨b,Row.at Piece id m⟩) ((id,xs)::A):=by
 have h0:=h.lo;have hl:=h.len
 have iX:i.toNat<K.length:=by omega
 have bh:∀j,j<i.toNat->(gd (⟨false,Row.no Piece⟩:az) K j).pieces.id≠id:=fun j hj e=>hid (e▸(h.own j hj).1.2.1)
 subst hm
 refine ⟨by omega,by omega,by rw [ae4];exact hl,fun j hj=> ?_,fun j hj=> ?_,fun j k hj hk he=> ?_⟩
 ·rw [fv iX]
  split
  ·rename_i e;rw [<-e,hx]
  ·exact h.up j (by omega)
 ·rw [fv iX]
  split
  ·rename_i e;subst e
   rw [hx]
   refine ⟨⟨rfl,jt.2 (.inl rfl), ?_⟩, ?_⟩
   ·show (bk _ id).length=_;rw [gC,aeG rfl];rfl
   ·show bk _ id=_;rw [gC,aeG rfl]
  ·rename_i e
   have eJ:j<i.toNat:=by omega
   obtain ⟨q1,q2⟩:=h.own j eJ
   have aI:=bh j eJ
   exact ⟨⟨q1.1,jt.2 (.inr q1.2.1),by rw [gC,aeE aI];exact q1.2.2⟩,by rw [gC,aeE aI];exact q2⟩
 ·rw [fv iX,fv iX] at he
  by_cases e1:i.toNat=j<;>by_cases e2:i.toNat=k
  ·omega
  ·rw [aeG e1,aeE e2] at he
   exact absurd he.symm (bh k (by omega))
  ·rw [aeE e1,aeG e2] at he
   exact absurd he (bh j (by omega))
  ·rw [aeE e1,aeE e2] at he
   exact h.inj j k (by omega) (by omega) he
theorem uW.fin {L:List Shelf} {i:Int} {K:List az} {A:dk} (h:uW L i K A) (hi:L.length<=i):lQ L K A:=by
 have hh:=h.hi
 exact ⟨h.len,fun j hj=>h.up j (by omega),fun j hj=>h.own j (by omega),fun j k hj hk=>h.inj j k (by omega) (by omega)⟩
structure uX (l:aO) (size aK:Int):Prop where
 k:l.K
 z:1<=size/\size<=64
 t:1<=aK/\aK<=64
structure kr (l:aO) (size aK i:Int) (K:List az) (A:dk):Prop where
 p:uX l size aK
 o:uW (ko l size aK 0 0) i K A
theorem uX.row {l:aO} {size aK:Int} (h:uX l size aK) (n:Nat):jj l size aK 0 0 n=List.replicate aK.toNat ⟨0,ByteArray.empty⟩:=by
 refine agb (by simp [jj]) fun j h1 h2=> ?_
 simp only [jj,List.getElem_map,List.getElem_range,List.getElem_replicate]
 unfold s5
 have h0:=(h.k.pc j n).1
 rw [aeE (by omega)]
theorem kr.start {l:aO} {size aK:Int} (h:uX l size aK):kr l size aK 0 (List.replicate l.nodes.toNat ⟨false,Row.no Piece⟩) []:=by
 have hn:=h.k.n
 exact ⟨h,by omega,by omega,by rw [nJ,afP],fun j hj=>by simp at hj,fun j hj=>by simp at hj,fun j k hj=>by simp at hj⟩
theorem kr.bd {l:aO} {size aK i:Int} {K:List az} {A:dk} (h:kr l size aK i K A):0<=i/\i<=l.nodes/\(K.length:Int)=l.nodes/\1<=l.nodes/\l.nodes<=12/\1<=aK/\aK<=64:=by
 have h1:=h.o.lo;have h2:=h.o.hi;have h3:=h.o.len;have h4:=h.p.k.n;have h5:=h.p.t
 rw [nJ] at h2 h3
 omega
theorem kr.step {l:aO} {size aK i:Int} {K:List az} {A:dk} {id:Nat} {m:Nat} (h:kr l size aK i K A) (hi:i<l.nodes) (hid:¬cz A id) (hm:m=aK.toNat):kr l size aK (i+1) (K.set i.toNat ⟨true,Row.at Piece id m⟩) ((id,List.replicate aK.toNat (⟨0,⟨#[]⟩⟩:Piece))::A):=by
 have b:=h.bd
 show kr l size aK (i+1) _ ((id,List.replicate aK.toNat (⟨0,ByteArray.empty⟩:Piece))::A)
 refine ⟨h.p,h.o.step (by rw [nJ];omega) hid ?_ (by simp [hm])⟩
 rw [Ci (by omega),h.p.row]
structure hY (l:aO) (size aK s p:Int) (K:List az) (A:dk):Prop where
 q:uX l size aK
 s0:0<=s/\s<=aK
 p0:0<=p/\p<=l.data+l.more
 o:lQ (ko l size aK s p) K A
theorem kr.fin {l:aO} {size aK i:Int} {K:List az} {A:dk} (h:kr l size aK i K A) (hi:l.nodes<=i):hY l size aK 0 0 K A:=by
 have b:=h.bd;have:=h.p.t;have h1:=h.p.k.d;have h2:=h.p.k.m
 exact ⟨h.p,by omega,by omega,h.o.fin (by rw [nJ];omega)⟩
theorem hY.bd {l:aO} {size aK s p:Int} {K:List az} {A:dk} (h:hY l size aK s p K A):0<=s/\s<=aK/\0<=p/\p<=l.data+l.more/\1<=aK/\aK<=64/\1<=size/\size<=64/\l.K/\1<=l.data/\l.data<=8/\1<=l.more/\l.more<=6/\(K.length:Int)=l.nodes:=by
 have h1:=h.q.k.d;have h2:=h.q.k.m;have h3:=h.q.t;have h4:=h.q.z;have h5:=h.q.k.n;have h6:=h.o.len
 rw [nJ] at h6
 exact ⟨h.s0.1,h.s0.2,h.p0.1,h.p0.2,h3.1,h3.2,h4.1,h4.2,h.q.k,h1.1,h1.2,h2.1,h2.2,by omega⟩
def mK (K:List az) (n:Int):Row Piece:=(gd (⟨false,Row.no Piece⟩:az) K n.toNat).pieces
theorem hY.row {l:aO} {size aK s p:Int} {K:List az} {A:dk} (h:hY l size aK s p K A):0<=l.node s p/\l.node s p<K.length/\((mK K (l.node s p)).kd=RK.own/\cz A (mK K (l.node s p)).id/\(bk A (mK K (l.node s p)).id).length=(mK K (l.node s p)).n)/\(mK K (l.node s p)).ok A/\(mK K (l.node s p)).get A=jj l size aK s p (l.node s p).toNat/\((mK K (l.node s p)).get A).length=aK.toNat:=by
 have hn:=h.q.k.node s p
 have hb:=h.bd.2.2.2.2.2.2.2.2.2.2.2.2.2
 have hj:(l.node s p).toNat<l.nodes.toNat:=by omega
 obtain ⟨q1,q2⟩:=h.o.own (l.node s p).toNat (by rw [nJ];exact hj)
 have q3:(mK K (l.node s p)).get A=jj l size aK s p (l.node s p).toNat:=by unfold mK;rw [BY q1,q2,Ci hj]
 exact ⟨hn.1,by omega,q1,Row.bF.ok q1,q3,by rw [q3,Cg]⟩
theorem hY.step {l:aO} {size aK s p:Int} {K:List az} {A:dk} (h:hY l size aK s p K A) (hs:s<aK) (hp:p<l.data+l.more):hY l size aK s (p+1) K (((mK K (l.node s p)).id,((mK K (l.node s p)).get A).set s.toNat ⟨1,kY size⟩)::A):=by
 have hn:=h.q.k.node s p
 have b:=h.bd
 have hj:(l.node s p).toNat<l.nodes.toNat:=by omega
 refine ⟨h.q,h.s0,by omega, ?_⟩
 have:=h.o.put (n:=(l.node s p).toNat) (up:=true) (by rw [nJ];exact hj) (by rw [Ci hj]) (xs:=(jj l size aK s p (l.node s p).toNat).set s.toNat ⟨1,kY size⟩) (by rw [Ci hj,ae4])
 rw [acS h.q.k h.s0.1 hs h.p0.1 hp] at this
 rw [h.row.2.2.2.2.1]
 exact this
theorem hY.next {l:aO} {size aK s p:Int} {K:List az} {A:dk} (h:hY l size aK s p K A) (hs:s<aK) (hp:l.data+l.more<=p):hY l size aK (s+1) 0 K A:=by
 have b:=h.bd
 refine ⟨h.q,by omega,by omega, ?_⟩
 rw [<-acT h.q.k hp h.p0.2];exact h.o
def Hd (l:aO) (size aK:Int):ah:=⟨l,size,List.replicate aK.toNat 1,ko l size aK aK 0⟩
def nK (l:aO) (size aK:Int):ah×Int:=if ¬l.e=0 then (⟨⟨0,0,0,0⟩,0,[],[]⟩,l.e) else if ¬(1<=size/\size<=64)\/¬(1<=aK/\aK<=64) then (⟨⟨0,0,0,0⟩,0,[],[]⟩,3) else (Hd l size aK,0)
structure mL (l:aO) (size s:Int) (Z:ah×List Int):Prop where
 a:Z.1.layout=l
 b:Z.1.size=size
 c:Z.2=List.replicate s.toNat 1
theorem mL.len {l:aO} {size s:Int} {Z:ah×List Int} (h:mL l size s Z):Z.2.length=s.toNat:=by rw [h.c,afP]
theorem mL.step {l:aO} {size s:Int} {Z:ah×List Int} (h:mL l size s Z) (hs:0<=s) {V:ah} (h1:V.layout=l) (h2:V.size=size):mL l size (s+1) (V,Z.2++[1]):=⟨h1,h2,by rw [show (V,Z.2++[1]).2=Z.2++[1] from rfl,h.c,show (s+1).toNat=s.toNat+1 by omega,List.replicate_succ']⟩
theorem hY.done {l:aO} {size aK s:Int} {K:List az} {A:dk} {Z:ah×List Int} (h:hY l size aK s 0 K A) (z:mL l size s Z) (hs:aK<=s):(∀x:az,x∈K->True/\x.pieces.ok A/\x.pieces.kd≠RK.nil)/\(⟨Z.1.layout,Z.1.size,Z.2,List.map (fun x:az=>(⟨x.up,x.pieces.get A⟩:Shelf)) K⟩:ah)=Hd l size aK:=by
 have e:s=aK:=by have:=h.s0;omega
 subst e
 obtain ⟨e1,e2⟩:=h.o.view
 exact ⟨fun x hx=>⟨trivial,e1 x hx⟩,by rw [e2,z.a,z.b,z.c];rfl⟩
def yr (l:aO) (size:Int) (aK:Int) (p0:Int) (s0:Int) (K0:(List az)) (A0:(List (Nat×List Piece))) (p:Int) (s:Int) (K:(List az)) (A:(List (Nat×List Piece))):Prop:=s=s0/\hY l size aK s p K A
def yu (l:aO) (size:Int) (aK:Int) (s:Int) (K:(List az)) (A:(List (Nat×List Piece))) (Z:(ah×List Int)):Prop:=hY l size aK s 0 K A/\mL l size s Z
def yv (l:aO) (size:Int) (aK:Int) (i:Int) (K:(List az)) (A:(List (Nat×List Piece))):Prop:=kr l size aK i K A
def He:bj Tc Tc.dn:=⟨23,[.ty .j5, .ty .aA, .ty .aA],fun x=>(fun (l:aO) (size:Int) (aK:Int)=>True) x.1 x.2.1 x.2.2.1,[.ff, .aA],fun x=>(fun (l:aO) (size:Int) (aK:Int)=>nK l size aK) x.1 x.2.1 x.2.2.1⟩
theorem acU (l:aO) (size:Int) (aK:Int):True/\(¬l.e=(0:Int)->(ah.mk (aO.mk (0:Int) (0:Int) (0:Int) (0:Int)) (0:Int) [] [],l.e)=nK l size aK)/\(l.e=(0:Int)->True/\(decide ((1:Int)<=size/\size<=(64:Int))= !!true->decide ((1:Int)<=size/\size<=(64:Int))= !!true)/\(decide ((1:Int)<=size/\size<=(64:Int))= !!true->True)/\(decide ((1:Int)<=size/\size<=(64:Int))= !!true->decide ((1:Int)<=size/\size<=(64:Int))= !!true)/\(decide ((1:Int)<=size/\size<=(64:Int))= !false->decide ((1:Int)<=size/\size<=(64:Int))= !!true)/\(decide ((1:Int)<=size/\size<=(64:Int))= !true\/decide ((1:Int)<=aK/\aK<=(64:Int))= !true->(ah.mk (aO.mk (0:Int) (0:Int) (0:Int) (0:Int)) (0:Int) [] [],(3:Int))=nK l size aK)/\(decide ((1:Int)<=size/\size<=(64:Int))= !false/\decide ((1:Int)<=aK/\aK<=(64:Int))= !false->((0:Int)<=l.nodes/\l.nodes<=l.nodes/\l.nodes*(↑(32:Nat):Int)<=(140737488355328:Int))/\yv l size aK (0:Int) (List.replicate l.nodes.toNat (az.mk false (Row.no Piece))) []/\∀(x:Int) (af:List az) (aC:List (Nat×List Piece)),yv l size aK x af aC->(x<(↑(List.replicate l.nodes.toNat (az.mk false (Row.no Piece))).length:Int)->((0:Int)<=aK/\aK<=aK/\aK*(↑(24:Nat):Int)<=(140737488355328:Int))/\((0:Int)<=x/\x<(↑af.length:Int))/\∀(id:Nat),¬cz aC id->x.toNat<af.length/\aB (x+(1:Int))/\yv l size aK (x+(1:Int)) (af.set x.toNat (az.mk true (Row.at Piece id (List.replicate aK.toNat (Piece.mk (0:Int) (ByteArray.mk #[]))).length))) ((id,List.replicate aK.toNat (Piece.mk (0:Int) (ByteArray.mk #[])))::aC)/\(l.nodes - (x+(1:Int))).toNat<(l.nodes - x).toNat)/\((↑(List.replicate l.nodes.toNat (az.mk false (Row.no Piece))).length:Int)<=x->yu l size aK (0:Int) af aC (ah.mk l size [] [],[])/\∀(x:Int) (ae:List az) (aD:List (Nat×List Piece)) (aF:ah×List Int),yu l size aK x ae aD aF->(x<aK->(aF.snd.length+(1:Nat))*(8:Nat)<=(140737488355328:Nat)/\(l.K\/(1:Int)<=l.data/\l.data<=(8:Int)/\(1:Int)<=l.more/\l.more<=(6:Int))/\yr l size aK (0:Int) x ae aD (0:Int) x ae aD/\∀(aU aE:Int) (bq:List az) (bO:List (Nat×List Piece)),yr l size aK (0:Int) x ae aD aU aE bq bO->(aU<l.data+l.more->(l.K/\(0:Int)<=x/\x<=(100:Int)/\(0:Int)<=aU/\aU<=(100:Int))/\((0:Int)<=l.node x aU/\l.node x aU<(↑bq.length:Int))/\(l.node x aU).toNat<bq.length/\((0:Int)<=size/\size<=(65536:Int))/\(gd (az.mk false (Row.no Piece)) bq (l.node x aU).toNat).pieces.ok bO/\((0:Int)<=x/\x<(↑((gd (az.mk false (Row.no Piece)) bq (l.node x aU).toNat).pieces.get bO).length:Int))/\(gd (az.mk false (Row.no Piece)) bq (l.node x aU).toNat).pieces.bF bO/\x.toNat<((gd (az.mk false (Row.no Piece)) bq (l.node x aU).toNat).pieces.get bO).length/\aB (aU+(1:Int))/\yr l size aK (0:Int) x ae aD (aU+(1:Int)) aE bq (((gd (az.mk false (Row.no Piece)) bq (l.node x aU).toNat).pieces.id,((gd (az.mk false (Row.no Piece)) bq (l.node x aU).toNat).pieces.get bO).set x.toNat (Piece.mk (1:Int) (kY size)))::bO)/\(l.data+l.more - (aU+(1:Int))).toNat<(l.data+l.more - aU).toNat)/\(l.data+l.more<=aU->aB (aE+(1:Int))/\yu l size aK (aE+(1:Int)) bq bO (ah.mk aF.fst.layout aF.fst.size [] [],aF.snd++[(1:Int)])/\(aK - (aE+(1:Int))).toNat<(aK - x).toNat))/\(aK<=x->(∀(x:az),x∈ae->True/\x.pieces.ok aD/\x.pieces.kd≠RK.nil)/\(ah.mk aF.fst.layout aF.fst.size aF.snd (List.map (fun x=>Shelf.mk x.up (x.pieces.get aD)) ae),(0:Int))=nK l size aK)))):=by
 have h1:= @aO.p9 l
 have a0:= @uX.mk l size aK
 have a1:= @kr.start l size aK
 have a2:= @kr.bd l size aK
 have a3:= @kr.step l size aK
 have a4:= @kr.fin l size aK
 have b1:= @hY.bd l size aK
 have b2:= @hY.row l size aK
 have b3:= @hY.step l size aK
 have b4:= @hY.next l size aK
 have b5:= @hY.done l size aK
 have z1:= @mL.len l size
 have z2:= @mL.step l size
 have z0:mL l size 0 (⟨l,size,[],[]⟩,[]):=⟨rfl,rfl,rfl⟩
 have z3:= @mL.a l size
 have z4:= @mL.b l size
 have m1:= @rf
 simp only [mK] at b2 b3
 have k1:l.K->1<=l.nodes/\l.nodes<=12:=fun h=>h.n
 have r1:(List.replicate l.nodes.toNat (⟨false,Row.no Piece⟩:az)).length=l.nodes.toNat:=afP
 have r2:(List.replicate aK.toNat (⟨0,⟨#[]⟩⟩:Piece)).length=aK.toNat:=afP
 have e1:¬l.e=0->nK l size aK=(⟨⟨0,0,0,0⟩,0,[],[]⟩,l.e):=fun h=>by unfold nK;rw [aeG h]
 have e2:l.e=0->¬(1<=size/\size<=64)\/¬(1<=aK/\aK<=64)->nK l size aK=(⟨⟨0,0,0,0⟩,0,[],[]⟩,3):=fun h h2=>by unfold nK;rw [aeE (by simp [h]),aeG h2]
 have e3:l.e=0->(1<=size/\size<=64)->(1<=aK/\aK<=64)->nK l size aK=(Hd l size aK,0):=fun h h2 h3=>by unfold nK;rw [aeE (by simp [h]),aeE (by simp only [h2,h3];simp)]
 (try simp only [afw,afC,aff,ae3])
 (repeat' (first|apply And.intro|intro _))<;>first|assumption|trivial|omega|(grind [yr,yu,yv,aB])|trace_state
theorem acV:He.Ok Try.prog tD:=bV cQ (Δ:=[xC,oC,sU,xD,B7]) ⟨Gg,rn,xB,Gi,NG,trivial⟩ (Ω:=[]) trivial He SI SJ (fun _=>[]) (fun _=>trivial) 0 (fun x=>(fun (l:aO) (size:Int) (aK:Int)=>(fun k=>bif Nat.beq k 0 then some (.inv [.sl 37 .aA, .bl 3 .gX, .ar .fc] (fun zo zv=>(fun (i:Int) (K:(List az)) (A:(List (Nat×List Piece)))=>yv l size aK i K A) zv.1 zv.2.1 zv.2.2.1) (fun zo zv=>(fun (i:Int) (K:(List az)) (A:(List (Nat×List Piece)))=>(l.nodes - i).toNat) zv.1 zv.2.1 zv.2.2.1)) else bif Nat.beq k 1 then some (.inv [.sl 49 .aA, .bl 3 .gX, .ar .fc, .sg 4 5 .aA .ff [(6, .lH,3,2)]] (fun zo zv=>(fun (s:Int) (K:(List az)) (A:(List (Nat×List Piece))) (Z:(ah×List Int))=>yu l size aK s K A Z) zv.1 zv.2.1 zv.2.2.1 zv.2.2.2.1) (fun zo zv=>(fun (s:Int) (K:(List az)) (A:(List (Nat×List Piece))) (Z:(ah×List Int))=>(aK - s).toNat) zv.1 zv.2.1 zv.2.2.1 zv.2.2.2.1)) else bif Nat.beq k 2 then some (.inv [.sl 59 .aA, .sl 49 .aA, .bl 3 .gX, .ar .fc] (fun zo zv=>(fun (p0:Int) (s0:Int) (K0:(List az)) (A0:(List (Nat×List Piece))) (p:Int) (s:Int) (K:(List az)) (A:(List (Nat×List Piece)))=>yr l size aK p0 s0 K0 A0 p s K A) zo.1 zo.2.1 zo.2.2.1 zo.2.2.2.1 zv.1 zv.2.1 zv.2.2.1 zv.2.2.2.1) (fun zo zv=>(fun (p0:Int) (s0:Int) (K0:(List az)) (A0:(List (Nat×List Piece))) (p:Int) (s:Int) (K:(List az)) (A:(List (Nat×List Piece)))=>(l.data+l.more - p).toNat) zo.1 zo.2.1 zo.2.2.1 zo.2.2.2.1 zv.1 zv.2.1 zv.2.2.1 zv.2.2.2.1)) else none)) x.1 x.2.1 x.2.2.1) fun x hp=>Eq.mp (by kernel_rfl) (acU x.1 x.2.1 x.2.2.1)
open Go.RowKit
def Hf:bj Tc Tc.dn:=⟨7,[],fun _=>True,[.eC],fun _=>true⟩
abbrev jH:=(nK (aO.mk (5:Int) (2:Int) (2:Int) (1:Int)) (2:Int) (3:Int))
abbrev rD:=(bw jH.fst (3:Int) (ByteArray.mk #[(97:UInt8),(98:UInt8)]))
abbrev fj:=(mI rD.fst (3:Int) false)
abbrev mM:=(jH.snd=(0:Int)/\rD.snd=(0:Int))
abbrev gK:=(mI (gi fj.fst (4:Int)).fst (2:Int) false)
abbrev jk:=(br (gi fj.fst (4:Int)).fst (2:Int))
abbrev lT:=(oN (gi fj.fst (4:Int)).fst (1:Int))
abbrev ks:=(br (gi fj.fst (4:Int)).fst (3:Int))
abbrev oO:=(((mM/\fj.snd=(0:Int))/\(gi fj.fst (4:Int)).snd=(0:Int))/\ks.fst=ByteArray.mk #[(97:UInt8),(98:UInt8)])
abbrev oP:=((oO/\ks.snd=(0:Int))/\jk.fst=ByteArray.mk #[(0:UInt8),(0:UInt8)])
abbrev Hh:=(((mM/\fj.snd=(0:Int))/\(gi fj.fst (4:Int)).snd=(0:Int))/\ks.fst=ByteArray.mk #[(97:UInt8),(98:UInt8)]->((mM/\fj.snd=(0:Int))/\(gi fj.fst (4:Int)).snd=(0:Int))/\ks.fst=ByteArray.mk #[(97:UInt8),(98:UInt8)])
abbrev uY:=((oP/\jk.snd=(0:Int))/\(↑lT.fst.n:Int)=(↑(uN (Int.toNat (5:Int))).n:Int))
abbrev mN:=(uY/\lT.snd=(0:Int))
abbrev Cj:=(((mN/\gK.snd=(0:Int))/\(br gK.fst (3:Int)).snd=(8:Int))/\(br jH.fst (6:Int)).snd=(3:Int)->((mN/\gK.snd=(0:Int))/\(br gK.fst (3:Int)).snd=(8:Int))/\(br jH.fst (6:Int)).snd=(3:Int))
theorem acW  :True/\True/\True/\True/\True/\True/\True/\True/\True/\True/\True/\(jH.snd=(0:Int)->jH.snd=(0:Int))/\(jH.snd=(0:Int)->jH.snd=(0:Int))/\(jH.snd=(0:Int)/\rD.snd=(0:Int)->jH.snd=(0:Int)/\rD.snd=(0:Int))/\(jH.snd=(0:Int)/\rD.snd=(0:Int)->jH.snd=(0:Int)/\rD.snd=(0:Int))/\(mM/\fj.snd=(0:Int)->mM/\fj.snd=(0:Int))/\(mM/\fj.snd=(0:Int)->mM/\fj.snd=(0:Int))/\((mM/\fj.snd=(0:Int))/\(gi fj.fst (4:Int)).snd=(0:Int)->(mM/\fj.snd=(0:Int))/\(gi fj.fst (4:Int)).snd=(0:Int))/\((mM/\fj.snd=(0:Int))/\(gi fj.fst (4:Int)).snd=(0:Int)->(mM/\fj.snd=(0:Int))/\(gi fj.fst (4:Int)).snd=(0:Int))/\Hh/\Hh/\(oO/\ks.snd=(0:Int)->oO/\ks.snd=(0:Int))/\(oO/\ks.snd=(0:Int)->oO/\ks.snd=(0:Int))/\((oO/\ks.snd=(0:Int))/\jk.fst=ByteArray.mk #[(0:UInt8),(0:UInt8)]->(oO/\ks.snd=(0:Int))/\jk.fst=ByteArray.mk #[(0:UInt8),(0:UInt8)])/\((oO/\ks.snd=(0:Int))/\jk.fst=ByteArray.mk #[(0:UInt8),(0:UInt8)]->(oO/\ks.snd=(0:Int))/\jk.fst=ByteArray.mk #[(0:UInt8),(0:UInt8)])/\(oP/\jk.snd=(0:Int)->oP/\jk.snd=(0:Int))/\(oP/\jk.snd=(0:Int)->oP/\jk.snd=(0:Int))/\((oP/\jk.snd=(0:Int))/\(↑lT.fst.n:Int)=(↑(uN (Int.toNat (5:Int))).n:Int)->(oP/\jk.snd=(0:Int))/\(↑lT.fst.n:Int)=(↑(uN (Int.toNat (5:Int))).n:Int))/\((oP/\jk.snd=(0:Int))/\(↑lT.fst.n:Int)=(↑(uN (Int.toNat (5:Int))).n:Int)->(oP/\jk.snd=(0:Int))/\(↑lT.fst.n:Int)=(↑(uN (Int.toNat (5:Int))).n:Int))/\(uY/\lT.snd=(0:Int)->uY/\lT.snd=(0:Int))/\(uY/\lT.snd=(0:Int)->uY/\lT.snd=(0:Int))/\(mN/\gK.snd=(0:Int)->mN/\gK.snd=(0:Int))/\(mN/\gK.snd=(0:Int)->mN/\gK.snd=(0:Int))/\((mN/\gK.snd=(0:Int))/\(br gK.fst (3:Int)).snd=(8:Int)->(mN/\gK.snd=(0:Int))/\(br gK.fst (3:Int)).snd=(8:Int))/\((mN/\gK.snd=(0:Int))/\(br gK.fst (3:Int)).snd=(8:Int)->(mN/\gK.snd=(0:Int))/\(br gK.fst (3:Int)).snd=(8:Int))/\Cj/\(((mN/\gK.snd=(0:Int))/\(br gK.fst (3:Int)).snd=(8:Int))/\(br jH.fst (6:Int)).snd=(3:Int)->True)/\Cj/\Cj/\(jH.snd==(0:Int)&&rD.snd==(0:Int)&&fj.snd==(0:Int)&&(gi fj.fst (4:Int)).snd==(0:Int)&&oQ ks.fst (ByteArray.mk #[(97:UInt8),(98:UInt8)])&&ks.snd==(0:Int)&&oQ jk.fst (ByteArray.mk #[(0:UInt8),(0:UInt8)])&&jk.snd==(0:Int)&&(↑lT.fst.n:Int)==(↑(uN (Int.toNat (5:Int))).n:Int)&&lT.snd==(0:Int)&&gK.snd==(0:Int)&&(br gK.fst (3:Int)).snd==(8:Int)&&(br jH.fst (6:Int)).snd==(3:Int)&&bT (gi fj.fst (4:Int)).fst==(0:Int))=true:=by
 delta rD uY Hh Cj ks lT jk oO gK jH mN mM oP fj
 (repeat' (first|apply And.intro|(intro h;exact absurd h (by decide+kernel))|(intro h;clear h)|decide+kernel))<;>first|decide+kernel|trace_state
theorem acX:Hf.Ok Try.prog tD:=bV cQ (Δ:=[G8,He,yk,B5,B8,BV,BT,rr]) ⟨acK,acV,NT,ab6,acq,NA,Ny,uG,trivial⟩ (Ω:=[]) trivial Hf Sa Sb (fun _=>[]) (fun _=>trivial) 0 (fun _=>fun _=>none) fun x hp=>Eq.mp (by kernel_rfl) (acW )
open Go.RowKit
def frN (v:ah) (no:Int) (n:Nat):Bool:=decide ((gd (⟨false,[]⟩:Shelf) v.nodes n).up=true/\(v.at_ n no).version=gd 0 v.versions no.toNat)
theorem Hi (k:v.layout.K):bP v no p=frN v no (v.layout.node no p).toNat:=by
 have:=(k.node no p).1
 unfold bP frN ah.at_
 rw [agd]
theorem NZ {v:ah} {no:Int} (k:v.layout.K) {n:Nat}:∀{m:Nat},(m:Int)<=v.layout.data+v.layout.more->(lP v no m).testBit n=decide ((n:Int)<v.layout.nodes/\v.layout.pc no n<m/\frN v no n=true)
 |0,_=>by
  have h0:0<=v.layout.pc no n:=(k.pc no n).1
  unfold lP
  rw [Nat.zero_testBit]
  symm
  exact agu (by omega)
 |m+1,hm=>by
  have ih:=NZ (no:=no) k (n:=n) (m:=m) (by omega)
  have hs:=k.s
  have hn:=k.node no m
  unfold lP
  by_cases e:(v.layout.node no m).toNat=n
  ·have e2:v.layout.pc no n=m:=by
    have:=(sT k (s:=no) (p:=(m:Int)) (n:=(n:Int)) ⟨by omega,by omega⟩ ⟨by omega,by omega⟩).1 (by omega)
    exact this
   have e3:bP v no m=frN v no n:=by rw [Hi k,e]
   rw [e3]
   by_cases f:frN v no n=true
   ·rw [aeG f,Nat.testBit_or,Nat.testBit_two_pow,af3 e,Bool.or_true]
    symm
    exact af3 ⟨by omega,by omega,f⟩
   ·rw [aeE f,ih]
    exact decide_eq_decide.2 ⟨fun ⟨_,_,c⟩=>absurd c f,fun ⟨_,_,c⟩=>absurd c f⟩
  ·have e2:(n:Int)<v.layout.nodes->¬v.layout.pc no n=m:=fun h1 h2=>by
    have:=(sT k (s:=no) (p:=(m:Int)) (n:=(n:Int)) ⟨by omega,by omega⟩ ⟨by omega,by omega⟩).2 h2
    omega
   have e3:((n:Int)<v.layout.nodes/\v.layout.pc no n<((m+1:Nat):Int)/\frN v no n=true)↔((n:Int)<v.layout.nodes/\v.layout.pc no n<(m:Int)/\frN v no n=true):=by
    constructor
    ·intro ⟨a,b,c⟩;exact ⟨a,by have:=e2 a;omega,c⟩
    ·intro ⟨a,b,c⟩;exact ⟨a,by omega,c⟩
   split
   ·rw [Nat.testBit_or,Nat.testBit_two_pow,agu e,Bool.or_false,ih]
    exact decide_eq_decide.2 e3.symm
   ·rw [ih]
    exact decide_eq_decide.2 e3.symm
theorem acY (k:v.layout.K):(iw v no).n=lP v no (v.layout.data+v.layout.more).toNat:=by
 unfold iw;exact tV (by have:=BQ (v:=v) (no:=no) k (v.layout.data+v.layout.more).toNat;omega)
theorem N5 (k:v.layout.K) (n:Nat):(iw v no).n.testBit n=decide ((n:Int)<v.layout.nodes/\v.layout.has no n=true/\frN v no n=true):=by
 have hd:=k.d;have hm:=k.m
 rw [acY k,NZ k (by omega)]
 refine decide_eq_decide.2 ?_
 unfold aO.has
 rw [agG,show (((v.layout.data+v.layout.more).toNat:Nat):Int)=v.layout.data+v.layout.more by omega]
theorem acZ:(⟨⟨0,0,0,0⟩,0,[],[]⟩:ah).sm:=⟨by simp,by simp,fun x hx=>by simp at hx⟩
theorem Hj {n:Int}:gw v n s=0↔(v.layout.has s n=false->(v.at_ n s).version=0/\(v.at_ n s).data=ByteArray.empty)/\(v.layout.has s n=true->((v.at_ n s).data.size:Int)=v.size)/\0<=(v.at_ n s).version/\(v.at_ n s).version<=gd 0 v.versions s.toNat:=by
 unfold gw
 constructor
 ·intro h
  split at h
  ·simp at h
  ·rename_i h1
   split at h
   ·simp at h
   ·rename_i h2
    have h2:=af2.1 h2
    exact ⟨fun hh=>af7 fun hx=>h1 (.inl ⟨hh,hx⟩),fun hh=>af7 fun hx=>h1 (.inr ⟨hh,hx⟩),h2.1,h2.2⟩
 ·intro ⟨h1,h2,h3,h4⟩
  rw [aeE,aeE]
  ·exact fun hx=>hx ⟨h3,h4⟩
  ·rintro (⟨a,b⟩|⟨a,b⟩)
   ·exact b (h1 a)
   ·exact b (h2 a)
theorem ac0 (k:v.K):oN v no=if 0<=no/\no<v.versions.length then (iw v no,0) else (uN (Int.toNat 0),3):=by
 unfold oN
 rw [aeE (by rw [rk.2 k];simp)]
 by_cases h:0<=no/\no<v.versions.length
 ·rw [aeG h,aeE (by omega)]
 ·rw [aeE h,aeG (by omega)]
open Go.RowKit
open Go.RowKit
theorem rE {m n:Int} (hi:(i:Int)<m) (hj:(j:Int)<n):bS (bM m n f) i j=f i j:=by
 unfold bS
 rw [M4 hi]
 unfold gd
 rw [aeY,afW (by omega)];rfl
theorem N6 {m n:Int} {g:Nat->Nat->UInt8} (h:∀i j:Nat,(i:Int)<m->(j:Int)<n->f i j=g i j):bM m n f=bM m n g:=by
 unfold bM
 refine afR fun i hi=>afR fun j hj=>h i j ?_ ?_
 ·have:=ae6.1 hi;omega
 ·have:=ae6.1 hj;omega
theorem N7 (h:gI n m a):bM n m (bS a)=a:=by
 refine B9 (d:=[]) (by rw [Gz,h.1];simp) fun i hi=> ?_
 rw [Gz] at hi
 have c9:i<n:=by omega
 rw [M4 (by omega)]
 refine B9 (d:=0) (by rw [aeS,List.length_range,h.row c9];simp) fun j hj=> ?_
 rw [aeS,List.length_range] at hj
 unfold gd
 rw [aeY,afW hj];rfl
theorem Hk (ha:gI n m a) (hb:gI n m b) (h:∀i j,i<n->j<m->bS a i j=bS b i j):a=b:=by
 rw [<-N7 ha, <-N7 hb]
 exact N6 fun i j hi hj=>h i j (by omega) (by omega)
theorem N8 {n:Int}:∀{a:List (List UInt8)},(∀r,r∈a->(r.length:Int)=n/\r.length<=16/\0<r.length)->qc n a=0
 |[],_=>rfl
 |r::l,h=>by
  have h1:=h r (afo ..)
  unfold qc
  rw [aeE (by omega),aeE (by omega)]
  exact N8 fun q hq=>h q (afi _ hq)
theorem Ck (h:gI n m a) (hn:0<n):(gd [] a 0).length=m:=h.row hn
theorem ac1 (h:gI n m a) (h1:0<n) (h2:n<=16) (h3:0<m) (h4:m<=16):iJ a=0:=by
 have hl:=h.1
 unfold iJ
 rw [aeE (by omega),aeE (by omega),Ck h h1]
 exact N8 fun r hr=>by have:=h.2 r hr;omega
theorem Cl:gI m n (bM m n f):=by
 have:=M3 (m:=(m:Int)) (n:=(n:Int)) (f:=f)
 simpa using this
theorem ac2 (d:Nat) (f:Nat->UInt8):sg (d+1) f=f 0^^^sg d fun j=>f (j+1):=by
 rw [DU d 0 f (Nat.zero_le _)]
 rfl
theorem N9:∀(xs ys:List UInt8) (o:UInt8),xG xs ys o=o^^^sg xs.length fun t=>aH (gd 0 xs t) (gd 0 ys t)
 |[],ys,o=>by simp [xG,sg]
 |x::l,ys,o=>by
  unfold xG
  rw [N9 l (ys.drop 1),agc,ac2,af0]
  congr 2
  refine eB fun i hi=> ?_
  congr 1
  unfold gd
  rw [afF,Nat.add_comm]
theorem ac3 (h:gI n m a) (hn:0<n):gI m n (uH a):=by
 unfold uH
 rw [Ck h hn,h.1]
 exact Cl
theorem ac4 (h:gI n m a) (hn:0<n) (hi:i<m) (hj:j<n):bS (uH a) i j=bS a j i:=by
 unfold uH
 rw [Ck h hn,h.1,rE (by omega) (by omega)]
 rfl
theorem Oa {k:Nat} (ha:gI n k a) (hb:gI k m b) (hk:0<k):sV a b=bM n m (mm k (bS a) (bS b)):=by
 have ht:=ac3 hb hk
 unfold sV
 rw [ha.1,ht.1]
 refine N6 fun i j hi hj=> ?_
 unfold fR
 rw [N9,ha.row (by omega)]
 unfold mm
 rw [UInt8.zero_xor]
 refine eB fun t htk=> ?_
 congr 1
 exact ac4 hb hk (by omega) htk
theorem ac6 {k:Nat} (ha:gI n k a) (hb:gI k m b) (hk:0<k):gI n m (sV a b):=by
 rw [Oa ha hb hk];exact Cl
theorem Cm {k:Nat} (ha:gI n k a) (hb:gI k m b) (hk:0<k) (hi:i<n) (hj:j<m):bS (sV a b) i j=mm k (bS a) (bS b) i j:=by
 rw [Oa ha hb hk,rE (by omega) (by omega)]
structure ia (a:List (List UInt8)) (n m:Nat):Prop where
 gg:gI n m a
 n0:0<n
 yw:n<=16
 m0:0<m
 Ob:m<=16
theorem ia.Bi (h:ia a n m):iJ a=0:=ac1 h.gg h.n0 h.yw h.m0 h.Ob
theorem ia.len {a:List (List UInt8)} {n m:Nat} (h:ia a n m):a.length=n:=h.gg.1
theorem ia.wid (h:ia a n m):(gd [] a 0).length=m:=Ck h.gg h.n0
theorem ia.raw {k:Nat} (ha:ia a n k) (hb:ia b k m):ia (sV a b) n m:=⟨ac6 ha.gg hb.gg ha.m0,ha.n0,ha.yw,hb.m0,hb.Ob⟩
theorem ia.fill (h1:0<m) (h2:m<=16) (h3:0<n) (h4:n<=16):ia (bM m n f) m n:=⟨Cl,h1,h2,h3,h4⟩
theorem ac7 (h1:0<n) (h2:n<=16):M5 n=(bM n n fU,0)/\ia (bM n n fU) n n:=by
 unfold M5
 rw [aeG (by omega)]
 exact ⟨rfl,ia.fill h1 h2 h1 h2⟩
theorem Co (hi:i<n) (hj:j<n):bS (bM n n fU) i j=dO i j:=rE (by omega) (by omega)
open Go.RowKit
open Go.RowKit
theorem ac8 (h:ia a n n):bM n (2*(n:Int)) (fB a n)=gY a n:=by
 have e:(2*(n:Int))=((n+n:Nat):Int):=by omega
 rw [e]
 refine Hk Cl (MB h.gg) fun i j hi hj=> ?_
 rw [rE (by omega) (by omega),MC h.gg hi]
 unfold fB oa dO
 by_cases eJ:j<n
 ·rw [aeG eJ,aeG eJ];rfl
 ·rw [aeE eJ,aeE eJ]
  by_cases e2:j - n=i
  ·rw [aeG e2,aeG e2.symm]
  ·rw [aeE e2,aeE fun e3=>e2 e3.symm]
theorem ac9 (h:ia a n n):∃r,qF n n (bS a) r/\((r<n/\bp a=([],5))\/(r=n/\∃x,bp a=(x,0)/\ia x n n/\sV x a=bM n n fU/\sV a x=bM n n fU)):=by
 obtain ⟨k1,k2,k3⟩:=Zt h.gg h.n0
 have e1:kX a=fu n (gY a n) 0 0:=by unfold kX;rw [h.len,ac8 h]
 have hle:=k2.le.1
 refine ⟨_,k2, ?_⟩
 have hinv:bp a=if (kX a).2<a.length then ([],5) else (bM a.length a.length (fI (kX a).1 a.length),0):=by
  unfold bp;rw [aeE (by rw [h.Bi];simp),aeE (by rw [h.len,h.wid];simp)]
 rw [hinv,e1,h.len]
 by_cases hr:(fu n (gY a n) 0 0).2<n
 ·left;exact ⟨hr,by rw [aeG hr]⟩
 ·right
  have Oc:(fu n (gY a n) 0 0).2=n:=by omega
  obtain ⟨q1,q2⟩:=k1 Oc
  have hx:ia (bM n n (fI (fu n (gY a n) 0 0).1 n)) n n:=ia.fill h.n0 h.yw h.n0 h.yw
  have hu:=(ac7 h.n0 h.yw).2
  have hm:∀i j,i<n->j<n->bS (bM n n (fI (fu n (gY a n) 0 0).1 n)) i j=bS (fu n (gY a n) 0 0).1 i (n+j):=fun i j hi hj=>rE (by omega) (by omega)
  refine ⟨Oc,_,by rw [aeE hr],hx, ?_, ?_⟩
  ·refine Hk (hx.raw h).gg hu.gg fun i j hi hj=> ?_
   rw [Cm hx.gg h.gg h.n0 hi hj,Co hi hj, <-q1 i j hi hj]
   exact nh (fun t ht=>hm i t hi ht) fun t _=>rfl
  ·refine Hk (h.raw hx).gg hu.gg fun i j hi hj=> ?_
   rw [Cm h.gg hx.gg h.n0 hi hj,Co hi hj, <-q2 i j hi hj]
   exact nh (fun t _=>rfl) fun t ht=>hm t j ht hj
theorem ada {X G D:Mx} (h:∀i j,i<n->j<n->mm n X G i j=dO i j) (hi:i<n) (j:Nat):mm n X (mm n G D) i j=D i j:=by
 rw [<-tP]
 exact (nh (fun t ht=>h i t hi ht) fun _ _=>rfl).trans (jV D hi)
open Go.RowKit
def iM (data:List BA):Mx:=fun t j=>gb (gd ByteArray.empty data t) j
def s6 (i:Nat):UInt8:=UInt8.ofNat i
def s7 (m:Nat) (k:Nat):UInt8:=UInt8.ofNat (m+k)
abbrev k6 (n m:Nat):Mx:=qH n s6 (s7 m)
theorem Hl {a b:Nat} (ha:a<256) (hb:b<256) (h:UInt8.ofNat a=UInt8.ofNat b):a=b:=by
 have:=afD UInt8.toNat h
 simpa [afU ha,afU hb] using this
theorem adb (hm:m<=16):∀i k,i<m->k<m->s6 i=s6 k->i=k:=fun i k hi hk e=>Hl (by omega) (by omega) e
theorem ade (hm:m<=16) (hn:n<=16):∀i k,i<n->k<n->s7 m i=s7 m k->i=k:=fun i k hi hk e=>by
 have:=Hl (by omega) (by omega) e
 omega
theorem Od (hm:m<=16) (hn:n<=16):∀i k,i<m->k<n->s6 i≠s7 m k:=fun i k hi hk e=>by
 have:=Hl (by omega) (by omega) e
 omega
theorem Oe {m:Int} {k:Nat} (hm:m<=16) (hn:n<=16) (hi:(i:Int)<m) (hk:k<n):fC m i k=dN (s6 i^^^s7 m.toNat k):=by
 unfold fC gx
 have e:UInt8.ofNat (i^^^(m.toNat+k))=s6 i^^^s7 m.toNat k:=by
  unfold s6 s7
  apply UInt8.toNat.inj
  simp
 rw [e,aeE fun e2=>Od (n:=n) (m:=m.toNat) (by omega) hn i k (by omega) hk (tQ.1 e2)]
structure Hm (n m:Nat):Prop where
 n1:1<=n
 n8:n<=8
 m1:1<=m
 m6:m<=6
theorem adf (h:Hm n m) (hi:i<n+m) (hj:j<n):gd 0 (gd [] (j9 n m) i) j=k6 n m i j:=by
 obtain ⟨h1,h2,h3,h4⟩:=h
 have e1:(bM (n:Int) n fU).length=n:=by rw [Ca];simp
 unfold j9 k6 qH
 by_cases kF:i<n
 ·rw [aeG kF]
  have e:gd [] (bM (n:Int) n fU++bM (m:Int) n (fC m)) i=gd [] (bM (n:Int) n fU) i:=by
   unfold gd;rw [afk (by omega)]
  rw [e]
  exact rE (by omega) (by omega)
 ·rw [aeE kF]
  have e:gd [] (bM (n:Int) n fU++bM (m:Int) n (fC m)) i=gd [] (bM (m:Int) n (fC m)) (i - n):=by
   unfold gd;rw [afr (by omega),e1]
  rw [e]
  have:=rE (m:=(m:Int)) (n:=(n:Int)) (f:=fC m) (i:=i - n) (j:=j) (by omega) (by omega)
  unfold bS at this
  rw [this,Oe (n:=n) (by omega) (by omega) (by omega) hj,agd]
theorem Hn {p:List BA} (hi:i<X.length):gd ByteArray.empty (bH X p) i=oE (gd [] X i) p:=by
 unfold bH;exact Cb (d:=([]:List UInt8)) hi
theorem Of {row:List UInt8} {p:List BA} (hj:j<(gd ByteArray.empty p 0).size):gb (oE row p) j=sg p.length fun k=>aH (gd 0 row k) (iM p k j):=by
 unfold oE iM
 rw [aay hj]
structure k7 (data:List BA) (more:Int):Prop where
 c:Hm data.length more.toNat
 m:1<=more/\more<=6
 k:cN data=0
theorem k7.enc {data:List BA} (h:k7 data more):kS data more=(bH (eD more data.length).1 data,0):=by
 have h1:=h.c.n1;have h2:=h.c.n8;have h3:=h.m;have h4:=h.k
 unfold kS
 rw [aeE (by omega),aeE (by omega),aeE (by omega),aeE (by omega)]
abbrev jI (data:List BA) (more:Int):List BA:=data++(kS data more).1
theorem k7.Ho {data:List BA} (h:k7 data more):(eD more data.length).1=bM more data.length (fC more):=by
 have h1:=h.c.n1;have h2:=h.c.n8;have h3:=h.m
 rw [Bt (by omega) (by omega) (by omega) (by omega)]
theorem k7.mF {data:List BA} (h:k7 data more):(gd ByteArray.empty data 0).size<=64/\(∀t,t<data.length->(gd ByteArray.empty data t).size=(gd ByteArray.empty data 0).size)/\∀t,t<data.length+more.toNat->(gd ByteArray.empty (jI data more) t).size=(gd ByteArray.empty data 0).size:=by
 obtain ⟨a1,a2⟩:=GC h.k
 have h1:=h.c.n1
 refine ⟨a1 _ (eV (by omega)),fun t ht=>a2 _ (eV ht),fun t ht=> ?_⟩
 unfold jI
 by_cases e:t<data.length
 ·have:gd ByteArray.empty (data++(kS data more).1) t=gd ByteArray.empty data t:=by unfold gd;rw [afk e]
  rw [this];exact a2 _ (eV e)
 ·have:gd ByteArray.empty (data++(kS data more).1) t=gd ByteArray.empty (kS data more).1 (t - data.length):=by unfold gd;rw [afr (by omega)]
  rw [this,h.enc]
  show (gd ByteArray.empty (bH _ _) _).size=_
  rw [Hn (by rw [h.Ho,Ca];omega)]
  unfold oE;rw [Bn]
theorem k7.all {data:List BA} (h:k7 data more) (ht:t<data.length+more.toNat) (hj:j<(gd ByteArray.empty data 0).size):iM (jI data more) t j=mm data.length (k6 data.length more.toNat) (iM data) t j:=by
 have h1:=h.c.n1;have h2:=h.c.n8;have h3:=h.m
 unfold jI
 by_cases e:t<data.length
 ·have:iM (data++(kS data more).1) t j=iM data t j:=by unfold iM gd;rw [afk e]
  rw [this]
  have e2:mm data.length (k6 data.length more.toNat) (iM data) t j=mm data.length dO (iM data) t j:=eB fun k _=>by unfold k6 qH;rw [aeG e]
  rw [e2,jV _ e]
 ·have:iM (data++(kS data more).1) t j=gb (gd ByteArray.empty (kS data more).1 (t - data.length)) j:=by unfold iM gd;rw [afr (by omega)]
  rw [this,h.enc]
  show gb (gd ByteArray.empty (bH _ _) _) _=_
  rw [Hn (by rw [h.Ho,Ca];omega),Of hj]
  refine eB fun k hk=> ?_
  congr 1
  rw [h.Ho]
  have:=rE (m:=more) (n:=(data.length:Int)) (f:=fC more) (i:=t - data.length) (j:=k) (by omega) (by omega)
  unfold bS at this
  rw [this,Oe (n:=data.length) (by omega) (by omega) (by omega) hk]
  unfold k6 qH
  rw [aeE e]
theorem Og {n:Int}:∀{seen l:List Int},(∀i,i∈l->0<=i/\i<n/\¬i∈seen)->l.Nodup->ke n seen l=0
 |_,[],_,_=>rfl
 |seen,x::r,h,hd=>by
  have h1:=h x (afo ..)
  rw [af6] at hd
  unfold ke
  rw [aeE (by omega),aeE h1.2.2]
  refine Og (fun i hi=> ?_) hd.2
  have h2:=h i (afi _ hi)
  refine ⟨h2.1,h2.2.1,fun hh=> ?_⟩
  rcases afc.1 hh with e|e
  ·exact h2.2.2 e
  ·rw [aeP] at e;subst e;exact hd.1 hi
theorem adg {n:Int} {at_:List Int} (h:∀i,i∈at_->0<=i/\i<n) (hd:at_.Nodup):lO n at_=0:=Og (fun i hi=>⟨(h i hi).1,(h i hi).2,by simp⟩) hd
theorem Oh {n:Int}:∀{seen l:List Int},(∀i,i∈l->0<=i/\i<n)->ke n seen l=0\/ke n seen l=6
 |_,[],_=> .inl rfl
 |seen,x::r,h=>by
  have h1:=h x (afo ..)
  unfold ke
  rw [aeE (by omega)]
  split
  ·exact .inr rfl
  ·exact Oh fun i hi=>h i (afi _ hi)
theorem adh {at_:List Int} (h:at_.Nodup) {k:Nat} (hi:i<at_.length) (hk:k<at_.length) (e:gd 0 at_ i=gd 0 at_ k):i=k:=by
 have e1:=jW (d:=(0:Int)) hi
 have e2:=jW (d:=(0:Int)) hk
 rw [<-e] at e2
 exact (List.getElem?_inj hi h).1 (e1.trans e2.symm)
structure jJ (n m:Nat) (at_:List Int):Prop where
 c:Hm n m
 l:at_.length=n
 r:∀i,i∈at_->0<=i/\i<(n:Int)+m
 d:at_.Nodup
theorem jJ.oM {at_:List Int} (h:jJ n m at_) (hi:i<n):0<=gd 0 at_ i/\(gd 0 at_ i).toNat<n+m:=by
 have:=h.r _ (eV (d:=(0:Int)) (xs:=at_) (i:=i) (by rw [h.l];exact hi))
 omega
theorem jJ.row {n m:Nat} {at_:List Int} (h:jJ n m at_) {i:Nat} (hi:i<n):gd [] (bu n m at_) i=gd [] (j9 n m) (gd 0 at_ i).toNat:=by
 unfold bu;exact Cb (d:=(0:Int)) (by rw [h.l];exact hi)
theorem jJ.ok {at_:List Int} (h:jJ n m at_):ia (bu n m at_) n n:=by
 have h1:=h.c.n1;have h2:=h.c.n8
 refine ⟨⟨by unfold bu;rw [aeS,h.l],fun r hr=> ?_⟩,by omega,by omega,by omega,by omega⟩
 have:=abG (many:=n) (more:=m) (at_:=at_) (by omega) (by omega) h.r r hr
 simpa using this
theorem jJ.mx {at_:List Int} (h:jJ n m at_) (hi:i<n) (hj:j<n):bS (bu n m at_) i j=k6 n m (gd 0 at_ i).toNat j:=by
 unfold bS
 rw [h.row hi]
 exact adf h.c (h.oM hi).2 hj
theorem jJ.inv {at_:List Int} (h:jJ n m at_):∃X,bp (bu n m at_)=(X,0)/\X.length=n/\(∀i j,i<n->j<n->mm n (bS X) (fun i j=>k6 n m (gd 0 at_ i).toNat j) i j=dO i j)/\∀i j,i<n->j<n->mm n (fun i j=>k6 n m (gd 0 at_ i).toNat j) (bS X) i j=dO i j:=by
 have h1:=h.c.n1;have h2:=h.c.n8;have h3:=h.c.m1;have h4:=h.c.m6
 obtain ⟨r,hr,⟨q1,q2⟩|⟨q1,X,e,hX,e1,e2⟩⟩:=ac9 h.ok
 ·exfalso
  have eQ:qF n n (fun i j=>k6 n m (gd 0 at_ i).toNat j) r:=⟨hr.DX.congr fun i j hi hj=>(h.mx hi hj).symm,fun k hk=>hr.min k (hk.congr fun i j hi hj=>h.mx hi hj)⟩
  have:=VY (at_:=fun i=>(gd 0 at_ i).toNat) (adb (m:=m) (by omega)) (ade (n:=n) (m:=m) (by omega) (by omega)) (Od (by omega) (by omega)) (fun i hi=>(h.oM hi).2) (fun i k hi hk e=>adh h.d (by rw [h.l];exact hi) (by rw [h.l];exact hk) (by have a:=(h.oM hi).1;have b:=(h.oM hk).1;omega)) eQ
  omega
 ·refine ⟨X,e,hX.len,fun i j hi hj=> ?_,fun i j hi hj=> ?_⟩
  ·have:=Cm hX.gg h.ok.gg (by omega) hi hj
   rw [e1,Co hi hj] at this
   rw [this]
   exact nh (fun t _=>rfl) fun t ht=>(h.mx ht hj).symm
  ·have:=Cm h.ok.gg hX.gg (by omega) hi hj
   rw [e2,Co hi hj] at this
   rw [this]
   exact nh (fun t ht=>(h.mx hi ht).symm) fun t _=>rfl
theorem jJ.Oi {at_:List Int} {pieces:List BA} (h:jJ n m at_) (hl:pieces.length=at_.length) (hk:cN pieces=0):dG n m at_ pieces=(bH (bp (bu n m at_)).1 pieces,0):=by
 obtain ⟨h1,h2,h3,h4⟩:=h.c
 have h5:=h.l
 obtain ⟨X,e,_,_⟩:=h.inv
 have h6:=adg h.r h.d
 unfold dG
 rw [aeE (by omega),aeE (by omega),aeE (by omega),aeE (by omega),aeE (by omega),aeE (by omega),aeE (by rw [e];simp)]
theorem Oj {p:List BA}:(bH X p).length=X.length:=by unfold bH;rw [aeS]
theorem jJ.back {L:Nat} {at_:List Int} {pieces data:List BA} (h:jJ n m at_) (hp:pieces.length=n) (hs:∀t,t<n->(gd ByteArray.empty pieces t).size=L) (hd:data.length=n) (hz:∀t,t<n->(gd ByteArray.empty data t).size=L) (he:∀t j,t<n->j<L->iM pieces t j=mm n (fun i j=>k6 n m (gd 0 at_ i).toNat j) (iM data) t j):bH (bp (bu n m at_)).1 pieces=data:=by
 obtain ⟨X,e,hX,h1,h2⟩:=h.inv
 have hn:=h.c.n1
 rw [e]
 show bH X pieces=data
 refine B9 (d:=ByteArray.empty) (by rw [Oj,hX,hd]) fun i hi=> ?_
 rw [Oj,hX] at hi
 rw [Hn (by omega)]
 have Ol:=hs 0 (by omega)
 refine aaA (by unfold oE;rw [Bn,Ol,hz i hi]) fun j hj=> ?_
 have eJ:j<L:=by unfold oE at hj;rw [Bn,Ol] at hj;exact hj
 rw [Of (by omega),hp]
 have:=ada (G:=fun i j=>k6 n m (gd 0 at_ i).toNat j) (D:=iM data) h1 hi j
 rw [show gb (gd ByteArray.empty data i) j=iM data i j from rfl, <-this]
 exact eB fun t ht=>by rw [he t j ht eJ];rfl
theorem Om {al:List BA} {at_:List Int} {k:Nat} (hk:k<at_.length):gd ByteArray.empty (at_.map fun i=>gd ByteArray.empty al i.toNat) k=gd ByteArray.empty al (gd 0 at_ k).toNat:=Cb (d:=(0:Int)) hk
theorem adi {data:List BA} {at_:List Int} (h:k7 data more) (ha:∀i,i∈at_->0<=i/\i<data.length+more):((dG data.length more at_ (at_.map fun i=>gd ByteArray.empty (jI data more) i.toNat)).2=0->(dG data.length more at_ (at_.map fun i=>gd ByteArray.empty (jI data more) i.toNat)).1=data)/\((dG data.length more at_ (at_.map fun i=>gd ByteArray.empty (jI data more) i.toNat)).2=0\/(dG data.length more at_ (at_.map fun i=>gd ByteArray.empty (jI data more) i.toNat)).2=8\/(dG data.length more at_ (at_.map fun i=>gd ByteArray.empty (jI data more) i.toNat)).2=2\/(dG data.length more at_ (at_.map fun i=>gd ByteArray.empty (jI data more) i.toNat)).2=6):=by
 have h1:=h.c.n1;have h2:=h.c.n8;have h3:=h.m
 obtain ⟨s1,s2,s3⟩:=h.mF
 generalize hp:(at_.map fun i=>gd ByteArray.empty (jI data more) i.toNat)=pieces
 have hl:pieces.length=at_.length:=by rw [<-hp,aeS]
 have aZ:∀k,k<at_.length->(gd ByteArray.empty pieces k).size=(gd ByteArray.empty data 0).size:=fun k hk=>by
  have:=ha _ (eV (d:=(0:Int)) hk)
  rw [<-hp,Om hk];exact s3 _ (by omega)
 by_cases c1:(at_.length:Int)<data.length
 ·have e:dG data.length more at_ pieces=([],8):=by unfold dG;rw [aeE (by omega),aeE (by omega),aeG c1]
  rw [e];simp
 ·by_cases c2:(data.length:Int)<at_.length
  ·have e:dG data.length more at_ pieces=([],2):=by unfold dG;rw [aeE (by omega),aeE (by omega),aeE c1,aeG c2]
   rw [e];simp
  ·rcases Oh (n:=(data.length:Int)+more) (seen:=[]) (l:=at_) ha with c3|c3
   ·obtain ⟨q1,q2⟩:=Np (n:=(data.length:Int)+more) c3
    have hR:jJ data.length more.toNat at_:=⟨h.c,by omega,fun i hi=>by have:=ha i hi;omega,q2⟩
    have hk:cN pieces=0:=Bs (fun s hs=>by
     obtain ⟨k,hk,rfl⟩:=afJ hs
     have:=aZ k (by omega)
     unfold gd at this;rw [aeL hk] at this
     simp at this;unfold gd at s1;omega) fun s hs=>by
     obtain ⟨k,hk,rfl⟩:=afJ hs
     have:=aZ k (by omega)
     rw [aZ 0 (by omega), <-this];unfold gd;rw [aeL hk];rfl
    have e:=hR.Oi (pieces:=pieces) (by omega) hk
    rw [show ((more.toNat:Nat):Int)=more by omega] at e
    rw [e]
    refine ⟨fun _=> ?_, .inl rfl⟩
    have hb:=hR.back (pieces:=pieces) (data:=data) (L:=(gd ByteArray.empty data 0).size) (by omega) (fun t ht=>aZ t (by omega)) rfl s2 fun t j ht hj=>by
     have:=hR.oM ht
     have e2:=h.all (t:=(gd 0 at_ t).toNat) (j:=j) this.2 hj
     rw [show mm data.length (fun i j=>k6 data.length more.toNat (gd 0 at_ i).toNat j) (iM data) t j=mm data.length (k6 data.length more.toNat) (iM data) (gd 0 at_ t).toNat j from rfl, <-e2, <-hp]
     unfold iM
     rw [Om (by omega)]
    rw [show ((more.toNat:Nat):Int)=more by omega] at hb
    exact hb
   ·have e:dG data.length more at_ pieces=([],6):=by
     unfold dG
     rw [aeE (by omega),aeE (by omega),aeE c1,aeE c2,aeG (by unfold lO;omega)]
     unfold lO;rw [c3]
    rw [e];simp
theorem Hq {α:Type} {d:α} {l:List α} {x:α} (h:x∈l):∃k,k<l.length/\x=gd d l k:=by
 obtain ⟨k,hk,rfl⟩:=afJ h
 exact ⟨k,hk,by unfold gd;rw [aeL hk];rfl⟩
theorem k7.mk' {data:List BA} {more:Int} {L:Nat} (h1:1<=data.length) (h2:data.length<=8) (hm:1<=more/\more<=6) (hL:L<=64) (hs:∀t,t<data.length->(gd ByteArray.empty data t).size=L):k7 data more:=by
 refine ⟨⟨h1,h2,by omega,by omega⟩,hm,Bs (fun s hx=> ?_) fun s hx=> ?_⟩
 ·obtain ⟨k,hk,rfl⟩:=Hq (d:=ByteArray.empty) hx
  rw [hs k hk];exact hL
 ·obtain ⟨k,hk,rfl⟩:=Hq (d:=ByteArray.empty) hx
  rw [hs k hk,hs 0 (by omega)]
open Go.RowKit
theorem On {v:ah} (k:v.K) {no ver:Int} {all:List BA} {j:Nat} (hj:j<v.nodes.length):∀{m:Nat},(m:Int)<=v.layout.data+v.layout.more->gd (⟨false,[]⟩:Shelf) (eS v no ver all m) j=if v.layout.pc no j<m/\(gd (⟨false,[]⟩:Shelf) v.nodes j).up=true then ⟨true,(gd (⟨false,[]⟩:Shelf) v.nodes j).pieces.set no.toNat ⟨ver,gd ByteArray.empty all (v.layout.pc no j).toNat⟩⟩ else gd (⟨false,[]⟩:Shelf) v.nodes j
 |0,_=>by
  have:=(k.lay.pc no j).1
  rw [aeE (by omega)];rfl
 |m+1,hm=>by
  have ih:=On k (no:=no) (ver:=ver) (all:=all) hj (m:=m) (by omega)
  have nd:=k.lay.node no m
  have kn:=k.jc
  have iff:=sT k.lay (s:=no) (p:=(m:Int)) (n:=(j:Int)) ⟨by omega,by have:=k.lay.s;omega⟩ ⟨by omega,by omega⟩
  unfold eS
  by_cases e:(v.layout.node no m).toNat=j
  ·have e2:v.layout.pc no j=m:=iff.1 (by omega)
   have e3:gd (⟨false,[]⟩:Shelf) (eS v no ver all m) j=gd (⟨false,[]⟩:Shelf) v.nodes j:=by rw [ih,aeE (by omega)]
   rw [e,e3]
   by_cases u:(gd (⟨false,[]⟩:Shelf) v.nodes j).up=true
   ·rw [aeG u,fv (by rw [lR];exact hj),aeG rfl,aeG ⟨by omega,u⟩,e2];rfl
   ·rw [aeE u,e3,aeE (fun h=>u h.2)]
  ·have e2:¬v.layout.pc no j=m:=fun h=>e (by have:=iff.2 h;omega)
   have e3:∀x:Shelf,gd (⟨false,[]⟩:Shelf) ((eS v no ver all m).set (v.layout.node no m).toNat x) j=gd (⟨false,[]⟩:Shelf) (eS v no ver all m) j:=fun x=>by
    rw [fv (by rw [lR];omega),aeE e]
   have e4:(v.layout.pc no j<((m+1:Nat):Int)/\(gd (⟨false,[]⟩:Shelf) v.nodes j).up=true)↔(v.layout.pc no j<(m:Int)/\(gd (⟨false,[]⟩:Shelf) v.nodes j).up=true):=by
    constructor
    ·intro ⟨a,b⟩;exact ⟨by omega,b⟩
    ·intro ⟨a,b⟩;exact ⟨by omega,b⟩
   have e5:(if v.layout.pc no j<((m+1:Nat):Int)/\(gd (⟨false,[]⟩:Shelf) v.nodes j).up=true then (⟨true,(gd (⟨false,[]⟩:Shelf) v.nodes j).pieces.set no.toNat ⟨ver,gd ByteArray.empty all (v.layout.pc no j).toNat⟩⟩:Shelf) else gd (⟨false,[]⟩:Shelf) v.nodes j)=if v.layout.pc no j<(m:Int)/\(gd (⟨false,[]⟩:Shelf) v.nodes j).up=true then (⟨true,(gd (⟨false,[]⟩:Shelf) v.nodes j).pieces.set no.toNat ⟨ver,gd ByteArray.empty all (v.layout.pc no j).toNat⟩⟩:Shelf) else gd (⟨false,[]⟩:Shelf) v.nodes j:=by
    by_cases q:v.layout.pc no j<(m:Int)/\(gd (⟨false,[]⟩:Shelf) v.nodes j).up=true
    ·rw [aeG q,aeG (e4.2 q)]
    ·rw [aeE q,aeE (mt e4.1 q)]
   rw [e5, <-ih]
   split
   ·exact e3 _
   ·rfl
structure eu (v:ah) (b:Int) (dt:BA):Prop where
 p:dH v b=0
 s:(dt.size:Int)=v.size
 d:(bR v (b / v.layout.data)).2=0
 m:¬gd 0 v.versions (b / v.layout.data).toNat=1000000
theorem adj {b:Int} (h:(bw v b dt).2=0):eu v b dt/\bw v b dt=(bY v b dt,0):=by
 unfold bw at h ⊢
 split at h
 ·rename_i h1;exact absurd h h1
 ·rename_i h1
  have h1:=af2.1 h1
  rw [aeE (by rw [h1];simp)]
  refine ⟨?_,rfl⟩
  unfold nI at h1
  split at h1;(rename_i a;exact absurd h1 a)
  rename_i a
  split at h1;simp at h1
  rename_i b
  split at h1;(rename_i c;exact absurd h1 c)
  rename_i c
  split at h1;simp at h1
  rename_i d
  exact ⟨af2.1 a,af2.1 b,af2.1 c,d⟩
section
variable {v:ah} {b:Int} {dt:BA}
theorem eu.k (h:eu v b dt):v.K:=(sZ h.p).1
theorem eu.bd (h:eu v b dt):0<=b / v.layout.data/\b / v.layout.data<v.versions.length/\0<=b%v.layout.data/\b%v.layout.data<v.layout.data/\0<=b/\b<v.versions.length*v.layout.data:=by
 obtain ⟨k,a2,a3,a4,a5,a6,a7⟩:=sZ h.p
 exact ⟨a4,a5,a6,a7,a2,a3⟩
theorem eu.ver (h:eu v b dt):1<=gd 0 v.versions (b / v.layout.data).toNat/\gd 0 v.versions (b / v.layout.data).toNat<1000000:=by
 have:=h.k.ver _ (eV (d:=(0:Int)) (xs:=v.versions) (i:=(b / v.layout.data).toNat) (by have:=h.bd;omega))
 have:=h.m
 omega
theorem eu.len (h:eu v b dt):((dm v b dt).length:Int)=v.layout.data:=(NM h.p h.s h.d).1
theorem eu.sz (h:eu v b dt):∀x,x∈dm v b dt->(x.size:Int)=v.size:=fun x hx=>by
 have hb:=h.bd
 unfold dm at hx
 rcases agF hx with e|e
 ·exact NL h.k hb.1 hb.2.1 h.d x e
 ·rw [e];exact h.s
theorem eu.en (h:eu v b dt):k7 (dm v b dt) v.layout.more:=by
 have hl:=h.len;have hd:=h.k.lay.d;have hm:=h.k.lay.m;have hz:=h.k.mF
 refine k7.mk' (L:=v.size.toNat) (by omega) (by omega) hm (by omega) fun t ht=> ?_
 have:=h.sz _ (eV (d:=ByteArray.empty) ht)
 omega
theorem eu.all (h:eu v b dt) (ht:(t:Int)<v.layout.data+v.layout.more):((gd ByteArray.empty (kZ v b dt) t).size:Int)=v.size:=by
 have hl:=h.len;have hd:=h.k.lay.d;have hm:=h.k.lay.m
 have e:=h.en.mF.2.2 t (by omega)
 have:=h.sz _ (eV (d:=ByteArray.empty) (xs:=dm v b dt) (i:=0) (by omega))
 have e:(gd ByteArray.empty (kZ v b dt) t).size=(gd ByteArray.empty (dm v b dt) 0).size:=e
 omega
theorem eu.up (h:eu v b dt) (m:Nat) (hm:m<v.nodes.length):(gd (⟨false,[]⟩:Shelf) (bY v b dt).nodes m).up=(gd (⟨false,[]⟩:Shelf) v.nodes m).up:=(uS hm).1
theorem eu.at_ (h:eu v b dt) {m s:Int} (m0:0<=m) (m1:m<v.nodes.length) (s0:0<=s):(bY v b dt).at_ m s=if s=b / v.layout.data/\v.layout.has (b / v.layout.data) m=true/\(gd (⟨false,[]⟩:Shelf) v.nodes m.toNat).up=true then ⟨gd 0 v.versions (b / v.layout.data).toNat+1,gd ByteArray.empty (kZ v b dt) (v.layout.pc (b / v.layout.data) m).toNat⟩ else v.at_ m s:=by
 have hb:=h.bd
 have hd:=h.k.lay.d;have hm:=h.k.lay.m
 have e:=On h.k (no:=b / v.layout.data) (ver:=gd 0 v.versions (b / v.layout.data).toNat+1) (all:=kZ v b dt) (j:=m.toNat) (by omega) (m:=(v.layout.data+v.layout.more).toNat) (by omega)
 have em:((m.toNat:Nat):Int)=m:=by omega
 rw [em] at e
 have hh:v.layout.has (b / v.layout.data) m=true↔v.layout.pc (b / v.layout.data) m<(((v.layout.data+v.layout.more).toNat:Nat):Int):=by
  unfold aO.has;rw [agG,show (((v.layout.data+v.layout.more).toNat:Nat):Int)=v.layout.data+v.layout.more by omega]
 unfold ah.at_ bY
 show gd _ (gd _ (eS _ _ _ _ _) _).pieces _=_
 rw [e]
 by_cases q:v.layout.pc (b / v.layout.data) m<(((v.layout.data+v.layout.more).toNat:Nat):Int)/\(gd (⟨false,[]⟩:Shelf) v.nodes m.toNat).up=true
 ·rw [aeG q]
  show gd _ (List.set _ _ _) _=_
  have hl:=h.k.pre.shl m0 m1
  rw [fv (by rw [hl];omega)]
  by_cases e2:s=b / v.layout.data
  ·rw [aeG (by rw [e2]),aeG ⟨e2,hh.2 q.1,q.2⟩]
  ·rw [aeE (by omega),aeE (fun hx=>e2 hx.1)]
 ·rw [aeE q,aeE (fun hx=>q ⟨hh.1 hx.2.1,hx.2.2⟩)]
theorem eu.vs (h:eu v b dt) (s0:0<=s):gd 0 (bY v b dt).versions s.toNat=if b / v.layout.data=s then gd 0 v.versions (b / v.layout.data).toNat+1 else gd 0 v.versions s.toNat:=by
 have hb:=h.bd
 unfold bY
 show gd 0 (v.versions.set _ _) _=_
 rw [fv (by omega)]
 by_cases e:b / v.layout.data=s
 ·rw [aeG (by rw [e]),aeG e]
 ·rw [aeE (by omega),aeE e]
theorem eu.K (h:eu v b dt):(bY v b dt).K:=by
 have hb:=h.bd
 have k:=h.k
 have hv:=h.ver
 have lh:(bY v b dt).nodes.length=v.nodes.length:=lR
 have s8:(bY v b dt).versions.length=v.versions.length:=by unfold bY;simp
 refine ⟨k.lay,k.mF,by rw [s8];exact k.str,fun x hx=> ?_,by rw [lh];exact k.jc,fun x hx=> ?_,fun m s a c d e=> ?_⟩
 ·unfold bY at hx
  rcases agF hx with e|e
  ·exact k.ver x e
  ·rw [e];omega
 ·obtain ⟨j,hj,rfl⟩:=Hq (d:=(⟨false,[]⟩:Shelf)) hx
  rw [lh] at hj
  rw [s8]
  have:=(uS (v:=v) (no:=b / v.layout.data) (ver:=gd 0 v.versions (b / v.layout.data).toNat+1) (all:=kZ v b dt) (k:=(v.layout.data+v.layout.more).toNat) hj).2
  exact this.trans (k.uF _ (eV hj))
 ·rw [lh] at c
  rw [s8] at e
  have ok:=Hj.1 (k.ok m s a c d e)
  rw [Hj,h.at_ a c d,h.vs d]
  obtain ⟨o1,o2,o3,o4⟩:=ok
  by_cases q:s=b / v.layout.data/\v.layout.has (b / v.layout.data) m=true/\(gd (⟨false,[]⟩:Shelf) v.nodes m.toNat).up=true
  ·rw [aeG q,aeG q.1.symm]
   have hp:=k.lay.pc (b / v.layout.data) m
   have hh:=q.2.1
   unfold aO.has at hh
   rw [agG] at hh
   refine ⟨fun hx=> ?_,fun _=> ?_,by show 0<=gd 0 v.versions _+1;omega,afO _⟩
   ·have hx:v.layout.has s m=false:=hx
    rw [q.1,q.2.1] at hx;simp at hx
   ·exact h.all (by omega)
  ·rw [aeE q]
   refine ⟨o1,o2,o3, ?_⟩
   by_cases e2:b / v.layout.data=s
   ·rw [aeG e2];rw [<-e2] at o4;rw [<-e2];omega
   ·rw [aeE e2];exact o4
theorem eu.Oo (h:eu v b dt) (s0:0<=s) (s1:s<v.versions.length) (hm:m<v.nodes.length):frN (bY v b dt) s m=if s=b / v.layout.data then (v.layout.has (b / v.layout.data) m&&(gd (⟨false,[]⟩:Shelf) v.nodes m).up) else frN v s m:=by
 have hv:=h.ver
 have hb:=h.bd
 unfold frN
 rw [h.up m hm,h.at_ (m:=(m:Int)) (by omega) (by omega) s0,h.vs s0,agd]
 by_cases e:s=b / v.layout.data
 ·rw [aeG e,aeG e.symm]
  have ok:=Hj.1 (h.k.ok m (b / v.layout.data) (by omega) (by omega) hb.1 hb.2.1)
  obtain ⟨o1,o2,o3,o4⟩:=ok
  cases hu:(gd (⟨false,[]⟩:Shelf) v.nodes m).up with
  |false=>simp
  |true=>
   cases hh:v.layout.has (b / v.layout.data) m with
   |true=>
    rw [aeG ⟨e,rfl,rfl⟩];simp
   |false=>
    rw [aeE (fun hx=>by simp at hx)]
    have:=(o1 hh).1
    rw [e,this]
    have:¬(0:Int)=gd 0 v.versions (b / v.layout.data).toNat+1:=by omega
    simp [this]
 ·rw [aeE e,aeE (fun hx=>e hx.1),aeE (fun hx=>e hx.symm)]
end
theorem adk {k:Nat} (h:∀p:Nat,p<k->bP w no p=bP v no p):ck w no k=ck v no k:=by
 unfold ck
 congr 1
 exact List.filter_congr fun p hp=>h p (ae6.1 hp)
theorem adl (hl:w.layout=v.layout) (h1:∀p:Nat,(p:Int)<v.layout.data+v.layout.more->bP w no p=bP v no p) (h2:∀p:Int,0<=p->p<v.layout.data+v.layout.more->fh w no p=fh v no p):bR w no=bR v no:=by
 have e:bC w no=bC v no:=by
  unfold bC gh
  rw [hl,adk fun p hp=>h1 p (by omega)]
 have e2:(bC w no).map (fh w no)=(bC v no).map (fh v no):=by
  rw [e]
  refine afR fun p hp=> ?_
  have:=yh p hp
  exact h2 p this.1 (by omega)
 unfold bR
 rw [e2,e,hl]
theorem adm {data:List BA} {at_:List Int} (h:k7 data more) (hl:at_.length=data.length) (ha:∀i,i∈at_->0<=i/\i<data.length+more) (hd:at_.Nodup):dG data.length more at_ (at_.map fun i=>gd ByteArray.empty (jI data more) i.toNat)=(data,0):=by
 have h1:=h.c.n1;have h2:=h.c.n8;have h3:=h.m
 obtain ⟨s1,s2,s3⟩:=h.mF
 have hR:jJ data.length more.toNat at_:=⟨h.c,hl,fun i hi=>by have:=ha i hi;omega,hd⟩
 have aZ:∀x,x∈(at_.map fun i=>gd ByteArray.empty (jI data more) i.toNat)->x.size=(gd ByteArray.empty data 0).size:=fun x hx=>by
  obtain ⟨i,hi,rfl⟩:=ae2.1 hx
  have:=ha i hi
  exact s3 _ (by omega)
 have hk:cN (at_.map fun i=>gd ByteArray.empty (jI data more) i.toNat)=0:=Bs (fun s hs=>by rw [aZ s hs];exact s1) fun s hs=>by
  rw [aZ s hs,aZ _ (eV (d:=ByteArray.empty) (by rw [aeS];omega))]
 have e:=hR.Oi (pieces:=at_.map fun i=>gd ByteArray.empty (jI data more) i.toNat) (by rw [aeS]) hk
 rw [show ((more.toNat:Nat):Int)=more by omega] at e
 have zd:=adi h ha
 rw [e] at zd ⊢
 exact Prod.ext (zd.1 rfl) rfl
theorem adn {k:Nat}:(gh v no k).Nodup:=by
 unfold gh ck
 refine List.Nodup.sublist (List.take_sublist _ _) ?_
 have:((List.range k).filter fun p:Nat=>bP v no p).Nodup:=List.Pairwise.filter _ List.nodup_range
 exact List.Pairwise.map _ (fun a b m9 e=>m9 (by omega)) this
theorem ado (h:(bR v no).2=0):v.layout.data<=((bC v no).length:Int):=by
 unfold bR at h
 split at h
 ·simp at h
 ·rename_i c;omega
section
variable {v:ah} {b:Int} {dt:BA}
theorem eu.Hr (h:eu v b dt) (s0:0<=s) (s1:s<v.versions.length) (p0:0<=p) (p1:p<v.layout.data+v.layout.more):bP (bY v b dt) s p=if s=b / v.layout.data then (gd (⟨false,[]⟩:Shelf) v.nodes (v.layout.node s p).toNat).up else bP v s p:=by
 have nd:=h.k.lay.node s p
 have kn:=h.k.jc
 rw [Hi (v:=bY v b dt) h.K.lay,Hi h.k.lay]
 show frN (bY v b dt) s (v.layout.node s p).toNat=_
 rw [h.Oo s0 s1 (by omega)]
 by_cases e:s=b / v.layout.data
 ·rw [aeG e,aeG e]
  have e2:=(sT h.k.lay (s:=s) (p:=p) ⟨p0,by have:=h.k.lay.s;omega⟩ nd).1 rfl
  have:v.layout.has (b / v.layout.data) ((v.layout.node s p).toNat:Nat)=true:=by
   unfold aO.has
   rw [<-e,show (((v.layout.node s p).toNat:Nat):Int)=v.layout.node s p by omega,e2]
   exact af3 p1
  rw [this];rfl
 ·rw [aeE e,aeE e]
theorem eu.data (h:eu v b dt):bR (bY v b dt) (b / v.layout.data)=(dm v b dt,0):=by
 have hb:=h.bd
 have hl:=h.len
 have hd:=h.k.lay.d;have hm:=h.k.lay.m
 have kn:=h.k.jc
 have rh:v.layout.data<=((ck (bY v b dt) (b / v.layout.data) (v.layout.data+v.layout.more).toNat).length:Int):=by
  have h1:=ado h.d
  have h2:(bC v (b / v.layout.data)).length<=(ck v (b / v.layout.data) (v.layout.data+v.layout.more).toNat).length:=by unfold bC gh;rw [afu];omega
  have h3:(ck v (b / v.layout.data) (v.layout.data+v.layout.more).toNat).length<=(ck (bY v b dt) (b / v.layout.data) (v.layout.data+v.layout.more).toNat).length:=by
   unfold ck
   rw [aeS,aeS, <-List.countP_eq_length_filter, <-List.countP_eq_length_filter]
   refine List.countP_mono_left fun p hp hf=> ?_
   have hp:=ae6.1 hp
   have e:=h.Hr hb.1 hb.2.1 (p:=(p:Int)) (by omega) (by omega)
   rw [aeG rfl] at e
   have hf:bP v (b / v.layout.data) p=true:=hf
   show bP (bY v b dt) _ p=true
   rw [e]
   unfold bP at hf
   exact (af1 hf).1
  omega
 have o0:(bC (bY v b dt) (b / v.layout.data)).length=v.layout.data.toNat:=by
  unfold bC gh
  rw [afu]
  have aeq:v.layout.data.toNat<=(ck (bY v b dt) (b / v.layout.data) (v.layout.data+v.layout.more).toNat).length:=by omega
  show min v.layout.data.toNat (ck (bY v b dt) (b / v.layout.data) (v.layout.data+v.layout.more).toNat).length=_
  omega
 have dR:∀p,p∈bC (bY v b dt) (b / v.layout.data)->(0<=p/\p<v.layout.data+v.layout.more)/\bP (bY v b dt) (b / v.layout.data) p=true:=fun p hp=>by
  have h1:=yh p hp
  have h1:0<=p/\p<(v.layout.data+v.layout.more).toNat:=h1
  refine ⟨⟨h1.1,by omega⟩, ?_⟩
  have hp:p∈gh _ _ _:=hp
  unfold gh ck at hp
  obtain ⟨q,hq,rfl⟩:=ae2.1 (List.mem_of_mem_take hp)
  exact (List.mem_filter.1 hq).2
 have hpc:(bC (bY v b dt) (b / v.layout.data)).map (fh (bY v b dt) (b / v.layout.data))=(bC (bY v b dt) (b / v.layout.data)).map fun i=>gd ByteArray.empty (jI (dm v b dt) v.layout.more) i.toNat:=by
  refine afR fun p hp=> ?_
  obtain ⟨⟨p0,p1⟩,hf⟩:=dR p hp
  have nd:=h.k.lay.node (b / v.layout.data) p
  rw [h.Hr hb.1 hb.2.1 p0 p1,aeG rfl] at hf
  have e2:=(sT h.k.lay (s:=b / v.layout.data) (p:=p) ⟨p0,by have:=h.k.lay.s;omega⟩ nd).1 rfl
  have hh:v.layout.has (b / v.layout.data) (v.layout.node (b / v.layout.data) p)=true:=by
   unfold aO.has;rw [e2];exact af3 p1
  show ((bY v b dt).at_ (v.layout.node (b / v.layout.data) p) (b / v.layout.data)).data=_
  rw [h.at_ nd.1 (by omega) hb.1,aeG ⟨rfl,hh,hf⟩,e2]
  rfl
 unfold bR
 show (if ((bC (bY v b dt) (b / v.layout.data)).length:Int)<v.layout.data then ([],8) else dG v.layout.data v.layout.more (bC (bY v b dt) (b / v.layout.data)) _)=_
 rw [aeE (by omega),hpc]
 have:=adm h.en (at_:=bC (bY v b dt) (b / v.layout.data)) (by omega) (fun p hp=>by have:=(dR p hp).1;omega) adn
 rw [hl] at this
 exact this
theorem eu.other (h:eu v b dt) (s0:0<=s) (s1:s<v.versions.length) (hs:¬s=b / v.layout.data):bR (bY v b dt) s=bR v s:=by
 have kn:=h.k.jc
 refine adl rfl (fun p hp=> ?_) fun p p0 p1=> ?_
 ·rw [h.Hr s0 s1 (by omega) hp,aeE hs]
 ·have nd:=h.k.lay.node s p
  show ((bY v b dt).at_ (v.layout.node s p) s).data=_
  rw [h.at_ nd.1 (by omega) s0,aeE (fun hx=>hs hx.1)]
  rfl
end
def rF (v:ah) (no:Int) (k:Nat):Nat:=(List.range k).countP fun j:Nat=>v.layout.has no j&&(gd (⟨false,[]⟩:Shelf) v.nodes j).up
theorem adq {k:Nat}:rF v no (k+1)=rF v no k+if v.layout.has no k=true/\(gd (⟨false,[]⟩:Shelf) v.nodes k).up=true then 1 else 0:=by
 unfold rF
 rw [List.range_succ,List.countP_append]
 congr 1
 rw [List.countP_singleton]
 simp
theorem adr {k:Nat}:rF v no k<=k:=by
 have:=List.countP_le_length (p:=fun j:Nat=>v.layout.has no j&&(gd (⟨false,[]⟩:Shelf) v.nodes j).up) (l:=List.range k)
 rw [List.length_range] at this;exact this
theorem Oq:∀(k x:Nat),bsize k x=(List.range k).countP fun i=>x.testBit i
 |0,x=>rfl
 |k+1,x=>by
  rw [bsize,Oq k (x / 2),List.range_succ_eq_map,List.countP_cons,List.countP_map]
  have e:(fun i=>(x / 2).testBit i)=((fun i=>x.testBit i)∘Nat.succ):=by
   funext i;simp [Nat.testBit_succ]
  rw [e,Nat.add_comm]
  congr 1
  rw [Nat.testBit_zero]
  rcases Nat.mod_two_eq_zero_or_one x with h|h<;>rw [h]<;>simp
theorem Ot {f g:Nat->Bool} {m:Nat} (h1:∀i,i<m->f i=g i) (h2:∀i,m<=i->f i=false):∀d:Nat,(List.range (m+d)).countP f=(List.range m).countP g
 |0=>List.countP_congr fun i hi=>by rw [h1 i (ae6.1 hi)]
 |d+1=>by
  rw [<-Nat.add_assoc,List.range_succ,List.countP_append,Ot h1 h2 d,List.countP_singleton,h2 (m+d) (by omega)];simp
theorem ads (k:v.K) {f:Nat->Bool} (h:∀n,n<v.nodes.length->(v.layout.has no n&&frN v no n)=f n):dI (iw v no).n=(List.range v.nodes.length).countP f:=by
 have hb:=k.bd
 have kn:=k.jc
 unfold dI
 rw [Oq]
 have:=Ot (f:=fun i=>(iw v no).n.testBit i) (g:=f) (m:=v.nodes.length) (fun i hi=>by
  show (iw v no).n.testBit i=_
  rw [N5 k.lay, <-h i hi]
  have kF:(i:Int)<v.layout.nodes:=by omega
  cases v.layout.has no i<;>cases frN v no i<;>simp [kF]) (fun i hi=>by
  show (iw v no).n.testBit i=_
  rw [N5 k.lay]
  exact agu (fun hx=>by omega)) (64 - v.nodes.length)
 rw [show v.nodes.length+(64 - v.nodes.length)=64 by omega] at this
 exact this
theorem Ht {b:Int} (k:v.K):br v b=if ¬(0<=b/\b<=v.versions.length*v.layout.data - 1) then (ByteArray.empty,3) else if ¬(bR v (b / v.layout.data)).2=0 then (ByteArray.empty,(bR v (b / v.layout.data)).2) else (gd ByteArray.empty (bR v (b / v.layout.data)).1 (b%v.layout.data).toNat,0):=by
 have e:dH v b=if ¬(0<=b/\b<=v.versions.length*v.layout.data - 1) then 3 else 0:=by unfold dH;rw [aeE (by rw [rk.2 k];simp)]
 unfold br
 by_cases h:0<=b/\b<=v.versions.length*v.layout.data - 1
 ·have e0:dH v b=0:=by rw [e,aeE (fun hx=>hx h)]
  have nn:¬¬(0<=b/\b<=v.versions.length*v.layout.data - 1):=fun hx=>hx h
  rw [aeE (by rw [e0];simp),aeE nn]
 ·have e0:dH v b=3:=by rw [e,aeG h]
  rw [e0,aeG (by simp),aeG h]
theorem adt {v:ah} {b other:Int} {dt:BA} (h:(bw v b dt).2=0):v.K/\(bw v b dt).1=bY v b dt/\bT (bY v b dt)=0/\br (bY v b dt) b=(dt,0)/\(¬other=b->(br v other).2=0->br (bY v b dt) other=br v other)/\(0<=b / v.layout.data/\b / v.layout.data<v.versions.length/\b / v.layout.data<=63/\0<=b/\b<=512)/\oN (bY v b dt) (b / v.layout.data)=(iw (bY v b dt) (b / v.layout.data),0)/\dI (iw (bY v b dt) (b / v.layout.data)).n=rF v (b / v.layout.data) v.nodes.length/\gd 0 (bY v b dt).versions (b / v.layout.data).toNat=gd 0 v.versions (b / v.layout.data).toNat+1:=by
 obtain ⟨hw,e⟩:=adj h
 have hb:=hw.bd
 have k:=hw.k
 have K:=hw.K
 have s8:(bY v b dt).versions.length=v.versions.length:=by unfold bY;simp
 have sa:=Nw k
 have kd:=k.lay.d
 have hlen:=hw.len
 have kst:=k.str
 have PI:((bR v (b / v.layout.data)).1.length:Int)=v.layout.data:=BR hw.d
 refine ⟨k,by rw [e],rk.2 K, ?_,fun ho hr=> ?_,⟨hb.1,hb.2.1,by omega,hb.2.2.2.2.1,by omega⟩, ?_, ?_, ?_⟩
 ·rw [Ht K]
  show (if ¬(0<=b/\b<=(bY v b dt).versions.length*v.layout.data - 1) then (ByteArray.empty,(3:Int)) else if ¬(bR (bY v b dt) (b / v.layout.data)).2=0 then (ByteArray.empty,(bR (bY v b dt) (b / v.layout.data)).2) else (gd ByteArray.empty (bR (bY v b dt) (b / v.layout.data)).1 (b%v.layout.data).toNat,0))=_
  rw [s8,aeE (by omega),hw.data,aeE (by simp)]
  show (gd ByteArray.empty (List.set _ _ _) _,(0:Int))=_
  rw [fv (by omega),aeG rfl]
 ·rw [Ht k] at hr ⊢
  rw [Ht K]
  by_cases c9:0<=other/\other<=v.versions.length*v.layout.data - 1
  ·have nn:¬¬(0<=other/\other<=v.versions.length*v.layout.data - 1):=fun hx=>hx c9
   rw [aeE nn] at hr
   have s0:0<=other / v.layout.data:=Int.ediv_nonneg c9.1 (by omega)
   have s1:other / v.layout.data<v.versions.length:=Int.ediv_lt_of_lt_mul (by omega) (by omega)
   show (if ¬(0<=other/\other<=(bY v b dt).versions.length*v.layout.data - 1) then (ByteArray.empty,(3:Int)) else if ¬(bR (bY v b dt) (other / v.layout.data)).2=0 then (ByteArray.empty,(bR (bY v b dt) (other / v.layout.data)).2) else (gd ByteArray.empty (bR (bY v b dt) (other / v.layout.data)).1 (other%v.layout.data).toNat,0))=_
   rw [s8,aeE nn,aeE nn]
   by_cases hs:other / v.layout.data=b / v.layout.data
   ·rw [hs,hw.data]
    rw [aeE (by simp),aeE (by rw [hw.d];simp)]
    show (gd ByteArray.empty (List.set _ _ _) _,(0:Int))=_
    have m0:=Int.emod_nonneg other (show v.layout.data≠0 by omega)
    have m1:=Int.emod_lt_of_pos other (show 0<v.layout.data by omega)
    have aI:¬b%v.layout.data=other%v.layout.data:=fun hx=>ho (by
     have q1:=Int.emod_add_mul_ediv other v.layout.data
     have q2:=Int.emod_add_mul_ediv b v.layout.data
     rw [hs, <-hx] at q1
     omega)
    rw [fv (by omega),aeE (by omega)]
   ·rw [hw.other s0 s1 hs]
  ·rw [aeG c9] at hr;simp at hr
 ·rw [ac0 K,s8,aeG ⟨hb.1,hb.2.1⟩]
 ·have lh:(bY v b dt).nodes.length=v.nodes.length:=lR
  have:=ads K (no:=b / v.layout.data) (f:=fun j:Nat=>v.layout.has (b / v.layout.data) j&&(gd (⟨false,[]⟩:Shelf) v.nodes j).up) fun n hn=>by
   rw [lh] at hn
   rw [hw.Oo hb.1 hb.2.1 hn,aeG rfl]
   show (v.layout.has _ _&&_)=_
   cases v.layout.has (b / v.layout.data) n<;>simp
  rw [lh] at this
  exact this
 ·rw [hw.vs hb.1,aeG rfl]
def adu:LG Bd:=LG.via (LG.prod LG.i64 (LG.prod LG.i64 (LG.prod LG.i64 LG.i64)))
def adv:LG q9:=LG.via (LG.prod LG.i64 LG.str)
def adw:LG xy:=LG.via (LG.prod LG.j4 (LG.list adv))
def adx:LG Be:=LG.via (LG.prod adu (LG.prod LG.i64 (LG.prod (LG.list LG.i64) (LG.list adw))))
open Go.RowKit
theorem Ou {n:Int} (h:¬(bw v n dt).2=0):(bw v n dt).1=⟨⟨0,0,0,0⟩,0,[],[]⟩:=by
 unfold bw at h ⊢
 split;rfl
 rename_i h1
 rw [aeE h1] at h
 exact absurd rfl h
open Go.RowKit
def yx (v:ah) (b:Int) (dt:ByteArray) (k:Int) (m:Int):Prop:=(bw v b dt).2=0/\0<=k/\k<=v.nodes.length/\m=(rF v (b / v.layout.data) k.toNat:Int)
def Ov:bj Tc Tc.dn:=⟨3,[.ty .ff, .ty .aA, .ty .fZ, .ty .aA],fun x=>(fun (v:ah) (b:Int) (dt:ByteArray) (other:Int)=>True) x.1 x.2.1 x.2.2.1 x.2.2.2.1,[.eC],fun x=>(fun (v:ah) (b:Int) (dt:ByteArray) (other:Int)=>true) x.1 x.2.1 x.2.2.1 x.2.2.2.1⟩
abbrev bI (v:ah) (b:Int) (dt:ByteArray):=(oN (bw v b dt).fst (b.tdiv v.layout.data))
abbrev Cp (v:ah) (b:Int) (dt:ByteArray):=((br (bw v b dt).fst b).snd=(0:Int)/\(br (bw v b dt).fst b).fst=dt->(br (bw v b dt).fst b).snd=(0:Int)/\(br (bw v b dt).fst b).fst=dt)
theorem ady (v:ah) (b:Int) (dt:ByteArray) (other:Int):True/\True/\(true= !true->false=true)/\(true= !false->(¬(bw v b dt).snd=(0:Int)->(bw v b dt).fst.sm/\decide ((bw v b dt).fst=ah.mk (aO.mk (0:Int) (0:Int) (0:Int) (0:Int)) (0:Int) [] [])=true)/\((bw v b dt).snd=(0:Int)->True/\True/\True/\((br (bw v b dt).fst b).snd=(0:Int)->(br (bw v b dt).fst b).snd=(0:Int))/\((br (bw v b dt).fst b).snd=(0:Int)->(br (bw v b dt).fst b).snd=(0:Int))/\((br (bw v b dt).fst b).snd=(0:Int)->(br (bw v b dt).fst b).snd=(0:Int))/\(Cp v b dt)/\((br (bw v b dt).fst b).snd=(0:Int)/\(br (bw v b dt).fst b).fst=dt->True)/\(Cp v b dt)/\(Cp v b dt)/\((¬(br (bw v b dt).fst b).snd=(0:Int)\/¬(br (bw v b dt).fst b).fst=dt)\/¬bT (bw v b dt).fst=(0:Int)->false=true)/\(((br (bw v b dt).fst b).snd=(0:Int)/\(br (bw v b dt).fst b).fst=dt)/\bT (bw v b dt).fst=(0:Int)->(¬other=b->¬other=b)/\(¬other=b->¬other=b)/\(¬other=b/\(br v other).snd=(0:Int)->¬other=b/\(br v other).snd=(0:Int))/\(¬other=b/\(br v other).snd=(0:Int)->¬other=b/\(br v other).snd=(0:Int))/\((¬other=b/\(br v other).snd=(0:Int))/\(br (bw v b dt).fst other).snd=(0:Int)->(¬other=b/\(br v other).snd=(0:Int))/\(br (bw v b dt).fst other).snd=(0:Int))/\((¬other=b/\(br v other).snd=(0:Int))/\(br (bw v b dt).fst other).snd=(0:Int)->(¬other=b/\(br v other).snd=(0:Int))/\(br (bw v b dt).fst other).snd=(0:Int))/\(¬other=b/\(br v other).snd=(0:Int)->¬other=b/\(br v other).snd=(0:Int))/\(¬other=b/\(br v other).snd=(0:Int)->(br (bw v b dt).fst other).snd=(0:Int)->(¬other=b/\(br v other).snd=(0:Int))/\(br (bw v b dt).fst other).snd=(0:Int))/\(¬other=b/\(br v other).snd=(0:Int)->¬other=b/\(br v other).snd=(0:Int))/\((¬other=b/\(br v other).snd=(0:Int))/\(¬(br (bw v b dt).fst other).snd=(0:Int)\/¬(br v other).fst=(br (bw v b dt).fst other).fst)->false=true)/\((other=b\/¬(br v other).snd=(0:Int))\/(br (bw v b dt).fst other).snd=(0:Int)/\(br v other).fst=(br (bw v b dt).fst other).fst->v.layout.data≠(0:Int)/\aB (b.tdiv v.layout.data)/\True/\yx v b dt (0:Int) (0:Int)/\∀(x af:Int),yx v b dt x af->(x<v.layout.nodes->True/\(¬(v.layout.piece (b.tdiv v.layout.data) x).snd.snd=(0:Int)->false=true)/\((v.layout.piece (b.tdiv v.layout.data) x).snd.snd=(0:Int)->((v.layout.piece (b.tdiv v.layout.data) x).snd.fst=true->(v.layout.piece (b.tdiv v.layout.data) x).snd.fst=true)/\((v.layout.piece (b.tdiv v.layout.data) x).snd.fst=true->(v.layout.piece (b.tdiv v.layout.data) x).snd.fst=true)/\((v.layout.piece (b.tdiv v.layout.data) x).snd.fst=true->(v.layout.piece (b.tdiv v.layout.data) x).snd.fst=true)/\((v.layout.piece (b.tdiv v.layout.data) x).snd.fst=true->(0:Int)<=x/\x<(↑v.nodes.length:Int))/\((v.layout.piece (b.tdiv v.layout.data) x).snd.fst=true->(v.layout.piece (b.tdiv v.layout.data) x).snd.fst=true)/\((v.layout.piece (b.tdiv v.layout.data) x).snd.fst=true->(v.layout.piece (b.tdiv v.layout.data) x).snd.fst=true)/\((v.layout.piece (b.tdiv v.layout.data) x).snd.fst=true->(v.layout.piece (b.tdiv v.layout.data) x).snd.fst=true)/\((v.layout.piece (b.tdiv v.layout.data) x).snd.fst=true/\(gd (Shelf.mk false []) v.nodes x.toNat).up=true->aB (af+(1:Int))/\aB (x+(1:Int))/\yx v b dt (x+(1:Int)) (af+(1:Int))/\((↑v.nodes.length:Int) - (x+(1:Int))).toNat<((↑v.nodes.length:Int) - x).toNat)/\((v.layout.piece (b.tdiv v.layout.data) x).snd.fst=false\/(gd (Shelf.mk false []) v.nodes x.toNat).up=false->aB (x+(1:Int))/\yx v b dt (x+(1:Int)) af/\((↑v.nodes.length:Int) - (x+(1:Int))).toNat<((↑v.nodes.length:Int) - x).toNat)))/\(v.layout.nodes<=x->((bI v b dt).snd=(0:Int)->(bI v b dt).snd=(0:Int))/\((bI v b dt).snd=(0:Int)->True)/\((bI v b dt).snd=(0:Int)->(bI v b dt).snd=(0:Int))/\((bI v b dt).snd=(0:Int)->(bI v b dt).snd=(0:Int))/\((bI v b dt).snd=(0:Int)->(bI v b dt).snd=(0:Int))/\((bI v b dt).snd=(0:Int)/\(↑(dI (bI v b dt).fst.n):Int)=af->(bI v b dt).snd=(0:Int)/\(↑(dI (bI v b dt).fst.n):Int)=af)/\((bI v b dt).snd=(0:Int)/\(↑(dI (bI v b dt).fst.n):Int)=af->(bI v b dt).snd=(0:Int)/\(↑(dI (bI v b dt).fst.n):Int)=af)/\((bI v b dt).snd=(0:Int)/\(↑(dI (bI v b dt).fst.n):Int)=af->(bI v b dt).snd=(0:Int)/\(↑(dI (bI v b dt).fst.n):Int)=af)/\((bI v b dt).snd=(0:Int)/\(↑(dI (bI v b dt).fst.n):Int)=af->(0:Int)<=b.tdiv v.layout.data/\b.tdiv v.layout.data<(↑(bw v b dt).fst.versions.length:Int))/\((bI v b dt).snd=(0:Int)/\(↑(dI (bI v b dt).fst.n):Int)=af->(bI v b dt).snd=(0:Int)/\(↑(dI (bI v b dt).fst.n):Int)=af)/\((bI v b dt).snd=(0:Int)/\(↑(dI (bI v b dt).fst.n):Int)=af->(bI v b dt).snd=(0:Int)/\(↑(dI (bI v b dt).fst.n):Int)=af)/\((bI v b dt).snd=(0:Int)/\(↑(dI (bI v b dt).fst.n):Int)=af->(bI v b dt).snd=(0:Int)/\(↑(dI (bI v b dt).fst.n):Int)=af)/\((bI v b dt).snd=(0:Int)/\(↑(dI (bI v b dt).fst.n):Int)=af->(bI v b dt).snd=(0:Int)/\(↑(dI (bI v b dt).fst.n):Int)=af)/\((bI v b dt).snd=(0:Int)/\(↑(dI (bI v b dt).fst.n):Int)=af->(0:Int)<=b.tdiv v.layout.data/\b.tdiv v.layout.data<(↑v.versions.length:Int))/\((bI v b dt).snd=(0:Int)/\(↑(dI (bI v b dt).fst.n):Int)=af->(bI v b dt).snd=(0:Int)/\(↑(dI (bI v b dt).fst.n):Int)=af)/\((bI v b dt).snd=(0:Int)/\(↑(dI (bI v b dt).fst.n):Int)=af->(bI v b dt).snd=(0:Int)/\(↑(dI (bI v b dt).fst.n):Int)=af)/\((bI v b dt).snd=(0:Int)/\(↑(dI (bI v b dt).fst.n):Int)=af->aB (gd (0:Int) v.versions (b.tdiv v.layout.data).toNat+(1:Int)))/\((bI v b dt).snd=(0:Int)/\(↑(dI (bI v b dt).fst.n):Int)=af->(bI v b dt).snd=(0:Int)/\(↑(dI (bI v b dt).fst.n):Int)=af)/\((bI v b dt).snd=(0:Int)/\(↑(dI (bI v b dt).fst.n):Int)=af->(bI v b dt).snd=(0:Int)/\(↑(dI (bI v b dt).fst.n):Int)=af)/\((bI v b dt).snd=(0:Int)/\(↑(dI (bI v b dt).fst.n):Int)=af->(bI v b dt).snd=(0:Int)/\(↑(dI (bI v b dt).fst.n):Int)=af)/\((bI v b dt).snd==(0:Int)&&(↑(dI (bI v b dt).fst.n):Int)==af&&gd (0:Int) (bw v b dt).fst.versions (b.tdiv v.layout.data).toNat==gd (0:Int) v.versions (b.tdiv v.layout.data).toNat+(1:Int))=true))))):=by
 delta Cp bI
 have h1:= @adt v b other dt
 refine ⟨trivial,trivial,fun h=>by simp at h,fun _=>⟨fun hn=>⟨by rw [Ou hn];exact acZ,by rw [Ou hn];exact af3 rfl⟩,fun hw=> ?_⟩⟩
 obtain ⟨k,g1,g2,g3,g4,g5,g6,g7,g8⟩:=h1 hw
 have t:b.tdiv v.layout.data=b / v.layout.data:=Int.tdiv_eq_ediv_of_nonneg g5.2.2.2.1
 have hk:=k.lay
 have kd:=k.lay.d
 have kn:=k.jc
 have kb:=k.bd
 have km:=k.lay.n
 have vl:(bY v b dt).versions.length=v.versions.length:=by unfold bY;simp
 have vb:=k.ver _ (eV (d:=(0:Int)) (xs:=v.versions) (i:=(b / v.layout.data).toNat) (by omega))
 rw [g1,t,g3,g6]
 refine ⟨trivial,trivial,trivial,fun h=>h,fun h=>h,fun h=>h,fun h=>h,fun _=>trivial,fun h=>h,fun h=>h,fun h=> ?_,fun _=>⟨fun h=>h,fun h=>h,fun h=>h,fun h=>h,fun h=>h,fun h=>h,fun h=>h,fun h h2=>⟨h,h2⟩,fun h=>h,fun h=> ?_,fun _=>⟨by omega,by unfold aB;omega,trivial,⟨hw,by omega,by omega,rfl⟩,fun x m hI=>⟨fun hx=> ?_,fun hx=> ?_⟩⟩⟩⟩
 ·rcases h with (h|h)|h
  ·exact absurd rfl h
  ·exact absurd rfl h
  ·exact absurd g2 h
 ·have e:=g4 h.1.1 h.1.2
  rcases h.2 with h3|h3
  ·exact absurd (by rw [e];exact h.1.2) h3
  ·exact absurd (by rw [e]) h3
 ·obtain ⟨_,x0,x1,xm⟩:=hI
  have hp:=hk.piece (s:=b / v.layout.data) (n:=x) ⟨g5.1,g5.2.2.1⟩ ⟨x0,hx⟩
  have eY:(rF v (b / v.layout.data) (x+1).toNat:Int)=rF v (b / v.layout.data) x.toNat+if v.layout.has (b / v.layout.data) x=true/\(gd (⟨false,[]⟩:Shelf) v.nodes x.toNat).up=true then 1 else 0:=by
   rw [show (x+1).toNat=x.toNat+1 by omega,adq,show ((x.toNat:Nat):Int)=x by omega]
   split<;>simp
  have hle:=adr (v:=v) (no:=b / v.layout.data) (k:=x.toNat)
  rw [hp]
  refine ⟨trivial,fun h=>absurd rfl h,fun _=>⟨fun h=>h,fun h=>h,fun h=>h,fun _=>⟨x0,by omega⟩,fun h=>h,fun h=>h,fun h=>h,fun h=>⟨by unfold aB;omega,by unfold aB;omega,⟨hw,by omega,by omega, ?_⟩,by omega⟩,fun h=>⟨by unfold aB;omega,⟨hw,by omega,by omega, ?_⟩,by omega⟩⟩⟩
  ·rw [eY,aeG h,xm]
  ·rw [eY,aeE (fun q=>h.elim (fun h=>by rw [q.1] at h;simp at h) (fun h=>by rw [q.2] at h;simp at h)),xm];omega
 ·obtain ⟨_,x0,x1,xm⟩:=hI
  have ex:x.toNat=v.nodes.length:=by omega
  rw [ex, <-g7] at xm
  refine ⟨fun h=>h,fun _=>trivial,fun h=>h,fun h=>h,fun h=>h,fun h=>h,fun h=>h,fun h=>h,fun _=>⟨g5.1,by rw [vl];exact g5.2.1⟩,fun h=>h,fun h=>h,fun h=>h,fun h=>h,fun _=>⟨g5.1,g5.2.1⟩,fun h=>h,fun h=>h,fun _=>by unfold aB;omega,fun h=>h,fun h=>h,fun h=>h, ?_⟩
  rw [g8,xm];simp
theorem adz:Ov.Ok Try.prog tD:=bV cQ (Δ:=[Hf,Hc,BT,rr,yk,BV,Bh,G9]) ⟨acX,acQ,Ny,uG,NT,NA,MH,acM,trivial⟩ (Ω:=[]) trivial Ov R6 R7 (fun _=>[]) (fun _=>trivial) 0 (fun x=>(fun (v:ah) (b:Int) (dt:ByteArray) (other:Int)=>(fun k=>bif Nat.beq k 0 then some (.inv [.sl 21 .aA, .sl 20 .aA] (fun zo zv=>(fun (k:Int) (m:Int)=>yx v b dt k m) zv.1 zv.2.1) (fun zo zv=>(fun (k:Int) (m:Int)=>((v.nodes.length:Int) - k).toNat) zv.1 zv.2.1)) else none)) x.1 x.2.1 x.2.2.1 x.2.2.2.1) fun x hp=>Eq.mp (by kernel_rfl) (ady x.1 x.2.1 x.2.2.1 x.2.2.2.1)
theorem VolumeApart_walk {w:World} (v:ah) (Hu:List Value) (rv:aQ.rep w w.heap.size Hu v) (b:Int) (wb:(Lit.int .i64 b).wf=true) (dt:ByteArray) (adA:dt.size<=9223372036854775807) (other:Int) (adB:(Lit.int .i64 other).wf=true):Calls Try.prog 3 #[.agg Hu.toArray,I b, .string dt,I other] w fun e w'=>e= .returned (.bool true)/\Below w.heap.size w w':=by
 have rb:aQ.rep w w.heap.size [I b] b:=⟨rfl,D5 wb⟩
 have rdt:aQ.rep w w.heap.size [.string dt] dt:=⟨rfl,adA⟩
 have adD:aQ.rep w w.heap.size [I other] other:=⟨rfl,D5 adB⟩
 have hf:Fn Try.prog 3 [(tD.en .ff v).av tD.toTE N0,(tD.en .aA b).av tD.toTE N0,(tD.en .fZ dt).av tD.toTE N0,(tD.en .aA other).av tD.toTE N0] (.v (.bool true)):=adz.2 (v,b,dt,other,()) N0 trivial
 exact Wa (vs:=[.agg Hu.toArray,I b, .string dt,I other]) hf trivial (.cons (YZ cQ (t:= .ff) rfl (adx.av rv)) (.cons (FY cQ (t:= .aA) rfl (LG.i64.av rb)) (.cons (FY cQ (t:= .fZ) rfl (LG.str.av rdt)) (.cons (FY cQ (t:= .aA) rfl (LG.i64.av adD)) .nil))))
end Go.Proofs.Ytboaekdecndckaa
