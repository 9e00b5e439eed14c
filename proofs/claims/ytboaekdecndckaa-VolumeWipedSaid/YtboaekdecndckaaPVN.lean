/- What functions answer (contracts). No condition. -/
import Derived.Test.YtboaekdecndckaaPCD
import Derived.Test.YtboaekdecndckaaPFieldM
import Derived.Test.YtboaekdecndckaaPPolE
import Derived.Test.YtboaekdecndckaaPSxK
import Derived.Test.YtboaekdecndckaaPCA
set_option linter.unusedSimpArgs false
set_option linter.unusedVariables false
set_option maxHeartbeats 4000000
set_option maxRecDepth 100000
namespace Go.Proofs.Ytboaekdecndckaa
open Go.RowKit
def wrL (v:Volume) (no ver:Int) (all:List BA):Nat→List Shelf
 |0=>v.nodes
 |k+1=>if (gd (⟨false,[]⟩:Shelf) (wrL v no ver all k) (v.layout.node no k).toNat).up=true then (wrL v no ver all k).set (v.layout.node no k).toNat ⟨true,(gd (⟨false,[]⟩:Shelf) (wrL v no ver all k) (v.layout.node no k).toNat).pieces.set no.toNat ⟨ver,gd ByteArray.empty all k⟩⟩ else wrL v no ver all k
theorem wrL_len {v:Volume} {no ver:Int} {all:List BA}:∀{k:Nat},(wrL v no ver all k).length=v.nodes.length
 |0=>rfl
 |k+1=>by
  unfold wrL
  split
  ·rw [List.length_set];exact wrL_len
  ·exact wrL_len
theorem wrL_same {v:Volume} {no ver:Int} {all:List BA} {n:Nat} (hn:n<v.nodes.length):∀{k:Nat},(gd (⟨false,[]⟩:Shelf) (wrL v no ver all k) n).up=(gd (⟨false,[]⟩:Shelf) v.nodes n).up∧(gd (⟨false,[]⟩:Shelf) (wrL v no ver all k) n).pieces.length=(gd (⟨false,[]⟩:Shelf) v.nodes n).pieces.length
 |0=>⟨rfl,rfl⟩
 |k+1=>by
  have ih:=wrL_same (no:=no) (ver:=ver) (all:=all) hn (k:=k)
  unfold wrL
  split
  ·rename_i e
   by_cases q:(v.layout.node no k).toNat=n
   ·rw [q] at e ⊢
    rw [gd_setV (by rw [wrL_len];exact hn),if_pos rfl]
    exact ⟨e.symm.trans ih.1,by rw [List.length_set];exact ih.2⟩
   ·by_cases q2:(v.layout.node no k).toNat<(wrL v no ver all k).length
    ·rw [gd_setV q2,if_neg q];exact ih
    ·rw [List.set_eq_of_length_le (by omega)];exact ih
  ·exact ih
structure WrI (v:Volume) (no ver:Int) (all:List BA) (k:Int) (K:List ShelfR) (A:ArP):Prop where
 vk:v.K
 s0:0≤no
 s1:no<v.versions.length
 k0:0≤k
 k1:k≤v.layout.data+v.layout.more
 o:ShO (wrL v no ver all k.toNat) K A
def wrRow (K:List ShelfR) (n:Int):Row Piece:=(gd (⟨false,Row.no Piece⟩:ShelfR) K n.toNat).pieces
theorem WrI.start {v:Volume} (k:v.K) {i no ver:Int} {all:List BA} {K:List ShelfR} {A:ArP} (h:OwV v.nodes i K A) (hi:v.nodes.length≤i) (h0:0≤no) (h1:no<v.versions.length):WrI v no ver all 0 K A:=⟨k,h0,h1,by omega,by have:=k.lay.d;have:=k.lay.m;omega,h.fin hi⟩
theorem WrI.row {v:Volume} {no ver k:Int} {all:List BA} {K:List ShelfR} {A:ArP} (h:WrI v no ver all k K A):0≤v.layout.node no k∧v.layout.node no k<K.length∧(gd (⟨false,Row.no Piece⟩:ShelfR) K (v.layout.node no k).toNat).up=(gd (⟨false,[]⟩:Shelf) v.nodes (v.layout.node no k).toNat).up∧((wrRow K (v.layout.node no k)).kd=RK.own∧hasA A (wrRow K (v.layout.node no k)).id∧(lkA A (wrRow K (v.layout.node no k)).id).length=(wrRow K (v.layout.node no k)).n)∧(wrRow K (v.layout.node no k)).ok A∧(wrRow K (v.layout.node no k)).get A=(gd (⟨false,[]⟩:Shelf) (wrL v no ver all k.toNat) (v.layout.node no k).toNat).pieces∧((wrRow K (v.layout.node no k)).get A).length=v.versions.length:=by
 have hn:=h.vk.lay.node no k
 have hd:=h.vk.nds
 have hl:=h.o.len
 rw [wrL_len] at hl
 have hj:(v.layout.node no k).toNat<v.nodes.length:=by omega
 obtain ⟨q1,q2⟩:=h.o.own (v.layout.node no k).toNat (by rw [wrL_len];exact hj)
 have q3:(wrRow K (v.layout.node no k)).get A=(gd (⟨false,[]⟩:Shelf) (wrL v no ver all k.toNat) (v.layout.node no k).toNat).pieces:=by unfold wrRow;rw [mine_get q1,q2]
 have sm:=wrL_same (no:=no) (ver:=ver) (all:=all) (k:=k.toNat) hj
 refine ⟨hn.1,by omega,by rw [h.o.up _ (by rw [wrL_len];exact hj)];exact sm.1,q1,Row.mine.ok q1,q3, ?_⟩
 rw [q3,sm.2]
 exact h.vk.pre.shl hn.1 (by omega)
theorem WrI.down {v:Volume} {no ver k:Int} {all:List BA} {K:List ShelfR} {A:ArP} (h:WrI v no ver all k K A) (hk:k<v.layout.data+v.layout.more) (e:(gd (⟨false,Row.no Piece⟩:ShelfR) K (v.layout.node no k).toNat).up=false):WrI v no ver all (k+1) K A:=by
 have k0:=h.k0
 refine ⟨h.vk,h.s0,h.s1,by omega,by omega, ?_⟩
 have hr:=h.row
 have hl:=h.o.len
 rw [wrL_len] at hl
 have hj:(v.layout.node no k).toNat<v.nodes.length:=by have:=hr.1;have:=hr.2.1;omega
 have sm:=wrL_same (no:=no) (ver:=ver) (all:=all) (k:=k.toNat) hj
 have ek:((k.toNat:Nat):Int)=k:=by omega
 have e1:wrL v no ver all (k+1).toNat=wrL v no ver all k.toNat:=by
  rw [show (k+1).toNat=k.toNat+1 by omega]
  conv=>lhs;unfold wrL
  rw [ek,if_neg (by rw [sm.1, ←hr.2.2.1,e];simp)]
 rw [e1];exact h.o
theorem WrI.step {v:Volume} {no ver k:Int} {all:List BA} {K:List ShelfR} {A:ArP} (h:WrI v no ver all k K A) (hk:k<v.layout.data+v.layout.more) (e:(gd (⟨false,Row.no Piece⟩:ShelfR) K (v.layout.node no k).toNat).up=true):WrI v no ver all (k+1) K (((wrRow K (v.layout.node no k)).id,((wrRow K (v.layout.node no k)).get A).set no.toNat ⟨ver,gd ByteArray.empty all k.toNat⟩)::A):=by
 have k0:=h.k0
 refine ⟨h.vk,h.s0,h.s1,by omega,by omega, ?_⟩
 have hr:=h.row
 have hl:=h.o.len
 rw [wrL_len] at hl
 have hj:(v.layout.node no k).toNat<v.nodes.length:=by have:=hr.1;have:=hr.2.1;omega
 have sm:=wrL_same (no:=no) (ver:=ver) (all:=all) (k:=k.toNat) hj
 have ek:((k.toNat:Nat):Int)=k:=by omega
 have up:(gd (⟨false,[]⟩:Shelf) (wrL v no ver all k.toNat) (v.layout.node no k).toNat).up=true:=by rw [sm.1, ←hr.2.2.1,e]
 have e1:wrL v no ver all (k+1).toNat=(wrL v no ver all k.toNat).set (v.layout.node no k).toNat ⟨true,((wrRow K (v.layout.node no k)).get A).set no.toNat ⟨ver,gd ByteArray.empty all k.toNat⟩⟩:=by
  rw [show (k+1).toNat=k.toNat+1 by omega]
  conv=>lhs;unfold wrL
  rw [ek,if_pos up,hr.2.2.2.2.2.1]
 rw [e1]
 exact h.o.put (by rw [wrL_len];exact hj) up.symm (by rw [List.length_set,hr.2.2.2.2.2.1])
theorem WrI.done {v:Volume} {no ver k:Int} {all:List BA} {K:List ShelfR} {A:ArP} (h:WrI v no ver all k K A) (hk:v.layout.data+v.layout.more≤k) {vs:List Int}:(∀x:ShelfR,x∈K→True∧x.pieces.ok A∧x.pieces.kd≠RK.nil)∧(⟨v.layout,v.size,vs,List.map (fun x:ShelfR=>(⟨x.up,x.pieces.get A⟩:Shelf)) K⟩:Volume)=⟨v.layout,v.size,vs,wrL v no ver all (v.layout.data+v.layout.more).toNat⟩:=by
 obtain ⟨e1,e2⟩:=h.o.view
 have e:k=v.layout.data+v.layout.more:=by have:=h.k1;omega
 exact ⟨fun x hx=>⟨trivial,e1 x hx⟩,by rw [e2,e]⟩
def wrtD (v:Volume) (b:Int) (dt:BA):List BA:=(dataL v (b / v.layout.data)).1.set (b%v.layout.data).toNat dt
def wrtA (v:Volume) (b:Int) (dt:BA):List BA:=wrtD v b dt++(encL (wrtD v b dt) v.layout.more).1
def wrtE (v:Volume) (b:Int) (dt:BA):Int:=if ¬plcE v b=0 then plcE v b else if ¬(dt.size:Int)=v.size then 1 else if ¬(dataL v (b / v.layout.data)).2=0 then (dataL v (b / v.layout.data)).2 else if gd 0 v.versions (b / v.layout.data).toNat=1000000 then 2 else 0
def wrtV (v:Volume) (b:Int) (dt:BA):Volume:=⟨v.layout,v.size,v.versions.set (b / v.layout.data).toNat (gd 0 v.versions (b / v.layout.data).toNat+1),wrL v (b / v.layout.data) (gd 0 v.versions (b / v.layout.data).toNat+1) (wrtA v b dt) (v.layout.data+v.layout.more).toNat⟩
def wrtR (v:Volume) (b:Int) (dt:BA):Volume×Int:=if ¬wrtE v b dt=0 then (⟨⟨0,0,0,0⟩,0,[],[]⟩,wrtE v b dt) else (wrtV v b dt,0)
theorem atA_mem {v:Volume} {no:Int} {k:Nat}:∀x,x∈atL v no k→0≤x∧x<k:=fun x hx=>by
 unfold atL frL at hx
 obtain ⟨y,hy,rfl⟩:=List.mem_map.1 (List.mem_of_mem_take hx)
 have:=List.mem_range.1 (List.mem_filter.1 hy).1
 omega
theorem pc_siz {v:Volume} (k:v.K) {no p:Int} (h0:0≤no) (h1:no<v.versions.length) (p0:0≤p) (p1:p<v.layout.data+v.layout.more):((pcG v no p).size:Int)=v.size:=by
 have hn:=k.lay.node no p
 have hs:=k.lay.s
 have hd:=k.nds
 have e:=(node_iff k.lay (s:=no) (p:=p) ⟨p0,by omega⟩ hn).1 rfl
 have hh:v.layout.has no (v.layout.node no p)=true:=by unfold Layout.has;rw [e];exact decide_eq_true p1
 have ok:=k.ok (v.layout.node no p) no hn.1 (by omega) h0 h1
 unfold pieceE at ok
 split at ok
 ·exact absurd ok (by decide)
 ·rename_i q
  exact Classical.byContradiction fun hx=>q (.inr ⟨hh,hx⟩)
theorem dt_few {v:Volume} {no:Int} (h:((atA v no).length:Int)<v.layout.data):dataL v no=([],8):=by unfold dataL;rw [if_pos h]
theorem dt_reb {v:Volume} {no:Int} (k:v.K) (h:v.layout.data≤((atA v no).length:Int)):((atA v no).length:Int)=v.layout.data∧atE (v.layout.data+v.layout.more) (atA v no)=0∧
  (¬alkE ((atA v no).map (pcG v no))=0→dataL v no=([],alkE ((atA v no).map (pcG v no))))∧
  (alkE ((atA v no).map (pcG v no))=0→¬(invL (rowsF v.layout.data v.layout.more (atA v no))).2=0→dataL v no=([],(invL (rowsF v.layout.data v.layout.more (atA v no))).2))∧
  (alkE ((atA v no).map (pcG v no))=0→(invL (rowsF v.layout.data v.layout.more (atA v no))).2=0→dataL v no=(mixS (invL (rowsF v.layout.data v.layout.more (atA v no))).1 ((atA v no).map (pcG v no)),0)):=by
 have hd:=k.lay.d;have hm:=k.lay.m
 have hf:(atA v no).length≤v.layout.data.toNat:=atL_few
 have hl:((atA v no).length:Int)=v.layout.data:=by omega
 have ha:atE (v.layout.data+v.layout.more) (atA v no)=0:=by
  have r:∀x,x∈atA v no→0≤x∧x<v.layout.data+v.layout.more:=fun x hx=>by have:=atA_mem _ hx;omega
  have nd:(atA v no).Nodup:=by
   unfold atA atL frL
   refine List.Nodup.sublist (List.take_sublist _ _) ?_
   have:((List.range (v.layout.data+v.layout.more).toNat).filter fun p:Nat=>frB v no p).Nodup:=List.Pairwise.filter _ List.nodup_range
   exact List.Pairwise.map _ (fun a b hab e=>hab (by omega)) this
  unfold atE
  have:∀(seen l:List Int),(∀i,i∈l→0≤i∧i<v.layout.data+v.layout.more∧¬i∈seen)→l.Nodup→atGo (v.layout.data+v.layout.more) seen l=0:=by
   intro seen l
   induction l generalizing seen with
   |nil=>intro _ _;rfl
   |cons x r ih=>
    intro h hd
    have h1:=h x (List.mem_cons_self ..)
    rw [List.nodup_cons] at hd
    unfold atGo
    rw [if_neg (by omega),if_neg h1.2.2]
    refine ih _ (fun i hi=> ?_) hd.2
    have h2:=h i (List.mem_cons_of_mem _ hi)
    refine ⟨h2.1,h2.2.1,fun hh=> ?_⟩
    rcases List.mem_append.1 hh with e|e
    ·exact h2.2.2 e
    ·rw [List.mem_singleton] at e;subst e;exact hd.1 hi
  exact this [] _ (fun i hi=>⟨(r i hi).1,(r i hi).2,by simp⟩) nd
 have e:dataL v no=rebL v.layout.data v.layout.more (atA v no) ((atA v no).map (pcG v no)):=by unfold dataL;rw [if_neg (by omega)]
 refine ⟨hl,ha,fun h1=> ?_,fun h1 h2=> ?_,fun h1 h2=> ?_⟩<;>rw [e]<;>unfold rebL<;>rw [if_neg (by omega),if_neg (by rw [List.length_map];simp),if_neg (by omega),if_neg (by omega),if_neg (by omega)]
 ·rw [if_pos h1]
 ·rw [if_neg (by omega),if_pos h2]
 ·rw [if_neg (by omega),if_neg (by omega)]
theorem dat_siz {v:Volume} (k:v.K) {no:Int} (h0:0≤no) (h1:no<v.versions.length) (h:(dataL v no).2=0):∀x,x∈(dataL v no).1→(x.size:Int)=v.size:=fun x hx=>by
 have hd:=k.lay.d
 have c:v.layout.data≤((atA v no).length:Int):=by
  by_cases c:((atA v no).length:Int)<v.layout.data
  ·rw [dt_few c] at h;simp at h
  ·omega
 obtain ⟨hl,ha,r1,r2,r3⟩:=dt_reb k c
 by_cases a1:alkE ((atA v no).map (pcG v no))=0
 ·by_cases a2:(invL (rowsF v.layout.data v.layout.more (atA v no))).2=0
  ·rw [r3 a1 a2] at hx
   have hx:x∈mixS _ _:=hx
   unfold mixS at hx
   obtain ⟨row,_,rfl⟩:=List.mem_map.1 hx
   unfold mixT
   rw [txt_size]
   have hl0:0<(atA v no).length:=by omega
   rw [gd_map2 (d:=(0:Int)) hl0]
   have hm:0≤gd 0 (atA v no) 0∧gd 0 (atA v no) 0<(((v.layout.data+v.layout.more).toNat:Nat):Int):=atA_mem (v:=v) (no:=no) (k:=(v.layout.data+v.layout.more).toNat) _ (gd_mem (d:=(0:Int)) hl0)
   exact pc_siz k h0 h1 hm.1 (by omega)
  ·rw [r2 a1 a2] at h;exact absurd h a2
 ·rw [r1 a1] at h;exact absurd h a1
theorem wrt_enc {v:Volume} {b:Int} {dt:BA} (h:plcE v b=0) (hs:(dt.size:Int)=v.size) (hd:(dataL v (b / v.layout.data)).2=0):((wrtD v b dt).length:Int)=v.layout.data∧alkE (wrtD v b dt)=0∧encL (wrtD v b dt) v.layout.more=(mixS (cauL v.layout.more (wrtD v b dt).length).1 (wrtD v b dt),0)∧((wrtA v b dt).length:Int)=v.layout.data+v.layout.more:=by
 obtain ⟨k,a2,a3,a4,a5,a6,a7⟩:=plc_ok h
 have kd:=k.lay.d;have km:=k.lay.m;have kz:=k.siz
 have hl:=data_cnt hd
 have hlen:((wrtD v b dt).length:Int)=v.layout.data:=by unfold wrtD;rw [List.length_set];exact hl
 have hsz:∀x,x∈wrtD v b dt→(x.size:Int)=v.size:=fun x hx=>by
  unfold wrtD at hx
  rcases List.mem_or_eq_of_mem_set hx with e|e
  ·exact dat_siz k a4 a5 hd x e
  ·rw [e];exact hs
 have hg:gd ByteArray.empty (wrtD v b dt) 0∈wrtD v b dt:=gd_mem (by omega)
 have hk:alkE (wrtD v b dt)=0:=alk_of (fun s hx=>by have:=hsz s hx;omega) fun s hx=>by have:=hsz s hx;have:=hsz _ hg;omega
 have he:encL (wrtD v b dt) v.layout.more=(mixS (cauL v.layout.more (wrtD v b dt).length).1 (wrtD v b dt),0):=by
  unfold encL
  rw [if_neg (by omega),if_neg (by omega),if_neg (by omega),if_neg (by omega)]
 refine ⟨hlen,hk,he, ?_⟩
 unfold wrtA
 rw [he,List.length_append]
 show (((wrtD v b dt).length+(mixS _ _).length:Nat):Int)=_
 unfold mixS
 rw [List.length_map,cau_ok (by omega) (by omega) (by omega) (by omega)]
 show (((wrtD v b dt).length+(fillL _ _ _).length:Nat):Int)=_
 rw [fill_n];omega
def i_6_18_0 (v:Volume) (b:Int) (p:Int) (at_:(List Int)) (P:(List ByteArray)):Prop:=plcE v b=0∧DtI v (b / v.layout.data) p at_ P
def i_6_44_0 (v:Volume) (i0:Int) (a0:(List Int)) (P0:(List ByteArray)) (i:Int) (a:(List Int)) (P:(List ByteArray)):Prop:=a=a0∧P=P0∧AtI (v.layout.data+v.layout.more) a i
def i_6_21_0 (v:Volume) (i:Int) (K:(List ShelfR)) (A:(List (Nat×List Piece))):Prop:=OwV v.nodes i K A
def i_6_20_0 (v:Volume) (b:Int) (p:Int) (Z:(Stripe×List Int)):Prop:=Z.1.vol.layout=v.layout∧Z.1.vol.size=v.size∧Z.1.no=b / v.layout.data∧UpV (v.layout.data+v.layout.more) (nodG v.layout (b / v.layout.data)) p Z.2
def i_6_0 (v:Volume) (b:Int) (dt:ByteArray) (p:Int) (K:(List ShelfR)) (A:(List (Nat×List Piece))):Prop:=WrI v (b / v.layout.data) (gd 0 v.versions (b / v.layout.data).toNat+1) (wrtA v b dt) p K A
def k_6:Con Tc Tc.dn:=⟨6,[.ty .cVolume, .ty .cInt, .ty .cStr],fun x=>(fun (v:Volume) (b:Int) (dt:ByteArray)=>True) x.1 x.2.1 x.2.2.1,[.cVolume, .cInt],fun x=>(fun (v:Volume) (b:Int) (dt:ByteArray)=>wrtR v b dt) x.1 x.2.1 x.2.2.1⟩
abbrev z6_0:=(Layout.mk (0:Int) (0:Int) (0:Int) (0:Int))
abbrev z6_1 (v:Volume) (b:Int):=((1:Int)≤(plcV v b).fst.vol.layout.data∧(plcV v b).fst.vol.layout.data≤(8:Int))
abbrev z6_2 (v:Volume) (b:Int):=((0:Int)≤(plcV v b).fst.no∧(plcV v b).fst.no<(↑v.versions.length:Int))
abbrev z6_3 (v:Volume) (b:Int):=(v.versions.set (plcV v b).fst.no.toNat (gd (0:Int) v.versions (plcV v b).fst.no.toNat+(1:Int)))
theorem k_6_v (v:Volume) (b:Int) (dt:ByteArray):True∧((plcV v b).snd.snd=(0:Int)→(plcV v b).snd.snd=(0:Int))∧((plcV v b).snd.snd=(0:Int)→(plcV v b).snd.snd=(0:Int))∧((plcV v b).snd.snd=(0:Int)→(plcV v b).snd.snd=(0:Int))∧((plcV v b).snd.snd=(0:Int)→(plcV v b).snd.snd=(0:Int))∧((plcV v b).snd.snd=(0:Int)→(plcV v b).snd.snd=(0:Int))∧((plcV v b).snd.snd=(0:Int)∧¬(↑dt.size:Int)=v.size→(Volume.mk z6_0 (0:Int) [] [],(1:Int))=wrtR v b dt)∧(¬(plcV v b).snd.snd=(0:Int)∨(↑dt.size:Int)=v.size→(¬(plcV v b).snd.snd=(0:Int)→(Volume.mk z6_0 (0:Int) [] [],(plcV v b).snd.snd)=wrtR v b dt)∧((plcV v b).snd.snd=(0:Int)→i_6_18_0 v b (0:Int) [] []∧∀(x:Int) (x_1:List Int) (x_2:List ByteArray),i_6_18_0 v b x x_1 x_2→(x<(↑(plcV v b).fst.nodes.length:Int)→(StO (plcV v b).fst∧(0:Int)≤x∧x<(plcV v b).fst.vol.layout.data+(plcV v b).fst.vol.layout.more)∧(frB (plcV v b).fst.vol (plcV v b).fst.no x=true→frB (plcV v b).fst.vol (plcV v b).fst.no x=true)∧(frB (plcV v b).fst.vol (plcV v b).fst.no x=true→frB (plcV v b).fst.vol (plcV v b).fst.no x=true)∧(frB (plcV v b).fst.vol (plcV v b).fst.no x=true→frB (plcV v b).fst.vol (plcV v b).fst.no x=true)∧(frB (plcV v b).fst.vol (plcV v b).fst.no x=true→frB (plcV v b).fst.vol (plcV v b).fst.no x=true)∧(frB (plcV v b).fst.vol (plcV v b).fst.no x=true→frB (plcV v b).fst.vol (plcV v b).fst.no x=true)∧(frB (plcV v b).fst.vol (plcV v b).fst.no x=true→frB (plcV v b).fst.vol (plcV v b).fst.no x=true)∧(frB (plcV v b).fst.vol (plcV v b).fst.no x=true→frB (plcV v b).fst.vol (plcV v b).fst.no x=true)∧(frB (plcV v b).fst.vol (plcV v b).fst.no x=true∧(↑x_1.length:Int)<(plcV v b).fst.vol.layout.data→(x_1.length+(1:Nat))*(8:Nat)≤(140737488355328:Nat)∧(StO (plcV v b).fst∧(0:Int)≤x∧x<(plcV v b).fst.vol.layout.data+(plcV v b).fst.vol.layout.more)∧(x_2.length+(1:Nat))*(16:Nat)≤(140737488355328:Nat)∧I64 (x+(1:Int))∧i_6_18_0 v b (x+(1:Int)) (x_1++[x]) (x_2++[((plcV v b).fst.vol.at_ ((plcV v b).fst.vol.layout.node (plcV v b).fst.no x) (plcV v b).fst.no).data])∧(v.layout.data+v.layout.more - (x+(1:Int))).toNat<(v.layout.data+v.layout.more - x).toNat)∧(frB (plcV v b).fst.vol (plcV v b).fst.no x=false∨(plcV v b).fst.vol.layout.data≤(↑x_1.length:Int)→I64 (x+(1:Int))∧i_6_18_0 v b (x+(1:Int)) x_1 x_2∧(v.layout.data+v.layout.more - (x+(1:Int))).toNat<(v.layout.data+v.layout.more - x).toNat))∧((↑(plcV v b).fst.nodes.length:Int)≤x→((↑x_1.length:Int)<(plcV v b).fst.vol.layout.data→(Volume.mk z6_0 (0:Int) [] [],(8:Int))=wrtR v b dt)∧((plcV v b).fst.vol.layout.data≤(↑x_1.length:Int)→True∧(decide (z6_1 v b)= !!true→True)∧(decide (z6_1 v b)= !true∧decide (z6_1 v b)= !true∨decide (z6_1 v b)= !!true∧decide ((1:Int)≤(plcV v b).fst.vol.layout.more∧(plcV v b).fst.vol.layout.more≤(6:Int))= !true→(Volume.mk z6_0 (0:Int) [] [],(3:Int))=wrtR v b dt)∧((decide (z6_1 v b)= !false∨decide (z6_1 v b)= !false)∧(decide (z6_1 v b)= !!false∨decide ((1:Int)≤(plcV v b).fst.vol.layout.more∧(plcV v b).fst.vol.layout.more≤(6:Int))= !false)→(¬(↑x_1.length:Int)=(↑x_2.length:Int)→(Volume.mk z6_0 (0:Int) [] [],(1:Int))=wrtR v b dt)∧((↑x_1.length:Int)=(↑x_2.length:Int)→((↑x_1.length:Int)<(plcV v b).fst.vol.layout.data→(Volume.mk z6_0 (0:Int) [] [],(8:Int))=wrtR v b dt)∧((plcV v b).fst.vol.layout.data≤(↑x_1.length:Int)→((plcV v b).fst.vol.layout.data<(↑x_1.length:Int)→(Volume.mk z6_0 (0:Int) [] [],(2:Int))=wrtR v b dt)∧((↑x_1.length:Int)≤(plcV v b).fst.vol.layout.data→i_6_44_0 v (0:Int) x_1 x_2 (0:Int) x_1 x_2∧∀(x:Int) (x_3:List Int) (x_4:List ByteArray),i_6_44_0 v (0:Int) x_1 x_2 x x_3 x_4→(x<(↑x_1.length:Int)→((0:Int)≤x∧x<(↑x_1.length:Int))∧((0:Int)≤gd (0:Int) x_1 x.toNat→(0:Int)≤gd (0:Int) x_1 x.toNat)∧((0:Int)≤gd (0:Int) x_1 x.toNat→(0:Int)≤gd (0:Int) x_1 x.toNat)∧((0:Int)≤gd (0:Int) x_1 x.toNat→I64 ((plcV v b).fst.vol.layout.data+(plcV v b).fst.vol.layout.more))∧((0:Int)≤gd (0:Int) x_1 x.toNat→(0:Int)≤gd (0:Int) x_1 x.toNat)∧((0:Int)≤gd (0:Int) x_1 x.toNat→(0:Int)≤gd (0:Int) x_1 x.toNat)∧((0:Int)≤gd (0:Int) x_1 x.toNat→(0:Int)≤gd (0:Int) x_1 x.toNat)∧(gd (0:Int) x_1 x.toNat<(0:Int)∨(plcV v b).fst.vol.layout.data+(plcV v b).fst.vol.layout.more≤gd (0:Int) x_1 x.toNat→(Volume.mk z6_0 (0:Int) [] [],(3:Int))=wrtR v b dt)∧((0:Int)≤gd (0:Int) x_1 x.toNat∧gd (0:Int) x_1 x.toNat<(plcV v b).fst.vol.layout.data+(plcV v b).fst.vol.layout.more→((0:Int)≤x∧x≤(↑x_3.length:Int))∧(List.take x.toNat x_3).length≤(1000000:Nat)∧(decide (gd (0:Int) x_1 x.toNat∈List.take x.toNat x_3)=true→(Volume.mk z6_0 (0:Int) [] [],(6:Int))=wrtR v b dt)∧(decide (gd (0:Int) x_1 x.toNat∈List.take x.toNat x_3)=false→I64 (x+(1:Int))∧i_6_44_0 v (0:Int) x_1 x_2 (x+(1:Int)) x_3 x_4∧((↑x_3.length:Int) - (x+(1:Int))).toNat<((↑x_3.length:Int) - x).toNat)))∧((↑x_1.length:Int)≤x→x_4.length≤(1000000:Nat)∧(¬alkE x_4=(0:Int)→(¬alkE x_4=(0:Int)→(Volume.mk z6_0 (0:Int) [] [],alkE x_4)=wrtR v b dt)∧(alkE x_4=(0:Int)→(z6_2 v b)∧(gd (0:Int) v.versions (plcV v b).fst.no.toNat=(1000000:Int)→(Volume.mk z6_0 (0:Int) [] [],(2:Int))=wrtR v b dt)∧(¬gd (0:Int) v.versions (plcV v b).fst.no.toNat=(1000000:Int)→False)))∧(alkE x_4=(0:Int)→((1:Int)≤(plcV v b).fst.vol.layout.data∧(plcV v b).fst.vol.layout.data≤(8:Int)∧(1:Int)≤(plcV v b).fst.vol.layout.more∧(plcV v b).fst.vol.layout.more≤(6:Int)∧x_3.length≤(100:Nat)∧∀(i:Int),i∈x_3→(0:Int)≤i∧i<(plcV v b).fst.vol.layout.data+(plcV v b).fst.vol.layout.more)∧True∧(¬(invL (rowsF (plcV v b).fst.vol.layout.data (plcV v b).fst.vol.layout.more x_3)).snd=(0:Int)→(¬(invL (rowsF (plcV v b).fst.vol.layout.data (plcV v b).fst.vol.layout.more x_3)).snd=(0:Int)→(Volume.mk z6_0 (0:Int) [] [],(invL (rowsF (plcV v b).fst.vol.layout.data (plcV v b).fst.vol.layout.more x_3)).snd)=wrtR v b dt)∧((invL (rowsF (plcV v b).fst.vol.layout.data (plcV v b).fst.vol.layout.more x_3)).snd=(0:Int)→(z6_2 v b)∧(gd (0:Int) v.versions (plcV v b).fst.no.toNat=(1000000:Int)→(Volume.mk z6_0 (0:Int) [] [],(2:Int))=wrtR v b dt)∧(¬gd (0:Int) v.versions (plcV v b).fst.no.toNat=(1000000:Int)→False)))∧((invL (rowsF (plcV v b).fst.vol.layout.data (plcV v b).fst.vol.layout.more x_3)).snd=(0:Int)→MxP (invL (rowsF (plcV v b).fst.vol.layout.data (plcV v b).fst.vol.layout.more x_3)).fst x_4∧(z6_2 v b)∧(gd (0:Int) v.versions (plcV v b).fst.no.toNat=(1000000:Int)→(Volume.mk z6_0 (0:Int) [] [],(2:Int))=wrtR v b dt)∧(¬gd (0:Int) v.versions (plcV v b).fst.no.toNat=(1000000:Int)→((0:Int)≤(plcV v b).snd.fst∧(plcV v b).snd.fst<(↑(mixS (invL (rowsF (plcV v b).fst.vol.layout.data (plcV v b).fst.vol.layout.more x_3)).fst x_4).length:Int))∧(plcV v b).snd.fst.toNat<(mixS (invL (rowsF (plcV v b).fst.vol.layout.data (plcV v b).fst.vol.layout.more x_3)).fst x_4).length∧((↑((mixS (invL (rowsF (plcV v b).fst.vol.layout.data (plcV v b).fst.vol.layout.more x_3)).fst x_4).set (plcV v b).snd.fst.toNat dt).length:Int)=(0:Int)→(↑v.versions.length:Int)*(8:Int)≤(140737488355328:Int)∧v.nodes≠[]∧((0:Nat)+v.nodes.length)*(32:Nat)≤(140737488355328:Nat)∧False)∧(¬(↑((mixS (invL (rowsF (plcV v b).fst.vol.layout.data (plcV v b).fst.vol.layout.more x_3)).fst x_4).set (plcV v b).snd.fst.toNat dt).length:Int)=(0:Int)→((8:Int)<(↑((mixS (invL (rowsF (plcV v b).fst.vol.layout.data (plcV v b).fst.vol.layout.more x_3)).fst x_4).set (plcV v b).snd.fst.toNat dt).length:Int)→(↑v.versions.length:Int)*(8:Int)≤(140737488355328:Int)∧v.nodes≠[]∧((0:Nat)+v.nodes.length)*(32:Nat)≤(140737488355328:Nat)∧False)∧((↑((mixS (invL (rowsF (plcV v b).fst.vol.layout.data (plcV v b).fst.vol.layout.more x_3)).fst x_4).set (plcV v b).snd.fst.toNat dt).length:Int)≤(8:Int)→True∧(decide ((1:Int)≤v.layout.more∧v.layout.more≤(6:Int))= !true→(↑v.versions.length:Int)*(8:Int)≤(140737488355328:Int)∧v.nodes≠[]∧((0:Nat)+v.nodes.length)*(32:Nat)≤(140737488355328:Nat)∧False)∧(decide ((1:Int)≤v.layout.more∧v.layout.more≤(6:Int))= !false→((mixS (invL (rowsF (plcV v b).fst.vol.layout.data (plcV v b).fst.vol.layout.more x_3)).fst x_4).set (plcV v b).snd.fst.toNat dt).length≤(1000000:Nat)∧(¬alkE ((mixS (invL (rowsF (plcV v b).fst.vol.layout.data (plcV v b).fst.vol.layout.more x_3)).fst x_4).set (plcV v b).snd.fst.toNat dt)=(0:Int)→(↑v.versions.length:Int)*(8:Int)≤(140737488355328:Int)∧v.nodes≠[]∧((0:Nat)+v.nodes.length)*(32:Nat)≤(140737488355328:Nat)∧False)∧(alkE ((mixS (invL (rowsF (plcV v b).fst.vol.layout.data (plcV v b).fst.vol.layout.more x_3)).fst x_4).set (plcV v b).snd.fst.toNat dt)=(0:Int)→True∧MxP (cauL v.layout.more (↑((mixS (invL (rowsF (plcV v b).fst.vol.layout.data (plcV v b).fst.vol.layout.more x_3)).fst x_4).set (plcV v b).snd.fst.toNat dt).length:Int)).fst ((mixS (invL (rowsF (plcV v b).fst.vol.layout.data (plcV v b).fst.vol.layout.more x_3)).fst x_4).set (plcV v b).snd.fst.toNat dt)∧(↑v.versions.length:Int)*(8:Int)≤(140737488355328:Int)∧v.nodes≠[]∧((0:Nat)+v.nodes.length)*(32:Nat)≤(140737488355328:Nat)∧i_6_21_0 v (0:Int) (List.map (fun x=>ShelfR.mk x.up (Row.fix Piece x.pieces)) ([]++v.nodes)) []∧∀(x:Int) (x_5:List ShelfR) (x_6:List (Nat×List Piece)),i_6_21_0 v x x_5 x_6→(x<(↑([]++v.nodes).length:Int)→((0:Int)≤x∧x<(↑x_5.length:Int))∧x.toNat<x_5.length∧(gd (ShelfR.mk false (Row.no Piece)) x_5 x.toNat).pieces.ok x_6∧(gd (ShelfR.mk false (Row.no Piece)) x_5 x.toNat).pieces.kd≠RK.nil∧(↑((gd (ShelfR.mk false (Row.no Piece)) x_5 x.toNat).pieces.get x_6).length:Int)*(24:Int)≤(140737488355328:Int)∧((0:Int)≤x∧x<(↑x_5.length:Int))∧∀(id:Nat),¬hasA x_6 id→x.toNat<x_5.length∧I64 (x+(1:Int))∧i_6_21_0 v (x+(1:Int)) (x_5.set x.toNat (ShelfR.mk (gd (ShelfR.mk false (Row.no Piece)) x_5 x.toNat).up (Row.at Piece id ((gd (ShelfR.mk false (Row.no Piece)) x_5 x.toNat).pieces.get x_6).length))) ((id,(gd (ShelfR.mk false (Row.no Piece)) x_5 x.toNat).pieces.get x_6)::x_6)∧((↑v.nodes.length:Int) - (x+(1:Int))).toNat<((↑v.nodes.length:Int) - x).toNat)∧((↑([]++v.nodes).length:Int)≤x→(v.layout.K∨(1:Int)≤v.layout.data∧v.layout.data≤(8:Int)∧(1:Int)≤v.layout.more∧v.layout.more≤(6:Int))∧i_6_20_0 v b (0:Int) (Stripe.mk (Volume.mk v.layout v.size [] []) (plcV v b).fst.no [],[])∧∀(x:Int) (x_7:Stripe×List Int),i_6_20_0 v b x x_7→(x<v.layout.data+v.layout.more→(v.layout.K∧(0:Int)≤(plcV v b).fst.no∧(plcV v b).fst.no≤(100:Int)∧(0:Int)≤x∧x≤(100:Int))∧(x_7.snd.length+(1:Nat))*(8:Nat)≤(140737488355328:Nat)∧I64 (x+(1:Int))∧i_6_20_0 v b (x+(1:Int)) (Stripe.mk (Volume.mk x_7.fst.vol.layout x_7.fst.vol.size [] []) x_7.fst.no [],x_7.snd++[v.layout.node (plcV v b).fst.no x])∧(v.layout.data+v.layout.more - (x+(1:Int))).toNat<(v.layout.data+v.layout.more - x).toNat)∧(v.layout.data+v.layout.more≤x→(z6_2 v b)∧(plcV v b).fst.no.toNat<v.versions.length∧I64 (gd (0:Int) v.versions (plcV v b).fst.no.toNat+(1:Int))∧(z6_2 v b)∧(plcV v b).fst.no.toNat<v.versions.length∧(((mixS (invL (rowsF (plcV v b).fst.vol.layout.data (plcV v b).fst.vol.layout.more x_3)).fst x_4).set (plcV v b).snd.fst.toNat dt).length+(mixS (cauL v.layout.more (↑((mixS (invL (rowsF (plcV v b).fst.vol.layout.data (plcV v b).fst.vol.layout.more x_3)).fst x_4).set (plcV v b).snd.fst.toNat dt).length:Int)).fst ((mixS (invL (rowsF (plcV v b).fst.vol.layout.data (plcV v b).fst.vol.layout.more x_3)).fst x_4).set (plcV v b).snd.fst.toNat dt)).length)*(16:Nat)≤(140737488355328:Nat)∧i_6_0 v b dt (0:Int) x_5 x_6∧∀(x:Int) (x_8:List ShelfR) (x_9:List (Nat×List Piece)),i_6_0 v b dt x x_8 x_9→(x<(↑((mixS (invL (rowsF (plcV v b).fst.vol.layout.data (plcV v b).fst.vol.layout.more x_3)).fst x_4).set (plcV v b).snd.fst.toNat dt++mixS (cauL v.layout.more (↑((mixS (invL (rowsF (plcV v b).fst.vol.layout.data (plcV v b).fst.vol.layout.more x_3)).fst x_4).set (plcV v b).snd.fst.toNat dt).length:Int)).fst ((mixS (invL (rowsF (plcV v b).fst.vol.layout.data (plcV v b).fst.vol.layout.more x_3)).fst x_4).set (plcV v b).snd.fst.toNat dt)).length:Int)→((0:Int)≤x∧x<(↑((mixS (invL (rowsF (plcV v b).fst.vol.layout.data (plcV v b).fst.vol.layout.more x_3)).fst x_4).set (plcV v b).snd.fst.toNat dt++mixS (cauL v.layout.more (↑((mixS (invL (rowsF (plcV v b).fst.vol.layout.data (plcV v b).fst.vol.layout.more x_3)).fst x_4).set (plcV v b).snd.fst.toNat dt).length:Int)).fst ((mixS (invL (rowsF (plcV v b).fst.vol.layout.data (plcV v b).fst.vol.layout.more x_3)).fst x_4).set (plcV v b).snd.fst.toNat dt)).length:Int))∧x.toNat<((mixS (invL (rowsF (plcV v b).fst.vol.layout.data (plcV v b).fst.vol.layout.more x_3)).fst x_4).set (plcV v b).snd.fst.toNat dt++mixS (cauL v.layout.more (↑((mixS (invL (rowsF (plcV v b).fst.vol.layout.data (plcV v b).fst.vol.layout.more x_3)).fst x_4).set (plcV v b).snd.fst.toNat dt).length:Int)).fst ((mixS (invL (rowsF (plcV v b).fst.vol.layout.data (plcV v b).fst.vol.layout.more x_3)).fst x_4).set (plcV v b).snd.fst.toNat dt)).length∧((0:Int)≤x∧x<(↑x_7.snd.length:Int))∧x.toNat<x_7.snd.length∧((0:Int)≤gd (0:Int) x_7.snd x.toNat∧gd (0:Int) x_7.snd x.toNat<(↑x_8.length:Int))∧(gd (0:Int) x_7.snd x.toNat).toNat<x_8.length∧((gd (ShelfR.mk false (Row.no Piece)) x_8 (gd (0:Int) x_7.snd x.toNat).toNat).up=true→((0:Int)≤x∧x<(↑x_7.snd.length:Int))∧x.toNat<x_7.snd.length∧((0:Int)≤gd (0:Int) x_7.snd x.toNat∧gd (0:Int) x_7.snd x.toNat<(↑x_8.length:Int))∧(gd (0:Int) x_7.snd x.toNat).toNat<x_8.length∧(gd (ShelfR.mk false (Row.no Piece)) x_8 (gd (0:Int) x_7.snd x.toNat).toNat).pieces.ok x_9∧((0:Int)≤x_7.fst.no∧x_7.fst.no<(↑((gd (ShelfR.mk false (Row.no Piece)) x_8 (gd (0:Int) x_7.snd x.toNat).toNat).pieces.get x_9).length:Int))∧((0:Int)≤(plcV v b).fst.no∧(plcV v b).fst.no<(↑(z6_3 v b).length:Int))∧(plcV v b).fst.no.toNat<(z6_3 v b).length∧(gd (ShelfR.mk false (Row.no Piece)) x_8 (gd (0:Int) x_7.snd x.toNat).toNat).pieces.ok x_9∧x_7.fst.no.toNat<((gd (ShelfR.mk false (Row.no Piece)) x_8 (gd (0:Int) x_7.snd x.toNat).toNat).pieces.get x_9).length∧(gd (ShelfR.mk false (Row.no Piece)) x_8 (gd (0:Int) x_7.snd x.toNat).toNat).pieces.mine x_9∧x_7.fst.no.toNat<((gd (ShelfR.mk false (Row.no Piece)) x_8 (gd (0:Int) x_7.snd x.toNat).toNat).pieces.get x_9).length∧I64 (x+(1:Int))∧i_6_0 v b dt (x+(1:Int)) x_8 (((gd (ShelfR.mk false (Row.no Piece)) x_8 (gd (0:Int) x_7.snd x.toNat).toNat).pieces.id,((gd (ShelfR.mk false (Row.no Piece)) x_8 (gd (0:Int) x_7.snd x.toNat).toNat).pieces.get x_9).set x_7.fst.no.toNat (Piece.mk (gd (0:Int) (z6_3 v b) (plcV v b).fst.no.toNat) (gd ByteArray.empty ((mixS (invL (rowsF (plcV v b).fst.vol.layout.data (plcV v b).fst.vol.layout.more x_3)).fst x_4).set (plcV v b).snd.fst.toNat dt++mixS (cauL v.layout.more (↑((mixS (invL (rowsF (plcV v b).fst.vol.layout.data (plcV v b).fst.vol.layout.more x_3)).fst x_4).set (plcV v b).snd.fst.toNat dt).length:Int)).fst ((mixS (invL (rowsF (plcV v b).fst.vol.layout.data (plcV v b).fst.vol.layout.more x_3)).fst x_4).set (plcV v b).snd.fst.toNat dt)) x.toNat)))::x_9)∧(v.layout.data+v.layout.more - (x+(1:Int))).toNat<(v.layout.data+v.layout.more - x).toNat)∧((gd (ShelfR.mk false (Row.no Piece)) x_8 (gd (0:Int) x_7.snd x.toNat).toNat).up=false→I64 (x+(1:Int))∧i_6_0 v b dt (x+(1:Int)) x_8 x_9∧(v.layout.data+v.layout.more - (x+(1:Int))).toNat<(v.layout.data+v.layout.more - x).toNat))∧((↑((mixS (invL (rowsF (plcV v b).fst.vol.layout.data (plcV v b).fst.vol.layout.more x_3)).fst x_4).set (plcV v b).snd.fst.toNat dt++mixS (cauL v.layout.more (↑((mixS (invL (rowsF (plcV v b).fst.vol.layout.data (plcV v b).fst.vol.layout.more x_3)).fst x_4).set (plcV v b).snd.fst.toNat dt).length:Int)).fst ((mixS (invL (rowsF (plcV v b).fst.vol.layout.data (plcV v b).fst.vol.layout.more x_3)).fst x_4).set (plcV v b).snd.fst.toNat dt)).length:Int)≤x→(∀(x:ShelfR),x∈x_8→True∧x.pieces.ok x_9∧x.pieces.kd≠RK.nil)∧(Volume.mk x_7.fst.vol.layout x_7.fst.vol.size (z6_3 v b) (List.map (fun x=>Shelf.mk x.up (x.pieces.get x_9)) x_8),(0:Int))=wrtR v b dt))))))))))))))))))):=by
 delta z6_3 z6_2 z6_1 z6_0
 by_cases hz:plcE v b=0
 case neg=>
  have hP:(plcV v b).2.2=plcE v b:=by unfold plcV;rw [if_pos hz]
  have e1:wrtR v b dt=(⟨⟨0,0,0,0⟩,0,[],[]⟩,plcE v b):=by
   have e:wrtE v b dt=plcE v b:=by unfold wrtE;rw [if_pos hz]
   unfold wrtR;rw [e,if_pos hz]
  simp only [hP]
  (repeat' (first|apply And.intro|intro _))<;>first|(exact absurd ‹plcE v b=0› hz)|exact e1.symm|(exact absurd (And.left ‹_∧_›) hz)|trivial|trace_state
 have hP:plcV v b=(⟨v,b / v.layout.data,nodesL v.layout (b / v.layout.data)⟩,b%v.layout.data,0):=by unfold plcV;rw [if_neg (by simp [hz])]
 have e0:∀p,(v.at_ (v.layout.node (b / v.layout.data) p) (b / v.layout.data)).data=pcG v (b / v.layout.data) p:=fun p=>rfl
 simp only [hP,e0]
 obtain ⟨k,a2,a3,a4,a5,a6,a7⟩:=plc_ok hz
 have hk:=k.lay
 have kd:=k.lay.d
 have km:=k.lay.m
 have kbd:=k.bd
 have hSt:=StO.mk' k a4 a5
 have hln:=hSt.len
 have hE:∀e:Int,¬e=0→wrtE v b dt=e→wrtR v b dt=(⟨⟨0,0,0,0⟩,0,[],[]⟩,e):=fun e h1 h2=>by unfold wrtR;rw [h2,if_pos h1]
 have E1:¬(dt.size:Int)=v.size→wrtR v b dt=(⟨⟨0,0,0,0⟩,0,[],[]⟩,1):=fun h=>hE 1 (by decide) (by unfold wrtE;rw [if_neg (by rw [hz];simp),if_pos h])
 have E2:(dt.size:Int)=v.size→∀e:Int,¬e=0→(dataL v (b / v.layout.data)).2=e→wrtR v b dt=(⟨⟨0,0,0,0⟩,0,[],[]⟩,e):=fun h e h1 h2=>hE e h1 (by unfold wrtE;rw [if_neg (by rw [hz];simp),if_neg (by simp [h]),if_pos (by rw [h2];exact h1),h2])
 have E3:(dt.size:Int)=v.size→(dataL v (b / v.layout.data)).2=0→gd 0 v.versions (b / v.layout.data).toNat=1000000→wrtR v b dt=(⟨⟨0,0,0,0⟩,0,[],[]⟩,2):=fun h h1 h2=>hE 2 (by decide) (by unfold wrtE;rw [if_neg (by rw [hz];simp),if_neg (by simp [h]),if_neg (by simp [h1]),if_pos h2])
 have E4:(dt.size:Int)=v.size→(dataL v (b / v.layout.data)).2=0→¬gd 0 v.versions (b / v.layout.data).toNat=1000000→wrtR v b dt=(wrtV v b dt,0):=fun h h1 h2=>by
  have e:wrtE v b dt=0:=by unfold wrtE;rw [if_neg (by rw [hz];simp),if_neg (by simp [h]),if_neg (by simp [h1]),if_neg h2]
  unfold wrtR;rw [e];rfl
 have df:= @dt_few v (b / v.layout.data)
 have dr:= @dt_reb v (b / v.layout.data) k
 have E2a:(dt.size:Int)=v.size→((atA v (b / v.layout.data)).length:Int)<v.layout.data→wrtR v b dt=(⟨⟨0,0,0,0⟩,0,[],[]⟩,8):=fun h h1=>E2 h 8 (by decide) (by rw [df h1])
 have E2b:(dt.size:Int)=v.size→v.layout.data≤((atA v (b / v.layout.data)).length:Int)→¬alkE ((atA v (b / v.layout.data)).map (pcG v (b / v.layout.data)))=0→wrtR v b dt=(⟨⟨0,0,0,0⟩,0,[],[]⟩,alkE ((atA v (b / v.layout.data)).map (pcG v (b / v.layout.data)))):=fun h h1 h2=>E2 h _ h2 (by rw [(dr h1).2.2.1 h2])
 have E2c:(dt.size:Int)=v.size→v.layout.data≤((atA v (b / v.layout.data)).length:Int)→alkE ((atA v (b / v.layout.data)).map (pcG v (b / v.layout.data)))=0→¬(invL (rowsF v.layout.data v.layout.more (atA v (b / v.layout.data)))).2=0→wrtR v b dt=(⟨⟨0,0,0,0⟩,0,[],[]⟩,(invL (rowsF v.layout.data v.layout.more (atA v (b / v.layout.data)))).2):=fun h h1 h2 h3=>E2 h _ h3 (by rw [(dr h1).2.2.2.1 h2 h3])
 have M0:v.layout.data≤((atA v (b / v.layout.data)).length:Int)→alkE ((atA v (b / v.layout.data)).map (pcG v (b / v.layout.data)))=0→(invL (rowsF v.layout.data v.layout.more (atA v (b / v.layout.data)))).2=0→mixS (invL (rowsF v.layout.data v.layout.more (atA v (b / v.layout.data)))).1 ((atA v (b / v.layout.data)).map (pcG v (b / v.layout.data)))=(dataL v (b / v.layout.data)).1∧(dataL v (b / v.layout.data)).2=0∧MxP (invL (rowsF v.layout.data v.layout.more (atA v (b / v.layout.data)))).1 ((atA v (b / v.layout.data)).map (pcG v (b / v.layout.data))):=fun h1 h2 h3=>by
  have q:=dr h1
  refine ⟨by rw [q.2.2.2.2 h2 h3],by rw [q.2.2.2.2 h2 h3],reb_mx kd.1 kd.2 (by rw [List.length_map]) q.1 h2 h3⟩
 have hdc:= @data_cnt v (b / v.layout.data)
 have hwe:= @wrt_enc v b dt hz
 have hwd:(dataL v (b / v.layout.data)).1.set (b%v.layout.data).toNat dt=wrtD v b dt:=rfl
 have hwa:(encL (wrtD v b dt) v.layout.more).1=mixS (cauL v.layout.more (wrtD v b dt).length).1 (wrtD v b dt)→wrtD v b dt++mixS (cauL v.layout.more (wrtD v b dt).length).1 (wrtD v b dt)=wrtA v b dt:=fun h=>by unfold wrtA;rw [h]
 have hem:= @enc_mx (wrtD v b dt) v.layout.more
 have hvr:=k.ver _ (gd_mem (d:=(0:Int)) (xs:=v.versions) (i:=(b / v.layout.data).toNat) (by omega))
 have d1:= @DtI.start v (b / v.layout.data)
 have d2:= @DtI.keep v (b / v.layout.data)
 have d3:= @DtI.more v (b / v.layout.data)
 have d4:= @DtI.fin v (b / v.layout.data)
 have d5:= @DtI.len v (b / v.layout.data)
 have t1:= @AtI.start (v.layout.data+v.layout.more)
 have t2:= @AtI.out (v.layout.data+v.layout.more)
 have t3:= @AtI.twice (v.layout.data+v.layout.more)
 have t4:= @AtI.step (v.layout.data+v.layout.more)
 have t6:= @AtI.lo (v.layout.data+v.layout.more)
 have atR:∀x,x∈atA v (b / v.layout.data)→0≤x∧x<v.layout.data+v.layout.more:=fun x hx=>by have:=atA_mem x hx;omega
 refine ⟨trivial,fun h=>h,fun h=>h,fun h=>h,fun h=>h,fun h=>h,fun h=>(E1 h.2).symm,fun h0=>⟨fun h=>absurd trivial h,fun _=> ?_⟩⟩
 have hs:(dt.size:Int)=v.size:=h0.resolve_left (fun h=>h trivial)
 refine ⟨⟨hz,d1 hk⟩,fun p at_ P hI=>⟨fun hp=> ?_,fun hp=> ?_⟩⟩
 ·obtain ⟨_,hI⟩:=hI
  have q:=d5 hI hk
  have hlt:p<v.layout.data+v.layout.more:=by rw [←hln.1];exact hp
  have q0:=q.2.2.2
  refine ⟨⟨hSt,q0,hlt⟩,fun h=>h,fun h=>h,fun h=>h,fun h=>h,fun h=>h,fun h=>h,fun h=>h,fun h=>⟨by omega,⟨hSt,q0,hlt⟩,by omega,by unfold I64;omega,⟨hz,d3 hI hlt h.1 h.2⟩,by omega⟩,fun h=>⟨by unfold I64;omega,⟨hz,d2 hI hlt h⟩,by omega⟩⟩
 obtain ⟨_,hI⟩:=hI
 obtain ⟨rfl,rfl⟩:=d4 hI (by rw [←hln.1];exact hp)
 clear hI hp h0
 have b1:decide (1≤v.layout.data∧v.layout.data≤8)=true:=decide_eq_true kd
 have b2:decide (1≤v.layout.more∧v.layout.more≤6)=true:=decide_eq_true km
 refine ⟨fun h=>(E2a hs h).symm,fun hl=>⟨trivial,fun _=>trivial,fun h=>by rw [b1,b2] at h;simp at h,fun _=>⟨fun h=>absurd (by rw [List.length_map]) h,fun _=>⟨fun h=>absurd hl (by omega),fun _=>⟨fun h=>absurd h (by have:=(dr hl).1;omega),fun _=>⟨⟨rfl,rfl,t1⟩,fun x x3 x4 hI=> ?_⟩⟩⟩⟩⟩⟩
 obtain ⟨rfl,rfl,hA⟩:=hI
 obtain ⟨q1,q2,r1,r2,r3⟩:=dr hl
 have q0:=t6 hA
 refine ⟨fun hx=>⟨⟨q0,hx⟩,fun h=>h,fun h=>h,fun _=>by unfold I64;omega,fun h=>h,fun h=>h,fun h=>h,fun h=>by have:=t2 hA hx h;rw [q2] at this;simp at this,fun h=>⟨⟨q0,by omega⟩,by rw [List.length_take];omega,fun h2=>by have:=t3 hA hx h.1 h.2 (of_decide_eq_true h2);rw [q2] at this;simp at this,fun h2=>⟨by unfold I64;omega,⟨rfl,rfl,t4 hA hx h.1 h.2 (of_decide_eq_false h2)⟩,by omega⟩⟩⟩,fun hx=> ?_⟩
 refine ⟨by rw [List.length_map];omega,fun h=>⟨fun _=>(E2b hs hl h).symm,fun h2=>absurd h2 h⟩,fun h=> ?_⟩
 refine ⟨⟨kd.1,kd.2,km.1,km.2,by omega,atR⟩,trivial,fun h2=>⟨fun _=>(E2c hs hl h h2).symm,fun h3=>absurd h3 h2⟩,fun h2=> ?_⟩
 obtain ⟨m1,m2,m3⟩:=M0 hl h h2
 refine ⟨m3,⟨a4,a5⟩,fun h3=>(E3 hs m2 h3).symm,fun h3=> ?_⟩
 have e4:=E4 hs m2 h3
 obtain ⟨w1,w2,w3,w4⟩:=hwe hs m2
 have hd1:=hdc m2
 have w5:=hwa (by rw [w3])
 simp only [m1,hwd,w5]
 clear hA E1 E2 E2a E2b E2c E3 E4 M0 hE dr df t1 t2 t3 t4 t6 d1 d2 d3 d4 d5 r1 r2 r3 hx
 refine ⟨⟨a6,by omega⟩,by omega,fun h4=>by omega,fun _=>⟨fun h4=>by omega,fun _=>⟨trivial,fun h4=>by rw [b2] at h4;simp at h4,fun _=>⟨by omega,fun h4=>absurd w2 h4,fun _=>⟨trivial,hem (by omega) (by omega) km.1 km.2 w2,by omega,kbd.1,by omega, ?_,fun x x5 x6 hO=>⟨fun hx=> ?_,fun hx=> ?_⟩⟩⟩⟩⟩⟩
 ·exact OwV.start
 ·have hx:x<(v.nodes.length:Int):=hx
  obtain ⟨o1,o2,o3,o4⟩:=hO.rw k hx
  have o5:=hO.lo
  have o6:=hO.len
  have st:=fun id hid=>hO.step (id:=id) hx hid rfl
  rw [←o3] at o4 st
  exact ⟨⟨o5,by omega⟩,by omega,o1,o2,by omega,⟨o5,by omega⟩,fun id hid=>⟨by omega,by unfold I64;omega,st id hid,by omega⟩⟩
 have hx:(v.nodes.length:Int)≤x:=hx
 refine ⟨.inl hk,⟨rfl,rfl,rfl,UpV.start (by omega)⟩,fun p Z hZ=>⟨fun hp=> ?_,fun hp=> ?_⟩⟩
 ·obtain ⟨z1,z2,z3,hU⟩:=hZ
  have u3:=hU.len
  have u4:=hU.lo
  have u2:=hU.step hp
  have u6:nodG v.layout (b / v.layout.data) p.toNat=v.layout.node (b / v.layout.data) p:=by unfold nodG;rw [show ((p.toNat:Nat):Int)=p by omega]
  rw [u6] at u2
  exact ⟨⟨hk,a4,by omega,u4,by omega⟩,by omega,by unfold I64;omega,⟨z1,z2,z3,u2⟩,by omega⟩
 obtain ⟨z1,z2,z3,hU⟩:=hZ
 have hZ2:Z.2=nodesL v.layout (b / v.layout.data):=hU.fin hp
 have w6:(wrtD v b dt).length+(mixS (cauL v.layout.more (wrtD v b dt).length).1 (wrtD v b dt)).length=(wrtA v b dt).length:=by rw [←w5,List.length_append]
 have hnl:((nodesL v.layout (b / v.layout.data)).length:Int)=v.layout.data+v.layout.more:=hln.1
 have ev:gd 0 (v.versions.set (b / v.layout.data).toNat (gd 0 v.versions (b / v.layout.data).toNat+1)) (b / v.layout.data).toNat=gd 0 v.versions (b / v.layout.data).toNat+1:=by rw [gd_setV (by omega),if_pos rfl]
 simp only [z1,z2,z3,hZ2,ev,e4,List.length_set]
 refine ⟨⟨a4,a5⟩,by omega,by unfold I64;omega,⟨a4,a5⟩,by omega,by rw [w6];omega,WrI.start k hO hx a4 a5,fun p K A hW=>⟨fun hp=> ?_,fun hp=> ?_⟩⟩
 ·have hW:WrI v (b / v.layout.data) (gd 0 v.versions (b / v.layout.data).toNat+1) (wrtA v b dt) p K A:=hW
  have p0:=hW.k0
  have p1:p<v.layout.data+v.layout.more:=by omega
  have ea:gd 0 (nodesL v.layout (b / v.layout.data)) p.toNat=v.layout.node (b / v.layout.data) p:=hSt.at_ p0 p1
  simp only [ea]
  obtain ⟨g1,g2,g3,g4,g5,g6,g7⟩:=hW.row
  have hstp:=hW.step p1
  have hdwn:=hW.down p1
  simp only [wrRow] at g4 g5 g6 g7 hstp
  exact ⟨⟨p0,by omega⟩,by omega,⟨p0,by omega⟩,by omega,⟨g1,g2⟩,by omega,fun up=>⟨⟨p0,by omega⟩,by omega,⟨g1,g2⟩,by omega,g5,⟨a4,by rw [g7];exact a5⟩,⟨a4,a5⟩,by omega,g5,by rw [g7];omega,g4,by rw [g7];omega,by unfold I64;omega,hstp up,by omega⟩,fun up=>⟨by unfold I64;omega,hdwn up,by omega⟩⟩
 ·have hW:WrI v (b / v.layout.data) (gd 0 v.versions (b / v.layout.data).toNat+1) (wrtA v b dt) p K A:=hW
  obtain ⟨f1,f2⟩:=hW.done (by omega) (vs:=v.versions.set (b / v.layout.data).toNat (gd 0 v.versions (b / v.layout.data).toNat+1))
  exact ⟨f1,Prod.ext f2 rfl⟩
def l_6:PD Tc.dn k_6.ps→List (IL Tc Tc.dn):=fun x=>(fun (v:Volume) (b:Int) (dt:ByteArray)=>([⟨18, .fn F18 (fun k=>bif Nat.beq k 0 then some (.inv [.sl 10 .cInt, .ow 4 .cInt, .ow 5 .cStr] (fun zo zv=>(fun (p:Int) (at_:(List Int)) (P:(List ByteArray))=>i_6_18_0 v b p at_ P) zv.1 zv.2.1 zv.2.2.1) (fun zo zv=>(fun (p:Int) (at_:(List Int)) (P:(List ByteArray))=>((v.layout.data+v.layout.more) - p).toNat) zv.1 zv.2.1 zv.2.2.1)) else none),none⟩,⟨44, .fn F44 (fun k=>bif Nat.beq k 0 then some (.inv [.sl 40 .cInt, .sl 2 .lInt, .sl 3 .lStr] (fun zo zv=>(fun (i0:Int) (a0:(List Int)) (P0:(List ByteArray)) (i:Int) (a:(List Int)) (P:(List ByteArray))=>i_6_44_0 v i0 a0 P0 i a P) zo.1 zo.2.1 zo.2.2.1 zv.1 zv.2.1 zv.2.2.1) (fun zo zv=>(fun (i0:Int) (a0:(List Int)) (P0:(List ByteArray)) (i:Int) (a:(List Int)) (P:(List ByteArray))=>((a.length:Int) - i).toNat) zo.1 zo.2.1 zo.2.2.1 zv.1 zv.2.1 zv.2.2.1)) else bif Nat.beq k 1016 then some (.frz [2,3]) else none),none⟩,⟨19, .fn F19 (fun _=>none),none⟩,⟨21, .fn F21 (fun k=>bif Nat.beq k 0 then some (.inv [.sl 15 .cInt, .bl 13 .cShelfR, .ar .cPiece] (fun zo zv=>(fun (i:Int) (K:(List ShelfR)) (A:(List (Nat×List Piece)))=>i_6_21_0 v i K A) zv.1 zv.2.1 zv.2.2.1) (fun zo zv=>(fun (i:Int) (K:(List ShelfR)) (A:(List (Nat×List Piece)))=>((v.nodes.length:Int) - i).toNat) zv.1 zv.2.1 zv.2.2.1)) else none),none⟩,⟨51, .fn F51 (fun _=>none),none⟩,⟨20, .fn F20 (fun k=>bif Nat.beq k 0 then some (.inv [.sl 13 .cInt, .sg 16 8 .cInt .cStripe [(5, .cInt,11,1),(6, .cShelf,13,2)]] (fun zo zv=>(fun (p:Int) (Z:(Stripe×List Int))=>i_6_20_0 v b p Z) zv.1 zv.2.1) (fun zo zv=>(fun (p:Int) (Z:(Stripe×List Int))=>(v.layout.data+v.layout.more - p).toNat) zv.1 zv.2.1)) else none),none⟩,⟨22, .fn F22 (fun _=>none),none⟩])) x.1 x.2.1 x.2.2.1
theorem l_6_ok:∀x,ILs Try.prog tD (l_6 x):=fun _=>⟨⟨F18_ok,F18_call⟩,⟨F44_ok,F44_call⟩,⟨F19_ok,F19_call⟩,⟨F21_ok,F21_call⟩,⟨F51_ok,F51_call⟩,⟨F20_ok,F20_call⟩,⟨F22_ok,F22_call⟩,trivial⟩
theorem k_6_ok:k_6.Ok Try.prog tD:=con_ok tD_ok (Δ:=[k_17,k_43,k_22,k_45,k_57,k_46,k_59,k_58,k_47,k_38,k_49]) ⟨k_17_ok,k_43_ok,k_22_ok,(k_45_ok.two rfl rfl rfl),(k_57_ok.two rfl rfl rfl),(k_46_ok.two rfl rfl rfl),(k_59_ok.two rfl rfl rfl),(k_58_ok.two rfl rfl rfl),(k_47_ok.two rfl rfl rfl),k_38_ok,k_49_ok,trivial⟩ (Ω:=[o_48,o_50,o_52]) ⟨o_48_ok,o_50_ok,o_52_ok,trivial⟩ k_6 F6_ok F6_call (l_6) (l_6_ok) 4 (fun x=>(fun (v:Volume) (b:Int) (dt:ByteArray)=>(fun k=>bif Nat.beq k 0 then some (.inv [.sl 86 .cInt, .bl 13 .cShelfR, .ar .cPiece] (fun zo zv=>(fun (p:Int) (K:(List ShelfR)) (A:(List (Nat×List Piece)))=>i_6_0 v b dt p K A) zv.1 zv.2.1 zv.2.2.1) (fun zo zv=>(fun (p:Int) (K:(List ShelfR)) (A:(List (Nat×List Piece)))=>(v.layout.data+v.layout.more - p).toNat) zv.1 zv.2.1 zv.2.2.1)) else bif Nat.beq k 11068 then some (.unc 20) else bif Nat.beq k 11102 then some (.unc 22) else none)) x.1 x.2.1 x.2.2.1) fun x hp=>Eq.mp (by kernel_rfl) (k_6_v x.1 x.2.1 x.2.2.1)
section
variable (k:Int) (x:U64)
end
open Go.RowKit
structure EqV {α:Type} (d:α) (a b:List α) (i:Int):Prop where
 lo:0≤i
 hi:i≤a.length
 len:a.length=b.length
 eq:∀j:Nat,j<i.toNat→gd d a j=gd d b j
theorem EqV.start {α:Type} {d:α} {a b:List α} (h:(a.length:Int)=b.length):EqV d a b 0:=⟨by omega,by omega,by omega,fun j hj=>by simp at hj⟩
theorem EqV.step {α:Type} {d:α} {a b:List α} {i:Int} (h:EqV d a b i) (hi:i<a.length) (e:gd d a i.toNat=gd d b i.toNat):EqV d a b (i+1):=by
 have h0:=h.lo
 refine ⟨by omega,by omega,h.len,fun j hj=> ?_⟩
 by_cases e2:j=i.toNat
 ·rw [e2];exact e
 ·exact h.eq j (by omega)
theorem EqV.fin {α:Type} {d:α} {a b:List α} {i:Int} (h:EqV d a b i) (hi:a.length≤i):a=b:=gd_iff (d:=d) h.len fun j hj=>h.eq j (by omega)
theorem vol_ext (a b:Volume):a=b↔a.layout=b.layout∧a.size=b.size∧a.versions=b.versions∧a.nodes=b.nodes:=by
 constructor
 ·rintro rfl;exact ⟨rfl,rfl,rfl,rfl⟩
 ·intro ⟨h1,h2,h3,h4⟩;cases a;cases b;simp at h1 h2 h3 h4;subst h1;subst h2;subst h3;subst h4;rfl
theorem lay_ext (a b:Layout):a=b↔a.nodes=b.nodes∧a.data=b.data∧a.more=b.more∧a.turn=b.turn:=by
 constructor
 ·rintro rfl;exact ⟨rfl,rfl,rfl,rfl⟩
 ·intro ⟨h1,h2,h3,h4⟩;cases a;cases b;simp at h1 h2 h3 h4;subst h1;subst h2;subst h3;subst h4;rfl
theorem she_ext (a b:Shelf):a=b↔a.up=b.up∧a.pieces=b.pieces:=by
 constructor
 ·rintro rfl;exact ⟨rfl,rfl⟩
 ·intro ⟨h1,h2⟩;cases a;cases b;simp at h1 h2;subst h1;subst h2;rfl
theorem pie_ext (a b:Piece):a=b↔a.version=b.version∧a.data=b.data:=by
 constructor
 ·rintro rfl;exact ⟨rfl,rfl⟩
 ·intro ⟨h1,h2⟩;cases a;cases b;simp at h1 h2;subst h1;subst h2;rfl
instance:DecidableEq Layout:=fun a b=>decidable_of_iff _ (lay_ext a b).symm
instance:DecidableEq Piece:=fun a b=>decidable_of_iff _ (pie_ext a b).symm
instance:DecidableEq Shelf:=fun a b=>decidable_of_iff _ (she_ext a b).symm
instance:DecidableEq Volume:=fun a b=>decidable_of_iff _ (vol_ext a b).symm
structure EqR (a b:Volume) (n s:Int):Prop where
 o:EqV (⟨false,[]⟩:Shelf) a.nodes b.nodes n
 lt:n<a.nodes.length
 u:(gd (⟨false,[]⟩:Shelf) a.nodes n.toNat).up=(gd (⟨false,[]⟩:Shelf) b.nodes n.toNat).up
 r:EqV (⟨0,ByteArray.empty⟩:Piece) (gd (⟨false,[]⟩:Shelf) a.nodes n.toNat).pieces (gd (⟨false,[]⟩:Shelf) b.nodes n.toNat).pieces s
theorem EqR.fin {a b:Volume} {n s:Int} (h:EqR a b n s) (hs:((gd (⟨false,[]⟩:Shelf) a.nodes n.toNat).pieces.length:Int)≤s):EqV (⟨false,[]⟩:Shelf) a.nodes b.nodes (n+1):=h.o.step h.lt ((she_ext _ _).2 ⟨h.u,h.r.fin hs⟩)
theorem EqR.step {a b:Volume} {n s:Int} (h:EqR a b n s) (hs:s<((gd (⟨false,[]⟩:Shelf) a.nodes n.toNat).pieces.length:Int)) (e:gd (⟨0,ByteArray.empty⟩:Piece) (gd (⟨false,[]⟩:Shelf) a.nodes n.toNat).pieces s.toNat=gd (⟨0,ByteArray.empty⟩:Piece) (gd (⟨false,[]⟩:Shelf) b.nodes n.toNat).pieces s.toNat):EqR a b n (s+1):=⟨h.o,h.lt,h.u,h.r.step hs e⟩
theorem EqR.lo {a b:Volume} {n s:Int} (h:EqR a b n s):0≤n∧0≤s∧a.nodes.length=b.nodes.length∧(gd (⟨false,[]⟩:Shelf) a.nodes n.toNat).pieces.length=(gd (⟨false,[]⟩:Shelf) b.nodes n.toNat).pieces.length:=⟨h.o.lo,h.r.lo,h.o.len,h.r.len⟩
theorem EqR.bd {a b:Volume} {n s:Int} (h:EqR a b n s):n<a.nodes.length:=h.lt
theorem EqR.start {a b:Volume} {n:Int} (h:EqV (⟨false,[]⟩:Shelf) a.nodes b.nodes n) (hn:n<a.nodes.length) (hu:(gd (⟨false,[]⟩:Shelf) a.nodes n.toNat).up=(gd (⟨false,[]⟩:Shelf) b.nodes n.toNat).up) (hl:((gd (⟨false,[]⟩:Shelf) a.nodes n.toNat).pieces.length:Int)=(gd (⟨false,[]⟩:Shelf) b.nodes n.toNat).pieces.length):EqR a b n 0:=⟨h,hn,hu, .start hl⟩
structure Volume.sm (v:Volume):Prop where
 vs:v.versions.length≤1000000
 ns:v.nodes.length≤1000000
 ps:∀x,x∈v.nodes→x.pieces.length≤1000000
def k_24:Con Tc Tc.dn:=⟨24,[],fun _=>True,[.cLayout],fun _=>⟨5,2,2,1⟩⟩
theorem k_24_v  :Layout.mk (5:Int) (2:Int) (2:Int) (1:Int)=Layout.mk (5:Int) (2:Int) (2:Int) (1:Int):=by
 (repeat' (first|apply And.intro|intro _))<;>first|assumption|trivial|omega|(grind [])|trace_state
theorem k_24_ok:k_24.Ok Try.prog tD:=con_ok tD_ok (Δ:=[]) trivial (Ω:=[]) trivial k_24 F24_ok F24_call (fun _=>[]) (fun _=>trivial) 0 (fun _=>fun _=>none) fun x hp=>Eq.mp (by kernel_rfl) (k_24_v )
def i_25_0 (a:(List Int)) (b:(List Int)) (i:Int):Prop:=EqV 0 a b i
def k_25:Con Tc Tc.dn:=⟨25,[.ty .lInt, .ty .lInt],fun x=>(fun (a:(List Int)) (b:(List Int))=>a.length≤1000000) x.1 x.2.1,[.cBool],fun x=>(fun (a:(List Int)) (b:(List Int))=>decide (a=b)) x.1 x.2.1⟩
theorem k_25_v (a:(List Int)) (b:(List Int)) (hp:a.length≤1000000):(¬(↑a.length:Int)=(↑b.length:Int)→false=decide (a=b))∧((↑a.length:Int)=(↑b.length:Int)→i_25_0 a b (0:Int)∧∀(x:Int),i_25_0 a b x→(x<(↑a.length:Int)→((0:Int)≤x∧x<(↑a.length:Int))∧((0:Int)≤x∧x<(↑b.length:Int))∧(¬gd (0:Int) a x.toNat=gd (0:Int) b x.toNat→false=decide (a=b))∧(gd (0:Int) a x.toNat=gd (0:Int) b x.toNat→I64 (x+(1:Int))∧i_25_0 a b (x+(1:Int))∧((↑a.length:Int) - (x+(1:Int))).toNat<((↑a.length:Int) - x).toNat))∧((↑a.length:Int)≤x→true=decide (a=b))):=by
 have h1:= @EqV.start Int 0 a b
 have h2:= @EqV.step Int 0 a b
 have h3:= @EqV.fin Int 0 a b
 have h6:= @EqV.lo Int 0 a b
 have h7:= @EqV.len Int 0 a b
 (repeat' (first|apply And.intro|intro _))<;>first|assumption|trivial|omega|(grind [i_25_0,I64])|trace_state
theorem k_25_ok:k_25.Ok Try.prog tD:=con_ok tD_ok (Δ:=[]) trivial (Ω:=[]) trivial k_25 F25_ok F25_call (fun _=>[]) (fun _=>trivial) 0 (fun x=>(fun (a:(List Int)) (b:(List Int))=>(fun k=>bif Nat.beq k 0 then some (.inv [.sl 5 .cInt] (fun zo zv=>(fun (i:Int)=>i_25_0 a b i) zv.1) (fun zo zv=>(fun (i:Int)=>((a.length:Int) - i).toNat) zv.1)) else none)) x.1 x.2.1) fun x hp=>Eq.mp (by kernel_rfl) (k_25_v x.1 x.2.1 hp)
def i_8_1 (a:Volume) (b:Volume) (s0:Int) (n0:Int) (s:Int) (n:Int):Prop:=n=n0∧a.layout=b.layout∧a.size=b.size∧a.versions=b.versions∧EqR a b n s
def i_8_0 (a:Volume) (b:Volume) (n:Int):Prop:=a.layout=b.layout∧a.size=b.size∧a.versions=b.versions∧EqV (⟨false,[]⟩:Shelf) a.nodes b.nodes n
def k_8:Con Tc Tc.dn:=⟨8,[.ty .cVolume, .ty .cVolume],fun x=>(fun (a:Volume) (b:Volume)=>a.sm) x.1 x.2.1,[.cBool],fun x=>(fun (a:Volume) (b:Volume)=>decide (a=b)) x.1 x.2.1⟩
abbrev z8_0 (a:Volume) (b:Volume):=(a.layout.nodes=b.layout.nodes∧a.layout.data=b.layout.data∧a.layout.more=b.layout.more∧a.layout.turn=b.layout.turn)
abbrev z8_1 (a:Volume) (b:Volume):=(a.layout.nodes=b.layout.nodes∧a.layout.data=b.layout.data∧a.layout.more=b.layout.more∧a.layout.turn=b.layout.turn→a.layout.nodes=b.layout.nodes∧a.layout.data=b.layout.data∧a.layout.more=b.layout.more∧a.layout.turn=b.layout.turn)
abbrev z8_2 (a:Volume) (b:Volume):=(((z8_0 a b)∧a.size=b.size)∧decide (a.versions=b.versions)= !false→((z8_0 a b)∧a.size=b.size)∧decide (a.versions=b.versions)= !false)
theorem k_8_v (a:Volume) (b:Volume) (hp:a.sm):(z8_1 a b)∧(z8_1 a b)∧(z8_1 a b)∧(z8_1 a b)∧(z8_1 a b)∧((z8_0 a b)∧a.size=b.size→(z8_0 a b)∧a.size=b.size)∧((z8_0 a b)∧a.size=b.size→(z8_0 a b)∧a.size=b.size)∧((z8_0 a b)∧a.size=b.size→(z8_0 a b)∧a.size=b.size)∧((z8_0 a b)∧a.size=b.size→(z8_0 a b)∧a.size=b.size)∧((z8_0 a b)∧a.size=b.size→a.versions.length≤(1000000:Nat))∧((z8_0 a b)∧a.size=b.size→(z8_0 a b)∧a.size=b.size)∧((z8_0 a b)∧a.size=b.size→(z8_0 a b)∧a.size=b.size)∧(z8_2 a b)∧(z8_2 a b)∧(z8_2 a b)∧(z8_2 a b)∧(z8_2 a b)∧(z8_2 a b)∧(z8_2 a b)∧((((¬a.layout.nodes=b.layout.nodes∨¬a.layout.data=b.layout.data∨¬a.layout.more=b.layout.more∨¬a.layout.turn=b.layout.turn)∨¬a.size=b.size)∨decide (a.versions=b.versions)= !true)∨¬(↑a.nodes.length:Int)=(↑b.nodes.length:Int)→false=decide (a=b))∧((((z8_0 a b)∧a.size=b.size)∧decide (a.versions=b.versions)= !false)∧(↑a.nodes.length:Int)=(↑b.nodes.length:Int)→i_8_0 a b (0:Int)∧∀(x:Int),i_8_0 a b x→(x<(↑a.nodes.length:Int)→((0:Int)≤x∧x<(↑a.nodes.length:Int))∧((0:Int)≤x∧x<(↑b.nodes.length:Int))∧((gd (Shelf.mk false []) a.nodes x.toNat).up=(gd (Shelf.mk false []) b.nodes x.toNat).up→(gd (Shelf.mk false []) a.nodes x.toNat).up=(gd (Shelf.mk false []) b.nodes x.toNat).up)∧((gd (Shelf.mk false []) a.nodes x.toNat).up=(gd (Shelf.mk false []) b.nodes x.toNat).up→(gd (Shelf.mk false []) a.nodes x.toNat).up=(gd (Shelf.mk false []) b.nodes x.toNat).up)∧((gd (Shelf.mk false []) a.nodes x.toNat).up=(gd (Shelf.mk false []) b.nodes x.toNat).up→(gd (Shelf.mk false []) a.nodes x.toNat).up=(gd (Shelf.mk false []) b.nodes x.toNat).up)∧((gd (Shelf.mk false []) a.nodes x.toNat).up=(gd (Shelf.mk false []) b.nodes x.toNat).up→(gd (Shelf.mk false []) a.nodes x.toNat).up=(gd (Shelf.mk false []) b.nodes x.toNat).up)∧((gd (Shelf.mk false []) a.nodes x.toNat).up=(gd (Shelf.mk false []) b.nodes x.toNat).up→(gd (Shelf.mk false []) a.nodes x.toNat).up=(gd (Shelf.mk false []) b.nodes x.toNat).up)∧((gd (Shelf.mk false []) a.nodes x.toNat).up=(gd (Shelf.mk false []) b.nodes x.toNat).up→(gd (Shelf.mk false []) a.nodes x.toNat).up=(gd (Shelf.mk false []) b.nodes x.toNat).up)∧((gd (Shelf.mk false []) a.nodes x.toNat).up=(gd (Shelf.mk false []) b.nodes x.toNat).up→(gd (Shelf.mk false []) a.nodes x.toNat).up=(gd (Shelf.mk false []) b.nodes x.toNat).up)∧(¬(gd (Shelf.mk false []) a.nodes x.toNat).up=(gd (Shelf.mk false []) b.nodes x.toNat).up∨¬(↑(gd (Shelf.mk false []) a.nodes x.toNat).pieces.length:Int)=(↑(gd (Shelf.mk false []) b.nodes x.toNat).pieces.length:Int)→false=decide (a=b))∧((gd (Shelf.mk false []) a.nodes x.toNat).up=(gd (Shelf.mk false []) b.nodes x.toNat).up∧(↑(gd (Shelf.mk false []) a.nodes x.toNat).pieces.length:Int)=(↑(gd (Shelf.mk false []) b.nodes x.toNat).pieces.length:Int)→i_8_1 a b (0:Int) x (0:Int) x∧∀(x_1 x_2:Int),i_8_1 a b (0:Int) x x_1 x_2→(x_1<(↑(gd (Shelf.mk false []) a.nodes x.toNat).pieces.length:Int)→((0:Int)≤x_1∧x_1<(↑(gd (Shelf.mk false []) a.nodes x.toNat).pieces.length:Int))∧((0:Int)≤x_1∧x_1<(↑(gd (Shelf.mk false []) b.nodes x.toNat).pieces.length:Int))∧(¬(gd (Piece.mk (0:Int) ByteArray.empty) (gd (Shelf.mk false []) a.nodes x.toNat).pieces x_1.toNat).version=(gd (Piece.mk (0:Int) ByteArray.empty) (gd (Shelf.mk false []) b.nodes x.toNat).pieces x_1.toNat).version∨¬(gd (Piece.mk (0:Int) ByteArray.empty) (gd (Shelf.mk false []) a.nodes x.toNat).pieces x_1.toNat).data=(gd (Piece.mk (0:Int) ByteArray.empty) (gd (Shelf.mk false []) b.nodes x.toNat).pieces x_1.toNat).data→false=decide (a=b))∧((gd (Piece.mk (0:Int) ByteArray.empty) (gd (Shelf.mk false []) a.nodes x.toNat).pieces x_1.toNat).version=(gd (Piece.mk (0:Int) ByteArray.empty) (gd (Shelf.mk false []) b.nodes x.toNat).pieces x_1.toNat).version∧(gd (Piece.mk (0:Int) ByteArray.empty) (gd (Shelf.mk false []) a.nodes x.toNat).pieces x_1.toNat).data=(gd (Piece.mk (0:Int) ByteArray.empty) (gd (Shelf.mk false []) b.nodes x.toNat).pieces x_1.toNat).data→I64 (x_1+(1:Int))∧i_8_1 a b (0:Int) x (x_1+(1:Int)) x_2∧((↑(gd (Shelf.mk false []) a.nodes x_2.toNat).pieces.length:Int) - (x_1+(1:Int))).toNat<((↑(gd (Shelf.mk false []) a.nodes x_2.toNat).pieces.length:Int) - x_1).toNat))∧((↑(gd (Shelf.mk false []) a.nodes x.toNat).pieces.length:Int)≤x_1→I64 (x_2+(1:Int))∧i_8_0 a b (x_2+(1:Int))∧((↑a.nodes.length:Int) - (x_2+(1:Int))).toNat<((↑a.nodes.length:Int) - x).toNat)))∧((↑a.nodes.length:Int)≤x→true=decide (a=b))):=by
 delta z8_2 z8_1 z8_0
 have h1:= @EqV.start Shelf (⟨false,[]⟩:Shelf) a.nodes b.nodes
 have h3:= @EqV.fin Shelf (⟨false,[]⟩:Shelf) a.nodes b.nodes
 have h4:= @EqV.lo Shelf (⟨false,[]⟩:Shelf) a.nodes b.nodes
 have h5:= @EqV.len Shelf (⟨false,[]⟩:Shelf) a.nodes b.nodes
 have r1:= @EqR.start a b
 have r2:= @EqR.fin a b
 have r3:= @EqR.step a b
 have r4:= @EqR.lo a b
 have r5:= @EqR.bd a b
 have e1:=vol_ext a b
 have e2:=lay_ext a.layout b.layout
 have e3:= @pie_ext
 have k1:∀i:Int,0≤i→i<(a.nodes.length:Int)→(gd (⟨false,[]⟩:Shelf) a.nodes i.toNat).pieces.length≤1000000:=fun i q1 q2=>hp.ps _ (gd_mem (by omega))
 obtain ⟨p1,p2,p3⟩:=hp
 have m1:= @mea_lt'
 (try simp only [Bool.not_false,Bool.not_true,decide_eq_true_eq,decide_eq_false_iff_not])
 (repeat' (first|apply And.intro|intro _))<;>first|assumption|trivial|omega|(grind [i_8_1,i_8_0,I64])|trace_state
theorem k_8_ok:k_8.Ok Try.prog tD:=con_ok tD_ok (Δ:=[k_25]) ⟨k_25_ok,trivial⟩ (Ω:=[]) trivial k_8 F8_ok F8_call (fun _=>[]) (fun _=>trivial) 0 (fun x=>(fun (a:Volume) (b:Volume)=>(fun k=>bif Nat.beq k 0 then some (.inv [.sl 5 .cInt] (fun zo zv=>(fun (n:Int)=>i_8_0 a b n) zv.1) (fun zo zv=>(fun (n:Int)=>((a.nodes.length:Int) - n).toNat) zv.1)) else bif Nat.beq k 1 then some (.inv [.sl 8 .cInt, .sl 5 .cInt] (fun zo zv=>(fun (s0:Int) (n0:Int) (s:Int) (n:Int)=>i_8_1 a b s0 n0 s n) zo.1 zo.2.1 zv.1 zv.2.1) (fun zo zv=>(fun (s0:Int) (n0:Int) (s:Int) (n:Int)=>(((gd (⟨false,[]⟩:Shelf) a.nodes n.toNat).pieces.length:Int) - s).toNat) zo.1 zo.2.1 zv.1 zv.2.1)) else none)) x.1 x.2.1) fun x hp=>Eq.mp (by kernel_rfl) (k_8_v x.1 x.2.1 hp)
open Go.RowKit
def nwP (l:Layout) (size s p:Int) (n t:Nat):Piece:=if ((t:Int)<s∧l.has t n=true)∨((t:Int)=s∧l.pc t n<p) then ⟨1,blkS size⟩ else ⟨0,ByteArray.empty⟩
def nwR (l:Layout) (size stripes s p:Int) (n:Nat):List Piece:=(List.range stripes.toNat).map fun t=>nwP l size s p n t
def nwL (l:Layout) (size stripes s p:Int):List Shelf:=(List.range l.nodes.toNat).map fun n=>⟨true,nwR l size stripes s p n⟩
theorem nwL_len {l:Layout} {size stripes s p:Int}:(nwL l size stripes s p).length=l.nodes.toNat:=by simp [nwL]
theorem nwR_len {l:Layout} {size stripes s p:Int} {n:Nat}:(nwR l size stripes s p n).length=stripes.toNat:=by simp [nwR]
theorem gd_range {α:Type} {d:α} {m j:Nat} {f:Nat→α} (h:j<m):gd d ((List.range m).map f) j=f j:=by unfold gd;rw [List.getElem?_map,List.getElem?_range h];rfl
theorem nwL_gd {l:Layout} {size stripes s p:Int} {n:Nat} (h:n<l.nodes.toNat):gd (⟨false,[]⟩:Shelf) (nwL l size stripes s p) n=⟨true,nwR l size stripes s p n⟩:=gd_range h
theorem nwL_set {l:Layout} (k:l.K) {size stripes s p:Int} (hs:0≤s) (hs2:s<stripes) (hp:0≤p) (hp2:p<l.data+l.more):(nwL l size stripes s p).set (l.node s p).toNat ⟨true,(nwR l size stripes s p (l.node s p).toNat).set s.toNat ⟨1,blkS size⟩⟩=nwL l size stripes s (p+1):=by
 have hn:=k.node s p
 have kn:=k.n
 have kp:p<l.nodes:=by have:=k.s;omega
 refine List.ext_getElem (by simp [nwL_len]) fun j h1 h2=> ?_
 rw [nwL_len] at h2
 have hj:(j:Int)<l.nodes:=by omega
 have iff:=node_iff k (s:=s) (p:=p) (n:=(j:Int)) ⟨hp,kp⟩ ⟨by omega,hj⟩
 rw [List.getElem_set]
 have ej:(nwL l size stripes s (p+1))[j]'(by rw [nwL_len];exact h2)=⟨true,nwR l size stripes s (p+1) j⟩:=by simp [nwL]
 rw [ej]
 split
 ·rename_i e
  have e2:l.pc s j=p:=iff.1 (by omega)
  congr 1
  rw [e]
  refine List.ext_getElem (by simp [nwR_len]) fun t h3 h4=> ?_
  rw [nwR_len] at h4
  rw [List.getElem_set]
  have et:∀q:Int,(nwR l size stripes s q j)[t]'(by rw [nwR_len];exact h4)=nwP l size s q j t:=fun q=>by simp [nwR]
  rw [et (p+1)]
  split
  ·rename_i e3
   have e4:(t:Int)=s:=by omega
   unfold nwP;rw [if_pos (.inr ⟨e4,by rw [e4,e2];omega⟩)]
  ·rename_i e3
   have e4:¬(t:Int)=s:=by omega
   rw [et p];unfold nwP
   simp only [e4,false_and,or_false]
 ·rename_i e
  have e2:¬l.pc s j=p:=fun h=>e (by have:=iff.2 h;omega)
  have ej:(nwL l size stripes s p)[j]'(by rw [nwL_len];exact h2)=⟨true,nwR l size stripes s p j⟩:=by simp [nwL]
  rw [ej]
  congr 1
  unfold nwR
  refine List.map_congr_left fun t _=> ?_
  unfold nwP
  congr 1
  by_cases e4:(t:Int)=s
  ·rw [e4]
   have:l.pc s j<p↔l.pc s j<p+1:=by omega
   rw [this]
  ·simp only [e4,false_and,or_false]
theorem nwL_next {l:Layout} (k:l.K) {size stripes s p:Int} (hp:l.data+l.more≤p) (hp2:p≤l.data+l.more):nwL l size stripes s p=nwL l size stripes (s+1) 0:=by
 have e:p=l.data+l.more:=by omega
 subst e
 unfold nwL nwR
 refine List.map_congr_left fun n _=> ?_
 congr 1
 refine List.map_congr_left fun t _=> ?_
 unfold nwP
 have h1:=(k.pc t n).1
 have h3:l.has t n=true↔l.pc t n<l.data+l.more:=by unfold Layout.has;exact decide_eq_true_iff
 congr 1
 rw [h3]
 apply propext
 omega
structure OwN (L:List Shelf) (i:Int) (K:List ShelfR) (A:ArP):Prop where
 lo:0≤i
 hi:i≤L.length
 len:K.length=L.length
 up:∀j,j<i.toNat→(gd (⟨false,Row.no Piece⟩:ShelfR) K j).up=(gd (⟨false,[]⟩:Shelf) L j).up
 own:∀j,j<i.toNat→(gd (⟨false,Row.no Piece⟩:ShelfR) K j).pieces.mine A∧lkA A (gd (⟨false,Row.no Piece⟩:ShelfR) K j).pieces.id=(gd (⟨false,[]⟩:Shelf) L j).pieces
 inj:∀j k,j<i.toNat→k<i.toNat→(gd (⟨false,Row.no Piece⟩:ShelfR) K j).pieces.id=(gd (⟨false,Row.no Piece⟩:ShelfR) K k).pieces.id→j=k
theorem OwN.step {L:List Shelf} {i:Int} {K:List ShelfR} {A:ArP} {id:Nat} {b:Bool} {xs:List Piece} {m:Nat} (h:OwN L i K A) (hi:i<L.length) (hid:¬hasA A id) (hx:gd (⟨false,[]⟩:Shelf) L i.toNat=⟨b,xs⟩) (hm:m=xs.length):OwN L (i+1) (K.set i.toNat ⟨b,Row.at Piece id m⟩) ((id,xs)::A):=by
 have h0:=h.lo;have hl:=h.len
 have hik:i.toNat<K.length:=by omega
 have old:∀j,j<i.toNat→(gd (⟨false,Row.no Piece⟩:ShelfR) K j).pieces.id≠id:=fun j hj e=>hid (e▸(h.own j hj).1.2.1)
 subst hm
 refine ⟨by omega,by omega,by rw [List.length_set];exact hl,fun j hj=> ?_,fun j hj=> ?_,fun j k hj hk he=> ?_⟩
 ·rw [gd_setV hik]
  split
  ·rename_i e;rw [←e,hx]
  ·exact h.up j (by omega)
 ·rw [gd_setV hik]
  split
  ·rename_i e;subst e
   rw [hx]
   refine ⟨⟨rfl,hasA_cons.2 (.inl rfl), ?_⟩, ?_⟩
   ·show (lkA _ id).length=_;rw [lkA_cons,if_pos rfl];rfl
   ·show lkA _ id=_;rw [lkA_cons,if_pos rfl]
  ·rename_i e
   have hj2:j<i.toNat:=by omega
   obtain ⟨q1,q2⟩:=h.own j hj2
   have hne:=old j hj2
   exact ⟨⟨q1.1,hasA_cons.2 (.inr q1.2.1),by rw [lkA_cons,if_neg hne];exact q1.2.2⟩,by rw [lkA_cons,if_neg hne];exact q2⟩
 ·rw [gd_setV hik,gd_setV hik] at he
  by_cases e1:i.toNat=j<;>by_cases e2:i.toNat=k
  ·omega
  ·rw [if_pos e1,if_neg e2] at he
   exact absurd he.symm (old k (by omega))
  ·rw [if_neg e1,if_pos e2] at he
   exact absurd he (old j (by omega))
  ·rw [if_neg e1,if_neg e2] at he
   exact h.inj j k (by omega) (by omega) he
theorem OwN.fin {L:List Shelf} {i:Int} {K:List ShelfR} {A:ArP} (h:OwN L i K A) (hi:L.length≤i):ShO L K A:=by
 have hh:=h.hi
 exact ⟨h.len,fun j hj=>h.up j (by omega),fun j hj=>h.own j (by omega),fun j k hj hk=>h.inj j k (by omega) (by omega)⟩
structure NwO (l:Layout) (size stripes:Int):Prop where
 k:l.K
 z:1≤size∧size≤64
 t:1≤stripes∧stripes≤64
structure NwA (l:Layout) (size stripes i:Int) (K:List ShelfR) (A:ArP):Prop where
 p:NwO l size stripes
 o:OwN (nwL l size stripes 0 0) i K A
theorem NwO.row {l:Layout} {size stripes:Int} (h:NwO l size stripes) (n:Nat):nwR l size stripes 0 0 n=List.replicate stripes.toNat ⟨0,ByteArray.empty⟩:=by
 refine List.ext_getElem (by simp [nwR]) fun j h1 h2=> ?_
 simp only [nwR,List.getElem_map,List.getElem_range,List.getElem_replicate]
 unfold nwP
 have h0:=(h.k.pc j n).1
 rw [if_neg (by omega)]
theorem NwA.start {l:Layout} {size stripes:Int} (h:NwO l size stripes):NwA l size stripes 0 (List.replicate l.nodes.toNat ⟨false,Row.no Piece⟩) []:=by
 have hn:=h.k.n
 exact ⟨h,by omega,by omega,by rw [nwL_len,List.length_replicate],fun j hj=>by simp at hj,fun j hj=>by simp at hj,fun j k hj=>by simp at hj⟩
theorem NwA.bd {l:Layout} {size stripes i:Int} {K:List ShelfR} {A:ArP} (h:NwA l size stripes i K A):0≤i∧i≤l.nodes∧(K.length:Int)=l.nodes∧1≤l.nodes∧l.nodes≤12∧1≤stripes∧stripes≤64:=by
 have h1:=h.o.lo;have h2:=h.o.hi;have h3:=h.o.len;have h4:=h.p.k.n;have h5:=h.p.t
 rw [nwL_len] at h2 h3
 omega
theorem NwA.step {l:Layout} {size stripes i:Int} {K:List ShelfR} {A:ArP} {id:Nat} {m:Nat} (h:NwA l size stripes i K A) (hi:i<l.nodes) (hid:¬hasA A id) (hm:m=stripes.toNat):NwA l size stripes (i+1) (K.set i.toNat ⟨true,Row.at Piece id m⟩) ((id,List.replicate stripes.toNat (⟨0,⟨#[]⟩⟩:Piece))::A):=by
 have b:=h.bd
 show NwA l size stripes (i+1) _ ((id,List.replicate stripes.toNat (⟨0,ByteArray.empty⟩:Piece))::A)
 refine ⟨h.p,h.o.step (by rw [nwL_len];omega) hid ?_ (by simp [hm])⟩
 rw [nwL_gd (by omega),h.p.row]
structure NwI (l:Layout) (size stripes s p:Int) (K:List ShelfR) (A:ArP):Prop where
 q:NwO l size stripes
 s0:0≤s∧s≤stripes
 p0:0≤p∧p≤l.data+l.more
 o:ShO (nwL l size stripes s p) K A
theorem NwA.fin {l:Layout} {size stripes i:Int} {K:List ShelfR} {A:ArP} (h:NwA l size stripes i K A) (hi:l.nodes≤i):NwI l size stripes 0 0 K A:=by
 have b:=h.bd;have:=h.p.t;have h1:=h.p.k.d;have h2:=h.p.k.m
 exact ⟨h.p,by omega,by omega,h.o.fin (by rw [nwL_len];omega)⟩
theorem NwI.bd {l:Layout} {size stripes s p:Int} {K:List ShelfR} {A:ArP} (h:NwI l size stripes s p K A):0≤s∧s≤stripes∧0≤p∧p≤l.data+l.more∧1≤stripes∧stripes≤64∧1≤size∧size≤64∧l.K∧1≤l.data∧l.data≤8∧1≤l.more∧l.more≤6∧(K.length:Int)=l.nodes:=by
 have h1:=h.q.k.d;have h2:=h.q.k.m;have h3:=h.q.t;have h4:=h.q.z;have h5:=h.q.k.n;have h6:=h.o.len
 rw [nwL_len] at h6
 exact ⟨h.s0.1,h.s0.2,h.p0.1,h.p0.2,h3.1,h3.2,h4.1,h4.2,h.q.k,h1.1,h1.2,h2.1,h2.2,by omega⟩
def nwRow (K:List ShelfR) (n:Int):Row Piece:=(gd (⟨false,Row.no Piece⟩:ShelfR) K n.toNat).pieces
theorem NwI.row {l:Layout} {size stripes s p:Int} {K:List ShelfR} {A:ArP} (h:NwI l size stripes s p K A):0≤l.node s p∧l.node s p<K.length∧((nwRow K (l.node s p)).kd=RK.own∧hasA A (nwRow K (l.node s p)).id∧(lkA A (nwRow K (l.node s p)).id).length=(nwRow K (l.node s p)).n)∧(nwRow K (l.node s p)).ok A∧(nwRow K (l.node s p)).get A=nwR l size stripes s p (l.node s p).toNat∧((nwRow K (l.node s p)).get A).length=stripes.toNat:=by
 have hn:=h.q.k.node s p
 have hb:=h.bd.2.2.2.2.2.2.2.2.2.2.2.2.2
 have hj:(l.node s p).toNat<l.nodes.toNat:=by omega
 obtain ⟨q1,q2⟩:=h.o.own (l.node s p).toNat (by rw [nwL_len];exact hj)
 have q3:(nwRow K (l.node s p)).get A=nwR l size stripes s p (l.node s p).toNat:=by unfold nwRow;rw [mine_get q1,q2,nwL_gd hj]
 exact ⟨hn.1,by omega,q1,Row.mine.ok q1,q3,by rw [q3,nwR_len]⟩
theorem NwI.step {l:Layout} {size stripes s p:Int} {K:List ShelfR} {A:ArP} (h:NwI l size stripes s p K A) (hs:s<stripes) (hp:p<l.data+l.more):NwI l size stripes s (p+1) K (((nwRow K (l.node s p)).id,((nwRow K (l.node s p)).get A).set s.toNat ⟨1,blkS size⟩)::A):=by
 have hn:=h.q.k.node s p
 have b:=h.bd
 have hj:(l.node s p).toNat<l.nodes.toNat:=by omega
 refine ⟨h.q,h.s0,by omega, ?_⟩
 have:=h.o.put (n:=(l.node s p).toNat) (up:=true) (by rw [nwL_len];exact hj) (by rw [nwL_gd hj]) (xs:=(nwR l size stripes s p (l.node s p).toNat).set s.toNat ⟨1,blkS size⟩) (by rw [nwL_gd hj,List.length_set])
 rw [nwL_set h.q.k h.s0.1 hs h.p0.1 hp] at this
 rw [h.row.2.2.2.2.1]
 exact this
theorem NwI.next {l:Layout} {size stripes s p:Int} {K:List ShelfR} {A:ArP} (h:NwI l size stripes s p K A) (hs:s<stripes) (hp:l.data+l.more≤p):NwI l size stripes (s+1) 0 K A:=by
 have b:=h.bd
 refine ⟨h.q,by omega,by omega, ?_⟩
 rw [←nwL_next h.q.k hp h.p0.2];exact h.o
def newV (l:Layout) (size stripes:Int):Volume:=⟨l,size,List.replicate stripes.toNat 1,nwL l size stripes stripes 0⟩
def newR (l:Layout) (size stripes:Int):Volume×Int:=if ¬l.e=0 then (⟨⟨0,0,0,0⟩,0,[],[]⟩,l.e) else if ¬(1≤size∧size≤64)∨¬(1≤stripes∧stripes≤64) then (⟨⟨0,0,0,0⟩,0,[],[]⟩,3) else (newV l size stripes,0)
structure NwZ (l:Layout) (size s:Int) (Z:Volume×List Int):Prop where
 a:Z.1.layout=l
 b:Z.1.size=size
 c:Z.2=List.replicate s.toNat 1
theorem NwZ.len {l:Layout} {size s:Int} {Z:Volume×List Int} (h:NwZ l size s Z):Z.2.length=s.toNat:=by rw [h.c,List.length_replicate]
theorem NwZ.step {l:Layout} {size s:Int} {Z:Volume×List Int} (h:NwZ l size s Z) (hs:0≤s) {V:Volume} (h1:V.layout=l) (h2:V.size=size):NwZ l size (s+1) (V,Z.2++[1]):=⟨h1,h2,by rw [show (V,Z.2++[1]).2=Z.2++[1] from rfl,h.c,show (s+1).toNat=s.toNat+1 by omega,List.replicate_succ']⟩
theorem NwI.done {l:Layout} {size stripes s:Int} {K:List ShelfR} {A:ArP} {Z:Volume×List Int} (h:NwI l size stripes s 0 K A) (z:NwZ l size s Z) (hs:stripes≤s):(∀x:ShelfR,x∈K→True∧x.pieces.ok A∧x.pieces.kd≠RK.nil)∧(⟨Z.1.layout,Z.1.size,Z.2,List.map (fun x:ShelfR=>(⟨x.up,x.pieces.get A⟩:Shelf)) K⟩:Volume)=newV l size stripes:=by
 have e:s=stripes:=by have:=h.s0;omega
 subst e
 obtain ⟨e1,e2⟩:=h.o.view
 exact ⟨fun x hx=>⟨trivial,e1 x hx⟩,by rw [e2,z.a,z.b,z.c];rfl⟩
def i_23_2 (l:Layout) (size:Int) (stripes:Int) (p0:Int) (s0:Int) (K0:(List ShelfR)) (A0:(List (Nat×List Piece))) (p:Int) (s:Int) (K:(List ShelfR)) (A:(List (Nat×List Piece))):Prop:=s=s0∧NwI l size stripes s p K A
def i_23_1 (l:Layout) (size:Int) (stripes:Int) (s:Int) (K:(List ShelfR)) (A:(List (Nat×List Piece))) (Z:(Volume×List Int)):Prop:=NwI l size stripes s 0 K A∧NwZ l size s Z
def i_23_0 (l:Layout) (size:Int) (stripes:Int) (i:Int) (K:(List ShelfR)) (A:(List (Nat×List Piece))):Prop:=NwA l size stripes i K A
def k_23:Con Tc Tc.dn:=⟨23,[.ty .cLayout, .ty .cInt, .ty .cInt],fun x=>(fun (l:Layout) (size:Int) (stripes:Int)=>True) x.1 x.2.1 x.2.2.1,[.cVolume, .cInt],fun x=>(fun (l:Layout) (size:Int) (stripes:Int)=>newR l size stripes) x.1 x.2.1 x.2.2.1⟩
theorem k_23_v (l:Layout) (size:Int) (stripes:Int):True∧(¬l.e=(0:Int)→(Volume.mk (Layout.mk (0:Int) (0:Int) (0:Int) (0:Int)) (0:Int) [] [],l.e)=newR l size stripes)∧(l.e=(0:Int)→True∧(decide ((1:Int)≤size∧size≤(64:Int))= !!true→decide ((1:Int)≤size∧size≤(64:Int))= !!true)∧(decide ((1:Int)≤size∧size≤(64:Int))= !!true→True)∧(decide ((1:Int)≤size∧size≤(64:Int))= !!true→decide ((1:Int)≤size∧size≤(64:Int))= !!true)∧(decide ((1:Int)≤size∧size≤(64:Int))= !false→decide ((1:Int)≤size∧size≤(64:Int))= !!true)∧(decide ((1:Int)≤size∧size≤(64:Int))= !true∨decide ((1:Int)≤stripes∧stripes≤(64:Int))= !true→(Volume.mk (Layout.mk (0:Int) (0:Int) (0:Int) (0:Int)) (0:Int) [] [],(3:Int))=newR l size stripes)∧(decide ((1:Int)≤size∧size≤(64:Int))= !false∧decide ((1:Int)≤stripes∧stripes≤(64:Int))= !false→((0:Int)≤l.nodes∧l.nodes≤l.nodes∧l.nodes*(↑(32:Nat):Int)≤(140737488355328:Int))∧i_23_0 l size stripes (0:Int) (List.replicate l.nodes.toNat (ShelfR.mk false (Row.no Piece))) []∧∀(x:Int) (x_1:List ShelfR) (x_2:List (Nat×List Piece)),i_23_0 l size stripes x x_1 x_2→(x<(↑(List.replicate l.nodes.toNat (ShelfR.mk false (Row.no Piece))).length:Int)→((0:Int)≤stripes∧stripes≤stripes∧stripes*(↑(24:Nat):Int)≤(140737488355328:Int))∧((0:Int)≤x∧x<(↑x_1.length:Int))∧∀(id:Nat),¬hasA x_2 id→x.toNat<x_1.length∧I64 (x+(1:Int))∧i_23_0 l size stripes (x+(1:Int)) (x_1.set x.toNat (ShelfR.mk true (Row.at Piece id (List.replicate stripes.toNat (Piece.mk (0:Int) (ByteArray.mk #[]))).length))) ((id,List.replicate stripes.toNat (Piece.mk (0:Int) (ByteArray.mk #[])))::x_2)∧(l.nodes - (x+(1:Int))).toNat<(l.nodes - x).toNat)∧((↑(List.replicate l.nodes.toNat (ShelfR.mk false (Row.no Piece))).length:Int)≤x→i_23_1 l size stripes (0:Int) x_1 x_2 (Volume.mk l size [] [],[])∧∀(x:Int) (x_3:List ShelfR) (x_4:List (Nat×List Piece)) (x_5:Volume×List Int),i_23_1 l size stripes x x_3 x_4 x_5→(x<stripes→(x_5.snd.length+(1:Nat))*(8:Nat)≤(140737488355328:Nat)∧(l.K∨(1:Int)≤l.data∧l.data≤(8:Int)∧(1:Int)≤l.more∧l.more≤(6:Int))∧i_23_2 l size stripes (0:Int) x x_3 x_4 (0:Int) x x_3 x_4∧∀(x_6 x_7:Int) (x_8:List ShelfR) (x_9:List (Nat×List Piece)),i_23_2 l size stripes (0:Int) x x_3 x_4 x_6 x_7 x_8 x_9→(x_6<l.data+l.more→(l.K∧(0:Int)≤x∧x≤(100:Int)∧(0:Int)≤x_6∧x_6≤(100:Int))∧((0:Int)≤l.node x x_6∧l.node x x_6<(↑x_8.length:Int))∧(l.node x x_6).toNat<x_8.length∧((0:Int)≤size∧size≤(65536:Int))∧(gd (ShelfR.mk false (Row.no Piece)) x_8 (l.node x x_6).toNat).pieces.ok x_9∧((0:Int)≤x∧x<(↑((gd (ShelfR.mk false (Row.no Piece)) x_8 (l.node x x_6).toNat).pieces.get x_9).length:Int))∧(gd (ShelfR.mk false (Row.no Piece)) x_8 (l.node x x_6).toNat).pieces.mine x_9∧x.toNat<((gd (ShelfR.mk false (Row.no Piece)) x_8 (l.node x x_6).toNat).pieces.get x_9).length∧I64 (x_6+(1:Int))∧i_23_2 l size stripes (0:Int) x x_3 x_4 (x_6+(1:Int)) x_7 x_8 (((gd (ShelfR.mk false (Row.no Piece)) x_8 (l.node x x_6).toNat).pieces.id,((gd (ShelfR.mk false (Row.no Piece)) x_8 (l.node x x_6).toNat).pieces.get x_9).set x.toNat (Piece.mk (1:Int) (blkS size)))::x_9)∧(l.data+l.more - (x_6+(1:Int))).toNat<(l.data+l.more - x_6).toNat)∧(l.data+l.more≤x_6→I64 (x_7+(1:Int))∧i_23_1 l size stripes (x_7+(1:Int)) x_8 x_9 (Volume.mk x_5.fst.layout x_5.fst.size [] [],x_5.snd++[(1:Int)])∧(stripes - (x_7+(1:Int))).toNat<(stripes - x).toNat))∧(stripes≤x→(∀(x:ShelfR),x∈x_3→True∧x.pieces.ok x_4∧x.pieces.kd≠RK.nil)∧(Volume.mk x_5.fst.layout x_5.fst.size x_5.snd (List.map (fun x=>Shelf.mk x.up (x.pieces.get x_4)) x_3),(0:Int))=newR l size stripes)))):=by
 have h1:= @Layout.e_ok l
 have a0:= @NwO.mk l size stripes
 have a1:= @NwA.start l size stripes
 have a2:= @NwA.bd l size stripes
 have a3:= @NwA.step l size stripes
 have a4:= @NwA.fin l size stripes
 have b1:= @NwI.bd l size stripes
 have b2:= @NwI.row l size stripes
 have b3:= @NwI.step l size stripes
 have b4:= @NwI.next l size stripes
 have b5:= @NwI.done l size stripes
 have z1:= @NwZ.len l size
 have z2:= @NwZ.step l size
 have z0:NwZ l size 0 (⟨l,size,[],[]⟩,[]):=⟨rfl,rfl,rfl⟩
 have z3:= @NwZ.a l size
 have z4:= @NwZ.b l size
 have m1:= @mea_lt'
 simp only [nwRow] at b2 b3
 have k1:l.K→1≤l.nodes∧l.nodes≤12:=fun h=>h.n
 have r1:(List.replicate l.nodes.toNat (⟨false,Row.no Piece⟩:ShelfR)).length=l.nodes.toNat:=List.length_replicate
 have r2:(List.replicate stripes.toNat (⟨0,⟨#[]⟩⟩:Piece)).length=stripes.toNat:=List.length_replicate
 have e1:¬l.e=0→newR l size stripes=(⟨⟨0,0,0,0⟩,0,[],[]⟩,l.e):=fun h=>by unfold newR;rw [if_pos h]
 have e2:l.e=0→¬(1≤size∧size≤64)∨¬(1≤stripes∧stripes≤64)→newR l size stripes=(⟨⟨0,0,0,0⟩,0,[],[]⟩,3):=fun h h2=>by unfold newR;rw [if_neg (by simp [h]),if_pos h2]
 have e3:l.e=0→(1≤size∧size≤64)→(1≤stripes∧stripes≤64)→newR l size stripes=(newV l size stripes,0):=fun h h2 h3=>by unfold newR;rw [if_neg (by simp [h]),if_neg (by simp only [h2,h3];simp)]
 (try simp only [Bool.not_false,Bool.not_true,decide_eq_true_eq,decide_eq_false_iff_not])
 (repeat' (first|apply And.intro|intro _))<;>first|assumption|trivial|omega|(grind [i_23_2,i_23_1,i_23_0,I64])|trace_state
theorem k_23_ok:k_23.Ok Try.prog tD:=con_ok tD_ok (Δ:=[k_26,k_27,k_38,k_49,k_42]) ⟨k_26_ok,k_27_ok,k_38_ok,k_49_ok,k_42_ok,trivial⟩ (Ω:=[]) trivial k_23 F23_ok F23_call (fun _=>[]) (fun _=>trivial) 0 (fun x=>(fun (l:Layout) (size:Int) (stripes:Int)=>(fun k=>bif Nat.beq k 0 then some (.inv [.sl 37 .cInt, .bl 3 .cShelfR, .ar .cPiece] (fun zo zv=>(fun (i:Int) (K:(List ShelfR)) (A:(List (Nat×List Piece)))=>i_23_0 l size stripes i K A) zv.1 zv.2.1 zv.2.2.1) (fun zo zv=>(fun (i:Int) (K:(List ShelfR)) (A:(List (Nat×List Piece)))=>(l.nodes - i).toNat) zv.1 zv.2.1 zv.2.2.1)) else bif Nat.beq k 1 then some (.inv [.sl 49 .cInt, .bl 3 .cShelfR, .ar .cPiece, .sg 4 5 .cInt .cVolume [(6, .cShelf,3,2)]] (fun zo zv=>(fun (s:Int) (K:(List ShelfR)) (A:(List (Nat×List Piece))) (Z:(Volume×List Int))=>i_23_1 l size stripes s K A Z) zv.1 zv.2.1 zv.2.2.1 zv.2.2.2.1) (fun zo zv=>(fun (s:Int) (K:(List ShelfR)) (A:(List (Nat×List Piece))) (Z:(Volume×List Int))=>(stripes - s).toNat) zv.1 zv.2.1 zv.2.2.1 zv.2.2.2.1)) else bif Nat.beq k 2 then some (.inv [.sl 59 .cInt, .sl 49 .cInt, .bl 3 .cShelfR, .ar .cPiece] (fun zo zv=>(fun (p0:Int) (s0:Int) (K0:(List ShelfR)) (A0:(List (Nat×List Piece))) (p:Int) (s:Int) (K:(List ShelfR)) (A:(List (Nat×List Piece)))=>i_23_2 l size stripes p0 s0 K0 A0 p s K A) zo.1 zo.2.1 zo.2.2.1 zo.2.2.2.1 zv.1 zv.2.1 zv.2.2.1 zv.2.2.2.1) (fun zo zv=>(fun (p0:Int) (s0:Int) (K0:(List ShelfR)) (A0:(List (Nat×List Piece))) (p:Int) (s:Int) (K:(List ShelfR)) (A:(List (Nat×List Piece)))=>(l.data+l.more - p).toNat) zo.1 zo.2.1 zo.2.2.1 zo.2.2.2.1 zv.1 zv.2.1 zv.2.2.1 zv.2.2.2.1)) else none)) x.1 x.2.1 x.2.2.1) fun x hp=>Eq.mp (by kernel_rfl) (k_23_v x.1 x.2.1 x.2.2.1)
open Go.RowKit
def k_7:Con Tc Tc.dn:=⟨7,[],fun _=>True,[.cBool],fun _=>true⟩
abbrev z7_4:=(newR (Layout.mk (5:Int) (2:Int) (2:Int) (1:Int)) (2:Int) (3:Int))
abbrev z7_13:=(wrtR z7_4.fst (3:Int) (ByteArray.mk #[(97:UInt8),(98:UInt8)]))
abbrev z7_0:=(setR z7_13.fst (3:Int) false)
abbrev z7_2:=(z7_4.snd=(0:Int)∧z7_13.snd=(0:Int))
abbrev z7_5:=(setR (wipR z7_0.fst (4:Int)).fst (2:Int) false)
abbrev z7_7:=(readV (wipR z7_0.fst (4:Int)).fst (2:Int))
abbrev z7_8:=(freshV (wipR z7_0.fst (4:Int)).fst (1:Int))
abbrev z7_9:=(readV (wipR z7_0.fst (4:Int)).fst (3:Int))
abbrev z7_6:=(((z7_2∧z7_0.snd=(0:Int))∧(wipR z7_0.fst (4:Int)).snd=(0:Int))∧z7_9.fst=ByteArray.mk #[(97:UInt8),(98:UInt8)])
abbrev z7_1:=((z7_6∧z7_9.snd=(0:Int))∧z7_7.fst=ByteArray.mk #[(0:UInt8),(0:UInt8)])
abbrev z7_11:=(((z7_2∧z7_0.snd=(0:Int))∧(wipR z7_0.fst (4:Int)).snd=(0:Int))∧z7_9.fst=ByteArray.mk #[(97:UInt8),(98:UInt8)]→((z7_2∧z7_0.snd=(0:Int))∧(wipR z7_0.fst (4:Int)).snd=(0:Int))∧z7_9.fst=ByteArray.mk #[(97:UInt8),(98:UInt8)])
abbrev z7_12:=((z7_1∧z7_7.snd=(0:Int))∧(↑z7_8.fst.n:Int)=(↑(uN (Int.toNat (5:Int))).n:Int))
abbrev z7_3:=(z7_12∧z7_8.snd=(0:Int))
abbrev z7_10:=(((z7_3∧z7_5.snd=(0:Int))∧(readV z7_5.fst (3:Int)).snd=(8:Int))∧(readV z7_4.fst (6:Int)).snd=(3:Int)→((z7_3∧z7_5.snd=(0:Int))∧(readV z7_5.fst (3:Int)).snd=(8:Int))∧(readV z7_4.fst (6:Int)).snd=(3:Int))
theorem k_7_v  :True∧True∧True∧True∧True∧True∧True∧True∧True∧True∧True∧(z7_4.snd=(0:Int)→z7_4.snd=(0:Int))∧(z7_4.snd=(0:Int)→z7_4.snd=(0:Int))∧(z7_4.snd=(0:Int)∧z7_13.snd=(0:Int)→z7_4.snd=(0:Int)∧z7_13.snd=(0:Int))∧(z7_4.snd=(0:Int)∧z7_13.snd=(0:Int)→z7_4.snd=(0:Int)∧z7_13.snd=(0:Int))∧(z7_2∧z7_0.snd=(0:Int)→z7_2∧z7_0.snd=(0:Int))∧(z7_2∧z7_0.snd=(0:Int)→z7_2∧z7_0.snd=(0:Int))∧((z7_2∧z7_0.snd=(0:Int))∧(wipR z7_0.fst (4:Int)).snd=(0:Int)→(z7_2∧z7_0.snd=(0:Int))∧(wipR z7_0.fst (4:Int)).snd=(0:Int))∧((z7_2∧z7_0.snd=(0:Int))∧(wipR z7_0.fst (4:Int)).snd=(0:Int)→(z7_2∧z7_0.snd=(0:Int))∧(wipR z7_0.fst (4:Int)).snd=(0:Int))∧z7_11∧z7_11∧(z7_6∧z7_9.snd=(0:Int)→z7_6∧z7_9.snd=(0:Int))∧(z7_6∧z7_9.snd=(0:Int)→z7_6∧z7_9.snd=(0:Int))∧((z7_6∧z7_9.snd=(0:Int))∧z7_7.fst=ByteArray.mk #[(0:UInt8),(0:UInt8)]→(z7_6∧z7_9.snd=(0:Int))∧z7_7.fst=ByteArray.mk #[(0:UInt8),(0:UInt8)])∧((z7_6∧z7_9.snd=(0:Int))∧z7_7.fst=ByteArray.mk #[(0:UInt8),(0:UInt8)]→(z7_6∧z7_9.snd=(0:Int))∧z7_7.fst=ByteArray.mk #[(0:UInt8),(0:UInt8)])∧(z7_1∧z7_7.snd=(0:Int)→z7_1∧z7_7.snd=(0:Int))∧(z7_1∧z7_7.snd=(0:Int)→z7_1∧z7_7.snd=(0:Int))∧((z7_1∧z7_7.snd=(0:Int))∧(↑z7_8.fst.n:Int)=(↑(uN (Int.toNat (5:Int))).n:Int)→(z7_1∧z7_7.snd=(0:Int))∧(↑z7_8.fst.n:Int)=(↑(uN (Int.toNat (5:Int))).n:Int))∧((z7_1∧z7_7.snd=(0:Int))∧(↑z7_8.fst.n:Int)=(↑(uN (Int.toNat (5:Int))).n:Int)→(z7_1∧z7_7.snd=(0:Int))∧(↑z7_8.fst.n:Int)=(↑(uN (Int.toNat (5:Int))).n:Int))∧(z7_12∧z7_8.snd=(0:Int)→z7_12∧z7_8.snd=(0:Int))∧(z7_12∧z7_8.snd=(0:Int)→z7_12∧z7_8.snd=(0:Int))∧(z7_3∧z7_5.snd=(0:Int)→z7_3∧z7_5.snd=(0:Int))∧(z7_3∧z7_5.snd=(0:Int)→z7_3∧z7_5.snd=(0:Int))∧((z7_3∧z7_5.snd=(0:Int))∧(readV z7_5.fst (3:Int)).snd=(8:Int)→(z7_3∧z7_5.snd=(0:Int))∧(readV z7_5.fst (3:Int)).snd=(8:Int))∧((z7_3∧z7_5.snd=(0:Int))∧(readV z7_5.fst (3:Int)).snd=(8:Int)→(z7_3∧z7_5.snd=(0:Int))∧(readV z7_5.fst (3:Int)).snd=(8:Int))∧z7_10∧(((z7_3∧z7_5.snd=(0:Int))∧(readV z7_5.fst (3:Int)).snd=(8:Int))∧(readV z7_4.fst (6:Int)).snd=(3:Int)→True)∧z7_10∧z7_10∧(z7_4.snd==(0:Int)&&z7_13.snd==(0:Int)&&z7_0.snd==(0:Int)&&(wipR z7_0.fst (4:Int)).snd==(0:Int)&&strEq z7_9.fst (ByteArray.mk #[(97:UInt8),(98:UInt8)])&&z7_9.snd==(0:Int)&&strEq z7_7.fst (ByteArray.mk #[(0:UInt8),(0:UInt8)])&&z7_7.snd==(0:Int)&&(↑z7_8.fst.n:Int)==(↑(uN (Int.toNat (5:Int))).n:Int)&&z7_8.snd==(0:Int)&&z7_5.snd==(0:Int)&&(readV z7_5.fst (3:Int)).snd==(8:Int)&&(readV z7_4.fst (6:Int)).snd==(3:Int)&&chkV (wipR z7_0.fst (4:Int)).fst==(0:Int))=true:=by
 delta z7_13 z7_12 z7_11 z7_10 z7_9 z7_8 z7_7 z7_6 z7_5 z7_4 z7_3 z7_2 z7_1 z7_0
 (repeat' (first|apply And.intro|(intro h;exact absurd h (by decide+kernel))|(intro h;clear h)|decide+kernel))<;>first|decide+kernel|trace_state
theorem k_7_ok:k_7.Ok Try.prog tD:=con_ok tD_ok (Δ:=[k_24,k_23,k_6,k_14,k_16,k_9,k_11,k_10]) ⟨k_24_ok,k_23_ok,k_6_ok,k_14_ok,k_16_ok,k_9_ok,k_11_ok,k_10_ok,trivial⟩ (Ω:=[]) trivial k_7 F7_ok F7_call (fun _=>[]) (fun _=>trivial) 0 (fun _=>fun _=>none) fun x hp=>Eq.mp (by kernel_rfl) (k_7_v )
open Go.RowKit
def frN (v:Volume) (no:Int) (n:Nat):Bool:=decide ((gd (⟨false,[]⟩:Shelf) v.nodes n).up=true∧(v.at_ n no).version=gd 0 v.versions no.toNat)
theorem frB_frN {v:Volume} {no p:Int} (k:v.layout.K):frB v no p=frN v no (v.layout.node no p).toNat:=by
 have:=(k.node no p).1
 unfold frB frN Volume.at_
 rw [Int.toNat_natCast]
theorem stN_bit {v:Volume} {no:Int} (k:v.layout.K) {n:Nat}:∀{m:Nat},(m:Int)≤v.layout.data+v.layout.more→(stN v no m).testBit n=decide ((n:Int)<v.layout.nodes∧v.layout.pc no n<m∧frN v no n=true)
 |0,_=>by
  have h0:0≤v.layout.pc no n:=(k.pc no n).1
  unfold stN
  rw [Nat.zero_testBit]
  symm
  exact decide_eq_false (by omega)
 |m+1,hm=>by
  have ih:=stN_bit (no:=no) k (n:=n) (m:=m) (by omega)
  have hs:=k.s
  have hn:=k.node no m
  unfold stN
  by_cases e:(v.layout.node no m).toNat=n
  ·have e2:v.layout.pc no n=m:=by
    have:=(node_iff k (s:=no) (p:=(m:Int)) (n:=(n:Int)) ⟨by omega,by omega⟩ ⟨by omega,by omega⟩).1 (by omega)
    exact this
   have e3:frB v no m=frN v no n:=by rw [frB_frN k,e]
   rw [e3]
   by_cases f:frN v no n=true
   ·rw [if_pos f,Nat.testBit_or,Nat.testBit_two_pow,decide_eq_true e,Bool.or_true]
    symm
    exact decide_eq_true ⟨by omega,by omega,f⟩
   ·rw [if_neg f,ih]
    exact decide_eq_decide.2 ⟨fun ⟨_,_,c⟩=>absurd c f,fun ⟨_,_,c⟩=>absurd c f⟩
  ·have e2:(n:Int)<v.layout.nodes→¬v.layout.pc no n=m:=fun h1 h2=>by
    have:=(node_iff k (s:=no) (p:=(m:Int)) (n:=(n:Int)) ⟨by omega,by omega⟩ ⟨by omega,by omega⟩).2 h2
    omega
   have e3:((n:Int)<v.layout.nodes∧v.layout.pc no n<((m+1:Nat):Int)∧frN v no n=true)↔((n:Int)<v.layout.nodes∧v.layout.pc no n<(m:Int)∧frN v no n=true):=by
    constructor
    ·intro ⟨a,b,c⟩;exact ⟨a,by have:=e2 a;omega,c⟩
    ·intro ⟨a,b,c⟩;exact ⟨a,by omega,c⟩
   split
   ·rw [Nat.testBit_or,Nat.testBit_two_pow,decide_eq_false e,Bool.or_false,ih]
    exact decide_eq_decide.2 e3.symm
   ·rw [ih]
    exact decide_eq_decide.2 e3.symm
theorem setV_n {v:Volume} {no:Int} (k:v.layout.K):(setV v no).n=stN v no (v.layout.data+v.layout.more).toNat:=by
 unfold setV;exact uN_n (by have:=stN_lt (v:=v) (no:=no) k (v.layout.data+v.layout.more).toNat;omega)
theorem setV_bit {v:Volume} {no:Int} (k:v.layout.K) (n:Nat):(setV v no).n.testBit n=decide ((n:Int)<v.layout.nodes∧v.layout.has no n=true∧frN v no n=true):=by
 have hd:=k.d;have hm:=k.m
 rw [setV_n k,stN_bit k (by omega)]
 refine decide_eq_decide.2 ?_
 unfold Layout.has
 rw [decide_eq_true_iff,show (((v.layout.data+v.layout.more).toNat:Nat):Int)=v.layout.data+v.layout.more by omega]
theorem U64.bits {a b:U64} (h:∀n,a.n.testBit n=b.n.testBit n):a=b:=U64.ext' (Nat.eq_of_testBit_eq h)
theorem z_sm:(⟨⟨0,0,0,0⟩,0,[],[]⟩:Volume).sm:=⟨by simp,by simp,fun x hx=>by simp at hx⟩
theorem pieceE_iff {v:Volume} {n s:Int}:pieceE v n s=0↔(v.layout.has s n=false→(v.at_ n s).version=0∧(v.at_ n s).data=ByteArray.empty)∧(v.layout.has s n=true→((v.at_ n s).data.size:Int)=v.size)∧0≤(v.at_ n s).version∧(v.at_ n s).version≤gd 0 v.versions s.toNat:=by
 unfold pieceE
 constructor
 ·intro h
  split at h
  ·simp at h
  ·rename_i h1
   split at h
   ·simp at h
   ·rename_i h2
    have h2:=Classical.not_not.1 h2
    exact ⟨fun hh=>Classical.byContradiction fun hx=>h1 (.inl ⟨hh,hx⟩),fun hh=>Classical.byContradiction fun hx=>h1 (.inr ⟨hh,hx⟩),h2.1,h2.2⟩
 ·intro ⟨h1,h2,h3,h4⟩
  rw [if_neg,if_neg]
  ·exact fun hx=>hx ⟨h3,h4⟩
  ·rintro (⟨a,b⟩|⟨a,b⟩)
   ·exact b (h1 a)
   ·exact b (h2 a)
theorem stV_at {v:Volume} {n:Int} {up:Bool} (h0:0≤n) (hn:n<v.nodes.length) (m s:Int):(stV v n up).at_ m s=v.at_ m s:=by
 unfold Volume.at_ stV
 show gd _ (gd _ (v.nodes.set _ _) _).pieces _=_
 rw [gd_setV (by omega)]
 split
 ·rename_i e;rw [←e]
 ·rfl
theorem blk_zero:blkS 0=ByteArray.empty:=by
 have:=blkS_size 0
 refine str_eq (by rw [this];rfl) fun i hi=> ?_
 rw [this] at hi
 simp at hi
theorem wipV_at {v:Volume} {n:Int} (h0:0≤n) (hn:n<v.nodes.length) (k:v.K) {m s:Int} (m0:0≤m) (s0:0≤s) (s1:s<v.versions.length):(wipV v n).at_ m s=if n=m then ⟨0,blkS ((v.at_ m s).data.size:Int)⟩ else v.at_ m s:=by
 unfold Volume.at_ wipV
 show gd _ (gd _ (v.nodes.set _ _) _).pieces _=_
 rw [gd_setV (by omega)]
 by_cases e:n=m
 ·subst e
  rw [if_pos rfl,if_pos rfl]
  have hl:=k.pre.shl h0 hn
  show gd _ ((gd _ v.nodes n.toNat).pieces.map wpP) _=_
  rw [gd_map2 (d:=(⟨0,ByteArray.empty⟩:Piece)) (by omega)]
  rfl
 ·rw [if_neg (by omega),if_neg e]
theorem wipV_up {v:Volume} {n:Int} (h0:0≤n) (hn:n<v.nodes.length) (m:Nat):(gd (⟨false,[]⟩:Shelf) (wipV v n).nodes m).up=(gd (⟨false,[]⟩:Shelf) v.nodes m).up:=by
 unfold wipV
 show (gd _ (v.nodes.set _ _) _).up=_
 rw [gd_setV (by omega)]
 split
 ·rename_i e;rw [←e]
 ·rfl
theorem wipV_K {v:Volume} (k:v.K) {n:Int} (h0:0≤n) (hn:n<v.nodes.length):(wipV v n).K:=by
 refine ⟨k.lay,k.siz,k.str,k.ver,by unfold wipV;simp [k.nds],fun x hx=> ?_,fun m s a b c d=> ?_⟩
 ·rcases List.mem_or_eq_of_mem_set hx with e|e
  ·exact k.pcs x e
  ·rw [e];show ((gd _ v.nodes _).pieces.map wpP).length=_;rw [List.length_map];exact k.pcs _ (gd_mem (d:=(⟨false,[]⟩:Shelf)) (xs:=v.nodes) (i:=n.toNat) (by omega))
 ·have b':m<v.nodes.length:=by unfold wipV at b;simpa using b
  have ok:=pieceE_iff.1 (k.ok m s a b' c d)
  have at_:=wipV_at h0 hn k (m:=m) a c d
  rw [pieceE_iff,at_]
  obtain ⟨o1,o2,o3,o4⟩:=ok
  have vs:=k.ver _ (gd_mem (d:=(0:Int)) (xs:=v.versions) (i:=s.toNat) (by have d':s<v.versions.length:=d;omega))
  by_cases e:n=m
  ·rw [if_pos e]
   refine ⟨fun hh=>⟨rfl, ?_⟩,fun hh=> ?_,by show (0:Int)≤0;omega, ?_⟩
   ·show blkS _=_
    rw [(o1 hh).2];exact blk_zero
   ·show ((blkS _).size:Int)=_
    rw [blkS_size];have:=o2 hh;show _=v.size;omega
   ·show (0:Int)≤gd 0 v.versions s.toNat
    omega
  ·rw [if_neg e];exact ⟨o1,o2,o3,o4⟩
theorem wipV_fr {v:Volume} (k:v.K) {n no:Int} (h0:0≤n) (hn:n<v.nodes.length) (s0:0≤no) (s1:no<v.versions.length) (m:Nat):frN (wipV v n) no m=if n.toNat=m then false else frN v no m:=by
 have vs:=k.ver _ (gd_mem (d:=(0:Int)) (xs:=v.versions) (i:=no.toNat) (by omega))
 unfold frN
 rw [wipV_at h0 hn k (by omega) s0 s1,wipV_up h0 hn]
 by_cases e:n.toNat=m
 ·rw [if_pos e,if_pos (by omega)]
  refine decide_eq_false fun ⟨_,hh⟩=> ?_
  have hh:(0:Int)=gd 0 v.versions no.toNat:=hh
  omega
 ·rw [if_neg e,if_neg (by omega)];rfl
theorem shl_one {n:Int} (h0:0≤n) (h1:n<64):(uN ((uN (Int.toNat 1)).n*2^min n.toNat 64)).n=2^n.toNat:=by
 have hlt:2^n.toNat<18446744073709551616:=Nat.lt_of_le_of_lt (Nat.pow_le_pow_right (by decide) (show n.toNat≤63 by omega)) (by decide)
 rw [show min n.toNat 64=n.toNat by omega,uN_n]
 ·show 1*_=_;rw [Nat.one_mul]
 ·show 1*_<_;rw [Nat.one_mul];exact hlt
theorem fresh_ok {v:Volume} {no:Int} (k:v.K):freshV v no=if 0≤no∧no<v.versions.length then (setV v no,0) else (uN (Int.toNat 0),3):=by
 unfold freshV
 rw [if_neg (by rw [chk_iff.2 k];simp)]
 by_cases h:0≤no∧no<v.versions.length
 ·rw [if_pos h,if_neg (by omega)]
 ·rw [if_neg h,if_pos (by omega)]
theorem wiped_law {v:Volume} {n no:Int} (h:(wipR v n).2=0):v.K∧0≤n∧n<64∧n<v.nodes.length∧(wipR v n).1=wipV v n∧chkV (wipV v n)=0∧(freshV v no).2=(freshV (wipV v n) no).2∧(freshV (wipV v n) no).1=opU BinOp.andNot (freshV v no).1 (uN ((uN (Int.toNat 1)).n*2^min n.toNat 64)):=by
 have h':=h
 unfold wipR at h
 split at h;(rename_i a;exact absurd h a)
 split at h;simp at h
 rename_i a b
 have k:=chk_iff.1 (Classical.not_not.1 a)
 have b:=Classical.not_not.1 b
 have k2:=k.bd
 have kw:=wipV_K k b.1 (by omega)
 have hd:(wipV v n).versions=v.versions:=rfl
 have e:wipR v n=(wipV v n,0):=by unfold wipR;rw [if_neg a,if_neg (by omega)]
 refine ⟨k,b.1,by omega,by omega,by rw [e],chk_iff.2 kw, ?_, ?_⟩
 ·rw [fresh_ok k,fresh_ok kw,hd];split<;>rfl
 ·rw [fresh_ok k,fresh_ok kw,hd]
  by_cases hs:0≤no∧no<v.versions.length
  ·rw [if_pos hs,if_pos hs]
   refine U64.bits fun i=> ?_
   show (setV (wipV v n) no).n.testBit i=(opU _ (setV v no) _).n.testBit i
   rw [opU_n,shl_one b.1 (by omega)]
   show _=((setV v no).n&&&((setV v no).n^^^2^n.toNat)).testBit i
   rw [Nat.testBit_and,Nat.testBit_xor,Nat.testBit_two_pow,setV_bit k.lay,setV_bit (v:=wipV v n) kw.lay,wipV_fr k b.1 (by omega) hs.1 hs.2]
   show decide ((i:Int)<v.layout.nodes∧v.layout.has no i=true∧_)=_
   by_cases q:n.toNat=i
   ·rw [if_pos q,decide_eq_true q]
    cases hx:decide ((i:Int)<v.layout.nodes∧v.layout.has no i=true∧frN v no i=true)<;>simp
   ·rw [if_neg q,decide_eq_false q]
    rw [Bool.xor_false,Bool.and_self];rfl
  ·rw [if_neg hs,if_neg hs]
   refine U64.bits fun i=> ?_
   show _=(opU _ (uN (Int.toNat 0)) _).n.testBit i
   rw [opU_n]
   show (0:Nat).testBit i=(0&&&_).testBit i
   rw [Nat.zero_and]
open Go.RowKit
open Go.RowKit
open Go.RowKit
open Go.RowKit
open Go.RowKit
open Go.RowKit
section
variable {v:Volume} {b:Int} {dt:BA}
end
section
variable {v:Volume} {b:Int} {dt:BA}
end
def lgLayout:LG lrLayout:=LG.via (LG.prod LG.i64 (LG.prod LG.i64 (LG.prod LG.i64 LG.i64)))
def lgPiece:LG lrPiece:=LG.via (LG.prod LG.i64 LG.str)
def lgShelf:LG lrShelf:=LG.via (LG.prod LG.boo (LG.list lgPiece))
def lgVolume:LG lrVolume:=LG.via (LG.prod lgLayout (LG.prod LG.i64 (LG.prod (LG.list LG.i64) (LG.list lgShelf))))
open Go.RowKit
theorem wip_err {v:Volume} {n:Int} (h:¬(wipR v n).2=0):(wipR v n).1=⟨⟨0,0,0,0⟩,0,[],[]⟩:=by
 unfold wipR at h ⊢
 split;rfl
 split;rfl
 rename_i h1 h2
 rw [if_neg h1,if_neg h2] at h
 exact absurd rfl h
def k_5:Con Tc Tc.dn:=⟨5,[.ty .cVolume, .ty .cInt, .ty .cInt],fun x=>(fun (v:Volume) (n:Int) (no:Int)=>True) x.1 x.2.1 x.2.2.1,[.cBool],fun x=>(fun (v:Volume) (n:Int) (no:Int)=>true) x.1 x.2.1 x.2.2.1⟩
theorem k_5_v (v:Volume) (n:Int) (no:Int):True∧True∧(true= !true→false=true)∧(true= !false→(¬(wipR v n).snd=(0:Int)→(wipR v n).fst.sm∧decide ((wipR v n).fst=Volume.mk (Layout.mk (0:Int) (0:Int) (0:Int) (0:Int)) (0:Int) [] [])=true)∧((wipR v n).snd=(0:Int)→True∧True∧((freshV v no).snd=(freshV (wipR v n).fst no).snd→(freshV v no).snd=(freshV (wipR v n).fst no).snd)∧((freshV v no).snd=(freshV (wipR v n).fst no).snd→(0:Int)≤n)∧((freshV v no).snd=(freshV (wipR v n).fst no).snd→(freshV v no).snd=(freshV (wipR v n).fst no).snd)∧((freshV v no).snd=(freshV (wipR v n).fst no).snd→(freshV v no).snd=(freshV (wipR v n).fst no).snd)∧((freshV v no).snd=(freshV (wipR v n).fst no).snd→(freshV v no).snd=(freshV (wipR v n).fst no).snd)∧((freshV v no).snd=(freshV (wipR v n).fst no).snd→(freshV v no).snd=(freshV (wipR v n).fst no).snd)∧((freshV v no).snd=(freshV (wipR v n).fst no).snd→(freshV v no).snd=(freshV (wipR v n).fst no).snd)∧((freshV v no).snd=(freshV (wipR v n).fst no).snd∧(↑(freshV (wipR v n).fst no).fst.n:Int)=(↑(opU BinOp.andNot (freshV v no).fst (uN ((uN (Int.toNat (1:Int))).n*(2:Nat)^min n.toNat (64:Nat)))).n:Int)→(freshV v no).snd=(freshV (wipR v n).fst no).snd∧(↑(freshV (wipR v n).fst no).fst.n:Int)=(↑(opU BinOp.andNot (freshV v no).fst (uN ((uN (Int.toNat (1:Int))).n*(2:Nat)^min n.toNat (64:Nat)))).n:Int))∧((freshV v no).snd=(freshV (wipR v n).fst no).snd∧(↑(freshV (wipR v n).fst no).fst.n:Int)=(↑(opU BinOp.andNot (freshV v no).fst (uN ((uN (Int.toNat (1:Int))).n*(2:Nat)^min n.toNat (64:Nat)))).n:Int)→True)∧((freshV v no).snd=(freshV (wipR v n).fst no).snd∧(↑(freshV (wipR v n).fst no).fst.n:Int)=(↑(opU BinOp.andNot (freshV v no).fst (uN ((uN (Int.toNat (1:Int))).n*(2:Nat)^min n.toNat (64:Nat)))).n:Int)→(freshV v no).snd=(freshV (wipR v n).fst no).snd∧(↑(freshV (wipR v n).fst no).fst.n:Int)=(↑(opU BinOp.andNot (freshV v no).fst (uN ((uN (Int.toNat (1:Int))).n*(2:Nat)^min n.toNat (64:Nat)))).n:Int))∧((freshV v no).snd=(freshV (wipR v n).fst no).snd∧(↑(freshV (wipR v n).fst no).fst.n:Int)=(↑(opU BinOp.andNot (freshV v no).fst (uN ((uN (Int.toNat (1:Int))).n*(2:Nat)^min n.toNat (64:Nat)))).n:Int)→(freshV v no).snd=(freshV (wipR v n).fst no).snd∧(↑(freshV (wipR v n).fst no).fst.n:Int)=(↑(opU BinOp.andNot (freshV v no).fst (uN ((uN (Int.toNat (1:Int))).n*(2:Nat)^min n.toNat (64:Nat)))).n:Int))∧((freshV v no).snd==(freshV (wipR v n).fst no).snd&&(↑(freshV (wipR v n).fst no).fst.n:Int)==(↑(opU BinOp.andNot (freshV v no).fst (uN ((uN (Int.toNat (1:Int))).n*(2:Nat)^min n.toNat (64:Nat)))).n:Int)&&chkV (wipR v n).fst==(0:Int))=true)):=by
 have h1:= @wiped_law v n no
 have h2:= @wip_err v n
 have h3:=z_sm
 (try simp only [Bool.not_false,Bool.not_true,decide_eq_true_eq,decide_eq_false_iff_not])
 (repeat' (first|apply And.intro|intro _))<;>first|assumption|trivial|omega|(grind [I64])|trace_state
theorem k_5_ok:k_5.Ok Try.prog tD:=con_ok tD_ok (Δ:=[k_7,k_8,k_11,k_10,k_16]) ⟨k_7_ok,k_8_ok,k_11_ok,k_10_ok,k_16_ok,trivial⟩ (Ω:=[]) trivial k_5 F5_ok F5_call (fun _=>[]) (fun _=>trivial) 0 (fun x=>(fun (v:Volume) (n:Int) (no:Int)=>(fun _=>none)) x.1 x.2.1 x.2.2.1) fun x hp=>Eq.mp (by kernel_rfl) (k_5_v x.1 x.2.1 x.2.2.1)
theorem VolumeWiped_walk {w:World} (v:Volume) (csv:List Value) (rv:GoT.rep w w.heap.size csv v) (n:Int) (wn:(Lit.int .i64 n).wf=true) (no:Int) (wno:(Lit.int .i64 no).wf=true):Calls Try.prog 5 #[.agg csv.toArray,I n,I no] w fun e w'=>e= .returned (.bool true)∧Below w.heap.size w w':=by
 have rn:GoT.rep w w.heap.size [I n] n:=⟨rfl,i64_bd wn⟩
 have rno:GoT.rep w w.heap.size [I no] no:=⟨rfl,i64_bd wno⟩
 have hf:Fn Try.prog 5 [(tD.en .cVolume v).av tD.toTE N0,(tD.en .cInt n).av tD.toTE N0,(tD.en .cInt no).av tD.toTE N0] (.v (.bool true)):=k_5_ok.2 (v,n,no,()) N0 trivial
 exact fn_law (vs:=[.agg csv.toArray,I n,I no]) hf trivial (.cons (arg_ag tD_ok (t:= .cVolume) rfl (lgVolume.av rv)) (.cons (arg_one tD_ok (t:= .cInt) rfl (LG.i64.av rn)) (.cons (arg_one tD_ok (t:= .cInt) rfl (LG.i64.av rno)) .nil)))
end Go.Proofs.Ytboaekdecndckaa
