/- Polynomials over the field of 256 elements: what meets values. No condition. -/
import Derived.Test.YtboaekdecndckaaPFieldM
set_option linter.unusedSimpArgs false
set_option linter.unusedVariables false
set_option maxRecDepth 100000
namespace Go.Proofs.Ytboaekdecndckaa
def sg:Nat→(Nat→UInt8)→UInt8
 |0,_=>0
 |n+1,f=>sg n f^^^f n
theorem sg_congr:∀{n:Nat} {f g:Nat→UInt8},(∀i,i<n→f i=g i)→sg n f=sg n g
 |0,_,_,_=>rfl
 |n+1,f,g,h=>by simp only [sg];rw [sg_congr fun i hi=>h i (by omega),h n (by omega)]
theorem sg_xor:∀(n:Nat) (f g:Nat→UInt8),sg n (fun i=>f i^^^g i)=sg n f^^^sg n g
 |0,_,_=>by simp [sg]
 |n+1,f,g=>by simp only [sg,sg_xor n f g];exact xor4 _ _ _ _
theorem sg_mul (c:UInt8):∀(n:Nat) (f:Nat→UInt8),sg n (fun i=>gmul c (f i))=gmul c (sg n f)
 |0,_=>by simp [sg,gmul_zero]
 |n+1,f=>by simp only [sg,sg_mul c n f,gmul_add]
theorem sg_mulr (c:UInt8) (n:Nat) (f:Nat→UInt8):sg n (fun i=>gmul (f i) c)=gmul (sg n f) c:=by
 rw [gmul_comm, ←sg_mul];exact sg_congr fun i _=>gmul_comm _ _
theorem sg_zero:∀{n:Nat} {f:Nat→UInt8},(∀i,i<n→f i=0)→sg n f=0
 |0,_,_=>rfl
 |n+1,f,h=>by simp only [sg];rw [sg_zero fun i hi=>h i (by omega),h n (by omega)];rfl
theorem sg_one (k:Nat) (x:Nat→UInt8):∀n,sg n (fun i=>if i=k then x i else 0)=if k<n then x k else 0
 |0=>by simp [sg]
 |n+1=>by
  simp only [sg,sg_one k x n]
  by_cases h:n=k
  ·subst h;simp
  ·rw [if_neg h]
   by_cases h2:k<n
   ·rw [if_pos h2,if_pos (by omega)];simp
   ·rw [if_neg h2,if_neg (by omega)];rfl
theorem sg_swap:∀(n m:Nat) (f:Nat→Nat→UInt8),sg n (fun i=>sg m fun j=>f i j)=sg m fun j=>sg n fun i=>f i j
 |0,m,f=>by simp only [sg];exact (sg_zero fun _ _=>rfl).symm
 |n+1,m,f=>by simp only [sg,sg_swap n m f,sg_xor]
def skip (p j:Nat):Nat:=if j<p then j else j+1
abbrev Mx:=Nat→Nat→UInt8
def mm (k:Nat) (A B:Mx):Mx:=fun i j=>sg k fun t=>gmul (A i t) (B t j)
theorem mm_congr {k:Nat} {A A' B B':Mx} {i j:Nat} (h1:∀t,t<k→A i t=A' i t) (h2:∀t,t<k→B t j=B' t j):mm k A B i j=mm k A' B' i j:=sg_congr fun t ht=>by rw [h1 t ht,h2 t ht]
theorem mm_assoc (k l:Nat) (A B C:Mx) (i j:Nat):mm l (mm k A B) C i j=mm k A (mm l B C) i j:=by
 unfold mm
 have e1:sg l (fun t=>gmul (sg k fun u=>gmul (A i u) (B u t)) (C t j))=sg l (fun t=>sg k fun u=>gmul (A i u) (gmul (B u t) (C t j))):=sg_congr fun t _=>by
  rw [←sg_mulr];exact sg_congr fun u _=>gmul_assoc _ _ _
 have e2:sg k (fun u=>gmul (A i u) (sg l fun t=>gmul (B u t) (C t j)))=sg k (fun u=>sg l fun t=>gmul (A i u) (gmul (B u t) (C t j))):=sg_congr fun u _=>(sg_mul _ _ _).symm
 rw [e1,e2,sg_swap]
def unitM:Mx:=fun i j=>if i=j then 1 else 0
theorem unit_mm {n:Nat} (A:Mx) {i j:Nat} (h:i<n):mm n unitM A i j=A i j:=by
 unfold mm unitM
 have e:sg n (fun t=>gmul (if i=t then 1 else 0) (A t j))=sg n (fun t=>if t=i then A t j else 0):=sg_congr fun t _=>by
  by_cases ht:i=t
  ·subst ht;simp [one_gmul]
  ·rw [if_neg ht,if_neg (fun hh=>ht hh.symm),zero_gmul]
 rw [e,sg_one i (fun t=>A t j),if_pos h]
def swapM (R:Mx) (a b:Nat):Mx:=fun i j=>if i=a then R b j else if i=b then R a j else R i j
def scaleM (R:Mx) (a:Nat) (f:UInt8):Mx:=fun i j=>if i=a then gmul (R a j) f else R i j
def elimM (w:Nat→UInt8) (d:Nat) (R:Mx):Mx:=fun i j=>if i=d then R d j else R i j^^^gmul (w i) (R d j)
theorem mm_swap (n a b:Nat) (X R:Mx) (i j:Nat):mm n (swapM X a b) R i j=swapM (mm n X R) a b i j:=by
 unfold swapM mm
 by_cases h1:i=a
 ·simp only [if_pos h1]
 ·by_cases h2:i=b
  ·simp only [if_neg h1,if_pos h2]
  ·simp only [if_neg h1,if_neg h2]
theorem mm_scale (n a:Nat) (f:UInt8) (X R:Mx) (i j:Nat):mm n (scaleM X a f) R i j=scaleM (mm n X R) a f i j:=by
 unfold scaleM mm
 by_cases h1:i=a
 ·simp only [if_pos h1]
  rw [←sg_mulr]
  exact sg_congr fun t _=>by rw [gmul_assoc,gmul_comm f, ←gmul_assoc]
 ·simp only [if_neg h1]
theorem mm_elim (n d:Nat) (w:Nat→UInt8) (X R:Mx) (i j:Nat):mm n (elimM w d X) R i j=elimM w d (mm n X R) i j:=by
 unfold elimM mm
 by_cases h1:i=d
 ·simp only [if_pos h1]
 ·simp only [if_neg h1]
  rw [←sg_mul, ←sg_xor]
  exact sg_congr fun t _=>by rw [gmul_add_left,gmul_assoc]
def RE (n:Nat) (A R:Mx):Prop:=∃P Q:Mx,(∀i j,i<n→R i j=mm n P A i j)∧∀i j,i<n→A i j=mm n Q R i j
theorem RE.refl (n:Nat) (A:Mx):RE n A A:=⟨unitM,unitM,fun i j h=>(unit_mm A h).symm,fun i j h=>(unit_mm A h).symm⟩
theorem RE.trans {n:Nat} {A B C:Mx} (h:RE n A B) (k:RE n B C):RE n A C:=by
 obtain ⟨P,Q,h1,h2⟩:=h
 obtain ⟨S,T,k1,k2⟩:=k
 refine ⟨mm n S P,mm n Q T,fun i j hi=> ?_,fun i j hi=> ?_⟩
 ·rw [k1 i j hi,mm_assoc];exact mm_congr (fun _ _=>rfl) fun t ht=>h1 t j ht
 ·rw [h2 i j hi,mm_assoc];exact mm_congr (fun _ _=>rfl) fun t ht=>k2 t j ht
theorem RE.congr {n:Nat} {A R R':Mx} (h:RE n A R) (e:∀i j,i<n→R' i j=R i j):RE n A R':=by
 obtain ⟨P,Q,h1,h2⟩:=h
 exact ⟨P,Q,fun i j hi=>(e i j hi).trans (h1 i j hi),fun i j hi=>(h2 i j hi).trans (mm_congr (fun _ _=>rfl) fun t ht=>(e t j ht).symm)⟩
theorem RE.swap {n a b:Nat} {A R:Mx} (h:RE n A R) (ha:a<n) (hb:b<n):RE n A (swapM R a b):=by
 have one:∀R i j,i<n→swapM R a b i j=mm n (swapM unitM a b) R i j:=fun R i j hi=>by
  rw [mm_swap];unfold swapM
  by_cases h1:i=a
  ·simp only [if_pos h1];exact (unit_mm R hb).symm
  ·by_cases h2:i=b
   ·simp only [if_neg h1,if_pos h2];exact (unit_mm R ha).symm
   ·simp only [if_neg h1,if_neg h2];exact (unit_mm R hi).symm
 refine h.trans ⟨_,swapM unitM a b,fun i j hi=>one R i j hi,fun i j hi=> ?_⟩
 rw [←one _ i j hi]
 unfold swapM
 by_cases h1:i=a
 ·subst h1;simp only [if_pos rfl]
  by_cases h2:b=i
  ·subst h2;simp
  ·rw [if_neg h2];simp
 ·by_cases h2:i=b
  ·subst h2;rw [if_neg h1,if_pos rfl,if_pos rfl]
  ·rw [if_neg h1,if_neg h2,if_neg h1,if_neg h2]
theorem RE.scale {n a:Nat} {f:UInt8} {A R:Mx} (h:RE n A R) (ha:a<n) (hf:f≠0):RE n A (scaleM R a f):=by
 have one:∀R f i j,i<n→scaleM R a f i j=mm n (scaleM unitM a f) R i j:=fun R f i j hi=>by
  rw [mm_scale];unfold scaleM
  by_cases h1:i=a
  ·simp only [if_pos h1];rw [unit_mm R ha]
  ·simp only [if_neg h1];exact (unit_mm R hi).symm
 refine h.trans ⟨_,scaleM unitM a (ginv f),fun i j hi=>one R f i j hi,fun i j hi=> ?_⟩
 rw [←one _ _ i j hi]
 unfold scaleM
 by_cases h1:i=a
 ·subst h1;rw [if_pos rfl,if_pos rfl,gmul_assoc,gmul_ginv f hf,gmul_one]
 ·rw [if_neg h1,if_neg h1]
theorem RE.elim {n d:Nat} {w:Nat→UInt8} {A R:Mx} (h:RE n A R) (hd:d<n):RE n A (elimM w d R):=by
 have one:∀R i j,i<n→elimM w d R i j=mm n (elimM w d unitM) R i j:=fun R i j hi=>by
  rw [mm_elim];unfold elimM
  by_cases h1:i=d
  ·simp only [if_pos h1];exact (unit_mm R hd).symm
  ·simp only [if_neg h1];rw [unit_mm R hi,unit_mm R hd]
 refine h.trans ⟨_,elimM w d unitM,fun i j hi=>one R i j hi,fun i j hi=> ?_⟩
 rw [←one _ i j hi]
 unfold elimM
 by_cases h1:i=d
 ·subst h1;rw [if_pos rfl,if_pos rfl]
 ·rw [if_neg h1,if_neg h1,if_pos rfl,UInt8.xor_assoc,UInt8.xor_self,UInt8.xor_zero]
structure Ech (n:Nat) (R:Mx) (c d:Nat) (p:Nat→Nat):Prop where
 dn:d≤n
 pc:∀t,t<d→p t<c
 up:∀s t,s<t→t<d→p s<p t
 one:∀t i,t<d→i<n→R i (p t)=if i=t then 1 else 0
 zero:∀i j,d≤i→i<n→j<c→R i j=0
theorem ech_start (n:Nat) (R:Mx):Ech n R 0 0 fun _=>0:=⟨by omega,fun t h=>by omega,fun s t _ h=>by omega,fun t i h=>by omega,fun i j _ _ h=>by omega⟩
theorem ech_none {n c d:Nat} {R:Mx} {p:Nat→Nat} (h:Ech n R c d p) (hz:∀i,d≤i→i<n→R i c=0):Ech n R (c+1) d p:=
 ⟨h.dn,fun t ht=>by have:=h.pc t ht;omega,h.up,h.one,fun i j hi hin hj=>by
  by_cases hjc:j=c
  ·subst hjc;exact hz i hi hin
  ·exact h.zero i j hi hin (by omega)⟩
def pivM (R:Mx) (c d i0:Nat):Mx:=elimM (fun i=>scaleM (swapM R d i0) d (ginv (swapM R d i0 d c)) i c) d (scaleM (swapM R d i0) d (ginv (swapM R d i0 d c)))
theorem piv_re {n c d i0:Nat} {A R:Mx} (h:RE n A R) (hd:d<n) (hi:i0<n):RE n A (pivM R c d i0):=((h.swap hd hi).scale hd (ginv_ne _)).elim hd
theorem ech_some {n c d i0:Nat} {R:Mx} {p:Nat→Nat} (h:Ech n R c d p) (h0:d≤i0) (hi:i0<n) (hne:R i0 c≠0):Ech n (pivM R c d i0) (c+1) (d+1) fun t=>if t<d then p t else c:=by
 have hsd:swapM R d i0 d c=R i0 c:=by unfold swapM;rw [if_pos rfl]
 have hdn:d<n:=by omega
 -- rows from d on are 0 at places done
 have old:∀t i,t<d→d≤i→i<n→R i (p t)=0:=fun t i ht hdi hin=>by rw [h.one t i ht hin,if_neg (by omega)]
 have sw:∀i j,(∀k,d≤k→k<n→R k j=0)→i<n→swapM R d i0 i j=R i j:=fun i j hz hin=>by
  unfold swapM
  by_cases h1:i=d
  ·rw [if_pos h1,hz i0 h0 hi,h1,hz d (Nat.le_refl d) hdn]
  ·by_cases h2:i=i0
   ·rw [if_neg h1,if_pos h2,hz d (Nat.le_refl d) hdn,h2,hz i0 h0 hi]
   ·rw [if_neg h1,if_neg h2]
 have sc:∀i j,(∀k,d≤k→k<n→R k j=0)→i<n→scaleM (swapM R d i0) d (ginv (swapM R d i0 d c)) i j=R i j:=fun i j hz hin=>by
  unfold scaleM
  by_cases h1:i=d
  ·rw [if_pos h1,sw d j hz hdn,hz d (Nat.le_refl d) hdn,zero_gmul,h1,hz d (Nat.le_refl d) hdn]
  ·rw [if_neg h1,sw i j hz hin]
 have el:∀i j,(∀k,d≤k→k<n→R k j=0)→i<n→pivM R c d i0 i j=R i j:=fun i j hz hin=>by
  unfold pivM
  generalize (fun i=>scaleM (swapM R d i0) d (ginv (swapM R d i0 d c)) i c)=w
  unfold elimM
  by_cases h1:i=d
  ·rw [if_pos h1,sc d j hz hdn,h1]
  ·rw [if_neg h1,sc i j hz hin,sc d j hz hdn,hz d (Nat.le_refl d) hdn,gmul_zero,UInt8.xor_zero]
 have pc:scaleM (swapM R d i0) d (ginv (swapM R d i0 d c)) d c=1:=by
  show (if d=d then gmul (swapM R d i0 d c) (ginv (swapM R d i0 d c)) else _)=1
  rw [if_pos rfl,hsd,gmul_ginv _ hne]
 have col:∀i,i<n→pivM R c d i0 i c=if i=d then 1 else 0:=fun i hin=>by
  unfold pivM elimM
  by_cases h1:i=d
  ·rw [if_pos h1,if_pos h1,pc]
  ·rw [if_neg h1,if_neg h1,pc,gmul_one,UInt8.xor_self]
 refine ⟨by omega,fun t ht=> ?_,fun s t hst ht=> ?_,fun t i ht hin=> ?_,fun i j hdi hin hj=> ?_⟩
 ·split
  ·rename_i h1;have:=h.pc t h1;omega
  ·omega
 ·by_cases h1:t<d
  ·simp only [if_pos h1,if_pos (show s<d by omega)];exact h.up s t hst h1
  ·simp only [if_neg h1,if_pos (show s<d by omega)];exact h.pc s (by omega)
 ·by_cases h1:t<d
  ·simp only [if_pos h1]
   rw [el i (p t) (fun k hk hkn=>old t k h1 hk hkn) hin,h.one t i h1 hin]
  ·simp only [if_neg h1]
   rw [col i hin,show t=d by omega]
 ·by_cases hjc:j=c
  ·subst hjc;rw [col i hin,if_neg (by omega)]
  ·rw [el i j (fun k hk hkn=>h.zero k j hk hkn (by omega)) hin]
   exact h.zero i j (by omega) hin (by omega)
open Go.RowKit
section
variable {P:Program} {n k k0:Nat} {x:L3} {K:L3→Prop} {Q:Ex→L3→Prop} {R:List AOper} {dep:List (List Nat)} {rs:List Rec} {hs:List (Option Nat)} {b:AC}
theorem owl (c:Nat) (live:List Nat) (x':L3) (hr:EL P n k0 b x' Q) (h:(runN n c (R.drop k) x).map (L3.keep live)=some x':=by kernel_rfl) (he:(R.drop (k+c)).isEmpty=true:=by kernel_rfl):OW P n k0 (R.drop k) x fun y=>EL P n k0 b y Q:=OW.last c live h he hr
theorem srl (c:Nat) (live:List Nat) (x':L3) (hr:EL P n k0 b x' Q) (h:(runN n c (R.drop 0) x).map (L3.keep live)=some x':=by kernel_rfl) (he:(R.drop (0+c)).isEmpty=true:=by kernel_rfl):EL P n k0 (.seq (.reg R none) b) x Q:=EL.sreg (OW.last c live h he hr)
theorem srr (c:Nat) (x':L3) (hr:OW P n k0 (R.drop (0+c)) x' fun y=>EL P n k0 b y Q) (h:runN n c (R.drop 0) x=some x':=by kernel_rfl):EL P n k0 (.seq (.reg R none) b) x Q:=EL.sreg (OW.run c h hr)
theorem cnF {a:Arg} {y z:AC} (h:EL P n k0 z x Q) (hb:argσ (slot x.t) a= .v (.bool false):=by kernel_rfl):EL P n k0 (.cond a y z) x Q:=EL.condF hb h
theorem rtr {f:L3→Prop} (h:Q .ret x):EL P n k0 .ret x (Ex.thenL f Q):=EL.ret (tR h)
theorem pq {α:Type} {m:List (Option Bk)} {id:Nat} (sz:Nat) (f:α→List AV) (xs:List α) (h:look m id=some ⟨sz,xs.map f⟩:=by kernel_rfl) (hp:∀y,(f y).all AV.pu1=true:=by intro y;kernel_rfl):PuE m id:=pu sz f xs h hp
end
open Go.RowKit
abbrev ut (i:Nat):Src0:= .old i true
theorem fne {n k0:Nat} {x:L3} {res:List ARes} {r:AV} {m':List (Option Bk)} (live:List Nat) (src:List Src0) (y:L3) (hp:PuS x.m src) (h:normL k0 live src [] x=some y:=by kernel_rfl) (hr:(resR (slot y.t) res).run (look y.m)=some r:=by kernel_rfl) (hm:y.m=m':=by rfl):
  (Ex.ret= .normal∨Ex.ret= .ret)∧∃y:L3,x.s.Le k0 n y.s∧(resR (slot y.t) res).run (look y.m)=some r∧y.m=m':=⟨.inr rfl,y,norm_le h hp,hr,hm⟩
section
variable {x:L3} {res:List ARes} {r':AV}
end
section
variable {P:Program} {n k k0:Nat} {x:L3} {K:L3→Prop} {R:List AOper}
theorem ow2 {v:AV} {u:List (Nat×Option Bk)} {acc:List Nat} (x':L3) (h:opE (opD R k) x= .done v u acc) (hr:OW P n k0 (R.drop (k+1)) x' K) (hl:Nat.blt k R.length=true:=by kernel_rfl) (hx:(bif dstOK n (opD R k).dst&&upsOK x.m.length u then some (⟨setA x.t (opD R k).dst v,mput x.m u⟩:L3) else none)=some x':=by kernel_rfl):OW P n k0 (R.drop k) x K:=OW.ope hl h hx hr
end
section
variable {o:AOper} {x:L3}
theorem oap {α:Type} (f:α→List AV) (xs ys:List α) (s a:Arg) (sz by_ id:Nat) (w:AV) {acc:List Nat} (hw:Src f sz (look x.m) w ys acc) (hb:(xs.length+ys.length)*by_≤140737488355328) (ho:o.ao= .app sz by_ s a:=by kernel_rfl) (hg:guardA (slot x.t) o.guard=some true:=by kernel_rfl) (hs:argσ (slot x.t) s= .own id sz 0 xs.length:=by rfl) (hB:look x.m id=some ⟨sz,xs.map f⟩:=by kernel_rfl) (ha:argσ (slot x.t) a=w:=by rfl):
  opE o x= .done (.own x.m.length sz 0 (xs++ys).length) [(id,none),(x.m.length,some ⟨sz,(xs++ys).map f⟩)] (acc++[id]):=opE_appO f xs ys s a sz by_ id w acc ho hg hs hB ha hw hb
end
theorem aT {a:List AV} {b:List AV} {r s:List AV} (h:AleL a b) (t:AleL r s):AleL (.agg a::r) (.agg b::s):= .cons (Ale.agg h) t
def pv:List UInt8→UInt8→UInt8
 |[],_=>0
 |c::r,x=>c^^^gmul x (pv r x)
def padd:List UInt8→List UInt8→List UInt8
 |[],q=>q
 |p,[]=>p
 |a::p,b::q=>(a^^^b)::padd p q
theorem pv_add:∀(p q:List UInt8) (x:UInt8),pv (padd p q) x=pv p x^^^pv q x
 |[],q,x=>by simp [padd,pv]
 |a::p,[],x=>by simp [padd,pv]
 |a::p,b::q,x=>by simp only [padd,pv,pv_add p q x,gmul_add];exact xor4 _ _ _ _
theorem padd_len:∀(p q:List UInt8),(padd p q).length=max p.length q.length
 |[],q=>by simp [padd]
 |a::p,[]=>by simp [padd]
 |a::p,b::q=>by simp only [padd,List.length_cons,padd_len p q];omega
def sy (a:UInt8):List UInt8→List UInt8
 |[]=>[]
 |[_]=>[]
 |_::d::r=>pv (d::r) a::sy a (d::r)
theorem sy_len (a:UInt8):∀p:List UInt8,(sy a p).length=p.length - 1
 |[]=>rfl
 |[_]=>rfl
 |_::d::r=>by have:=sy_len a (d::r);simp only [sy,List.length_cons] at *; omega
theorem sy_is (a x:UInt8):∀p:List UInt8,pv p x=gmul (x^^^a) (pv (sy a p) x)^^^pv p a
 |[]=>by simp [pv,sy,gmul_zero]
 |[c]=>by simp [pv,sy,gmul_zero]
 |c::d::r=>by
  have ih:=sy_is a x (d::r)
  have e1:pv (c::d::r) x=c^^^gmul x (pv (d::r) x):=rfl
  have e2:pv (c::d::r) a=c^^^gmul a (pv (d::r) a):=rfl
  have e3:pv (sy a (c::d::r)) x=pv (d::r) a^^^gmul x (pv (sy a (d::r)) x):=rfl
  rw [e1,e2,e3,ih]
  generalize pv (sy a (d::r)) x=q
  generalize pv (d::r) a=v
  rw [gmul_add,gmul_add,gmul_add_left x a v]
  have e4:gmul x (gmul (x^^^a) q)=gmul (x^^^a) (gmul x q):=by rw [←gmul_assoc,gmul_comm x,gmul_assoc]
  rw [e4]
  generalize gmul (x^^^a) (gmul x q)=s
  generalize gmul x v=t
  generalize gmul a v=u
  -- c ^ (s ^ t) = ((t ^ u) ^ s) ^ (c ^ u)
  rw [UInt8.xor_comm s t]
  rw [show (t^^^u)^^^s^^^(c^^^u)=(t^^^s)^^^(u^^^(c^^^u)) by rw [UInt8.xor_assoc t u s,UInt8.xor_comm u s, ←UInt8.xor_assoc t s u,UInt8.xor_assoc (t^^^s)]]
  rw [show u^^^(c^^^u)=c by rw [UInt8.xor_comm c u,u8_xor_cancel],UInt8.xor_comm]
theorem xor_zero_iff {a b:UInt8}:a^^^b=0↔a=b:=by
 constructor
 ·intro h
  have:=u8_xor_cancel a b
  rw [h,UInt8.xor_zero] at this;exact this
 ·rintro rfl;exact UInt8.xor_self
theorem sy_zero (a:UInt8):∀p:List UInt8,(∀c,c∈sy a p→c=0)→pv p a=0→∀c,c∈p→c=0
 |[],_,_,c,h=>by simp at h
 |[b],_,h,c,hc=>by
  simp at hc;subst hc
  simpa [pv,gmul_zero] using h
 |b::d::r,hs,h,c,hc=>by
  have h1:pv (d::r) a=0:=hs _ (by simp [sy])
  have ih:=sy_zero a (d::r) (fun x hx=>hs x (by simp only [sy,List.mem_cons];exact .inr hx)) h1
  have e:pv (b::d::r) a=b^^^gmul a (pv (d::r) a):=rfl
  rw [e,h1,gmul_zero,UInt8.xor_zero] at h
  rcases List.mem_cons.1 hc with rfl|hc
  ·exact h
  ·exact ih c hc
theorem roots_coef:∀(xs p:List UInt8),p.length≤xs.length→xs.Nodup→(∀x,x∈xs→pv p x=0)→∀c,c∈p→c=0
 |[],p,hl,_,_,c,hc=>by
  have:p=[]:=List.eq_nil_of_length_eq_zero (by simpa using hl)
  subst this;simp at hc
 |a::xs,p,hl,hn,hr,c,hc=>by
  have ha:=hr a (by simp)
  refine sy_zero a p (roots_coef xs (sy a p) (by rw [sy_len];simp at hl;omega) (List.nodup_cons.1 hn).2 fun b hb=> ?_) ha c hc
  have h1:=sy_is a b p
  rw [hr b (by simp [hb]),ha,UInt8.xor_zero] at h1
  rcases (gmul_eq_zero _ _).1 h1.symm with h2|h2
  ·have:b=a:=xor_zero_iff.1 h2
   subst this;exact absurd hb (List.nodup_cons.1 hn).1
  ·exact h2
def Trimmed (p:List UInt8):Prop:=∀c,p.getLast? =some c→c≠0
theorem padd_zero:∀{p q:List UInt8},Trimmed p→Trimmed q→(∀c,c∈padd p q→c=0)→p=q
 |[],[],_,_,_=>rfl
 |[],b::q,_,hq,h=>by
  exfalso
  have:padd [] (b::q)=b::q:=rfl
  rw [this] at h
  have hl:=List.getLast?_eq_some_getLast (l:=b::q) (by simp)
  exact hq _ hl (h _ (List.getLast_mem _))
 |a::p,[],hp,_,h=>by
  exfalso
  have:padd (a::p) []=a::p:=rfl
  rw [this] at h
  have hl:=List.getLast?_eq_some_getLast (l:=a::p) (by simp)
  exact hp _ hl (h _ (List.getLast_mem _))
 |a::p,b::q,hp,hq,h=>by
  simp only [padd,List.mem_cons] at h
  have hab:a=b:=xor_zero_iff.1 (h _ (.inl rfl))
  have tail:∀{x:UInt8} {l:List UInt8},Trimmed (x::l)→Trimmed l:=fun {x l} ht c hc=>by
   cases l with
   |nil=>simp at hc
   |cons y r=>exact ht c (by rw [List.getLast?_cons_cons];exact hc)
  rw [hab,padd_zero (tail hp) (tail hq) fun c hc=>h c (.inr hc)]
def bytes:List UInt8:=(List.range 256).map UInt8.ofNat
theorem told {p q xs:List UInt8} (hp:Trimmed p) (hq:Trimmed q) (lp:p.length≤xs.length) (lq:q.length≤xs.length) (hn:xs.Nodup) (h:∀x,x∈xs→pv p x=pv q x):p=q:=
 padd_zero hp hq (roots_coef xs (padd p q) (by rw [padd_len];omega) hn fun x hx=>by rw [pv_add,h x hx,UInt8.xor_self])
end Go.Proofs.Ytboaekdecndckaa
