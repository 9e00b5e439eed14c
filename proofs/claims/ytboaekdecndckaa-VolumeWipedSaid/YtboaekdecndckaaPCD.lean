/- What functions answer (contracts). No condition. -/
import Derived.Test.YtboaekdecndckaaPCA
import Derived.Shelf.Strings.Repeat
set_option linter.unusedSimpArgs false
set_option linter.unusedVariables false
set_option maxHeartbeats 4000000
set_option maxRecDepth 100000
namespace Go.Proofs.Ytboaekdecndckaa
open Go.RowKit
structure FillI (A:List (Nat×List UInt8)) (K:List (Row UInt8)) (i m n:Int) (f:Nat→Nat→UInt8):Prop where
 len:(K.length:Int)=m
 row:∀j,j<i.toNat→(gd (Row.no UInt8) K j).mine A∧(gd (Row.no UInt8) K j).n=n.toNat∧lkA A (gd (Row.no UInt8) K j).id=(List.range n.toNat).map (f j)
 inj:∀j k,j<i.toNat→k<i.toNat→(gd (Row.no UInt8) K j).id=(gd (Row.no UInt8) K k).id→j=k
structure FillR (A0 A:List (Nat×List UInt8)) (r:Row UInt8) (k n:Int) (f:Nat→UInt8):Prop where
 mine:r.mine A
 n:r.n=n.toNat
 get:∀t,t<k.toNat→gd 0 (lkA A r.id) t=f t
 has:∀id,id≠r.id→(hasA A id↔hasA A0 id)
 lk:∀id,id≠r.id→lkA A id=lkA A0 id
theorem gd_set1 {α:Type} {d:α} {l:List α} {i j:Nat} {x:α}:gd d (l.set i x) j=if i=j∧i<l.length then x else gd d l j:=by
 unfold gd
 rw [List.getElem?_set]
 by_cases h:i=j
 ·subst h
  by_cases h2:i<l.length
  ·simp [h2]
  ·simp [h2,List.getElem?_eq_none (Nat.le_of_not_lt h2)]
 ·simp [h]
theorem Row.mine.get {A:List (Nat×List UInt8)} {r:Row UInt8} (h:r.mine A):r.get A=lkA A r.id∧(lkA A r.id).length=r.n:=by
 unfold Row.get;rw [h.1];exact ⟨rfl,h.2.2⟩
theorem FillI.start {m n:Int} {f:Nat→Nat→UInt8} (hm:0≤m):FillI [] (List.replicate m.toNat (Row.no UInt8)) 0 m n f:=by
 refine ⟨by simp;omega,fun j hj=>by simp at hj,fun j k hj=>by simp at hj⟩
theorem at_mine {A:List (Nat×List UInt8)} {id n:Nat} {zs:List UInt8} (h:zs.length=n):(Row.at UInt8 id n).mine ((id,zs)::A):=by
 refine ⟨rfl,hasA_cons.2 (.inl rfl), ?_⟩
 show (lkA ((id,zs)::A) id).length=n
 rw [lkA_cons,if_pos rfl];exact h
theorem FillR.start {A:List (Nat×List UInt8)} {id:Nat} {n:Int} {zs:List UInt8} {f:Nat→UInt8} (h:zs.length=n.toNat):FillR ((id,zs)::A) ((id,zs)::A) (Row.at UInt8 id n.toNat) 0 n f:=
 ⟨at_mine h,rfl,fun t ht=>by simp at ht,fun _ _=>Iff.rfl,fun _ _=>rfl⟩
theorem mine_put {A:List (Nat×List UInt8)} {r:Row UInt8} {xs:List UInt8} (h:r.mine A) (hl:xs.length=r.n):r.mine ((r.id,xs)::A):=by
 refine ⟨h.1,hasA_cons.2 (.inl rfl), ?_⟩
 rw [lkA_cons,if_pos rfl];exact hl
theorem FillR.step {A0 A:List (Nat×List UInt8)} {r:Row UInt8} {k n:Int} {f:Nat→UInt8} (h:FillR A0 A r k n f) (h0:0≤k) (hk:k<n):FillR A0 ((r.id,(r.get A).set k.toNat (f k.toNat))::A) r (k+1) n f:=by
 obtain ⟨g1,g2⟩:=h.mine.get
 have hn:=h.n
 refine ⟨mine_put h.mine (by rw [List.length_set,g1,g2]),h.n,fun t ht=> ?_,fun id hid=> ?_,fun id hid=> ?_⟩
 ·rw [lkA_cons,if_pos rfl,g1,gd_set1]
  by_cases he:k.toNat=t
  ·rw [if_pos ⟨he,by rw [g2,hn];omega⟩,he]
  ·rw [if_neg (fun hh=>he hh.1)];exact h.get t (by omega)
 ·rw [hasA_cons, ←h.has id hid];exact ⟨fun hh=>hh.resolve_left hid, .inr⟩
 ·rw [lkA_cons,if_neg hid];exact h.lk id hid
theorem FillI.next {A A':List (Nat×List UInt8)} {K:List (Row UInt8)} {i m n k:Int} {f:Nat→Nat→UInt8} {id:Nat} {zs:List UInt8} (h:FillI A K i m n f) (hi:0≤i) (him:i<m) (hid:¬hasA A id) (hn:0≤n) (hk:n≤k) (hr:FillR ((id,zs)::A) A' (Row.at UInt8 id n.toNat) k n (f i.toNat)):FillI A' (K.set i.toNat (Row.at UInt8 id n.toNat)) (i+1) m n f:=by
 have hl:=h.len
 have hil:i.toNat<K.length:=by omega
 have old:∀j,j<i.toNat→(gd (Row.no UInt8) K j).id≠id:=fun j hj e=>hid (e▸(h.row j hj).1.2.1)
 have keep:∀j,j<i.toNat→hasA A' (gd (Row.no UInt8) K j).id∧lkA A' (gd (Row.no UInt8) K j).id=lkA A (gd (Row.no UInt8) K j).id:=fun j hj=>by
  have hne:=old j hj
  refine ⟨(hr.has _ hne).2 (hasA_cons.2 (.inr (h.row j hj).1.2.1)), ?_⟩
  rw [hr.lk _ hne,lkA_cons,if_neg hne]
 have new:lkA A' id=(List.range n.toNat).map (f i.toNat):=by
  have hm:=hr.mine.2.2
  have hg:=hr.get
  rw [hr.n] at hm
  simp only [Row.at_id] at hm hg
  refine List.ext_getElem (by rw [hm,List.length_map,List.length_range]) fun t h1 h2=> ?_
  rw [hm] at h1
  have:=hg t (by omega)
  unfold gd at this
  rw [List.getElem?_eq_getElem (by rw [hm];exact h1)] at this
  simpa using this
 refine ⟨by rw [List.length_set];exact hl,fun j hj=> ?_,fun j q hj hq he=> ?_⟩
 ·rw [gd_set1]
  by_cases hj2:i.toNat=j
  ·rw [if_pos ⟨hj2,hil⟩, ←hj2]
   exact ⟨hr.mine,rfl,new⟩
  ·rw [if_neg (fun hh=>hj2 hh.1)]
   have hj3:j<i.toNat:=by omega
   obtain ⟨r1,r2,r3⟩:=h.row j hj3
   obtain ⟨k1,k2⟩:=keep j hj3
   exact ⟨⟨r1.1,k1,by rw [k2];exact r1.2.2⟩,r2,by rw [k2];exact r3⟩
 ·rw [gd_set1,gd_set1] at he
  by_cases h1:i.toNat=j<;>by_cases h2:i.toNat=q
  ·omega
  ·rw [if_pos ⟨h1,hil⟩,if_neg (fun hh=>h2 hh.1)] at he
   exact absurd he.symm (old q (by omega))
  ·rw [if_neg (fun hh=>h1 hh.1),if_pos ⟨h2,hil⟩] at he
   exact absurd he (old j (by omega))
  ·rw [if_neg (fun hh=>h1 hh.1),if_neg (fun hh=>h2 hh.1)] at he
   exact h.inj j q (by omega) (by omega) he
theorem gd_all {α:Type} {d:α} {l:List α} {P:α→Prop} (h:∀j,j<l.length→P (gd d l j)):∀x,x∈l→P x:=fun x hx=>by
 obtain ⟨i,hi,rfl⟩:=List.getElem_of_mem hx
 have:=h i hi
 unfold gd at this
 rw [List.getElem?_eq_getElem hi] at this
 exact this
theorem FillI.fin {A:List (Nat×List UInt8)} {K:List (Row UInt8)} {i m n:Int} {f:Nat→Nat→UInt8} (h:FillI A K i m n f) (hi:m≤i) (hm:0≤m):(∀x:Row UInt8,x∈K→x.ok A∧x.kd≠RK.nil)∧List.map (fun x=>x.get A) K=fillL m n f:=by
 have hl:=h.len
 refine ⟨gd_all (d:=Row.no UInt8) fun j hj=> ?_, ?_⟩
 ·obtain ⟨r1,_,_⟩:=h.row j (by omega)
  exact ⟨r1.ok,by rw [r1.1];simp⟩
 ·unfold fillL
  refine List.ext_getElem (by simp;omega) fun j h1 h2=> ?_
  rw [List.length_map] at h1
  obtain ⟨r1,_,r3⟩:=h.row j (by omega)
  have e:gd (Row.no UInt8) K j=K[j]:=by unfold gd;rw [List.getElem?_eq_getElem h1];rfl
  rw [e] at r1 r3
  simp only [List.getElem_map,List.getElem_range]
  rw [r1.get.1,r3]
theorem filled_vc (m n:Int) (f:Nat→Nat→UInt8) (V:Int→Int→UInt8) (P:Int→Int→Prop) (Q:List (Row UInt8)→List (Nat×List UInt8)→Prop) (hm:0≤m∧m≤64∧0≤n∧n≤64) (hP:∀i k,0≤i→i<m→0≤k→k<n→P i k∧V i k=f i.toNat k.toNat) (hQ:∀K A i,m≤i→FillI A K i m n f→Q K A):
 ((0:Int)≤m∧m≤m∧m*(↑(24:Nat):Int)≤(140737488355328:Int))∧(0≤(0:Int)∧(0:Int)≤m∧FillI [] (List.replicate m.toNat (Row.no UInt8)) 0 m n f)∧∀(x:Int) (x_1:List (Row UInt8)) (x_2:List (Nat×List UInt8)),(0≤x∧x≤m∧FillI x_2 x_1 x m n f)→
  (x<(↑(List.replicate m.toNat (Row.no UInt8)).length:Int)→((0:Int)≤n∧n≤n∧n*(↑(1:Nat):Int)≤(140737488355328:Int))∧((0:Int)≤x∧x<(↑x_1.length:Int))∧∀(id:Nat),¬hasA x_2 id→x.toNat<x_1.length∧((0:Int)≤x∧x<(↑(x_1.set x.toNat (Row.at UInt8 id (List.replicate n.toNat (UInt8.ofNat (Int.toNat (0:Int)))).length)).length:Int))∧x.toNat<(x_1.set x.toNat (Row.at UInt8 id (List.replicate n.toNat (UInt8.ofNat (Int.toNat (0:Int)))).length)).length∧(gd (Row.no UInt8) (x_1.set x.toNat (Row.at UInt8 id (List.replicate n.toNat (UInt8.ofNat (Int.toNat (0:Int)))).length)) x.toNat).ok ((id,List.replicate n.toNat (UInt8.ofNat (Int.toNat (0:Int))))::x_2)∧
   (0≤(0:Int)∧(0:Int)≤n∧(x_1.set x.toNat (Row.at UInt8 id (List.replicate n.toNat (UInt8.ofNat (Int.toNat (0:Int)))).length))=(x_1.set x.toNat (Row.at UInt8 id (List.replicate n.toNat (UInt8.ofNat (Int.toNat (0:Int)))).length))∧x=x∧FillR ((id,List.replicate n.toNat (UInt8.ofNat (Int.toNat (0:Int))))::x_2) ((id,List.replicate n.toNat (UInt8.ofNat (Int.toNat (0:Int))))::x_2) (gd (Row.no UInt8) (x_1.set x.toNat (Row.at UInt8 id (List.replicate n.toNat (UInt8.ofNat (Int.toNat (0:Int)))).length)) x.toNat) 0 n (f x.toNat))∧
   ∀(x_3 x_4:Int) (x_5:List (Row UInt8)) (x_6:List (Nat×List UInt8)),(0≤x_3∧x_3≤n∧x_5=(x_1.set x.toNat (Row.at UInt8 id (List.replicate n.toNat (UInt8.ofNat (Int.toNat (0:Int)))).length))∧x_4=x∧FillR ((id,List.replicate n.toNat (UInt8.ofNat (Int.toNat (0:Int))))::x_2) x_6 (gd (Row.no UInt8) x_5 x_4.toNat) x_3 n (f x_4.toNat))→
   (x_3<(↑((gd (Row.no UInt8) (x_1.set x.toNat (Row.at UInt8 id (List.replicate n.toNat (UInt8.ofNat (Int.toNat (0:Int)))).length)) x.toNat).get ((id,List.replicate n.toNat (UInt8.ofNat (Int.toNat (0:Int))))::x_2)).length:Int)→((0:Int)≤x_4∧x_4<(↑x_5.length:Int))∧x_4.toNat<x_5.length∧P x_4 x_3∧(gd (Row.no UInt8) x_5 x_4.toNat).ok x_6∧((0:Int)≤x_3∧x_3<(↑((gd (Row.no UInt8) x_5 x_4.toNat).get x_6).length:Int))∧(gd (Row.no UInt8) x_5 x_4.toNat).mine x_6∧x_3.toNat<((gd (Row.no UInt8) x_5 x_4.toNat).get x_6).length∧I64 (x_3+(1:Int))∧
    (0≤x_3+1∧x_3+1≤n∧x_5=(x_1.set x.toNat (Row.at UInt8 id (List.replicate n.toNat (UInt8.ofNat (Int.toNat (0:Int)))).length))∧x_4=x∧FillR ((id,List.replicate n.toNat (UInt8.ofNat (Int.toNat (0:Int))))::x_2) (((gd (Row.no UInt8) x_5 x_4.toNat).id,((gd (Row.no UInt8) x_5 x_4.toNat).get x_6).set x_3.toNat (V x_4 x_3))::x_6) (gd (Row.no UInt8) x_5 x_4.toNat) (x_3+1) n (f x_4.toNat))∧(n - (x_3+(1:Int))).toNat<(n - x_3).toNat)∧
   ((↑((gd (Row.no UInt8) (x_1.set x.toNat (Row.at UInt8 id (List.replicate n.toNat (UInt8.ofNat (Int.toNat (0:Int)))).length)) x.toNat).get ((id,List.replicate n.toNat (UInt8.ofNat (Int.toNat (0:Int))))::x_2)).length:Int)≤x_3→I64 (x+(1:Int))∧(0≤x+1∧x+1≤m∧FillI x_6 x_5 (x+1) m n f)∧(m - (x+(1:Int))).toNat<(m - x).toNat))∧
  ((↑(List.replicate m.toNat (Row.no UInt8)).length:Int)≤x→Q x_1 x_2):=by
 obtain ⟨h1,h2,h3,h4⟩:=hm
 have hrep:∀k:Nat,(List.replicate k (UInt8.ofNat (Int.toNat (0:Int)))).length=k:=fun k=>by simp
 refine ⟨⟨h1,Int.le_refl _,by omega⟩,⟨Int.le_refl _,h1,FillI.start h1⟩,fun x K A ⟨i0,i1,hI⟩=>⟨fun hx=> ?_,fun hx=> ?_⟩⟩
 ·rw [List.length_replicate] at hx
  have hl:=hI.len
  have hxl:x.toNat<K.length:=by omega
  refine ⟨⟨h3,Int.le_refl _,by omega⟩,⟨i0,by omega⟩,fun id hid=> ?_⟩
  simp only [hrep]
  generalize hzs:List.replicate n.toNat (UInt8.ofNat (Int.toNat (0:Int)))=zs
  have hz:zs.length=n.toNat:=by rw [←hzs];simp
  have hgd:gd (Row.no UInt8) (K.set x.toNat (Row.at UInt8 id n.toNat)) x.toNat=Row.at UInt8 id n.toNat:=by rw [gd_set1,if_pos ⟨rfl,hxl⟩]
  have hm0:(Row.at UInt8 id n.toNat).mine ((id,zs)::A):=at_mine hz
  have hget:((Row.at UInt8 id n.toNat).get ((id,zs)::A)).length=n.toNat:=by rw [hm0.get.1,hm0.get.2];rfl
  refine ⟨hxl,⟨i0,by rw [List.length_set];omega⟩,by rw [List.length_set];exact hxl,by rw [hgd];exact hm0.ok,⟨Int.le_refl _,h3,(by trivial),(by trivial),by rw [hgd];exact FillR.start hz⟩,fun y x4 K5 A6 ⟨j0,j1,hK,hx4,hR⟩=> ?_⟩
  subst hK;subst hx4
  rw [hgd] at hR ⊢
  rw [hget]
  refine ⟨fun hy=> ?_,fun hy=>⟨⟨by omega,by omega⟩,⟨by omega,by omega,hI.next i0 (by omega) hid h3 (by omega) hR⟩,by omega⟩⟩
  have hg:=hR.mine.get
  have hn:=hR.n
  have hlen:((Row.at UInt8 id n.toNat).get A6).length=n.toNat:=by rw [hg.1,hg.2];rfl
  rw [hlen]
  exact ⟨⟨i0,by rw [List.length_set];omega⟩,by rw [List.length_set];exact hxl,(hP _ _ i0 (by omega) j0 (by omega)).1,hR.mine.ok,⟨j0,by omega⟩,hR.mine,by omega,⟨by omega,by omega⟩,⟨by omega,by omega,rfl,rfl,by rw [(hP _ _ i0 (by omega) j0 (by omega)).2];exact hR.step j0 (by omega)⟩,by omega⟩
 ·rw [List.length_replicate] at hx
  exact hQ K A x (by omega) hI
def fT (a:List (List UInt8)) (i k:Nat):UInt8:=gd 0 (gd [] a k) i
open Go.RowKit
def fU (i k:Nat):UInt8:=if i=k then 1 else 0
def fC (many:Int) (i k:Nat):UInt8:=invN (UInt8.ofNat (i^^^(many.toNat+k)))
def mrect (n m:Nat) (a:List (List UInt8)):Prop:=a.length=n∧∀r,r∈a→r.length=m
theorem mchkGo_ok {n:Int}:∀{a:List (List UInt8)},mchkGo n a=0→∀r,r∈a→(r.length:Int)=n∧r.length≤16∧0<r.length
 |[],_,r,hr=>by simp at hr
 |q::l,h,r,hr=>by
  simp only [mchkGo] at h
  by_cases h1:16<(q.length:Int)
  ·rw [if_pos h1] at h;simp at h
  ·rw [if_neg h1] at h
   by_cases h2:q.length=0∨(q.length:Int)≠n
   ·rw [if_pos h2] at h;simp at h
   ·rw [if_neg h2] at h
    rcases List.mem_cons.1 hr with rfl|hr
    ·omega
    ·exact mchkGo_ok h r hr
theorem mchk_ok {a:List (List UInt8)} (h:mchk a=0):0<a.length∧a.length≤16∧0<(gd [] a 0).length∧(gd [] a 0).length≤16∧mrect a.length (gd [] a 0).length a:=by
 unfold mchk at h
 by_cases h1:16<a.length
 ·rw [if_pos h1] at h;simp at h
 ·rw [if_neg h1] at h
  by_cases h2:a.length=0
  ·rw [if_pos h2] at h;simp at h
  ·rw [if_neg h2] at h
   have hk:=mchkGo_ok h
   have:=hk _ (gd_mem (d:=[]) (xs:=a) (i:=0) (by omega))
   exact ⟨by omega,by omega,by omega,by omega,rfl,fun r hr=>by have:=(hk r hr).1;omega⟩
theorem fill_len {m n:Int} {f:Nat→Nat→UInt8}:(fillL m n f).length=m.toNat:=by simp [fillL]
theorem fill_rect {m n:Int} {f:Nat→Nat→UInt8}:mrect m.toNat n.toNat (fillL m n f):=by
 refine ⟨fill_len,fun r hr=> ?_⟩
 unfold fillL at hr
 simp only [List.mem_map,List.mem_range] at hr
 obtain ⟨i,_,rfl⟩:=hr
 simp
def cauL (m n:Int):List (List UInt8)×Int:=if 1≤m∧m≤16∧1≤n∧n≤16 then (fillL m n (fC m),0) else ([],3)
def k_64:Con Tc Tc.dn:=⟨64,[.ty .cInt, .ty .cInt, .ptr .cInt],fun x=>(fun (i:Int) (k:Int) (many:Int)=>0≤i∧i≤1000∧0≤k∧k≤1000∧0≤many∧many≤1000) x.1 x.2.1 x.2.2.1,[.cU8],fun x=>(fun (i:Int) (k:Int) (many:Int)=>invN (UInt8.ofNat (i.toNat^^^(many+k).toNat))) x.1 x.2.1 x.2.2.1⟩
theorem k_64_v (i:Int) (k:Int) (many:Int) (hp:0≤i∧i≤1000∧0≤k∧k≤1000∧0≤many∧many≤1000):I64 (many+k)∧((0:Int)≤i∧(0:Int)≤many+k∧I64 i∧I64 (many+k))∧(0:Int)≤(↑(i.toNat^^^(many+k).toNat):Int)∧True∧invN (UInt8.ofNat (↑(i.toNat^^^(many+k).toNat):Int).toNat)=invN (UInt8.ofNat (i.toNat^^^(many+k).toNat)):=by
 (repeat' (first|apply And.intro|intro _))<;>first|assumption|trivial|omega|(grind [I64])|trace_state
theorem k_64_ok:k_64.Ok Try.prog tB:=con_ok tB_ok (Δ:=[k_65]) ⟨k_65_ok,trivial⟩ (Ω:=[]) trivial k_64 F64_ok F64_call (fun _=>[]) (fun _=>trivial) 0 (fun x=>(fun (i:Int) (k:Int) (many:Int)=>(fun _=>none)) x.1 x.2.1 x.2.2.1) fun x hp=>Eq.mp (by kernel_rfl) (k_64_v x.1 x.2.1 x.2.2.1 hp)
def i_32_42_1 (n:Int) (many:Int) (k0:Int) (i0:Int) (K0:(List (Row UInt8))) (A0:(List (Nat×List UInt8))) (k:Int) (i:Int) (K:(List (Row UInt8))) (A:(List (Nat×List UInt8))):Prop:=0≤k∧k≤n∧K=K0∧i=i0∧FillR A0 A (gd (Row.no UInt8) K i.toNat) k n (fC many i.toNat)
def i_32_42_0 (m:Int) (n:Int) (many:Int) (i:Int) (K:(List (Row UInt8))) (A:(List (Nat×List UInt8))):Prop:=0≤i∧i≤m∧FillI A K i m n (fC many)
def k_32_42:Con Tc Tc.dn:=⟨63,[.ty .cInt, .ty .cInt, .fnc 64 [(true, .cInt)]],fun x=>(fun (m:Int) (n:Int) (many:Int)=>0≤m∧m≤64∧0≤n∧n≤64∧0≤many∧many≤1000) x.1 x.2.1 x.2.2.1.1,[.llU8],fun x=>(fun (m:Int) (n:Int) (many:Int)=>fillL m n (fC many)) x.1 x.2.1 x.2.2.1.1⟩
abbrev z32_42_0 (n:Int):=(List.replicate n.toNat (UInt8.ofNat (Int.toNat (0:Int))))
theorem k_32_42_v (m:Int) (n:Int) (many:Int) (hp:0≤m∧m≤64∧0≤n∧n≤64∧0≤many∧many≤1000):((0:Int)≤m∧m≤m∧m*(↑(24:Nat):Int)≤(140737488355328:Int))∧i_32_42_0 m n many (0:Int) (List.replicate m.toNat (Row.no UInt8)) []∧∀(x:Int) (x_1:List (Row UInt8)) (x_2:List (Nat×List UInt8)),i_32_42_0 m n many x x_1 x_2→(x<(↑(List.replicate m.toNat (Row.no UInt8)).length:Int)→((0:Int)≤n∧n≤n∧n*(↑(1:Nat):Int)≤(140737488355328:Int))∧((0:Int)≤x∧x<(↑x_1.length:Int))∧∀(id:Nat),¬hasA x_2 id→x.toNat<x_1.length∧((0:Int)≤x∧x<(↑(x_1.set x.toNat (Row.at UInt8 id (z32_42_0 n).length)).length:Int))∧x.toNat<(x_1.set x.toNat (Row.at UInt8 id (z32_42_0 n).length)).length∧(gd (Row.no UInt8) (x_1.set x.toNat (Row.at UInt8 id (z32_42_0 n).length)) x.toNat).ok ((id,List.replicate n.toNat (UInt8.ofNat (Int.toNat (0:Int))))::x_2)∧i_32_42_1 n many (0:Int) x (x_1.set x.toNat (Row.at UInt8 id (z32_42_0 n).length)) ((id,List.replicate n.toNat (UInt8.ofNat (Int.toNat (0:Int))))::x_2) (0:Int) x (x_1.set x.toNat (Row.at UInt8 id (z32_42_0 n).length)) ((id,List.replicate n.toNat (UInt8.ofNat (Int.toNat (0:Int))))::x_2)∧∀(x_3 x_4:Int) (x_5:List (Row UInt8)) (x_6:List (Nat×List UInt8)),i_32_42_1 n many (0:Int) x (x_1.set x.toNat (Row.at UInt8 id (z32_42_0 n).length)) ((id,List.replicate n.toNat (UInt8.ofNat (Int.toNat (0:Int))))::x_2) x_3 x_4 x_5 x_6→(x_3<(↑((gd (Row.no UInt8) (x_1.set x.toNat (Row.at UInt8 id (z32_42_0 n).length)) x.toNat).get ((id,List.replicate n.toNat (UInt8.ofNat (Int.toNat (0:Int))))::x_2)).length:Int)→((0:Int)≤x_4∧x_4<(↑x_5.length:Int))∧x_4.toNat<x_5.length∧((0:Int)≤x_4∧x_4≤(1000:Int)∧(0:Int)≤x_3∧x_3≤(1000:Int)∧(0:Int)≤many∧many≤(1000:Int))∧(gd (Row.no UInt8) x_5 x_4.toNat).ok x_6∧((0:Int)≤x_3∧x_3<(↑((gd (Row.no UInt8) x_5 x_4.toNat).get x_6).length:Int))∧(gd (Row.no UInt8) x_5 x_4.toNat).mine x_6∧x_3.toNat<((gd (Row.no UInt8) x_5 x_4.toNat).get x_6).length∧I64 (x_3+(1:Int))∧i_32_42_1 n many (0:Int) x (x_1.set x.toNat (Row.at UInt8 id (z32_42_0 n).length)) ((id,List.replicate n.toNat (UInt8.ofNat (Int.toNat (0:Int))))::x_2) (x_3+(1:Int)) x_4 x_5 (((gd (Row.no UInt8) x_5 x_4.toNat).id,((gd (Row.no UInt8) x_5 x_4.toNat).get x_6).set x_3.toNat (invN (UInt8.ofNat (x_4.toNat^^^(many+x_3).toNat))))::x_6)∧(n - (x_3+(1:Int))).toNat<(n - x_3).toNat)∧((↑((gd (Row.no UInt8) (x_1.set x.toNat (Row.at UInt8 id (z32_42_0 n).length)) x.toNat).get ((id,List.replicate n.toNat (UInt8.ofNat (Int.toNat (0:Int))))::x_2)).length:Int)≤x_3→I64 (x+(1:Int))∧i_32_42_0 m n many (x+(1:Int)) x_5 x_6∧(m - (x+(1:Int))).toNat<(m - x).toNat))∧((↑(List.replicate m.toNat (Row.no UInt8)).length:Int)≤x→(∀(x:Row UInt8),x∈x_1→x.ok x_2∧x.kd≠RK.nil)∧List.map (fun x=>x.get x_2) x_1=fillL m n (fC many)):=by
 delta z32_42_0
 exact filled_vc m n (fC many) (fun i k=>invN (UInt8.ofNat (i.toNat^^^(many+k).toNat))) (fun i k=>(0:Int)≤i∧i≤(1000:Int)∧(0:Int)≤k∧k≤(1000:Int)∧(0:Int)≤many∧many≤(1000:Int)) _ ⟨hp.1,hp.2.1,hp.2.2.1,hp.2.2.2.1⟩ (fun i k h1 h2 h3 h4=>⟨⟨h1,by omega,h3,by omega,hp.2.2.2.2.1,hp.2.2.2.2.2⟩,by unfold fC;rw [show (many+k).toNat=many.toNat+k.toNat by omega]⟩) fun K A i hi h=>h.fin hi hp.1
theorem k_32_42_ok:k_32_42.Ok Try.prog tB:=con_ok tB_ok (Δ:=[k_64]) ⟨k_64_ok,trivial⟩ (Ω:=[]) trivial k_32_42 F63_ok F63_call (fun _=>[]) (fun _=>trivial) 0 (fun x=>(fun (m:Int) (n:Int) (many:Int)=>(fun k=>bif Nat.beq k 0 then some (.inv [.sl 14 .cInt, .bl 1 .rU8, .ar .cU8] (fun zo zv=>(fun (i:Int) (K:(List (Row UInt8))) (A:(List (Nat×List UInt8)))=>i_32_42_0 m n many i K A) zv.1 zv.2.1 zv.2.2.1) (fun zo zv=>(fun (i:Int) (K:(List (Row UInt8))) (A:(List (Nat×List UInt8)))=>(m - i).toNat) zv.1 zv.2.1 zv.2.2.1)) else bif Nat.beq k 1 then some (.inv [.sl 27 .cInt, .sl 8 .cInt, .bl 1 .rU8, .ar .cU8] (fun zo zv=>(fun (k0:Int) (i0:Int) (K0:(List (Row UInt8))) (A0:(List (Nat×List UInt8))) (k:Int) (i:Int) (K:(List (Row UInt8))) (A:(List (Nat×List UInt8)))=>i_32_42_1 n many k0 i0 K0 A0 k i K A) zo.1 zo.2.1 zo.2.2.1 zo.2.2.2.1 zv.1 zv.2.1 zv.2.2.1 zv.2.2.2.1) (fun zo zv=>(fun (k0:Int) (i0:Int) (K0:(List (Row UInt8))) (A0:(List (Nat×List UInt8))) (k:Int) (i:Int) (K:(List (Row UInt8))) (A:(List (Nat×List UInt8)))=>(n - k).toNat) zo.1 zo.2.1 zo.2.2.1 zo.2.2.2.1 zv.1 zv.2.1 zv.2.2.1 zv.2.2.2.1)) else none)) x.1 x.2.1 x.2.2.1.1) fun x hp=>Eq.mp (by kernel_rfl) (k_32_42_v x.1 x.2.1 x.2.2.1.1 hp)
def k_47:Con Tc Tc.dn:=⟨47,[.ty .cInt, .ty .cInt],fun x=>(fun (m:Int) (n:Int)=>True) x.1 x.2.1,[.llU8, .cInt],fun x=>(fun (m:Int) (n:Int)=>cauL m n) x.1 x.2.1⟩
theorem k_47_v (m:Int) (n:Int):True∧(decide ((1:Int)≤m∧m≤(16:Int))= !!true→decide ((1:Int)≤m∧m≤(16:Int))= !!true)∧(decide ((1:Int)≤m∧m≤(16:Int))= !!true→True)∧(decide ((1:Int)≤m∧m≤(16:Int))= !!true→decide ((1:Int)≤m∧m≤(16:Int))= !!true)∧(decide ((1:Int)≤m∧m≤(16:Int))= !false→decide ((1:Int)≤m∧m≤(16:Int))= !!true)∧(decide ((1:Int)≤m∧m≤(16:Int))= !true∨decide ((1:Int)≤n∧n≤(16:Int))= !true→([],(3:Int))=cauL m n)∧(decide ((1:Int)≤m∧m≤(16:Int))= !false∧decide ((1:Int)≤n∧n≤(16:Int))= !false→((0:Int)≤m∧m≤(64:Int)∧(0:Int)≤n∧n≤(64:Int)∧(0:Int)≤m∧m≤(1000:Int))∧(fillL m n (fC m),(0:Int))=cauL m n):=by
 unfold cauL
 (repeat' (first|apply And.intro|intro _))<;>first|assumption|trivial|omega|(grind [])|trace_state
theorem k_47_ok:k_47.Ok Try.prog tB:=con_ok tB_ok (Δ:=[k_62,k_32_42]) ⟨k_62_ok,k_32_42_ok,trivial⟩ (Ω:=[]) trivial k_47 F47_ok F47_call (fun _=>[]) (fun _=>trivial) 0 (fun x=>(fun (m:Int) (n:Int)=>(fun _=>none)) x.1 x.2.1) fun x hp=>Eq.mp (by kernel_rfl) (k_47_v x.1 x.2.1)
open Go.RowKit
def ixGo {α:Type} (p:α→Bool):List α→Int→Int
 |[],_=> -1
 |a::r,k=>if p a=true then k else ixGo p r (k+1)
theorem ixGo_neg {α:Type} {p:α→Bool}:∀{l:List α} {k:Int},0≤k→(ixGo p l k<0↔∀a,a∈l→p a=false)
 |[],k,h=>by simp [ixGo]
 |a::r,k,h=>by
  unfold ixGo
  by_cases hp:p a=true
  ·rw [if_pos hp]
   exact ⟨fun hh=>by omega,fun hh=>by have:=hh a (List.mem_cons_self ..);rw [hp] at this;simp at this⟩
  ·rw [if_neg hp,ixGo_neg (by omega)]
   exact ⟨fun hh b hb=>by rcases List.mem_cons.1 hb with e|e;rw [e];simpa using hp;exact hh b e,fun hh b hb=>hh b (List.mem_cons_of_mem _ hb)⟩
theorem ixGo_any {α:Type} {p:α→Bool} {l:List α}:decide (0≤ixGo p l 0)=l.any p:=by
 have h:=ixGo_neg (p:=p) (l:=l) (k:=0) (Int.le_refl _)
 by_cases hh:ixGo p l 0<0
 ·rw [decide_eq_false (by omega)]
  have:=h.1 hh
  symm
  rw [List.any_eq_false]
  intro x hx;rw [this x hx];simp
 ·rw [decide_eq_true (by omega)]
  symm
  rw [List.any_eq_true]
  exact Classical.byContradiction fun hn=>hh (h.2 fun a ha=>by
   cases hq:p a with
   |false=>rfl
   |true=>exact absurd ⟨a,ha,hq⟩ hn)
structure IxF {α:Type} (p:α→Bool) (xs:List α) (k:Int):Prop where
 lo:0≤k
 hi:k≤xs.length
 few:xs.length≤1000000
 eq:ixGo p (xs.drop k.toNat) k=ixGo p xs 0
theorem IxF.start {α:Type} {p:α→Bool} {xs:List α} (h:xs.length≤1000000):IxF p xs 0:=⟨by omega,by omega,h,rfl⟩
theorem IxF.no {α:Type} {p:α→Bool} {d:α} {xs:List α} {k:Int} (h:IxF p xs k) (hk:k<xs.length) (hp:¬p (gd d xs k.toNat)=true):IxF p xs (k+1):=by
 have h0:=h.lo
 refine ⟨by omega,by omega,h.few, ?_⟩
 rw [←h.eq,gd_drop d (xs:=xs) (i:=k.toNat) (by omega),ixGo,if_neg hp,show (k+1).toNat=k.toNat+1 by omega]
theorem IxF.yes {α:Type} {p:α→Bool} {d:α} {xs:List α} {k:Int} (h:IxF p xs k) (hk:k<xs.length) (hp:p (gd d xs k.toNat)=true):k=ixGo p xs 0:=by
 have h0:=h.lo
 rw [←h.eq,gd_drop d (xs:=xs) (i:=k.toNat) (by omega),ixGo,if_pos hp]
theorem IxF.fin {α:Type} {p:α→Bool} {xs:List α} {k:Int} (h:IxF p xs k) (hk:xs.length≤k): -1=ixGo p xs 0:=by
 rw [←h.eq,List.drop_eq_nil_of_le (by omega)];rfl
abbrev BA:Type:=ByteArray
def pLg (s:BA):Bool:=decide ((64:Int)<s.size)
def pWd (all:List BA) (s:BA):Bool:=decide (¬(s.size:Int)=((gd ByteArray.empty all 0).size:Int))
def alkE (l:List BA):Int:=if l.any pLg=true then 2 else if l.any (pWd l)=true then 1 else 0
structure AlI (l:List BA) (i:Int):Prop where
 lo:0≤i
 hi:i≤l.length
 no:l.any pLg=false
 eq:∀j,j<i.toNat→pWd l (gd ByteArray.empty l j)=false
theorem AlI.start {l:List BA} (h:¬l.any pLg=true):AlI l 0:=⟨by omega,by omega,by simpa using h,fun j hj=>by simp at hj⟩
theorem AlI.step {l:List BA} {i:Int} (h:AlI l i) (hi:i<l.length) (he:((gd ByteArray.empty l i.toNat).size:Int)=((gd ByteArray.empty l 0).size:Int)):AlI l (i+1):=by
 have h0:=h.lo
 refine ⟨by omega,by omega,h.no,fun j hj=> ?_⟩
 by_cases e:j<i.toNat
 ·exact h.eq j e
 ·rw [show j=i.toNat by omega];unfold pWd;simp [he]
theorem AlI.bad {l:List BA} {i:Int} (h:AlI l i) (hi:i<l.length) (he:¬((gd ByteArray.empty l i.toNat).size:Int)=((gd ByteArray.empty l 0).size:Int)):(1:Int)=alkE l:=by
 have h0:=h.lo
 unfold alkE
 rw [if_neg (by simp [h.no]),if_pos]
 rw [List.any_eq_true]
 exact ⟨_,gd_mem (d:=ByteArray.empty) (xs:=l) (i:=i.toNat) (by omega),by unfold pWd;simpa using he⟩
theorem AlI.fin {l:List BA} {i:Int} (h:AlI l i) (hi:l.length≤i):(0:Int)=alkE l:=by
 unfold alkE
 rw [if_neg (by simp [h.no]),if_neg]
 intro hh
 rw [List.any_eq_true] at hh
 obtain ⟨x,hx,hp⟩:=hh
 obtain ⟨j,hj,rfl⟩:=List.getElem_of_mem hx
 have:=h.eq j (by omega)
 rw [show gd ByteArray.empty l j=l[j] by unfold gd;rw [List.getElem?_eq_getElem hj];rfl,hp] at this
 simp at this
theorem alk_long {l:List BA} (h:l.any pLg=true):(2:Int)=alkE l:=by unfold alkE;rw [if_pos h]
theorem alk_ok {l:List BA} (h:alkE l=0):(∀s,s∈l→s.size≤64)∧∀s,s∈l→s.size=(gd ByteArray.empty l 0).size:=by
 unfold alkE at h
 split at h
 ·simp at h
 ·rename_i h1
  split at h
  ·simp at h
  ·rename_i h2
   constructor
   ·intro s hs
    have:=mt (fun hh=>List.any_eq_true.2 ⟨s,hs,hh⟩) h1
    unfold pLg at this;simp at this;omega
   ·intro s hs
    have:=mt (fun hh=>List.any_eq_true.2 ⟨s,hs,hh⟩) h2
    unfold pWd at this;simp at this;omega
theorem alk_of {l:List BA} (h1:∀s,s∈l→s.size≤64) (h2:∀s,s∈l→s.size=(gd ByteArray.empty l 0).size):alkE l=0:=by
 unfold alkE
 rw [if_neg,if_neg]
 ·intro hh
  obtain ⟨x,hx,hp⟩:=List.any_eq_true.1 hh
  have:=h2 x hx
  unfold pWd at hp;simp at hp;omega
 ·intro hh
  obtain ⟨x,hx,hp⟩:=List.any_eq_true.1 hh
  have:=h1 x hx
  unfold pLg at hp;simp at hp;omega
def encL (data:List BA) (more:Int):List BA×Int:=
 if (data.length:Int)=0 then ([],8) else if 8<(data.length:Int) then ([],2) else if ¬(1≤more∧more≤6) then ([],3) else if ¬alkE data=0 then ([],alkE data) else (mixS (cauL more data.length).1 data,0)
theorem cau_ok {m n:Int} (h1:1≤m) (h2:m≤16) (h3:1≤n) (h4:n≤16):cauL m n=(fillL m n (fC m),0):=by unfold cauL;rw [if_pos ⟨h1,h2,h3,h4⟩]
theorem fill_w {m n:Int} {f:Nat→Nat→UInt8}:∀r,r∈fillL m n f→r.length=n.toNat:=fun r hr=>by
 unfold fillL at hr
 obtain ⟨i,_,rfl⟩:=List.mem_map.1 hr
 simp
theorem enc_mx {data:List BA} {more:Int} (h1:¬(data.length:Int)=0) (h2:(data.length:Int)≤8) (h3:1≤more) (h4:more≤6) (h:alkE data=0):MxP (cauL more data.length).1 data:=by
 obtain ⟨a1,a2⟩:=alk_ok h
 have h0:=a1 _ (gd_mem (d:=ByteArray.empty) (xs:=data) (i:=0) (by omega))
 rw [cau_ok h3 (by omega) (by omega) (by omega)]
 refine ⟨by omega,by omega, ?_,fun r hr=>by have:=fill_w r hr;omega,fun s hs=>by rw [a2 s hs];exact Nat.le_refl _,by omega⟩
 unfold fillL;simp;omega
def idxI (l:List Int) (n:Int):Int:=ixGo (fun x=>decide (n=x)) l 0
theorem idxI_mem {l:List Int} {n:Int}:decide (0≤idxI l n)=decide (n∈l):=by
 unfold idxI
 rw [ixGo_any,Bool.eq_iff_iff,List.any_eq_true,decide_eq_true_iff]
 constructor
 ·rintro ⟨x,hx,he⟩;rw [decide_eq_true_iff] at he;rw [he];exact hx
 ·intro h;exact ⟨n,h,by simp⟩
def k_61:Con Tc Tc.dn:=⟨61,[.ty .cStr],fun x=>(fun (s:ByteArray)=>True) x.1,[.cBool],fun x=>(fun (s:ByteArray)=>pLg s) x.1⟩
theorem k_61_v (s:ByteArray):decide ((64:Int)<(↑s.size:Int))=pLg s:=by
 (repeat' (first|apply And.intro|intro _))<;>first|assumption|trivial|omega|(grind [pLg])|trace_state
theorem k_61_ok:k_61.Ok Try.prog tB:=con_ok tB_ok (Δ:=[]) trivial (Ω:=[]) trivial k_61 F61_ok F61_call (fun _=>[]) (fun _=>trivial) 0 (fun x=>(fun (s:ByteArray)=>(fun _=>none)) x.1) fun x hp=>Eq.mp (by kernel_rfl) (k_61_v x.1)
def i_66_a_0 (xs:(List ByteArray)) (k:Int):Prop:=IxF (pLg) xs k
def k_66_a:Con Tc Tc.dn:=⟨79,[.ty .lStr, .fnc 61 []],fun x=>(fun (xs:(List ByteArray))=>xs.length≤1000000) x.1,[.cInt],fun x=>(fun (xs:(List ByteArray))=>ixGo (pLg) xs 0) x.1⟩
theorem k_66_a_v (xs:(List ByteArray)) (hp:xs.length≤1000000):i_66_a_0 xs (0:Int)∧∀(x:Int),i_66_a_0 xs x→(x<(↑xs.length:Int)→((0:Int)≤x∧x<(↑xs.length:Int))∧True∧(pLg (gd ByteArray.empty xs x.toNat)=true→x=ixGo pLg xs (0:Int))∧(pLg (gd ByteArray.empty xs x.toNat)=false→I64 (x+(1:Int))∧i_66_a_0 xs (x+(1:Int))∧((↑xs.length:Int) - (x+(1:Int))).toNat<((↑xs.length:Int) - x).toNat))∧((↑xs.length:Int)≤x→(-1:Int)=ixGo pLg xs (0:Int)):=by
 have h1:= @IxF.start BA (pLg) xs
 have h2:= @IxF.no BA (pLg) ByteArray.empty xs
 have h3:= @IxF.yes BA (pLg) ByteArray.empty xs
 have h4:= @IxF.fin BA (pLg) xs
 have h5:= @IxF.lo BA (pLg) xs
 have h6:= @IxF.few BA (pLg) xs
 (repeat' (first|apply And.intro|intro _))<;>first|assumption|trivial|omega|(grind [i_66_a_0,I64])|trace_state
theorem k_66_a_ok:k_66_a.Ok Try.prog tB:=con_ok tB_ok (Δ:=[k_61]) ⟨k_61_ok,trivial⟩ (Ω:=[]) trivial k_66_a F79_ok F79_call (fun _=>[]) (fun _=>trivial) 0 (fun x=>(fun (xs:(List ByteArray))=>(fun k=>bif Nat.beq k 0 then some (.inv [.sl 8 .cInt] (fun zo zv=>(fun (k:Int)=>i_66_a_0 xs k) zv.1) (fun zo zv=>(fun (k:Int)=>((xs.length:Int) - k).toNat) zv.1)) else none)) x.1) fun x hp=>Eq.mp (by kernel_rfl) (k_66_a_v x.1 hp)
def k_41_a:Con Tc Tc.dn:=⟨60,[.ty .lStr, .fnc 61 []],fun x=>(fun (xs:(List ByteArray))=>xs.length≤1000000) x.1,[.cBool],fun x=>(fun (xs:(List ByteArray))=>xs.any pLg) x.1⟩
theorem k_41_a_v (xs:(List ByteArray)) (hp:xs.length≤1000000):xs.length≤(1000000:Nat)∧decide ((0:Int)≤ixGo pLg xs (0:Int))=xs.any pLg:=by
 have h1:= @ixGo_any BA pLg xs
 (repeat' (first|apply And.intro|intro _))<;>first|assumption|trivial|omega|(grind [])|trace_state
theorem k_41_a_ok:k_41_a.Ok Try.prog tB:=con_ok tB_ok (Δ:=[k_66_a]) ⟨k_66_a_ok,trivial⟩ (Ω:=[]) trivial k_41_a F60_ok F60_call (fun _=>[]) (fun _=>trivial) 0 (fun x=>(fun (xs:(List ByteArray))=>(fun _=>none)) x.1) fun x hp=>Eq.mp (by kernel_rfl) (k_41_a_v x.1 hp)
def i_73_0 (xs:(List Int)) (n:Int) (k:Int):Prop:=IxF (fun x=>decide (n=x)) xs k
def k_73:Con Tc Tc.dn:=⟨73,[.ty .lInt, .ty .cInt],fun x=>(fun (xs:(List Int)) (n:Int)=>xs.length≤1000000) x.1 x.2.1,[.cInt],fun x=>(fun (xs:(List Int)) (n:Int)=>idxI xs n) x.1 x.2.1⟩
theorem k_73_v (xs:(List Int)) (n:Int) (hp:xs.length≤1000000):i_73_0 xs n (0:Int)∧∀(x:Int),i_73_0 xs n x→(x<(↑xs.length:Int)→((0:Int)≤x∧x<(↑xs.length:Int))∧(n=gd (0:Int) xs x.toNat→x=idxI xs n)∧(¬n=gd (0:Int) xs x.toNat→I64 (x+(1:Int))∧i_73_0 xs n (x+(1:Int))∧((↑xs.length:Int) - (x+(1:Int))).toNat<((↑xs.length:Int) - x).toNat))∧((↑xs.length:Int)≤x→(-1:Int)=idxI xs n):=by
 have h1:= @IxF.start Int (fun x=>decide (n=x)) xs
 have h2:= @IxF.no Int (fun x=>decide (n=x)) 0 xs
 have h3:= @IxF.yes Int (fun x=>decide (n=x)) 0 xs
 have h4:= @IxF.fin Int (fun x=>decide (n=x)) xs
 have h5:= @IxF.lo Int (fun x=>decide (n=x)) xs
 have h6:= @IxF.few Int (fun x=>decide (n=x)) xs
 unfold idxI
 (repeat' (first|apply And.intro|intro _))<;>first|assumption|trivial|omega|(grind [i_73_0,I64])|trace_state
theorem k_73_ok:k_73.Ok Try.prog tB:=con_ok tB_ok (Δ:=[]) trivial (Ω:=[]) trivial k_73 F73_ok F73_call (fun _=>[]) (fun _=>trivial) 0 (fun x=>(fun (xs:(List Int)) (n:Int)=>(fun k=>bif Nat.beq k 0 then some (.inv [.sl 8 .cInt] (fun zo zv=>(fun (k:Int)=>i_73_0 xs n k) zv.1) (fun zo zv=>(fun (k:Int)=>((xs.length:Int) - k).toNat) zv.1)) else none)) x.1 x.2.1) fun x hp=>Eq.mp (by kernel_rfl) (k_73_v x.1 x.2.1 hp)
def k_57:Con Tc Tc.dn:=⟨57,[.ty .lInt, .ty .cInt],fun x=>(fun (xs:(List Int)) (n:Int)=>xs.length≤1000000) x.1 x.2.1,[.cBool],fun x=>(fun (xs:(List Int)) (n:Int)=>decide (n∈xs)) x.1 x.2.1⟩
theorem k_57_v (xs:(List Int)) (n:Int) (hp:xs.length≤1000000):xs.length≤(1000000:Nat)∧decide ((0:Int)≤idxI xs n)=decide (n∈xs):=by
 have h1:= @idxI_mem xs n
 (repeat' (first|apply And.intro|intro _))<;>first|assumption|trivial|omega|(grind [])|trace_state
theorem k_57_ok:k_57.Ok Try.prog tB:=con_ok tB_ok (Δ:=[k_73]) ⟨k_73_ok,trivial⟩ (Ω:=[]) trivial k_57 F57_ok F57_call (fun _=>[]) (fun _=>trivial) 0 (fun x=>(fun (xs:(List Int)) (n:Int)=>(fun _=>none)) x.1 x.2.1) fun x hp=>Eq.mp (by kernel_rfl) (k_57_v x.1 x.2.1 hp)
def k_45:Con Tc Tc.dn:=⟨45,[.ty .cInt, .ty .cInt],fun x=>(fun (n:Int) (most:Int)=>True) x.1 x.2.1,[.cBool],fun x=>(fun (n:Int) (most:Int)=>decide (1≤n∧n≤most)) x.1 x.2.1⟩
theorem k_45_v (n:Int) (most:Int):((1:Int)≤n→(1:Int)≤n)∧((1:Int)≤n→(1:Int)≤n)∧((1:Int)≤n→(1:Int)≤n)∧(decide ((1:Int)≤n)&&decide (n≤most))=decide ((1:Int)≤n∧n≤most):=by
 (repeat' (first|apply And.intro|intro _))<;>first|assumption|trivial|omega|(grind [])|trace_state
theorem k_45_ok:k_45.Ok Try.prog tB:=con_ok tB_ok (Δ:=[]) trivial (Ω:=[]) trivial k_45 F45_ok F45_call (fun _=>[]) (fun _=>trivial) 0 (fun x=>(fun (n:Int) (most:Int)=>(fun _=>none)) x.1 x.2.1) fun x hp=>Eq.mp (by kernel_rfl) (k_45_v x.1 x.2.1)
def i_46_0 (l:(List ByteArray)) (i:Int):Prop:=AlI l i
def k_46:Con Tc Tc.dn:=⟨46,[.ty .lStr],fun x=>(fun (l:(List ByteArray))=>l.length≤1000000) x.1,[.cInt],fun x=>(fun (l:(List ByteArray))=>alkE l) x.1⟩
theorem k_46_v (l:(List ByteArray)) (hp:l.length≤1000000):l.length≤(1000000:Nat)∧(l.any pLg=true→(2:Int)=alkE l)∧(l.any pLg=false→i_46_0 l (0:Int)∧∀(x:Int),i_46_0 l x→(x<(↑l.length:Int)→((0:Int)≤x∧x<(↑l.length:Int))∧((0:Int)≤(0:Int)∧(0:Int)<(↑l.length:Int))∧(¬(↑(gd ByteArray.empty l x.toNat).size:Int)=(↑(gd ByteArray.empty l (Int.toNat (0:Int))).size:Int)→(1:Int)=alkE l)∧((↑(gd ByteArray.empty l x.toNat).size:Int)=(↑(gd ByteArray.empty l (Int.toNat (0:Int))).size:Int)→I64 (x+(1:Int))∧i_46_0 l (x+(1:Int))∧((↑l.length:Int) - (x+(1:Int))).toNat<((↑l.length:Int) - x).toNat))∧((↑l.length:Int)≤x→(0:Int)=alkE l)):=by
 have h1:= @AlI.start l
 have h2:= @AlI.step l
 have h3:= @AlI.bad l
 have h4:= @AlI.fin l
 have h5:= @AlI.lo l
 have h6:= @AlI.hi l
 have h7:= @alk_long l
 (repeat' (first|apply And.intro|intro _))<;>first|assumption|trivial|omega|(grind [i_46_0,I64])|trace_state
theorem k_46_ok:k_46.Ok Try.prog tB:=con_ok tB_ok (Δ:=[k_41_a]) ⟨k_41_a_ok,trivial⟩ (Ω:=[]) trivial k_46 F46_ok F46_call (fun _=>[]) (fun _=>trivial) 0 (fun x=>(fun (l:(List ByteArray))=>(fun k=>bif Nat.beq k 0 then some (.inv [.sl 9 .cInt] (fun zo zv=>(fun (i:Int)=>i_46_0 l i) zv.1) (fun zo zv=>(fun (i:Int)=>((l.length:Int) - i).toNat) zv.1)) else none)) x.1) fun x hp=>Eq.mp (by kernel_rfl) (k_46_v x.1 hp)
open Go.RowKit
structure Mt (A:List (Nat×List UInt8)) (K:List (Row UInt8)) (n m:Nat):Prop where
 len:K.length=n
 row:∀j,j<n→(gd (Row.no UInt8) K j).mine A∧(lkA A (gd (Row.no UInt8) K j).id).length=m
 inj:∀j k,j<n→k<n→(gd (Row.no UInt8) K j).id=(gd (Row.no UInt8) K k).id→j=k
def vw (A:List (Nat×List UInt8)) (K:List (Row UInt8)):List (List UInt8):=K.map fun r=>r.get A
structure RowR (A0 A:List (Nat×List UInt8)) (r:Row UInt8) (xs:List UInt8):Prop where
 mine:r.mine A
 get:lkA A r.id=xs
 has:∀id,id≠r.id→(hasA A id↔hasA A0 id)
 lk:∀id,id≠r.id→lkA A id=lkA A0 id
def scTo (r:List UInt8) (f:UInt8) (k:Nat):List UInt8:=(r.take k).map (fun x=>gmul x f)++r.drop k
def adTo (r q:List UInt8) (f:UInt8) (k:Nat):List UInt8:=List.zipWith (fun x y=>x^^^gmul f y) (r.take k) (q.take k)++r.drop k
def offTo (M:List (List UInt8)) (c d k:Nat):List (List UInt8):=(List.range M.length).map fun i=>if i≠d∧i<k then addL (gd [] M i) (gd [] M d) (gd 0 (gd [] M i) c) else gd [] M i
abbrev RwL:Type:=List (Row UInt8)
abbrev ArL:Type:=List (Nat×List UInt8)
abbrev rAt (K:RwL) (i:Int):Row UInt8:=gd (Row.no UInt8) K i.toNat
def IxI (k0:Int) (s0:Nat×Nat) (c0:Int) (K0:RwL) (A0:ArL) (k:Int) (s:Nat×Nat) (c:Int) (K:RwL) (A:ArL):Prop:=0≤k∧k≤s.2∧s=s0∧c=c0∧K=K0∧A=A0∧∀j,j<k.toNat→gd 0 ((gd (Row.no UInt8) K (s.1+j)).get A) c.toNat=0
def ScI (k0 i0:Int) (f0:UInt8) (K0:RwL) (A0:ArL) (k i:Int) (f:UInt8) (K:RwL) (A:ArL):Prop:=0≤k∧i=i0∧f=f0∧K=K0∧0≤i∧i<K.length∧RowR A0 A (rAt K i) (scTo (lkA A0 (rAt K i).id) f k.toNat)∧k≤(lkA A0 (rAt K i).id).length
def AdI (k0 t0 s0:Int) (f0:UInt8) (K0:RwL) (A0:ArL) (k t s:Int) (f:UInt8) (K:RwL) (A:ArL):Prop:=0≤k∧t=t0∧s=s0∧f=f0∧K=K0∧0≤t∧t<K.length∧0≤s∧s<K.length∧(rAt K s).id≠(rAt K t).id∧(rAt K s).mine A0∧(lkA A0 (rAt K s).id).length=(lkA A0 (rAt K t).id).length∧RowR A0 A (rAt K t) (adTo (lkA A0 (rAt K t).id) (lkA A0 (rAt K s).id) f k.toNat)∧k≤(lkA A0 (rAt K s).id).length
def ClI (c0 d0 cols0:Int) (K0:RwL) (A0:ArL) (c d cols:Int) (K:RwL) (A:ArL):Prop:=0≤c∧c≤cols∧cols=cols0∧cols≤1000∧0≤d∧d<K.length∧K.length=K0.length∧K.length≤1000∧(∃m:Nat,Mt A K K.length m∧cols≤m∧m≤1000)∧clrL (cols - c).toNat (vw A K) c.toNat d.toNat=clrL cols.toNat (vw A0 K0) 0 0
def OfI (k0 c0 d0:Int) (K0:RwL) (A0:ArL) (k c d:Int) (K:RwL) (A:ArL):Prop:=0≤k∧k≤K.length∧c=c0∧d=d0∧K=K0∧(∃m:Nat,Mt A0 K K.length m∧Mt A K K.length m∧c<m∧m≤1000)∧vw A K=offTo (vw A0 K0) c.toNat d.toNat k.toNat
theorem ext_gd {α:Type} {d:α} {l l':List α} (h:l.length=l'.length) (k:∀i,i<l.length→gd d l i=gd d l' i):l=l':=by
 refine List.ext_getElem h fun i h1 h2=> ?_
 have:=k i h1
 unfold gd at this
 rw [List.getElem?_eq_getElem h1,List.getElem?_eq_getElem h2] at this
 exact this
theorem vw_len {A:ArL} {K:RwL}:(vw A K).length=K.length:=by simp [vw]
theorem vw_gd {A:ArL} {K:RwL} {n m j:Nat} (h:Mt A K n m) (hj:j<n):gd [] (vw A K) j=lkA A (gd (Row.no UInt8) K j).id:=by
 have hl:j<K.length:=by rw [h.len];exact hj
 have hm:=(h.row j hj).1
 have e:gd (Row.no UInt8) K j=K[j]:=by unfold gd;rw [List.getElem?_eq_getElem hl];rfl
 rw [←hm.get.1,e]
 unfold gd vw
 rw [List.getElem?_map,List.getElem?_eq_getElem hl];rfl
theorem Mt.rect {A:ArL} {K:RwL} {n m:Nat} (h:Mt A K n m):Rect n m (vw A K):=by
 refine ⟨by rw [vw_len,h.len],gd_all (d:=[]) fun j hj=> ?_⟩
 rw [vw_len,h.len] at hj
 rw [vw_gd h hj];exact (h.row j hj).2
theorem Mt.at {A:ArL} {K:RwL} {n m:Nat} (h:Mt A K n m) {i:Nat} (hi:i<n):(gd (Row.no UInt8) K i).mine A∧(gd (Row.no UInt8) K i).ok A∧(gd (Row.no UInt8) K i).get A=gd [] (vw A K) i∧((gd (Row.no UInt8) K i).get A).length=m∧(gd (Row.no UInt8) K i).kd≠RK.nil:=by
 have hm:=(h.row i hi).1
 refine ⟨hm,hm.ok,by rw [vw_gd h hi,hm.get.1],by rw [hm.get.1];exact (h.row i hi).2,by rw [hm.1];simp⟩
theorem Mt.put {A A':ArL} {K:RwL} {n m j:Nat} {xs:List UInt8} (h:Mt A K n m) (hj:j<n) (hr:RowR A A' (gd (Row.no UInt8) K j) xs) (hl:xs.length=m):Mt A' K n m∧vw A' K=(vw A K).set j xs:=by
 have hM:Mt A' K n m:=by
  refine ⟨h.len,fun i hi=> ?_,h.inj⟩
  by_cases he:i=j
  ·subst he;exact ⟨hr.mine,by rw [hr.get];exact hl⟩
  ·have hne:(gd (Row.no UInt8) K i).id≠(gd (Row.no UInt8) K j).id:=fun e=>he (h.inj i j hi hj e)
   obtain ⟨⟨q1,q2,q3⟩,q4⟩:=h.row i hi
   rw [hr.lk _ hne]
   exact ⟨⟨q1,(hr.has _ hne).2 q2,by rw [hr.lk _ hne];exact q3⟩,q4⟩
 refine ⟨hM,ext_gd (d:=[]) (by simp [vw_len]) fun i hi=> ?_⟩
 rw [vw_len,h.len] at hi
 rw [vw_gd hM hi,gd_set1]
 by_cases he:j=i
 ·subst he;rw [if_pos ⟨rfl,by rw [vw_len,h.len];exact hj⟩,hr.get]
 ·rw [if_neg (fun hh=>he hh.1),vw_gd h hi]
  exact hr.lk _ fun e=>he (h.inj i j hi hj e).symm
theorem Mt.swap {A:ArL} {K:RwL} {n m d i:Nat} (h:Mt A K n m) (hd:d<n) (hi:i<n):Mt A ((K.set d (gd (Row.no UInt8) K i)).set i (gd (Row.no UInt8) K d)) n m∧vw A ((K.set d (gd (Row.no UInt8) K i)).set i (gd (Row.no UInt8) K d))=swapL (vw A K) d i:=by
 have hl:=h.len
 have hg:∀j,gd (Row.no UInt8) ((K.set d (gd (Row.no UInt8) K i)).set i (gd (Row.no UInt8) K d)) j=gd (Row.no UInt8) K (if i=j then d else if d=j then i else j):=fun j=>by
  rw [gd_set1,gd_set1,List.length_set]
  by_cases h1:i=j
  ·rw [if_pos ⟨h1,by omega⟩,if_pos h1]
  ·rw [if_neg (fun hh=>h1 hh.1),if_neg h1]
   by_cases h2:d=j
   ·rw [if_pos ⟨h2,by omega⟩,if_pos h2]
   ·rw [if_neg (fun hh=>h2 hh.1),if_neg h2]
 have hs:∀j,j<n→(if i=j then d else if d=j then i else j)<n:=fun j hj=>by (repeat' split)<;>omega
 have hM:Mt A ((K.set d (gd (Row.no UInt8) K i)).set i (gd (Row.no UInt8) K d)) n m:=by
  refine ⟨by simp [hl],fun j hj=>by rw [hg];exact h.row _ (hs j hj),fun j k hj hk e=> ?_⟩
  rw [hg,hg] at e
  have:=h.inj _ _ (hs j hj) (hs k hk) e
  revert this
  (repeat' split)<;>omega
 refine ⟨hM,ext_gd (d:=[]) (by simp [vw_len,swapL]) fun j hj=> ?_⟩
 have hj':j<n:=by rw [vw_len] at hj;simp at hj;omega
 rw [vw_gd hM hj',hg,swapL_row h.rect hd hi]
 by_cases h1:i=j
 ·rw [if_pos h1]
  by_cases h2:j=d
  ·rw [if_pos h2,vw_gd h hi];congr 2;rw [h1,h2]
  ·rw [if_neg h2,if_pos h1.symm,vw_gd h hd]
 ·rw [if_neg h1]
  by_cases h2:d=j
  ·rw [if_pos h2,if_pos h2.symm,vw_gd h hi]
  ·rw [if_neg h2,if_neg (fun e=>h2 e.symm),if_neg (fun e=>h1 e.symm),vw_gd h hj']
theorem RowR.start {A:ArL} {r:Row UInt8} (h:r.mine A):RowR A A r (lkA A r.id):=⟨h,rfl,fun _ _=>Iff.rfl,fun _ _=>rfl⟩
theorem RowR.put {A0 A:ArL} {r:Row UInt8} {xs ys:List UInt8} (h:RowR A0 A r xs) (hl:ys.length=xs.length):RowR A0 ((r.id,ys)::A) r ys:=by
 have hg:=h.mine.get.2
 rw [h.get] at hg
 refine ⟨mine_put h.mine (by omega),by rw [lkA_cons,if_pos rfl],fun id hid=> ?_,fun id hid=> ?_⟩
 ·rw [hasA_cons, ←h.has id hid];exact ⟨fun hh=>hh.resolve_left hid, .inr⟩
 ·rw [lkA_cons,if_neg hid];exact h.lk id hid
theorem scTo_len {r:List UInt8} {f:UInt8} {k:Nat}:(scTo r f k).length=r.length:=by simp [scTo];omega
theorem scTo_gd {r:List UInt8} {f:UInt8} {k j:Nat} (hj:j<r.length):gd 0 (scTo r f k) j=if j<k then gmul (gd 0 r j) f else gd 0 r j:=by
 unfold scTo gd
 by_cases h:j<k
 ·rw [if_pos h,List.getElem?_append_left (by simp;omega),List.getElem?_map,List.getElem?_take_of_lt h,List.getElem?_eq_getElem hj];rfl
 ·rw [if_neg h,List.getElem?_append_right (by simp;omega)]
  simp only [List.length_map,List.length_take,List.getElem?_drop]
  congr 2;omega
theorem scTo_zero {r:List UInt8} {f:UInt8}:scTo r f 0=r:=by simp [scTo]
theorem scTo_step {r:List UInt8} {f:UInt8} {k:Nat} (hk:k<r.length):(scTo r f k).set k (gmul (gd 0 (scTo r f k) k) f)=scTo r f (k+1):=by
 refine ext_gd (d:=0) (by simp [scTo_len]) fun j hj=> ?_
 rw [List.length_set,scTo_len] at hj
 rw [gd_set1,scTo_len,scTo_gd hk,if_neg (Nat.lt_irrefl k),scTo_gd hj,scTo_gd hj]
 by_cases h:k=j
 ·subst h;rw [if_pos ⟨rfl,hk⟩,if_pos (by omega)]
 ·rw [if_neg (fun hh=>h hh.1)]
  by_cases h2:j<k
  ·rw [if_pos h2,if_pos (by omega)]
  ·rw [if_neg h2,if_neg (by omega)]
theorem scTo_end {r:List UInt8} {f:UInt8} {k:Nat} (hk:r.length≤k):scTo r f k=scaleL r f:=by
 unfold scTo scaleL;rw [List.take_of_length_le hk,List.drop_eq_nil_of_le hk,List.append_nil]
theorem adTo_len {r q:List UInt8} {f:UInt8} {k:Nat} (h:q.length=r.length):(adTo r q f k).length=r.length:=by simp [adTo];omega
theorem adTo_gd {r q:List UInt8} {f:UInt8} {k j:Nat} (h:q.length=r.length) (hj:j<r.length):gd 0 (adTo r q f k) j=if j<k then gd 0 r j^^^gmul f (gd 0 q j) else gd 0 r j:=by
 unfold adTo gd
 by_cases hk:j<k
 ·rw [if_pos hk,List.getElem?_append_left (by simp;omega),List.getElem?_zipWith,List.getElem?_take_of_lt hk,List.getElem?_take_of_lt hk,List.getElem?_eq_getElem hj,List.getElem?_eq_getElem (by rw [h];exact hj)];rfl
 ·rw [if_neg hk,List.getElem?_append_right (by simp;omega)]
  simp only [List.length_zipWith,List.length_take,List.getElem?_drop]
  congr 2;omega
theorem adTo_zero {r q:List UInt8} {f:UInt8}:adTo r q f 0=r:=by simp [adTo]
theorem adTo_step {r q:List UInt8} {f:UInt8} {k:Nat} (h:q.length=r.length) (hk:k<r.length):(adTo r q f k).set k (gd 0 (adTo r q f k) k^^^gmul f (gd 0 q k))=adTo r q f (k+1):=by
 refine ext_gd (d:=0) (by simp [adTo_len h]) fun j hj=> ?_
 rw [List.length_set,adTo_len h] at hj
 rw [gd_set1,adTo_len h,adTo_gd h hk,if_neg (Nat.lt_irrefl k),adTo_gd h hj,adTo_gd h hj]
 by_cases h1:k=j
 ·subst h1;rw [if_pos ⟨rfl,hk⟩,if_pos (by omega)]
 ·rw [if_neg (fun hh=>h1 hh.1)]
  by_cases h2:j<k
  ·rw [if_pos h2,if_pos (by omega)]
  ·rw [if_neg h2,if_neg (by omega)]
theorem adTo_end {r q:List UInt8} {f:UInt8} {k:Nat} (h:q.length=r.length) (hk:r.length≤k):adTo r q f k=addL r q f:=by
 unfold adTo addL;rw [List.take_of_length_le hk,List.take_of_length_le (by omega),List.drop_eq_nil_of_le hk,List.append_nil]
theorem offTo_gd {M:List (List UInt8)} {c d k i:Nat} (hi:i<M.length):gd [] (offTo M c d k) i=if i≠d∧i<k then addL (gd [] M i) (gd [] M d) (gd 0 (gd [] M i) c) else gd [] M i:=by
 unfold offTo
 show ((List.map _ _)[i]?).getD []=_
 rw [List.getElem?_map,List.getElem?_range hi];rfl
theorem offTo_len {M:List (List UInt8)} {c d k:Nat}:(offTo M c d k).length=M.length:=by simp [offTo]
theorem offTo_zero {M:List (List UInt8)} {c d:Nat}:offTo M c d 0=M:=ext_gd (d:=[]) offTo_len fun i hi=>by rw [offTo_len] at hi;rw [offTo_gd hi,if_neg (by omega)]
theorem offTo_same {M:List (List UInt8)} {c d:Nat}:offTo M c d (d+1)=offTo M c d d:=ext_gd (d:=[]) (by rw [offTo_len,offTo_len]) fun i hi=>by
 rw [offTo_len] at hi
 rw [offTo_gd hi,offTo_gd hi]
 by_cases h:i≠d∧i<d
 ·rw [if_pos h,if_pos (by omega)]
 ·rw [if_neg h,if_neg (by omega)]
theorem offTo_step {M:List (List UInt8)} {c d k:Nat} (hk:k<M.length) (hd:k≠d):(offTo M c d k).set k (addL (gd [] M k) (gd [] M d) (gd 0 (gd [] M k) c))=offTo M c d (k+1):=ext_gd (d:=[]) (by simp [offTo_len]) fun i hi=>by
 rw [List.length_set,offTo_len] at hi
 rw [gd_set1,offTo_len,offTo_gd hi,offTo_gd hi]
 by_cases h:k=i
 ·subst h;rw [if_pos ⟨rfl,hk⟩,if_pos (by omega)]
 ·rw [if_neg (fun hh=>h hh.1)]
  by_cases h2:i≠d∧i<k
  ·rw [if_pos h2,if_pos (by omega)]
  ·rw [if_neg h2,if_neg (by omega)]
theorem offTo_end {M:List (List UInt8)} {c d k:Nat} (hk:M.length≤k):offTo M c d k=offL M c d:=by
 refine ext_gd (d:=[]) (by simp [offTo_len,offL]) fun i hi=> ?_
 rw [offTo_len] at hi
 rw [offTo_gd hi]
 unfold offL
 show _=((List.map _ _)[i]?).getD []
 rw [List.getElem?_map,List.getElem?_range hi]
 show _=if i=d then _ else _
 by_cases h:i=d
 ·rw [if_pos h,if_neg (by omega),h]
 ·rw [if_neg h,if_pos (by omega)]
theorem findR_at {M:List (List UInt8)} {c:Nat}:∀{f d x:Nat},(∀j,j<x→gd 0 (gd [] M (d+j)) c=0)→gd 0 (gd [] M (d+x)) c≠0→x<f→findR M c d f=some (d+x)
 |0,d,x,_,_,h=>by omega
 |f+1,d,0,_,h2,_=>by unfold findR;rw [if_pos (by simpa using h2)];rfl
 |f+1,d,x+1,h1,h2,h3=>by
  unfold findR
  rw [if_neg (by have:=h1 0 (by omega);simpa using this),findR_at (x:=x) (fun j hj=>by have:=h1 (j+1) (by omega);rw [show d+1+j=d+(j+1) by omega];exact this) (by rw [show d+1+x=d+(x+1) by omega];exact h2) (by omega)]
  congr 1;omega
theorem findR_no {M:List (List UInt8)} {c:Nat}:∀{f d:Nat},(∀j,j<f→gd 0 (gd [] M (d+j)) c=0)→findR M c d f=none
 |0,d,_=>rfl
 |f+1,d,h=>by
  unfold findR
  rw [if_neg (by have:=h 0 (by omega);simpa using this)]
  exact findR_no fun j hj=>by have:=h (j+1) (by omega);rw [show d+1+j=d+(j+1) by omega];exact this
theorem invN_ne {x:UInt8} (h:x≠0):invN x=ginv x:=by unfold invN;rw [if_neg h]
def k_88:Con Tc Tc.dn:=⟨88,[.ty .lU8, .ptr .cInt],fun x=>(fun (r:(List UInt8)) (c:Int)=>0≤c∧c<r.length) x.1 x.2.1,[.cBool],fun x=>(fun (r:(List UInt8)) (c:Int)=>decide (gd 0 r c.toNat≠0)) x.1 x.2.1⟩
theorem k_88_v (r:(List UInt8)) (c:Int) (hp:0≤c∧c<r.length):((0:Int)≤c∧c<(↑r.length:Int))∧(!gd (0:UInt8) r c.toNat==UInt8.ofNat (Int.toNat (0:Int)))=decide (gd (0:UInt8) r c.toNat≠(0:UInt8)):=by
 (repeat' (first|apply And.intro|intro _))<;>first|assumption|trivial|omega|(grind [])|trace_state
theorem k_88_ok:k_88.Ok Try.prog tB:=con_ok tB_ok (Δ:=[]) trivial (Ω:=[]) trivial k_88 F88_ok F88_call (fun _=>[]) (fun _=>trivial) 0 (fun x=>(fun (r:(List UInt8)) (c:Int)=>(fun _=>none)) x.1 x.2.1) fun x hp=>Eq.mp (by kernel_rfl) (k_88_v x.1 x.2.1 hp)
open Go.RowKit
theorem clear_vc (cols:Int) (KI:RwL) (AI:ArL) (Q:Int→RwL→ArL→Prop) (h0:ClI 0 0 cols KI AI 0 0 cols KI AI) (hQ:∀d K A,0≤d→(∃m:Nat,Mt A K KI.length m∧cols≤m)→clrL cols.toNat (vw AI KI) 0 0=(vw A K,d.toNat)→Q d K A):
 ClI (0:Int) (0:Int) cols KI AI (0:Int) (0:Int) cols KI AI∧∀(x x_3 x_4:Int) (x_5:List (Row UInt8)) (x_6:List (Nat×List UInt8)),ClI (0:Int) (0:Int) cols KI AI x x_3 x_4 x_5 x_6→(x<cols→((0:Int)≤x_3∧x_3≤(↑x_5.length:Int))∧IxI (0:Int) (x_3.toNat,(↑x_5.length:Int).toNat - x_3.toNat) x x_5 x_6 (0:Int) (x_3.toNat,(↑x_5.length:Int).toNat - x_3.toNat) x x_5 x_6∧∀(x_7:Int) (x_8:Nat×Nat) (x_9:Int) (x_10:List (Row UInt8)) (x_11:List (Nat×List UInt8)),IxI (0:Int) (x_3.toNat,(↑x_5.length:Int).toNat - x_3.toNat) x x_5 x_6 x_7 x_8 x_9 x_10 x_11→(x_7<(↑((↑x_5.length:Int).toNat - x_3.toNat):Int)→((0:Int)≤x_7∧x_7<(↑x_8.snd:Int))∧x_8.fst+x_7.toNat<x_10.length∧(gd (Row.no UInt8) x_10 (x_8.fst+x_7.toNat)).ok x_11∧(gd (Row.no UInt8) x_10 (x_8.fst+x_7.toNat)).kd≠RK.nil∧((0:Int)≤x_9∧x_9<(↑((gd (Row.no UInt8) x_10 (x_8.fst+x_7.toNat)).get x_11).length:Int))∧(decide (gd (0:UInt8) ((gd (Row.no UInt8) x_10 (x_8.fst+x_7.toNat)).get x_11) x_9.toNat≠(0:UInt8))=true→(x_7<(0:Int)→I64 (x+(1:Int))∧ClI (0:Int) (0:Int) cols KI AI (x+(1:Int)) x_3 x_4 x_10 x_11∧(x_4 - (x+(1:Int))).toNat<(x_4 - x).toNat)∧((0:Int)≤x_7→I64 (x_3+x_7)∧I64 (x_3+x_7)∧((0:Int)≤x_3+x_7∧x_3+x_7<(↑x_10.length:Int))∧(x_3+x_7).toNat<x_10.length∧((0:Int)≤x_3∧x_3<(↑x_10.length:Int))∧x_3.toNat<x_10.length∧((0:Int)≤x_3∧x_3<(↑x_10.length:Int))∧x_3.toNat<x_10.length∧((0:Int)≤x_3+x_7∧x_3+x_7<(↑(x_10.set x_3.toNat (gd (Row.no UInt8) x_10 (x_3+x_7).toNat)).length:Int))∧(x_3+x_7).toNat<(x_10.set x_3.toNat (gd (Row.no UInt8) x_10 (x_3+x_7).toNat)).length∧((0:Int)≤x_3∧x_3<(↑((x_10.set x_3.toNat (gd (Row.no UInt8) x_10 (x_3+x_7).toNat)).set (x_3+x_7).toNat (gd (Row.no UInt8) x_10 x_3.toNat)).length:Int))∧x_3.toNat<((x_10.set x_3.toNat (gd (Row.no UInt8) x_10 (x_3+x_7).toNat)).set (x_3+x_7).toNat (gd (Row.no UInt8) x_10 x_3.toNat)).length∧(gd (Row.no UInt8) ((x_10.set x_3.toNat (gd (Row.no UInt8) x_10 (x_3+x_7).toNat)).set (x_3+x_7).toNat (gd (Row.no UInt8) x_10 x_3.toNat)) x_3.toNat).ok x_11∧((0:Int)≤x_9∧x_9<(↑((gd (Row.no UInt8) ((x_10.set x_3.toNat (gd (Row.no UInt8) x_10 (x_3+x_7).toNat)).set (x_3+x_7).toNat (gd (Row.no UInt8) x_10 x_3.toNat)) x_3.toNat).get x_11).length:Int))∧(gd (Row.no UInt8) ((x_10.set x_3.toNat (gd (Row.no UInt8) x_10 (x_3+x_7).toNat)).set (x_3+x_7).toNat (gd (Row.no UInt8) x_10 x_3.toNat)) x_3.toNat).ok x_11∧x_9.toNat<((gd (Row.no UInt8) ((x_10.set x_3.toNat (gd (Row.no UInt8) x_10 (x_3+x_7).toNat)).set (x_3+x_7).toNat (gd (Row.no UInt8) x_10 x_3.toNat)) x_3.toNat).get x_11).length∧True∧((0:Int)≤x_3∧x_3<(↑((x_10.set x_3.toNat (gd (Row.no UInt8) x_10 (x_3+x_7).toNat)).set (x_3+x_7).toNat (gd (Row.no UInt8) x_10 x_3.toNat)).length:Int))∧x_3.toNat<((x_10.set x_3.toNat (gd (Row.no UInt8) x_10 (x_3+x_7).toNat)).set (x_3+x_7).toNat (gd (Row.no UInt8) x_10 x_3.toNat)).length∧(gd (Row.no UInt8) ((x_10.set x_3.toNat (gd (Row.no UInt8) x_10 (x_3+x_7).toNat)).set (x_3+x_7).toNat (gd (Row.no UInt8) x_10 x_3.toNat)) x_3.toNat).ok x_11∧ScI (0:Int) x_3 (invN (gd (0:UInt8) ((gd (Row.no UInt8) ((x_10.set x_3.toNat (gd (Row.no UInt8) x_10 (x_3+x_7).toNat)).set (x_3+x_7).toNat (gd (Row.no UInt8) x_10 x_3.toNat)) x_3.toNat).get x_11) x_9.toNat)) ((x_10.set x_3.toNat (gd (Row.no UInt8) x_10 (x_3+x_7).toNat)).set (x_3+x_7).toNat (gd (Row.no UInt8) x_10 x_3.toNat)) x_11 (0:Int) x_3 (invN (gd (0:UInt8) ((gd (Row.no UInt8) ((x_10.set x_3.toNat (gd (Row.no UInt8) x_10 (x_3+x_7).toNat)).set (x_3+x_7).toNat (gd (Row.no UInt8) x_10 x_3.toNat)) x_3.toNat).get x_11) x_9.toNat)) ((x_10.set x_3.toNat (gd (Row.no UInt8) x_10 (x_3+x_7).toNat)).set (x_3+x_7).toNat (gd (Row.no UInt8) x_10 x_3.toNat)) x_11∧∀(x_12 x_13:Int) (x_14:UInt8) (x_15:List (Row UInt8)) (x_16:List (Nat×List UInt8)),ScI (0:Int) x_3 (invN (gd (0:UInt8) ((gd (Row.no UInt8) ((x_10.set x_3.toNat (gd (Row.no UInt8) x_10 (x_3+x_7).toNat)).set (x_3+x_7).toNat (gd (Row.no UInt8) x_10 x_3.toNat)) x_3.toNat).get x_11) x_9.toNat)) ((x_10.set x_3.toNat (gd (Row.no UInt8) x_10 (x_3+x_7).toNat)).set (x_3+x_7).toNat (gd (Row.no UInt8) x_10 x_3.toNat)) x_11 x_12 x_13 x_14 x_15 x_16→(x_12<(↑((gd (Row.no UInt8) ((x_10.set x_3.toNat (gd (Row.no UInt8) x_10 (x_3+x_7).toNat)).set (x_3+x_7).toNat (gd (Row.no UInt8) x_10 x_3.toNat)) x_3.toNat).get x_11).length:Int)→((0:Int)≤x_13∧x_13<(↑x_15.length:Int))∧x_13.toNat<x_15.length∧((0:Int)≤x_13∧x_13<(↑x_15.length:Int))∧x_13.toNat<x_15.length∧(gd (Row.no UInt8) x_15 x_13.toNat).ok x_16∧((0:Int)≤x_12∧x_12<(↑((gd (Row.no UInt8) x_15 x_13.toNat).get x_16).length:Int))∧(gd (Row.no UInt8) x_15 x_13.toNat).ok x_16∧x_12.toNat<((gd (Row.no UInt8) x_15 x_13.toNat).get x_16).length∧True∧(gd (Row.no UInt8) x_15 x_13.toNat).ok x_16∧((0:Int)≤x_12∧x_12<(↑((gd (Row.no UInt8) x_15 x_13.toNat).get x_16).length:Int))∧(gd (Row.no UInt8) x_15 x_13.toNat).mine x_16∧x_12.toNat<((gd (Row.no UInt8) x_15 x_13.toNat).get x_16).length∧I64 (x_12+(1:Int))∧ScI (0:Int) x_3 (invN (gd (0:UInt8) ((gd (Row.no UInt8) ((x_10.set x_3.toNat (gd (Row.no UInt8) x_10 (x_3+x_7).toNat)).set (x_3+x_7).toNat (gd (Row.no UInt8) x_10 x_3.toNat)) x_3.toNat).get x_11) x_9.toNat)) ((x_10.set x_3.toNat (gd (Row.no UInt8) x_10 (x_3+x_7).toNat)).set (x_3+x_7).toNat (gd (Row.no UInt8) x_10 x_3.toNat)) x_11 (x_12+(1:Int)) x_13 x_14 x_15 (((gd (Row.no UInt8) x_15 x_13.toNat).id,((gd (Row.no UInt8) x_15 x_13.toNat).get x_16).set x_12.toNat (gmul (gd (0:UInt8) ((gd (Row.no UInt8) x_15 x_13.toNat).get x_16) x_12.toNat) x_14))::x_16)∧((↑(lkA x_11 (rAt x_15 x_13).id).length:Int) - (x_12+(1:Int))).toNat<((↑(lkA x_11 (rAt x_15 x_13).id).length:Int) - x_12).toNat)∧((↑((gd (Row.no UInt8) ((x_10.set x_3.toNat (gd (Row.no UInt8) x_10 (x_3+x_7).toNat)).set (x_3+x_7).toNat (gd (Row.no UInt8) x_10 x_3.toNat)) x_3.toNat).get x_11).length:Int)≤x_12→OfI (0:Int) x x_3 x_15 x_16 (0:Int) x x_3 x_15 x_16∧∀(x_17 x_18 x_19:Int) (x_20:List (Row UInt8)) (x_21:List (Nat×List UInt8)),OfI (0:Int) x x_3 x_15 x_16 x_17 x_18 x_19 x_20 x_21→(x_17<(↑x_15.length:Int)→(¬x_17=x_19→((0:Int)≤x_17∧x_17<(↑x_20.length:Int))∧x_17.toNat<x_20.length∧(gd (Row.no UInt8) x_20 x_17.toNat).ok x_21∧((0:Int)≤x_9∧x_9<(↑((gd (Row.no UInt8) x_20 x_17.toNat).get x_21).length:Int))∧(gd (Row.no UInt8) x_20 x_17.toNat).ok x_21∧x_9.toNat<((gd (Row.no UInt8) x_20 x_17.toNat).get x_21).length∧((0:Int)≤x_19∧x_19<(↑x_20.length:Int))∧x_19.toNat<x_20.length∧(gd (Row.no UInt8) x_20 x_19.toNat).ok x_21∧AdI (0:Int) x_17 x_19 (gd (0:UInt8) ((gd (Row.no UInt8) x_20 x_17.toNat).get x_21) x_9.toNat) x_20 x_21 (0:Int) x_17 x_19 (gd (0:UInt8) ((gd (Row.no UInt8) x_20 x_17.toNat).get x_21) x_9.toNat) x_20 x_21∧∀(x_22 x_23 x_24:Int) (x_25:UInt8) (x_26:List (Row UInt8)) (x_27:List (Nat×List UInt8)),AdI (0:Int) x_17 x_19 (gd (0:UInt8) ((gd (Row.no UInt8) x_20 x_17.toNat).get x_21) x_9.toNat) x_20 x_21 x_22 x_23 x_24 x_25 x_26 x_27→(x_22<(↑((gd (Row.no UInt8) x_20 x_19.toNat).get x_21).length:Int)→(gd (Row.no UInt8) x_20 x_19.toNat).ok x_27∧((0:Int)≤x_22∧x_22<(↑((gd (Row.no UInt8) x_20 x_19.toNat).get x_27).length:Int))∧(gd (Row.no UInt8) x_20 x_19.toNat).ok x_27∧x_22.toNat<((gd (Row.no UInt8) x_20 x_19.toNat).get x_27).length∧((0:Int)≤x_23∧x_23<(↑x_26.length:Int))∧x_23.toNat<x_26.length∧(gd (Row.no UInt8) x_26 x_23.toNat).ok x_27∧((0:Int)≤x_22∧x_22<(↑((gd (Row.no UInt8) x_26 x_23.toNat).get x_27).length:Int))∧(gd (Row.no UInt8) x_26 x_23.toNat).ok x_27∧x_22.toNat<((gd (Row.no UInt8) x_26 x_23.toNat).get x_27).length∧True∧(gd (Row.no UInt8) x_26 x_23.toNat).ok x_27∧((0:Int)≤x_22∧x_22<(↑((gd (Row.no UInt8) x_26 x_23.toNat).get x_27).length:Int))∧(gd (Row.no UInt8) x_26 x_23.toNat).mine x_27∧x_22.toNat<((gd (Row.no UInt8) x_26 x_23.toNat).get x_27).length∧I64 (x_22+(1:Int))∧AdI (0:Int) x_17 x_19 (gd (0:UInt8) ((gd (Row.no UInt8) x_20 x_17.toNat).get x_21) x_9.toNat) x_20 x_21 (x_22+(1:Int)) x_23 x_24 x_25 x_26 (((gd (Row.no UInt8) x_26 x_23.toNat).id,((gd (Row.no UInt8) x_26 x_23.toNat).get x_27).set x_22.toNat (gd (0:UInt8) ((gd (Row.no UInt8) x_26 x_23.toNat).get x_27) x_22.toNat^^^gmul x_25 (gd (0:UInt8) ((gd (Row.no UInt8) x_20 x_19.toNat).get x_27) x_22.toNat)))::x_27)∧((↑(lkA x_21 (rAt x_26 x_24).id).length:Int) - (x_22+(1:Int))).toNat<((↑(lkA x_21 (rAt x_26 x_24).id).length:Int) - x_22).toNat)∧((↑((gd (Row.no UInt8) x_20 x_19.toNat).get x_21).length:Int)≤x_22→I64 (x_17+(1:Int))∧OfI (0:Int) x x_3 x_15 x_16 (x_17+(1:Int)) x_18 x_19 x_26 x_27∧((↑x_26.length:Int) - (x_17+(1:Int))).toNat<((↑x_20.length:Int) - x_17).toNat))∧(x_17=x_19→I64 (x_17+(1:Int))∧OfI (0:Int) x x_3 x_15 x_16 (x_17+(1:Int)) x_18 x_19 x_20 x_21∧((↑x_20.length:Int) - (x_17+(1:Int))).toNat<((↑x_20.length:Int) - x_17).toNat))∧((↑x_15.length:Int)≤x_17→I64 (x_19+(1:Int))∧(x_19+(1:Int)=(↑x_20.length:Int)→Q (x_19+(1:Int)) x_20 x_21)∧(¬x_19+(1:Int)=(↑x_20.length:Int)→I64 (x_18+(1:Int))∧ClI (0:Int) (0:Int) cols KI AI (x_18+(1:Int)) (x_19+(1:Int)) x_4 x_20 x_21∧(x_4 - (x_18+(1:Int))).toNat<(x_4 - x).toNat)))))∧(decide (gd (0:UInt8) ((gd (Row.no UInt8) x_10 (x_8.fst+x_7.toNat)).get x_11) x_9.toNat≠(0:UInt8))=false→I64 (x_7+(1:Int))∧IxI (0:Int) (x_3.toNat,(↑x_5.length:Int).toNat - x_3.toNat) x x_5 x_6 (x_7+(1:Int)) x_8 x_9 x_10 x_11∧((↑x_8.snd:Int) - (x_7+(1:Int))).toNat<((↑x_8.snd:Int) - x_7).toNat))∧((↑((↑x_5.length:Int).toNat - x_3.toNat):Int)≤x_7→I64 (x+(1:Int))∧ClI (0:Int) (0:Int) cols KI AI (x+(1:Int)) x_3 x_4 x_10 x_11∧(x_4 - (x+(1:Int))).toNat<(x_4 - x).toNat))∧(cols≤x→Q (x_3) x_5 x_6):=by
 refine ⟨h0,fun c d cols' K A hI=> ?_⟩
 obtain ⟨c0,c1,ec,hcb,d0,d1,el,elb,⟨m,hM,hm,hmb⟩,hclr⟩:=hI
 subst ec
 refine ⟨fun hc=> ?_,fun hc=> ?_⟩
 case refine_2=>
  refine hQ d K A d0 ⟨m,by rw [←el];exact hM,hm⟩ ?_
  rw [←hclr,show (cols' - c).toNat=0 by omega];rfl
 have hML:(vw A K).length=K.length:=vw_len
 have hstep:(cols' - c).toNat=(cols' - (c+1)).toNat+1:=by omega
 have hc1:(c+1).toNat=c.toNat+1:=by omega
 have hd1:(d+1).toNat=d.toNat+1:=by omega
 refine ⟨⟨d0,by omega⟩,⟨Int.le_refl _,by simp,rfl,rfl,rfl,rfl,fun j hj=>by simp at hj⟩,fun k s cc K' A' hX=> ?_⟩
 obtain ⟨k0,k1,es,ecc,eK,eA,hz⟩:=hX
 subst es;subst ecc;subst eK;subst eA
 have hz2:∀j,j<k.toNat→gd 0 (gd [] (vw A' K') (d.toNat+j)) cc.toNat=0:=fun j hj=>by
  have:=hz j hj
  simp only at this k1
  rw [(hM.at (i:=d.toNat+j) (by omega)).2.2.1] at this
  exact this
 simp only at k1 hz
 refine ⟨fun hk=> ?_,fun hk=> ?_⟩
 case refine_2=>
  refine ⟨⟨by omega,by omega⟩,⟨by omega,by omega,rfl,hcb,d0,d1,el,elb,⟨m,hM,hm,hmb⟩, ?_⟩,by omega⟩
  rw [←hclr,hstep,hc1]
  show _=(match findR (vw A' K') cc.toNat d.toNat ((vw A' K').length - d.toNat) with
   |none=>_
   |some i0=>_)
  rw [findR_no (fun j hj=>hz2 j (by rw [hML] at hj;omega))]
 have hi:d.toNat+k.toNat<K'.length:=by omega
 have hik:(d+k).toNat=d.toNat+k.toNat:=by omega
 obtain ⟨a1,a2,a3,a4,a5⟩:=hM.at hi
 refine ⟨⟨k0,by omega⟩,hi,a2,a5,⟨c0,by rw [a4];omega⟩,fun hne=>⟨fun hneg=>absurd k0 (by omega),fun _=> ?_⟩,fun hne=> ?_⟩
 case refine_2=>
  refine ⟨⟨by omega,by omega⟩,⟨by omega,by simp only;omega,rfl,rfl,rfl,rfl,fun j hj=> ?_⟩,by simp only;omega⟩
  by_cases hjk:j<k.toNat
  ·exact hz j hjk
  ·have:j=k.toNat:=by omega
   subst this
   have:=of_decide_eq_false hne
   exact Classical.not_not.1 this
 have hne:=of_decide_eq_true hne
 rw [a3] at hne
 have hfind:findR (vw A' K') cc.toNat d.toNat ((vw A' K').length - d.toNat)=some (d.toNat+k.toNat):=findR_at hz2 hne (by rw [hML];omega)
 obtain ⟨hMs,hvs⟩:=hM.swap (d:=d.toNat) (i:=(d+k).toNat) (by omega) (by omega)
 generalize hZ:(K'.set d.toNat (gd (Row.no UInt8) K' (d+k).toNat)).set (d+k).toNat (gd (Row.no UInt8) K' d.toNat)=Z at hMs hvs ⊢
 have hZl:Z.length=K'.length:=by rw [←hZ];simp
 have hdz:d.toNat<K'.length:=by omega
 obtain ⟨b1,b2,b3,b4,b5⟩:=hMs.at hdz
 have hbz:(d.toNat:Int)<(Z.length:Int):=by omega
 refine ⟨⟨by omega,by omega⟩,⟨by omega,by omega⟩,⟨by omega,by omega⟩,by omega,⟨d0,by omega⟩,hdz,⟨d0,by omega⟩,hdz,⟨by omega,by rw [List.length_set];omega⟩,by rw [List.length_set];omega,⟨d0,by omega⟩,by omega,b2,⟨c0,by rw [b4];omega⟩,b2,by rw [b4];omega,trivial,⟨d0,by omega⟩,by omega,b2,⟨Int.le_refl _,rfl,rfl,rfl,d0,by omega, ?_,by omega⟩,fun k2 i f K3 A3 hS=> ?_⟩
 ·show RowR A' A' (gd (Row.no UInt8) Z d.toNat) (scTo _ _ 0)
  rw [scTo_zero];exact RowR.start b1
 obtain ⟨q0,eqi,eqf,eqK,q1,q2,hR,q3⟩:=hS
 subst eqi;subst eqK
 have hR:RowR A' A3 (gd (Row.no UInt8) K3 i.toNat) (scTo (lkA A' (gd (Row.no UInt8) K3 i.toNat).id) f k2.toNat):=hR
 have q3:k2≤((lkA A' (gd (Row.no UInt8) K3 i.toNat).id).length:Int):=q3
 have hrl:=b1.get.1
 rw [hrl] at b3 b4
 rw [b4] at q3
 have hg3:=hR.mine.get
 rw [hR.get] at hg3
 have hl3:((gd (Row.no UInt8) K3 i.toNat).get A3).length=m:=by rw [hg3.1,scTo_len,b4]
 have hfe:f=invN (gd 0 (lkA A' (gd (Row.no UInt8) K3 i.toNat).id) cc.toNat):=by rw [eqf,hrl]
 rw [←eqf,hrl,b4,hl3,hg3.1]
 refine ⟨fun hk2=> ?_,fun hk2=> ?_⟩
 ·refine ⟨⟨q1,by omega⟩,by omega,⟨q1,by omega⟩,by omega,hR.mine.ok,⟨q0,by omega⟩,hR.mine.ok,by omega,trivial,hR.mine.ok,⟨q0,by omega⟩,hR.mine,by omega,⟨by omega,by omega⟩,⟨by omega,rfl,rfl,rfl,q1,q2, ?_,by show k2+1≤((lkA A' (gd (Row.no UInt8) K3 i.toNat).id).length:Int);omega⟩,by omega⟩
  rw [scTo_step (by omega),show k2.toNat+1=(k2+1).toNat by omega]
  exact hR.put (by rw [scTo_len,scTo_len])
 rw [scTo_end (by omega)] at hR
 obtain ⟨hM3,hv3⟩:=hMs.put hdz hR (by simp [scaleL,b4])
 have hrow:gd [] (swapL (vw A' K') i.toNat (i.toNat+k.toNat)) i.toNat=lkA A' (gd (Row.no UInt8) K3 i.toNat).id:=by rw [←vw_gd hMs hdz,hvs,hik]
 have hent:gd 0 (lkA A' (gd (Row.no UInt8) K3 i.toNat).id) cc.toNat≠0:=by
  rw [←hrow,swapL_row hM.rect hdz hi,if_pos rfl];exact hne
 have hone:vw A3 K3=oneL (swapL (vw A' K') i.toNat (i.toNat+k.toNat)) cc.toNat i.toNat:=by
  unfold oneL
  rw [hv3,hfe,invN_ne hent,hrow,hvs,hik]
 refine ⟨⟨Int.le_refl _,by omega,rfl,rfl,rfl,⟨m,by rw [hZl];exact hM3,by rw [hZl];exact hM3,by omega,hmb⟩,offTo_zero.symm⟩,fun k3 c2 d2 K4 A4 hO=> ?_⟩
 obtain ⟨p0,p1,ec2,ed2,eK4,⟨m',hMa,hMb,hcm,hmb'⟩,hv4⟩:=hO
 subst ec2;subst ed2;subst eK4
 have hl4:K4.length=K'.length:=hZl
 rw [hl4] at hMa hMb p1
 have hM3l:(vw A3 K4).length=K'.length:=by rw [vw_len,hl4]
 rw [hl4]
 refine ⟨fun hk3=>⟨fun hkd=> ?_,fun hkd=> ?_⟩,fun hk3=> ?_⟩
 ·have hkt:k3.toNat<K'.length:=by omega
  have hkn:k3.toNat≠d2.toNat:=fun e=>hkd (by omega)
  obtain ⟨e1,e2,e3,e4,e5⟩:=hMb.at hkt
  obtain ⟨g1,g2,g3,g4,g5⟩:=hMb.at hdz
  have el1:=(hMb.row _ hkt).2
  have el2:=(hMb.row _ hdz).2
  refine ⟨⟨p0,by omega⟩,by omega,e2,⟨c0,by rw [e4];omega⟩,e2,by rw [e4];omega,⟨d0,by omega⟩,by omega,g2,⟨Int.le_refl _,rfl,rfl,rfl,rfl,p0,by omega,d0,by omega,fun e=>hkn (hMb.inj _ _ hdz hkt e).symm,g1,by show (lkA A4 (gd (Row.no UInt8) K4 d2.toNat).id).length=(lkA A4 (gd (Row.no UInt8) K4 k3.toNat).id).length;rw [el1,el2], ?_,by omega⟩,fun k5 t s f5 K5 A5 hA=> ?_⟩
  ·show RowR A4 A4 (gd (Row.no UInt8) K4 k3.toNat) (adTo _ _ _ 0)
   rw [adTo_zero];exact RowR.start e1
  obtain ⟨r0,et,es,ef,eK5,t0,t1,s0,s1,hidn,hsm,hsl,hR5,r3⟩:=hA
  subst et;subst es;subst eK5
  have hidn:(gd (Row.no UInt8) K5 s.toNat).id≠(gd (Row.no UInt8) K5 t.toNat).id:=hidn
  have hR5:RowR A4 A5 (gd (Row.no UInt8) K5 t.toNat) (adTo (lkA A4 (gd (Row.no UInt8) K5 t.toNat).id) (lkA A4 (gd (Row.no UInt8) K5 s.toNat).id) f5 k5.toNat):=hR5
  have r3:k5≤((lkA A4 (gd (Row.no UInt8) K5 s.toNat).id).length:Int):=r3
  have hql:(lkA A4 (gd (Row.no UInt8) K5 s.toNat).id).length=(lkA A4 (gd (Row.no UInt8) K5 t.toNat).id).length:=by rw [el1,el2]
  have hq:lkA A5 (gd (Row.no UInt8) K5 s.toNat).id=lkA A4 (gd (Row.no UInt8) K5 s.toNat).id:=hR5.lk _ hidn
  have hs5:(gd (Row.no UInt8) K5 s.toNat).mine A5:=⟨g1.1,(hR5.has _ hidn).2 g1.2.1,by rw [hq];exact g1.2.2⟩
  have hgs:=hs5.get.1
  rw [hq] at hgs
  have hgt:=hR5.mine.get
  rw [hR5.get] at hgt
  have hlt5:((gd (Row.no UInt8) K5 t.toNat).get A5).length=m':=by rw [hgt.1,adTo_len hql,el1]
  have hls5:((gd (Row.no UInt8) K5 s.toNat).get A5).length=m':=by rw [hgs,el2]
  rw [el2] at r3
  rw [g4,hlt5,hls5,hgt.1,hgs]
  refine ⟨fun hk5=> ?_,fun hk5=> ?_⟩
  ·refine ⟨hs5.ok,⟨r0,hk5⟩,hs5.ok,by omega,⟨t0,t1⟩,by omega,hR5.mine.ok,⟨r0,hk5⟩,hR5.mine.ok,by omega,trivial,hR5.mine.ok,⟨r0,hk5⟩,hR5.mine,by omega,⟨by omega,by omega⟩,⟨by omega,rfl,rfl,ef,rfl,t0,t1,s0,s1,hidn,g1,hql, ?_, ?_⟩, ?_⟩
   ·rw [adTo_step hql (by omega),show k5.toNat+1=(k5+1).toNat by omega]
    exact hR5.put (by rw [adTo_len hql,adTo_len hql])
   ·show k5+1≤((lkA A4 (gd (Row.no UInt8) K5 s.toNat).id).length:Int)
    omega
   ·show (((lkA A4 (gd (Row.no UInt8) K5 s.toNat).id).length:Int) - (k5+1)).toNat<(((lkA A4 (gd (Row.no UInt8) K5 s.toNat).id).length:Int) - k5).toNat
    omega
  ·rw [adTo_end hql (by omega)] at hR5
   obtain ⟨hM5,hv5⟩:=hMb.put hkt hR5 (by rw [addL_len hql.symm];exact el1)
   refine ⟨⟨by omega,by omega⟩,⟨by omega,by omega,rfl,rfl,rfl,⟨m',hl4▸hMa,hl4▸hM5,hcm,hmb'⟩, ?_⟩,by omega⟩
   have et1:lkA A4 (gd (Row.no UInt8) K5 t.toNat).id=gd [] (vw A3 K5) t.toNat:=by rw [←vw_gd hMb hkt,hv4,offTo_gd (by omega),if_neg (by omega)]
   have es1:lkA A4 (gd (Row.no UInt8) K5 s.toNat).id=gd [] (vw A3 K5) s.toNat:=by rw [←vw_gd hMb hdz,hv4,offTo_gd (by omega),if_neg (by omega)]
   rw [hv5,hv4,ef,e1.get.1,et1,es1,offTo_step (by omega) hkn,show t.toNat+1=(t+1).toNat by omega]
 ·refine ⟨⟨by omega,by omega⟩,⟨by omega,by omega,rfl,rfl,rfl,⟨m',hl4▸hMa,hl4▸hMb,hcm,hmb'⟩, ?_⟩,by omega⟩
  rw [hv4,hkd,hd1,offTo_same]
 ·have hend:vw A4 K4=pivL (vw A' K') c2.toNat d2.toNat (d2.toNat+k.toNat):=by
   unfold pivL
   rw [hv4,offTo_end (by omega),hone]
  have hun:clrL (cols' - c2).toNat (vw A' K') c2.toNat d2.toNat=if d2.toNat+1=(vw A' K').length then (vw A4 K4,d2.toNat+1) else clrL (cols' - (c2+1)).toNat (vw A4 K4) (c2+1).toNat (d2+1).toNat:=by
   rw [hstep,hc1,hd1,hend]
   show (match findR (vw A' K') c2.toNat d2.toNat ((vw A' K').length - d2.toNat) with
    |none=>_
    |some i0=>_)=_
   rw [hfind]
  refine ⟨⟨by omega,by omega⟩,fun hq=> ?_,fun hq=>⟨⟨by omega,by omega⟩,⟨by omega,by omega,rfl,hcb,by omega,by omega,by omega,by omega,⟨m',by rw [hl4];exact hMb, ?_,hmb'⟩, ?_⟩,by omega⟩⟩
  ·refine hQ _ _ _ (by omega) ⟨m',by rw [←el];exact hMb, ?_⟩ ?_
   ·have q1:=(hM3.row _ hdz).2
    have q2:=(hMa.row _ hdz).2
    omega
   ·rw [←hclr,hun,if_pos (by rw [hML];omega),hd1]
  ·have q1:=(hM3.row _ hdz).2
   have q2:=(hMa.row _ hdz).2
   omega
  ·rw [←hclr,hun,if_neg (by rw [hML];omega)]
open Go.RowKit
theorem FillI.mt {A:ArL} {K:RwL} {i m n:Int} {f:Nat→Nat→UInt8} (h:FillI A K i m n f) (hi:m≤i) (hm:0≤m):Mt A K K.length n.toNat:=by
 have hl:=h.len
 refine ⟨rfl,fun j hj=> ?_,fun j k hj hk e=>h.inj j k (by omega) (by omega) e⟩
 obtain ⟨q1,q2,q3⟩:=h.row j (by omega)
 exact ⟨q1,by rw [q3];simp⟩
theorem FillI.vw {A:ArL} {K:RwL} {i m n:Int} {f:Nat→Nat→UInt8} (h:FillI A K i m n f) (hi:m≤i) (hm:0≤m):Proofs.Ytboaekdecndckaa.vw A K=fillL m n f:=(h.fin hi hm).2
theorem ClI.start {A:ArL} {K:RwL} {i m n cols:Int} {f:Nat→Nat→UInt8} (h:FillI A K i m n f) (hi:m≤i) (hm:0<m∧m≤1000) (hn:0≤cols∧cols≤n∧n≤1000):ClI 0 0 cols K A 0 0 cols K A:=by
 have hl:=h.len
 exact ⟨Int.le_refl _,hn.1,rfl,by omega,Int.le_refl _,by omega,rfl,by omega,⟨n.toNat,h.mt hi (by omega),by omega,by omega⟩,by rw [Int.sub_zero];rfl⟩
open Go.RowKit
def fB (a:List (List UInt8)) (n i k:Nat):UInt8:=if k<n then gd 0 (gd [] a i) k else if k - n=i then 1 else 0
def fI (b:List (List UInt8)) (n i k:Nat):UInt8:=gd 0 (gd [] b i) (n+k)
def clI (a:List (List UInt8)):List (List UInt8)×Nat:=clrL a.length (fillL a.length (2*(a.length:Int)) (fB a a.length)) 0 0
def invL (a:List (List UInt8)):List (List UInt8)×Int:=
 if mchk a≠0 then ([],mchk a) else if a.length≠(gd [] a 0).length then ([],1) else if (clI a).2<a.length then ([],5) else (fillL a.length a.length (fI (clI a).1 a.length),0)
theorem clI_rect {a:List (List UInt8)} (h:0<a.length):Rect a.length (2*(a.length:Int)).toNat (clI a).1:=by
 have hr:Rect a.length (2*(a.length:Int)).toNat (fillL a.length (2*(a.length:Int)) (fB a a.length)):=by
  have:=fill_rect (m:=(a.length:Int)) (n:=2*(a.length:Int)) (f:=fB a a.length)
  rw [Int.toNat_natCast] at this
  exact this
 exact (clr_law a.length _ 0 0 _ hr (RE.refl a.length _) (ech_start a.length _) h).1
theorem fB_v {a:List (List UInt8)} {i k:Int} (hi:0≤i) (hk:0≤k):((if k<(a.length:Int) then gd 0 (gd [] a i.toNat) k.toNat else if k - (a.length:Int)=i then 1 else 0):UInt8)=fB a a.length i.toNat k.toNat:=by
 unfold fB
 by_cases h:k<((a.length:Nat):Int)
 ·have h2:k.toNat<a.length:=by omega
  rw [if_pos h,if_pos h2]
 ·have h2:¬k.toNat<a.length:=by omega
  rw [if_neg h,if_neg h2]
  by_cases h3:k - (a.length:Int)=i
  ·have h4:k.toNat - a.length=i.toNat:=by omega
   rw [if_pos h3,if_pos h4]
  ·have h4:¬k.toNat - a.length=i.toNat:=by omega
   rw [if_neg h3,if_neg h4]
theorem Mt.frz {A:ArL} {K:RwL} {n m:Nat} (h:Mt A K n m):∀r,r∈K→r.ok A∧r.kd≠RK.nil:=by
 intro r hr
 obtain ⟨i,hi,rfl⟩:=List.mem_iff_getElem.1 hr
 have e:gd (Row.no UInt8) K i=K[i]:=by unfold gd;rw [List.getElem?_eq_getElem hi];rfl
 have hm:=(h.row i (by rw [←h.len];exact hi)).1
 rw [e] at hm
 exact ⟨Row.mine.ok hm,by rw [hm.1];intro e;cases e⟩
def k_75:Con Tc Tc.dn:=⟨75,[.ty .cInt, .ty .cInt, .ptr .cInt, .ptr .llU8],fun x=>(fun (i:Int) (k:Int) (n:Int) (a:(List (List UInt8)))=>0≤i∧i<a.length∧0≤k∧0≤n∧n≤1000∧k≤2000∧n≤(gd [] a i.toNat).length) x.1 x.2.1 x.2.2.1 x.2.2.2.1,[.cU8],fun x=>(fun (i:Int) (k:Int) (n:Int) (a:(List (List UInt8)))=>if k<n then gd 0 (gd [] a i.toNat) k.toNat else if k - n=i then 1 else 0) x.1 x.2.1 x.2.2.1 x.2.2.2.1⟩
theorem k_75_v (i:Int) (k:Int) (n:Int) (a:(List (List UInt8))) (hp:0≤i∧i<a.length∧0≤k∧0≤n∧n≤1000∧k≤2000∧n≤(gd [] a i.toNat).length):(k<n→((0:Int)≤i∧i<(↑a.length:Int))∧((0:Int)≤k∧k<(↑(gd [] a i.toNat).length:Int))∧gd (0:UInt8) (gd [] a i.toNat) k.toNat=if k<n then gd (0:UInt8) (gd [] a i.toNat) k.toNat else if k - n=i then (1:UInt8) else (0:UInt8))∧(n≤k→I64 (k - n)∧(k - n=i→UInt8.ofNat (Int.toNat (1:Int))=if k<n then gd (0:UInt8) (gd [] a i.toNat) k.toNat else if k - n=i then (1:UInt8) else (0:UInt8))∧(¬k - n=i→UInt8.ofNat (Int.toNat (0:Int))=if k<n then gd (0:UInt8) (gd [] a i.toNat) k.toNat else if k - n=i then (1:UInt8) else (0:UInt8))):=by
 (repeat' (first|apply And.intro|intro _))<;>first|assumption|trivial|omega|(grind [I64])|trace_state
theorem k_75_ok:k_75.Ok Try.prog tB:=con_ok tB_ok (Δ:=[]) trivial (Ω:=[]) trivial k_75 F75_ok F75_call (fun _=>[]) (fun _=>trivial) 0 (fun x=>(fun (i:Int) (k:Int) (n:Int) (a:(List (List UInt8)))=>(fun _=>none)) x.1 x.2.1 x.2.2.1 x.2.2.2.1) fun x hp=>Eq.mp (by kernel_rfl) (k_75_v x.1 x.2.1 x.2.2.1 x.2.2.2.1 hp)
def k_77:Con Tc Tc.dn:=⟨77,[.ty .cInt, .ty .cInt, .ptr .llU8, .ptr .cInt],fun x=>(fun (i:Int) (k:Int) (b:(List (List UInt8))) (n:Int)=>0≤i∧i<b.length∧0≤k∧0≤n∧n≤1000∧n+k<(gd [] b i.toNat).length∧k≤1000) x.1 x.2.1 x.2.2.1 x.2.2.2.1,[.cU8],fun x=>(fun (i:Int) (k:Int) (b:(List (List UInt8))) (n:Int)=>gd 0 (gd [] b i.toNat) (n+k).toNat) x.1 x.2.1 x.2.2.1 x.2.2.2.1⟩
theorem k_77_v (i:Int) (k:Int) (b:(List (List UInt8))) (n:Int) (hp:0≤i∧i<b.length∧0≤k∧0≤n∧n≤1000∧n+k<(gd [] b i.toNat).length∧k≤1000):((0:Int)≤i∧i<(↑b.length:Int))∧I64 (n+k)∧((0:Int)≤n+k∧n+k<(↑(gd [] b i.toNat).length:Int))∧gd (0:UInt8) (gd [] b i.toNat) (n+k).toNat=gd (0:UInt8) (gd [] b i.toNat) (n+k).toNat:=by
 (repeat' (first|apply And.intro|intro _))<;>first|assumption|trivial|omega|(grind [I64])|trace_state
theorem k_77_ok:k_77.Ok Try.prog tB:=con_ok tB_ok (Δ:=[]) trivial (Ω:=[]) trivial k_77 F77_ok F77_call (fun _=>[]) (fun _=>trivial) 0 (fun x=>(fun (i:Int) (k:Int) (b:(List (List UInt8))) (n:Int)=>(fun _=>none)) x.1 x.2.1 x.2.2.1 x.2.2.2.1) fun x hp=>Eq.mp (by kernel_rfl) (k_77_v x.1 x.2.1 x.2.2.1 x.2.2.2.1 hp)
def i_32_35_1 (n:Int) (b:(List (List UInt8))) (q:Int) (k0:Int) (i0:Int) (K0:(List (Row UInt8))) (A0:(List (Nat×List UInt8))) (k:Int) (i:Int) (K:(List (Row UInt8))) (A:(List (Nat×List UInt8))):Prop:=0≤k∧k≤n∧K=K0∧i=i0∧FillR A0 A (gd (Row.no UInt8) K i.toNat) k n (fI b q.toNat i.toNat)
def i_32_35_0 (m:Int) (n:Int) (b:(List (List UInt8))) (q:Int) (i:Int) (K:(List (Row UInt8))) (A:(List (Nat×List UInt8))):Prop:=0≤i∧i≤m∧FillI A K i m n (fI b q.toNat)
def k_32_35:Con Tc Tc.dn:=⟨63,[.ty .cInt, .ty .cInt, .fnc 77 [(true, .llU8),(true, .cInt)]],fun x=>(fun (m:Int) (n:Int) (b:(List (List UInt8))) (q:Int)=>0≤m∧m≤64∧0≤n∧n≤64∧0≤q∧q≤64∧m≤b.length∧∀r,r∈b→q+n≤r.length) x.1 x.2.1 x.2.2.1.1 x.2.2.1.2.1,[.llU8],fun x=>(fun (m:Int) (n:Int) (b:(List (List UInt8))) (q:Int)=>fillL m n (fI b q.toNat)) x.1 x.2.1 x.2.2.1.1 x.2.2.1.2.1⟩
abbrev z32_35_0 (n:Int):=(List.replicate n.toNat (UInt8.ofNat (Int.toNat (0:Int))))
theorem k_32_35_v (m:Int) (n:Int) (b:(List (List UInt8))) (q:Int) (hp:0≤m∧m≤64∧0≤n∧n≤64∧0≤q∧q≤64∧m≤b.length∧∀r,r∈b→q+n≤r.length):((0:Int)≤m∧m≤m∧m*(↑(24:Nat):Int)≤(140737488355328:Int))∧i_32_35_0 m n b q (0:Int) (List.replicate m.toNat (Row.no UInt8)) []∧∀(x:Int) (x_1:List (Row UInt8)) (x_2:List (Nat×List UInt8)),i_32_35_0 m n b q x x_1 x_2→(x<(↑(List.replicate m.toNat (Row.no UInt8)).length:Int)→((0:Int)≤n∧n≤n∧n*(↑(1:Nat):Int)≤(140737488355328:Int))∧((0:Int)≤x∧x<(↑x_1.length:Int))∧∀(id:Nat),¬hasA x_2 id→x.toNat<x_1.length∧((0:Int)≤x∧x<(↑(x_1.set x.toNat (Row.at UInt8 id (z32_35_0 n).length)).length:Int))∧x.toNat<(x_1.set x.toNat (Row.at UInt8 id (z32_35_0 n).length)).length∧(gd (Row.no UInt8) (x_1.set x.toNat (Row.at UInt8 id (z32_35_0 n).length)) x.toNat).ok ((id,List.replicate n.toNat (UInt8.ofNat (Int.toNat (0:Int))))::x_2)∧i_32_35_1 n b q (0:Int) x (x_1.set x.toNat (Row.at UInt8 id (z32_35_0 n).length)) ((id,List.replicate n.toNat (UInt8.ofNat (Int.toNat (0:Int))))::x_2) (0:Int) x (x_1.set x.toNat (Row.at UInt8 id (z32_35_0 n).length)) ((id,List.replicate n.toNat (UInt8.ofNat (Int.toNat (0:Int))))::x_2)∧∀(x_3 x_4:Int) (x_5:List (Row UInt8)) (x_6:List (Nat×List UInt8)),i_32_35_1 n b q (0:Int) x (x_1.set x.toNat (Row.at UInt8 id (z32_35_0 n).length)) ((id,List.replicate n.toNat (UInt8.ofNat (Int.toNat (0:Int))))::x_2) x_3 x_4 x_5 x_6→(x_3<(↑((gd (Row.no UInt8) (x_1.set x.toNat (Row.at UInt8 id (z32_35_0 n).length)) x.toNat).get ((id,List.replicate n.toNat (UInt8.ofNat (Int.toNat (0:Int))))::x_2)).length:Int)→((0:Int)≤x_4∧x_4<(↑x_5.length:Int))∧x_4.toNat<x_5.length∧((0:Int)≤x_4∧x_4<(↑b.length:Int)∧(0:Int)≤x_3∧(0:Int)≤q∧q≤(1000:Int)∧q+x_3<(↑(gd [] b x_4.toNat).length:Int)∧x_3≤(1000:Int))∧(gd (Row.no UInt8) x_5 x_4.toNat).ok x_6∧((0:Int)≤x_3∧x_3<(↑((gd (Row.no UInt8) x_5 x_4.toNat).get x_6).length:Int))∧(gd (Row.no UInt8) x_5 x_4.toNat).mine x_6∧x_3.toNat<((gd (Row.no UInt8) x_5 x_4.toNat).get x_6).length∧I64 (x_3+(1:Int))∧i_32_35_1 n b q (0:Int) x (x_1.set x.toNat (Row.at UInt8 id (z32_35_0 n).length)) ((id,List.replicate n.toNat (UInt8.ofNat (Int.toNat (0:Int))))::x_2) (x_3+(1:Int)) x_4 x_5 (((gd (Row.no UInt8) x_5 x_4.toNat).id,((gd (Row.no UInt8) x_5 x_4.toNat).get x_6).set x_3.toNat (gd (0:UInt8) (gd [] b x_4.toNat) (q+x_3).toNat))::x_6)∧(n - (x_3+(1:Int))).toNat<(n - x_3).toNat)∧((↑((gd (Row.no UInt8) (x_1.set x.toNat (Row.at UInt8 id (z32_35_0 n).length)) x.toNat).get ((id,List.replicate n.toNat (UInt8.ofNat (Int.toNat (0:Int))))::x_2)).length:Int)≤x_3→I64 (x+(1:Int))∧i_32_35_0 m n b q (x+(1:Int)) x_5 x_6∧(m - (x+(1:Int))).toNat<(m - x).toNat))∧((↑(List.replicate m.toNat (Row.no UInt8)).length:Int)≤x→(∀(x:Row UInt8),x∈x_1→x.ok x_2∧x.kd≠RK.nil)∧List.map (fun x=>x.get x_2) x_1=fillL m n (fI b q.toNat)):=by
 delta z32_35_0
 exact filled_vc m n (fI b q.toNat) (fun i k=>gd 0 (gd [] b i.toNat) (q+k).toNat) (fun i k=>(0:Int)≤i∧i<(↑b.length:Int)∧(0:Int)≤k∧(0:Int)≤q∧q≤(1000:Int)∧q+k<(↑(gd [] b i.toNat).length:Int)∧k≤(1000:Int)) _ ⟨hp.1,hp.2.1,hp.2.2.1,hp.2.2.2.1⟩ (fun i k h1 h2 h3 h4=>⟨⟨h1,by omega,h3,by omega,by omega,by have:=hp.2.2.2.2.2.2.2 _ (gd_mem (d:=[]) (xs:=b) (i:=i.toNat) (by omega));omega,by omega⟩,by unfold fI;rw [show (q+k).toNat=q.toNat+k.toNat by omega]⟩) fun K A i hi h=>h.fin hi hp.1
theorem k_32_35_ok:k_32_35.Ok Try.prog tB:=con_ok tB_ok (Δ:=[k_77]) ⟨k_77_ok,trivial⟩ (Ω:=[]) trivial k_32_35 F63_ok F63_call (fun _=>[]) (fun _=>trivial) 0 (fun x=>(fun (m:Int) (n:Int) (b:(List (List UInt8))) (q:Int)=>(fun k=>bif Nat.beq k 0 then some (.inv [.sl 14 .cInt, .bl 1 .rU8, .ar .cU8] (fun zo zv=>(fun (i:Int) (K:(List (Row UInt8))) (A:(List (Nat×List UInt8)))=>i_32_35_0 m n b q i K A) zv.1 zv.2.1 zv.2.2.1) (fun zo zv=>(fun (i:Int) (K:(List (Row UInt8))) (A:(List (Nat×List UInt8)))=>(m - i).toNat) zv.1 zv.2.1 zv.2.2.1)) else bif Nat.beq k 1 then some (.inv [.sl 27 .cInt, .sl 8 .cInt, .bl 1 .rU8, .ar .cU8] (fun zo zv=>(fun (k0:Int) (i0:Int) (K0:(List (Row UInt8))) (A0:(List (Nat×List UInt8))) (k:Int) (i:Int) (K:(List (Row UInt8))) (A:(List (Nat×List UInt8)))=>i_32_35_1 n b q k0 i0 K0 A0 k i K A) zo.1 zo.2.1 zo.2.2.1 zo.2.2.2.1 zv.1 zv.2.1 zv.2.2.1 zv.2.2.2.1) (fun zo zv=>(fun (k0:Int) (i0:Int) (K0:(List (Row UInt8))) (A0:(List (Nat×List UInt8))) (k:Int) (i:Int) (K:(List (Row UInt8))) (A:(List (Nat×List UInt8)))=>(n - k).toNat) zo.1 zo.2.1 zo.2.2.1 zo.2.2.2.1 zv.1 zv.2.1 zv.2.2.1 zv.2.2.2.1)) else none)) x.1 x.2.1 x.2.2.1.1 x.2.2.1.2.1) fun x hp=>Eq.mp (by kernel_rfl) (k_32_35_v x.1 x.2.1 x.2.2.1.1 x.2.2.1.2.1 hp)
def i_58_63_75_1 (a:(List (List UInt8))) (k0:Int) (i0:Int) (K0:(List (Row UInt8))) (A0:(List (Nat×List UInt8))) (k:Int) (i:Int) (K:(List (Row UInt8))) (A:(List (Nat×List UInt8))):Prop:=0≤k∧k≤(2*(a.length:Int))∧K=K0∧i=i0∧FillR A0 A (gd (Row.no UInt8) K i.toNat) k (2*(a.length:Int)) (fB a a.length i.toNat)
def i_58_63_75_0 (a:(List (List UInt8))) (i:Int) (K:(List (Row UInt8))) (A:(List (Nat×List UInt8))):Prop:=0≤i∧i≤(a.length:Int)∧FillI A K i (a.length:Int) (2*(a.length:Int)) (fB a a.length)
def i_58_87_0 (k0:Int) (s0:(Nat×Nat)) (c0:Int) (K0:(List (Row UInt8))) (A0:(List (Nat×List UInt8))) (k:Int) (s:(Nat×Nat)) (c:Int) (K:(List (Row UInt8))) (A:(List (Nat×List UInt8))):Prop:=IxI k0 s0 c0 K0 A0 k s c K A
def i_58_89_0 (k0:Int) (i0:Int) (f0:UInt8) (K0:(List (Row UInt8))) (A0:(List (Nat×List UInt8))) (k:Int) (i:Int) (f:UInt8) (K:(List (Row UInt8))) (A:(List (Nat×List UInt8))):Prop:=ScI k0 i0 f0 K0 A0 k i f K A
def i_58_90_0 (k0:Int) (t0:Int) (s0:Int) (f0:UInt8) (K0:(List (Row UInt8))) (A0:(List (Nat×List UInt8))) (k:Int) (t:Int) (s:Int) (f:UInt8) (K:(List (Row UInt8))) (A:(List (Nat×List UInt8))):Prop:=AdI k0 t0 s0 f0 K0 A0 k t s f K A
def i_58_76_1 (k0:Int) (c0:Int) (d0:Int) (K0:(List (Row UInt8))) (A0:(List (Nat×List UInt8))) (k:Int) (c:Int) (d:Int) (K:(List (Row UInt8))) (A:(List (Nat×List UInt8))):Prop:=OfI k0 c0 d0 K0 A0 k c d K A
def i_58_76_0 (c0:Int) (d0:Int) (cols0:Int) (K0:(List (Row UInt8))) (A0:(List (Nat×List UInt8))) (c:Int) (d:Int) (cols:Int) (K:(List (Row UInt8))) (A:(List (Nat×List UInt8))):Prop:=ClI c0 d0 cols0 K0 A0 c d cols K A
def k_58:Con Tc Tc.dn:=⟨58,[.ty .llU8],fun x=>(fun (a:(List (List UInt8)))=>True) x.1,[.llU8, .cInt],fun x=>(fun (a:(List (List UInt8)))=>invL a) x.1⟩
abbrev z58_0 (a:(List (List UInt8))):=(List.replicate ((2:Int)*(↑a.length:Int)).toNat (UInt8.ofNat (Int.toNat (0:Int))))
theorem k_58_v (a:(List (List UInt8))):True∧(¬mchk a=(0:Int)→([],mchk a)=invL a)∧(mchk a=(0:Int)→((0:Int)≤(0:Int)∧(0:Int)<(↑a.length:Int))∧(¬(↑a.length:Int)=(↑(gd [] a (Int.toNat (0:Int))).length:Int)→([],(1:Int))=invL a)∧((↑a.length:Int)=(↑(gd [] a (Int.toNat (0:Int))).length:Int)→I64 ((2:Int)*(↑a.length:Int))∧((0:Int)≤(↑a.length:Int)∧(↑a.length:Int)≤(↑a.length:Int)∧(↑a.length:Int)*(↑(24:Nat):Int)≤(140737488355328:Int))∧i_58_63_75_0 a (0:Int) (List.replicate (↑a.length:Int).toNat (Row.no UInt8)) []∧∀(x:Int) (x_1:List (Row UInt8)) (x_2:List (Nat×List UInt8)),i_58_63_75_0 a x x_1 x_2→(x<(↑(List.replicate (↑a.length:Int).toNat (Row.no UInt8)).length:Int)→((0:Int)≤(2:Int)*(↑a.length:Int)∧(2:Int)*(↑a.length:Int)≤(2:Int)*(↑a.length:Int)∧(2:Int)*(↑a.length:Int)*(↑(1:Nat):Int)≤(140737488355328:Int))∧((0:Int)≤x∧x<(↑x_1.length:Int))∧∀(id:Nat),¬hasA x_2 id→x.toNat<x_1.length∧((0:Int)≤x∧x<(↑(x_1.set x.toNat (Row.at UInt8 id (z58_0 a).length)).length:Int))∧x.toNat<(x_1.set x.toNat (Row.at UInt8 id (z58_0 a).length)).length∧(gd (Row.no UInt8) (x_1.set x.toNat (Row.at UInt8 id (z58_0 a).length)) x.toNat).ok ((id,List.replicate ((2:Int)*(↑a.length:Int)).toNat (UInt8.ofNat (Int.toNat (0:Int))))::x_2)∧i_58_63_75_1 a (0:Int) x (x_1.set x.toNat (Row.at UInt8 id (z58_0 a).length)) ((id,List.replicate ((2:Int)*(↑a.length:Int)).toNat (UInt8.ofNat (Int.toNat (0:Int))))::x_2) (0:Int) x (x_1.set x.toNat (Row.at UInt8 id (z58_0 a).length)) ((id,List.replicate ((2:Int)*(↑a.length:Int)).toNat (UInt8.ofNat (Int.toNat (0:Int))))::x_2)∧∀(x_3 x_4:Int) (x_5:List (Row UInt8)) (x_6:List (Nat×List UInt8)),i_58_63_75_1 a (0:Int) x (x_1.set x.toNat (Row.at UInt8 id (z58_0 a).length)) ((id,List.replicate ((2:Int)*(↑a.length:Int)).toNat (UInt8.ofNat (Int.toNat (0:Int))))::x_2) x_3 x_4 x_5 x_6→(x_3<(↑((gd (Row.no UInt8) (x_1.set x.toNat (Row.at UInt8 id (z58_0 a).length)) x.toNat).get ((id,List.replicate ((2:Int)*(↑a.length:Int)).toNat (UInt8.ofNat (Int.toNat (0:Int))))::x_2)).length:Int)→((0:Int)≤x_4∧x_4<(↑x_5.length:Int))∧x_4.toNat<x_5.length∧((0:Int)≤x_4∧x_4<(↑a.length:Int)∧(0:Int)≤x_3∧(0:Int)≤(↑a.length:Int)∧(↑a.length:Int)≤(1000:Int)∧x_3≤(2000:Int)∧(↑a.length:Int)≤(↑(gd [] a x_4.toNat).length:Int))∧(gd (Row.no UInt8) x_5 x_4.toNat).ok x_6∧((0:Int)≤x_3∧x_3<(↑((gd (Row.no UInt8) x_5 x_4.toNat).get x_6).length:Int))∧(gd (Row.no UInt8) x_5 x_4.toNat).mine x_6∧x_3.toNat<((gd (Row.no UInt8) x_5 x_4.toNat).get x_6).length∧I64 (x_3+(1:Int))∧i_58_63_75_1 a (0:Int) x (x_1.set x.toNat (Row.at UInt8 id (z58_0 a).length)) ((id,List.replicate ((2:Int)*(↑a.length:Int)).toNat (UInt8.ofNat (Int.toNat (0:Int))))::x_2) (x_3+(1:Int)) x_4 x_5 (((gd (Row.no UInt8) x_5 x_4.toNat).id,((gd (Row.no UInt8) x_5 x_4.toNat).get x_6).set x_3.toNat (if x_3<(↑a.length:Int) then gd (0:UInt8) (gd [] a x_4.toNat) x_3.toNat else if x_3 - (↑a.length:Int)=x_4 then (1:UInt8) else (0:UInt8)))::x_6)∧((2:Int)*(↑a.length:Int) - (x_3+(1:Int))).toNat<((2:Int)*(↑a.length:Int) - x_3).toNat)∧((↑((gd (Row.no UInt8) (x_1.set x.toNat (Row.at UInt8 id (z58_0 a).length)) x.toNat).get ((id,List.replicate ((2:Int)*(↑a.length:Int)).toNat (UInt8.ofNat (Int.toNat (0:Int))))::x_2)).length:Int)≤x_3→I64 (x+(1:Int))∧i_58_63_75_0 a (x+(1:Int)) x_5 x_6∧((↑a.length:Int) - (x+(1:Int))).toNat<((↑a.length:Int) - x).toNat))∧((↑(List.replicate (↑a.length:Int).toNat (Row.no UInt8)).length:Int)≤x→i_58_76_0 (0:Int) (0:Int) (↑a.length:Int) x_1 x_2 (0:Int) (0:Int) (↑a.length:Int) x_1 x_2∧∀(x x_3 x_4:Int) (x_5:List (Row UInt8)) (x_6:List (Nat×List UInt8)),i_58_76_0 (0:Int) (0:Int) (↑a.length:Int) x_1 x_2 x x_3 x_4 x_5 x_6→(x<(↑a.length:Int)→((0:Int)≤x_3∧x_3≤(↑x_5.length:Int))∧i_58_87_0 (0:Int) (x_3.toNat,(↑x_5.length:Int).toNat - x_3.toNat) x x_5 x_6 (0:Int) (x_3.toNat,(↑x_5.length:Int).toNat - x_3.toNat) x x_5 x_6∧∀(x_7:Int) (x_8:Nat×Nat) (x_9:Int) (x_10:List (Row UInt8)) (x_11:List (Nat×List UInt8)),i_58_87_0 (0:Int) (x_3.toNat,(↑x_5.length:Int).toNat - x_3.toNat) x x_5 x_6 x_7 x_8 x_9 x_10 x_11→(x_7<(↑((↑x_5.length:Int).toNat - x_3.toNat):Int)→((0:Int)≤x_7∧x_7<(↑x_8.snd:Int))∧x_8.fst+x_7.toNat<x_10.length∧(gd (Row.no UInt8) x_10 (x_8.fst+x_7.toNat)).ok x_11∧(gd (Row.no UInt8) x_10 (x_8.fst+x_7.toNat)).kd≠RK.nil∧((0:Int)≤x_9∧x_9<(↑((gd (Row.no UInt8) x_10 (x_8.fst+x_7.toNat)).get x_11).length:Int))∧(decide (gd (0:UInt8) ((gd (Row.no UInt8) x_10 (x_8.fst+x_7.toNat)).get x_11) x_9.toNat≠(0:UInt8))=true→(x_7<(0:Int)→I64 (x+(1:Int))∧i_58_76_0 (0:Int) (0:Int) (↑a.length:Int) x_1 x_2 (x+(1:Int)) x_3 x_4 x_10 x_11∧(x_4 - (x+(1:Int))).toNat<(x_4 - x).toNat)∧((0:Int)≤x_7→I64 (x_3+x_7)∧I64 (x_3+x_7)∧((0:Int)≤x_3+x_7∧x_3+x_7<(↑x_10.length:Int))∧(x_3+x_7).toNat<x_10.length∧((0:Int)≤x_3∧x_3<(↑x_10.length:Int))∧x_3.toNat<x_10.length∧((0:Int)≤x_3∧x_3<(↑x_10.length:Int))∧x_3.toNat<x_10.length∧((0:Int)≤x_3+x_7∧x_3+x_7<(↑(x_10.set x_3.toNat (gd (Row.no UInt8) x_10 (x_3+x_7).toNat)).length:Int))∧(x_3+x_7).toNat<(x_10.set x_3.toNat (gd (Row.no UInt8) x_10 (x_3+x_7).toNat)).length∧((0:Int)≤x_3∧x_3<(↑((x_10.set x_3.toNat (gd (Row.no UInt8) x_10 (x_3+x_7).toNat)).set (x_3+x_7).toNat (gd (Row.no UInt8) x_10 x_3.toNat)).length:Int))∧x_3.toNat<((x_10.set x_3.toNat (gd (Row.no UInt8) x_10 (x_3+x_7).toNat)).set (x_3+x_7).toNat (gd (Row.no UInt8) x_10 x_3.toNat)).length∧(gd (Row.no UInt8) ((x_10.set x_3.toNat (gd (Row.no UInt8) x_10 (x_3+x_7).toNat)).set (x_3+x_7).toNat (gd (Row.no UInt8) x_10 x_3.toNat)) x_3.toNat).ok x_11∧((0:Int)≤x_9∧x_9<(↑((gd (Row.no UInt8) ((x_10.set x_3.toNat (gd (Row.no UInt8) x_10 (x_3+x_7).toNat)).set (x_3+x_7).toNat (gd (Row.no UInt8) x_10 x_3.toNat)) x_3.toNat).get x_11).length:Int))∧(gd (Row.no UInt8) ((x_10.set x_3.toNat (gd (Row.no UInt8) x_10 (x_3+x_7).toNat)).set (x_3+x_7).toNat (gd (Row.no UInt8) x_10 x_3.toNat)) x_3.toNat).ok x_11∧x_9.toNat<((gd (Row.no UInt8) ((x_10.set x_3.toNat (gd (Row.no UInt8) x_10 (x_3+x_7).toNat)).set (x_3+x_7).toNat (gd (Row.no UInt8) x_10 x_3.toNat)) x_3.toNat).get x_11).length∧True∧((0:Int)≤x_3∧x_3<(↑((x_10.set x_3.toNat (gd (Row.no UInt8) x_10 (x_3+x_7).toNat)).set (x_3+x_7).toNat (gd (Row.no UInt8) x_10 x_3.toNat)).length:Int))∧x_3.toNat<((x_10.set x_3.toNat (gd (Row.no UInt8) x_10 (x_3+x_7).toNat)).set (x_3+x_7).toNat (gd (Row.no UInt8) x_10 x_3.toNat)).length∧(gd (Row.no UInt8) ((x_10.set x_3.toNat (gd (Row.no UInt8) x_10 (x_3+x_7).toNat)).set (x_3+x_7).toNat (gd (Row.no UInt8) x_10 x_3.toNat)) x_3.toNat).ok x_11∧i_58_89_0 (0:Int) x_3 (invN (gd (0:UInt8) ((gd (Row.no UInt8) ((x_10.set x_3.toNat (gd (Row.no UInt8) x_10 (x_3+x_7).toNat)).set (x_3+x_7).toNat (gd (Row.no UInt8) x_10 x_3.toNat)) x_3.toNat).get x_11) x_9.toNat)) ((x_10.set x_3.toNat (gd (Row.no UInt8) x_10 (x_3+x_7).toNat)).set (x_3+x_7).toNat (gd (Row.no UInt8) x_10 x_3.toNat)) x_11 (0:Int) x_3 (invN (gd (0:UInt8) ((gd (Row.no UInt8) ((x_10.set x_3.toNat (gd (Row.no UInt8) x_10 (x_3+x_7).toNat)).set (x_3+x_7).toNat (gd (Row.no UInt8) x_10 x_3.toNat)) x_3.toNat).get x_11) x_9.toNat)) ((x_10.set x_3.toNat (gd (Row.no UInt8) x_10 (x_3+x_7).toNat)).set (x_3+x_7).toNat (gd (Row.no UInt8) x_10 x_3.toNat)) x_11∧∀(x_12 x_13:Int) (x_14:UInt8) (x_15:List (Row UInt8)) (x_16:List (Nat×List UInt8)),i_58_89_0 (0:Int) x_3 (invN (gd (0:UInt8) ((gd (Row.no UInt8) ((x_10.set x_3.toNat (gd (Row.no UInt8) x_10 (x_3+x_7).toNat)).set (x_3+x_7).toNat (gd (Row.no UInt8) x_10 x_3.toNat)) x_3.toNat).get x_11) x_9.toNat)) ((x_10.set x_3.toNat (gd (Row.no UInt8) x_10 (x_3+x_7).toNat)).set (x_3+x_7).toNat (gd (Row.no UInt8) x_10 x_3.toNat)) x_11 x_12 x_13 x_14 x_15 x_16→(x_12<(↑((gd (Row.no UInt8) ((x_10.set x_3.toNat (gd (Row.no UInt8) x_10 (x_3+x_7).toNat)).set (x_3+x_7).toNat (gd (Row.no UInt8) x_10 x_3.toNat)) x_3.toNat).get x_11).length:Int)→((0:Int)≤x_13∧x_13<(↑x_15.length:Int))∧x_13.toNat<x_15.length∧((0:Int)≤x_13∧x_13<(↑x_15.length:Int))∧x_13.toNat<x_15.length∧(gd (Row.no UInt8) x_15 x_13.toNat).ok x_16∧((0:Int)≤x_12∧x_12<(↑((gd (Row.no UInt8) x_15 x_13.toNat).get x_16).length:Int))∧(gd (Row.no UInt8) x_15 x_13.toNat).ok x_16∧x_12.toNat<((gd (Row.no UInt8) x_15 x_13.toNat).get x_16).length∧True∧(gd (Row.no UInt8) x_15 x_13.toNat).ok x_16∧((0:Int)≤x_12∧x_12<(↑((gd (Row.no UInt8) x_15 x_13.toNat).get x_16).length:Int))∧(gd (Row.no UInt8) x_15 x_13.toNat).mine x_16∧x_12.toNat<((gd (Row.no UInt8) x_15 x_13.toNat).get x_16).length∧I64 (x_12+(1:Int))∧i_58_89_0 (0:Int) x_3 (invN (gd (0:UInt8) ((gd (Row.no UInt8) ((x_10.set x_3.toNat (gd (Row.no UInt8) x_10 (x_3+x_7).toNat)).set (x_3+x_7).toNat (gd (Row.no UInt8) x_10 x_3.toNat)) x_3.toNat).get x_11) x_9.toNat)) ((x_10.set x_3.toNat (gd (Row.no UInt8) x_10 (x_3+x_7).toNat)).set (x_3+x_7).toNat (gd (Row.no UInt8) x_10 x_3.toNat)) x_11 (x_12+(1:Int)) x_13 x_14 x_15 (((gd (Row.no UInt8) x_15 x_13.toNat).id,((gd (Row.no UInt8) x_15 x_13.toNat).get x_16).set x_12.toNat (gmul (gd (0:UInt8) ((gd (Row.no UInt8) x_15 x_13.toNat).get x_16) x_12.toNat) x_14))::x_16)∧((↑(lkA x_11 (rAt x_15 x_13).id).length:Int) - (x_12+(1:Int))).toNat<((↑(lkA x_11 (rAt x_15 x_13).id).length:Int) - x_12).toNat)∧((↑((gd (Row.no UInt8) ((x_10.set x_3.toNat (gd (Row.no UInt8) x_10 (x_3+x_7).toNat)).set (x_3+x_7).toNat (gd (Row.no UInt8) x_10 x_3.toNat)) x_3.toNat).get x_11).length:Int)≤x_12→i_58_76_1 (0:Int) x x_3 x_15 x_16 (0:Int) x x_3 x_15 x_16∧∀(x_17 x_18 x_19:Int) (x_20:List (Row UInt8)) (x_21:List (Nat×List UInt8)),i_58_76_1 (0:Int) x x_3 x_15 x_16 x_17 x_18 x_19 x_20 x_21→(x_17<(↑x_15.length:Int)→(¬x_17=x_19→((0:Int)≤x_17∧x_17<(↑x_20.length:Int))∧x_17.toNat<x_20.length∧(gd (Row.no UInt8) x_20 x_17.toNat).ok x_21∧((0:Int)≤x_9∧x_9<(↑((gd (Row.no UInt8) x_20 x_17.toNat).get x_21).length:Int))∧(gd (Row.no UInt8) x_20 x_17.toNat).ok x_21∧x_9.toNat<((gd (Row.no UInt8) x_20 x_17.toNat).get x_21).length∧((0:Int)≤x_19∧x_19<(↑x_20.length:Int))∧x_19.toNat<x_20.length∧(gd (Row.no UInt8) x_20 x_19.toNat).ok x_21∧i_58_90_0 (0:Int) x_17 x_19 (gd (0:UInt8) ((gd (Row.no UInt8) x_20 x_17.toNat).get x_21) x_9.toNat) x_20 x_21 (0:Int) x_17 x_19 (gd (0:UInt8) ((gd (Row.no UInt8) x_20 x_17.toNat).get x_21) x_9.toNat) x_20 x_21∧∀(x_22 x_23 x_24:Int) (x_25:UInt8) (x_26:List (Row UInt8)) (x_27:List (Nat×List UInt8)),i_58_90_0 (0:Int) x_17 x_19 (gd (0:UInt8) ((gd (Row.no UInt8) x_20 x_17.toNat).get x_21) x_9.toNat) x_20 x_21 x_22 x_23 x_24 x_25 x_26 x_27→(x_22<(↑((gd (Row.no UInt8) x_20 x_19.toNat).get x_21).length:Int)→(gd (Row.no UInt8) x_20 x_19.toNat).ok x_27∧((0:Int)≤x_22∧x_22<(↑((gd (Row.no UInt8) x_20 x_19.toNat).get x_27).length:Int))∧(gd (Row.no UInt8) x_20 x_19.toNat).ok x_27∧x_22.toNat<((gd (Row.no UInt8) x_20 x_19.toNat).get x_27).length∧((0:Int)≤x_23∧x_23<(↑x_26.length:Int))∧x_23.toNat<x_26.length∧(gd (Row.no UInt8) x_26 x_23.toNat).ok x_27∧((0:Int)≤x_22∧x_22<(↑((gd (Row.no UInt8) x_26 x_23.toNat).get x_27).length:Int))∧(gd (Row.no UInt8) x_26 x_23.toNat).ok x_27∧x_22.toNat<((gd (Row.no UInt8) x_26 x_23.toNat).get x_27).length∧True∧(gd (Row.no UInt8) x_26 x_23.toNat).ok x_27∧((0:Int)≤x_22∧x_22<(↑((gd (Row.no UInt8) x_26 x_23.toNat).get x_27).length:Int))∧(gd (Row.no UInt8) x_26 x_23.toNat).mine x_27∧x_22.toNat<((gd (Row.no UInt8) x_26 x_23.toNat).get x_27).length∧I64 (x_22+(1:Int))∧i_58_90_0 (0:Int) x_17 x_19 (gd (0:UInt8) ((gd (Row.no UInt8) x_20 x_17.toNat).get x_21) x_9.toNat) x_20 x_21 (x_22+(1:Int)) x_23 x_24 x_25 x_26 (((gd (Row.no UInt8) x_26 x_23.toNat).id,((gd (Row.no UInt8) x_26 x_23.toNat).get x_27).set x_22.toNat (gd (0:UInt8) ((gd (Row.no UInt8) x_26 x_23.toNat).get x_27) x_22.toNat^^^gmul x_25 (gd (0:UInt8) ((gd (Row.no UInt8) x_20 x_19.toNat).get x_27) x_22.toNat)))::x_27)∧((↑(lkA x_21 (rAt x_26 x_24).id).length:Int) - (x_22+(1:Int))).toNat<((↑(lkA x_21 (rAt x_26 x_24).id).length:Int) - x_22).toNat)∧((↑((gd (Row.no UInt8) x_20 x_19.toNat).get x_21).length:Int)≤x_22→I64 (x_17+(1:Int))∧i_58_76_1 (0:Int) x x_3 x_15 x_16 (x_17+(1:Int)) x_18 x_19 x_26 x_27∧((↑x_26.length:Int) - (x_17+(1:Int))).toNat<((↑x_20.length:Int) - x_17).toNat))∧(x_17=x_19→I64 (x_17+(1:Int))∧i_58_76_1 (0:Int) x x_3 x_15 x_16 (x_17+(1:Int)) x_18 x_19 x_20 x_21∧((↑x_20.length:Int) - (x_17+(1:Int))).toNat<((↑x_20.length:Int) - x_17).toNat))∧((↑x_15.length:Int)≤x_17→I64 (x_19+(1:Int))∧(x_19+(1:Int)=(↑x_20.length:Int)→(x_19+(1:Int)<(↑a.length:Int)→([],(5:Int))=invL a)∧((↑a.length:Int)≤x_19+(1:Int)→(∀(x:Row UInt8),x∈x_20→x.ok x_21∧x.kd≠RK.nil)∧((0:Int)≤(↑a.length:Int)∧(↑a.length:Int)≤(64:Int)∧(0:Int)≤(↑a.length:Int)∧(↑a.length:Int)≤(64:Int)∧(0:Int)≤(↑a.length:Int)∧(↑a.length:Int)≤(64:Int)∧(↑a.length:Int)≤(↑(List.map (fun x=>x.get x_21) x_20).length:Int)∧∀(r:List UInt8),r∈List.map (fun x=>x.get x_21) x_20→(↑a.length:Int)+(↑a.length:Int)≤(↑r.length:Int))∧(fillL (↑a.length:Int) (↑a.length:Int) (fI (List.map (fun x=>x.get x_21) x_20) (↑a.length:Int).toNat),(0:Int))=invL a))∧(¬x_19+(1:Int)=(↑x_20.length:Int)→I64 (x_18+(1:Int))∧i_58_76_0 (0:Int) (0:Int) (↑a.length:Int) x_1 x_2 (x_18+(1:Int)) (x_19+(1:Int)) x_4 x_20 x_21∧(x_4 - (x_18+(1:Int))).toNat<(x_4 - x).toNat)))))∧(decide (gd (0:UInt8) ((gd (Row.no UInt8) x_10 (x_8.fst+x_7.toNat)).get x_11) x_9.toNat≠(0:UInt8))=false→I64 (x_7+(1:Int))∧i_58_87_0 (0:Int) (x_3.toNat,(↑x_5.length:Int).toNat - x_3.toNat) x x_5 x_6 (x_7+(1:Int)) x_8 x_9 x_10 x_11∧((↑x_8.snd:Int) - (x_7+(1:Int))).toNat<((↑x_8.snd:Int) - x_7).toNat))∧((↑((↑x_5.length:Int).toNat - x_3.toNat):Int)≤x_7→I64 (x+(1:Int))∧i_58_76_0 (0:Int) (0:Int) (↑a.length:Int) x_1 x_2 (x+(1:Int)) x_3 x_4 x_10 x_11∧(x_4 - (x+(1:Int))).toNat<(x_4 - x).toNat))∧((↑a.length:Int)≤x→(x_3<(↑a.length:Int)→([],(5:Int))=invL a)∧((↑a.length:Int)≤x_3→(∀(x:Row UInt8),x∈x_5→x.ok x_6∧x.kd≠RK.nil)∧((0:Int)≤(↑a.length:Int)∧(↑a.length:Int)≤(64:Int)∧(0:Int)≤(↑a.length:Int)∧(↑a.length:Int)≤(64:Int)∧(0:Int)≤(↑a.length:Int)∧(↑a.length:Int)≤(64:Int)∧(↑a.length:Int)≤(↑(List.map (fun x=>x.get x_6) x_5).length:Int)∧∀(r:List UInt8),r∈List.map (fun x=>x.get x_6) x_5→(↑a.length:Int)+(↑a.length:Int)≤(↑r.length:Int))∧(fillL (↑a.length:Int) (↑a.length:Int) (fI (List.map (fun x=>x.get x_6) x_5) (↑a.length:Int).toNat),(0:Int))=invL a))))):=by
 delta z58_0
 refine ⟨trivial,fun h=>by unfold invL;rw [if_pos h],fun h=> ?_⟩
 obtain ⟨h1,h2,h3,h4,h5,h6⟩:=mchk_ok h
 have h00:(gd [] a (Int.toNat 0))=gd [] a 0:=rfl
 refine ⟨⟨Int.le_refl _,by omega⟩,fun hne=>by unfold invL;rw [if_neg (by rw [h];simp),if_pos (by rw [h00] at hne;omega)],fun he=>⟨by unfold I64;omega, ?_⟩⟩
 rw [h00] at he
 have hE:a.length=(gd [] a 0).length:=by omega
 refine filled_vc (a.length:Int) (2*(a.length:Int)) (fB a a.length) (fun i k=>if k<(a.length:Int) then gd 0 (gd [] a i.toNat) k.toNat else if k - (a.length:Int)=i then 1 else 0) (fun i k=>(0:Int)≤i∧i<(↑a.length:Int)∧(0:Int)≤k∧(0:Int)≤(↑a.length:Int)∧(↑a.length:Int)≤1000∧k≤2000∧(↑a.length:Int)≤(↑(gd [] a i.toNat).length:Int)) _ ⟨by omega,by omega,by omega,by omega⟩ (fun i k q1 q2 q3 q4=>⟨⟨q1,q2,q3,by omega,by omega,by omega,by have:=h6 _ (gd_mem (d:=[]) (xs:=a) (i:=i.toNat) (by omega));omega⟩,fB_v q1 q3⟩) fun K A i hi hF=> ?_
 refine clear_vc (a.length:Int) K A (fun d K A=>(d<(a.length:Int)→(([]:List (List UInt8)),(5:Int))=invL a)∧((a.length:Int)≤d→(∀x:Row UInt8,x∈K→x.ok A∧x.kd≠RK.nil)∧(0≤(a.length:Int)∧(a.length:Int)≤64∧0≤(a.length:Int)∧(a.length:Int)≤64∧0≤(a.length:Int)∧(a.length:Int)≤64∧(a.length:Int)≤((List.map (fun x=>x.get A) K).length:Int)∧∀r,r∈List.map (fun x=>x.get A) K→(a.length:Int)+(a.length:Int)≤(r.length:Int))∧(fillL (a.length:Int) (a.length:Int) (fI (List.map (fun x=>x.get A) K) (a.length:Int).toNat),(0:Int))=invL a)) (ClI.start hF hi ⟨by omega,by omega⟩ ⟨by omega,by omega,by omega⟩) fun d K2 A2 hd hm he2=> ?_
 obtain ⟨m,hM,hcm⟩:=hm
 rw [hF.vw hi (by omega),Int.toNat_natCast] at he2
 have e1:vw A2 K2=(clI a).1:=by unfold clI;rw [he2]
 have e2:d.toNat=(clI a).2:=by unfold clI;rw [he2]
 have hR:=clI_rect (a:=a) (by omega)
 have hinv:invL a=if (clI a).2<a.length then ([],5) else (fillL a.length a.length (fI (clI a).1 a.length),0):=by
  unfold invL;rw [if_neg (by rw [h];simp),if_neg (by omega)]
 refine ⟨fun hlt=>by rw [hinv,if_pos (by omega)],fun hge=>⟨hM.frz, ?_, ?_⟩⟩
 ·show _∧_∧_∧_∧_∧_∧(a.length:Int)≤((vw A2 K2).length:Int)∧∀r,r∈vw A2 K2→(a.length:Int)+(a.length:Int)≤(r.length:Int)
  rw [e1]
  refine ⟨by omega,by omega,by omega,by omega,by omega,by omega,by rw [hR.1];omega,fun r hr=>by rw [hR.2 r hr];omega⟩
 ·show (fillL (a.length:Int) (a.length:Int) (fI (vw A2 K2) (a.length:Int).toNat),(0:Int))=invL a
  rw [hinv,if_neg (by omega),e1,Int.toNat_natCast]
def l_58:PD Tc.dn k_58.ps→List (IL Tc Tc.dn):=fun x=>(fun (a:(List (List UInt8)))=>([⟨63, .fn F63 (fun k=>bif Nat.beq k 0 then some (.inv [.sl 14 .cInt, .bl 3 .rU8, .ar .cU8] (fun zo zv=>(fun (i:Int) (K:(List (Row UInt8))) (A:(List (Nat×List UInt8)))=>i_58_63_75_0 a i K A) zv.1 zv.2.1 zv.2.2.1) (fun zo zv=>(fun (i:Int) (K:(List (Row UInt8))) (A:(List (Nat×List UInt8)))=>((a.length:Int) - i).toNat) zv.1 zv.2.1 zv.2.2.1)) else bif Nat.beq k 1 then some (.inv [.sl 27 .cInt, .sl 8 .cInt, .bl 3 .rU8, .ar .cU8] (fun zo zv=>(fun (k0:Int) (i0:Int) (K0:(List (Row UInt8))) (A0:(List (Nat×List UInt8))) (k:Int) (i:Int) (K:(List (Row UInt8))) (A:(List (Nat×List UInt8)))=>i_58_63_75_1 a k0 i0 K0 A0 k i K A) zo.1 zo.2.1 zo.2.2.1 zo.2.2.2.1 zv.1 zv.2.1 zv.2.2.1 zv.2.2.2.1) (fun zo zv=>(fun (k0:Int) (i0:Int) (K0:(List (Row UInt8))) (A0:(List (Nat×List UInt8))) (k:Int) (i:Int) (K:(List (Row UInt8))) (A:(List (Nat×List UInt8)))=>((2*(a.length:Int)) - k).toNat) zo.1 zo.2.1 zo.2.2.1 zo.2.2.2.1 zv.1 zv.2.1 zv.2.2.1 zv.2.2.2.1)) else none),some 75⟩,⟨87, .fn F87 (fun k=>bif Nat.beq k 0 then some (.inv [.sl 8 .cInt, .pt 0 3 1, .ce 5 .cInt, .bl 3 .rU8, .ar .cU8] (fun zo zv=>(fun (k0:Int) (s0:(Nat×Nat)) (c0:Int) (K0:(List (Row UInt8))) (A0:(List (Nat×List UInt8))) (k:Int) (s:(Nat×Nat)) (c:Int) (K:(List (Row UInt8))) (A:(List (Nat×List UInt8)))=>i_58_87_0 k0 s0 c0 K0 A0 k s c K A) zo.1 zo.2.1 zo.2.2.1 zo.2.2.2.1 zo.2.2.2.2.1 zv.1 zv.2.1 zv.2.2.1 zv.2.2.2.1 zv.2.2.2.2.1) (fun zo zv=>(fun (k0:Int) (s0:(Nat×Nat)) (c0:Int) (K0:(List (Row UInt8))) (A0:(List (Nat×List UInt8))) (k:Int) (s:(Nat×Nat)) (c:Int) (K:(List (Row UInt8))) (A:(List (Nat×List UInt8)))=>((s.2:Int) - k).toNat) zo.1 zo.2.1 zo.2.2.1 zo.2.2.2.1 zo.2.2.2.2.1 zv.1 zv.2.1 zv.2.2.1 zv.2.2.2.1 zv.2.2.2.2.1)) else none),none⟩,⟨89, .fn F89 (fun k=>bif Nat.beq k 0 then some (.inv [.sl 12 .cInt, .sl 1 .cInt, .sl 2 .cU8, .bl 3 .rU8, .ar .cU8] (fun zo zv=>(fun (k0:Int) (i0:Int) (f0:UInt8) (K0:(List (Row UInt8))) (A0:(List (Nat×List UInt8))) (k:Int) (i:Int) (f:UInt8) (K:(List (Row UInt8))) (A:(List (Nat×List UInt8)))=>i_58_89_0 k0 i0 f0 K0 A0 k i f K A) zo.1 zo.2.1 zo.2.2.1 zo.2.2.2.1 zo.2.2.2.2.1 zv.1 zv.2.1 zv.2.2.1 zv.2.2.2.1 zv.2.2.2.2.1) (fun zo zv=>(fun (k0:Int) (i0:Int) (f0:UInt8) (K0:(List (Row UInt8))) (A0:(List (Nat×List UInt8))) (k:Int) (i:Int) (f:UInt8) (K:(List (Row UInt8))) (A:(List (Nat×List UInt8)))=>((lkA A0 (rAt K i).id).length - k).toNat) zo.1 zo.2.1 zo.2.2.1 zo.2.2.2.1 zo.2.2.2.2.1 zv.1 zv.2.1 zv.2.2.1 zv.2.2.2.1 zv.2.2.2.2.1)) else none),none⟩,⟨90, .fn F90 (fun k=>bif Nat.beq k 0 then some (.inv [.sl 15 .cInt, .sl 1 .cInt, .sl 2 .cInt, .sl 3 .cU8, .bl 3 .rU8, .ar .cU8] (fun zo zv=>(fun (k0:Int) (t0:Int) (s0:Int) (f0:UInt8) (K0:(List (Row UInt8))) (A0:(List (Nat×List UInt8))) (k:Int) (t:Int) (s:Int) (f:UInt8) (K:(List (Row UInt8))) (A:(List (Nat×List UInt8)))=>i_58_90_0 k0 t0 s0 f0 K0 A0 k t s f K A) zo.1 zo.2.1 zo.2.2.1 zo.2.2.2.1 zo.2.2.2.2.1 zo.2.2.2.2.2.1 zv.1 zv.2.1 zv.2.2.1 zv.2.2.2.1 zv.2.2.2.2.1 zv.2.2.2.2.2.1) (fun zo zv=>(fun (k0:Int) (t0:Int) (s0:Int) (f0:UInt8) (K0:(List (Row UInt8))) (A0:(List (Nat×List UInt8))) (k:Int) (t:Int) (s:Int) (f:UInt8) (K:(List (Row UInt8))) (A:(List (Nat×List UInt8)))=>((lkA A0 (rAt K s).id).length - k).toNat) zo.1 zo.2.1 zo.2.2.1 zo.2.2.2.1 zo.2.2.2.2.1 zo.2.2.2.2.2.1 zv.1 zv.2.1 zv.2.2.1 zv.2.2.2.1 zv.2.2.2.2.1 zv.2.2.2.2.2.1)) else none),none⟩,⟨76, .fn F76 (fun k=>bif Nat.beq k 0 then some (.inv [.sl 12 .cInt, .sl 5 .cInt, .sl 1 .cInt, .bl 3 .rU8, .ar .cU8] (fun zo zv=>(fun (c0:Int) (d0:Int) (cols0:Int) (K0:(List (Row UInt8))) (A0:(List (Nat×List UInt8))) (c:Int) (d:Int) (cols:Int) (K:(List (Row UInt8))) (A:(List (Nat×List UInt8)))=>i_58_76_0 c0 d0 cols0 K0 A0 c d cols K A) zo.1 zo.2.1 zo.2.2.1 zo.2.2.2.1 zo.2.2.2.2.1 zv.1 zv.2.1 zv.2.2.1 zv.2.2.2.1 zv.2.2.2.2.1) (fun zo zv=>(fun (c0:Int) (d0:Int) (cols0:Int) (K0:(List (Row UInt8))) (A0:(List (Nat×List UInt8))) (c:Int) (d:Int) (cols:Int) (K:(List (Row UInt8))) (A:(List (Nat×List UInt8)))=>(cols - c).toNat) zo.1 zo.2.1 zo.2.2.1 zo.2.2.2.1 zo.2.2.2.2.1 zv.1 zv.2.1 zv.2.2.1 zv.2.2.2.1 zv.2.2.2.2.1)) else bif Nat.beq k 1 then some (.inv [.sl 57 .cInt, .sl 12 .cInt, .sl 5 .cInt, .bl 3 .rU8, .ar .cU8] (fun zo zv=>(fun (k0:Int) (c0:Int) (d0:Int) (K0:(List (Row UInt8))) (A0:(List (Nat×List UInt8))) (k:Int) (c:Int) (d:Int) (K:(List (Row UInt8))) (A:(List (Nat×List UInt8)))=>i_58_76_1 k0 c0 d0 K0 A0 k c d K A) zo.1 zo.2.1 zo.2.2.1 zo.2.2.2.1 zo.2.2.2.2.1 zv.1 zv.2.1 zv.2.2.1 zv.2.2.2.1 zv.2.2.2.2.1) (fun zo zv=>(fun (k0:Int) (c0:Int) (d0:Int) (K0:(List (Row UInt8))) (A0:(List (Nat×List UInt8))) (k:Int) (c:Int) (d:Int) (K:(List (Row UInt8))) (A:(List (Nat×List UInt8)))=>((K.length:Int) - k).toNat) zo.1 zo.2.1 zo.2.2.1 zo.2.2.2.1 zo.2.2.2.2.1 zv.1 zv.2.1 zv.2.2.1 zv.2.2.2.1 zv.2.2.2.2.1)) else none),none⟩])) x.1
theorem l_58_ok:∀x,ILs Try.prog tB (l_58 x):=fun _=>⟨⟨F63_ok,F63_call⟩,⟨F87_ok,F87_call⟩,⟨F89_ok,F89_call⟩,⟨F90_ok,F90_call⟩,⟨F76_ok,F76_call⟩,trivial⟩
theorem k_58_ok:k_58.Ok Try.prog tB:=con_ok tB_ok (Δ:=[k_74,k_75,k_32_35,k_65,k_66,k_88]) ⟨k_74_ok,k_75_ok,k_32_35_ok,k_65_ok,k_66_ok,k_88_ok,trivial⟩ (Ω:=[]) trivial k_58 F58_ok F58_call (l_58) (l_58_ok) 3 (fun x=>(fun (a:(List (List UInt8)))=>(fun k=>bif Nat.beq k 1029 then some (.frz [5]) else bif Nat.beq k 1033 then some (.frz [6]) else none)) x.1) fun x hp=>Eq.mp (by kernel_rfl) (k_58_v x.1)
open Go.RowKit
def allF (many more:Int):List (List UInt8):=fillL many many fU++fillL more many (fC more)
def rowsF (many more:Int) (at_:List Int):List (List UInt8):=at_.map fun i=>gd [] (allF many more) i.toNat
theorem allF_len {many more:Int} (h1:0≤many) (h2:0≤more):((allF many more).length:Int)=many+more:=by
 unfold allF fillL;simp;omega
structure RwF (many more:Int) (at_:List Int) (i:Int) (out:List (List UInt8)):Prop where
 lo:0≤i
 hi:i≤at_.length
 eq:out=(at_.take i.toNat).map fun i=>gd [] (allF many more) i.toNat
theorem RwF.start {many more:Int} {at_:List Int}:RwF many more at_ 0 []:=⟨by omega,by omega,by simp⟩
theorem RwF.step {many more i:Int} {at_:List Int} {out:List (List UInt8)} (h:RwF many more at_ i out) (hi:i<at_.length):RwF many more at_ (i+1) (out++[gd [] (allF many more) (gd 0 at_ i.toNat).toNat]):=by
 have h0:=h.lo
 refine ⟨by omega,by omega, ?_⟩
 rw [show (i+1).toNat=i.toNat+1 by omega,List.take_add_one,gd_get (d:=0) (by omega),h.eq]
 simp
theorem RwF.len {many more i:Int} {at_:List Int} {out:List (List UInt8)} (h:RwF many more at_ i out):(out.length:Int)=i:=by
 have:=h.lo;have:=h.hi
 rw [h.eq];simp;omega
theorem RwF.fin {many more i:Int} {at_:List Int} {out:List (List UInt8)} (h:RwF many more at_ i out) (hi:at_.length≤i):out=rowsF many more at_:=by
 rw [h.eq,List.take_of_length_le (by omega)];rfl
def atGo (n:Int):List Int→List Int→Int
 |_,[]=>0
 |seen,x::r=>if x<0∨n≤x then 3 else if x∈seen then 6 else atGo n (seen++[x]) r
def atE (n:Int) (at_:List Int):Int:=atGo n [] at_
structure AtI (n:Int) (at_:List Int) (i:Int):Prop where
 lo:0≤i
 hi:i≤at_.length
 eq:atGo n (at_.take i.toNat) (at_.drop i.toNat)=atE n at_
theorem AtI.start {n:Int} {at_:List Int}:AtI n at_ 0:=⟨by omega,by omega,rfl⟩
theorem AtI.out {n:Int} {at_:List Int} {i:Int} (h:AtI n at_ i) (hi:i<at_.length) (hb:gd 0 at_ i.toNat<0∨n≤gd 0 at_ i.toNat):atE n at_=3:=by
 have h0:=h.lo
 rw [←h.eq,gd_drop 0 (by omega),atGo,if_pos hb]
theorem AtI.twice {n:Int} {at_:List Int} {i:Int} (h:AtI n at_ i) (hi:i<at_.length) (h1:0≤gd 0 at_ i.toNat) (h2:gd 0 at_ i.toNat<n) (hb:gd 0 at_ i.toNat∈at_.take i.toNat):atE n at_=6:=by
 have h0:=h.lo
 rw [←h.eq,gd_drop 0 (by omega),atGo,if_neg (by omega),if_pos hb]
theorem AtI.step {n:Int} {at_:List Int} {i:Int} (h:AtI n at_ i) (hi:i<at_.length) (h1:0≤gd 0 at_ i.toNat) (h2:gd 0 at_ i.toNat<n) (hb:¬gd 0 at_ i.toNat∈at_.take i.toNat):AtI n at_ (i+1):=by
 have h0:=h.lo
 refine ⟨by omega,by omega, ?_⟩
 rw [←h.eq,gd_drop 0 (i:=i.toNat) (by omega),atGo,if_neg (by omega),if_neg hb,show (i+1).toNat=i.toNat+1 by omega,List.take_add_one,gd_get (d:=0) (by omega)]
 rfl
theorem AtI.fin {n:Int} {at_:List Int} {i:Int} (h:AtI n at_ i) (hi:at_.length≤i):atE n at_=0:=by
 rw [←h.eq,List.drop_eq_nil_of_le (by omega)];rfl
theorem atGo_rng {n:Int}:∀{seen l:List Int},atGo n seen l=0→(∀i,i∈l→0≤i∧i<n∧¬i∈seen)∧l.Nodup
 |_,[],_=>⟨fun i h=>by simp at h,List.nodup_nil⟩
 |seen,x::r,h=>by
  unfold atGo at h
  split at h
  ·simp at h
  ·rename_i h1
   split at h
   ·simp at h
   ·rename_i h2
    obtain ⟨q1,q2⟩:=atGo_rng h
    refine ⟨fun i hi=> ?_, ?_⟩
    ·rcases List.mem_cons.1 hi with e|e
     ·rw [e];exact ⟨by omega,by omega,h2⟩
     ·obtain ⟨p1,p2,p3⟩:=q1 i e
      exact ⟨p1,p2,fun hh=>p3 (List.mem_append_left _ hh)⟩
    ·rw [List.nodup_cons]
     exact ⟨fun hx=>(q1 x hx).2.2 (by simp),q2⟩
theorem atE_rng {n:Int} {at_:List Int} (h:atE n at_=0):(∀i,i∈at_→0≤i∧i<n)∧at_.Nodup:=by
 obtain ⟨q1,q2⟩:=atGo_rng h
 exact ⟨fun i hi=>⟨(q1 i hi).1,(q1 i hi).2.1⟩,q2⟩
def rebL (many more:Int) (at_:List Int) (pieces:List BA):List BA×Int:=
 if ¬(1≤many∧many≤8)∨¬(1≤more∧more≤6) then ([],3) else if ¬(at_.length:Int)=pieces.length then ([],1) else if (at_.length:Int)<many then ([],8) else if many<(at_.length:Int) then ([],2) else if ¬atE (many+more) at_=0 then ([],atE (many+more) at_) else if ¬alkE pieces=0 then ([],alkE pieces) else if ¬(invL (rowsF many more at_)).2=0 then ([],(invL (rowsF many more at_)).2) else (mixS (invL (rowsF many more at_)).1 pieces,0)
theorem inv_w {a:List (List UInt8)} (h:(invL a).2=0):(invL a).1.length=a.length∧∀r,r∈(invL a).1→r.length=a.length:=by
 unfold invL at h ⊢
 by_cases h1:mchk a≠0
 ·rw [if_pos h1] at h;exact absurd h h1
 ·rw [if_neg h1] at h ⊢
  by_cases h2:a.length≠(gd [] a 0).length
  ·rw [if_pos h2] at h;simp at h
  ·rw [if_neg h2] at h ⊢
   by_cases h3:(clI a).2<a.length
   ·rw [if_pos h3] at h;simp at h
   ·rw [if_neg h3]
    refine ⟨by unfold fillL;simp,fun r hr=> ?_⟩
    have:=fill_w r hr
    omega
theorem reb_mx {many more:Int} {at_:List Int} {pieces:List BA} (h1:1≤many) (h2:many≤8) (hl:(at_.length:Int)=pieces.length) (hm:(at_.length:Int)=many) (hk:alkE pieces=0) (hi:(invL (rowsF many more at_)).2=0):MxP (invL (rowsF many more at_)).1 pieces:=by
 obtain ⟨a1,a2⟩:=alk_ok hk
 obtain ⟨b1,b2⟩:=inv_w hi
 have h0:=a1 _ (gd_mem (d:=ByteArray.empty) (xs:=pieces) (i:=0) (by omega))
 have hr:(rowsF many more at_).length=at_.length:=by unfold rowsF;simp
 refine ⟨by omega,by omega,by omega,fun r hr'=>by have:=b2 r hr';omega,fun s hs=>by rw [a2 s hs];exact Nat.le_refl _,by omega⟩
theorem at_in {n:Int} {at_:List Int} {i:Int} (h:∀i,i∈at_→0≤i∧i<n) (h1:0≤i) (h2:i<at_.length):0≤gd 0 at_ i.toNat∧gd 0 at_ i.toNat<n:=h _ (gd_mem (by omega))
def i_59_63_95_1 (many:Int) (k0:Int) (i0:Int) (K0:(List (Row UInt8))) (A0:(List (Nat×List UInt8))) (k:Int) (i:Int) (K:(List (Row UInt8))) (A:(List (Nat×List UInt8))):Prop:=0≤k∧k≤many∧K=K0∧i=i0∧FillR A0 A (gd (Row.no UInt8) K i.toNat) k many (fU i.toNat)
def i_59_63_95_0 (many:Int) (i:Int) (K:(List (Row UInt8))) (A:(List (Nat×List UInt8))):Prop:=0≤i∧i≤many∧FillI A K i many many (fU)
def i_59_0 (many:Int) (more:Int) (at_:(List Int)) (i:Int) (out:(List (List UInt8))):Prop:=RwF many more at_ i out
def k_59:Con Tc Tc.dn:=⟨59,[.ty .cInt, .ty .cInt, .ty .lInt],fun x=>(fun (many:Int) (more:Int) (at_:(List Int))=>1≤many∧many≤8∧1≤more∧more≤6∧at_.length≤100∧∀i,i∈at_→0≤i∧i<many+more) x.1 x.2.1 x.2.2.1,[.llU8],fun x=>(fun (many:Int) (more:Int) (at_:(List Int))=>rowsF many more at_) x.1 x.2.1 x.2.2.1⟩
abbrev z59_0 (many:Int):=(List.replicate many.toNat (UInt8.ofNat (Int.toNat (0:Int))))
theorem k_59_v (many:Int) (more:Int) (at_:(List Int)) (hp:1≤many∧many≤8∧1≤more∧more≤6∧at_.length≤100∧∀i,i∈at_→0≤i∧i<many+more):True∧(decide ((1:Int)≤many∧many≤(16:Int))= !true→True∧(cauL more many).fst.length*(24:Nat)≤(140737488355328:Nat)∧i_59_0 many more at_ (0:Int) []∧∀(x:Int) (x_1:List (List UInt8)),i_59_0 many more at_ x x_1→(x<(↑at_.length:Int)→((0:Int)≤x∧x<(↑at_.length:Int))∧((0:Int)≤gd (0:Int) at_ x.toNat∧gd (0:Int) at_ x.toNat<(↑(cauL more many).fst.length:Int))∧(gd (0:Int) at_ x.toNat).toNat<(cauL more many).fst.length∧(x_1.length+(1:Nat))*(24:Nat)≤(140737488355328:Nat)∧I64 (x+(1:Int))∧i_59_0 many more at_ (x+(1:Int)) (x_1++[gd [] (cauL more many).fst (gd (0:Int) at_ x.toNat).toNat])∧((↑at_.length:Int) - (x+(1:Int))).toNat<((↑at_.length:Int) - x).toNat)∧((↑at_.length:Int)≤x→x_1=rowsF many more at_))∧(decide ((1:Int)≤many∧many≤(16:Int))= !false→((0:Int)≤many∧many≤many∧many*(↑(24:Nat):Int)≤(140737488355328:Int))∧i_59_63_95_0 many (0:Int) (List.replicate many.toNat (Row.no UInt8)) []∧∀(x:Int) (x_1:List (Row UInt8)) (x_2:List (Nat×List UInt8)),i_59_63_95_0 many x x_1 x_2→(x<(↑(List.replicate many.toNat (Row.no UInt8)).length:Int)→((0:Int)≤many∧many≤many∧many*(↑(1:Nat):Int)≤(140737488355328:Int))∧((0:Int)≤x∧x<(↑x_1.length:Int))∧∀(id:Nat),¬hasA x_2 id→x.toNat<x_1.length∧((0:Int)≤x∧x<(↑(x_1.set x.toNat (Row.at UInt8 id (z59_0 many).length)).length:Int))∧x.toNat<(x_1.set x.toNat (Row.at UInt8 id (z59_0 many).length)).length∧(gd (Row.no UInt8) (x_1.set x.toNat (Row.at UInt8 id (z59_0 many).length)) x.toNat).ok ((id,List.replicate many.toNat (UInt8.ofNat (Int.toNat (0:Int))))::x_2)∧i_59_63_95_1 many (0:Int) x (x_1.set x.toNat (Row.at UInt8 id (z59_0 many).length)) ((id,List.replicate many.toNat (UInt8.ofNat (Int.toNat (0:Int))))::x_2) (0:Int) x (x_1.set x.toNat (Row.at UInt8 id (z59_0 many).length)) ((id,List.replicate many.toNat (UInt8.ofNat (Int.toNat (0:Int))))::x_2)∧∀(x_3 x_4:Int) (x_5:List (Row UInt8)) (x_6:List (Nat×List UInt8)),i_59_63_95_1 many (0:Int) x (x_1.set x.toNat (Row.at UInt8 id (z59_0 many).length)) ((id,List.replicate many.toNat (UInt8.ofNat (Int.toNat (0:Int))))::x_2) x_3 x_4 x_5 x_6→(x_3<(↑((gd (Row.no UInt8) (x_1.set x.toNat (Row.at UInt8 id (z59_0 many).length)) x.toNat).get ((id,List.replicate many.toNat (UInt8.ofNat (Int.toNat (0:Int))))::x_2)).length:Int)→((0:Int)≤x_4∧x_4<(↑x_5.length:Int))∧x_4.toNat<x_5.length∧True∧(gd (Row.no UInt8) x_5 x_4.toNat).ok x_6∧((0:Int)≤x_3∧x_3<(↑((gd (Row.no UInt8) x_5 x_4.toNat).get x_6).length:Int))∧(gd (Row.no UInt8) x_5 x_4.toNat).mine x_6∧x_3.toNat<((gd (Row.no UInt8) x_5 x_4.toNat).get x_6).length∧I64 (x_3+(1:Int))∧i_59_63_95_1 many (0:Int) x (x_1.set x.toNat (Row.at UInt8 id (z59_0 many).length)) ((id,List.replicate many.toNat (UInt8.ofNat (Int.toNat (0:Int))))::x_2) (x_3+(1:Int)) x_4 x_5 (((gd (Row.no UInt8) x_5 x_4.toNat).id,((gd (Row.no UInt8) x_5 x_4.toNat).get x_6).set x_3.toNat (if x_4=x_3 then (1:RD Tc.dn [Tc.cU8]) else (0:RD Tc.dn [Tc.cU8])))::x_6)∧(many - (x_3+(1:Int))).toNat<(many - x_3).toNat)∧((↑((gd (Row.no UInt8) (x_1.set x.toNat (Row.at UInt8 id (z59_0 many).length)) x.toNat).get ((id,List.replicate many.toNat (UInt8.ofNat (Int.toNat (0:Int))))::x_2)).length:Int)≤x_3→I64 (x+(1:Int))∧i_59_63_95_0 many (x+(1:Int)) x_5 x_6∧(many - (x+(1:Int))).toNat<(many - x).toNat))∧((↑(List.replicate many.toNat (Row.no UInt8)).length:Int)≤x→True∧(∀(x:Row UInt8),x∈x_1→x.ok x_2∧x.kd≠RK.nil)∧((List.map (fun x=>x.get x_2) x_1).length+(cauL more many).fst.length)*(24:Nat)≤(140737488355328:Nat)∧i_59_0 many more at_ (0:Int) []∧∀(x:Int) (x_3:List (List UInt8)),i_59_0 many more at_ x x_3→(x<(↑at_.length:Int)→((0:Int)≤x∧x<(↑at_.length:Int))∧((0:Int)≤gd (0:Int) at_ x.toNat∧gd (0:Int) at_ x.toNat<(↑(List.map (fun x=>x.get x_2) x_1++(cauL more many).fst).length:Int))∧(gd (0:Int) at_ x.toNat).toNat<(List.map (fun x=>x.get x_2) x_1++(cauL more many).fst).length∧(x_3.length+(1:Nat))*(24:Nat)≤(140737488355328:Nat)∧I64 (x+(1:Int))∧i_59_0 many more at_ (x+(1:Int)) (x_3++[gd [] (List.map (fun x=>x.get x_2) x_1++(cauL more many).fst) (gd (0:Int) at_ x.toNat).toNat])∧((↑at_.length:Int) - (x+(1:Int))).toNat<((↑at_.length:Int) - x).toNat)∧((↑at_.length:Int)≤x→x_3=rowsF many more at_))):=by
 delta z59_0
 refine ⟨trivial,fun h=>absurd h (by simp;omega),fun _=>filled_vc many many fU (fun i k=>if i=k then 1 else 0) (fun i k=>True) _ ⟨by omega,by omega,by omega,by omega⟩ (fun i k h1 h2 h3 h4=>⟨trivial,by unfold fU;by_cases h:i=k<;>simp [h];omega⟩) fun K A i hi hF=> ?_⟩
 obtain ⟨e1,e2⟩:=hF.fin hi (by omega)
 rw [e2,cau_ok (by omega) (by omega) (by omega) (by omega)]
 have hl:=allF_len (many:=many) (more:=more) (by omega) (by omega)
 have hl2:(allF many more).length=(fillL many many fU).length+(fillL more many (fC more)).length:=by unfold allF;rw [List.length_append]
 have a1:= @RwF.start many more at_
 have a2:= @RwF.step many more
 have a3:= @RwF.len many more
 have a4:= @RwF.fin many more
 have a5:= @RwF.lo many more
 have a6:= @at_in (many+more) at_
 obtain ⟨p1,p2,p3,p4,p5,p6⟩:=hp
 show True∧_∧_∧_∧∀(x:Int) (x_3:List (List UInt8)),i_59_0 many more at_ x x_3→(x<(↑at_.length:Int)→((0:Int)≤x∧x<(↑at_.length:Int))∧((0:Int)≤gd (0:Int) at_ x.toNat∧gd (0:Int) at_ x.toNat<(↑(allF many more).length:Int))∧(gd (0:Int) at_ x.toNat).toNat<(allF many more).length∧(x_3.length+(1:Nat))*(24:Nat)≤(140737488355328:Nat)∧I64 (x+(1:Int))∧i_59_0 many more at_ (x+(1:Int)) (x_3++[gd [] (allF many more) (gd (0:Int) at_ x.toNat).toNat])∧((↑at_.length:Int) - (x+(1:Int))).toNat<((↑at_.length:Int) - x).toNat)∧((↑at_.length:Int)≤x→x_3=rowsF many more at_)
 (repeat' (first|apply And.intro|intro _))<;>first|assumption|trivial|omega|(grind [i_59_63_95_1,i_59_63_95_0,i_59_0,I64])|trace_state
def l_59:PD Tc.dn k_59.ps→List (IL Tc Tc.dn):=fun x=>(fun (many:Int) (more:Int) (at_:(List Int))=>([⟨78, .fn F78 (fun _=>none),none⟩,⟨91, .fn F91 (fun _=>none),none⟩,⟨63, .fn F63 (fun k=>bif Nat.beq k 0 then some (.inv [.sl 14 .cInt, .bl 1 .rU8, .ar .cU8] (fun zo zv=>(fun (i:Int) (K:(List (Row UInt8))) (A:(List (Nat×List UInt8)))=>i_59_63_95_0 many i K A) zv.1 zv.2.1 zv.2.2.1) (fun zo zv=>(fun (i:Int) (K:(List (Row UInt8))) (A:(List (Nat×List UInt8)))=>(many - i).toNat) zv.1 zv.2.1 zv.2.2.1)) else bif Nat.beq k 1 then some (.inv [.sl 27 .cInt, .sl 8 .cInt, .bl 1 .rU8, .ar .cU8] (fun zo zv=>(fun (k0:Int) (i0:Int) (K0:(List (Row UInt8))) (A0:(List (Nat×List UInt8))) (k:Int) (i:Int) (K:(List (Row UInt8))) (A:(List (Nat×List UInt8)))=>i_59_63_95_1 many k0 i0 K0 A0 k i K A) zo.1 zo.2.1 zo.2.2.1 zo.2.2.2.1 zv.1 zv.2.1 zv.2.2.1 zv.2.2.2.1) (fun zo zv=>(fun (k0:Int) (i0:Int) (K0:(List (Row UInt8))) (A0:(List (Nat×List UInt8))) (k:Int) (i:Int) (K:(List (Row UInt8))) (A:(List (Nat×List UInt8)))=>(many - k).toNat) zo.1 zo.2.1 zo.2.2.1 zo.2.2.2.1 zv.1 zv.2.1 zv.2.2.1 zv.2.2.2.1)) else none),some 95⟩])) x.1 x.2.1 x.2.2.1
theorem l_59_ok:∀x,ILs Try.prog tB (l_59 x):=fun _=>⟨⟨F78_ok,F78_call⟩,⟨F91_ok,F91_call⟩,⟨F63_ok,F63_call⟩,trivial⟩
theorem k_59_ok:k_59.Ok Try.prog tB:=con_ok tB_ok (Δ:=[k_62,k_95,k_47]) ⟨k_62_ok,k_95_ok,k_47_ok,trivial⟩ (Ω:=[]) trivial k_59 F59_ok F59_call (l_59) (l_59_ok) 3 (fun x=>(fun (many:Int) (more:Int) (at_:(List Int))=>(fun k=>bif Nat.beq k 0 then some (.inv [.sl 31 .cInt, .ow 12 .lU8] (fun zo zv=>(fun (i:Int) (out:(List (List UInt8)))=>i_59_0 many more at_ i out) zv.1 zv.2.1) (fun zo zv=>(fun (i:Int) (out:(List (List UInt8)))=>((at_.length:Int) - i).toNat) zv.1 zv.2.1)) else bif Nat.beq k 1026 then some (.frz [7,5000]) else none)) x.1 x.2.1 x.2.2.1) fun x hp=>Eq.mp (by kernel_rfl) (k_59_v x.1 x.2.1 x.2.2.1 hp)
def i_44_0 (many:Int) (more:Int) (at_:(List Int)) (pieces:(List ByteArray)) (i:Int):Prop:=(at_.length:Int)=pieces.length∧(at_.length:Int)=many∧(1≤many∧many≤8∧1≤more∧more≤6)∧AtI (many+more) at_ i
def k_44:Con Tc Tc.dn:=⟨44,[.ty .cInt, .ty .cInt, .ty .lInt, .ty .lStr],fun x=>(fun (many:Int) (more:Int) (at_:(List Int)) (pieces:(List ByteArray))=>True) x.1 x.2.1 x.2.2.1 x.2.2.2.1,[.lStr, .cInt],fun x=>(fun (many:Int) (more:Int) (at_:(List Int)) (pieces:(List ByteArray))=>rebL many more at_ pieces) x.1 x.2.1 x.2.2.1 x.2.2.2.1⟩
theorem k_44_v (many:Int) (more:Int) (at_:(List Int)) (pieces:(List ByteArray)):True∧(decide ((1:Int)≤many∧many≤(8:Int))= !!true→True)∧(decide ((1:Int)≤many∧many≤(8:Int))= !true∧decide ((1:Int)≤many∧many≤(8:Int))= !true∨decide ((1:Int)≤many∧many≤(8:Int))= !!true∧decide ((1:Int)≤more∧more≤(6:Int))= !true→([],(3:Int))=rebL many more at_ pieces)∧((decide ((1:Int)≤many∧many≤(8:Int))= !false∨decide ((1:Int)≤many∧many≤(8:Int))= !false)∧(decide ((1:Int)≤many∧many≤(8:Int))= !!false∨decide ((1:Int)≤more∧more≤(6:Int))= !false)→(¬(↑at_.length:Int)=(↑pieces.length:Int)→([],(1:Int))=rebL many more at_ pieces)∧((↑at_.length:Int)=(↑pieces.length:Int)→((↑at_.length:Int)<many→([],(8:Int))=rebL many more at_ pieces)∧(many≤(↑at_.length:Int)→(many<(↑at_.length:Int)→([],(2:Int))=rebL many more at_ pieces)∧((↑at_.length:Int)≤many→i_44_0 many more at_ pieces (0:Int)∧∀(x:Int),i_44_0 many more at_ pieces x→(x<(↑at_.length:Int)→((0:Int)≤x∧x<(↑at_.length:Int))∧((0:Int)≤gd (0:Int) at_ x.toNat→(0:Int)≤gd (0:Int) at_ x.toNat)∧((0:Int)≤gd (0:Int) at_ x.toNat→(0:Int)≤gd (0:Int) at_ x.toNat)∧((0:Int)≤gd (0:Int) at_ x.toNat→I64 (many+more))∧((0:Int)≤gd (0:Int) at_ x.toNat→(0:Int)≤gd (0:Int) at_ x.toNat)∧((0:Int)≤gd (0:Int) at_ x.toNat→(0:Int)≤gd (0:Int) at_ x.toNat)∧((0:Int)≤gd (0:Int) at_ x.toNat→(0:Int)≤gd (0:Int) at_ x.toNat)∧(gd (0:Int) at_ x.toNat<(0:Int)∨many+more≤gd (0:Int) at_ x.toNat→([],(3:Int))=rebL many more at_ pieces)∧((0:Int)≤gd (0:Int) at_ x.toNat∧gd (0:Int) at_ x.toNat<many+more→((0:Int)≤x∧x≤(↑at_.length:Int))∧(List.take x.toNat at_).length≤(1000000:Nat)∧(decide (gd (0:Int) at_ x.toNat∈List.take x.toNat at_)=true→([],(6:Int))=rebL many more at_ pieces)∧(decide (gd (0:Int) at_ x.toNat∈List.take x.toNat at_)=false→I64 (x+(1:Int))∧i_44_0 many more at_ pieces (x+(1:Int))∧((↑at_.length:Int) - (x+(1:Int))).toNat<((↑at_.length:Int) - x).toNat)))∧((↑at_.length:Int)≤x→pieces.length≤(1000000:Nat)∧(¬alkE pieces=(0:Int)→([],alkE pieces)=rebL many more at_ pieces)∧(alkE pieces=(0:Int)→((1:Int)≤many∧many≤(8:Int)∧(1:Int)≤more∧more≤(6:Int)∧at_.length≤(100:Nat)∧∀(i:Int),i∈at_→(0:Int)≤i∧i<many+more)∧True∧(¬(invL (rowsF many more at_)).snd=(0:Int)→([],(invL (rowsF many more at_)).snd)=rebL many more at_ pieces)∧((invL (rowsF many more at_)).snd=(0:Int)→MxP (invL (rowsF many more at_)).fst pieces∧(mixS (invL (rowsF many more at_)).fst pieces,(0:Int))=rebL many more at_ pieces))))))):=by
 have a1:= @AtI.start (many+more) at_
 have a2:= @AtI.out (many+more) at_
 have a3:= @AtI.twice (many+more) at_
 have a4:= @AtI.step (many+more) at_
 have a5:= @AtI.fin (many+more) at_
 have a6:= @AtI.lo (many+more) at_
 have b1:= @atE_rng (many+more) at_
 have b2:= @reb_mx many more at_ pieces
 unfold rebL
 simp only [Bool.not_false,Bool.not_true,decide_eq_true_eq,decide_eq_false_iff_not]
 (repeat' (first|apply And.intro|intro _))<;>first|assumption|trivial|omega|(focus ((repeat (first|rw [if_pos (by omega)]|rw [if_neg (by omega)]));done))|(grind [i_44_0,I64])|trace_state
theorem k_44_ok:k_44.Ok Try.prog tB:=con_ok tB_ok (Δ:=[k_45,k_57,k_46,k_59,k_58,k_48]) ⟨k_45_ok,k_57_ok,k_46_ok,k_59_ok,k_58_ok,k_48_ok,trivial⟩ (Ω:=[]) trivial k_44 F44_ok F44_call (fun _=>[]) (fun _=>trivial) 0 (fun x=>(fun (many:Int) (more:Int) (at_:(List Int)) (pieces:(List ByteArray))=>(fun k=>bif Nat.beq k 0 then some (.inv [.sl 40 .cInt] (fun zo zv=>(fun (i:Int)=>i_44_0 many more at_ pieces i) zv.1) (fun zo zv=>(fun (i:Int)=>((at_.length:Int) - i).toNat) zv.1)) else none)) x.1 x.2.1 x.2.2.1 x.2.2.2.1) fun x hp=>Eq.mp (by kernel_rfl) (k_44_v x.1 x.2.1 x.2.2.1 x.2.2.2.1)
open Go.RowKit
structure UpV {α:Type} (n:Int) (f:Nat→α) (i:Int) (L:List α):Prop where
 lo:0≤i
 hi:i≤n
 eq:L=(List.range i.toNat).map f
theorem UpV.start {α:Type} {n:Int} {f:Nat→α} (h:0≤n):UpV n f 0 []:=⟨by omega,h,rfl⟩
theorem UpV.step {α:Type} {n:Int} {f:Nat→α} {i:Int} {L:List α} (h:UpV n f i L) (hi:i<n):UpV n f (i+1) (L++[f i.toNat]):=⟨by have:=h.lo;omega,by omega,by
 have:=h.lo
 rw [show (i+1).toNat=i.toNat+1 by omega,List.range_succ,List.map_append, ←h.eq];rfl⟩
theorem UpV.len {α:Type} {n:Int} {f:Nat→α} {i:Int} {L:List α} (h:UpV n f i L):(L.length:Int)=i:=by rw [h.eq];have:=h.lo;simp;omega
theorem UpV.fin {α:Type} {n:Int} {f:Nat→α} {i:Int} {L:List α} (h:UpV n f i L) (hi:n≤i):L=(List.range n.toNat).map f:=by rw [h.eq,show i=n by have:=h.hi;omega]
abbrev nodG (l:Layout) (no:Int) (p:Nat):Int:=l.node no p
def nodesL (l:Layout) (no:Int):List Int:=(List.range (l.data+l.more).toNat).map (nodG l no)
structure StO (s:Stripe):Prop where
 vk:s.vol.K
 no:0≤s.no∧s.no<s.vol.versions.length
 nd:s.nodes=nodesL s.vol.layout s.no
theorem StO.len {s:Stripe} (h:StO s):(s.nodes.length:Int)=s.vol.layout.data+s.vol.layout.more∧s.nodes.length≤14:=by
 have h1:=h.vk.lay.d;have h2:=h.vk.lay.m
 rw [h.nd];unfold nodesL;simp;omega
theorem StO.at_ {s:Stripe} (h:StO s) {p:Int} (h0:0≤p) (h1:p<s.vol.layout.data+s.vol.layout.more):gd 0 s.nodes p.toNat=s.vol.layout.node s.no p:=by
 rw [h.nd];unfold nodesL gd
 rw [List.getElem?_map,List.getElem?_range (by omega)]
 show nodG _ _ _=_
 unfold nodG;rw [show ((p.toNat:Nat):Int)=p by omega]
theorem StO.in_ {s:Stripe} (h:StO s) (p:Int):0≤s.vol.layout.node s.no p∧s.vol.layout.node s.no p<s.vol.nodes.length∧s.no<(gd (⟨false,[]⟩:Shelf) s.vol.nodes (s.vol.layout.node s.no p).toNat).pieces.length:=by
 obtain ⟨a,b⟩:=h.vk.lay.node s.no p
 have c:=h.vk.nds
 refine ⟨a,by omega, ?_⟩
 rw [h.vk.pre.shl a (by omega)];exact h.no.2
theorem StO.bd {s:Stripe} (h:StO s):0≤s.no∧s.no<s.vol.versions.length∧s.vol.versions.length≤64∧s.vol.layout.K:=⟨h.no.1,h.no.2,h.vk.str.2,h.vk.lay⟩
theorem StO.mk' {v:Volume} {no:Int} (h:v.K) (h0:0≤no) (h1:no<v.versions.length):StO ⟨v,no,nodesL v.layout no⟩:=⟨h,⟨h0,h1⟩,rfl⟩
def frB (v:Volume) (no p:Int):Bool:=decide ((gd (⟨false,[]⟩:Shelf) v.nodes (v.layout.node no p).toNat).up=true∧(v.at_ (v.layout.node no p) no).version=gd 0 v.versions no.toNat)
def frL (v:Volume) (no:Int) (k:Nat):List Int:=((List.range k).filter fun p:Nat=>frB v no p).map fun p:Nat=>(p:Int)
def atL (v:Volume) (no:Int) (k:Nat):List Int:=(frL v no k).take v.layout.data.toNat
def pcG (v:Volume) (no:Int) (p:Int):BA:=(v.at_ (v.layout.node no p) no).data
theorem frL_step {v:Volume} {no:Int} {k:Nat}:frL v no (k+1)=if frB v no k=true then frL v no k++[(k:Int)] else frL v no k:=by
 unfold frL
 rw [List.range_succ,List.filter_append,List.map_append]
 by_cases e:frB v no k=true
 ·rw [if_pos e,List.filter_cons_of_pos (by simpa using e)];rfl
 ·rw [if_neg e,List.filter_cons_of_neg (by simpa using e)];simp
structure DtI (v:Volume) (no p:Int) (at_:List Int) (P:List BA):Prop where
 lo:0≤p
 hi:p≤v.layout.data+v.layout.more
 a:at_=atL v no p.toNat
 q:P=at_.map (pcG v no)
theorem DtI.start {v:Volume} {no:Int} (h:v.layout.K):DtI v no 0 [] []:=⟨by omega,by have:=h.d;have:=h.m;omega,by unfold atL frL;simp,rfl⟩
theorem atL_few {v:Volume} {no:Int} {k:Nat}:(atL v no k).length≤v.layout.data.toNat:=by unfold atL;rw [List.length_take];omega
theorem DtI.len {v:Volume} {no p:Int} {at_:List Int} {P:List BA} (h:DtI v no p at_ P) (k:v.layout.K):(at_.length:Int)≤v.layout.data∧P.length=at_.length∧at_.length≤8∧0≤p:=by
 have:=k.d
 have h1:=atL_few (v:=v) (no:=no) (k:=p.toNat)
 rw [←h.a] at h1
 exact ⟨by omega,by rw [h.q,List.length_map],by omega,h.lo⟩
theorem atL_keep {v:Volume} {no:Int} {k:Nat} (h:frB v no k=false∨v.layout.data.toNat≤(atL v no k).length):atL v no (k+1)=atL v no k:=by
 unfold atL at h ⊢
 rw [frL_step]
 by_cases e:frB v no k=true
 ·rw [if_pos e]
  rcases h with h|h
  ·rw [h] at e;simp at e
  ·rw [List.length_take] at h
   rw [List.take_append_of_le_length (by omega)]
 ·rw [if_neg e]
theorem atL_more {v:Volume} {no:Int} {k:Nat} (e:frB v no k=true) (h:(atL v no k).length<v.layout.data.toNat):atL v no (k+1)=atL v no k++[(k:Int)]:=by
 unfold atL at h ⊢
 rw [frL_step,if_pos e]
 rw [List.length_take] at h
 rw [List.take_of_length_le (by simp;omega),List.take_of_length_le (by omega)]
theorem DtI.keep {v:Volume} {no p:Int} {at_:List Int} {P:List BA} (h:DtI v no p at_ P) (hp:p<v.layout.data+v.layout.more) (e:frB v no p=false∨v.layout.data≤at_.length):DtI v no (p+1) at_ P:=by
 have h0:=h.lo
 refine ⟨by omega,by omega, ?_,h.q⟩
 rw [show (p+1).toNat=p.toNat+1 by omega,atL_keep,h.a]
 rcases e with e|e
 ·left;rw [show ((p.toNat:Nat):Int)=p by omega];exact e
 ·right;rw [←h.a];omega
theorem DtI.more {v:Volume} {no p:Int} {at_:List Int} {P:List BA} (h:DtI v no p at_ P) (hp:p<v.layout.data+v.layout.more) (e:frB v no p=true) (hl:(at_.length:Int)<v.layout.data):DtI v no (p+1) (at_++[p]) (P++[pcG v no p]):=by
 have h0:=h.lo
 refine ⟨by omega,by omega, ?_,by rw [h.q,List.map_append];rfl⟩
 rw [show (p+1).toNat=p.toNat+1 by omega,atL_more (by rw [show ((p.toNat:Nat):Int)=p by omega];exact e) (by rw [←h.a];omega), ←h.a,show ((p.toNat:Nat):Int)=p by omega]
abbrev atA (v:Volume) (no:Int):List Int:=atL v no (v.layout.data+v.layout.more).toNat
theorem DtI.fin {v:Volume} {no p:Int} {at_:List Int} {P:List BA} (h:DtI v no p at_ P) (hp:v.layout.data+v.layout.more≤p):at_=atA v no∧P=(atA v no).map (pcG v no):=by
 have e:p=v.layout.data+v.layout.more:=by have:=h.hi;omega
 have h1:at_=atA v no:=by rw [h.a,e]
 exact ⟨h1,by rw [h.q,h1]⟩
def dataL (v:Volume) (no:Int):List BA×Int:=if ((atA v no).length:Int)<v.layout.data then ([],8) else rebL v.layout.data v.layout.more (atA v no) ((atA v no).map (pcG v no))
def stN (v:Volume) (no:Int):Nat→Nat
 |0=>0
 |k+1=>if frB v no k=true then stN v no k|||2^(v.layout.node no k).toNat else stN v no k
def setV (v:Volume) (no:Int):U64:=uN (stN v no (v.layout.data+v.layout.more).toNat)
theorem or_lt {a b k:Nat} (ha:a<2^k) (hb:b<2^k):a|||b<2^k:=Nat.or_lt_two_pow ha hb
theorem stN_lt {v:Volume} {no:Int} (h:v.layout.K):∀k,stN v no k<2^12
 |0=>by unfold stN;exact Nat.two_pow_pos _
 |k+1=>by
  unfold stN
  split
  ·refine or_lt (stN_lt h k) ?_
   have h1:=h.node no k;have h2:=h.n
   exact Nat.pow_lt_pow_right (by omega) (by omega)
  ·exact stN_lt h k
theorem U64.ext' {a b:U64} (h:a.n=b.n):a=b:=by cases a;cases b;simp at h;subst h;rfl
structure SeI (v:Volume) (no p:Int) (o:U64):Prop where
 k:v.layout.K
 lo:0≤p
 hi:p≤v.layout.data+v.layout.more
 eq:o.n=stN v no p.toNat
theorem SeI.start {v:Volume} {no:Int} (h:v.layout.K):SeI v no 0 (uN (Int.toNat 0)):=⟨h,by omega,by have:=h.d;have:=h.m;omega,rfl⟩
theorem SeI.yes {v:Volume} {no p:Int} {o:U64} (h:SeI v no p o) (hp:p<v.layout.data+v.layout.more) (e:frB v no p=true):SeI v no (p+1) (opU BinOp.or o (uN ((uN (Int.toNat 1)).n*2^min (v.layout.node no p).toNat 64))):=by
 have h0:=h.lo
 have h1:=h.k.node no p;have h2:=h.k.n
 refine ⟨h.k,by omega,by omega, ?_⟩
 rw [show (p+1).toNat=p.toNat+1 by omega,opU_n,stN,show ((p.toNat:Nat):Int)=p by omega,if_pos e,h.eq]
 have hlt:2^(v.layout.node no p).toNat<2^12:=Nat.pow_lt_pow_right (by omega) (by omega)
 have e1:(uN ((uN (Int.toNat 1)).n*2^min (v.layout.node no p).toNat 64)).n=2^(v.layout.node no p).toNat:=by
  rw [show min (v.layout.node no p).toNat 64=(v.layout.node no p).toNat by omega,uN_n]
  ·show 1*_=_;rw [Nat.one_mul]
  ·show 1*_<_;rw [Nat.one_mul];omega
 rw [e1];rfl
theorem SeI.no' {v:Volume} {no p:Int} {o:U64} (h:SeI v no p o) (hp:p<v.layout.data+v.layout.more) (e:frB v no p=false):SeI v no (p+1) o:=by
 have h0:=h.lo
 refine ⟨h.k,by omega,by omega, ?_⟩
 rw [show (p+1).toNat=p.toNat+1 by omega,stN,show ((p.toNat:Nat):Int)=p by omega,if_neg (by simp [e]),h.eq]
theorem SeI.fin {v:Volume} {no p:Int} {o:U64} (h:SeI v no p o) (hp:v.layout.data+v.layout.more≤p):o=setV v no:=by
 have e:p=v.layout.data+v.layout.more:=by have:=h.hi;omega
 refine U64.ext' ?_
 unfold setV
 rw [h.eq,e,uN_n (by have:=stN_lt (v:=v) (no:=no) h.k (v.layout.data+v.layout.more).toNat;omega)]
def plcE (v:Volume) (b:Int):Int:=if ¬chkV v=0 then chkV v else if ¬(0≤b∧b≤v.versions.length*v.layout.data - 1) then 3 else 0
def readV (v:Volume) (b:Int):BA×Int:=
 if ¬plcE v b=0 then (ByteArray.empty,plcE v b) else if ¬(dataL v (b / v.layout.data)).2=0 then (ByteArray.empty,(dataL v (b / v.layout.data)).2) else (gd ByteArray.empty (dataL v (b / v.layout.data)).1 (b%v.layout.data).toNat,0)
def freshV (v:Volume) (no:Int):U64×Int:=if ¬chkV v=0 then (uN (Int.toNat 0),chkV v) else if ¬(0≤no∧no≤v.versions.length - 1) then (uN (Int.toNat 0),3) else (setV v no,0)
def plcV (v:Volume) (b:Int):Stripe×Int×Int:=if ¬plcE v b=0 then (⟨⟨⟨0,0,0,0⟩,0,[],[]⟩,0,[]⟩,0,plcE v b) else (⟨v,b / v.layout.data,nodesL v.layout (b / v.layout.data)⟩,b%v.layout.data,0)
theorem plc_ok {v:Volume} {b:Int} (h:plcE v b=0):v.K∧0≤b∧b<v.versions.length*v.layout.data∧0≤b / v.layout.data∧b / v.layout.data<v.versions.length∧0≤b%v.layout.data∧b%v.layout.data<v.layout.data:=by
 unfold plcE at h
 split at h
 ·rename_i h1;exact absurd h h1
 ·rename_i h1
  split at h
  ·simp at h
  ·rename_i h2
   have hk:=chk_iff.1 (Classical.not_not.1 h1)
   have hd:=hk.lay.d
   have h3:=Classical.not_not.1 h2
   exact ⟨hk,h3.1,by omega,Int.ediv_nonneg h3.1 (by omega),Int.ediv_lt_of_lt_mul (by omega) (by omega),Int.emod_nonneg _ (by omega),Int.emod_lt_of_pos _ (by omega)⟩
theorem mul_bd {v:Volume} (h:v.K):0≤(v.versions.length:Int)*v.layout.data∧(v.versions.length:Int)*v.layout.data≤512:=by
 have h1:=h.str;have h2:=h.lay.d
 constructor
 ·exact Int.mul_nonneg (by omega) (by omega)
 ·calc (v.versions.length:Int)*v.layout.data≤64*8:=Int.mul_le_mul (by omega) (by omega) (by omega) (by omega)
   _=512:=rfl
theorem reb_cnt {many more:Int} {at_:List Int} {P:List BA} (h:(rebL many more at_ P).2=0):((rebL many more at_ P).1.length:Int)=many:=by
 unfold rebL at h ⊢
 split at h
 ·simp at h
 ·rename_i h1
  rw [if_neg h1]
  split at h
  ·simp at h
  ·rename_i h2
   rw [if_neg h2]
   split at h
   ·simp at h
   ·rename_i h3
    rw [if_neg h3]
    split at h
    ·simp at h
    ·rename_i h4
     rw [if_neg h4]
     split at h
     ·rename_i h5;exact absurd h h5
     ·rename_i h5
      rw [if_neg h5]
      split at h
      ·rename_i h6;exact absurd h h6
      ·rename_i h6
       rw [if_neg h6]
       split at h
       ·rename_i h7;exact absurd h h7
       ·rename_i h7
        rw [if_neg h7]
        have:=(inv_w (Classical.not_not.1 h7)).1
        have e:(rowsF many more at_).length=at_.length:=by unfold rowsF;simp
        show ((mixS _ _).length:Int)=many
        unfold mixS
        rw [List.length_map];omega
theorem data_cnt {v:Volume} {no:Int} (h:(dataL v no).2=0):((dataL v no).1.length:Int)=v.layout.data:=by
 unfold dataL at h ⊢
 split at h
 ·simp at h
 ·rename_i h1;rw [if_neg h1];exact reb_cnt h
def i_20_0 (v:Volume) (no:Int) (p:Int) (Z:(Stripe×List Int)):Prop:=Z.1.vol=v∧Z.1.no=no∧UpV (v.layout.data+v.layout.more) (nodG v.layout no) p Z.2
def k_20:Con Tc Tc.dn:=⟨20,[.ty .cVolume, .ty .cInt],fun x=>(fun (v:Volume) (no:Int)=>v.layout.K∧0≤no∧no≤63) x.1 x.2.1,[.cStripe],fun x=>(fun (v:Volume) (no:Int)=>⟨v,no,nodesL v.layout no⟩) x.1 x.2.1⟩
theorem k_20_v (v:Volume) (no:Int) (hp:v.layout.K∧0≤no∧no≤63):(v.layout.K∨(1:Int)≤v.layout.data∧v.layout.data≤(8:Int)∧(1:Int)≤v.layout.more∧v.layout.more≤(6:Int))∧i_20_0 v no (0:Int) (Stripe.mk v no [],[])∧∀(x:Int) (x_1:Stripe×List Int),i_20_0 v no x x_1→(x<v.layout.data+v.layout.more→(v.layout.K∧(0:Int)≤no∧no≤(100:Int)∧(0:Int)≤x∧x≤(100:Int))∧(x_1.snd.length+(1:Nat))*(8:Nat)≤(140737488355328:Nat)∧I64 (x+(1:Int))∧i_20_0 v no (x+(1:Int)) (Stripe.mk x_1.fst.vol x_1.fst.no [],x_1.snd++[v.layout.node no x])∧(v.layout.data+v.layout.more - (x+(1:Int))).toNat<(v.layout.data+v.layout.more - x).toNat)∧(v.layout.data+v.layout.more≤x→Stripe.mk x_1.fst.vol x_1.fst.no x_1.snd=Stripe.mk v no (nodesL v.layout no)):=by
 have u1:= @UpV.start Int (v.layout.data+v.layout.more) (nodG v.layout no)
 have u2:= @UpV.step Int (v.layout.data+v.layout.more) (nodG v.layout no)
 have u3:= @UpV.len Int (v.layout.data+v.layout.more) (nodG v.layout no)
 have u4:= @UpV.lo Int (v.layout.data+v.layout.more) (nodG v.layout no)
 have u5:= @UpV.fin Int (v.layout.data+v.layout.more) (nodG v.layout no)
 have u6:∀p:Int,0≤p→nodG v.layout no p.toNat=v.layout.node no p:=fun p h=>by unfold nodG;rw [show ((p.toNat:Nat):Int)=p by omega]
 have u7:(List.range (v.layout.data+v.layout.more).toNat).map (nodG v.layout no)=nodesL v.layout no:=rfl
 have h1:=hp.1.d
 have h2:=hp.1.m
 (repeat' (first|apply And.intro|intro _))<;>first|assumption|trivial|omega|(grind [i_20_0,I64])|trace_state
theorem k_20_ok:k_20.Ok Try.prog tD:=con_ok tD_ok (Δ:=[k_38,k_49]) ⟨k_38_ok,k_49_ok,trivial⟩ (Ω:=[]) trivial k_20 F20_ok F20_call (fun _=>[]) (fun _=>trivial) 0 (fun x=>(fun (v:Volume) (no:Int)=>(fun k=>bif Nat.beq k 0 then some (.inv [.sl 13 .cInt, .sg 3 8 .cInt .cStripe []] (fun zo zv=>(fun (p:Int) (Z:(Stripe×List Int))=>i_20_0 v no p Z) zv.1 zv.2.1) (fun zo zv=>(fun (p:Int) (Z:(Stripe×List Int))=>(v.layout.data+v.layout.more - p).toNat) zv.1 zv.2.1)) else none)) x.1 x.2.1) fun x hp=>Eq.mp (by kernel_rfl) (k_20_v x.1 x.2.1 hp)
def k_22:Con Tc Tc.dn:=⟨22,[.ty .cStripe, .ty .cInt],fun x=>(fun (s:Stripe) (p:Int)=>StO s∧0≤p∧p<s.vol.layout.data+s.vol.layout.more) x.1 x.2.1,[.pPiece],fun x=>(fun (s:Stripe) (p:Int)=>⟨s.vol.at_ (s.vol.layout.node s.no p) s.no⟩) x.1 x.2.1⟩
theorem k_22_v (s:Stripe) (p:Int) (hp:StO s∧0≤p∧p<s.vol.layout.data+s.vol.layout.more):((0:Int)≤p∧p<(↑s.nodes.length:Int))∧((0:Int)≤gd (0:Int) s.nodes p.toNat∧gd (0:Int) s.nodes p.toNat<(↑s.vol.nodes.length:Int))∧((0:Int)≤s.no∧s.no<(↑(gd (Shelf.mk false []) s.vol.nodes (gd (0:Int) s.nodes p.toNat).toNat).pieces.length:Int))∧Ptr.mk (gd (Piece.mk (0:Int) ByteArray.empty) (gd (Shelf.mk false []) s.vol.nodes (gd (0:Int) s.nodes p.toNat).toNat).pieces s.no.toNat)=Ptr.mk (s.vol.at_ (s.vol.layout.node s.no p) s.no):=by
 have h1:=hp.1.len
 have h2:=hp.1.bd
 have h3:= @StO.at_ s hp.1 p hp.2.1 hp.2.2
 have h4:=hp.1.in_ p
 (repeat' (first|apply And.intro|intro _))<;>first|assumption|trivial|omega|(grind [I64])|trace_state
theorem k_22_ok:k_22.Ok Try.prog tD:=con_ok tD_ok (Δ:=[]) trivial (Ω:=[]) trivial k_22 F22_ok F22_call (fun _=>[]) (fun _=>trivial) 0 (fun x=>(fun (s:Stripe) (p:Int)=>(fun _=>none)) x.1 x.2.1) fun x hp=>Eq.mp (by kernel_rfl) (k_22_v x.1 x.2.1 hp)
def k_43:Con Tc Tc.dn:=⟨43,[.ty .cStripe, .ty .cInt],fun x=>(fun (s:Stripe) (p:Int)=>StO s∧0≤p∧p<s.vol.layout.data+s.vol.layout.more) x.1 x.2.1,[.cBool],fun x=>(fun (s:Stripe) (p:Int)=>frB s.vol s.no p) x.1 x.2.1⟩
abbrev z43_0 (s:Stripe) (p:Int):=((gd (Shelf.mk false []) s.vol.nodes (gd (0:Int) s.nodes p.toNat).toNat).up=true→(gd (Shelf.mk false []) s.vol.nodes (gd (0:Int) s.nodes p.toNat).toNat).up=true)
theorem k_43_v (s:Stripe) (p:Int) (hp:StO s∧0≤p∧p<s.vol.layout.data+s.vol.layout.more):((0:Int)≤p∧p<(↑s.nodes.length:Int))∧((0:Int)≤gd (0:Int) s.nodes p.toNat∧gd (0:Int) s.nodes p.toNat<(↑s.vol.nodes.length:Int))∧(z43_0 s p)∧(z43_0 s p)∧((gd (Shelf.mk false []) s.vol.nodes (gd (0:Int) s.nodes p.toNat).toNat).up=true→StO s∧(0:Int)≤p∧p<s.vol.layout.data+s.vol.layout.more)∧(z43_0 s p)∧(z43_0 s p)∧(z43_0 s p)∧(z43_0 s p)∧(z43_0 s p)∧(z43_0 s p)∧(z43_0 s p)∧(z43_0 s p)∧((gd (Shelf.mk false []) s.vol.nodes (gd (0:Int) s.nodes p.toNat).toNat).up=true→(0:Int)≤s.no∧s.no<(↑s.vol.versions.length:Int))∧(z43_0 s p)∧(z43_0 s p)∧(z43_0 s p)∧(z43_0 s p)∧((gd (Shelf.mk false []) s.vol.nodes (gd (0:Int) s.nodes p.toNat).toNat).up&&(s.vol.at_ (s.vol.layout.node s.no p) s.no).version==gd (0:Int) s.vol.versions s.no.toNat)=frB s.vol s.no p:=by
 delta z43_0
 have h1:=hp.1.len
 have h2:=hp.1.bd
 have h3:= @StO.at_ s hp.1 p hp.2.1 hp.2.2
 have h4:=hp.1.in_ p
 unfold frB
 (try simp only [Bool.not_false,Bool.not_true,decide_eq_true_eq,decide_eq_false_iff_not])
 (repeat' (first|apply And.intro|intro _))<;>first|assumption|trivial|omega|(grind [I64])|trace_state
theorem k_43_ok:k_43.Ok Try.prog tD:=con_ok tD_ok (Δ:=[k_22]) ⟨k_22_ok,trivial⟩ (Ω:=[]) trivial k_43 F43_ok F43_call (fun _=>[]) (fun _=>trivial) 0 (fun x=>(fun (s:Stripe) (p:Int)=>(fun _=>none)) x.1 x.2.1) fun x hp=>Eq.mp (by kernel_rfl) (k_43_v x.1 x.2.1 hp)
def i_55_0 (s:Stripe) (p:Int) (o:U64):Prop:=SeI s.vol s.no p o
def k_55:Con Tc Tc.dn:=⟨55,[.ty .cStripe],fun x=>(fun (s:Stripe)=>StO s) x.1,[.cU64],fun x=>(fun (s:Stripe)=>setV s.vol s.no) x.1⟩
theorem k_55_v (s:Stripe) (hp:StO s):i_55_0 s (0:Int) (uN (Int.toNat (0:Int)))∧∀(x:Int) (x_1:U64),i_55_0 s x x_1→(x<(↑s.nodes.length:Int)→((0:Int)≤x∧x<(↑s.nodes.length:Int))∧(StO s∧(0:Int)≤x∧x<s.vol.layout.data+s.vol.layout.more)∧(frB s.vol s.no x=true→(0:Int)≤gd (0:Int) s.nodes x.toNat∧I64 (x+(1:Int))∧i_55_0 s (x+(1:Int)) (opU BinOp.or x_1 (uN ((uN (Int.toNat (1:Int))).n*(2:Nat)^min (gd (0:Int) s.nodes x.toNat).toNat (64:Nat))))∧((↑s.nodes.length:Int) - (x+(1:Int))).toNat<((↑s.nodes.length:Int) - x).toNat)∧(frB s.vol s.no x=false→I64 (x+(1:Int))∧i_55_0 s (x+(1:Int)) x_1∧((↑s.nodes.length:Int) - (x+(1:Int))).toNat<((↑s.nodes.length:Int) - x).toNat))∧((↑s.nodes.length:Int)≤x→x_1=setV s.vol s.no):=by
 have h1:=hp.len
 have h2:=hp.bd
 have h3:=fun p=> @StO.at_ s hp p
 have h4:=hp.in_
 have a1:= @SeI.start s.vol s.no
 have a2:= @SeI.yes s.vol s.no
 have a3:= @SeI.no' s.vol s.no
 have a4:= @SeI.fin s.vol s.no
 have a5:=fun p o=> @SeI.lo s.vol s.no p o
 have a6:= @mea_lt'
 (try simp only [Bool.not_false,Bool.not_true,decide_eq_true_eq,decide_eq_false_iff_not])
 (repeat' (first|apply And.intro|intro _))<;>first|assumption|trivial|omega|(grind [i_55_0,I64])|trace_state
theorem k_55_ok:k_55.Ok Try.prog tD:=con_ok tD_ok (Δ:=[k_43]) ⟨k_43_ok,trivial⟩ (Ω:=[]) trivial k_55 F55_ok F55_call (fun _=>[]) (fun _=>trivial) 0 (fun x=>(fun (s:Stripe)=>(fun k=>bif Nat.beq k 0 then some (.inv [.sl 8 .cInt, .sl 2 .cU64] (fun zo zv=>(fun (p:Int) (o:U64)=>i_55_0 s p o) zv.1 zv.2.1) (fun zo zv=>(fun (p:Int) (o:U64)=>((s.nodes.length:Int) - p).toNat) zv.1 zv.2.1)) else none)) x.1) fun x hp=>Eq.mp (by kernel_rfl) (k_55_v x.1 hp)
def i_18_0 (s:Stripe) (p:Int) (at_:(List Int)) (P:(List ByteArray)):Prop:=DtI s.vol s.no p at_ P
def k_18:Con Tc Tc.dn:=⟨18,[.ty .cStripe],fun x=>(fun (s:Stripe)=>StO s) x.1,[.lStr, .cInt],fun x=>(fun (s:Stripe)=>dataL s.vol s.no) x.1⟩
theorem k_18_v (s:Stripe) (hp:StO s):i_18_0 s (0:Int) [] []∧∀(x:Int) (x_1:List Int) (x_2:List ByteArray),i_18_0 s x x_1 x_2→(x<(↑s.nodes.length:Int)→(StO s∧(0:Int)≤x∧x<s.vol.layout.data+s.vol.layout.more)∧(frB s.vol s.no x=true→frB s.vol s.no x=true)∧(frB s.vol s.no x=true→frB s.vol s.no x=true)∧(frB s.vol s.no x=true→frB s.vol s.no x=true)∧(frB s.vol s.no x=true→frB s.vol s.no x=true)∧(frB s.vol s.no x=true→frB s.vol s.no x=true)∧(frB s.vol s.no x=true→frB s.vol s.no x=true)∧(frB s.vol s.no x=true→frB s.vol s.no x=true)∧(frB s.vol s.no x=true∧(↑x_1.length:Int)<s.vol.layout.data→(x_1.length+(1:Nat))*(8:Nat)≤(140737488355328:Nat)∧(StO s∧(0:Int)≤x∧x<s.vol.layout.data+s.vol.layout.more)∧(x_2.length+(1:Nat))*(16:Nat)≤(140737488355328:Nat)∧I64 (x+(1:Int))∧i_18_0 s (x+(1:Int)) (x_1++[x]) (x_2++[(s.vol.at_ (s.vol.layout.node s.no x) s.no).data])∧((↑s.nodes.length:Int) - (x+(1:Int))).toNat<((↑s.nodes.length:Int) - x).toNat)∧(frB s.vol s.no x=false∨s.vol.layout.data≤(↑x_1.length:Int)→I64 (x+(1:Int))∧i_18_0 s (x+(1:Int)) x_1 x_2∧((↑s.nodes.length:Int) - (x+(1:Int))).toNat<((↑s.nodes.length:Int) - x).toNat))∧((↑s.nodes.length:Int)≤x→((↑x_1.length:Int)<s.vol.layout.data→([],(8:Int))=dataL s.vol s.no)∧(s.vol.layout.data≤(↑x_1.length:Int)→True∧rebL s.vol.layout.data s.vol.layout.more x_1 x_2=dataL s.vol s.no)):=by
 have h1:=hp.len
 have h2:=hp.bd
 have h3:=hp.in_
 have d1:= @DtI.start s.vol s.no
 have d2:= @DtI.keep s.vol s.no
 have d3:= @DtI.more s.vol s.no
 have d4:= @DtI.fin s.vol s.no
 have d5:= @DtI.len s.vol s.no
 have d6:= @mea_lt'
 have e0:∀p:Int,pcG s.vol s.no p=(gd (⟨0,ByteArray.empty⟩:Piece) (gd (⟨false,[]⟩:Shelf) s.vol.nodes (s.vol.layout.node s.no p).toNat).pieces s.no.toNat).data:=fun p=>rfl
 have e1:((atA s.vol s.no).length:Int)<s.vol.layout.data→dataL s.vol s.no=([],8):=fun h=>by unfold dataL;rw [if_pos h]
 have e2:s.vol.layout.data≤((atA s.vol s.no).length:Int)→dataL s.vol s.no=rebL s.vol.layout.data s.vol.layout.more (atA s.vol s.no) ((atA s.vol s.no).map (pcG s.vol s.no)):=fun h=>by unfold dataL;rw [if_neg (by omega)]
 (try simp only [Bool.not_false,Bool.not_true,decide_eq_true_eq,decide_eq_false_iff_not])
 (repeat' (first|apply And.intro|intro _))<;>first|assumption|trivial|omega|(grind [i_18_0,I64])|trace_state
theorem k_18_ok:k_18.Ok Try.prog tD:=con_ok tD_ok (Δ:=[k_43,k_22,k_44]) ⟨k_43_ok,k_22_ok,(k_44_ok.two rfl rfl rfl),trivial⟩ (Ω:=[]) trivial k_18 F18_ok F18_call (fun _=>[]) (fun _=>trivial) 0 (fun x=>(fun (s:Stripe)=>(fun k=>bif Nat.beq k 0 then some (.inv [.sl 10 .cInt, .ow 4 .cInt, .ow 5 .cStr] (fun zo zv=>(fun (p:Int) (at_:(List Int)) (P:(List ByteArray))=>i_18_0 s p at_ P) zv.1 zv.2.1 zv.2.2.1) (fun zo zv=>(fun (p:Int) (at_:(List Int)) (P:(List ByteArray))=>((s.nodes.length:Int) - p).toNat) zv.1 zv.2.1 zv.2.2.1)) else none)) x.1) fun x hp=>Eq.mp (by kernel_rfl) (k_18_v x.1 hp)
def k_33:Con Tc Tc.dn:=⟨33,[.ty .cVolume, .ty .cInt],fun x=>(fun (v:Volume) (no:Int)=>v.K∧0≤no∧no<v.versions.length) x.1 x.2.1,[.cU64],fun x=>(fun (v:Volume) (no:Int)=>setV v no) x.1 x.2.1⟩
theorem k_33_v (v:Volume) (no:Int) (hp:v.K∧0≤no∧no<v.versions.length):(v.layout.K∧(0:Int)≤no∧no≤(63:Int))∧StO (Stripe.mk v no (nodesL v.layout no))∧setV v no=setV v no:=by
 have h1:= @StO.mk' v no hp.1 hp.2.1 hp.2.2
 have h2:=hp.1.lay
 have h3:=hp.1.str
 (repeat' (first|apply And.intro|intro _))<;>first|assumption|trivial|omega|(grind [])|trace_state
theorem k_33_ok:k_33.Ok Try.prog tD:=con_ok tD_ok (Δ:=[k_20,k_55]) ⟨k_20_ok,k_55_ok,trivial⟩ (Ω:=[]) trivial k_33 F33_ok F33_call (fun _=>[]) (fun _=>trivial) 0 (fun x=>(fun (v:Volume) (no:Int)=>(fun _=>none)) x.1 x.2.1) fun x hp=>Eq.mp (by kernel_rfl) (k_33_v x.1 x.2.1 hp)
def k_11:Con Tc Tc.dn:=⟨11,[.ty .cVolume, .ty .cInt],fun x=>(fun (v:Volume) (no:Int)=>True) x.1 x.2.1,[.cU64, .cInt],fun x=>(fun (v:Volume) (no:Int)=>freshV v no) x.1 x.2.1⟩
theorem k_11_v (v:Volume) (no:Int):True∧(¬chkV v=(0:Int)→(uN (Int.toNat (0:Int)),chkV v)=freshV v no)∧(chkV v=(0:Int)→I64 ((↑v.versions.length:Int) - (1:Int))∧True∧(decide ((0:Int)≤no∧no≤(↑v.versions.length:Int) - (1:Int))= !true→(uN (Int.toNat (0:Int)),(3:Int))=freshV v no)∧(decide ((0:Int)≤no∧no≤(↑v.versions.length:Int) - (1:Int))= !false→(v.K∧(0:Int)≤no∧no<(↑v.versions.length:Int))∧(setV v no,(0:Int))=freshV v no)):=by
 have h1:= @chk_iff v
 have h2:v.K→v.versions.length≤64:=fun h=>h.str.2
 unfold freshV
 (try simp only [Bool.not_false,Bool.not_true,decide_eq_true_eq,decide_eq_false_iff_not])
 (repeat' (first|apply And.intro|intro _))<;>first|assumption|trivial|omega|(grind [I64])|trace_state
theorem k_11_ok:k_11.Ok Try.prog tD:=con_ok tD_ok (Δ:=[k_10,k_27,k_33]) ⟨k_10_ok,k_27_ok,k_33_ok,trivial⟩ (Ω:=[]) trivial k_11 F11_ok F11_call (fun _=>[]) (fun _=>trivial) 0 (fun x=>(fun (v:Volume) (no:Int)=>(fun _=>none)) x.1 x.2.1) fun x hp=>Eq.mp (by kernel_rfl) (k_11_v x.1 x.2.1)
def k_17:Con Tc Tc.dn:=⟨17,[.ty .cVolume, .ty .cInt],fun x=>(fun (v:Volume) (b:Int)=>True) x.1 x.2.1,[.cStripe, .cInt, .cInt],fun x=>(fun (v:Volume) (b:Int)=>plcV v b) x.1 x.2.1⟩
theorem k_17_v (v:Volume) (b:Int):True∧(¬chkV v=(0:Int)→(Stripe.mk (Volume.mk (Layout.mk (0:Int) (0:Int) (0:Int) (0:Int)) (0:Int) [] []) (0:Int) [],(0:Int),chkV v)=plcV v b)∧(chkV v=(0:Int)→I64 ((↑v.versions.length:Int)*v.layout.data)∧I64 ((↑v.versions.length:Int)*v.layout.data - (1:Int))∧True∧(decide ((0:Int)≤b∧b≤(↑v.versions.length:Int)*v.layout.data - (1:Int))= !true→(Stripe.mk (Volume.mk (Layout.mk (0:Int) (0:Int) (0:Int) (0:Int)) (0:Int) [] []) (0:Int) [],(0:Int),(3:Int))=plcV v b)∧(decide ((0:Int)≤b∧b≤(↑v.versions.length:Int)*v.layout.data - (1:Int))= !false→v.layout.data≠(0:Int)∧I64 (b.tdiv v.layout.data)∧(v.layout.K∧(0:Int)≤b.tdiv v.layout.data∧b.tdiv v.layout.data≤(63:Int))∧v.layout.data≠(0:Int)∧(Stripe.mk v (b.tdiv v.layout.data) (nodesL v.layout (b.tdiv v.layout.data)),b.tmod v.layout.data,(0:Int))=plcV v b)):=by
 have h1:= @chk_iff v
 have h2:= @mul_bd v
 have h3:= @plc_ok v b
 have h4:v.K→v.layout.K∧1≤v.layout.data∧v.layout.data≤8∧v.versions.length≤64:=fun h=>⟨h.lay,h.lay.d.1,h.lay.d.2,h.str.2⟩
 have t1:0≤b→b.tdiv v.layout.data=b / v.layout.data:=fun h=>Int.tdiv_eq_ediv_of_nonneg h
 have t2:0≤b→0<v.layout.data→b.tmod v.layout.data=b%v.layout.data:=tmod_pos
 have p0:chkV v=0→0≤b→b≤v.versions.length*v.layout.data - 1→plcE v b=0:=fun h h5 h6=>by unfold plcE;rw [if_neg (by simp [h]),if_neg (by omega)]
 have p1:¬chkV v=0→plcV v b=(⟨⟨⟨0,0,0,0⟩,0,[],[]⟩,0,[]⟩,0,chkV v):=fun h=>by
  have e:plcE v b=chkV v:=by unfold plcE;rw [if_pos h]
  unfold plcV;rw [e,if_pos h]
 have p2:chkV v=0→¬(0≤b∧b≤v.versions.length*v.layout.data - 1)→plcV v b=(⟨⟨⟨0,0,0,0⟩,0,[],[]⟩,0,[]⟩,0,3):=fun h h2=>by
  have e:plcE v b=3:=by unfold plcE;rw [if_neg (by simp [h]),if_pos h2]
  unfold plcV;rw [e,if_pos (by simp)]
 have p3:plcE v b=0→plcV v b=(⟨v,b / v.layout.data,nodesL v.layout (b / v.layout.data)⟩,b%v.layout.data,0):=fun h=>by unfold plcV;rw [if_neg (by simp [h])]
 (try simp only [Bool.not_false,Bool.not_true,decide_eq_true_eq,decide_eq_false_iff_not])
 (repeat' (first|apply And.intro|intro _))<;>first|assumption|trivial|omega|(grind [I64])|trace_state
theorem k_17_ok:k_17.Ok Try.prog tD:=con_ok tD_ok (Δ:=[k_10,k_27,k_20]) ⟨k_10_ok,k_27_ok,k_20_ok,trivial⟩ (Ω:=[]) trivial k_17 F17_ok F17_call (fun _=>[]) (fun _=>trivial) 0 (fun x=>(fun (v:Volume) (b:Int)=>(fun _=>none)) x.1 x.2.1) fun x hp=>Eq.mp (by kernel_rfl) (k_17_v x.1 x.2.1)
def k_9:Con Tc Tc.dn:=⟨9,[.ty .cVolume, .ty .cInt],fun x=>(fun (v:Volume) (b:Int)=>True) x.1 x.2.1,[.cStr, .cInt],fun x=>(fun (v:Volume) (b:Int)=>readV v b) x.1 x.2.1⟩
theorem k_9_v (v:Volume) (b:Int):True∧(¬(plcV v b).snd.snd=(0:Int)→(ByteArray.mk #[],(plcV v b).snd.snd)=readV v b)∧((plcV v b).snd.snd=(0:Int)→StO (plcV v b).fst∧(¬(dataL (plcV v b).fst.vol (plcV v b).fst.no).snd=(0:Int)→(ByteArray.mk #[],(dataL (plcV v b).fst.vol (plcV v b).fst.no).snd)=readV v b)∧((dataL (plcV v b).fst.vol (plcV v b).fst.no).snd=(0:Int)→((0:Int)≤(plcV v b).snd.fst∧(plcV v b).snd.fst<(↑(dataL (plcV v b).fst.vol (plcV v b).fst.no).fst.length:Int))∧(gd ByteArray.empty (dataL (plcV v b).fst.vol (plcV v b).fst.no).fst (plcV v b).snd.fst.toNat,(0:Int))=readV v b)):=by
 have q1:(plcV v b).2.2=plcE v b:=by
  unfold plcV
  by_cases h:plcE v b=0
  ·rw [if_neg (by simp [h]),h]
  ·rw [if_pos h]
 have q2:plcE v b=0→(plcV v b).1=⟨v,b / v.layout.data,nodesL v.layout (b / v.layout.data)⟩∧(plcV v b).2.1=b%v.layout.data:=fun h=>by unfold plcV;rw [if_neg (by simp [h])];exact ⟨rfl,rfl⟩
 have q3:plcE v b=0→StO ⟨v,b / v.layout.data,nodesL v.layout (b / v.layout.data)⟩:=fun h=>by
  obtain ⟨a1,a2,a3,a4,a5,a6,a7⟩:=plc_ok h
  exact StO.mk' a1 a4 a5
 have q4:= @plc_ok v b
 have q5:= @data_cnt v (b / v.layout.data)
 have r1:¬plcE v b=0→readV v b=(ByteArray.empty,plcE v b):=fun h=>by unfold readV;rw [if_pos h]
 have r2:plcE v b=0→¬(dataL v (b / v.layout.data)).2=0→readV v b=(ByteArray.empty,(dataL v (b / v.layout.data)).2):=fun h h2=>by unfold readV;rw [if_neg (by simp [h]),if_pos h2]
 have r3:plcE v b=0→(dataL v (b / v.layout.data)).2=0→readV v b=(gd ByteArray.empty (dataL v (b / v.layout.data)).1 (b%v.layout.data).toNat,0):=fun h h2=>by unfold readV;rw [if_neg (by simp [h]),if_neg (by simp [h2])]
 have he:(ByteArray.mk #[])=ByteArray.empty:=rfl
 simp only [he,q1]
 (try simp only [Bool.not_false,Bool.not_true,decide_eq_true_eq,decide_eq_false_iff_not])
 (repeat' (first|apply And.intro|intro _))<;>first|assumption|trivial|omega|(grind [I64])|trace_state
theorem k_9_ok:k_9.Ok Try.prog tD:=con_ok tD_ok (Δ:=[k_17,k_18]) ⟨k_17_ok,k_18_ok,trivial⟩ (Ω:=[]) trivial k_9 F9_ok F9_call (fun _=>[]) (fun _=>trivial) 0 (fun x=>(fun (v:Volume) (b:Int)=>(fun _=>none)) x.1 x.2.1) fun x hp=>Eq.mp (by kernel_rfl) (k_9_v x.1 x.2.1)
open Go.RowKit
def o_50:ConO Tc Tc.dn:=⟨50,[.ty .lInt],fun x=>((x.1.length:Nat):Int)*8≤140737488355328, .cInt,fun x=>x.1⟩
theorem o_50_ok:o_50.Ok Try.prog tD:=⟨⟨F50_call,fun _=>rfl⟩,fun x N hp=>clone_fo (sz:=1) (by_:=8) F50_ok (tD.ea N.ρ .cInt) (fun y=>tD_ok.pu1 N .cInt y rfl) (by decide) rfl x.1 hp⟩
def o_52:ConO Tc Tc.dn:=⟨52,[.ty .lPiece],fun x=>((x.1.length:Nat):Int)*24≤140737488355328, .cPiece,fun x=>x.1⟩
theorem o_52_ok:o_52.Ok Try.prog tD:=⟨⟨F52_call,fun _=>rfl⟩,fun x N hp=>clone_fo (sz:=2) (by_:=24) F52_ok (tD.ea N.ρ .cPiece) (fun y=>tD_ok.pu1 N .cPiece y rfl) (by decide) rfl x.1 hp⟩
abbrev ArP:Type:=List (Nat×List Piece)
theorem gd_setV {α:Type} {d:α} {l:List α} {i j:Nat} {x:α} (hi:i<l.length):gd d (l.set i x) j=if i=j then x else gd d l j:=gd_set2 hi
structure OwV (L:List Shelf) (i:Int) (K:List ShelfR) (A:ArP):Prop where
 lo:0≤i
 hi:i≤L.length
 len:K.length=L.length
 up:∀j,j<L.length→(gd (⟨false,Row.no Piece⟩:ShelfR) K j).up=(gd (⟨false,[]⟩:Shelf) L j).up
 own:∀j,j<i.toNat→(gd (⟨false,Row.no Piece⟩:ShelfR) K j).pieces.mine A∧lkA A (gd (⟨false,Row.no Piece⟩:ShelfR) K j).pieces.id=(gd (⟨false,[]⟩:Shelf) L j).pieces
 fix:∀j,i.toNat≤j→j<L.length→(gd (⟨false,Row.no Piece⟩:ShelfR) K j).pieces=Row.fix Piece (gd (⟨false,[]⟩:Shelf) L j).pieces
 inj:∀j k,j<i.toNat→k<i.toNat→(gd (⟨false,Row.no Piece⟩:ShelfR) K j).pieces.id=(gd (⟨false,Row.no Piece⟩:ShelfR) K k).pieces.id→j=k
theorem OwV.start {L:List Shelf}:OwV L 0 (L.map fun x=>(⟨x.up,Row.fix Piece x.pieces⟩:ShelfR)) []:=by
 have e:∀j,j<L.length→gd (⟨false,Row.no Piece⟩:ShelfR) (L.map fun x=>(⟨x.up,Row.fix Piece x.pieces⟩:ShelfR)) j=⟨(gd (⟨false,[]⟩:Shelf) L j).up,Row.fix Piece (gd (⟨false,[]⟩:Shelf) L j).pieces⟩:=fun j hj=>by
  unfold gd;rw [List.getElem?_map,List.getElem?_eq_getElem hj];rfl
 exact ⟨by omega,by omega,by simp,fun j hj=>by rw [e j hj],fun j hj=>by simp at hj,fun j _ hj=>by rw [e j hj],fun j k hj=>by simp at hj⟩
theorem OwV.cur {L:List Shelf} {i:Int} {K:List ShelfR} {A:ArP} (h:OwV L i K A) (hi:i<L.length):(gd (⟨false,Row.no Piece⟩:ShelfR) K i.toNat).pieces=Row.fix Piece (gd (⟨false,[]⟩:Shelf) L i.toNat).pieces:=h.fix _ (Nat.le_refl _) (by have:=h.lo;omega)
theorem OwV.step {L:List Shelf} {i:Int} {K:List ShelfR} {A:ArP} {id:Nat} {b:Bool} (h:OwV L i K A) (hi:i<L.length) (hid:¬hasA A id) (hb:b=(gd (⟨false,Row.no Piece⟩:ShelfR) K i.toNat).up):OwV L (i+1) (K.set i.toNat ⟨b,Row.at Piece id (gd (⟨false,[]⟩:Shelf) L i.toNat).pieces.length⟩) ((id,(gd (⟨false,[]⟩:Shelf) L i.toNat).pieces)::A):=by
 have h0:=h.lo;have hl:=h.len
 have hik:i.toNat<K.length:=by omega
 have old:∀j,j<i.toNat→(gd (⟨false,Row.no Piece⟩:ShelfR) K j).pieces.id≠id:=fun j hj e=>hid (e▸(h.own j hj).1.2.1)
 refine ⟨by omega,by omega,by rw [List.length_set];exact hl,fun j hj=> ?_,fun j hj=> ?_,fun j h1 hj=> ?_,fun j k hj hk he=> ?_⟩
 ·rw [gd_setV hik]
  split
  ·rename_i e;rw [hb, ←e];exact h.up _ (by omega)
  ·exact h.up j hj
 ·rw [gd_setV hik]
  split
  ·rename_i e;subst e
   refine ⟨⟨rfl,hasA_cons.2 (.inl rfl), ?_⟩, ?_⟩
   ·show (lkA _ id).length=_;rw [lkA_cons,if_pos rfl];rfl
   ·show lkA _ id=_;rw [lkA_cons,if_pos rfl]
  ·rename_i e
   have hj2:j<i.toNat:=by omega
   obtain ⟨q1,q2⟩:=h.own j hj2
   have hne:=old j hj2
   exact ⟨⟨q1.1,hasA_cons.2 (.inr q1.2.1),by rw [lkA_cons,if_neg hne];exact q1.2.2⟩,by rw [lkA_cons,if_neg hne];exact q2⟩
 ·rw [gd_setV hik,if_neg (by omega)];exact h.fix j (by omega) hj
 ·rw [gd_setV hik,gd_setV hik] at he
  by_cases e1:i.toNat=j<;>by_cases e2:i.toNat=k
  ·omega
  ·rw [if_pos e1,if_neg e2] at he
   exact absurd he.symm (old k (by omega))
  ·rw [if_neg e1,if_pos e2] at he
   exact absurd he (old j (by omega))
  ·rw [if_neg e1,if_neg e2] at he
   exact h.inj j k (by omega) (by omega) he
structure ShO (L:List Shelf) (K:List ShelfR) (A:ArP):Prop where
 len:K.length=L.length
 up:∀j,j<L.length→(gd (⟨false,Row.no Piece⟩:ShelfR) K j).up=(gd (⟨false,[]⟩:Shelf) L j).up
 own:∀j,j<L.length→(gd (⟨false,Row.no Piece⟩:ShelfR) K j).pieces.mine A∧lkA A (gd (⟨false,Row.no Piece⟩:ShelfR) K j).pieces.id=(gd (⟨false,[]⟩:Shelf) L j).pieces
 inj:∀j k,j<L.length→k<L.length→(gd (⟨false,Row.no Piece⟩:ShelfR) K j).pieces.id=(gd (⟨false,Row.no Piece⟩:ShelfR) K k).pieces.id→j=k
theorem OwV.fin {L:List Shelf} {i:Int} {K:List ShelfR} {A:ArP} (h:OwV L i K A) (hi:L.length≤i):ShO L K A:=by
 have hh:=h.hi
 exact ⟨h.len,h.up,fun j hj=>h.own j (by omega),fun j k hj hk=>h.inj j k (by omega) (by omega)⟩
theorem mine_get {A:ArP} {r:Row Piece} (h:r.mine A):r.get A=lkA A r.id:=by unfold Row.get;rw [h.1]
theorem ShO.view {L:List Shelf} {K:List ShelfR} {A:ArP} (h:ShO L K A):(∀x:ShelfR,x∈K→x.pieces.ok A∧x.pieces.kd≠RK.nil)∧List.map (fun x:ShelfR=>(⟨x.up,x.pieces.get A⟩:Shelf)) K=L:=by
 refine ⟨gd_all2 (d:=(⟨false,Row.no Piece⟩:ShelfR)) fun j hj=> ?_, ?_⟩
 ·obtain ⟨q1,q2⟩:=h.own j (by rw [←h.len];exact hj)
  exact ⟨Row.mine.ok q1,by rw [q1.1];simp⟩
 ·refine List.ext_getElem (by simp [h.len]) fun j h1 h2=> ?_
  simp at h1
  obtain ⟨q1,q2⟩:=h.own j h2
  have u:=h.up j h2
  have e1:gd (⟨false,Row.no Piece⟩:ShelfR) K j=K[j]:=by unfold gd;rw [List.getElem?_eq_getElem h1];rfl
  have e2:gd (⟨false,[]⟩:Shelf) L j=L[j]:=by unfold gd;rw [List.getElem?_eq_getElem h2];rfl
  rw [e1] at q1 q2 u
  rw [e2] at q2 u
  rw [List.getElem_map,mine_get q1,q2,u]
theorem OwV.done {v:Volume} {i:Int} {K:List ShelfR} {A:ArP} (h:OwV v.nodes i K A) (hi:v.nodes.length≤i):(∀x:ShelfR,x∈K→True∧x.pieces.ok A∧x.pieces.kd≠RK.nil)∧(⟨v.layout,v.size,v.versions,List.map (fun x:ShelfR=>(⟨x.up,x.pieces.get A⟩:Shelf)) K⟩:Volume)=v:=by
 obtain ⟨e1,e2⟩:=(h.fin hi).view
 exact ⟨fun x hx=>⟨trivial,e1 x hx⟩,by rw [e2]⟩
theorem OwV.rw {v:Volume} (k:v.K) {i:Int} {K:List ShelfR} {A:ArP} (h:OwV v.nodes i K A) (hi:i<v.nodes.length):(gd (⟨false,Row.no Piece⟩:ShelfR) K i.toNat).pieces.ok A∧(gd (⟨false,Row.no Piece⟩:ShelfR) K i.toNat).pieces.kd≠RK.nil∧(gd (⟨false,Row.no Piece⟩:ShelfR) K i.toNat).pieces.get A=(gd (⟨false,[]⟩:Shelf) v.nodes i.toNat).pieces∧(gd (⟨false,[]⟩:Shelf) v.nodes i.toNat).pieces.length≤64:=by
 rw [h.cur hi]
 exact ⟨trivial,(by intro e;cases e),rfl,by rw [k.pre.shl h.lo hi];exact k.str.2⟩
theorem Volume.K.bd {v:Volume} (k:v.K):v.nodes≠[]∧v.nodes.length≤12∧1≤v.nodes.length∧v.versions.length≤64∧1≤v.versions.length:=by
 have h1:=k.nds;have h2:=k.lay.n;have h3:=k.str
 refine ⟨fun e=> ?_,by omega,by omega,h3.2,h3.1⟩
 rw [e] at h1;simp at h1;omega
def stV (v:Volume) (n:Int) (up:Bool):Volume:=⟨v.layout,v.size,v.versions,v.nodes.set n.toNat ⟨up,(gd (⟨false,[]⟩:Shelf) v.nodes n.toNat).pieces⟩⟩
def setR (v:Volume) (n:Int) (up:Bool):Volume×Int:=if ¬chkV v=0 then (⟨⟨0,0,0,0⟩,0,[],[]⟩,chkV v) else if ¬(0≤n∧n≤v.nodes.length - 1) then (⟨⟨0,0,0,0⟩,0,[],[]⟩,3) else (stV v n up,0)
theorem ShO.set {L:List Shelf} {K:List ShelfR} {A:ArP} (h:ShO L K A) {n:Nat} (hn:n<L.length) {up:Bool} {r:Row Piece} (hr:r=(gd (⟨false,Row.no Piece⟩:ShelfR) K n).pieces):ShO (L.set n ⟨up,(gd (⟨false,[]⟩:Shelf) L n).pieces⟩) (K.set n ⟨up,r⟩) A:=by
 have hk:n<K.length:=by rw [h.len];exact hn
 have p1:∀j,(gd (⟨false,Row.no Piece⟩:ShelfR) (K.set n ⟨up,r⟩) j).pieces=(gd (⟨false,Row.no Piece⟩:ShelfR) K j).pieces:=fun j=>by
  rw [gd_setV hk]
  split
  ·rename_i e;rw [←e,hr]
  ·rfl
 have p2:∀j,(gd (⟨false,[]⟩:Shelf) (L.set n ⟨up,(gd (⟨false,[]⟩:Shelf) L n).pieces⟩) j).pieces=(gd (⟨false,[]⟩:Shelf) L j).pieces:=fun j=>by
  rw [gd_setV hn]
  split
  ·rename_i e;rw [←e]
  ·rfl
 refine ⟨by simp [h.len],fun j hj=> ?_,fun j hj=> ?_,fun j k hj hk2 he=> ?_⟩
 ·rw [List.length_set] at hj
  rw [gd_setV hk,gd_setV hn]
  split
  ·rfl
  ·exact h.up j hj
 ·rw [List.length_set] at hj
  rw [p1,p2];exact h.own j hj
 ·rw [List.length_set] at hj hk2
  rw [p1,p1] at he
  exact h.inj j k hj hk2 he
theorem set_done {v:Volume} {i n:Int} {K:List ShelfR} {A:ArP} {up:Bool} {r:Row Piece} (h:OwV v.nodes i K A) (hi:v.nodes.length≤i) (h0:0≤n) (h1:n≤v.nodes.length - 1) (hr:r=(gd (⟨false,Row.no Piece⟩:ShelfR) K n.toNat).pieces):(∀x:ShelfR,x∈K.set n.toNat ⟨up,r⟩→True∧x.pieces.ok A∧x.pieces.kd≠RK.nil)∧(⟨v.layout,v.size,v.versions,List.map (fun x:ShelfR=>(⟨x.up,x.pieces.get A⟩:Shelf)) (K.set n.toNat ⟨up,r⟩)⟩:Volume)=stV v n up:=by
 obtain ⟨e1,e2⟩:=((h.fin hi).set (n:=n.toNat) (by omega) hr).view
 exact ⟨fun x hx=>⟨trivial,e1 x hx⟩,by rw [e2];rfl⟩
def i_21_0 (v:Volume) (i:Int) (K:(List ShelfR)) (A:(List (Nat×List Piece))):Prop:=OwV v.nodes i K A
theorem k_21_v (v:Volume) (hp:v.K):(↑v.versions.length:Int)*(8:Int)≤(140737488355328:Int)∧v.nodes≠[]∧((0:Nat)+v.nodes.length)*(32:Nat)≤(140737488355328:Nat)∧i_21_0 v (0:Int) (List.map (fun x=>ShelfR.mk x.up (Row.fix Piece x.pieces)) ([]++v.nodes)) []∧∀(x:Int) (x_1:List ShelfR) (x_2:List (Nat×List Piece)),i_21_0 v x x_1 x_2→(x<(↑([]++v.nodes).length:Int)→((0:Int)≤x∧x<(↑x_1.length:Int))∧x.toNat<x_1.length∧(gd (ShelfR.mk false (Row.no Piece)) x_1 x.toNat).pieces.ok x_2∧(gd (ShelfR.mk false (Row.no Piece)) x_1 x.toNat).pieces.kd≠RK.nil∧(↑((gd (ShelfR.mk false (Row.no Piece)) x_1 x.toNat).pieces.get x_2).length:Int)*(24:Int)≤(140737488355328:Int)∧((0:Int)≤x∧x<(↑x_1.length:Int))∧∀(id:Nat),¬hasA x_2 id→x.toNat<x_1.length∧I64 (x+(1:Int))∧i_21_0 v (x+(1:Int)) (x_1.set x.toNat (ShelfR.mk (gd (ShelfR.mk false (Row.no Piece)) x_1 x.toNat).up (Row.at Piece id ((gd (ShelfR.mk false (Row.no Piece)) x_1 x.toNat).pieces.get x_2).length))) ((id,(gd (ShelfR.mk false (Row.no Piece)) x_1 x.toNat).pieces.get x_2)::x_2)∧((↑v.nodes.length:Int) - (x+(1:Int))).toNat<((↑v.nodes.length:Int) - x).toNat)∧((↑([]++v.nodes).length:Int)≤x→(∀(x:ShelfR),x∈x_1→True∧x.pieces.ok x_2∧x.pieces.kd≠RK.nil)∧Volume.mk v.layout v.size v.versions (List.map (fun x=>Shelf.mk x.up (x.pieces.get x_2)) x_1)=v):=by
 have a1:= @OwV.start v.nodes
 have a2:= @OwV.rw v
 have a3:= @OwV.step v.nodes
 have a4:= @OwV.done v
 have a5:= @OwV.lo v.nodes
 have a6:= @OwV.len v.nodes
 have a7:= @Volume.K.bd v
 have a8:= @mea_lt'
 (repeat' (first|apply And.intro|intro _))<;>first|assumption|trivial|omega|(grind [i_21_0,I64])|trace_state
def i_14_21_0 (v:Volume) (i:Int) (K:(List ShelfR)) (A:(List (Nat×List Piece))):Prop:=OwV v.nodes i K A
def k_14:Con Tc Tc.dn:=⟨14,[.ty .cVolume, .ty .cInt, .ty .cBool],fun x=>(fun (v:Volume) (n:Int) (up:Bool)=>True) x.1 x.2.1 x.2.2.1,[.cVolume, .cInt],fun x=>(fun (v:Volume) (n:Int) (up:Bool)=>setR v n up) x.1 x.2.1 x.2.2.1⟩
theorem k_14_v (v:Volume) (n:Int) (up:Bool):True∧(¬chkV v=(0:Int)→(Volume.mk (Layout.mk (0:Int) (0:Int) (0:Int) (0:Int)) (0:Int) [] [],chkV v)=setR v n up)∧(chkV v=(0:Int)→I64 ((↑v.nodes.length:Int) - (1:Int))∧True∧(decide ((0:Int)≤n∧n≤(↑v.nodes.length:Int) - (1:Int))= !true→(Volume.mk (Layout.mk (0:Int) (0:Int) (0:Int) (0:Int)) (0:Int) [] [],(3:Int))=setR v n up)∧(decide ((0:Int)≤n∧n≤(↑v.nodes.length:Int) - (1:Int))= !false→(↑v.versions.length:Int)*(8:Int)≤(140737488355328:Int)∧v.nodes≠[]∧((0:Nat)+v.nodes.length)*(32:Nat)≤(140737488355328:Nat)∧i_14_21_0 v (0:Int) (List.map (fun x=>ShelfR.mk x.up (Row.fix Piece x.pieces)) ([]++v.nodes)) []∧∀(x:Int) (x_1:List ShelfR) (x_2:List (Nat×List Piece)),i_14_21_0 v x x_1 x_2→(x<(↑([]++v.nodes).length:Int)→((0:Int)≤x∧x<(↑x_1.length:Int))∧x.toNat<x_1.length∧(gd (ShelfR.mk false (Row.no Piece)) x_1 x.toNat).pieces.ok x_2∧(gd (ShelfR.mk false (Row.no Piece)) x_1 x.toNat).pieces.kd≠RK.nil∧(↑((gd (ShelfR.mk false (Row.no Piece)) x_1 x.toNat).pieces.get x_2).length:Int)*(24:Int)≤(140737488355328:Int)∧((0:Int)≤x∧x<(↑x_1.length:Int))∧∀(id:Nat),¬hasA x_2 id→x.toNat<x_1.length∧I64 (x+(1:Int))∧i_14_21_0 v (x+(1:Int)) (x_1.set x.toNat (ShelfR.mk (gd (ShelfR.mk false (Row.no Piece)) x_1 x.toNat).up (Row.at Piece id ((gd (ShelfR.mk false (Row.no Piece)) x_1 x.toNat).pieces.get x_2).length))) ((id,(gd (ShelfR.mk false (Row.no Piece)) x_1 x.toNat).pieces.get x_2)::x_2)∧((↑v.nodes.length:Int) - (x+(1:Int))).toNat<((↑v.nodes.length:Int) - x).toNat)∧((↑([]++v.nodes).length:Int)≤x→((0:Int)≤n∧n<(↑x_1.length:Int))∧n.toNat<x_1.length∧(∀(x:ShelfR),x∈x_1.set n.toNat (ShelfR.mk up (gd (ShelfR.mk false (Row.no Piece)) x_1 n.toNat).pieces)→True∧x.pieces.ok x_2∧x.pieces.kd≠RK.nil)∧(Volume.mk v.layout v.size v.versions (List.map (fun x=>Shelf.mk x.up (x.pieces.get x_2)) (x_1.set n.toNat (ShelfR.mk up (gd (ShelfR.mk false (Row.no Piece)) x_1 n.toNat).pieces))),(0:Int))=setR v n up))):=by
 have a1:= @OwV.start v.nodes
 have a2:= @OwV.rw v
 have a3:= @OwV.step v.nodes
 have a4:= @OwV.done v
 have a5:= @OwV.lo v.nodes
 have a6:= @OwV.len v.nodes
 have a7:= @Volume.K.bd v
 have a8:= @mea_lt'
 have b1:= @chk_iff v
 have b2:= @set_done v
 have e1:¬chkV v=0→setR v n up=(⟨⟨0,0,0,0⟩,0,[],[]⟩,chkV v):=fun h=>by unfold setR;rw [if_pos h]
 have e2:chkV v=0→¬(0≤n∧n≤v.nodes.length - 1)→setR v n up=(⟨⟨0,0,0,0⟩,0,[],[]⟩,3):=fun h h2=>by unfold setR;rw [if_neg (by simp [h]),if_pos h2]
 have e3:chkV v=0→0≤n→n≤v.nodes.length - 1→setR v n up=(stV v n up,0):=fun h h2 h3=>by unfold setR;rw [if_neg (by simp [h]),if_neg (by omega)]
 (try simp only [Bool.not_false,Bool.not_true,decide_eq_true_eq,decide_eq_false_iff_not])
 (repeat' (first|apply And.intro|intro _))<;>first|assumption|trivial|omega|(grind [i_14_21_0,I64])|trace_state
def l_14:PD Tc.dn k_14.ps→List (IL Tc Tc.dn):=fun x=>(fun (v:Volume) (n:Int) (up:Bool)=>([⟨39, .fn F39 (fun _=>none),none⟩,⟨21, .fn F21 (fun k=>bif Nat.beq k 0 then some (.inv [.sl 15 .cInt, .bl 10 .cShelfR, .ar .cPiece] (fun zo zv=>(fun (i:Int) (K:(List ShelfR)) (A:(List (Nat×List Piece)))=>i_14_21_0 v i K A) zv.1 zv.2.1 zv.2.2.1) (fun zo zv=>(fun (i:Int) (K:(List ShelfR)) (A:(List (Nat×List Piece)))=>((v.nodes.length:Int) - i).toNat) zv.1 zv.2.1 zv.2.2.1)) else none),none⟩,⟨51, .fn F51 (fun _=>none),none⟩,⟨40, .fn F40 (fun _=>none),none⟩])) x.1 x.2.1 x.2.2.1
theorem l_14_ok:∀x,ILs Try.prog tD (l_14 x):=fun _=>⟨⟨F39_ok,F39_call⟩,⟨F21_ok,F21_call⟩,⟨F51_ok,F51_call⟩,⟨F40_ok,F40_call⟩,trivial⟩
theorem k_14_ok:k_14.Ok Try.prog tD:=con_ok tD_ok (Δ:=[k_10,k_27]) ⟨k_10_ok,k_27_ok,trivial⟩ (Ω:=[o_50,o_52]) ⟨o_50_ok,o_52_ok,trivial⟩ k_14 F14_ok F14_call (l_14) (l_14_ok) 3 (fun x=>(fun (v:Volume) (n:Int) (up:Bool)=>(fun _=>none)) x.1 x.2.1 x.2.2.1) fun x hp=>Eq.mp (by kernel_rfl) (k_14_v x.1 x.2.1 x.2.2.1)
open Go.RowKit
theorem fo_ofI {P:Program} {f:FuncId} {as_:List AV} {sz:Nat} {els:List (List AV)} {g':Nat→Option Bk} {k' id:Nat} (hz:sz≠0) (hnob:∀cs,cs∈els→∀c,c∈cs→c.nob1=true) (h:Fi P f as_ (fun _=>none) 0 (.own id sz 0 els.length) g' k') (hg:g' id=some ⟨sz,els⟩):Fo P f as_ sz els:=by
 intro w J vs hJ hG hrc
 have hm:MemAt (E0 w J) J w.heap.size (fun _=>none):=⟨fun id=>by simp [E0],fun id B hg=>by simp at hg,fun id id' b B B' hg=>by simp at hg,fun id b B hg=>by simp at hg,fun b hb=>⟨hJ b hb, .inl hb⟩,Nat.le_refl _,fun id B hg=>by simp at hg,fun _ h=>h.elim,fun _ h=>h.elim⟩
 refine (h (E0 w J) J w.heap.size vs hG hm (fun id hid=>hid.elim) hrc).mono ?_
 rintro e w' ⟨v,E',he,hw,hle,hr,hM,hb,hk⟩
 obtain ⟨k1,k2⟩:=(hM.live id).2 ⟨_,hg⟩
 have hblk:=hM.at_ id _ hg
 have hln:=(hM.len id _ hg (hr.own_sz k2)).symm
 let E1:Env:={ w:=E'.w,kn:=fun j=>j=0,loc:=fun _=>E'.loc id,dead:=fun _=>False,I:=E'.I,ln:=fun _=>E'.ln id,rg:=E'.rg,X:=E'.X }
 refine ⟨v,E1,he,hw,hb, ?_,rfl,fun h=>h, ?_,hln⟩
 ·obtain ⟨n,hn⟩:∃n,n=els.length:=⟨_,rfl⟩
  rw [←hn] at hr ⊢
  cases hr with
  |own hi hd hl hq hs hmm hlc hcc hlnn=>exact .own rfl (fun h=>h) hl hq hs hmm hlc hcc hlnn
  |own0 hi hd hl hlnn=>exact .own0 rfl (fun h=>h) hl hlnn
  |staleO hi hd=>exact absurd hd k2
 ·show BlkAt E1 w.heap.size ⟨sz,els⟩ (E'.loc id)
  cases hl:E'.loc id with
  |none=>rw [hl] at hblk;exact hblk
  |some b=>
   rw [hl] at hblk
   obtain ⟨q1,arr,t,q2,q3,q4⟩:=hblk.cells hz
   refine .ofCells ⟨q1,arr,t,q2,q3,fun i cs hi=>⟨(q4 i cs hi).1,fun j x hj=> ?_⟩⟩ hz
   obtain ⟨u,u1,u2,u3⟩:=(q4 i cs hi).2 j x hj
   exact ⟨u,u1,u2,u3.nob1 (hnob cs (List.mem_of_getElem? hi) x (List.mem_of_getElem? hj))⟩
section
variable {τ:Type} {dn:τ→Type} [DecidableEq τ]
def wpO (C:Cfg τ dn) (F:AFn) (an:Nat→Option (LA τ dn)) (vs:List (SV τ dn)) (t:τ) (r:List (dn t)):Prop:=
 bif Nat.ble vs.length F.n&&Nat.beq C.fl 0 then wpC C F.n an F.code 0 (st0 C.D vs) fun e st=>match e with
  | .exit _=>False
  |_=>match resS C.D st F.res with
   |some (O,[.own nm sz])=>bif Nat.beq sz (C.D.sz t)&& !Nat.beq sz 0 then (match blkL C.D st nm t with
    |some xs=>obl O (xs=r)
    |none=>False) else False
   |_=>False
 else False
theorem wpO_ok {C:Cfg τ dn} (hC:C.Ok) {f:FuncId} {F:AFn} (hF:cFunc C.P f=some F) {an:Nat→Option (LA τ dn)} {vs:List (SV τ dn)} {t:τ} {r:List (dn t)} (N:Nms) (hfr:SV.frL (fun _=>false) vs=true) (hnb:∀x:dn t,(C.D.ea N.ρ t x).all AV.nob1=true) (h:wpO C F an vs t r):Fo C.P f (vs.map (SV.av C.D.toTE N)) (C.D.sz t) (r.map (C.D.ea N.ρ t)):=by
 unfold wpO at h
 cases hb:(Nat.ble vs.length F.n&&Nat.beq C.fl 0) with
 |false=>rw [hb] at h;exact h.elim
 |true=>
 rw [hb,cond_true] at h
 rw [Bool.and_eq_true] at hb
 obtain ⟨hb,hz⟩:=hb
 have hz:=Nat.eq_of_beq_eq_true hz
 have hl:vs.length≤F.n:=Nat.le_of_ble_eq_true hb
 have hsl:∀(N':Nms),N'.ρ=N.ρ→∀i v,getS (startS vs 0) i=some v→σ0 (vs.map (SV.av C.D.toTE N)) i=v.av C.D.toTE N':=fun N' hρ i v hv=>by
  obtain ⟨_,h2⟩:=startS_get hv
  rw [Nat.sub_zero] at h2
  have hs:N.same (fun _=>false) N':=⟨fun a ha=>by simp at ha,hρ⟩
  have hm:∀(l:List (SV τ dn)) (j:Nat) w,SV.frL (fun _=>false) l=true→l[j]? =some w→w.fr (fun _=>false)=true:=by
   intro l
   induction l with
   |nil=>intro j w _ hw;simp at hw
   |cons a l ih=>
    intro j w hl hw
    simp only [SV.frL,Bool.and_eq_true] at hl
    cases j with
    |zero=>simp only [List.getElem?_cons_zero,Option.some.injEq] at hw;subst hw;exact hl.1
    |succ j=>exact ih j w hl.2 (by simpa using hw)
  unfold σ0
  rw [List.getElem?_map,h2]
  exact (fr_av hs v (hm vs i v hfr h2)).symm
 have R0:∃s0 N0,S3.Le 0 F.n ⟨σ0 (vs.map (SV.av C.D.toTE N)),fun _=>none,0⟩ s0∧Rel C.D N0 (st0 C.D vs) s0∧N0.ρ=N.ρ:=by
  unfold st0
  split
  ·refine ⟨_,N,S3.Le.refl',⟨fun N' hN=>⟨fun i v hv=>hsl N' hN.2 i v hv,fun i v hv=>by simp [getS] at hv,fun nm B hB=>by simp [getS] at hB,fun nm B hB=>by simp [getS] at hB,fun t A h=>by rcases h with h|h<;>simp [getS] at h⟩,fun a b ha=>absurd ha (Nat.not_lt_zero _),fun a ha=>absurd ha (Nat.not_lt_zero _),fun nm B hB=>by simp [getS] at hB,fun nm B hB=>by simp [getS] at hB,fun t A h=>by rcases h with h|h<;>simp [getS] at h⟩,rfl⟩
  ·rename_i t _
   have ha0:∀t' A,(⟨[],[],startS vs 0,[(0,some (.ar t []))],1⟩:SS τ dn).alv 0 (.ar t' A)→∀id,¬hasA A id:=fun t' A h id=>by
    rcases h with h|h
    ·simp only [getS_cons,if_true,Option.some.injEq,SB.ar.injEq] at h
     obtain ⟨rfl,h⟩:=h
     have h:=eq_of_heq h
     subst h;exact hasA_nil
    ·simp [getS] at h
   refine ⟨_,⟨fun _=>0,fun _=>0,N.ρ⟩,S3.le_phantom (C.D.sz t),⟨fun N' hN=>⟨fun i v hv=>hsl N' hN.2 i v hv,fun i v hv=>by simp [getS] at hv,fun nm B hB=> ?_,fun nm B hB=>by simp [getS] at hB,fun t' A h id hid=>absurd hid (ha0 t' A h id)⟩,fun a b ha hb _=> ?_,fun a ha=> ?_,fun nm B hB=> ?_,fun nm B hB=>by simp [getS] at hB,fun t' A h id hid=>absurd hid (ha0 t' A h id)⟩,rfl⟩
   ·have hB':getS [(0,some (SB.ar t ([]:List (Nat×List (dn t)))))] nm=some (some B):=hB
    rw [getS_cons] at hB'
    by_cases hn:nm=0
    ·subst hn
     simp only [if_true,Option.some.injEq] at hB'
     subst hB'
     have e:=hN.1 0 (Nat.lt_succ_self 0)
     refine ⟨?_,e.2⟩
     show gput _ _ (N'.ι 0)=_
     rw [e.1];rfl
    ·rw [if_neg hn] at hB';simp [getS] at hB'
   ·have:a<1:=ha
    have:b<1:=hb
    omega
   ·exact Nat.lt_succ_self 0
   ·have hB':getS [(0,some (SB.ar t ([]:List (Nat×List (dn t)))))] nm=some B:=hB
    rw [getS_cons] at hB'
    by_cases hn:nm=0
    ·subst hn;exact Nat.lt_succ_self 0
    ·rw [if_neg hn] at hB';simp [getS] at hB'
 obtain ⟨s0,N0,w0,R0,hρ0⟩:=R0
 obtain ⟨e,s',N',st',e1,R1,_,_,⟨r3,_⟩,hk⟩:=wpC_ok hC (n:=F.n) (k0:=0) F.code 0 R0 (by rw [hz];exact Nat.zero_le _) h
 have e1:=ED.weak w0 e1
 have hρ:N'.ρ=N.ρ:=r3.2.trans hρ0
 have hk2:(e= .normal∨e= .ret)∧(match resS C.D st' F.res with
   |some (O,[.own nm sz])=>bif Nat.beq sz (C.D.sz t)&& !Nat.beq sz 0 then (match blkL C.D st' nm t with
    |some xs=>obl O (xs=r)
    |none=>False) else False
   |_=>False):=by
  cases e with
  |normal=>exact ⟨.inl rfl,hk⟩
  |ret=>exact ⟨.inr rfl,hk⟩
  |exit i=>exact hk.elim
 clear hk
 obtain ⟨he,hk⟩:=hk2
 split at hk
 case h_2=>exact hk.elim
 rename_i O nm sz hr
 cases hs:(Nat.beq sz (C.D.sz t)&& !Nat.beq sz 0) with
 |false=>rw [hs] at hk;exact hk.elim
 |true=>
 rw [hs,cond_true] at hk
 rw [Bool.and_eq_true] at hs
 have hs1:=Nat.eq_of_beq_eq_true hs.1
 have hs2:C.D.sz t≠0:=fun h=>by
  have:=hs.2
  rw [hs1,h] at this
  simp at this
 split at hk
 case h_2=>exact hk.elim
 rename_i xs hx
 rw [obl_iff] at hk
 obtain ⟨hO,rfl⟩:=hk
 have q1:=resS_ok hC.ok R1.here hr hO
 obtain ⟨g1,g2⟩:=blkL_ok hC.ok R1.here hx
 have q3:(resR s'.σ F.res).run s'.g=some (.own (N'.ι nm) (C.D.sz t) 0 (xs.map (C.D.ea N.ρ t)).length):=by
  unfold resR
  rw [run_bindS q1,List.length_map, ←g2, ←hs1];rfl
 refine fo_ofI (id:=N'.ι nm) (g':=s'.g) (k':=s'.k) hs2 ?_ (fi_ofW hF (by rw [List.length_map];exact hl) ?_) (by rw [g1,hρ])
 ·intro cs hcs c hc
  obtain ⟨y,_,rfl⟩:=List.mem_map.1 hcs
  exact List.all_eq_true.1 (hnb y) c hc
 ·refine EW.conseq e1 fun x y hy=> ?_
  obtain ⟨rfl,rfl⟩:=hy
  exact ⟨he,y,S3.Le.refl',q3,rfl,rfl⟩
theorem conO_ok {P:Program} {D:TD τ dn} (ok:TDok D) {Δ:List (Con τ dn)} (hΔ:Cons P D Δ) {Ω:List (ConO τ dn)} (hΩ:ConsO P D Ω) {F:AFn} (c:ConO τ dn) (hF:cFunc P c.f=some F) (hc:callable P c.f=true) (hn:∀x:dn c.t,(D.es c.t x).all (fun v=>v.nob0)=true) (il:PD dn c.ps→List (IL τ dn)) (hil:∀x,ILs P D (il x)) (d:Nat) (an:PD dn c.ps→Nat→Option (LA τ dn)) (h:∀x,c.pre x→wpO ⟨P,D,Δ,Ω,0,mkJ P D Δ Ω (il x) d,false⟩ F (an x) (encP D c.ps x) c.t (c.res x)):c.Ok P D:=
 ⟨⟨hc,hn⟩,fun x N hp=>wpO_ok (mkJ_ok ok hΔ hΩ (hil x) d 0) hF N (encP_fr ok c.ps x) (fun y=>by
  rw [←ok.es_av N]
  refine List.all_eq_true.2 fun v hv=> ?_
  obtain ⟨u,hu,rfl⟩:=List.mem_map.1 hv
  exact nob0_av (List.all_eq_true.1 (hn y) u hu)) (h x hp)⟩
end
open Go.RowKit
def i_48o_2 (by_:(List (List UInt8))) (pieces:(List ByteArray)) (j0:Int) (k0:Int) (i0:Int) (b0:(List UInt8)) (j:Int) (k:Int) (i:Int) (b:(List UInt8)):Prop:=i=i0∧k=k0∧b.length=b0.length∧MxJ by_ pieces i k j b
def i_48o_1 (by_:(List (List UInt8))) (pieces:(List ByteArray)) (k0:Int) (i0:Int) (b0:(List UInt8)) (k:Int) (i:Int) (b:(List UInt8)):Prop:=i=i0∧MxK by_ pieces i k b
def i_48o_0 (by_:(List (List UInt8))) (pieces:(List ByteArray)) (i:Int) (out:(List ByteArray)):Prop:=MxO by_ pieces i out
def o_48:ConO Tc Tc.dn:=⟨48,[.ty .llU8, .ty .lStr],fun x=>(fun (by_:(List (List UInt8))) (pieces:(List ByteArray))=>MxP by_ pieces) x.1 x.2.1, .cStr,fun x=>(fun (by_:(List (List UInt8))) (pieces:(List ByteArray))=>mixS by_ pieces) x.1 x.2.1⟩
abbrev z48o_0 (pieces:(List ByteArray)):=(↑(gd ByteArray.empty pieces (Int.toNat (0:Int))).size:Int)
theorem o_48_v (by_:(List (List UInt8))) (pieces:(List ByteArray)) (hp:MxP by_ pieces):((0:Int)≤(↑by_.length:Int)∧(↑by_.length:Int)≤(↑by_.length:Int)∧(↑by_.length:Int)*(↑(16:Nat):Int)≤(140737488355328:Int))∧i_48o_0 by_ pieces (0:Int) (List.replicate (↑by_.length:Int).toNat (ByteArray.mk #[]))∧∀(x:Int) (x_1:List ByteArray),i_48o_0 by_ pieces x x_1→(x<(↑by_.length:Int)→((0:Int)≤x∧x<(↑by_.length:Int))∧((0:Int)≤(0:Int)∧(0:Int)<(↑pieces.length:Int))∧((0:Int)≤(z48o_0 pieces)∧(z48o_0 pieces)≤(z48o_0 pieces)∧(z48o_0 pieces)*(↑(1:Nat):Int)≤(140737488355328:Int))∧i_48o_1 by_ pieces (0:Int) x (List.replicate (z48o_0 pieces).toNat (UInt8.ofNat (Int.toNat (0:Int)))) (0:Int) x (List.replicate (z48o_0 pieces).toNat (UInt8.ofNat (Int.toNat (0:Int))))∧∀(x_2 x_3:Int) (x_4:List UInt8),i_48o_1 by_ pieces (0:Int) x (List.replicate (z48o_0 pieces).toNat (UInt8.ofNat (Int.toNat (0:Int)))) x_2 x_3 x_4→(x_2<(↑pieces.length:Int)→((0:Int)≤x_2∧x_2<(↑pieces.length:Int))∧i_48o_2 by_ pieces (0:Int) x_2 x_3 x_4 (0:Int) x_2 x_3 x_4∧∀(x_5 x_6 x_7:Int) (x_8:List UInt8),i_48o_2 by_ pieces (0:Int) x_2 x_3 x_4 x_5 x_6 x_7 x_8→(x_5<(↑x_4.length:Int)→((0:Int)≤x_5∧x_5<(↑x_8.length:Int))∧x_5.toNat<x_8.length∧((0:Int)≤x_2∧x_2<(↑(gd [] by_ x.toNat).length:Int))∧((0:Int)≤x_5∧x_5<(↑(gd ByteArray.empty pieces x_2.toNat).size:Int))∧True∧((0:Int)≤x_5∧x_5<(↑x_8.length:Int))∧x_5.toNat<x_8.length∧I64 (x_5+(1:Int))∧i_48o_2 by_ pieces (0:Int) x_2 x_3 x_4 (x_5+(1:Int)) x_6 x_7 (x_8.set x_5.toNat (gd (0:UInt8) x_8 x_5.toNat^^^gmul (gd (0:UInt8) (gd [] by_ x.toNat) x_2.toNat) (gb (gd ByteArray.empty pieces x_2.toNat) x_5.toNat)))∧((↑(x_8.set x_5.toNat (gd (0:UInt8) x_8 x_5.toNat^^^gmul (gd (0:UInt8) (gd [] by_ x.toNat) x_2.toNat) (gb (gd ByteArray.empty pieces x_2.toNat) x_5.toNat))).length:Int) - (x_5+(1:Int))).toNat<((↑x_8.length:Int) - x_5).toNat)∧((↑x_4.length:Int)≤x_5→I64 (x_6+(1:Int))∧i_48o_1 by_ pieces (0:Int) x (List.replicate (z48o_0 pieces).toNat (UInt8.ofNat (Int.toNat (0:Int)))) (x_6+(1:Int)) x_7 x_8∧((↑pieces.length:Int) - (x_6+(1:Int))).toNat<((↑pieces.length:Int) - x_2).toNat))∧((↑pieces.length:Int)≤x_2→((0:Int)≤x∧x<(↑x_1.length:Int))∧x.toNat<x_1.length∧I64 (x_3+(1:Int))∧i_48o_0 by_ pieces (x_3+(1:Int)) (x_1.set x.toNat (ByteArray.mk (List.map id x_4).toArray))∧((↑by_.length:Int) - (x_3+(1:Int))).toNat<((↑by_.length:Int) - x).toNat))∧((↑by_.length:Int)≤x→x_1=mixS by_ pieces):=by
 delta z48o_0
 have p0:=hp.p0
 have p1:=hp.p1
 have p2:=hp.b1
 have p3:=hp.s0
 have p4:=fun i=>MxP.row (i:=i) hp
 have p5:=fun k=>MxP.str (k:=k) hp
 have a1:= @MxO.start by_ pieces ByteArray.empty
 have a2:= @MxK.start by_ pieces
 have a3:= @MxJ.start by_ pieces
 have a4:= @MxJ.step by_ pieces
 have a5:= @MxJ.fin by_ pieces
 have a6:= @MxO.step by_ pieces
 have a7:= @MxO.fin by_ pieces
 have b1:= @MxO.lo by_ pieces
 have b2:= @MxO.hi by_ pieces
 have b3:= @MxO.len by_ pieces
 have c1:= @MxK.lo by_ pieces
 have c2:= @MxK.hi by_ pieces
 have c3:= @MxK.len by_ pieces
 have d1:= @MxJ.lo by_ pieces
 have d2:= @MxJ.hi by_ pieces
 have d3:= @MxJ.len by_ pieces
 (repeat' (first|apply And.intro|intro _))<;>first|assumption|trivial|omega|(grind [i_48o_2,i_48o_1,i_48o_0,I64])|trace_state
theorem o_48_ok:o_48.Ok Try.prog tD:=conO_ok tD_ok (Δ:=[k_66]) ⟨(k_66_ok.two rfl rfl rfl),trivial⟩ (Ω:=[]) trivial o_48 F48_ok F48_call (fun _=>rfl) (fun _=>[]) (fun _=>trivial) 0 (fun x=>(fun (by_:(List (List UInt8))) (pieces:(List ByteArray))=>(fun k=>bif Nat.beq k 0 then some (.inv [.sl 17 .cInt, .ow 5 .cStr] (fun zo zv=>(fun (i:Int) (out:(List ByteArray))=>i_48o_0 by_ pieces i out) zv.1 zv.2.1) (fun zo zv=>(fun (i:Int) (out:(List ByteArray))=>((by_.length:Int) - i).toNat) zv.1 zv.2.1)) else bif Nat.beq k 1 then some (.inv [.sl 29 .cInt, .sl 17 .cInt, .ow 8 .cU8] (fun zo zv=>(fun (k0:Int) (i0:Int) (b0:(List UInt8)) (k:Int) (i:Int) (b:(List UInt8))=>i_48o_1 by_ pieces k0 i0 b0 k i b) zo.1 zo.2.1 zo.2.2.1 zv.1 zv.2.1 zv.2.2.1) (fun zo zv=>(fun (k0:Int) (i0:Int) (b0:(List UInt8)) (k:Int) (i:Int) (b:(List UInt8))=>((pieces.length:Int) - k).toNat) zo.1 zo.2.1 zo.2.2.1 zv.1 zv.2.1 zv.2.2.1)) else bif Nat.beq k 2 then some (.inv [.sl 36 .cInt, .sl 29 .cInt, .sl 17 .cInt, .ow 8 .cU8] (fun zo zv=>(fun (j0:Int) (k0:Int) (i0:Int) (b0:(List UInt8)) (j:Int) (k:Int) (i:Int) (b:(List UInt8))=>i_48o_2 by_ pieces j0 k0 i0 b0 j k i b) zo.1 zo.2.1 zo.2.2.1 zo.2.2.2.1 zv.1 zv.2.1 zv.2.2.1 zv.2.2.2.1) (fun zo zv=>(fun (j0:Int) (k0:Int) (i0:Int) (b0:(List UInt8)) (j:Int) (k:Int) (i:Int) (b:(List UInt8))=>((b.length:Int) - j).toNat) zo.1 zo.2.1 zo.2.2.1 zo.2.2.2.1 zv.1 zv.2.1 zv.2.2.1 zv.2.2.2.1)) else none)) x.1 x.2.1) fun x hp=>Eq.mp (by kernel_rfl) (o_48_v x.1 x.2.1 hp)
open Go.RowKit Go.Shelf
def rpt_lays105_ren:Go.Shelf.Ren:=⟨fun|105=>56|212=>67|99=>68|165=>69|166=>70|170=>71|169=>72|263=>82|264=>83|206=>84|240=>85|241=>86|276=>93|277=>94|n=>n,fun|9=>9|3=>3|4=>4|20=>20|0=>0|46=>107|109=>108|5=>5|72=>113|76=>117|51=>130|146=>131|53=>36|148=>133|70=>111|37=>105|75=>116|127=>135|164=>147|80=>120|n=>n,fun|n=>n⟩
theorem rpt_lays105:Go.Proofs.Lays.n105 Try.prog rpt_lays105_ren:={
 mixed:=by kernel_rfl
 f99:=Try.func68.trans (congrArg some (by kernel_rfl))
 f105:=Try.func56.trans (congrArg some (by kernel_rfl))
 f165:=Try.func69.trans (congrArg some (by kernel_rfl))
 f166:=Try.func70.trans (congrArg some (by kernel_rfl))
 f169:=Try.func72.trans (congrArg some (by kernel_rfl))
 f170:=Try.func71.trans (congrArg some (by kernel_rfl))
 f206:=Try.func84.trans (congrArg some (by kernel_rfl))
 f212:=Try.func67.trans (congrArg some (by kernel_rfl))
 f240:=Try.func85.trans (congrArg some (by kernel_rfl))
 f241:=Try.func86.trans (congrArg some (by kernel_rfl))
 f263:=Try.func82.trans (congrArg some (by kernel_rfl))
 f264:=Try.func83.trans (congrArg some (by kernel_rfl))
 f276:=Try.func93.trans (congrArg some (by kernel_rfl))
 f277:=Try.func94.trans (congrArg some (by kernel_rfl))
 t0:=Try.underlying0
 a0:=Try.isAgg0
 z0:=Try.sizeOf0
 v0:=Try.zeroValue0
 t3:=Try.underlying3
 a3:=Try.isAgg3
 z3:=Try.sizeOf3
 v3:=Try.zeroValue3
 t4:=Try.underlying4
 a4:=Try.isAgg4
 z4:=Try.sizeOf4
 v4:=Try.zeroValue4
 t5:=Try.underlying5
 a5:=Try.isAgg5
 z5:=Try.sizeOf5
 v5:=Try.zeroValue5
 t9:=Try.underlying9
 a9:=Try.isAgg9
 z9:=Try.sizeOf9
 v9:=Try.zeroValue9
 t20:=Try.underlying20
 a20:=Try.isAgg20
 z20:=Try.sizeOf20
 v20:=Try.zeroValue20
 t37:=Try.underlying105
 a37:=Try.isAgg105
 z37:=Try.sizeOf105
 v37:=Try.zeroValue105
 t46:=Try.underlying107
 a46:=Try.isAgg107
 z46:=Try.sizeOf107
 v46:=Try.zeroValue107
 t51:=Try.underlying130
 a51:=Try.isAgg130
 z51:=Try.sizeOf130
 v51:=Try.zeroValue130
 t53:=Try.underlying36
 a53:=Try.isAgg36
 z53:=Try.sizeOf36
 v53:=Try.zeroValue36
 t70:=Try.underlying111
 a70:=Try.isAgg111
 z70:=Try.sizeOf111
 v70:=Try.zeroValue111
 t72:=Try.underlying113
 a72:=Try.isAgg113
 z72:=Try.sizeOf113
 v72:=Try.zeroValue113
 t75:=Try.underlying116
 a75:=Try.isAgg116
 z75:=Try.sizeOf116
 v75:=Try.zeroValue116
 t76:=Try.underlying117
 a76:=Try.isAgg117
 z76:=Try.sizeOf117
 v76:=Try.zeroValue117
 t109:=Try.underlying108
 a109:=Try.isAgg108
 z109:=Try.sizeOf108
 v109:=Try.zeroValue108
 t127:=Try.underlying135
 a127:=Try.isAgg135
 z127:=Try.sizeOf135
 v127:=Try.zeroValue135
 t146:=Try.underlying131
 a146:=Try.isAgg131
 z146:=Try.sizeOf131
 v146:=Try.zeroValue131
 t148:=Try.underlying133
 a148:=Try.isAgg133
 z148:=Try.sizeOf133
 v148:=Try.zeroValue133
 t164:=Try.underlying147
 a164:=Try.isAgg147
 z164:=Try.sizeOf147
 v164:=Try.zeroValue147 }
theorem rpt_Builder_Extra_105:Builder.Extra Try.prog rpt_lays105_ren:={
 sizeBuilder:=by kernel_rfl
 liesBuilder:=by kernel_rfl
 t5:=Try.underlying5
 a5:=Try.isAgg5
 z5:=Try.sizeOf5
 v5:=Try.zeroValue5
 infoByte:=by kernel_rfl
 cellsByte:=by kernel_rfl
 sizeByte:=by kernel_rfl
 neB5:=by decide }
theorem rpt_ok (s:ByteArray) (c:Nat) (w:World) (hc:c≤9223372036854775807) (hlen:s.size*c≤140737488355328):Calls Try.prog 56 #[.string s, .int .i64 c] w fun e w'=>e= .returned (.string ⟨(Lib.repeatL s.data.toList c).toArray⟩)∧Below w.heap.size w w':=Any.strings_Repeat rpt_lays105 rpt_Builder_Extra_105 s c w hc hlen
def rptS (s:ByteArray) (n:Int):ByteArray:=⟨(Lib.repeatL s.data.toList n.toNat).toArray⟩
theorem rpt_int (s:ByteArray) (n:Int) (h1:0≤n) (h2:n≤65536) (h3:s.size≤65536):Fn Try.prog 56 ([Value.string s,Value.int .i64 n].map AV.v) (.v (.string (rptS s n))):=by
 obtain ⟨c,rfl⟩:∃c:Nat,n=(c:Int):=⟨n.toNat,by omega⟩
 have h4:c≤65536:=by omega
 exact fn_plain (vs:=[Value.string s,Value.int .i64 c]) (u:= .string (rptS s c)) (fun _=> .v rfl) fun w=>rpt_ok s c w (by omega) (Nat.le_trans (Nat.mul_le_mul h3 h4) (by omega))
def k_56:Con Tc Tc.dn:=⟨56,[.ty .cStr, .ty .cInt],fun x=>(0:Int)≤x.2.1∧(x.2.1:Int)≤65536∧ByteArray.size x.1≤65536,[.cStr],fun x=>rptS x.1 x.2.1⟩
theorem k_56_ok:k_56.Ok Try.prog tB:=⟨by kernel_rfl,fun x N hp=>rpt_int x.1 x.2.1 hp.1 hp.2.1 hp.2.2⟩
theorem rptS_one (b:UInt8) (n:Int):rptS ⟨#[b]⟩ n=⟨(List.replicate n.toNat b).toArray⟩:=by
 unfold rptS;congr 2
 show Lib.repeatL [b] _=_
 induction n.toNat with
 |zero=>rfl
 |succ m ih=>simp [Lib.repeatL,List.replicate_succ,ih]<;>rfl
theorem rptS_size (b:UInt8) (n:Int):(rptS ⟨#[b]⟩ n).size=n.toNat:=by rw [rptS_one];simp [ByteArray.size]
open Go.RowKit
def blkS (n:Int):ByteArray:=rptS ⟨#[0]⟩ n
theorem blkS_size (n:Int):(blkS n).size=n.toNat:=rptS_size 0 n
def wpP (p:Piece):Piece:=⟨0,blkS p.data.size⟩
def wpTo (i:Nat) (L:List Piece):List Piece:=(L.take i).map wpP++L.drop i
theorem wpTo_len {i:Nat} {L:List Piece}:(wpTo i L).length=L.length:=by simp [wpTo];omega
theorem wpTo_all {i:Nat} {L:List Piece} (h:L.length≤i):wpTo i L=L.map wpP:=by unfold wpTo;rw [List.take_of_length_le h,List.drop_eq_nil_of_le h,List.append_nil]
theorem wpTo_cur {i:Nat} {L:List Piece} (h:i<L.length):gd (⟨0,ByteArray.empty⟩:Piece) (wpTo i L) i=gd (⟨0,ByteArray.empty⟩:Piece) L i:=by
 unfold gd wpTo
 rw [List.getElem?_append_right (by simp;omega)]
 simp [show min i L.length=i from Nat.min_eq_left (by omega)]
theorem wpTo_step {i:Nat} {L:List Piece} (h:i<L.length):(wpTo i L).set i (wpP (gd (⟨0,ByteArray.empty⟩:Piece) L i))=wpTo (i+1) L:=by
 have e:gd (⟨0,ByteArray.empty⟩:Piece) L i=L[i]:=by unfold gd;rw [List.getElem?_eq_getElem h];rfl
 rw [e]
 unfold wpTo
 rw [List.set_append_right _ _ (by simp;omega),List.take_succ_eq_append_getElem h,List.map_append,List.append_assoc]
 congr 1
 have e3:i - ((L.take i).map wpP).length=0:=by simp;omega
 rw [e3,List.drop_eq_getElem_cons h]
 rfl
theorem ShO.put {L:List Shelf} {K:List ShelfR} {A:ArP} (h:ShO L K A) {n:Nat} (hn:n<L.length) {up:Bool} (hu:up=(gd (⟨false,[]⟩:Shelf) L n).up) {xs:List Piece} (hx:xs.length=(gd (⟨false,[]⟩:Shelf) L n).pieces.length):ShO (L.set n ⟨up,xs⟩) K (((gd (⟨false,Row.no Piece⟩:ShelfR) K n).pieces.id,xs)::A):=by
 refine ⟨by simp [h.len],fun j hj=> ?_,fun j hj=> ?_,fun j k hj hk he=> ?_⟩
 ·rw [List.length_set] at hj
  rw [gd_setV hn]
  split
  ·rename_i e;subst e;rw [h.up _ hj,hu]
  ·exact h.up j hj
 ·rw [List.length_set] at hj
  obtain ⟨q1,q2⟩:=h.own j hj
  rw [gd_setV hn]
  by_cases e:n=j
  ·subst e
   rw [if_pos rfl]
   refine ⟨⟨q1.1,hasA_cons.2 (.inl rfl), ?_⟩, ?_⟩
   ·rw [lkA_cons,if_pos rfl,hx, ←q2];exact q1.2.2
   ·show lkA _ _=_;rw [lkA_cons,if_pos rfl]
  ·have hne:(gd (⟨false,Row.no Piece⟩:ShelfR) K j).pieces.id≠(gd (⟨false,Row.no Piece⟩:ShelfR) K n).pieces.id:=fun e2=>e (h.inj j n hj hn e2).symm
   rw [if_neg e]
   exact ⟨⟨q1.1,hasA_cons.2 (.inr q1.2.1),by rw [lkA_cons,if_neg hne];exact q1.2.2⟩,by rw [lkA_cons,if_neg hne];exact q2⟩
 ·rw [List.length_set] at hj hk
  exact h.inj j k hj hk he
def wipN (L:List Shelf) (n i:Nat):List Shelf:=L.set n ⟨(gd (⟨false,[]⟩:Shelf) L n).up,wpTo i (gd (⟨false,[]⟩:Shelf) L n).pieces⟩
theorem wipN_cur {L:List Shelf} {n i:Nat} (h:n<L.length):gd (⟨false,[]⟩:Shelf) (wipN L n i) n=⟨(gd (⟨false,[]⟩:Shelf) L n).up,wpTo i (gd (⟨false,[]⟩:Shelf) L n).pieces⟩:=by unfold wipN;rw [gd_setV h,if_pos rfl]
structure WpI (v:Volume) (n i:Int) (K:List ShelfR) (A:ArP):Prop where
 lo:0≤i
 hi:i≤v.versions.length
 k:v.K
 n0:0≤n
 n1:n<v.nodes.length
 o:ShO (wipN v.nodes n.toNat i.toNat) K A
def wpRow (K:List ShelfR) (n:Int):Row Piece:=(gd (⟨false,Row.no Piece⟩:ShelfR) K n.toNat).pieces
theorem WpI.start {v:Volume} (k:v.K) {i n:Int} {K:List ShelfR} {A:ArP} (h:OwV v.nodes i K A) (hi:v.nodes.length≤i) (h0:0≤n) (h1:n≤v.nodes.length - 1):WpI v n 0 K A:=by
 refine ⟨by omega,by omega,k,h0,by omega, ?_⟩
 have e:wipN v.nodes n.toNat (0:Int).toNat=v.nodes:=by
  show v.nodes.set n.toNat ⟨_,(gd (⟨false,[]⟩:Shelf) v.nodes n.toNat).pieces⟩=v.nodes
  have hn:n.toNat<v.nodes.length:=by omega
  have q:gd (⟨false,[]⟩:Shelf) v.nodes n.toNat=v.nodes[n.toNat]:=by unfold gd;rw [List.getElem?_eq_getElem hn];rfl
  rw [q];exact List.set_getElem_self hn
 rw [e];exact h.fin hi
theorem WpI.row {v:Volume} {n i:Int} {K:List ShelfR} {A:ArP} (h:WpI v n i K A):n.toNat<K.length∧(wpRow K n).mine A∧(wpRow K n).ok A∧(wpRow K n).get A=wpTo i.toNat (gd (⟨false,[]⟩:Shelf) v.nodes n.toNat).pieces∧((wpRow K n).get A).length=v.versions.length:=by
 have h0:=h.n0;have h1:=h.n1
 have hn:n.toNat<v.nodes.length:=by omega
 have hl:(wipN v.nodes n.toNat i.toNat).length=v.nodes.length:=by unfold wipN;simp
 obtain ⟨q1,q2⟩:=h.o.own n.toNat (by rw [hl];exact hn)
 have q3:(wpRow K n).get A=wpTo i.toNat (gd (⟨false,[]⟩:Shelf) v.nodes n.toNat).pieces:=by
  unfold wpRow;rw [mine_get q1,q2,wipN_cur hn]
 refine ⟨by rw [h.o.len,hl];exact hn,q1,Row.mine.ok q1,q3, ?_⟩
 rw [q3,wpTo_len];exact h.k.pre.shl h0 h1
theorem WpI.mine {v:Volume} {n i:Int} {K:List ShelfR} {A:ArP} (h:WpI v n i K A):(wpRow K n).kd=RK.own∧hasA A (wpRow K n).id∧(lkA A (wpRow K n).id).length=(wpRow K n).n:=h.row.2.1
theorem WpI.cur {v:Volume} {n i:Int} {K:List ShelfR} {A:ArP} (h:WpI v n i K A) (hi:i<v.versions.length):gd (⟨0,ByteArray.empty⟩:Piece) ((wpRow K n).get A) i.toNat=gd (⟨0,ByteArray.empty⟩:Piece) (gd (⟨false,[]⟩:Shelf) v.nodes n.toNat).pieces i.toNat∧(gd (⟨0,ByteArray.empty⟩:Piece) ((wpRow K n).get A) i.toNat).data.size≤64:=by
 have h0:=h.lo
 have e:(gd (⟨false,[]⟩:Shelf) v.nodes n.toNat).pieces.length=v.versions.length:=h.k.pre.shl h.n0 h.n1
 have q:gd (⟨0,ByteArray.empty⟩:Piece) ((wpRow K n).get A) i.toNat=gd (⟨0,ByteArray.empty⟩:Piece) (gd (⟨false,[]⟩:Shelf) v.nodes n.toNat).pieces i.toNat:=by rw [h.row.2.2.2.1];exact wpTo_cur (by omega)
 refine ⟨q, ?_⟩
 rw [q]
 have ok:=h.k.ok n i h.n0 h.n1 h.lo hi
 have sz:=h.k.siz
 unfold pieceE Volume.at_ at ok
 split at ok
 ·exact absurd ok (by decide)
 ·rename_i hh
  cases hb:v.layout.has i n with
  |true=>
   have:(Piece.data (gd (⟨0,ByteArray.empty⟩:Piece) (gd (⟨false,[]⟩:Shelf) v.nodes n.toNat).pieces i.toNat)).size=v.size:=Classical.byContradiction fun hx=>hh (.inr ⟨hb,hx⟩)
   omega
  |false=>
   have:=Classical.byContradiction fun hx=>hh (.inl ⟨hb,hx⟩)
   rw [this.2];decide
theorem WpI.step {v:Volume} {n i:Int} {K:List ShelfR} {A:ArP} (h:WpI v n i K A) (hi:i<v.versions.length):WpI v n (i+1) K (((gd (⟨false,Row.no Piece⟩:ShelfR) K n.toNat).pieces.id,((wpRow K n).get A).set i.toNat ⟨0,blkS ((gd (⟨0,ByteArray.empty⟩:Piece) ((wpRow K n).get A) i.toNat).data.size:Int)⟩)::A):=by
 have h0:=h.lo;have h1:=h.n0;have h2:=h.n1
 have hn:n.toNat<v.nodes.length:=by omega
 have e:(gd (⟨false,[]⟩:Shelf) v.nodes n.toNat).pieces.length=v.versions.length:=h.k.pre.shl h.n0 h.n1
 have hl:(wipN v.nodes n.toNat i.toNat).length=v.nodes.length:=by unfold wipN;simp
 refine ⟨by omega,by omega,h.k,h1,h2, ?_⟩
 have:=h.o.put (n:=n.toNat) (up:=(gd (⟨false,[]⟩:Shelf) v.nodes n.toNat).up) (by rw [hl];exact hn) (by rw [wipN_cur hn]) (xs:=wpTo (i+1).toNat (gd (⟨false,[]⟩:Shelf) v.nodes n.toNat).pieces) (by rw [wipN_cur hn];simp only [wpTo_len])
 have e1:wpTo (i+1).toNat (gd (⟨false,[]⟩:Shelf) v.nodes n.toNat).pieces=((wpRow K n).get A).set i.toNat ⟨0,blkS ((gd (⟨0,ByteArray.empty⟩:Piece) ((wpRow K n).get A) i.toNat).data.size:Int)⟩:=by
  rw [(h.cur hi).1,h.row.2.2.2.1,show (i+1).toNat=i.toNat+1 by omega]
  exact (wpTo_step (by omega)).symm
 rw [e1] at this
 have e2:(wipN v.nodes n.toNat i.toNat).set n.toNat ⟨(gd (⟨false,[]⟩:Shelf) v.nodes n.toNat).up,((wpRow K n).get A).set i.toNat ⟨0,blkS ((gd (⟨0,ByteArray.empty⟩:Piece) ((wpRow K n).get A) i.toNat).data.size:Int)⟩⟩=wipN v.nodes n.toNat (i+1).toNat:=by
  rw [←e1];unfold wipN;rw [List.set_set]
 rw [e2] at this
 exact this
def wipV (v:Volume) (n:Int):Volume:=⟨v.layout,v.size,v.versions,v.nodes.set n.toNat ⟨(gd (⟨false,[]⟩:Shelf) v.nodes n.toNat).up,(gd (⟨false,[]⟩:Shelf) v.nodes n.toNat).pieces.map wpP⟩⟩
def wipR (v:Volume) (n:Int):Volume×Int:=if ¬chkV v=0 then (⟨⟨0,0,0,0⟩,0,[],[]⟩,chkV v) else if ¬(0≤n∧n≤v.nodes.length - 1) then (⟨⟨0,0,0,0⟩,0,[],[]⟩,3) else (wipV v n,0)
theorem WpI.done {v:Volume} {n i:Int} {K:List ShelfR} {A:ArP} (h:WpI v n i K A) (hi:v.versions.length≤i):(∀x:ShelfR,x∈K→True∧x.pieces.ok A∧x.pieces.kd≠RK.nil)∧(⟨v.layout,v.size,v.versions,List.map (fun x:ShelfR=>(⟨x.up,x.pieces.get A⟩:Shelf)) K⟩:Volume)=wipV v n:=by
 obtain ⟨e1,e2⟩:=h.o.view
 have e:(gd (⟨false,[]⟩:Shelf) v.nodes n.toNat).pieces.length=v.versions.length:=h.k.pre.shl h.n0 h.n1
 refine ⟨fun x hx=>⟨trivial,e1 x hx⟩, ?_⟩
 rw [e2];unfold wipV wipN
 rw [wpTo_all (by omega)]
def k_42:Con Tc Tc.dn:=⟨42,[.ty .cInt],fun x=>(fun (size:Int)=>0≤size∧size≤65536) x.1,[.cStr],fun x=>(fun (size:Int)=>blkS size) x.1⟩
theorem k_42_v (size:Int) (hp:0≤size∧size≤65536):((0:Int)≤size∧size≤(65536:Pt.T Tc.dn (Pt.ty Tc.cInt))∧(ByteArray.mk #[(0:UInt8)]).size≤(65536:Nat))∧rptS (ByteArray.mk #[(0:UInt8)]) size=blkS size:=by
 have e:blkS size=rptS ⟨#[0]⟩ size:=rfl
 have e2:ByteArray.size ⟨#[0]⟩=1:=rfl
 (repeat' (first|apply And.intro|intro _))<;>first|assumption|trivial|omega|(grind [blkS])|trace_state
theorem k_42_ok:k_42.Ok Try.prog tD:=con_ok tD_ok (Δ:=[k_56]) ⟨(k_56_ok.two rfl rfl rfl),trivial⟩ (Ω:=[]) trivial k_42 F42_ok F42_call (fun _=>[]) (fun _=>trivial) 0 (fun x=>(fun (size:Int)=>(fun _=>none)) x.1) fun x hp=>Eq.mp (by kernel_rfl) (k_42_v x.1 hp)
def i_16_21_0 (v:Volume) (i:Int) (K:(List ShelfR)) (A:(List (Nat×List Piece))):Prop:=OwV v.nodes i K A
def i_16_41_0 (v:Volume) (n:Int) (i0:Int) (K0:(List ShelfR)) (A0:(List (Nat×List Piece))) (i:Int) (K:(List ShelfR)) (A:(List (Nat×List Piece))):Prop:=K=K0∧WpI v n i K A
def k_16:Con Tc Tc.dn:=⟨16,[.ty .cVolume, .ty .cInt],fun x=>(fun (v:Volume) (n:Int)=>True) x.1 x.2.1,[.cVolume, .cInt],fun x=>(fun (v:Volume) (n:Int)=>wipR v n) x.1 x.2.1⟩
theorem k_16_v (v:Volume) (n:Int):True∧(¬chkV v=(0:Int)→(Volume.mk (Layout.mk (0:Int) (0:Int) (0:Int) (0:Int)) (0:Int) [] [],chkV v)=wipR v n)∧(chkV v=(0:Int)→I64 ((↑v.nodes.length:Int) - (1:Int))∧True∧(decide ((0:Int)≤n∧n≤(↑v.nodes.length:Int) - (1:Int))= !true→(Volume.mk (Layout.mk (0:Int) (0:Int) (0:Int) (0:Int)) (0:Int) [] [],(3:Int))=wipR v n)∧(decide ((0:Int)≤n∧n≤(↑v.nodes.length:Int) - (1:Int))= !false→(↑v.versions.length:Int)*(8:Int)≤(140737488355328:Int)∧v.nodes≠[]∧((0:Nat)+v.nodes.length)*(32:Nat)≤(140737488355328:Nat)∧i_16_21_0 v (0:Int) (List.map (fun x=>ShelfR.mk x.up (Row.fix Piece x.pieces)) ([]++v.nodes)) []∧∀(x:Int) (x_1:List ShelfR) (x_2:List (Nat×List Piece)),i_16_21_0 v x x_1 x_2→(x<(↑([]++v.nodes).length:Int)→((0:Int)≤x∧x<(↑x_1.length:Int))∧x.toNat<x_1.length∧(gd (ShelfR.mk false (Row.no Piece)) x_1 x.toNat).pieces.ok x_2∧(gd (ShelfR.mk false (Row.no Piece)) x_1 x.toNat).pieces.kd≠RK.nil∧(↑((gd (ShelfR.mk false (Row.no Piece)) x_1 x.toNat).pieces.get x_2).length:Int)*(24:Int)≤(140737488355328:Int)∧((0:Int)≤x∧x<(↑x_1.length:Int))∧∀(id:Nat),¬hasA x_2 id→x.toNat<x_1.length∧I64 (x+(1:Int))∧i_16_21_0 v (x+(1:Int)) (x_1.set x.toNat (ShelfR.mk (gd (ShelfR.mk false (Row.no Piece)) x_1 x.toNat).up (Row.at Piece id ((gd (ShelfR.mk false (Row.no Piece)) x_1 x.toNat).pieces.get x_2).length))) ((id,(gd (ShelfR.mk false (Row.no Piece)) x_1 x.toNat).pieces.get x_2)::x_2)∧((↑v.nodes.length:Int) - (x+(1:Int))).toNat<((↑v.nodes.length:Int) - x).toNat)∧((↑([]++v.nodes).length:Int)≤x→((0:Int)≤n∧n<(↑x_1.length:Int))∧n.toNat<x_1.length∧(gd (ShelfR.mk false (Row.no Piece)) x_1 n.toNat).pieces.ok x_2∧i_16_41_0 v n (0:Int) x_1 x_2 (0:Int) x_1 x_2∧∀(x:Int) (x_3:List ShelfR) (x_4:List (Nat×List Piece)),i_16_41_0 v n (0:Int) x_1 x_2 x x_3 x_4→(x<(↑((gd (ShelfR.mk false (Row.no Piece)) x_1 n.toNat).pieces.get x_2).length:Int)→(gd (ShelfR.mk false (Row.no Piece)) x_1 n.toNat).pieces.ok x_4∧((0:Int)≤x∧x<(↑((gd (ShelfR.mk false (Row.no Piece)) x_1 n.toNat).pieces.get x_4).length:Int))∧(gd (ShelfR.mk false (Row.no Piece)) x_1 n.toNat).pieces.ok x_4∧x.toNat<((gd (ShelfR.mk false (Row.no Piece)) x_1 n.toNat).pieces.get x_4).length∧n.toNat<x_3.length∧((0:Int)≤(↑(gd (Piece.mk (0:Int) ByteArray.empty) ((gd (ShelfR.mk false (Row.no Piece)) x_1 n.toNat).pieces.get x_4) x.toNat).data.size:Int)∧(↑(gd (Piece.mk (0:Int) ByteArray.empty) ((gd (ShelfR.mk false (Row.no Piece)) x_1 n.toNat).pieces.get x_4) x.toNat).data.size:Int)≤(65536:Int))∧(gd (ShelfR.mk false (Row.no Piece)) x_3 n.toNat).pieces.ok x_4∧((0:Int)≤x∧x<(↑((gd (ShelfR.mk false (Row.no Piece)) x_3 n.toNat).pieces.get x_4).length:Int))∧(gd (ShelfR.mk false (Row.no Piece)) x_3 n.toNat).pieces.mine x_4∧x.toNat<((gd (ShelfR.mk false (Row.no Piece)) x_3 n.toNat).pieces.get x_4).length∧I64 (x+(1:Int))∧i_16_41_0 v n (0:Int) x_1 x_2 (x+(1:Int)) x_3 (((gd (ShelfR.mk false (Row.no Piece)) x_3 n.toNat).pieces.id,((gd (ShelfR.mk false (Row.no Piece)) x_3 n.toNat).pieces.get x_4).set x.toNat (Piece.mk (0:Int) (blkS (↑(gd (Piece.mk (0:Int) ByteArray.empty) ((gd (ShelfR.mk false (Row.no Piece)) x_1 n.toNat).pieces.get x_4) x.toNat).data.size:Int))))::x_4)∧((↑v.versions.length:Int) - (x+(1:Int))).toNat<((↑v.versions.length:Int) - x).toNat)∧((↑((gd (ShelfR.mk false (Row.no Piece)) x_1 n.toNat).pieces.get x_2).length:Int)≤x→(∀(x:ShelfR),x∈x_3→True∧x.pieces.ok x_4∧x.pieces.kd≠RK.nil)∧(Volume.mk v.layout v.size v.versions (List.map (fun x=>Shelf.mk x.up (x.pieces.get x_4)) x_3),(0:Int))=wipR v n)))):=by
 have a1:= @OwV.start v.nodes
 have a2:= @OwV.rw v
 have a3:= @OwV.step v.nodes
 have a4:= @OwV.done v
 have a5:= @OwV.lo v.nodes
 have a6:= @OwV.len v.nodes
 have a7:= @Volume.K.bd v
 have a8:= @mea_lt'
 have b1:= @chk_iff v
 have b2:= @WpI.start v
 have b3:= @WpI.row v n
 have b4:= @WpI.cur v n
 have b5:= @WpI.step v n
 have b6:= @WpI.done v n
 have b7:= @WpI.lo v n
 have b8:= @WpI.mine v n
 simp only [wpRow] at b3 b4 b5 b8
 have e1:¬chkV v=0→wipR v n=(⟨⟨0,0,0,0⟩,0,[],[]⟩,chkV v):=fun h=>by unfold wipR;rw [if_pos h]
 have e2:chkV v=0→¬(0≤n∧n≤v.nodes.length - 1)→wipR v n=(⟨⟨0,0,0,0⟩,0,[],[]⟩,3):=fun h h2=>by unfold wipR;rw [if_neg (by simp [h]),if_pos h2]
 have e3:chkV v=0→0≤n→n≤v.nodes.length - 1→wipR v n=(wipV v n,0):=fun h h2 h3=>by unfold wipR;rw [if_neg (by simp [h]),if_neg (by omega)]
 (try simp only [Bool.not_false,Bool.not_true,decide_eq_true_eq,decide_eq_false_iff_not])
 (repeat' (first|apply And.intro|intro _))<;>first|assumption|trivial|omega|(grind [i_16_21_0,i_16_41_0,I64])|trace_state
def l_16:PD Tc.dn k_16.ps→List (IL Tc Tc.dn):=fun x=>(fun (v:Volume) (n:Int)=>([⟨39, .fn F39 (fun _=>none),none⟩,⟨21, .fn F21 (fun k=>bif Nat.beq k 0 then some (.inv [.sl 15 .cInt, .bl 9 .cShelfR, .ar .cPiece] (fun zo zv=>(fun (i:Int) (K:(List ShelfR)) (A:(List (Nat×List Piece)))=>i_16_21_0 v i K A) zv.1 zv.2.1 zv.2.2.1) (fun zo zv=>(fun (i:Int) (K:(List ShelfR)) (A:(List (Nat×List Piece)))=>((v.nodes.length:Int) - i).toNat) zv.1 zv.2.1 zv.2.2.1)) else none),none⟩,⟨51, .fn F51 (fun _=>none),none⟩,⟨41, .fn F41 (fun k=>bif Nat.beq k 0 then some (.inv [.sl 9 .cInt, .bl 9 .cShelfR, .ar .cPiece] (fun zo zv=>(fun (i0:Int) (K0:(List ShelfR)) (A0:(List (Nat×List Piece))) (i:Int) (K:(List ShelfR)) (A:(List (Nat×List Piece)))=>i_16_41_0 v n i0 K0 A0 i K A) zo.1 zo.2.1 zo.2.2.1 zv.1 zv.2.1 zv.2.2.1) (fun zo zv=>(fun (i0:Int) (K0:(List ShelfR)) (A0:(List (Nat×List Piece))) (i:Int) (K:(List ShelfR)) (A:(List (Nat×List Piece)))=>((v.versions.length:Int) - i).toNat) zo.1 zo.2.1 zo.2.2.1 zv.1 zv.2.1 zv.2.2.1)) else none),none⟩])) x.1 x.2.1
theorem l_16_ok:∀x,ILs Try.prog tD (l_16 x):=fun _=>⟨⟨F39_ok,F39_call⟩,⟨F21_ok,F21_call⟩,⟨F51_ok,F51_call⟩,⟨F41_ok,F41_call⟩,trivial⟩
theorem k_16_ok:k_16.Ok Try.prog tD:=con_ok tD_ok (Δ:=[k_10,k_27,k_42]) ⟨k_10_ok,k_27_ok,k_42_ok,trivial⟩ (Ω:=[o_50,o_52]) ⟨o_50_ok,o_52_ok,trivial⟩ k_16 F16_ok F16_call (l_16) (l_16_ok) 3 (fun x=>(fun (v:Volume) (n:Int)=>(fun _=>none)) x.1 x.2.1) fun x hp=>Eq.mp (by kernel_rfl) (k_16_v x.1 x.2.1)
open Go.RowKit
open Go.RowKit
theorem gd_iff {α:Type} {d:α} {a b:List α} (h:a.length=b.length) (k:∀i,i<a.length→gd d a i=gd d b i):a=b:=by
 refine List.ext_getElem h fun i h1 h2=> ?_
 have:=k i h1
 unfold gd at this
 rw [List.getElem?_eq_getElem h1,List.getElem?_eq_getElem h2] at this
 simpa using this
open Go.RowKit
theorem fill_n {m n:Int} {f:Nat→Nat→UInt8}:(fillL m n f).length=m.toNat:=by unfold fillL;simp
theorem gd_map2 {α β:Type} {d:α} {e:β} {f:α→β} {l:List α} {i:Nat} (h:i<l.length):gd e (l.map f) i=f (gd d l i):=by
 unfold gd;rw [List.getElem?_map,List.getElem?_eq_getElem h];rfl
end Go.Proofs.Ytboaekdecndckaa
