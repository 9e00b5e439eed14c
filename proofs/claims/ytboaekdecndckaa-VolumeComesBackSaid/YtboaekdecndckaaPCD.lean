/- What functions answer (contracts). No condition. -/
import Derived.Test.YtboaekdecndckaaPCA
import Derived.Shelf.Strings.Repeat
set_option linter.unusedSimpArgs false
set_option linter.unusedVariables false
set_option maxHeartbeats 4000000
set_option maxRecDepth 100000
namespace Go.Proofs.Ytboaekdecndckaa
variable {F:ba} {m many:Int} {M a:List (List UInt8)} {L:List Piece} {r q xs:List UInt8} {k i n d j c:Nat} {P:Program} {f:UInt8} {v:ah}
open Go.RowKit
abbrev adQ:=@congrArg
structure gv (A:List (Nat×List UInt8)) (K:List (Row UInt8)) (i m n:Int) (f:Nat->Nat->UInt8):Prop where
 len:(K.length:Int)=m
 row:∀j,j<i.toNat->(gd (Row.no UInt8) K j).bD A/\(gd (Row.no UInt8) K j).n=n.toNat/\bj A (gd (Row.no UInt8) K j).id=(List.range n.toNat).map (f j)
 inj:∀j k,j<i.toNat->k<i.toNat->(gd (Row.no UInt8) K j).id=(gd (Row.no UInt8) K k).id->j=k
structure kB (A0 A:List (Nat×List UInt8)) (r:Row UInt8) (k n:Int) (f:Nat->UInt8):Prop where
 bD:r.bD A
 n:r.n=n.toNat
 get:∀t,t<k.toNat->gd 0 (bj A r.id) t=f t
 has:∀id,id≠r.id->(cv A id↔cv A0 id)
 lk:∀id,id≠r.id->bj A id=bj A0 id
theorem mT {α:Type} {d:α} {l:List α} {x:α}:gd d (l.set i x) j=if i=j/\i<l.length then x else gd d l j:=by
 unfold gd
 rw [List.getElem?_set]
 by_cases h:i=j
 ·subst h
  by_cases h2:i<l.length
  ·simp [h2]
  ·simp [h2,adW (Nat.le_of_not_lt h2)]
 ·simp [h]
theorem Row.bD.get {A:List (Nat×List UInt8)} {r:Row UInt8} (h:r.bD A):r.get A=bj A r.id/\(bj A r.id).length=r.n:=by
 unfold Row.get;rw [h.1];exact ⟨rfl,h.2.2⟩
theorem gv.start {m n:Int} {f:Nat->Nat->UInt8} (hm:0<=m):gv [] (List.replicate m.toNat (Row.no UInt8)) 0 m n f:=by
 refine ⟨by simp;omega,fun j hj=>by simp at hj,fun j k hj=>by simp at hj⟩
theorem LF {A:List (Nat×List UInt8)} {id:Nat} {zs:List UInt8} (h:zs.length=n):(Row.at UInt8 id n).bD ((id,zs)::A):=by
 refine ⟨rfl,jd.2 (.inl rfl), ?_⟩
 show (bj ((id,zs)::A) id).length=n
 rw [gj,acN rfl];exact h
theorem kB.start {A:List (Nat×List UInt8)} {id:Nat} {n:Int} {zs:List UInt8} {f:Nat->UInt8} (h:zs.length=n.toNat):kB ((id,zs)::A) ((id,zs)::A) (Row.at UInt8 id n.toNat) 0 n f:=
 ⟨LF h,rfl,fun t ht=>by simp at ht,fun _ _=>Iff.rfl,fun _ _=>rfl⟩
theorem LH {A:List (Nat×List UInt8)} {r:Row UInt8} (h:r.bD A) (hl:xs.length=r.n):r.bD ((r.id,xs)::A):=by
 refine ⟨h.1,jd.2 (.inl rfl), ?_⟩
 rw [gj,acN rfl];exact hl
theorem kB.step {A0 A:List (Nat×List UInt8)} {r:Row UInt8} {k n:Int} {f:Nat->UInt8} (h:kB A0 A r k n f) (h0:0<=k) (hk:k<n):kB A0 ((r.id,(r.get A).set k.toNat (f k.toNat))::A) r (k+1) n f:=by
 obtain ⟨g1,g2⟩:=h.bD.get
 have hn:=h.n
 refine ⟨LH h.bD (by rw [ada,g1,g2]),h.n,fun t ht=> ?_,fun id hid=> ?_,fun id hid=> ?_⟩
 ·rw [gj,acN rfl,g1,mT]
  by_cases he:k.toNat=t
  ·rw [acN ⟨he,by rw [g2,hn];omega⟩,he]
  ·rw [acL (fun hh=>he hh.1)];exact h.get t (by omega)
 ·rw [jd, <-h.has id hid];exact ⟨fun hh=>hh.resolve_left hid, .inr⟩
 ·rw [gj,acL hid];exact h.lk id hid
theorem gv.next {A A':List (Nat×List UInt8)} {K:List (Row UInt8)} {i m n k:Int} {f:Nat->Nat->UInt8} {id:Nat} {zs:List UInt8} (h:gv A K i m n f) (hi:0<=i) (him:i<m) (hid:¬cv A id) (hn:0<=n) (hk:n<=k) (hr:kB ((id,zs)::A) A' (Row.at UInt8 id n.toNat) k n (f i.toNat)):gv A' (K.set i.toNat (Row.at UInt8 id n.toNat)) (i+1) m n f:=by
 have hl:=h.len
 have cQ:i.toNat<K.length:=by omega
 have aZ:∀j,j<i.toNat->(gd (Row.no UInt8) K j).id≠id:=fun j hj e=>hid (e▸(h.row j hj).1.2.1)
 have cm:∀j,j<i.toNat->cv A' (gd (Row.no UInt8) K j).id/\bj A' (gd (Row.no UInt8) K j).id=bj A (gd (Row.no UInt8) K j).id:=fun j hj=>by
  have aJ:=aZ j hj
  refine ⟨(hr.has _ aJ).2 (jd.2 (.inr (h.row j hj).1.2.1)), ?_⟩
  rw [hr.lk _ aJ,gj,acL aJ]
 have new:bj A' id=(List.range n.toNat).map (f i.toNat):=by
  have hm:=hr.bD.2.2
  have hg:=hr.get
  rw [hr.n] at hm
  simp only [Row.Uz] at hm hg
  refine aeh (by rw [hm,ac4,List.length_range]) fun t h1 h2=> ?_
  rw [hm] at h1
  have:=hg t (by omega)
  unfold gd at this
  rw [acT (by rw [hm];exact h1)] at this
  simpa using this
 refine ⟨by rw [ada];exact hl,fun j hj=> ?_,fun j q hj hq he=> ?_⟩
 ·rw [mT]
  by_cases fP:i.toNat=j
  ·rw [acN ⟨fP,cQ⟩, <-fP]
   exact ⟨hr.bD,rfl,new⟩
  ·rw [acL (fun hh=>fP hh.1)]
   have LI:j<i.toNat:=by omega
   obtain ⟨r1,r2,r3⟩:=h.row j LI
   obtain ⟨k1,k2⟩:=cm j LI
   exact ⟨⟨r1.1,k1,by rw [k2];exact r1.2.2⟩,r2,by rw [k2];exact r3⟩
 ·rw [mT,mT] at he
  by_cases h1:i.toNat=j<;>by_cases h2:i.toNat=q
  ·omega
  ·rw [acN ⟨h1,cQ⟩,acL (fun hh=>h2 hh.1)] at he
   exact absurd he.symm (aZ q (by omega))
  ·rw [acL (fun hh=>h1 hh.1),acN ⟨h2,cQ⟩] at he
   exact absurd he (aZ j (by omega))
  ·rw [acL (fun hh=>h1 hh.1),acL (fun hh=>h2 hh.1)] at he
   exact h.inj j q (by omega) (by omega) he
theorem LJ {α:Type} {d:α} {l:List α} {P:α->Prop} (h:∀j,j<l.length->P (gd d l j)):∀x,x∈l->P x:=fun x hx=>by
 obtain ⟨i,hi,rfl⟩:=ad5 hx
 have:=h i hi
 unfold gd at this
 rw [acT hi] at this
 exact this
theorem gv.fin {A:List (Nat×List UInt8)} {K:List (Row UInt8)} {i m n:Int} {f:Nat->Nat->UInt8} (h:gv A K i m n f) (hi:m<=i) (hm:0<=m):(∀x:Row UInt8,x∈K->x.ok A/\x.kd≠RK.nil)/\List.map (fun x=>x.get A) K=dF m n f:=by
 have hl:=h.len
 refine ⟨LJ (d:=Row.no UInt8) fun j hj=> ?_, ?_⟩
 ·obtain ⟨r1,_,_⟩:=h.row j (by omega)
  exact ⟨r1.ok,by rw [r1.1];simp⟩
 ·unfold dF
  refine aeh (by simp;omega) fun j h1 h2=> ?_
  rw [ac4] at h1
  obtain ⟨r1,_,r3⟩:=h.row j (by omega)
  have e:gd (Row.no UInt8) K j=K[j]:=by unfold gd;rw [acT h1];rfl
  rw [e] at r1 r3
  simp only [List.getElem_map,List.getElem_range]
  rw [r1.get.1,r3]
theorem Aq (m n:Int) (f:Nat->Nat->UInt8) (V:Int->Int->UInt8) (P:Int->Int->Prop) (Q:List (Row UInt8)->List (Nat×List UInt8)->Prop) (hm:0<=m/\m<=64/\0<=n/\n<=64) (hP:∀i k,0<=i->i<m->0<=k->k<n->P i k/\V i k=f i.toNat k.toNat) (hQ:∀K A i,m<=i->gv A K i m n f->Q K A):
 ((0:Int)<=m/\m<=m/\m*(↑(24:Nat):Int)<=(140737488355328:Int))/\(0<=(0:Int)/\(0:Int)<=m/\gv [] (List.replicate m.toNat (Row.no UInt8)) 0 m n f)/\∀(x:Int) (af:List (Row UInt8)) (aD:List (Nat×List UInt8)),(0<=x/\x<=m/\gv aD af x m n f)->
  (x<(↑(List.replicate m.toNat (Row.no UInt8)).length:Int)->((0:Int)<=n/\n<=n/\n*(↑(1:Nat):Int)<=(140737488355328:Int))/\((0:Int)<=x/\x<(↑af.length:Int))/\∀(id:Nat),¬cv aD id->x.toNat<af.length/\((0:Int)<=x/\x<(↑(af.set x.toNat (Row.at UInt8 id (List.replicate n.toNat (UInt8.ofNat (Int.toNat (0:Int)))).length)).length:Int))/\x.toNat<(af.set x.toNat (Row.at UInt8 id (List.replicate n.toNat (UInt8.ofNat (Int.toNat (0:Int)))).length)).length/\(gd (Row.no UInt8) (af.set x.toNat (Row.at UInt8 id (List.replicate n.toNat (UInt8.ofNat (Int.toNat (0:Int)))).length)) x.toNat).ok ((id,List.replicate n.toNat (UInt8.ofNat (Int.toNat (0:Int))))::aD)/\
   (0<=(0:Int)/\(0:Int)<=n/\(af.set x.toNat (Row.at UInt8 id (List.replicate n.toNat (UInt8.ofNat (Int.toNat (0:Int)))).length))=(af.set x.toNat (Row.at UInt8 id (List.replicate n.toNat (UInt8.ofNat (Int.toNat (0:Int)))).length))/\x=x/\kB ((id,List.replicate n.toNat (UInt8.ofNat (Int.toNat (0:Int))))::aD) ((id,List.replicate n.toNat (UInt8.ofNat (Int.toNat (0:Int))))::aD) (gd (Row.no UInt8) (af.set x.toNat (Row.at UInt8 id (List.replicate n.toNat (UInt8.ofNat (Int.toNat (0:Int)))).length)) x.toNat) 0 n (f x.toNat))/\
   ∀(ae aB:Int) (aF:List (Row UInt8)) (aU:List (Nat×List UInt8)),(0<=ae/\ae<=n/\aF=(af.set x.toNat (Row.at UInt8 id (List.replicate n.toNat (UInt8.ofNat (Int.toNat (0:Int)))).length))/\aB=x/\kB ((id,List.replicate n.toNat (UInt8.ofNat (Int.toNat (0:Int))))::aD) aU (gd (Row.no UInt8) aF aB.toNat) ae n (f aB.toNat))->
   (ae<(↑((gd (Row.no UInt8) (af.set x.toNat (Row.at UInt8 id (List.replicate n.toNat (UInt8.ofNat (Int.toNat (0:Int)))).length)) x.toNat).get ((id,List.replicate n.toNat (UInt8.ofNat (Int.toNat (0:Int))))::aD)).length:Int)->((0:Int)<=aB/\aB<(↑aF.length:Int))/\aB.toNat<aF.length/\P aB ae/\(gd (Row.no UInt8) aF aB.toNat).ok aU/\((0:Int)<=ae/\ae<(↑((gd (Row.no UInt8) aF aB.toNat).get aU).length:Int))/\(gd (Row.no UInt8) aF aB.toNat).bD aU/\ae.toNat<((gd (Row.no UInt8) aF aB.toNat).get aU).length/\aE (ae+(1:Int))/\
    (0<=ae+1/\ae+1<=n/\aF=(af.set x.toNat (Row.at UInt8 id (List.replicate n.toNat (UInt8.ofNat (Int.toNat (0:Int)))).length))/\aB=x/\kB ((id,List.replicate n.toNat (UInt8.ofNat (Int.toNat (0:Int))))::aD) (((gd (Row.no UInt8) aF aB.toNat).id,((gd (Row.no UInt8) aF aB.toNat).get aU).set ae.toNat (V aB ae))::aU) (gd (Row.no UInt8) aF aB.toNat) (ae+1) n (f aB.toNat))/\(n - (ae+(1:Int))).toNat<(n - ae).toNat)/\
   ((↑((gd (Row.no UInt8) (af.set x.toNat (Row.at UInt8 id (List.replicate n.toNat (UInt8.ofNat (Int.toNat (0:Int)))).length)) x.toNat).get ((id,List.replicate n.toNat (UInt8.ofNat (Int.toNat (0:Int))))::aD)).length:Int)<=ae->aE (x+(1:Int))/\(0<=x+1/\x+1<=m/\gv aU aF (x+1) m n f)/\(m - (x+(1:Int))).toNat<(m - x).toNat))/\
  ((↑(List.replicate m.toNat (Row.no UInt8)).length:Int)<=x->Q af aD):=by
 obtain ⟨h1,h2,h3,h4⟩:=hm
 have dw:∀k:Nat,(List.replicate k (UInt8.ofNat (Int.toNat (0:Int)))).length=k:=fun k=>by simp
 refine ⟨⟨h1,adY _,by omega⟩,⟨adY _,h1,gv.start h1⟩,fun x K A ⟨i0,i1,hI⟩=>⟨fun hx=> ?_,fun hx=> ?_⟩⟩
 ·rw [adU] at hx
  have hl:=hI.len
  have pW:x.toNat<K.length:=by omega
  refine ⟨⟨h3,adY _,by omega⟩,⟨i0,by omega⟩,fun id hid=> ?_⟩
  simp only [dw]
  generalize yx:List.replicate n.toNat (UInt8.ofNat (Int.toNat (0:Int)))=zs
  have hz:zs.length=n.toNat:=by rw [<-yx];simp
  have de:gd (Row.no UInt8) (K.set x.toNat (Row.at UInt8 id n.toNat)) x.toNat=Row.at UInt8 id n.toNat:=by rw [mT,acN ⟨rfl,pW⟩]
  have ig:(Row.at UInt8 id n.toNat).bD ((id,zs)::A):=LF hz
  have gB:((Row.at UInt8 id n.toNat).get ((id,zs)::A)).length=n.toNat:=by rw [ig.get.1,ig.get.2];rfl
  refine ⟨pW,⟨i0,by rw [ada];omega⟩,by rw [ada];exact pW,by rw [de];exact ig.ok,⟨adY _,h3,(by trivial),(by trivial),by rw [de];exact kB.start hz⟩,fun y x4 K5 A6 ⟨j0,j1,hK,YZ,hR⟩=> ?_⟩
  subst hK;subst YZ
  rw [de] at hR ⊢
  rw [gB]
  refine ⟨fun hy=> ?_,fun hy=>⟨⟨by omega,by omega⟩,⟨by omega,by omega,hI.next i0 (by omega) hid h3 (by omega) hR⟩,by omega⟩⟩
  have hg:=hR.bD.get
  have hn:=hR.n
  have hlen:((Row.at UInt8 id n.toNat).get A6).length=n.toNat:=by rw [hg.1,hg.2];rfl
  rw [hlen]
  exact ⟨⟨i0,by rw [ada];omega⟩,by rw [ada];exact pW,(hP _ _ i0 (by omega) j0 (by omega)).1,hR.bD.ok,⟨j0,by omega⟩,hR.bD,by omega,⟨by omega,by omega⟩,⟨by omega,by omega,rfl,rfl,by rw [(hP _ _ i0 (by omega) j0 (by omega)).2];exact hR.step j0 (by omega)⟩,by omega⟩
 ·rw [adU] at hx
  exact hQ K A x (by omega) hI
def fT (a:List (List UInt8)) (i k:Nat):UInt8:=gd 0 (gd [] a k) i
open Go.RowKit
def fU (i k:Nat):UInt8:=if i=k then 1 else 0
def fC (many:Int) (i k:Nat):UInt8:=gq (UInt8.ofNat (i^^^(many.toNat+k)))
def LL (n m:Nat) (a:List (List UInt8)):Prop:=a.length=n/\∀r,r∈a->r.length=m
theorem LM {n:Int}:∀{a:List (List UInt8)},sq n a=0->∀r,r∈a->(r.length:Int)=n/\r.length<=16/\0<r.length
 |[],_,r,hr=>by simp at hr
 |q::l,h,r,hr=>by
  simp only [sq] at h
  by_cases h1:16<(q.length:Int)
  ·rw [acN h1] at h;simp at h
  ·rw [acL h1] at h
   by_cases h2:q.length=0\/(q.length:Int)≠n
   ·rw [acN h2] at h;simp at h
   ·rw [acL h2] at h
    rcases acX.1 hr with rfl|hr
    ·omega
    ·exact LM h r hr
theorem Y0 (h:jP a=0):0<a.length/\a.length<=16/\0<(gd [] a 0).length/\(gd [] a 0).length<=16/\LL a.length (gd [] a 0).length a:=by
 unfold jP at h
 by_cases h1:16<a.length
 ·rw [acN h1] at h;simp at h
 ·rw [acL h1] at h
  by_cases h2:a.length=0
  ·rw [acN h2] at h;simp at h
  ·rw [acL h2] at h
   have hk:=LM h
   have:=hk _ (iv (d:=[]) (xs:=a) (i:=0) (by omega))
   exact ⟨by omega,by omega,by omega,by omega,rfl,fun r hr=>by have:=(hk r hr).1;omega⟩
theorem Y3 {n:Int} {f:Nat->Nat->UInt8}:(dF m n f).length=m.toNat:=by simp [dF]
theorem Y4 {n:Int} {f:Nat->Nat->UInt8}:LL m.toNat n.toNat (dF m n f):=by
 refine ⟨Y3,fun r hr=> ?_⟩
 unfold dF at hr
 simp only [ade,adl] at hr
 obtain ⟨i,_,rfl⟩:=hr
 simp
def eH (m n:Int):List (List UInt8)×Int:=if 1<=m/\m<=16/\1<=n/\n<=16 then (dF m n (fC m),0) else ([],3)
def Fl:bk Tc Tc.dn:=⟨64,[.ty .aA, .ty .aA, .ptr .aA],fun x=>(fun (i:Int) (k:Int) (many:Int)=>0<=i/\i<=1000/\0<=k/\k<=1000/\0<=many/\many<=1000) x.1 x.2.1 x.2.2.1,[.cA],fun x=>(fun (i:Int) (k:Int) (many:Int)=>gq (UInt8.ofNat (i.toNat^^^(many+k).toNat))) x.1 x.2.1 x.2.2.1⟩
theorem Y5 (i:Int) (k:Int) (many:Int) (hp:0<=i/\i<=1000/\0<=k/\k<=1000/\0<=many/\many<=1000):aE (many+k)/\((0:Int)<=i/\(0:Int)<=many+k/\aE i/\aE (many+k))/\(0:Int)<=(↑(i.toNat^^^(many+k).toNat):Int)/\True/\gq (UInt8.ofNat (↑(i.toNat^^^(many+k).toNat):Int).toNat)=gq (UInt8.ofNat (i.toNat^^^(many+k).toNat)):=by
 (repeat' (first|apply And.intro|intro _))<;>first|assumption|trivial|omega|(grind [aE])|trace_state
theorem Y6:Fl.Ok Try.prog tB:=bO gn (Δ:=[Fg]) ⟨Lx,trivial⟩ (Ω:=[]) trivial Fl S4 S5 (fun _=>[]) (fun _=>trivial) 0 (fun x=>(fun (i:Int) (k:Int) (many:Int)=>(fun _=>none)) x.1 x.2.1 x.2.2.1) fun x hp=>Eq.mp (by kernel_rfl) (Y5 x.1 x.2.1 x.2.2.1 hp)
def As (n:Int) (many:Int) (k0:Int) (i0:Int) (K0:(List (Row UInt8))) (A0:(List (Nat×List UInt8))) (k:Int) (i:Int) (K:(List (Row UInt8))) (A:(List (Nat×List UInt8))):Prop:=0<=k/\k<=n/\K=K0/\i=i0/\kB A0 A (gd (Row.no UInt8) K i.toNat) k n (fC many i.toNat)
def At (m:Int) (n:Int) (many:Int) (i:Int) (K:(List (Row UInt8))) (A:(List (Nat×List UInt8))):Prop:=0<=i/\i<=m/\gv A K i m n (fC many)
def Fm:bk Tc Tc.dn:=⟨63,[.ty .aA, .ty .aA, .jh 64 [(true, .aA)]],fun x=>(fun (m:Int) (n:Int) (many:Int)=>0<=m/\m<=64/\0<=n/\n<=64/\0<=many/\many<=1000) x.1 x.2.1 x.2.2.1.1,[.iz],fun x=>(fun (m:Int) (n:Int) (many:Int)=>dF m n (fC many)) x.1 x.2.1 x.2.2.1.1⟩
abbrev nT (n:Int):=(List.replicate n.toNat (UInt8.ofNat (Int.toNat (0:Int))))
theorem Y7 (m:Int) (n:Int) (many:Int) (hp:0<=m/\m<=64/\0<=n/\n<=64/\0<=many/\many<=1000):((0:Int)<=m/\m<=m/\m*(↑(24:Nat):Int)<=(140737488355328:Int))/\At m n many (0:Int) (List.replicate m.toNat (Row.no UInt8)) []/\∀(x:Int) (af:List (Row UInt8)) (aD:List (Nat×List UInt8)),At m n many x af aD->(x<(↑(List.replicate m.toNat (Row.no UInt8)).length:Int)->((0:Int)<=n/\n<=n/\n*(↑(1:Nat):Int)<=(140737488355328:Int))/\((0:Int)<=x/\x<(↑af.length:Int))/\∀(id:Nat),¬cv aD id->x.toNat<af.length/\((0:Int)<=x/\x<(↑(af.set x.toNat (Row.at UInt8 id (nT n).length)).length:Int))/\x.toNat<(af.set x.toNat (Row.at UInt8 id (nT n).length)).length/\(gd (Row.no UInt8) (af.set x.toNat (Row.at UInt8 id (nT n).length)) x.toNat).ok ((id,List.replicate n.toNat (UInt8.ofNat (Int.toNat (0:Int))))::aD)/\As n many (0:Int) x (af.set x.toNat (Row.at UInt8 id (nT n).length)) ((id,List.replicate n.toNat (UInt8.ofNat (Int.toNat (0:Int))))::aD) (0:Int) x (af.set x.toNat (Row.at UInt8 id (nT n).length)) ((id,List.replicate n.toNat (UInt8.ofNat (Int.toNat (0:Int))))::aD)/\∀(ae aB:Int) (aF:List (Row UInt8)) (aU:List (Nat×List UInt8)),As n many (0:Int) x (af.set x.toNat (Row.at UInt8 id (nT n).length)) ((id,List.replicate n.toNat (UInt8.ofNat (Int.toNat (0:Int))))::aD) ae aB aF aU->(ae<(↑((gd (Row.no UInt8) (af.set x.toNat (Row.at UInt8 id (nT n).length)) x.toNat).get ((id,List.replicate n.toNat (UInt8.ofNat (Int.toNat (0:Int))))::aD)).length:Int)->((0:Int)<=aB/\aB<(↑aF.length:Int))/\aB.toNat<aF.length/\((0:Int)<=aB/\aB<=(1000:Int)/\(0:Int)<=ae/\ae<=(1000:Int)/\(0:Int)<=many/\many<=(1000:Int))/\(gd (Row.no UInt8) aF aB.toNat).ok aU/\((0:Int)<=ae/\ae<(↑((gd (Row.no UInt8) aF aB.toNat).get aU).length:Int))/\(gd (Row.no UInt8) aF aB.toNat).bD aU/\ae.toNat<((gd (Row.no UInt8) aF aB.toNat).get aU).length/\aE (ae+(1:Int))/\As n many (0:Int) x (af.set x.toNat (Row.at UInt8 id (nT n).length)) ((id,List.replicate n.toNat (UInt8.ofNat (Int.toNat (0:Int))))::aD) (ae+(1:Int)) aB aF (((gd (Row.no UInt8) aF aB.toNat).id,((gd (Row.no UInt8) aF aB.toNat).get aU).set ae.toNat (gq (UInt8.ofNat (aB.toNat^^^(many+ae).toNat))))::aU)/\(n - (ae+(1:Int))).toNat<(n - ae).toNat)/\((↑((gd (Row.no UInt8) (af.set x.toNat (Row.at UInt8 id (nT n).length)) x.toNat).get ((id,List.replicate n.toNat (UInt8.ofNat (Int.toNat (0:Int))))::aD)).length:Int)<=ae->aE (x+(1:Int))/\At m n many (x+(1:Int)) aF aU/\(m - (x+(1:Int))).toNat<(m - x).toNat))/\((↑(List.replicate m.toNat (Row.no UInt8)).length:Int)<=x->(∀(x:Row UInt8),x∈af->x.ok aD/\x.kd≠RK.nil)/\List.map (fun x=>x.get aD) af=dF m n (fC many)):=by
 delta nT
 exact Aq m n (fC many) (fun i k=>gq (UInt8.ofNat (i.toNat^^^(many+k).toNat))) (fun i k=>(0:Int)<=i/\i<=(1000:Int)/\(0:Int)<=k/\k<=(1000:Int)/\(0:Int)<=many/\many<=(1000:Int)) _ ⟨hp.1,hp.2.1,hp.2.2.1,hp.2.2.2.1⟩ (fun i k h1 h2 h3 h4=>⟨⟨h1,by omega,h3,by omega,hp.2.2.2.2.1,hp.2.2.2.2.2⟩,by unfold fC;rw [show (many+k).toNat=many.toNat+k.toNat by omega]⟩) fun K A i hi h=>h.fin hi hp.1
theorem Y8:Fm.Ok Try.prog tB:=bO gn (Δ:=[Fl]) ⟨Y6,trivial⟩ (Ω:=[]) trivial Fm yD yE (fun _=>[]) (fun _=>trivial) 0 (fun x=>(fun (m:Int) (n:Int) (many:Int)=>(fun k=>bif Nat.beq k 0 then some (.inv [.sl 14 .aA, .bl 1 .fZ, .ar .cA] (fun zo zv=>(fun (i:Int) (K:(List (Row UInt8))) (A:(List (Nat×List UInt8)))=>At m n many i K A) zv.1 zv.2.1 zv.2.2.1) (fun zo zv=>(fun (i:Int) (K:(List (Row UInt8))) (A:(List (Nat×List UInt8)))=>(m - i).toNat) zv.1 zv.2.1 zv.2.2.1)) else bif Nat.beq k 1 then some (.inv [.sl 27 .aA, .sl 8 .aA, .bl 1 .fZ, .ar .cA] (fun zo zv=>(fun (k0:Int) (i0:Int) (K0:(List (Row UInt8))) (A0:(List (Nat×List UInt8))) (k:Int) (i:Int) (K:(List (Row UInt8))) (A:(List (Nat×List UInt8)))=>As n many k0 i0 K0 A0 k i K A) zo.1 zo.2.1 zo.2.2.1 zo.2.2.2.1 zv.1 zv.2.1 zv.2.2.1 zv.2.2.2.1) (fun zo zv=>(fun (k0:Int) (i0:Int) (K0:(List (Row UInt8))) (A0:(List (Nat×List UInt8))) (k:Int) (i:Int) (K:(List (Row UInt8))) (A:(List (Nat×List UInt8)))=>(n - k).toNat) zo.1 zo.2.1 zo.2.2.1 zo.2.2.2.1 zv.1 zv.2.1 zv.2.2.1 zv.2.2.2.1)) else none)) x.1 x.2.1 x.2.2.1.1) fun x hp=>Eq.mp (by kernel_rfl) (Y7 x.1 x.2.1 x.2.2.1.1 hp)
def Au:bk Tc Tc.dn:=⟨47,[.ty .aA, .ty .aA],fun x=>(fun (m:Int) (n:Int)=>True) x.1 x.2.1,[.iz, .aA],fun x=>(fun (m:Int) (n:Int)=>eH m n) x.1 x.2.1⟩
theorem Y9 (m:Int) (n:Int):True/\(decide ((1:Int)<=m/\m<=(16:Int))= !!true->decide ((1:Int)<=m/\m<=(16:Int))= !!true)/\(decide ((1:Int)<=m/\m<=(16:Int))= !!true->True)/\(decide ((1:Int)<=m/\m<=(16:Int))= !!true->decide ((1:Int)<=m/\m<=(16:Int))= !!true)/\(decide ((1:Int)<=m/\m<=(16:Int))= !false->decide ((1:Int)<=m/\m<=(16:Int))= !!true)/\(decide ((1:Int)<=m/\m<=(16:Int))= !true\/decide ((1:Int)<=n/\n<=(16:Int))= !true->([],(3:Int))=eH m n)/\(decide ((1:Int)<=m/\m<=(16:Int))= !false/\decide ((1:Int)<=n/\n<=(16:Int))= !false->((0:Int)<=m/\m<=(64:Int)/\(0:Int)<=n/\n<=(64:Int)/\(0:Int)<=m/\m<=(1000:Int))/\(dF m n (fC m),(0:Int))=eH m n):=by
 unfold eH
 (repeat' (first|apply And.intro|intro _))<;>first|assumption|trivial|omega|(grind [])|trace_state
theorem LN:Au.Ok Try.prog tB:=bO gn (Δ:=[Ao,Fm]) ⟨Ly,Y8,trivial⟩ (Ω:=[]) trivial Au Sk Sl (fun _=>[]) (fun _=>trivial) 0 (fun x=>(fun (m:Int) (n:Int)=>(fun _=>none)) x.1 x.2.1) fun x hp=>Eq.mp (by kernel_rfl) (Y9 x.1 x.2.1)
open Go.RowKit
def iS {α:Type} (p:α->Bool):List α->Int->Int
 |[],_=> -1
 |a::r,k=>if p a=true then k else iS p r (k+1)
theorem LO {α:Type} {p:α->Bool}:∀{l:List α} {k:Int},0<=k->(iS p l k<0↔∀a,a∈l->p a=false)
 |[],k,h=>by simp [iS]
 |a::r,k,h=>by
  unfold iS
  by_cases hp:p a=true
  ·rw [acN hp]
   exact ⟨fun hh=>by omega,fun hh=>by have:=hh a (adD ..);rw [hp] at this;simp at this⟩
  ·rw [acL hp,LO (by omega)]
   exact ⟨fun hh b hb=>by rcases acX.1 hb with e|e;rw [e];simpa using hp;exact hh b e,fun hh b hb=>hh b (adw _ hb)⟩
theorem LP {α:Type} {p:α->Bool} {l:List α}:decide (0<=iS p l 0)=l.any p:=by
 have h:=LO (p:=p) (l:=l) (k:=0) (adY _)
 by_cases hh:iS p l 0<0
 ·rw [adZ (by omega)]
  have:=h.1 hh
  symm
  rw [List.any_eq_false]
  intro x hx;rw [this x hx];simp
 ·rw [adX (by omega)]
  symm
  rw [adr]
  exact aed fun hn=>hh (h.2 fun a ha=>by
   cases hq:p a with
   |false=>rfl
   |true=>exact absurd ⟨a,ha,hq⟩ hn)
structure fN {α:Type} (p:α->Bool) (xs:List α) (k:Int):Prop where
 lo:0<=k
 hi:k<=xs.length
 sk:xs.length<=1000000
 eq:iS p (xs.drop k.toNat) k=iS p xs 0
theorem fN.start {α:Type} {p:α->Bool} {xs:List α} (h:xs.length<=1000000):fN p xs 0:=⟨by omega,by omega,h,rfl⟩
theorem fN.no {α:Type} {p:α->Bool} {d:α} {xs:List α} {k:Int} (h:fN p xs k) (hk:k<xs.length) (hp:¬p (gd d xs k.toNat)=true):fN p xs (k+1):=by
 have h0:=h.lo
 refine ⟨by omega,by omega,h.sk, ?_⟩
 rw [<-h.eq,ql d (xs:=xs) (i:=k.toNat) (by omega),iS,acL hp,show (k+1).toNat=k.toNat+1 by omega]
theorem fN.yes {α:Type} {p:α->Bool} {d:α} {xs:List α} {k:Int} (h:fN p xs k) (hk:k<xs.length) (hp:p (gd d xs k.toNat)=true):k=iS p xs 0:=by
 have h0:=h.lo
 rw [<-h.eq,ql d (xs:=xs) (i:=k.toNat) (by omega),iS,acN hp]
theorem fN.fin {α:Type} {p:α->Bool} {xs:List α} {k:Int} (h:fN p xs k) (hk:xs.length<=k): -1=iS p xs 0:=by
 rw [<-h.eq,aeI (by omega)];rfl
abbrev BA:Type:=ByteArray
variable {l:List BA}
def eN (s:BA):Bool:=decide ((64:Int)<s.size)
def tX (all:List BA) (s:BA):Bool:=decide (¬(s.size:Int)=((gd ByteArray.empty all 0).size:Int))
def cT (l:List BA):Int:=if l.any eN=true then 2 else if l.any (tX l)=true then 1 else 0
structure jo (l:List BA) (i:Int):Prop where
 lo:0<=i
 hi:i<=l.length
 no:l.any eN=false
 eq:∀j,j<i.toNat->tX l (gd ByteArray.empty l j)=false
theorem jo.start {l:List BA} (h:¬l.any eN=true):jo l 0:=⟨by omega,by omega,by simpa using h,fun j hj=>by simp at hj⟩
theorem jo.step {l:List BA} {i:Int} (h:jo l i) (hi:i<l.length) (he:((gd ByteArray.empty l i.toNat).size:Int)=((gd ByteArray.empty l 0).size:Int)):jo l (i+1):=by
 have h0:=h.lo
 refine ⟨by omega,by omega,h.no,fun j hj=> ?_⟩
 by_cases e:j<i.toNat
 ·exact h.eq j e
 ·rw [show j=i.toNat by omega];unfold tX;simp [he]
theorem jo.bad {l:List BA} {i:Int} (h:jo l i) (hi:i<l.length) (he:¬((gd ByteArray.empty l i.toNat).size:Int)=((gd ByteArray.empty l 0).size:Int)):(1:Int)=cT l:=by
 have h0:=h.lo
 unfold cT
 rw [acL (by simp [h.no]),acN]
 rw [adr]
 exact ⟨_,iv (d:=ByteArray.empty) (xs:=l) (i:=i.toNat) (by omega),by unfold tX;simpa using he⟩
theorem jo.fin {l:List BA} {i:Int} (h:jo l i) (hi:l.length<=i):(0:Int)=cT l:=by
 unfold cT
 rw [acL (by simp [h.no]),acL]
 intro hh
 rw [adr] at hh
 obtain ⟨x,hx,hp⟩:=hh
 obtain ⟨j,hj,rfl⟩:=ad5 hx
 have:=h.eq j (by omega)
 rw [show gd ByteArray.empty l j=l[j] by unfold gd;rw [acT hj];rfl,hp] at this
 simp at this
theorem Za {l:List BA} (h:l.any eN=true):(2:Int)=cT l:=by unfold cT;rw [acN h]
theorem LQ (h:cT l=0):(∀s,s∈l->s.size<=64)/\∀s,s∈l->s.size=(gd ByteArray.empty l 0).size:=by
 unfold cT at h
 split at h
 ·simp at h
 ·rename_i h1
  split at h
  ·simp at h
  ·rename_i h2
   constructor
   ·intro s hs
    have:=mt (fun hh=>adr.2 ⟨s,hs,hh⟩) h1
    unfold eN at this;simp at this;omega
   ·intro s hs
    have:=mt (fun hh=>adr.2 ⟨s,hs,hh⟩) h2
    unfold tX at this;simp at this;omega
theorem Zb (h1:∀s,s∈l->s.size<=64) (h2:∀s,s∈l->s.size=(gd ByteArray.empty l 0).size):cT l=0:=by
 unfold cT
 rw [acL,acL]
 ·intro hh
  obtain ⟨x,hx,hp⟩:=adr.1 hh
  have:=h2 x hx
  unfold tX at hp;simp at hp;omega
 ·intro hh
  obtain ⟨x,hx,hp⟩:=adr.1 hh
  have:=h1 x hx
  unfold eN at hp;simp at hp;omega
def wW (data:List BA) (more:Int):List BA×Int:=
 if (data.length:Int)=0 then ([],8) else if 8<(data.length:Int) then ([],2) else if ¬(1<=more/\more<=6) then ([],3) else if ¬cT data=0 then ([],cT data) else (bP (eH more data.length).1 data,0)
theorem Fp {n:Int} (h1:1<=m) (h2:m<=16) (h3:1<=n) (h4:n<=16):eH m n=(dF m n (fC m),0):=by unfold eH;rw [acN ⟨h1,h2,h3,h4⟩]
theorem LU {n:Int} {f:Nat->Nat->UInt8}:∀r,r∈dF m n f->r.length=n.toNat:=fun r hr=>by
 unfold dF at hr
 obtain ⟨i,_,rfl⟩:=ade.1 hr
 simp
theorem Zc {data:List BA} {more:Int} (h1:¬(data.length:Int)=0) (h2:(data.length:Int)<=8) (h3:1<=more) (h4:more<=6) (h:cT data=0):iA (eH more data.length).1 data:=by
 obtain ⟨a1,a2⟩:=LQ h
 have h0:=a1 _ (iv (d:=ByteArray.empty) (xs:=data) (i:=0) (by omega))
 rw [Fp h3 (by omega) (by omega) (by omega)]
 refine ⟨by omega,by omega, ?_,fun r hr=>by have:=LU r hr;omega,fun s hs=>by rw [a2 s hs];exact acV _,by omega⟩
 unfold dF;simp;omega
def sr (l:List Int) (n:Int):Int:=iS (fun x=>decide (n=x)) l 0
theorem Zd {l:List Int} {n:Int}:decide (0<=sr l n)=decide (n∈l):=by
 unfold sr
 rw [LP,aee,adr,decide_eq_true_iff]
 constructor
 ·rintro ⟨x,hx,he⟩;rw [decide_eq_true_iff] at he;rw [he];exact hx
 ·intro h;exact ⟨n,h,by simp⟩
def Fq:bk Tc Tc.dn:=⟨61,[.ty .gL],fun x=>(fun (s:ByteArray)=>True) x.1,[.ed],fun x=>(fun (s:ByteArray)=>eN s) x.1⟩
theorem Ze (s:ByteArray):decide ((64:Int)<(↑s.size:Int))=eN s:=by
 (repeat' (first|apply And.intro|intro _))<;>first|assumption|trivial|omega|(grind [eN])|trace_state
theorem Zf:Fq.Ok Try.prog tB:=bO gn (Δ:=[]) trivial (Ω:=[]) trivial Fq SX SY (fun _=>[]) (fun _=>trivial) 0 (fun x=>(fun (s:ByteArray)=>(fun _=>none)) x.1) fun x hp=>Eq.mp (by kernel_rfl) (Ze x.1)
def wX (xs:(List ByteArray)) (k:Int):Prop:=fN (eN) xs k
def Fs:bk Tc Tc.dn:=⟨79,[.ty .jl, .jh 61 []],fun x=>(fun (xs:(List ByteArray))=>xs.length<=1000000) x.1,[.aA],fun x=>(fun (xs:(List ByteArray))=>iS (eN) xs 0) x.1⟩
theorem Zg (xs:(List ByteArray)) (hp:xs.length<=1000000):wX xs (0:Int)/\∀(x:Int),wX xs x->(x<(↑xs.length:Int)->((0:Int)<=x/\x<(↑xs.length:Int))/\True/\(eN (gd ByteArray.empty xs x.toNat)=true->x=iS eN xs (0:Int))/\(eN (gd ByteArray.empty xs x.toNat)=false->aE (x+(1:Int))/\wX xs (x+(1:Int))/\((↑xs.length:Int) - (x+(1:Int))).toNat<((↑xs.length:Int) - x).toNat))/\((↑xs.length:Int)<=x->(-1:Int)=iS eN xs (0:Int)):=by
 have h1:= @fN.start BA (eN) xs
 have h2:= @fN.no BA (eN) ByteArray.empty xs
 have h3:= @fN.yes BA (eN) ByteArray.empty xs
 have h4:= @fN.fin BA (eN) xs
 have h5:= @fN.lo BA (eN) xs
 have h6:= @fN.sk BA (eN) xs
 (repeat' (first|apply And.intro|intro _))<;>first|assumption|trivial|omega|(grind [wX,aE])|trace_state
theorem Zh:Fs.Ok Try.prog tB:=bO gn (Δ:=[Fq]) ⟨Zf,trivial⟩ (Ω:=[]) trivial Fs Tq Tr (fun _=>[]) (fun _=>trivial) 0 (fun x=>(fun (xs:(List ByteArray))=>(fun k=>bif Nat.beq k 0 then some (.inv [.sl 8 .aA] (fun zo zv=>(fun (k:Int)=>wX xs k) zv.1) (fun zo zv=>(fun (k:Int)=>((xs.length:Int) - k).toNat) zv.1)) else none)) x.1) fun x hp=>Eq.mp (by kernel_rfl) (Zg x.1 hp)
def Ft:bk Tc Tc.dn:=⟨60,[.ty .jl, .jh 61 []],fun x=>(fun (xs:(List ByteArray))=>xs.length<=1000000) x.1,[.ed],fun x=>(fun (xs:(List ByteArray))=>xs.any eN) x.1⟩
theorem Zi (xs:(List ByteArray)) (hp:xs.length<=1000000):xs.length<=(1000000:Nat)/\decide ((0:Int)<=iS eN xs (0:Int))=xs.any eN:=by
 have h1:= @LP BA eN xs
 (repeat' (first|apply And.intro|intro _))<;>first|assumption|trivial|omega|(grind [])|trace_state
theorem Zj:Ft.Ok Try.prog tB:=bO gn (Δ:=[Fs]) ⟨Zh,trivial⟩ (Ω:=[]) trivial Ft SQ SU (fun _=>[]) (fun _=>trivial) 0 (fun x=>(fun (xs:(List ByteArray))=>(fun _=>none)) x.1) fun x hp=>Eq.mp (by kernel_rfl) (Zi x.1 hp)
def wY (xs:(List Int)) (n:Int) (k:Int):Prop:=fN (fun x=>decide (n=x)) xs k
def Fu:bk Tc Tc.dn:=⟨73,[.ty .jN, .ty .aA],fun x=>(fun (xs:(List Int)) (n:Int)=>xs.length<=1000000) x.1 x.2.1,[.aA],fun x=>(fun (xs:(List Int)) (n:Int)=>sr xs n) x.1 x.2.1⟩
theorem Zk (xs:(List Int)) (n:Int) (hp:xs.length<=1000000):wY xs n (0:Int)/\∀(x:Int),wY xs n x->(x<(↑xs.length:Int)->((0:Int)<=x/\x<(↑xs.length:Int))/\(n=gd (0:Int) xs x.toNat->x=sr xs n)/\(¬n=gd (0:Int) xs x.toNat->aE (x+(1:Int))/\wY xs n (x+(1:Int))/\((↑xs.length:Int) - (x+(1:Int))).toNat<((↑xs.length:Int) - x).toNat))/\((↑xs.length:Int)<=x->(-1:Int)=sr xs n):=by
 have h1:= @fN.start Int (fun x=>decide (n=x)) xs
 have h2:= @fN.no Int (fun x=>decide (n=x)) 0 xs
 have h3:= @fN.yes Int (fun x=>decide (n=x)) 0 xs
 have h4:= @fN.fin Int (fun x=>decide (n=x)) xs
 have h5:= @fN.lo Int (fun x=>decide (n=x)) xs
 have h6:= @fN.sk Int (fun x=>decide (n=x)) xs
 unfold sr
 (repeat' (first|apply And.intro|intro _))<;>first|assumption|trivial|omega|(grind [wY,aE])|trace_state
theorem Zl:Fu.Ok Try.prog tB:=bO gn (Δ:=[]) trivial (Ω:=[]) trivial Fu S9 Ta (fun _=>[]) (fun _=>trivial) 0 (fun x=>(fun (xs:(List Int)) (n:Int)=>(fun k=>bif Nat.beq k 0 then some (.inv [.sl 8 .aA] (fun zo zv=>(fun (k:Int)=>wY xs n k) zv.1) (fun zo zv=>(fun (k:Int)=>((xs.length:Int) - k).toNat) zv.1)) else none)) x.1 x.2.1) fun x hp=>Eq.mp (by kernel_rfl) (Zk x.1 x.2.1 hp)
def Av:bk Tc Tc.dn:=⟨57,[.ty .jN, .ty .aA],fun x=>(fun (xs:(List Int)) (n:Int)=>xs.length<=1000000) x.1 x.2.1,[.ed],fun x=>(fun (xs:(List Int)) (n:Int)=>decide (n∈xs)) x.1 x.2.1⟩
theorem Zm (xs:(List Int)) (n:Int) (hp:xs.length<=1000000):xs.length<=(1000000:Nat)/\decide ((0:Int)<=sr xs n)=decide (n∈xs):=by
 have h1:= @Zd xs n
 (repeat' (first|apply And.intro|intro _))<;>first|assumption|trivial|omega|(grind [])|trace_state
theorem LV:Av.Ok Try.prog tB:=bO gn (Δ:=[Fu]) ⟨Zl,trivial⟩ (Ω:=[]) trivial Av SH SI (fun _=>[]) (fun _=>trivial) 0 (fun x=>(fun (xs:(List Int)) (n:Int)=>(fun _=>none)) x.1 x.2.1) fun x hp=>Eq.mp (by kernel_rfl) (Zm x.1 x.2.1 hp)
def Aw:bk Tc Tc.dn:=⟨45,[.ty .aA, .ty .aA],fun x=>(fun (n:Int) (tY:Int)=>True) x.1 x.2.1,[.ed],fun x=>(fun (n:Int) (tY:Int)=>decide (1<=n/\n<=tY)) x.1 x.2.1⟩
theorem Zn (n:Int) (tY:Int):((1:Int)<=n->(1:Int)<=n)/\((1:Int)<=n->(1:Int)<=n)/\((1:Int)<=n->(1:Int)<=n)/\(decide ((1:Int)<=n)&&decide (n<=tY))=decide ((1:Int)<=n/\n<=tY):=by
 (repeat' (first|apply And.intro|intro _))<;>first|assumption|trivial|omega|(grind [])|trace_state
theorem LW:Aw.Ok Try.prog tB:=bO gn (Δ:=[]) trivial (Ω:=[]) trivial Aw Se Sf (fun _=>[]) (fun _=>trivial) 0 (fun x=>(fun (n:Int) (tY:Int)=>(fun _=>none)) x.1 x.2.1) fun x hp=>Eq.mp (by kernel_rfl) (Zn x.1 x.2.1)
def wZ (l:(List ByteArray)) (i:Int):Prop:=jo l i
def Ax:bk Tc Tc.dn:=⟨46,[.ty .jl],fun x=>(fun (l:(List ByteArray))=>l.length<=1000000) x.1,[.aA],fun x=>(fun (l:(List ByteArray))=>cT l) x.1⟩
theorem Zo (l:(List ByteArray)) (hp:l.length<=1000000):l.length<=(1000000:Nat)/\(l.any eN=true->(2:Int)=cT l)/\(l.any eN=false->wZ l (0:Int)/\∀(x:Int),wZ l x->(x<(↑l.length:Int)->((0:Int)<=x/\x<(↑l.length:Int))/\((0:Int)<=(0:Int)/\(0:Int)<(↑l.length:Int))/\(¬(↑(gd ByteArray.empty l x.toNat).size:Int)=(↑(gd ByteArray.empty l (Int.toNat (0:Int))).size:Int)->(1:Int)=cT l)/\((↑(gd ByteArray.empty l x.toNat).size:Int)=(↑(gd ByteArray.empty l (Int.toNat (0:Int))).size:Int)->aE (x+(1:Int))/\wZ l (x+(1:Int))/\((↑l.length:Int) - (x+(1:Int))).toNat<((↑l.length:Int) - x).toNat))/\((↑l.length:Int)<=x->(0:Int)=cT l)):=by
 have h1:= @jo.start l
 have h2:= @jo.step l
 have h3:= @jo.bad l
 have h4:= @jo.fin l
 have h5:= @jo.lo l
 have h6:= @jo.hi l
 have h7:= @Za l
 (repeat' (first|apply And.intro|intro _))<;>first|assumption|trivial|omega|(grind [wZ,aE])|trace_state
theorem LX:Ax.Ok Try.prog tB:=bO gn (Δ:=[Ft]) ⟨Zj,trivial⟩ (Ω:=[]) trivial Ax Sh Si (fun _=>[]) (fun _=>trivial) 0 (fun x=>(fun (l:(List ByteArray))=>(fun k=>bif Nat.beq k 0 then some (.inv [.sl 9 .aA] (fun zo zv=>(fun (i:Int)=>wZ l i) zv.1) (fun zo zv=>(fun (i:Int)=>((l.length:Int) - i).toNat) zv.1)) else none)) x.1) fun x hp=>Eq.mp (by kernel_rfl) (Zo x.1 hp)
open Go.RowKit
structure Mt (A:List (Nat×List UInt8)) (K:List (Row UInt8)) (n m:Nat):Prop where
 len:K.length=n
 row:∀j,j<n->(gd (Row.no UInt8) K j).bD A/\(bj A (gd (Row.no UInt8) K j).id).length=m
 inj:∀j k,j<n->k<n->(gd (Row.no UInt8) K j).id=(gd (Row.no UInt8) K k).id->j=k
def vw (A:List (Nat×List UInt8)) (K:List (Row UInt8)):List (List UInt8):=K.map fun r=>r.get A
structure kC (A0 A:List (Nat×List UInt8)) (r:Row UInt8) (xs:List UInt8):Prop where
 bD:r.bD A
 get:bj A r.id=xs
 has:∀id,id≠r.id->(cv A id↔cv A0 id)
 lk:∀id,id≠r.id->bj A id=bj A0 id
def kD (r:List UInt8) (f:UInt8) (k:Nat):List UInt8:=(r.take k).map (fun x=>aW x f)++r.drop k
def kE (r q:List UInt8) (f:UInt8) (k:Nat):List UInt8:=List.zipWith (fun x y=>x^^^aW f y) (r.take k) (q.take k)++r.drop k
def mU (M:List (List UInt8)) (c d k:Nat):List (List UInt8):=(List.range M.length).map fun i=>if i≠d/\i<k then mS (gd [] M i) (gd [] M d) (gd 0 (gd [] M i) c) else gd [] M i
abbrev jq:Type:=List (Row UInt8)
variable {K:jq}
abbrev iB:Type:=List (Nat×List UInt8)
variable {A:iB}
abbrev ga (K:jq) (i:Int):Row UInt8:=gd (Row.no UInt8) K i.toNat
def Ay (k0:Int) (s0:Nat×Nat) (c0:Int) (K0:jq) (A0:iB) (k:Int) (s:Nat×Nat) (c:Int) (K:jq) (A:iB):Prop:=0<=k/\k<=s.2/\s=s0/\c=c0/\K=K0/\A=A0/\∀j,j<k.toNat->gd 0 ((gd (Row.no UInt8) K (s.1+j)).get A) c.toNat=0
def Az (k0 i0:Int) (f0:UInt8) (K0:jq) (A0:iB) (k i:Int) (f:UInt8) (K:jq) (A:iB):Prop:=0<=k/\i=i0/\f=f0/\K=K0/\0<=i/\i<K.length/\kC A0 A (ga K i) (kD (bj A0 (ga K i).id) f k.toNat)/\k<=(bj A0 (ga K i).id).length
def AA (k0 t0 s0:Int) (f0:UInt8) (K0:jq) (A0:iB) (k t s:Int) (f:UInt8) (K:jq) (A:iB):Prop:=0<=k/\t=t0/\s=s0/\f=f0/\K=K0/\0<=t/\t<K.length/\0<=s/\s<K.length/\(ga K s).id≠(ga K t).id/\(ga K s).bD A0/\(bj A0 (ga K s).id).length=(bj A0 (ga K t).id).length/\kC A0 A (ga K t) (kE (bj A0 (ga K t).id) (bj A0 (ga K s).id) f k.toNat)/\k<=(bj A0 (ga K s).id).length
def nU (c0 d0 tZ:Int) (K0:jq) (A0:iB) (c d ee:Int) (K:jq) (A:iB):Prop:=0<=c/\c<=ee/\ee=tZ/\ee<=1000/\0<=d/\d<K.length/\K.length=K0.length/\K.length<=1000/\(∃m:Nat,Mt A K K.length m/\ee<=m/\m<=1000)/\kA (ee - c).toNat (vw A K) c.toNat d.toNat=kA ee.toNat (vw A0 K0) 0 0
def w8 (k0 c0 d0:Int) (K0:jq) (A0:iB) (k c d:Int) (K:jq) (A:iB):Prop:=0<=k/\k<=K.length/\c=c0/\d=d0/\K=K0/\(∃m:Nat,Mt A0 K K.length m/\Mt A K K.length m/\c<m/\m<=1000)/\vw A K=mU (vw A0 K0) c.toNat d.toNat k.toNat
theorem qN {α:Type} {d:α} {l l':List α} (h:l.length=l'.length) (k:∀i,i<l.length->gd d l i=gd d l' i):l=l':=by
 refine aeh h fun i h1 h2=> ?_
 have:=k i h1
 unfold gd at this
 rw [acT h1,acT h2] at this
 exact this
theorem pD:(vw A K).length=K.length:=by simp [vw]
theorem l9 {m:Nat} (h:Mt A K n m) (hj:j<n):gd [] (vw A K) j=bj A (gd (Row.no UInt8) K j).id:=by
 have hl:j<K.length:=by rw [h.len];exact hj
 have hm:=(h.row j hj).1
 have e:gd (Row.no UInt8) K j=K[j]:=by unfold gd;rw [acT hl];rfl
 rw [<-hm.get.1,e]
 unfold gd vw
 rw [ac5,acT hl];rfl
theorem Mt.LZ {m:Nat} (h:Mt A K n m):gp n m (vw A K):=by
 refine ⟨by rw [pD,h.len],LJ (d:=[]) fun j hj=> ?_⟩
 rw [pD,h.len] at hj
 rw [l9 h hj];exact (h.row j hj).2
theorem Mt.at {m:Nat} (h:Mt A K n m) (hi:i<n):(gd (Row.no UInt8) K i).bD A/\(gd (Row.no UInt8) K i).ok A/\(gd (Row.no UInt8) K i).get A=gd [] (vw A K) i/\((gd (Row.no UInt8) K i).get A).length=m/\(gd (Row.no UInt8) K i).kd≠RK.nil:=by
 have hm:=(h.row i hi).1
 refine ⟨hm,hm.ok,by rw [l9 h hi,hm.get.1],by rw [hm.get.1];exact (h.row i hi).2,by rw [hm.1];simp⟩
theorem Mt.put {A':iB} {m:Nat} (h:Mt A K n m) (hj:j<n) (hr:kC A A' (gd (Row.no UInt8) K j) xs) (hl:xs.length=m):Mt A' K n m/\vw A' K=(vw A K).set j xs:=by
 have hM:Mt A' K n m:=by
  refine ⟨h.len,fun i hi=> ?_,h.inj⟩
  by_cases he:i=j
  ·subst he;exact ⟨hr.bD,by rw [hr.get];exact hl⟩
  ·have aJ:(gd (Row.no UInt8) K i).id≠(gd (Row.no UInt8) K j).id:=fun e=>he (h.inj i j hi hj e)
   obtain ⟨⟨q1,q2,q3⟩,q4⟩:=h.row i hi
   rw [hr.lk _ aJ]
   exact ⟨⟨q1,(hr.has _ aJ).2 q2,by rw [hr.lk _ aJ];exact q3⟩,q4⟩
 refine ⟨hM,qN (d:=[]) (by simp [pD]) fun i hi=> ?_⟩
 rw [pD,h.len] at hi
 rw [l9 hM hi,mT]
 by_cases he:j=i
 ·subst he;rw [acN ⟨rfl,by rw [pD,h.len];exact hj⟩,hr.get]
 ·rw [acL (fun hh=>he hh.1),l9 h hi]
  exact hr.lk _ fun e=>he (h.inj i j hi hj e).symm
theorem Mt.swap {m:Nat} (h:Mt A K n m) (hd:d<n) (hi:i<n):Mt A ((K.set d (gd (Row.no UInt8) K i)).set i (gd (Row.no UInt8) K d)) n m/\vw A ((K.set d (gd (Row.no UInt8) K i)).set i (gd (Row.no UInt8) K d))=l7 (vw A K) d i:=by
 have hl:=h.len
 have hg:∀j,gd (Row.no UInt8) ((K.set d (gd (Row.no UInt8) K i)).set i (gd (Row.no UInt8) K d)) j=gd (Row.no UInt8) K (if i=j then d else if d=j then i else j):=fun j=>by
  rw [mT,mT,ada]
  by_cases h1:i=j
  ·rw [acN ⟨h1,by omega⟩,acN h1]
  ·rw [acL (fun hh=>h1 hh.1),acL h1]
   by_cases h2:d=j
   ·rw [acN ⟨h2,by omega⟩,acN h2]
   ·rw [acL (fun hh=>h2 hh.1),acL h2]
 have hs:∀j,j<n->(if i=j then d else if d=j then i else j)<n:=fun j hj=>by (repeat' split)<;>omega
 have hM:Mt A ((K.set d (gd (Row.no UInt8) K i)).set i (gd (Row.no UInt8) K d)) n m:=by
  refine ⟨by simp [hl],fun j hj=>by rw [hg];exact h.row _ (hs j hj),fun j k hj hk e=> ?_⟩
  rw [hg,hg] at e
  have:=h.inj _ _ (hs j hj) (hs k hk) e
  revert this
  (repeat' split)<;>omega
 refine ⟨hM,qN (d:=[]) (by simp [pD,l7]) fun j hj=> ?_⟩
 have j4:j<n:=by rw [pD] at hj;simp at hj;omega
 rw [l9 hM j4,hg,EP h.LZ hd hi]
 by_cases h1:i=j
 ·rw [acN h1]
  by_cases h2:j=d
  ·rw [acN h2,l9 h hi];congr 2;rw [h1,h2]
  ·rw [acL h2,acN h1.symm,l9 h hd]
 ·rw [acL h1]
  by_cases h2:d=j
  ·rw [acN h2,acN h2.symm,l9 h hi]
  ·rw [acL h2,acL (fun e=>h2 e.symm),acL (fun e=>h1 e.symm),l9 h j4]
theorem kC.start {A:iB} {r:Row UInt8} (h:r.bD A):kC A A r (bj A r.id):=⟨h,rfl,fun _ _=>Iff.rfl,fun _ _=>rfl⟩
theorem kC.put {A0:iB} {r:Row UInt8} {ys:List UInt8} (h:kC A0 A r xs) (hl:ys.length=xs.length):kC A0 ((r.id,ys)::A) r ys:=by
 have hg:=h.bD.get.2
 rw [h.get] at hg
 refine ⟨LH h.bD (by omega),by rw [gj,acN rfl],fun id hid=> ?_,fun id hid=> ?_⟩
 ·rw [jd, <-h.has id hid];exact ⟨fun hh=>hh.resolve_left hid, .inr⟩
 ·rw [gj,acL hid];exact h.lk id hid
theorem ua:(kD r f k).length=r.length:=by simp [kD];omega
theorem Fv (hj:j<r.length):gd 0 (kD r f k) j=if j<k then aW (gd 0 r j) f else gd 0 r j:=by
 unfold kD gd
 by_cases h:j<k
 ·rw [acN h,adB (by simp;omega),ac5,List.getElem?_take_of_lt h,acT hj];rfl
 ·rw [acL h,adJ (by simp;omega)]
  simp only [ac4,adH,adR]
  congr 2;omega
theorem Zp:kD r f 0=r:=by simp [kD]
theorem Zq (hk:k<r.length):(kD r f k).set k (aW (gd 0 (kD r f k) k) f)=kD r f (k+1):=by
 refine qN (d:=0) (by simp [ua]) fun j hj=> ?_
 rw [ada,ua] at hj
 rw [mT,ua,Fv hk,acL (adS k),Fv hj,Fv hj]
 by_cases h:k=j
 ·subst h;rw [acN ⟨rfl,hk⟩,acN (by omega)]
 ·rw [acL (fun hh=>h hh.1)]
  by_cases h2:j<k
  ·rw [acN h2,acN (by omega)]
  ·rw [acL h2,acL (by omega)]
theorem Zr (hk:r.length<=k):kD r f k=tU r f:=by
 unfold kD tU;rw [adK hk,aeI hk,aeq]
theorem ub (h:q.length=r.length):(kE r q f k).length=r.length:=by simp [kE];omega
theorem Fw (h:q.length=r.length) (hj:j<r.length):gd 0 (kE r q f k) j=if j<k then gd 0 r j^^^aW f (gd 0 q j) else gd 0 r j:=by
 unfold kE gd
 by_cases hk:j<k
 ·rw [acN hk,adB (by simp;omega),List.getElem?_zipWith,List.getElem?_take_of_lt hk,List.getElem?_take_of_lt hk,acT hj,acT (by rw [h];exact hj)];rfl
 ·rw [acL hk,adJ (by simp;omega)]
  simp only [List.length_zipWith,adH,adR]
  congr 2;omega
theorem Zs:kE r q f 0=r:=by simp [kE]
theorem Zt (h:q.length=r.length) (hk:k<r.length):(kE r q f k).set k (gd 0 (kE r q f k) k^^^aW f (gd 0 q k))=kE r q f (k+1):=by
 refine qN (d:=0) (by simp [ub h]) fun j hj=> ?_
 rw [ada,ub h] at hj
 rw [mT,ub h,Fw h hk,acL (adS k),Fw h hj,Fw h hj]
 by_cases h1:k=j
 ·subst h1;rw [acN ⟨rfl,hk⟩,acN (by omega)]
 ·rw [acL (fun hh=>h1 hh.1)]
  by_cases h2:j<k
  ·rw [acN h2,acN (by omega)]
  ·rw [acL h2,acL (by omega)]
theorem Zu (h:q.length=r.length) (hk:r.length<=k):kE r q f k=mS r q f:=by
 unfold kE mS;rw [adK hk,adK (by omega),aeI hk,aeq]
theorem qO (hi:i<M.length):gd [] (mU M c d k) i=if i≠d/\i<k then mS (gd [] M i) (gd [] M d) (gd 0 (gd [] M i) c) else gd [] M i:=by
 unfold mU
 show ((List.map _ _)[i]?).getD []=_
 rw [ac5,aeA hi];rfl
theorem nV:(mU M c d k).length=M.length:=by simp [mU]
theorem Zv:mU M c d 0=M:=qN (d:=[]) nV fun i hi=>by rw [nV] at hi;rw [qO hi,acL (by omega)]
theorem Zw:mU M c d (d+1)=mU M c d d:=qN (d:=[]) (by rw [nV,nV]) fun i hi=>by
 rw [nV] at hi
 rw [qO hi,qO hi]
 by_cases h:i≠d/\i<d
 ·rw [acN h,acN (by omega)]
 ·rw [acL h,acL (by omega)]
theorem Zx (hk:k<M.length) (hd:k≠d):(mU M c d k).set k (mS (gd [] M k) (gd [] M d) (gd 0 (gd [] M k) c))=mU M c d (k+1):=qN (d:=[]) (by simp [nV]) fun i hi=>by
 rw [ada,nV] at hi
 rw [mT,nV,qO hi,qO hi]
 by_cases h:k=i
 ·subst h;rw [acN ⟨rfl,hk⟩,acN (by omega)]
 ·rw [acL (fun hh=>h hh.1)]
  by_cases h2:i≠d/\i<k
  ·rw [acN h2,acN (by omega)]
  ·rw [acL h2,acL (by omega)]
theorem Zy (hk:M.length<=k):mU M c d k=nO M c d:=by
 refine qN (d:=[]) (by simp [nV,nO]) fun i hi=> ?_
 rw [nV] at hi
 rw [qO hi]
 unfold nO
 show _=((List.map _ _)[i]?).getD []
 rw [ac5,aeA hi]
 show _=if i=d then _ else _
 by_cases h:i=d
 ·rw [acN h,acL (by omega),h]
 ·rw [acL h,acN (by omega)]
theorem L1 {M:List (List UInt8)} {c:Nat}:∀{f d x:Nat},(∀j,j<x->gd 0 (gd [] M (d+j)) c=0)->gd 0 (gd [] M (d+x)) c≠0->x<f->findR M c d f=some (d+x)
 |0,d,x,_,_,h=>by omega
 |f+1,d,0,_,h2,_=>by unfold findR;rw [acN (by simpa using h2)];rfl
 |f+1,d,x+1,h1,h2,h3=>by
  unfold findR
  rw [acL (by have:=h1 0 (by omega);simpa using this),L1 (x:=x) (fun j hj=>by have:=h1 (j+1) (by omega);rw [show d+1+j=d+(j+1) by omega];exact this) (by rw [show d+1+x=d+(x+1) by omega];exact h2) (by omega)]
  congr 1;omega
theorem L2 {M:List (List UInt8)} {c:Nat}:∀{f d:Nat},(∀j,j<f->gd 0 (gd [] M (d+j)) c=0)->findR M c d f=none
 |0,d,_=>rfl
 |f+1,d,h=>by
  unfold findR
  rw [acL (by have:=h 0 (by omega);simpa using this)]
  exact L2 fun j hj=>by have:=h (j+1) (by omega);rw [show d+1+j=d+(j+1) by omega];exact this
theorem Zz {x:UInt8} (h:x≠0):gq x=iu x:=by unfold gq;rw [acL h]
def Fx:bk Tc Tc.dn:=⟨88,[.ty .mR, .ptr .aA],fun x=>(fun (r:(List UInt8)) (c:Int)=>0<=c/\c<r.length) x.1 x.2.1,[.ed],fun x=>(fun (r:(List UInt8)) (c:Int)=>decide (gd 0 r c.toNat≠0)) x.1 x.2.1⟩
theorem ZA (r:(List UInt8)) (c:Int) (hp:0<=c/\c<r.length):((0:Int)<=c/\c<(↑r.length:Int))/\(!gd (0:UInt8) r c.toNat==UInt8.ofNat (Int.toNat (0:Int)))=decide (gd (0:UInt8) r c.toNat≠(0:UInt8)):=by
 (repeat' (first|apply And.intro|intro _))<;>first|assumption|trivial|omega|(grind [])|trace_state
theorem ZB:Fx.Ok Try.prog tB:=bO gn (Δ:=[]) trivial (Ω:=[]) trivial Fx Tv Tw (fun _=>[]) (fun _=>trivial) 0 (fun x=>(fun (r:(List UInt8)) (c:Int)=>(fun _=>none)) x.1 x.2.1) fun x hp=>Eq.mp (by kernel_rfl) (ZA x.1 x.2.1 hp)
open Go.RowKit
theorem ZC (ee:Int) (KI:jq) (AI:iB) (Q:Int->jq->iB->Prop) (h0:nU 0 0 ee KI AI 0 0 ee KI AI) (hQ:∀d K A,0<=d->(∃m:Nat,Mt A K KI.length m/\ee<=m)->kA ee.toNat (vw AI KI) 0 0=(vw A K,d.toNat)->Q d K A):
 nU (0:Int) (0:Int) ee KI AI (0:Int) (0:Int) ee KI AI/\∀(x ae aB:Int) (aF:List (Row UInt8)) (aU:List (Nat×List UInt8)),nU (0:Int) (0:Int) ee KI AI x ae aB aF aU->(x<ee->((0:Int)<=ae/\ae<=(↑aF.length:Int))/\Ay (0:Int) (ae.toNat,(↑aF.length:Int).toNat - ae.toNat) x aF aU (0:Int) (ae.toNat,(↑aF.length:Int).toNat - ae.toNat) x aF aU/\∀(aC:Int) (bp:Nat×Nat) (bL:Int) (aG:List (Row UInt8)) (cj:List (Nat×List UInt8)),Ay (0:Int) (ae.toNat,(↑aF.length:Int).toNat - ae.toNat) x aF aU aC bp bL aG cj->(aC<(↑((↑aF.length:Int).toNat - ae.toNat):Int)->((0:Int)<=aC/\aC<(↑bp.snd:Int))/\bp.fst+aC.toNat<aG.length/\(gd (Row.no UInt8) aG (bp.fst+aC.toNat)).ok cj/\(gd (Row.no UInt8) aG (bp.fst+aC.toNat)).kd≠RK.nil/\((0:Int)<=bL/\bL<(↑((gd (Row.no UInt8) aG (bp.fst+aC.toNat)).get cj).length:Int))/\(decide (gd (0:UInt8) ((gd (Row.no UInt8) aG (bp.fst+aC.toNat)).get cj) bL.toNat≠(0:UInt8))=true->(aC<(0:Int)->aE (x+(1:Int))/\nU (0:Int) (0:Int) ee KI AI (x+(1:Int)) ae aB aG cj/\(aB - (x+(1:Int))).toNat<(aB - x).toNat)/\((0:Int)<=aC->aE (ae+aC)/\aE (ae+aC)/\((0:Int)<=ae+aC/\ae+aC<(↑aG.length:Int))/\(ae+aC).toNat<aG.length/\((0:Int)<=ae/\ae<(↑aG.length:Int))/\ae.toNat<aG.length/\((0:Int)<=ae/\ae<(↑aG.length:Int))/\ae.toNat<aG.length/\((0:Int)<=ae+aC/\ae+aC<(↑(aG.set ae.toNat (gd (Row.no UInt8) aG (ae+aC).toNat)).length:Int))/\(ae+aC).toNat<(aG.set ae.toNat (gd (Row.no UInt8) aG (ae+aC).toNat)).length/\((0:Int)<=ae/\ae<(↑((aG.set ae.toNat (gd (Row.no UInt8) aG (ae+aC).toNat)).set (ae+aC).toNat (gd (Row.no UInt8) aG ae.toNat)).length:Int))/\ae.toNat<((aG.set ae.toNat (gd (Row.no UInt8) aG (ae+aC).toNat)).set (ae+aC).toNat (gd (Row.no UInt8) aG ae.toNat)).length/\(gd (Row.no UInt8) ((aG.set ae.toNat (gd (Row.no UInt8) aG (ae+aC).toNat)).set (ae+aC).toNat (gd (Row.no UInt8) aG ae.toNat)) ae.toNat).ok cj/\((0:Int)<=bL/\bL<(↑((gd (Row.no UInt8) ((aG.set ae.toNat (gd (Row.no UInt8) aG (ae+aC).toNat)).set (ae+aC).toNat (gd (Row.no UInt8) aG ae.toNat)) ae.toNat).get cj).length:Int))/\(gd (Row.no UInt8) ((aG.set ae.toNat (gd (Row.no UInt8) aG (ae+aC).toNat)).set (ae+aC).toNat (gd (Row.no UInt8) aG ae.toNat)) ae.toNat).ok cj/\bL.toNat<((gd (Row.no UInt8) ((aG.set ae.toNat (gd (Row.no UInt8) aG (ae+aC).toNat)).set (ae+aC).toNat (gd (Row.no UInt8) aG ae.toNat)) ae.toNat).get cj).length/\True/\((0:Int)<=ae/\ae<(↑((aG.set ae.toNat (gd (Row.no UInt8) aG (ae+aC).toNat)).set (ae+aC).toNat (gd (Row.no UInt8) aG ae.toNat)).length:Int))/\ae.toNat<((aG.set ae.toNat (gd (Row.no UInt8) aG (ae+aC).toNat)).set (ae+aC).toNat (gd (Row.no UInt8) aG ae.toNat)).length/\(gd (Row.no UInt8) ((aG.set ae.toNat (gd (Row.no UInt8) aG (ae+aC).toNat)).set (ae+aC).toNat (gd (Row.no UInt8) aG ae.toNat)) ae.toNat).ok cj/\Az (0:Int) ae (gq (gd (0:UInt8) ((gd (Row.no UInt8) ((aG.set ae.toNat (gd (Row.no UInt8) aG (ae+aC).toNat)).set (ae+aC).toNat (gd (Row.no UInt8) aG ae.toNat)) ae.toNat).get cj) bL.toNat)) ((aG.set ae.toNat (gd (Row.no UInt8) aG (ae+aC).toNat)).set (ae+aC).toNat (gd (Row.no UInt8) aG ae.toNat)) cj (0:Int) ae (gq (gd (0:UInt8) ((gd (Row.no UInt8) ((aG.set ae.toNat (gd (Row.no UInt8) aG (ae+aC).toNat)).set (ae+aC).toNat (gd (Row.no UInt8) aG ae.toNat)) ae.toNat).get cj) bL.toNat)) ((aG.set ae.toNat (gd (Row.no UInt8) aG (ae+aC).toNat)).set (ae+aC).toNat (gd (Row.no UInt8) aG ae.toNat)) cj/\∀(dX cM:Int) (su:UInt8) (bX:List (Row UInt8)) (dA:List (Nat×List UInt8)),Az (0:Int) ae (gq (gd (0:UInt8) ((gd (Row.no UInt8) ((aG.set ae.toNat (gd (Row.no UInt8) aG (ae+aC).toNat)).set (ae+aC).toNat (gd (Row.no UInt8) aG ae.toNat)) ae.toNat).get cj) bL.toNat)) ((aG.set ae.toNat (gd (Row.no UInt8) aG (ae+aC).toNat)).set (ae+aC).toNat (gd (Row.no UInt8) aG ae.toNat)) cj dX cM su bX dA->(dX<(↑((gd (Row.no UInt8) ((aG.set ae.toNat (gd (Row.no UInt8) aG (ae+aC).toNat)).set (ae+aC).toNat (gd (Row.no UInt8) aG ae.toNat)) ae.toNat).get cj).length:Int)->((0:Int)<=cM/\cM<(↑bX.length:Int))/\cM.toNat<bX.length/\((0:Int)<=cM/\cM<(↑bX.length:Int))/\cM.toNat<bX.length/\(gd (Row.no UInt8) bX cM.toNat).ok dA/\((0:Int)<=dX/\dX<(↑((gd (Row.no UInt8) bX cM.toNat).get dA).length:Int))/\(gd (Row.no UInt8) bX cM.toNat).ok dA/\dX.toNat<((gd (Row.no UInt8) bX cM.toNat).get dA).length/\True/\(gd (Row.no UInt8) bX cM.toNat).ok dA/\((0:Int)<=dX/\dX<(↑((gd (Row.no UInt8) bX cM.toNat).get dA).length:Int))/\(gd (Row.no UInt8) bX cM.toNat).bD dA/\dX.toNat<((gd (Row.no UInt8) bX cM.toNat).get dA).length/\aE (dX+(1:Int))/\Az (0:Int) ae (gq (gd (0:UInt8) ((gd (Row.no UInt8) ((aG.set ae.toNat (gd (Row.no UInt8) aG (ae+aC).toNat)).set (ae+aC).toNat (gd (Row.no UInt8) aG ae.toNat)) ae.toNat).get cj) bL.toNat)) ((aG.set ae.toNat (gd (Row.no UInt8) aG (ae+aC).toNat)).set (ae+aC).toNat (gd (Row.no UInt8) aG ae.toNat)) cj (dX+(1:Int)) cM su bX (((gd (Row.no UInt8) bX cM.toNat).id,((gd (Row.no UInt8) bX cM.toNat).get dA).set dX.toNat (aW (gd (0:UInt8) ((gd (Row.no UInt8) bX cM.toNat).get dA) dX.toNat) su))::dA)/\((↑(bj cj (ga bX cM).id).length:Int) - (dX+(1:Int))).toNat<((↑(bj cj (ga bX cM).id).length:Int) - dX).toNat)/\((↑((gd (Row.no UInt8) ((aG.set ae.toNat (gd (Row.no UInt8) aG (ae+aC).toNat)).set (ae+aC).toNat (gd (Row.no UInt8) aG ae.toNat)) ae.toNat).get cj).length:Int)<=dX->w8 (0:Int) x ae bX dA (0:Int) x ae bX dA/\∀(bQ k8 bZ:Int) (bA:List (Row UInt8)) (cF:List (Nat×List UInt8)),w8 (0:Int) x ae bX dA bQ k8 bZ bA cF->(bQ<(↑bX.length:Int)->(¬bQ=bZ->((0:Int)<=bQ/\bQ<(↑bA.length:Int))/\bQ.toNat<bA.length/\(gd (Row.no UInt8) bA bQ.toNat).ok cF/\((0:Int)<=bL/\bL<(↑((gd (Row.no UInt8) bA bQ.toNat).get cF).length:Int))/\(gd (Row.no UInt8) bA bQ.toNat).ok cF/\bL.toNat<((gd (Row.no UInt8) bA bQ.toNat).get cF).length/\((0:Int)<=bZ/\bZ<(↑bA.length:Int))/\bZ.toNat<bA.length/\(gd (Row.no UInt8) bA bZ.toNat).ok cF/\AA (0:Int) bQ bZ (gd (0:UInt8) ((gd (Row.no UInt8) bA bQ.toNat).get cF) bL.toNat) bA cF (0:Int) bQ bZ (gd (0:UInt8) ((gd (Row.no UInt8) bA bQ.toNat).get cF) bL.toNat) bA cF/\∀(c9 dK pE:Int) (sv:UInt8) (da:List (Row UInt8)) (di:List (Nat×List UInt8)),AA (0:Int) bQ bZ (gd (0:UInt8) ((gd (Row.no UInt8) bA bQ.toNat).get cF) bL.toNat) bA cF c9 dK pE sv da di->(c9<(↑((gd (Row.no UInt8) bA bZ.toNat).get cF).length:Int)->(gd (Row.no UInt8) bA bZ.toNat).ok di/\((0:Int)<=c9/\c9<(↑((gd (Row.no UInt8) bA bZ.toNat).get di).length:Int))/\(gd (Row.no UInt8) bA bZ.toNat).ok di/\c9.toNat<((gd (Row.no UInt8) bA bZ.toNat).get di).length/\((0:Int)<=dK/\dK<(↑da.length:Int))/\dK.toNat<da.length/\(gd (Row.no UInt8) da dK.toNat).ok di/\((0:Int)<=c9/\c9<(↑((gd (Row.no UInt8) da dK.toNat).get di).length:Int))/\(gd (Row.no UInt8) da dK.toNat).ok di/\c9.toNat<((gd (Row.no UInt8) da dK.toNat).get di).length/\True/\(gd (Row.no UInt8) da dK.toNat).ok di/\((0:Int)<=c9/\c9<(↑((gd (Row.no UInt8) da dK.toNat).get di).length:Int))/\(gd (Row.no UInt8) da dK.toNat).bD di/\c9.toNat<((gd (Row.no UInt8) da dK.toNat).get di).length/\aE (c9+(1:Int))/\AA (0:Int) bQ bZ (gd (0:UInt8) ((gd (Row.no UInt8) bA bQ.toNat).get cF) bL.toNat) bA cF (c9+(1:Int)) dK pE sv da (((gd (Row.no UInt8) da dK.toNat).id,((gd (Row.no UInt8) da dK.toNat).get di).set c9.toNat (gd (0:UInt8) ((gd (Row.no UInt8) da dK.toNat).get di) c9.toNat^^^aW sv (gd (0:UInt8) ((gd (Row.no UInt8) bA bZ.toNat).get di) c9.toNat)))::di)/\((↑(bj cF (ga da pE).id).length:Int) - (c9+(1:Int))).toNat<((↑(bj cF (ga da pE).id).length:Int) - c9).toNat)/\((↑((gd (Row.no UInt8) bA bZ.toNat).get cF).length:Int)<=c9->aE (bQ+(1:Int))/\w8 (0:Int) x ae bX dA (bQ+(1:Int)) k8 bZ da di/\((↑da.length:Int) - (bQ+(1:Int))).toNat<((↑bA.length:Int) - bQ).toNat))/\(bQ=bZ->aE (bQ+(1:Int))/\w8 (0:Int) x ae bX dA (bQ+(1:Int)) k8 bZ bA cF/\((↑bA.length:Int) - (bQ+(1:Int))).toNat<((↑bA.length:Int) - bQ).toNat))/\((↑bX.length:Int)<=bQ->aE (bZ+(1:Int))/\(bZ+(1:Int)=(↑bA.length:Int)->Q (bZ+(1:Int)) bA cF)/\(¬bZ+(1:Int)=(↑bA.length:Int)->aE (k8+(1:Int))/\nU (0:Int) (0:Int) ee KI AI (k8+(1:Int)) (bZ+(1:Int)) aB bA cF/\(aB - (k8+(1:Int))).toNat<(aB - x).toNat)))))/\(decide (gd (0:UInt8) ((gd (Row.no UInt8) aG (bp.fst+aC.toNat)).get cj) bL.toNat≠(0:UInt8))=false->aE (aC+(1:Int))/\Ay (0:Int) (ae.toNat,(↑aF.length:Int).toNat - ae.toNat) x aF aU (aC+(1:Int)) bp bL aG cj/\((↑bp.snd:Int) - (aC+(1:Int))).toNat<((↑bp.snd:Int) - aC).toNat))/\((↑((↑aF.length:Int).toNat - ae.toNat):Int)<=aC->aE (x+(1:Int))/\nU (0:Int) (0:Int) ee KI AI (x+(1:Int)) ae aB aG cj/\(aB - (x+(1:Int))).toNat<(aB - x).toNat))/\(ee<=x->Q (ae) aF aU):=by
 refine ⟨h0,fun c d w9 K A hI=> ?_⟩
 obtain ⟨c0,c1,ec,L4,d0,d1,el,ZD,⟨m,hM,hm,uw⟩,AB⟩:=hI
 subst ec
 refine ⟨fun hc=> ?_,fun hc=> ?_⟩
 case refine_2=>
  refine hQ d K A d0 ⟨m,by rw [<-el];exact hM,hm⟩ ?_
  rw [<-AB,show (w9 - c).toNat=0 by omega];rfl
 have AD:(vw A K).length=K.length:=pD
 have L5:(w9 - c).toNat=(w9 - (c+1)).toNat+1:=by omega
 have nt:(c+1).toNat=c.toNat+1:=by omega
 have ik:(d+1).toNat=d.toNat+1:=by omega
 refine ⟨⟨d0,by omega⟩,⟨adY _,by simp,rfl,rfl,rfl,rfl,fun j hj=>by simp at hj⟩,fun k s cc K' A' hX=> ?_⟩
 obtain ⟨k0,k1,es,ZE,eK,eA,hz⟩:=hX
 subst es;subst ZE;subst eK;subst eA
 have L6:∀j,j<k.toNat->gd 0 (gd [] (vw A' K') (d.toNat+j)) cc.toNat=0:=fun j hj=>by
  have:=hz j hj
  simp only at this k1
  rw [(hM.at (i:=d.toNat+j) (by omega)).2.2.1] at this
  exact this
 simp only at k1 hz
 refine ⟨fun hk=> ?_,fun hk=> ?_⟩
 case refine_2=>
  refine ⟨⟨by omega,by omega⟩,⟨by omega,by omega,rfl,L4,d0,d1,el,ZD,⟨m,hM,hm,uw⟩, ?_⟩,by omega⟩
  rw [<-AB,L5,nt]
  show _=(match findR (vw A' K') cc.toNat d.toNat ((vw A' K').length - d.toNat) with
   |none=>_
   |some i0=>_)
  rw [L2 (fun j hj=>L6 j (by rw [AD] at hj;omega))]
 have hi:d.toNat+k.toNat<K'.length:=by omega
 have k9:(d+k).toNat=d.toNat+k.toNat:=by omega
 obtain ⟨a1,a2,a3,a4,a5⟩:=hM.at hi
 refine ⟨⟨k0,by omega⟩,hi,a2,a5,⟨c0,by rw [a4];omega⟩,fun aJ=>⟨fun acv=>absurd k0 (by omega),fun _=> ?_⟩,fun aJ=> ?_⟩
 case refine_2=>
  refine ⟨⟨by omega,by omega⟩,⟨by omega,by simp only;omega,rfl,rfl,rfl,rfl,fun j hj=> ?_⟩,by simp only;omega⟩
  by_cases ZF:j<k.toNat
  ·exact hz j ZF
  ·have:j=k.toNat:=by omega
   subst this
   have:=of_decide_eq_false aJ
   exact ad9.1 this
 have aJ:=ad8 aJ
 rw [a3] at aJ
 have ZG:findR (vw A' K') cc.toNat d.toNat ((vw A' K').length - d.toNat)=some (d.toNat+k.toNat):=L1 L6 aJ (by rw [AD];omega)
 obtain ⟨AE,hvs⟩:=hM.swap (d:=d.toNat) (i:=(d+k).toNat) (by omega) (by omega)
 generalize hZ:(K'.set d.toNat (gd (Row.no UInt8) K' (d+k).toNat)).set (d+k).toNat (gd (Row.no UInt8) K' d.toNat)=Z at AE hvs ⊢
 have Fy:Z.length=K'.length:=by rw [<-hZ];simp
 have kF:d.toNat<K'.length:=by omega
 obtain ⟨b1,b2,b3,b4,b5⟩:=AE.at kF
 have hbz:(d.toNat:Int)<(Z.length:Int):=by omega
 refine ⟨⟨by omega,by omega⟩,⟨by omega,by omega⟩,⟨by omega,by omega⟩,by omega,⟨d0,by omega⟩,kF,⟨d0,by omega⟩,kF,⟨by omega,by rw [ada];omega⟩,by rw [ada];omega,⟨d0,by omega⟩,by omega,b2,⟨c0,by rw [b4];omega⟩,b2,by rw [b4];omega,trivial,⟨d0,by omega⟩,by omega,b2,⟨adY _,rfl,rfl,rfl,d0,by omega, ?_,by omega⟩,fun k2 i f K3 A3 hS=> ?_⟩
 ·show kC A' A' (gd (Row.no UInt8) Z d.toNat) (kD _ _ 0)
  rw [Zp];exact kC.start b1
 obtain ⟨q0,ZH,L7,ZI,q1,q2,hR,q3⟩:=hS
 subst ZH;subst ZI
 have hR:kC A' A3 (gd (Row.no UInt8) K3 i.toNat) (kD (bj A' (gd (Row.no UInt8) K3 i.toNat).id) f k2.toNat):=hR
 have q3:k2<=((bj A' (gd (Row.no UInt8) K3 i.toNat).id).length:Int):=q3
 have FA:=b1.get.1
 rw [FA] at b3 b4
 rw [b4] at q3
 have tH:=hR.bD.get
 rw [hR.get] at tH
 have HJ:((gd (Row.no UInt8) K3 i.toNat).get A3).length=m:=by rw [tH.1,ua,b4]
 have hfe:f=gq (gd 0 (bj A' (gd (Row.no UInt8) K3 i.toNat).id) cc.toNat):=by rw [L7,FA]
 rw [<-L7,FA,b4,HJ,tH.1]
 refine ⟨fun l6=> ?_,fun l6=> ?_⟩
 ·refine ⟨⟨q1,by omega⟩,by omega,⟨q1,by omega⟩,by omega,hR.bD.ok,⟨q0,by omega⟩,hR.bD.ok,by omega,trivial,hR.bD.ok,⟨q0,by omega⟩,hR.bD,by omega,⟨by omega,by omega⟩,⟨by omega,rfl,rfl,rfl,q1,q2, ?_,by show k2+1<=((bj A' (gd (Row.no UInt8) K3 i.toNat).id).length:Int);omega⟩,by omega⟩
  rw [Zq (by omega),show k2.toNat+1=(k2+1).toNat by omega]
  exact hR.put (by rw [ua,ua])
 rw [Zr (by omega)] at hR
 obtain ⟨AF,ZJ⟩:=AE.put kF hR (by simp [tU,b4])
 have hrow:gd [] (l7 (vw A' K') i.toNat (i.toNat+k.toNat)) i.toNat=bj A' (gd (Row.no UInt8) K3 i.toNat).id:=by rw [<-l9 AE kF,hvs,k9]
 have sM:gd 0 (bj A' (gd (Row.no UInt8) K3 i.toNat).id) cc.toNat≠0:=by
  rw [<-hrow,EP hM.LZ kF hi,acN rfl];exact aJ
 have eY:vw A3 K3=qF (l7 (vw A' K') i.toNat (i.toNat+k.toNat)) cc.toNat i.toNat:=by
  unfold qF
  rw [ZJ,hfe,Zz sM,hrow,hvs,k9]
 refine ⟨⟨adY _,by omega,rfl,rfl,rfl,⟨m,by rw [Fy];exact AF,by rw [Fy];exact AF,by omega,uw⟩,Zv.symm⟩,fun k3 c2 d2 K4 A4 hO=> ?_⟩
 obtain ⟨p0,p1,ZK,ZL,ZM,⟨m',xc,ma,qZ,FB⟩,xd⟩:=hO
 subst ZK;subst ZL;subst ZM
 have qP:K4.length=K'.length:=Fy
 rw [qP] at xc ma p1
 have acx:(vw A3 K4).length=K'.length:=by rw [pD,qP]
 rw [qP]
 refine ⟨fun ZN=>⟨fun ov=> ?_,fun ov=> ?_⟩,fun ZN=> ?_⟩
 ·have xe:k3.toNat<K'.length:=by omega
  have bH:k3.toNat≠d2.toNat:=fun e=>ov (by omega)
  obtain ⟨e1,e2,e3,e4,e5⟩:=ma.at xe
  obtain ⟨g1,g2,g3,g4,g5⟩:=ma.at kF
  have AG:=(ma.row _ xe).2
  have AH:=(ma.row _ kF).2
  refine ⟨⟨p0,by omega⟩,by omega,e2,⟨c0,by rw [e4];omega⟩,e2,by rw [e4];omega,⟨d0,by omega⟩,by omega,g2,⟨adY _,rfl,rfl,rfl,rfl,p0,by omega,d0,by omega,fun e=>bH (ma.inj _ _ kF xe e).symm,g1,by show (bj A4 (gd (Row.no UInt8) K4 d2.toNat).id).length=(bj A4 (gd (Row.no UInt8) K4 k3.toNat).id).length;rw [AG,AH], ?_,by omega⟩,fun k5 t s f5 K5 A5 hA=> ?_⟩
  ·show kC A4 A4 (gd (Row.no UInt8) K4 k3.toNat) (kE _ _ _ 0)
   rw [Zs];exact kC.start e1
  obtain ⟨r0,et,es,ef,ZO,t0,t1,s0,s1,xf,hsm,cW,la,r3⟩:=hA
  subst et;subst es;subst ZO
  have xf:(gd (Row.no UInt8) K5 s.toNat).id≠(gd (Row.no UInt8) K5 t.toNat).id:=xf
  have la:kC A4 A5 (gd (Row.no UInt8) K5 t.toNat) (kE (bj A4 (gd (Row.no UInt8) K5 t.toNat).id) (bj A4 (gd (Row.no UInt8) K5 s.toNat).id) f5 k5.toNat):=la
  have r3:k5<=((bj A4 (gd (Row.no UInt8) K5 s.toNat).id).length:Int):=r3
  have lB:(bj A4 (gd (Row.no UInt8) K5 s.toNat).id).length=(bj A4 (gd (Row.no UInt8) K5 t.toNat).id).length:=by rw [AG,AH]
  have hq:bj A5 (gd (Row.no UInt8) K5 s.toNat).id=bj A4 (gd (Row.no UInt8) K5 s.toNat).id:=la.lk _ xf
  have FC:(gd (Row.no UInt8) K5 s.toNat).bD A5:=⟨g1.1,(la.has _ xf).2 g1.2.1,by rw [hq];exact g1.2.2⟩
  have FD:=FC.get.1
  rw [hq] at FD
  have FE:=la.bD.get
  rw [la.get] at FE
  have ZP:((gd (Row.no UInt8) K5 t.toNat).get A5).length=m':=by rw [FE.1,ub lB,AG]
  have ZQ:((gd (Row.no UInt8) K5 s.toNat).get A5).length=m':=by rw [FD,AH]
  rw [AH] at r3
  rw [g4,ZP,ZQ,FE.1,FD]
  refine ⟨fun AJ=> ?_,fun AJ=> ?_⟩
  ·refine ⟨FC.ok,⟨r0,AJ⟩,FC.ok,by omega,⟨t0,t1⟩,by omega,la.bD.ok,⟨r0,AJ⟩,la.bD.ok,by omega,trivial,la.bD.ok,⟨r0,AJ⟩,la.bD,by omega,⟨by omega,by omega⟩,⟨by omega,rfl,rfl,ef,rfl,t0,t1,s0,s1,xf,g1,lB, ?_, ?_⟩, ?_⟩
   ·rw [Zt lB (by omega),show k5.toNat+1=(k5+1).toNat by omega]
    exact la.put (by rw [ub lB,ub lB])
   ·show k5+1<=((bj A4 (gd (Row.no UInt8) K5 s.toNat).id).length:Int)
    omega
   ·show (((bj A4 (gd (Row.no UInt8) K5 s.toNat).id).length:Int) - (k5+1)).toNat<(((bj A4 (gd (Row.no UInt8) K5 s.toNat).id).length:Int) - k5).toNat
    omega
  ·rw [Zu lB (by omega)] at la
   obtain ⟨ZR,ZS⟩:=ma.put xe la (by rw [Lf lB.symm];exact AG)
   refine ⟨⟨by omega,by omega⟩,⟨by omega,by omega,rfl,rfl,rfl,⟨m',qP▸xc,qP▸ZR,qZ,FB⟩, ?_⟩,by omega⟩
   have ZT:bj A4 (gd (Row.no UInt8) K5 t.toNat).id=gd [] (vw A3 K5) t.toNat:=by rw [<-l9 ma xe,xd,qO (by omega),acL (by omega)]
   have ZU:bj A4 (gd (Row.no UInt8) K5 s.toNat).id=gd [] (vw A3 K5) s.toNat:=by rw [<-l9 ma kF,xd,qO (by omega),acL (by omega)]
   rw [ZS,xd,ef,e1.get.1,ZT,ZU,Zx (by omega) bH,show t.toNat+1=(t+1).toNat by omega]
 ·refine ⟨⟨by omega,by omega⟩,⟨by omega,by omega,rfl,rfl,rfl,⟨m',qP▸xc,qP▸ma,qZ,FB⟩, ?_⟩,by omega⟩
  rw [xd,ov,ik,Zw]
 ·have ZV:vw A4 K4=py (vw A' K') c2.toNat d2.toNat (d2.toNat+k.toNat):=by
   unfold py
   rw [xd,Zy (by omega),eY]
  have L8:kA (w9 - c2).toNat (vw A' K') c2.toNat d2.toNat=if d2.toNat+1=(vw A' K').length then (vw A4 K4,d2.toNat+1) else kA (w9 - (c2+1)).toNat (vw A4 K4) (c2+1).toNat (d2+1).toNat:=by
   rw [L5,nt,ik,ZV]
   show (match findR (vw A' K') c2.toNat d2.toNat ((vw A' K').length - d2.toNat) with
    |none=>_
    |some i0=>_)=_
   rw [ZG]
  refine ⟨⟨by omega,by omega⟩,fun hq=> ?_,fun hq=>⟨⟨by omega,by omega⟩,⟨by omega,by omega,rfl,L4,by omega,by omega,by omega,by omega,⟨m',by rw [qP];exact ma, ?_,FB⟩, ?_⟩,by omega⟩⟩
  ·refine hQ _ _ _ (by omega) ⟨m',by rw [<-el];exact ma, ?_⟩ ?_
   ·have q1:=(AF.row _ kF).2
    have q2:=(xc.row _ kF).2
    omega
   ·rw [<-AB,L8,acN (by rw [AD];omega),ik]
  ·have q1:=(AF.row _ kF).2
   have q2:=(xc.row _ kF).2
   omega
  ·rw [<-AB,L8,acL (by rw [AD];omega)]
open Go.RowKit
theorem gv.mt {i n:Int} {f:Nat->Nat->UInt8} (h:gv A K i m n f) (hi:m<=i) (hm:0<=m):Mt A K K.length n.toNat:=by
 have hl:=h.len
 refine ⟨rfl,fun j hj=> ?_,fun j k hj hk e=>h.inj j k (by omega) (by omega) e⟩
 obtain ⟨q1,q2,q3⟩:=h.row j (by omega)
 exact ⟨q1,by rw [q3];simp⟩
theorem gv.vw {A:iB} {K:jq} {i m n:Int} {f:Nat->Nat->UInt8} (h:gv A K i m n f) (hi:m<=i) (hm:0<=m):Proofs.Ytboaekdecndckaa.vw A K=dF m n f:=(h.fin hi hm).2
theorem nU.start {A:iB} {K:jq} {i m n ee:Int} {f:Nat->Nat->UInt8} (h:gv A K i m n f) (hi:m<=i) (hm:0<m/\m<=1000) (hn:0<=ee/\ee<=n/\n<=1000):nU 0 0 ee K A 0 0 ee K A:=by
 have hl:=h.len
 exact ⟨adY _,hn.1,rfl,by omega,adY _,by omega,rfl,by omega,⟨n.toNat,h.mt hi (by omega),by omega,by omega⟩,by rw [Int.sub_zero];rfl⟩
open Go.RowKit
def fB (a:List (List UInt8)) (n i k:Nat):UInt8:=if k<n then gd 0 (gd [] a i) k else if k - n=i then 1 else 0
def fI (b:List (List UInt8)) (n i k:Nat):UInt8:=gd 0 (gd [] b i) (n+k)
def nW (a:List (List UInt8)):List (List UInt8)×Nat:=kA a.length (dF a.length (2*(a.length:Int)) (fB a a.length)) 0 0
def bu (a:List (List UInt8)):List (List UInt8)×Int:=
 if jP a≠0 then ([],jP a) else if a.length≠(gd [] a 0).length then ([],1) else if (nW a).2<a.length then ([],5) else (dF a.length a.length (fI (nW a).1 a.length),0)
theorem ZW (h:0<a.length):gp a.length (2*(a.length:Int)).toNat (nW a).1:=by
 have hr:gp a.length (2*(a.length:Int)).toNat (dF a.length (2*(a.length:Int)) (fB a a.length)):=by
  have:=Y4 (m:=(a.length:Int)) (n:=2*(a.length:Int)) (f:=fB a a.length)
  rw [aez] at this
  exact this
 exact (ER a.length _ 0 0 _ hr (RE.refl a.length _) (T8 a.length _) h).1
theorem ZX {i k:Int} (hi:0<=i) (hk:0<=k):((if k<(a.length:Int) then gd 0 (gd [] a i.toNat) k.toNat else if k - (a.length:Int)=i then 1 else 0):UInt8)=fB a a.length i.toNat k.toNat:=by
 unfold fB
 by_cases h:k<((a.length:Nat):Int)
 ·have h2:k.toNat<a.length:=by omega
  rw [acN h,acN h2]
 ·have h2:¬k.toNat<a.length:=by omega
  rw [acL h,acL h2]
  by_cases h3:k - (a.length:Int)=i
  ·have h4:k.toNat - a.length=i.toNat:=by omega
   rw [acN h3,acN h4]
  ·have h4:¬k.toNat - a.length=i.toNat:=by omega
   rw [acL h3,acL h4]
theorem Mt.ib {m:Nat} (h:Mt A K n m):∀r,r∈K->r.ok A/\r.kd≠RK.nil:=by
 intro r hr
 obtain ⟨i,hi,rfl⟩:=List.mem_iff_getElem.1 hr
 have e:gd (Row.no UInt8) K i=K[i]:=by unfold gd;rw [acT hi];rfl
 have hm:=(h.row i (by rw [<-h.len];exact hi)).1
 rw [e] at hm
 exact ⟨Row.bD.ok hm,by rw [hm.1];intro e;cases e⟩
def FF:bk Tc Tc.dn:=⟨75,[.ty .aA, .ty .aA, .ptr .aA, .ptr .iz],fun x=>(fun (i:Int) (k:Int) (n:Int) (a:(List (List UInt8)))=>0<=i/\i<a.length/\0<=k/\0<=n/\n<=1000/\k<=2000/\n<=(gd [] a i.toNat).length) x.1 x.2.1 x.2.2.1 x.2.2.2.1,[.cA],fun x=>(fun (i:Int) (k:Int) (n:Int) (a:(List (List UInt8)))=>if k<n then gd 0 (gd [] a i.toNat) k.toNat else if k - n=i then 1 else 0) x.1 x.2.1 x.2.2.1 x.2.2.2.1⟩
theorem ZY (i:Int) (k:Int) (n:Int) (a:(List (List UInt8))) (hp:0<=i/\i<a.length/\0<=k/\0<=n/\n<=1000/\k<=2000/\n<=(gd [] a i.toNat).length):(k<n->((0:Int)<=i/\i<(↑a.length:Int))/\((0:Int)<=k/\k<(↑(gd [] a i.toNat).length:Int))/\gd (0:UInt8) (gd [] a i.toNat) k.toNat=if k<n then gd (0:UInt8) (gd [] a i.toNat) k.toNat else if k - n=i then (1:UInt8) else (0:UInt8))/\(n<=k->aE (k - n)/\(k - n=i->UInt8.ofNat (Int.toNat (1:Int))=if k<n then gd (0:UInt8) (gd [] a i.toNat) k.toNat else if k - n=i then (1:UInt8) else (0:UInt8))/\(¬k - n=i->UInt8.ofNat (Int.toNat (0:Int))=if k<n then gd (0:UInt8) (gd [] a i.toNat) k.toNat else if k - n=i then (1:UInt8) else (0:UInt8))):=by
 (repeat' (first|apply And.intro|intro _))<;>first|assumption|trivial|omega|(grind [aE])|trace_state
theorem ZZ:FF.Ok Try.prog tB:=bO gn (Δ:=[]) trivial (Ω:=[]) trivial FF Tg Th (fun _=>[]) (fun _=>trivial) 0 (fun x=>(fun (i:Int) (k:Int) (n:Int) (a:(List (List UInt8)))=>(fun _=>none)) x.1 x.2.1 x.2.2.1 x.2.2.2.1) fun x hp=>Eq.mp (by kernel_rfl) (ZY x.1 x.2.1 x.2.2.1 x.2.2.2.1 hp)
def FG:bk Tc Tc.dn:=⟨77,[.ty .aA, .ty .aA, .ptr .iz, .ptr .aA],fun x=>(fun (i:Int) (k:Int) (b:(List (List UInt8))) (n:Int)=>0<=i/\i<b.length/\0<=k/\0<=n/\n<=1000/\n+k<(gd [] b i.toNat).length/\k<=1000) x.1 x.2.1 x.2.2.1 x.2.2.2.1,[.cA],fun x=>(fun (i:Int) (k:Int) (b:(List (List UInt8))) (n:Int)=>gd 0 (gd [] b i.toNat) (n+k).toNat) x.1 x.2.1 x.2.2.1 x.2.2.2.1⟩
theorem Z0 (i:Int) (k:Int) (b:(List (List UInt8))) (n:Int) (hp:0<=i/\i<b.length/\0<=k/\0<=n/\n<=1000/\n+k<(gd [] b i.toNat).length/\k<=1000):((0:Int)<=i/\i<(↑b.length:Int))/\aE (n+k)/\((0:Int)<=n+k/\n+k<(↑(gd [] b i.toNat).length:Int))/\gd (0:UInt8) (gd [] b i.toNat) (n+k).toNat=gd (0:UInt8) (gd [] b i.toNat) (n+k).toNat:=by
 (repeat' (first|apply And.intro|intro _))<;>first|assumption|trivial|omega|(grind [aE])|trace_state
theorem Z1:FG.Ok Try.prog tB:=bO gn (Δ:=[]) trivial (Ω:=[]) trivial FG Tl Tm (fun _=>[]) (fun _=>trivial) 0 (fun x=>(fun (i:Int) (k:Int) (b:(List (List UInt8))) (n:Int)=>(fun _=>none)) x.1 x.2.1 x.2.2.1 x.2.2.2.1) fun x hp=>Eq.mp (by kernel_rfl) (Z0 x.1 x.2.1 x.2.2.1 x.2.2.2.1 hp)
def AK (n:Int) (b:(List (List UInt8))) (q:Int) (k0:Int) (i0:Int) (K0:(List (Row UInt8))) (A0:(List (Nat×List UInt8))) (k:Int) (i:Int) (K:(List (Row UInt8))) (A:(List (Nat×List UInt8))):Prop:=0<=k/\k<=n/\K=K0/\i=i0/\kB A0 A (gd (Row.no UInt8) K i.toNat) k n (fI b q.toNat i.toNat)
def AL (m:Int) (n:Int) (b:(List (List UInt8))) (q:Int) (i:Int) (K:(List (Row UInt8))) (A:(List (Nat×List UInt8))):Prop:=0<=i/\i<=m/\gv A K i m n (fI b q.toNat)
def FH:bk Tc Tc.dn:=⟨63,[.ty .aA, .ty .aA, .jh 77 [(true, .iz),(true, .aA)]],fun x=>(fun (m:Int) (n:Int) (b:(List (List UInt8))) (q:Int)=>0<=m/\m<=64/\0<=n/\n<=64/\0<=q/\q<=64/\m<=b.length/\∀r,r∈b->q+n<=r.length) x.1 x.2.1 x.2.2.1.1 x.2.2.1.2.1,[.iz],fun x=>(fun (m:Int) (n:Int) (b:(List (List UInt8))) (q:Int)=>dF m n (fI b q.toNat)) x.1 x.2.1 x.2.2.1.1 x.2.2.1.2.1⟩
abbrev nX (n:Int):=(List.replicate n.toNat (UInt8.ofNat (Int.toNat (0:Int))))
theorem Z2 (m:Int) (n:Int) (b:(List (List UInt8))) (q:Int) (hp:0<=m/\m<=64/\0<=n/\n<=64/\0<=q/\q<=64/\m<=b.length/\∀r,r∈b->q+n<=r.length):((0:Int)<=m/\m<=m/\m*(↑(24:Nat):Int)<=(140737488355328:Int))/\AL m n b q (0:Int) (List.replicate m.toNat (Row.no UInt8)) []/\∀(x:Int) (af:List (Row UInt8)) (aD:List (Nat×List UInt8)),AL m n b q x af aD->(x<(↑(List.replicate m.toNat (Row.no UInt8)).length:Int)->((0:Int)<=n/\n<=n/\n*(↑(1:Nat):Int)<=(140737488355328:Int))/\((0:Int)<=x/\x<(↑af.length:Int))/\∀(id:Nat),¬cv aD id->x.toNat<af.length/\((0:Int)<=x/\x<(↑(af.set x.toNat (Row.at UInt8 id (nX n).length)).length:Int))/\x.toNat<(af.set x.toNat (Row.at UInt8 id (nX n).length)).length/\(gd (Row.no UInt8) (af.set x.toNat (Row.at UInt8 id (nX n).length)) x.toNat).ok ((id,List.replicate n.toNat (UInt8.ofNat (Int.toNat (0:Int))))::aD)/\AK n b q (0:Int) x (af.set x.toNat (Row.at UInt8 id (nX n).length)) ((id,List.replicate n.toNat (UInt8.ofNat (Int.toNat (0:Int))))::aD) (0:Int) x (af.set x.toNat (Row.at UInt8 id (nX n).length)) ((id,List.replicate n.toNat (UInt8.ofNat (Int.toNat (0:Int))))::aD)/\∀(ae aB:Int) (aF:List (Row UInt8)) (aU:List (Nat×List UInt8)),AK n b q (0:Int) x (af.set x.toNat (Row.at UInt8 id (nX n).length)) ((id,List.replicate n.toNat (UInt8.ofNat (Int.toNat (0:Int))))::aD) ae aB aF aU->(ae<(↑((gd (Row.no UInt8) (af.set x.toNat (Row.at UInt8 id (nX n).length)) x.toNat).get ((id,List.replicate n.toNat (UInt8.ofNat (Int.toNat (0:Int))))::aD)).length:Int)->((0:Int)<=aB/\aB<(↑aF.length:Int))/\aB.toNat<aF.length/\((0:Int)<=aB/\aB<(↑b.length:Int)/\(0:Int)<=ae/\(0:Int)<=q/\q<=(1000:Int)/\q+ae<(↑(gd [] b aB.toNat).length:Int)/\ae<=(1000:Int))/\(gd (Row.no UInt8) aF aB.toNat).ok aU/\((0:Int)<=ae/\ae<(↑((gd (Row.no UInt8) aF aB.toNat).get aU).length:Int))/\(gd (Row.no UInt8) aF aB.toNat).bD aU/\ae.toNat<((gd (Row.no UInt8) aF aB.toNat).get aU).length/\aE (ae+(1:Int))/\AK n b q (0:Int) x (af.set x.toNat (Row.at UInt8 id (nX n).length)) ((id,List.replicate n.toNat (UInt8.ofNat (Int.toNat (0:Int))))::aD) (ae+(1:Int)) aB aF (((gd (Row.no UInt8) aF aB.toNat).id,((gd (Row.no UInt8) aF aB.toNat).get aU).set ae.toNat (gd (0:UInt8) (gd [] b aB.toNat) (q+ae).toNat))::aU)/\(n - (ae+(1:Int))).toNat<(n - ae).toNat)/\((↑((gd (Row.no UInt8) (af.set x.toNat (Row.at UInt8 id (nX n).length)) x.toNat).get ((id,List.replicate n.toNat (UInt8.ofNat (Int.toNat (0:Int))))::aD)).length:Int)<=ae->aE (x+(1:Int))/\AL m n b q (x+(1:Int)) aF aU/\(m - (x+(1:Int))).toNat<(m - x).toNat))/\((↑(List.replicate m.toNat (Row.no UInt8)).length:Int)<=x->(∀(x:Row UInt8),x∈af->x.ok aD/\x.kd≠RK.nil)/\List.map (fun x=>x.get aD) af=dF m n (fI b q.toNat)):=by
 delta nX
 exact Aq m n (fI b q.toNat) (fun i k=>gd 0 (gd [] b i.toNat) (q+k).toNat) (fun i k=>(0:Int)<=i/\i<(↑b.length:Int)/\(0:Int)<=k/\(0:Int)<=q/\q<=(1000:Int)/\q+k<(↑(gd [] b i.toNat).length:Int)/\k<=(1000:Int)) _ ⟨hp.1,hp.2.1,hp.2.2.1,hp.2.2.2.1⟩ (fun i k h1 h2 h3 h4=>⟨⟨h1,by omega,h3,by omega,by omega,by have:=hp.2.2.2.2.2.2.2 _ (iv (d:=[]) (xs:=b) (i:=i.toNat) (by omega));omega,by omega⟩,by unfold fI;rw [show (q+k).toNat=q.toNat+k.toNat by omega]⟩) fun K A i hi h=>h.fin hi hp.1
theorem Z3:FH.Ok Try.prog tB:=bO gn (Δ:=[FG]) ⟨Z1,trivial⟩ (Ω:=[]) trivial FH yD yE (fun _=>[]) (fun _=>trivial) 0 (fun x=>(fun (m:Int) (n:Int) (b:(List (List UInt8))) (q:Int)=>(fun k=>bif Nat.beq k 0 then some (.inv [.sl 14 .aA, .bl 1 .fZ, .ar .cA] (fun zo zv=>(fun (i:Int) (K:(List (Row UInt8))) (A:(List (Nat×List UInt8)))=>AL m n b q i K A) zv.1 zv.2.1 zv.2.2.1) (fun zo zv=>(fun (i:Int) (K:(List (Row UInt8))) (A:(List (Nat×List UInt8)))=>(m - i).toNat) zv.1 zv.2.1 zv.2.2.1)) else bif Nat.beq k 1 then some (.inv [.sl 27 .aA, .sl 8 .aA, .bl 1 .fZ, .ar .cA] (fun zo zv=>(fun (k0:Int) (i0:Int) (K0:(List (Row UInt8))) (A0:(List (Nat×List UInt8))) (k:Int) (i:Int) (K:(List (Row UInt8))) (A:(List (Nat×List UInt8)))=>AK n b q k0 i0 K0 A0 k i K A) zo.1 zo.2.1 zo.2.2.1 zo.2.2.2.1 zv.1 zv.2.1 zv.2.2.1 zv.2.2.2.1) (fun zo zv=>(fun (k0:Int) (i0:Int) (K0:(List (Row UInt8))) (A0:(List (Nat×List UInt8))) (k:Int) (i:Int) (K:(List (Row UInt8))) (A:(List (Nat×List UInt8)))=>(n - k).toNat) zo.1 zo.2.1 zo.2.2.1 zo.2.2.2.1 zv.1 zv.2.1 zv.2.2.1 zv.2.2.2.1)) else none)) x.1 x.2.1 x.2.2.1.1 x.2.2.1.2.1) fun x hp=>Eq.mp (by kernel_rfl) (Z2 x.1 x.2.1 x.2.2.1.1 x.2.2.1.2.1 hp)
def AM (a:(List (List UInt8))) (k0:Int) (i0:Int) (K0:(List (Row UInt8))) (A0:(List (Nat×List UInt8))) (k:Int) (i:Int) (K:(List (Row UInt8))) (A:(List (Nat×List UInt8))):Prop:=0<=k/\k<=(2*(a.length:Int))/\K=K0/\i=i0/\kB A0 A (gd (Row.no UInt8) K i.toNat) k (2*(a.length:Int)) (fB a a.length i.toNat)
def AN (a:(List (List UInt8))) (i:Int) (K:(List (Row UInt8))) (A:(List (Nat×List UInt8))):Prop:=0<=i/\i<=(a.length:Int)/\gv A K i (a.length:Int) (2*(a.length:Int)) (fB a a.length)
def AP (k0:Int) (s0:(Nat×Nat)) (c0:Int) (K0:(List (Row UInt8))) (A0:(List (Nat×List UInt8))) (k:Int) (s:(Nat×Nat)) (c:Int) (K:(List (Row UInt8))) (A:(List (Nat×List UInt8))):Prop:=Ay k0 s0 c0 K0 A0 k s c K A
def AQ (k0:Int) (i0:Int) (f0:UInt8) (K0:(List (Row UInt8))) (A0:(List (Nat×List UInt8))) (k:Int) (i:Int) (f:UInt8) (K:(List (Row UInt8))) (A:(List (Nat×List UInt8))):Prop:=Az k0 i0 f0 K0 A0 k i f K A
def AR (k0:Int) (t0:Int) (s0:Int) (f0:UInt8) (K0:(List (Row UInt8))) (A0:(List (Nat×List UInt8))) (k:Int) (t:Int) (s:Int) (f:UInt8) (K:(List (Row UInt8))) (A:(List (Nat×List UInt8))):Prop:=AA k0 t0 s0 f0 K0 A0 k t s f K A
def xg (k0:Int) (c0:Int) (d0:Int) (K0:(List (Row UInt8))) (A0:(List (Nat×List UInt8))) (k:Int) (c:Int) (d:Int) (K:(List (Row UInt8))) (A:(List (Nat×List UInt8))):Prop:=w8 k0 c0 d0 K0 A0 k c d K A
def uc (c0:Int) (d0:Int) (tZ:Int) (K0:(List (Row UInt8))) (A0:(List (Nat×List UInt8))) (c:Int) (d:Int) (ee:Int) (K:(List (Row UInt8))) (A:(List (Nat×List UInt8))):Prop:=nU c0 d0 tZ K0 A0 c d ee K A
def xh:bk Tc Tc.dn:=⟨58,[.ty .iz],fun x=>(fun (a:(List (List UInt8)))=>True) x.1,[.iz, .aA],fun x=>(fun (a:(List (List UInt8)))=>bu a) x.1⟩
abbrev nY (a:(List (List UInt8))):=(List.replicate ((2:Int)*(↑a.length:Int)).toNat (UInt8.ofNat (Int.toNat (0:Int))))
theorem Z4 (a:(List (List UInt8))):True/\(¬jP a=(0:Int)->([],jP a)=bu a)/\(jP a=(0:Int)->((0:Int)<=(0:Int)/\(0:Int)<(↑a.length:Int))/\(¬(↑a.length:Int)=(↑(gd [] a (Int.toNat (0:Int))).length:Int)->([],(1:Int))=bu a)/\((↑a.length:Int)=(↑(gd [] a (Int.toNat (0:Int))).length:Int)->aE ((2:Int)*(↑a.length:Int))/\((0:Int)<=(↑a.length:Int)/\(↑a.length:Int)<=(↑a.length:Int)/\(↑a.length:Int)*(↑(24:Nat):Int)<=(140737488355328:Int))/\AN a (0:Int) (List.replicate (↑a.length:Int).toNat (Row.no UInt8)) []/\∀(x:Int) (af:List (Row UInt8)) (aD:List (Nat×List UInt8)),AN a x af aD->(x<(↑(List.replicate (↑a.length:Int).toNat (Row.no UInt8)).length:Int)->((0:Int)<=(2:Int)*(↑a.length:Int)/\(2:Int)*(↑a.length:Int)<=(2:Int)*(↑a.length:Int)/\(2:Int)*(↑a.length:Int)*(↑(1:Nat):Int)<=(140737488355328:Int))/\((0:Int)<=x/\x<(↑af.length:Int))/\∀(id:Nat),¬cv aD id->x.toNat<af.length/\((0:Int)<=x/\x<(↑(af.set x.toNat (Row.at UInt8 id (nY a).length)).length:Int))/\x.toNat<(af.set x.toNat (Row.at UInt8 id (nY a).length)).length/\(gd (Row.no UInt8) (af.set x.toNat (Row.at UInt8 id (nY a).length)) x.toNat).ok ((id,List.replicate ((2:Int)*(↑a.length:Int)).toNat (UInt8.ofNat (Int.toNat (0:Int))))::aD)/\AM a (0:Int) x (af.set x.toNat (Row.at UInt8 id (nY a).length)) ((id,List.replicate ((2:Int)*(↑a.length:Int)).toNat (UInt8.ofNat (Int.toNat (0:Int))))::aD) (0:Int) x (af.set x.toNat (Row.at UInt8 id (nY a).length)) ((id,List.replicate ((2:Int)*(↑a.length:Int)).toNat (UInt8.ofNat (Int.toNat (0:Int))))::aD)/\∀(ae aB:Int) (aF:List (Row UInt8)) (aU:List (Nat×List UInt8)),AM a (0:Int) x (af.set x.toNat (Row.at UInt8 id (nY a).length)) ((id,List.replicate ((2:Int)*(↑a.length:Int)).toNat (UInt8.ofNat (Int.toNat (0:Int))))::aD) ae aB aF aU->(ae<(↑((gd (Row.no UInt8) (af.set x.toNat (Row.at UInt8 id (nY a).length)) x.toNat).get ((id,List.replicate ((2:Int)*(↑a.length:Int)).toNat (UInt8.ofNat (Int.toNat (0:Int))))::aD)).length:Int)->((0:Int)<=aB/\aB<(↑aF.length:Int))/\aB.toNat<aF.length/\((0:Int)<=aB/\aB<(↑a.length:Int)/\(0:Int)<=ae/\(0:Int)<=(↑a.length:Int)/\(↑a.length:Int)<=(1000:Int)/\ae<=(2000:Int)/\(↑a.length:Int)<=(↑(gd [] a aB.toNat).length:Int))/\(gd (Row.no UInt8) aF aB.toNat).ok aU/\((0:Int)<=ae/\ae<(↑((gd (Row.no UInt8) aF aB.toNat).get aU).length:Int))/\(gd (Row.no UInt8) aF aB.toNat).bD aU/\ae.toNat<((gd (Row.no UInt8) aF aB.toNat).get aU).length/\aE (ae+(1:Int))/\AM a (0:Int) x (af.set x.toNat (Row.at UInt8 id (nY a).length)) ((id,List.replicate ((2:Int)*(↑a.length:Int)).toNat (UInt8.ofNat (Int.toNat (0:Int))))::aD) (ae+(1:Int)) aB aF (((gd (Row.no UInt8) aF aB.toNat).id,((gd (Row.no UInt8) aF aB.toNat).get aU).set ae.toNat (if ae<(↑a.length:Int) then gd (0:UInt8) (gd [] a aB.toNat) ae.toNat else if ae - (↑a.length:Int)=aB then (1:UInt8) else (0:UInt8)))::aU)/\((2:Int)*(↑a.length:Int) - (ae+(1:Int))).toNat<((2:Int)*(↑a.length:Int) - ae).toNat)/\((↑((gd (Row.no UInt8) (af.set x.toNat (Row.at UInt8 id (nY a).length)) x.toNat).get ((id,List.replicate ((2:Int)*(↑a.length:Int)).toNat (UInt8.ofNat (Int.toNat (0:Int))))::aD)).length:Int)<=ae->aE (x+(1:Int))/\AN a (x+(1:Int)) aF aU/\((↑a.length:Int) - (x+(1:Int))).toNat<((↑a.length:Int) - x).toNat))/\((↑(List.replicate (↑a.length:Int).toNat (Row.no UInt8)).length:Int)<=x->uc (0:Int) (0:Int) (↑a.length:Int) af aD (0:Int) (0:Int) (↑a.length:Int) af aD/\∀(x ae aB:Int) (aF:List (Row UInt8)) (aU:List (Nat×List UInt8)),uc (0:Int) (0:Int) (↑a.length:Int) af aD x ae aB aF aU->(x<(↑a.length:Int)->((0:Int)<=ae/\ae<=(↑aF.length:Int))/\AP (0:Int) (ae.toNat,(↑aF.length:Int).toNat - ae.toNat) x aF aU (0:Int) (ae.toNat,(↑aF.length:Int).toNat - ae.toNat) x aF aU/\∀(aC:Int) (bp:Nat×Nat) (bL:Int) (aG:List (Row UInt8)) (cj:List (Nat×List UInt8)),AP (0:Int) (ae.toNat,(↑aF.length:Int).toNat - ae.toNat) x aF aU aC bp bL aG cj->(aC<(↑((↑aF.length:Int).toNat - ae.toNat):Int)->((0:Int)<=aC/\aC<(↑bp.snd:Int))/\bp.fst+aC.toNat<aG.length/\(gd (Row.no UInt8) aG (bp.fst+aC.toNat)).ok cj/\(gd (Row.no UInt8) aG (bp.fst+aC.toNat)).kd≠RK.nil/\((0:Int)<=bL/\bL<(↑((gd (Row.no UInt8) aG (bp.fst+aC.toNat)).get cj).length:Int))/\(decide (gd (0:UInt8) ((gd (Row.no UInt8) aG (bp.fst+aC.toNat)).get cj) bL.toNat≠(0:UInt8))=true->(aC<(0:Int)->aE (x+(1:Int))/\uc (0:Int) (0:Int) (↑a.length:Int) af aD (x+(1:Int)) ae aB aG cj/\(aB - (x+(1:Int))).toNat<(aB - x).toNat)/\((0:Int)<=aC->aE (ae+aC)/\aE (ae+aC)/\((0:Int)<=ae+aC/\ae+aC<(↑aG.length:Int))/\(ae+aC).toNat<aG.length/\((0:Int)<=ae/\ae<(↑aG.length:Int))/\ae.toNat<aG.length/\((0:Int)<=ae/\ae<(↑aG.length:Int))/\ae.toNat<aG.length/\((0:Int)<=ae+aC/\ae+aC<(↑(aG.set ae.toNat (gd (Row.no UInt8) aG (ae+aC).toNat)).length:Int))/\(ae+aC).toNat<(aG.set ae.toNat (gd (Row.no UInt8) aG (ae+aC).toNat)).length/\((0:Int)<=ae/\ae<(↑((aG.set ae.toNat (gd (Row.no UInt8) aG (ae+aC).toNat)).set (ae+aC).toNat (gd (Row.no UInt8) aG ae.toNat)).length:Int))/\ae.toNat<((aG.set ae.toNat (gd (Row.no UInt8) aG (ae+aC).toNat)).set (ae+aC).toNat (gd (Row.no UInt8) aG ae.toNat)).length/\(gd (Row.no UInt8) ((aG.set ae.toNat (gd (Row.no UInt8) aG (ae+aC).toNat)).set (ae+aC).toNat (gd (Row.no UInt8) aG ae.toNat)) ae.toNat).ok cj/\((0:Int)<=bL/\bL<(↑((gd (Row.no UInt8) ((aG.set ae.toNat (gd (Row.no UInt8) aG (ae+aC).toNat)).set (ae+aC).toNat (gd (Row.no UInt8) aG ae.toNat)) ae.toNat).get cj).length:Int))/\(gd (Row.no UInt8) ((aG.set ae.toNat (gd (Row.no UInt8) aG (ae+aC).toNat)).set (ae+aC).toNat (gd (Row.no UInt8) aG ae.toNat)) ae.toNat).ok cj/\bL.toNat<((gd (Row.no UInt8) ((aG.set ae.toNat (gd (Row.no UInt8) aG (ae+aC).toNat)).set (ae+aC).toNat (gd (Row.no UInt8) aG ae.toNat)) ae.toNat).get cj).length/\True/\((0:Int)<=ae/\ae<(↑((aG.set ae.toNat (gd (Row.no UInt8) aG (ae+aC).toNat)).set (ae+aC).toNat (gd (Row.no UInt8) aG ae.toNat)).length:Int))/\ae.toNat<((aG.set ae.toNat (gd (Row.no UInt8) aG (ae+aC).toNat)).set (ae+aC).toNat (gd (Row.no UInt8) aG ae.toNat)).length/\(gd (Row.no UInt8) ((aG.set ae.toNat (gd (Row.no UInt8) aG (ae+aC).toNat)).set (ae+aC).toNat (gd (Row.no UInt8) aG ae.toNat)) ae.toNat).ok cj/\AQ (0:Int) ae (gq (gd (0:UInt8) ((gd (Row.no UInt8) ((aG.set ae.toNat (gd (Row.no UInt8) aG (ae+aC).toNat)).set (ae+aC).toNat (gd (Row.no UInt8) aG ae.toNat)) ae.toNat).get cj) bL.toNat)) ((aG.set ae.toNat (gd (Row.no UInt8) aG (ae+aC).toNat)).set (ae+aC).toNat (gd (Row.no UInt8) aG ae.toNat)) cj (0:Int) ae (gq (gd (0:UInt8) ((gd (Row.no UInt8) ((aG.set ae.toNat (gd (Row.no UInt8) aG (ae+aC).toNat)).set (ae+aC).toNat (gd (Row.no UInt8) aG ae.toNat)) ae.toNat).get cj) bL.toNat)) ((aG.set ae.toNat (gd (Row.no UInt8) aG (ae+aC).toNat)).set (ae+aC).toNat (gd (Row.no UInt8) aG ae.toNat)) cj/\∀(dX cM:Int) (su:UInt8) (bX:List (Row UInt8)) (dA:List (Nat×List UInt8)),AQ (0:Int) ae (gq (gd (0:UInt8) ((gd (Row.no UInt8) ((aG.set ae.toNat (gd (Row.no UInt8) aG (ae+aC).toNat)).set (ae+aC).toNat (gd (Row.no UInt8) aG ae.toNat)) ae.toNat).get cj) bL.toNat)) ((aG.set ae.toNat (gd (Row.no UInt8) aG (ae+aC).toNat)).set (ae+aC).toNat (gd (Row.no UInt8) aG ae.toNat)) cj dX cM su bX dA->(dX<(↑((gd (Row.no UInt8) ((aG.set ae.toNat (gd (Row.no UInt8) aG (ae+aC).toNat)).set (ae+aC).toNat (gd (Row.no UInt8) aG ae.toNat)) ae.toNat).get cj).length:Int)->((0:Int)<=cM/\cM<(↑bX.length:Int))/\cM.toNat<bX.length/\((0:Int)<=cM/\cM<(↑bX.length:Int))/\cM.toNat<bX.length/\(gd (Row.no UInt8) bX cM.toNat).ok dA/\((0:Int)<=dX/\dX<(↑((gd (Row.no UInt8) bX cM.toNat).get dA).length:Int))/\(gd (Row.no UInt8) bX cM.toNat).ok dA/\dX.toNat<((gd (Row.no UInt8) bX cM.toNat).get dA).length/\True/\(gd (Row.no UInt8) bX cM.toNat).ok dA/\((0:Int)<=dX/\dX<(↑((gd (Row.no UInt8) bX cM.toNat).get dA).length:Int))/\(gd (Row.no UInt8) bX cM.toNat).bD dA/\dX.toNat<((gd (Row.no UInt8) bX cM.toNat).get dA).length/\aE (dX+(1:Int))/\AQ (0:Int) ae (gq (gd (0:UInt8) ((gd (Row.no UInt8) ((aG.set ae.toNat (gd (Row.no UInt8) aG (ae+aC).toNat)).set (ae+aC).toNat (gd (Row.no UInt8) aG ae.toNat)) ae.toNat).get cj) bL.toNat)) ((aG.set ae.toNat (gd (Row.no UInt8) aG (ae+aC).toNat)).set (ae+aC).toNat (gd (Row.no UInt8) aG ae.toNat)) cj (dX+(1:Int)) cM su bX (((gd (Row.no UInt8) bX cM.toNat).id,((gd (Row.no UInt8) bX cM.toNat).get dA).set dX.toNat (aW (gd (0:UInt8) ((gd (Row.no UInt8) bX cM.toNat).get dA) dX.toNat) su))::dA)/\((↑(bj cj (ga bX cM).id).length:Int) - (dX+(1:Int))).toNat<((↑(bj cj (ga bX cM).id).length:Int) - dX).toNat)/\((↑((gd (Row.no UInt8) ((aG.set ae.toNat (gd (Row.no UInt8) aG (ae+aC).toNat)).set (ae+aC).toNat (gd (Row.no UInt8) aG ae.toNat)) ae.toNat).get cj).length:Int)<=dX->xg (0:Int) x ae bX dA (0:Int) x ae bX dA/\∀(bQ k8 bZ:Int) (bA:List (Row UInt8)) (cF:List (Nat×List UInt8)),xg (0:Int) x ae bX dA bQ k8 bZ bA cF->(bQ<(↑bX.length:Int)->(¬bQ=bZ->((0:Int)<=bQ/\bQ<(↑bA.length:Int))/\bQ.toNat<bA.length/\(gd (Row.no UInt8) bA bQ.toNat).ok cF/\((0:Int)<=bL/\bL<(↑((gd (Row.no UInt8) bA bQ.toNat).get cF).length:Int))/\(gd (Row.no UInt8) bA bQ.toNat).ok cF/\bL.toNat<((gd (Row.no UInt8) bA bQ.toNat).get cF).length/\((0:Int)<=bZ/\bZ<(↑bA.length:Int))/\bZ.toNat<bA.length/\(gd (Row.no UInt8) bA bZ.toNat).ok cF/\AR (0:Int) bQ bZ (gd (0:UInt8) ((gd (Row.no UInt8) bA bQ.toNat).get cF) bL.toNat) bA cF (0:Int) bQ bZ (gd (0:UInt8) ((gd (Row.no UInt8) bA bQ.toNat).get cF) bL.toNat) bA cF/\∀(c9 dK pE:Int) (sv:UInt8) (da:List (Row UInt8)) (di:List (Nat×List UInt8)),AR (0:Int) bQ bZ (gd (0:UInt8) ((gd (Row.no UInt8) bA bQ.toNat).get cF) bL.toNat) bA cF c9 dK pE sv da di->(c9<(↑((gd (Row.no UInt8) bA bZ.toNat).get cF).length:Int)->(gd (Row.no UInt8) bA bZ.toNat).ok di/\((0:Int)<=c9/\c9<(↑((gd (Row.no UInt8) bA bZ.toNat).get di).length:Int))/\(gd (Row.no UInt8) bA bZ.toNat).ok di/\c9.toNat<((gd (Row.no UInt8) bA bZ.toNat).get di).length/\((0:Int)<=dK/\dK<(↑da.length:Int))/\dK.toNat<da.length/\(gd (Row.no UInt8) da dK.toNat).ok di/\((0:Int)<=c9/\c9<(↑((gd (Row.no UInt8) da dK.toNat).get di).length:Int))/\(gd (Row.no UInt8) da dK.toNat).ok di/\c9.toNat<((gd (Row.no UInt8) da dK.toNat).get di).length/\True/\(gd (Row.no UInt8) da dK.toNat).ok di/\((0:Int)<=c9/\c9<(↑((gd (Row.no UInt8) da dK.toNat).get di).length:Int))/\(gd (Row.no UInt8) da dK.toNat).bD di/\c9.toNat<((gd (Row.no UInt8) da dK.toNat).get di).length/\aE (c9+(1:Int))/\AR (0:Int) bQ bZ (gd (0:UInt8) ((gd (Row.no UInt8) bA bQ.toNat).get cF) bL.toNat) bA cF (c9+(1:Int)) dK pE sv da (((gd (Row.no UInt8) da dK.toNat).id,((gd (Row.no UInt8) da dK.toNat).get di).set c9.toNat (gd (0:UInt8) ((gd (Row.no UInt8) da dK.toNat).get di) c9.toNat^^^aW sv (gd (0:UInt8) ((gd (Row.no UInt8) bA bZ.toNat).get di) c9.toNat)))::di)/\((↑(bj cF (ga da pE).id).length:Int) - (c9+(1:Int))).toNat<((↑(bj cF (ga da pE).id).length:Int) - c9).toNat)/\((↑((gd (Row.no UInt8) bA bZ.toNat).get cF).length:Int)<=c9->aE (bQ+(1:Int))/\xg (0:Int) x ae bX dA (bQ+(1:Int)) k8 bZ da di/\((↑da.length:Int) - (bQ+(1:Int))).toNat<((↑bA.length:Int) - bQ).toNat))/\(bQ=bZ->aE (bQ+(1:Int))/\xg (0:Int) x ae bX dA (bQ+(1:Int)) k8 bZ bA cF/\((↑bA.length:Int) - (bQ+(1:Int))).toNat<((↑bA.length:Int) - bQ).toNat))/\((↑bX.length:Int)<=bQ->aE (bZ+(1:Int))/\(bZ+(1:Int)=(↑bA.length:Int)->(bZ+(1:Int)<(↑a.length:Int)->([],(5:Int))=bu a)/\((↑a.length:Int)<=bZ+(1:Int)->(∀(x:Row UInt8),x∈bA->x.ok cF/\x.kd≠RK.nil)/\((0:Int)<=(↑a.length:Int)/\(↑a.length:Int)<=(64:Int)/\(0:Int)<=(↑a.length:Int)/\(↑a.length:Int)<=(64:Int)/\(0:Int)<=(↑a.length:Int)/\(↑a.length:Int)<=(64:Int)/\(↑a.length:Int)<=(↑(List.map (fun x=>x.get cF) bA).length:Int)/\∀(r:List UInt8),r∈List.map (fun x=>x.get cF) bA->(↑a.length:Int)+(↑a.length:Int)<=(↑r.length:Int))/\(dF (↑a.length:Int) (↑a.length:Int) (fI (List.map (fun x=>x.get cF) bA) (↑a.length:Int).toNat),(0:Int))=bu a))/\(¬bZ+(1:Int)=(↑bA.length:Int)->aE (k8+(1:Int))/\uc (0:Int) (0:Int) (↑a.length:Int) af aD (k8+(1:Int)) (bZ+(1:Int)) aB bA cF/\(aB - (k8+(1:Int))).toNat<(aB - x).toNat)))))/\(decide (gd (0:UInt8) ((gd (Row.no UInt8) aG (bp.fst+aC.toNat)).get cj) bL.toNat≠(0:UInt8))=false->aE (aC+(1:Int))/\AP (0:Int) (ae.toNat,(↑aF.length:Int).toNat - ae.toNat) x aF aU (aC+(1:Int)) bp bL aG cj/\((↑bp.snd:Int) - (aC+(1:Int))).toNat<((↑bp.snd:Int) - aC).toNat))/\((↑((↑aF.length:Int).toNat - ae.toNat):Int)<=aC->aE (x+(1:Int))/\uc (0:Int) (0:Int) (↑a.length:Int) af aD (x+(1:Int)) ae aB aG cj/\(aB - (x+(1:Int))).toNat<(aB - x).toNat))/\((↑a.length:Int)<=x->(ae<(↑a.length:Int)->([],(5:Int))=bu a)/\((↑a.length:Int)<=ae->(∀(x:Row UInt8),x∈aF->x.ok aU/\x.kd≠RK.nil)/\((0:Int)<=(↑a.length:Int)/\(↑a.length:Int)<=(64:Int)/\(0:Int)<=(↑a.length:Int)/\(↑a.length:Int)<=(64:Int)/\(0:Int)<=(↑a.length:Int)/\(↑a.length:Int)<=(64:Int)/\(↑a.length:Int)<=(↑(List.map (fun x=>x.get aU) aF).length:Int)/\∀(r:List UInt8),r∈List.map (fun x=>x.get aU) aF->(↑a.length:Int)+(↑a.length:Int)<=(↑r.length:Int))/\(dF (↑a.length:Int) (↑a.length:Int) (fI (List.map (fun x=>x.get aU) aF) (↑a.length:Int).toNat),(0:Int))=bu a))))):=by
 delta nY
 refine ⟨trivial,fun h=>by unfold bu;rw [acN h],fun h=> ?_⟩
 obtain ⟨h1,h2,h3,h4,h5,h6⟩:=Y0 h
 have vX:(gd [] a (Int.toNat 0))=gd [] a 0:=rfl
 refine ⟨⟨adY _,by omega⟩,fun aJ=>by unfold bu;rw [acL (by rw [h];simp),acN (by rw [vX] at aJ;omega)],fun he=>⟨by unfold aE;omega, ?_⟩⟩
 rw [vX] at he
 have hE:a.length=(gd [] a 0).length:=by omega
 refine Aq (a.length:Int) (2*(a.length:Int)) (fB a a.length) (fun i k=>if k<(a.length:Int) then gd 0 (gd [] a i.toNat) k.toNat else if k - (a.length:Int)=i then 1 else 0) (fun i k=>(0:Int)<=i/\i<(↑a.length:Int)/\(0:Int)<=k/\(0:Int)<=(↑a.length:Int)/\(↑a.length:Int)<=1000/\k<=2000/\(↑a.length:Int)<=(↑(gd [] a i.toNat).length:Int)) _ ⟨by omega,by omega,by omega,by omega⟩ (fun i k q1 q2 q3 q4=>⟨⟨q1,q2,q3,by omega,by omega,by omega,by have:=h6 _ (iv (d:=[]) (xs:=a) (i:=i.toNat) (by omega));omega⟩,ZX q1 q3⟩) fun K A i hi hF=> ?_
 refine ZC (a.length:Int) K A (fun d K A=>(d<(a.length:Int)->(([]:List (List UInt8)),(5:Int))=bu a)/\((a.length:Int)<=d->(∀x:Row UInt8,x∈K->x.ok A/\x.kd≠RK.nil)/\(0<=(a.length:Int)/\(a.length:Int)<=64/\0<=(a.length:Int)/\(a.length:Int)<=64/\0<=(a.length:Int)/\(a.length:Int)<=64/\(a.length:Int)<=((List.map (fun x=>x.get A) K).length:Int)/\∀r,r∈List.map (fun x=>x.get A) K->(a.length:Int)+(a.length:Int)<=(r.length:Int))/\(dF (a.length:Int) (a.length:Int) (fI (List.map (fun x=>x.get A) K) (a.length:Int).toNat),(0:Int))=bu a)) (nU.start hF hi ⟨by omega,by omega⟩ ⟨by omega,by omega,by omega⟩) fun d K2 A2 hd hm rD=> ?_
 obtain ⟨m,hM,qZ⟩:=hm
 rw [hF.vw hi (by omega),aez] at rD
 have e1:vw A2 K2=(nW a).1:=by unfold nW;rw [rD]
 have e2:d.toNat=(nW a).2:=by unfold nW;rw [rD]
 have hR:=ZW (a:=a) (by omega)
 have hinv:bu a=if (nW a).2<a.length then ([],5) else (dF a.length a.length (fI (nW a).1 a.length),0):=by
  unfold bu;rw [acL (by rw [h];simp),acL (by omega)]
 refine ⟨fun hlt=>by rw [hinv,acN (by omega)],fun Hj=>⟨hM.ib, ?_, ?_⟩⟩
 ·show _/\_/\_/\_/\_/\_/\(a.length:Int)<=((vw A2 K2).length:Int)/\∀r,r∈vw A2 K2->(a.length:Int)+(a.length:Int)<=(r.length:Int)
  rw [e1]
  refine ⟨by omega,by omega,by omega,by omega,by omega,by omega,by rw [hR.1];omega,fun r hr=>by rw [hR.2 r hr];omega⟩
 ·show (dF (a.length:Int) (a.length:Int) (fI (vw A2 K2) (a.length:Int).toNat),(0:Int))=bu a
  rw [hinv,acL (by omega),e1,aez]
noncomputable def L9:PD Tc.dn xh.ps->List (IL Tc Tc.dn):=fun x=>(fun (a:(List (List UInt8)))=>([⟨63, .fn CP (fun k=>bif Nat.beq k 0 then some (.inv [.sl 14 .aA, .bl 3 .fZ, .ar .cA] (fun zo zv=>(fun (i:Int) (K:(List (Row UInt8))) (A:(List (Nat×List UInt8)))=>AN a i K A) zv.1 zv.2.1 zv.2.2.1) (fun zo zv=>(fun (i:Int) (K:(List (Row UInt8))) (A:(List (Nat×List UInt8)))=>((a.length:Int) - i).toNat) zv.1 zv.2.1 zv.2.2.1)) else bif Nat.beq k 1 then some (.inv [.sl 27 .aA, .sl 8 .aA, .bl 3 .fZ, .ar .cA] (fun zo zv=>(fun (k0:Int) (i0:Int) (K0:(List (Row UInt8))) (A0:(List (Nat×List UInt8))) (k:Int) (i:Int) (K:(List (Row UInt8))) (A:(List (Nat×List UInt8)))=>AM a k0 i0 K0 A0 k i K A) zo.1 zo.2.1 zo.2.2.1 zo.2.2.2.1 zv.1 zv.2.1 zv.2.2.1 zv.2.2.2.1) (fun zo zv=>(fun (k0:Int) (i0:Int) (K0:(List (Row UInt8))) (A0:(List (Nat×List UInt8))) (k:Int) (i:Int) (K:(List (Row UInt8))) (A:(List (Nat×List UInt8)))=>((2*(a.length:Int)) - k).toNat) zo.1 zo.2.1 zo.2.2.1 zo.2.2.2.1 zv.1 zv.2.1 zv.2.2.1 zv.2.2.2.1)) else none),some 75⟩,⟨87, .fn Ii (fun k=>bif Nat.beq k 0 then some (.inv [.sl 8 .aA, .pt 0 3 1, .ce 5 .aA, .bl 3 .fZ, .ar .cA] (fun zo zv=>(fun (k0:Int) (s0:(Nat×Nat)) (c0:Int) (K0:(List (Row UInt8))) (A0:(List (Nat×List UInt8))) (k:Int) (s:(Nat×Nat)) (c:Int) (K:(List (Row UInt8))) (A:(List (Nat×List UInt8)))=>AP k0 s0 c0 K0 A0 k s c K A) zo.1 zo.2.1 zo.2.2.1 zo.2.2.2.1 zo.2.2.2.2.1 zv.1 zv.2.1 zv.2.2.1 zv.2.2.2.1 zv.2.2.2.2.1) (fun zo zv=>(fun (k0:Int) (s0:(Nat×Nat)) (c0:Int) (K0:(List (Row UInt8))) (A0:(List (Nat×List UInt8))) (k:Int) (s:(Nat×Nat)) (c:Int) (K:(List (Row UInt8))) (A:(List (Nat×List UInt8)))=>((s.2:Int) - k).toNat) zo.1 zo.2.1 zo.2.2.1 zo.2.2.2.1 zo.2.2.2.2.1 zv.1 zv.2.1 zv.2.2.1 zv.2.2.2.1 zv.2.2.2.2.1)) else none),none⟩,⟨89, .fn Ij (fun k=>bif Nat.beq k 0 then some (.inv [.sl 12 .aA, .sl 1 .aA, .sl 2 .cA, .bl 3 .fZ, .ar .cA] (fun zo zv=>(fun (k0:Int) (i0:Int) (f0:UInt8) (K0:(List (Row UInt8))) (A0:(List (Nat×List UInt8))) (k:Int) (i:Int) (f:UInt8) (K:(List (Row UInt8))) (A:(List (Nat×List UInt8)))=>AQ k0 i0 f0 K0 A0 k i f K A) zo.1 zo.2.1 zo.2.2.1 zo.2.2.2.1 zo.2.2.2.2.1 zv.1 zv.2.1 zv.2.2.1 zv.2.2.2.1 zv.2.2.2.2.1) (fun zo zv=>(fun (k0:Int) (i0:Int) (f0:UInt8) (K0:(List (Row UInt8))) (A0:(List (Nat×List UInt8))) (k:Int) (i:Int) (f:UInt8) (K:(List (Row UInt8))) (A:(List (Nat×List UInt8)))=>((bj A0 (ga K i).id).length - k).toNat) zo.1 zo.2.1 zo.2.2.1 zo.2.2.2.1 zo.2.2.2.2.1 zv.1 zv.2.1 zv.2.2.1 zv.2.2.2.1 zv.2.2.2.2.1)) else none),none⟩,⟨90, .fn Ik (fun k=>bif Nat.beq k 0 then some (.inv [.sl 15 .aA, .sl 1 .aA, .sl 2 .aA, .sl 3 .cA, .bl 3 .fZ, .ar .cA] (fun zo zv=>(fun (k0:Int) (t0:Int) (s0:Int) (f0:UInt8) (K0:(List (Row UInt8))) (A0:(List (Nat×List UInt8))) (k:Int) (t:Int) (s:Int) (f:UInt8) (K:(List (Row UInt8))) (A:(List (Nat×List UInt8)))=>AR k0 t0 s0 f0 K0 A0 k t s f K A) zo.1 zo.2.1 zo.2.2.1 zo.2.2.2.1 zo.2.2.2.2.1 zo.2.2.2.2.2.1 zv.1 zv.2.1 zv.2.2.1 zv.2.2.2.1 zv.2.2.2.2.1 zv.2.2.2.2.2.1) (fun zo zv=>(fun (k0:Int) (t0:Int) (s0:Int) (f0:UInt8) (K0:(List (Row UInt8))) (A0:(List (Nat×List UInt8))) (k:Int) (t:Int) (s:Int) (f:UInt8) (K:(List (Row UInt8))) (A:(List (Nat×List UInt8)))=>((bj A0 (ga K s).id).length - k).toNat) zo.1 zo.2.1 zo.2.2.1 zo.2.2.2.1 zo.2.2.2.2.1 zo.2.2.2.2.2.1 zv.1 zv.2.1 zv.2.2.1 zv.2.2.2.1 zv.2.2.2.2.1 zv.2.2.2.2.2.1)) else none),none⟩,⟨76, .fn Ig (fun k=>bif Nat.beq k 0 then some (.inv [.sl 12 .aA, .sl 5 .aA, .sl 1 .aA, .bl 3 .fZ, .ar .cA] (fun zo zv=>(fun (c0:Int) (d0:Int) (tZ:Int) (K0:(List (Row UInt8))) (A0:(List (Nat×List UInt8))) (c:Int) (d:Int) (ee:Int) (K:(List (Row UInt8))) (A:(List (Nat×List UInt8)))=>uc c0 d0 tZ K0 A0 c d ee K A) zo.1 zo.2.1 zo.2.2.1 zo.2.2.2.1 zo.2.2.2.2.1 zv.1 zv.2.1 zv.2.2.1 zv.2.2.2.1 zv.2.2.2.2.1) (fun zo zv=>(fun (c0:Int) (d0:Int) (tZ:Int) (K0:(List (Row UInt8))) (A0:(List (Nat×List UInt8))) (c:Int) (d:Int) (ee:Int) (K:(List (Row UInt8))) (A:(List (Nat×List UInt8)))=>(ee - c).toNat) zo.1 zo.2.1 zo.2.2.1 zo.2.2.2.1 zo.2.2.2.2.1 zv.1 zv.2.1 zv.2.2.1 zv.2.2.2.1 zv.2.2.2.2.1)) else bif Nat.beq k 1 then some (.inv [.sl 57 .aA, .sl 12 .aA, .sl 5 .aA, .bl 3 .fZ, .ar .cA] (fun zo zv=>(fun (k0:Int) (c0:Int) (d0:Int) (K0:(List (Row UInt8))) (A0:(List (Nat×List UInt8))) (k:Int) (c:Int) (d:Int) (K:(List (Row UInt8))) (A:(List (Nat×List UInt8)))=>xg k0 c0 d0 K0 A0 k c d K A) zo.1 zo.2.1 zo.2.2.1 zo.2.2.2.1 zo.2.2.2.2.1 zv.1 zv.2.1 zv.2.2.1 zv.2.2.2.1 zv.2.2.2.2.1) (fun zo zv=>(fun (k0:Int) (c0:Int) (d0:Int) (K0:(List (Row UInt8))) (A0:(List (Nat×List UInt8))) (k:Int) (c:Int) (d:Int) (K:(List (Row UInt8))) (A:(List (Nat×List UInt8)))=>((K.length:Int) - k).toNat) zo.1 zo.2.1 zo.2.2.1 zo.2.2.2.1 zo.2.2.2.2.1 zv.1 zv.2.1 zv.2.2.1 zv.2.2.2.1 zv.2.2.2.2.1)) else none),none⟩])) x.1
theorem Z5:∀x,nL Try.prog tB (L9 x):=fun _=>⟨⟨yD,yE⟩,⟨Ts,Tt⟩,⟨Tx,Ty⟩,⟨Tz,TA⟩,⟨Ti,Tj⟩,trivial⟩
theorem Ma:xh.Ok Try.prog tB:=bO gn (Δ:=[Fh,FF,FH,Fg,An,Fx]) ⟨YP,ZZ,Z3,Lx,Ff,ZB,trivial⟩ (Ω:=[]) trivial xh SK SL (L9) (Z5) 3 (fun x=>(fun (a:(List (List UInt8)))=>(fun k=>bif Nat.beq k 1029 then some (.ib [5]) else bif Nat.beq k 1033 then some (.ib [6]) else none)) x.1) fun x hp=>Eq.mp (by kernel_rfl) (Z4 x.1)
open Go.RowKit
def nZ (many more:Int):List (List UInt8):=dF many many fU++dF more many (fC more)
def bJ (many more:Int) (at_:List Int):List (List UInt8):=at_.map fun i=>gd [] (nZ many more) i.toNat
theorem Z6 {more:Int} (h1:0<=many) (h2:0<=more):((nZ many more).length:Int)=many+more:=by
 unfold nZ dF;simp;omega
structure jR (many more:Int) (at_:List Int) (i:Int) (out:List (List UInt8)):Prop where
 lo:0<=i
 hi:i<=at_.length
 eq:out=(at_.take i.toNat).map fun i=>gd [] (nZ many more) i.toNat
theorem jR.start {many more:Int} {at_:List Int}:jR many more at_ 0 []:=⟨by omega,by omega,by simp⟩
theorem jR.step {many more i:Int} {at_:List Int} {out:List (List UInt8)} (h:jR many more at_ i out) (hi:i<at_.length):jR many more at_ (i+1) (out++[gd [] (nZ many more) (gd 0 at_ i.toNat).toNat]):=by
 have h0:=h.lo
 refine ⟨by omega,by omega, ?_⟩
 rw [show (i+1).toNat=i.toNat+1 by omega,List.take_add_one,kT (d:=0) (by omega),h.eq]
 simp
theorem jR.len {many more i:Int} {at_:List Int} {out:List (List UInt8)} (h:jR many more at_ i out):(out.length:Int)=i:=by
 have:=h.lo;have:=h.hi
 rw [h.eq];simp;omega
theorem jR.fin {many more i:Int} {at_:List Int} {out:List (List UInt8)} (h:jR many more at_ i out) (hi:at_.length<=i):out=bJ many more at_:=by
 rw [h.eq,adK (by omega)];rfl
def n6 (n:Int):List Int->List Int->Int
 |_,[]=>0
 |seen,x::r=>if x<0\/n<=x then 3 else if x∈seen then 6 else n6 n (seen++[x]) r
def n7 (n:Int) (at_:List Int):Int:=n6 n [] at_
structure fu (n:Int) (at_:List Int) (i:Int):Prop where
 lo:0<=i
 hi:i<=at_.length
 eq:n6 n (at_.take i.toNat) (at_.drop i.toNat)=n7 n at_
theorem fu.start {n:Int} {at_:List Int}:fu n at_ 0:=⟨by omega,by omega,rfl⟩
theorem fu.out {n:Int} {at_:List Int} {i:Int} (h:fu n at_ i) (hi:i<at_.length) (hb:gd 0 at_ i.toNat<0\/n<=gd 0 at_ i.toNat):n7 n at_=3:=by
 have h0:=h.lo
 rw [<-h.eq,ql 0 (by omega),n6,acN hb]
theorem fu.Mb {n:Int} {at_:List Int} {i:Int} (h:fu n at_ i) (hi:i<at_.length) (h1:0<=gd 0 at_ i.toNat) (h2:gd 0 at_ i.toNat<n) (hb:gd 0 at_ i.toNat∈at_.take i.toNat):n7 n at_=6:=by
 have h0:=h.lo
 rw [<-h.eq,ql 0 (by omega),n6,acL (by omega),acN hb]
theorem fu.step {n:Int} {at_:List Int} {i:Int} (h:fu n at_ i) (hi:i<at_.length) (h1:0<=gd 0 at_ i.toNat) (h2:gd 0 at_ i.toNat<n) (hb:¬gd 0 at_ i.toNat∈at_.take i.toNat):fu n at_ (i+1):=by
 have h0:=h.lo
 refine ⟨by omega,by omega, ?_⟩
 rw [<-h.eq,ql 0 (i:=i.toNat) (by omega),n6,acL (by omega),acL hb,show (i+1).toNat=i.toNat+1 by omega,List.take_add_one,kT (d:=0) (by omega)]
 rfl
theorem fu.fin {n:Int} {at_:List Int} {i:Int} (h:fu n at_ i) (hi:at_.length<=i):n7 n at_=0:=by
 rw [<-h.eq,aeI (by omega)];rfl
theorem Mc {n:Int}:∀{seen l:List Int},n6 n seen l=0->(∀i,i∈l->0<=i/\i<n/\¬i∈seen)/\l.Nodup
 |_,[],_=>⟨fun i h=>by simp at h,List.nodup_nil⟩
 |seen,x::r,h=>by
  unfold n6 at h
  split at h
  ·simp at h
  ·rename_i h1
   split at h
   ·simp at h
   ·rename_i h2
    obtain ⟨q1,q2⟩:=Mc h
    refine ⟨fun i hi=> ?_, ?_⟩
    ·rcases acX.1 hi with e|e
     ·rw [e];exact ⟨by omega,by omega,h2⟩
     ·obtain ⟨p1,p2,p3⟩:=q1 i e
      exact ⟨p1,p2,fun hh=>p3 (adt _ hh)⟩
    ·rw [aeE]
     exact ⟨fun hx=>(q1 x hx).2.2 (by simp),q2⟩
theorem Z7 {n:Int} {at_:List Int} (h:n7 n at_=0):(∀i,i∈at_->0<=i/\i<n)/\at_.Nodup:=by
 obtain ⟨q1,q2⟩:=Mc h
 exact ⟨fun i hi=>⟨(q1 i hi).1,(q1 i hi).2.1⟩,q2⟩
def hY (many more:Int) (at_:List Int) (pieces:List BA):List BA×Int:=
 if ¬(1<=many/\many<=8)\/¬(1<=more/\more<=6) then ([],3) else if ¬(at_.length:Int)=pieces.length then ([],1) else if (at_.length:Int)<many then ([],8) else if many<(at_.length:Int) then ([],2) else if ¬n7 (many+more) at_=0 then ([],n7 (many+more) at_) else if ¬cT pieces=0 then ([],cT pieces) else if ¬(bu (bJ many more at_)).2=0 then ([],(bu (bJ many more at_)).2) else (bP (bu (bJ many more at_)).1 pieces,0)
theorem Md (h:(bu a).2=0):(bu a).1.length=a.length/\∀r,r∈(bu a).1->r.length=a.length:=by
 unfold bu at h ⊢
 by_cases h1:jP a≠0
 ·rw [acN h1] at h;exact absurd h h1
 ·rw [acL h1] at h ⊢
  by_cases h2:a.length≠(gd [] a 0).length
  ·rw [acN h2] at h;simp at h
  ·rw [acL h2] at h ⊢
   by_cases h3:(nW a).2<a.length
   ·rw [acN h3] at h;simp at h
   ·rw [acL h3]
    refine ⟨by unfold dF;simp,fun r hr=> ?_⟩
    have:=LU r hr
    omega
theorem Me {many more:Int} {at_:List Int} {pieces:List BA} (h1:1<=many) (h2:many<=8) (hl:(at_.length:Int)=pieces.length) (hm:(at_.length:Int)=many) (hk:cT pieces=0) (hi:(bu (bJ many more at_)).2=0):iA (bu (bJ many more at_)).1 pieces:=by
 obtain ⟨a1,a2⟩:=LQ hk
 obtain ⟨b1,b2⟩:=Md hi
 have h0:=a1 _ (iv (d:=ByteArray.empty) (xs:=pieces) (i:=0) (by omega))
 have hr:(bJ many more at_).length=at_.length:=by unfold bJ;simp
 refine ⟨by omega,by omega,by omega,fun r hr'=>by have:=b2 r hr';omega,fun s hs=>by rw [a2 s hs];exact acV _,by omega⟩
theorem Z8 {n:Int} {at_:List Int} {i:Int} (h:∀i,i∈at_->0<=i/\i<n) (h1:0<=i) (h2:i<at_.length):0<=gd 0 at_ i.toNat/\gd 0 at_ i.toNat<n:=h _ (iv (by omega))
def xi (many:Int) (k0:Int) (i0:Int) (K0:(List (Row UInt8))) (A0:(List (Nat×List UInt8))) (k:Int) (i:Int) (K:(List (Row UInt8))) (A:(List (Nat×List UInt8))):Prop:=0<=k/\k<=many/\K=K0/\i=i0/\kB A0 A (gd (Row.no UInt8) K i.toNat) k many (fU i.toNat)
def xj (many:Int) (i:Int) (K:(List (Row UInt8))) (A:(List (Nat×List UInt8))):Prop:=0<=i/\i<=many/\gv A K i many many (fU)
def n8 (many:Int) (more:Int) (at_:(List Int)) (i:Int) (out:(List (List UInt8))):Prop:=jR many more at_ i out
def xk:bk Tc Tc.dn:=⟨59,[.ty .aA, .ty .aA, .ty .jN],fun x=>(fun (many:Int) (more:Int) (at_:(List Int))=>1<=many/\many<=8/\1<=more/\more<=6/\at_.length<=100/\∀i,i∈at_->0<=i/\i<many+more) x.1 x.2.1 x.2.2.1,[.iz],fun x=>(fun (many:Int) (more:Int) (at_:(List Int))=>bJ many more at_) x.1 x.2.1 x.2.2.1⟩
abbrev n9 (many:Int):=(List.replicate many.toNat (UInt8.ofNat (Int.toNat (0:Int))))
theorem Z9 (many:Int) (more:Int) (at_:(List Int)) (hp:1<=many/\many<=8/\1<=more/\more<=6/\at_.length<=100/\∀i,i∈at_->0<=i/\i<many+more):True/\(decide ((1:Int)<=many/\many<=(16:Int))= !true->True/\(eH more many).fst.length*(24:Nat)<=(140737488355328:Nat)/\n8 many more at_ (0:Int) []/\∀(x:Int) (af:List (List UInt8)),n8 many more at_ x af->(x<(↑at_.length:Int)->((0:Int)<=x/\x<(↑at_.length:Int))/\((0:Int)<=gd (0:Int) at_ x.toNat/\gd (0:Int) at_ x.toNat<(↑(eH more many).fst.length:Int))/\(gd (0:Int) at_ x.toNat).toNat<(eH more many).fst.length/\(af.length+(1:Nat))*(24:Nat)<=(140737488355328:Nat)/\aE (x+(1:Int))/\n8 many more at_ (x+(1:Int)) (af++[gd [] (eH more many).fst (gd (0:Int) at_ x.toNat).toNat])/\((↑at_.length:Int) - (x+(1:Int))).toNat<((↑at_.length:Int) - x).toNat)/\((↑at_.length:Int)<=x->af=bJ many more at_))/\(decide ((1:Int)<=many/\many<=(16:Int))= !false->((0:Int)<=many/\many<=many/\many*(↑(24:Nat):Int)<=(140737488355328:Int))/\xj many (0:Int) (List.replicate many.toNat (Row.no UInt8)) []/\∀(x:Int) (af:List (Row UInt8)) (aD:List (Nat×List UInt8)),xj many x af aD->(x<(↑(List.replicate many.toNat (Row.no UInt8)).length:Int)->((0:Int)<=many/\many<=many/\many*(↑(1:Nat):Int)<=(140737488355328:Int))/\((0:Int)<=x/\x<(↑af.length:Int))/\∀(id:Nat),¬cv aD id->x.toNat<af.length/\((0:Int)<=x/\x<(↑(af.set x.toNat (Row.at UInt8 id (n9 many).length)).length:Int))/\x.toNat<(af.set x.toNat (Row.at UInt8 id (n9 many).length)).length/\(gd (Row.no UInt8) (af.set x.toNat (Row.at UInt8 id (n9 many).length)) x.toNat).ok ((id,List.replicate many.toNat (UInt8.ofNat (Int.toNat (0:Int))))::aD)/\xi many (0:Int) x (af.set x.toNat (Row.at UInt8 id (n9 many).length)) ((id,List.replicate many.toNat (UInt8.ofNat (Int.toNat (0:Int))))::aD) (0:Int) x (af.set x.toNat (Row.at UInt8 id (n9 many).length)) ((id,List.replicate many.toNat (UInt8.ofNat (Int.toNat (0:Int))))::aD)/\∀(ae aB:Int) (aF:List (Row UInt8)) (aU:List (Nat×List UInt8)),xi many (0:Int) x (af.set x.toNat (Row.at UInt8 id (n9 many).length)) ((id,List.replicate many.toNat (UInt8.ofNat (Int.toNat (0:Int))))::aD) ae aB aF aU->(ae<(↑((gd (Row.no UInt8) (af.set x.toNat (Row.at UInt8 id (n9 many).length)) x.toNat).get ((id,List.replicate many.toNat (UInt8.ofNat (Int.toNat (0:Int))))::aD)).length:Int)->((0:Int)<=aB/\aB<(↑aF.length:Int))/\aB.toNat<aF.length/\True/\(gd (Row.no UInt8) aF aB.toNat).ok aU/\((0:Int)<=ae/\ae<(↑((gd (Row.no UInt8) aF aB.toNat).get aU).length:Int))/\(gd (Row.no UInt8) aF aB.toNat).bD aU/\ae.toNat<((gd (Row.no UInt8) aF aB.toNat).get aU).length/\aE (ae+(1:Int))/\xi many (0:Int) x (af.set x.toNat (Row.at UInt8 id (n9 many).length)) ((id,List.replicate many.toNat (UInt8.ofNat (Int.toNat (0:Int))))::aD) (ae+(1:Int)) aB aF (((gd (Row.no UInt8) aF aB.toNat).id,((gd (Row.no UInt8) aF aB.toNat).get aU).set ae.toNat (if aB=ae then (1:RD Tc.dn [Tc.cA]) else (0:RD Tc.dn [Tc.cA])))::aU)/\(many - (ae+(1:Int))).toNat<(many - ae).toNat)/\((↑((gd (Row.no UInt8) (af.set x.toNat (Row.at UInt8 id (n9 many).length)) x.toNat).get ((id,List.replicate many.toNat (UInt8.ofNat (Int.toNat (0:Int))))::aD)).length:Int)<=ae->aE (x+(1:Int))/\xj many (x+(1:Int)) aF aU/\(many - (x+(1:Int))).toNat<(many - x).toNat))/\((↑(List.replicate many.toNat (Row.no UInt8)).length:Int)<=x->True/\(∀(x:Row UInt8),x∈af->x.ok aD/\x.kd≠RK.nil)/\((List.map (fun x=>x.get aD) af).length+(eH more many).fst.length)*(24:Nat)<=(140737488355328:Nat)/\n8 many more at_ (0:Int) []/\∀(x:Int) (ae:List (List UInt8)),n8 many more at_ x ae->(x<(↑at_.length:Int)->((0:Int)<=x/\x<(↑at_.length:Int))/\((0:Int)<=gd (0:Int) at_ x.toNat/\gd (0:Int) at_ x.toNat<(↑(List.map (fun x=>x.get aD) af++(eH more many).fst).length:Int))/\(gd (0:Int) at_ x.toNat).toNat<(List.map (fun x=>x.get aD) af++(eH more many).fst).length/\(ae.length+(1:Nat))*(24:Nat)<=(140737488355328:Nat)/\aE (x+(1:Int))/\n8 many more at_ (x+(1:Int)) (ae++[gd [] (List.map (fun x=>x.get aD) af++(eH more many).fst) (gd (0:Int) at_ x.toNat).toNat])/\((↑at_.length:Int) - (x+(1:Int))).toNat<((↑at_.length:Int) - x).toNat)/\((↑at_.length:Int)<=x->ae=bJ many more at_))):=by
 delta n9
 refine ⟨trivial,fun h=>absurd h (by simp;omega),fun _=>Aq many many fU (fun i k=>if i=k then 1 else 0) (fun i k=>True) _ ⟨by omega,by omega,by omega,by omega⟩ (fun i k h1 h2 h3 h4=>⟨trivial,by unfold fU;by_cases h:i=k<;>simp [h];omega⟩) fun K A i hi hF=> ?_⟩
 obtain ⟨e1,e2⟩:=hF.fin hi (by omega)
 rw [e2,Fp (by omega) (by omega) (by omega) (by omega)]
 have hl:=Z6 (many:=many) (more:=more) (by omega) (by omega)
 have Co:(nZ many more).length=(dF many many fU).length+(dF more many (fC more)).length:=by unfold nZ;rw [adV]
 have a1:= @jR.start many more at_
 have a2:= @jR.step many more
 have a3:= @jR.len many more
 have a4:= @jR.fin many more
 have a5:= @jR.lo many more
 have a6:= @Z8 (many+more) at_
 obtain ⟨p1,p2,p3,p4,p5,p6⟩:=hp
 show True/\_/\_/\_/\∀(x:Int) (ae:List (List UInt8)),n8 many more at_ x ae->(x<(↑at_.length:Int)->((0:Int)<=x/\x<(↑at_.length:Int))/\((0:Int)<=gd (0:Int) at_ x.toNat/\gd (0:Int) at_ x.toNat<(↑(nZ many more).length:Int))/\(gd (0:Int) at_ x.toNat).toNat<(nZ many more).length/\(ae.length+(1:Nat))*(24:Nat)<=(140737488355328:Nat)/\aE (x+(1:Int))/\n8 many more at_ (x+(1:Int)) (ae++[gd [] (nZ many more) (gd (0:Int) at_ x.toNat).toNat])/\((↑at_.length:Int) - (x+(1:Int))).toNat<((↑at_.length:Int) - x).toNat)/\((↑at_.length:Int)<=x->ae=bJ many more at_)
 (repeat' (first|apply And.intro|intro _))<;>first|assumption|trivial|omega|(grind [xi,xj,n8,aE])|trace_state
noncomputable def Mf:PD Tc.dn xk.ps->List (IL Tc Tc.dn):=fun x=>(fun (many:Int) (more:Int) (at_:(List Int))=>([⟨78, .fn Ih (fun _=>none),none⟩,⟨91, .fn Il (fun _=>none),none⟩,⟨63, .fn CP (fun k=>bif Nat.beq k 0 then some (.inv [.sl 14 .aA, .bl 1 .fZ, .ar .cA] (fun zo zv=>(fun (i:Int) (K:(List (Row UInt8))) (A:(List (Nat×List UInt8)))=>xj many i K A) zv.1 zv.2.1 zv.2.2.1) (fun zo zv=>(fun (i:Int) (K:(List (Row UInt8))) (A:(List (Nat×List UInt8)))=>(many - i).toNat) zv.1 zv.2.1 zv.2.2.1)) else bif Nat.beq k 1 then some (.inv [.sl 27 .aA, .sl 8 .aA, .bl 1 .fZ, .ar .cA] (fun zo zv=>(fun (k0:Int) (i0:Int) (K0:(List (Row UInt8))) (A0:(List (Nat×List UInt8))) (k:Int) (i:Int) (K:(List (Row UInt8))) (A:(List (Nat×List UInt8)))=>xi many k0 i0 K0 A0 k i K A) zo.1 zo.2.1 zo.2.2.1 zo.2.2.2.1 zv.1 zv.2.1 zv.2.2.1 zv.2.2.2.1) (fun zo zv=>(fun (k0:Int) (i0:Int) (K0:(List (Row UInt8))) (A0:(List (Nat×List UInt8))) (k:Int) (i:Int) (K:(List (Row UInt8))) (A:(List (Nat×List UInt8)))=>(many - k).toNat) zo.1 zo.2.1 zo.2.2.1 zo.2.2.2.1 zv.1 zv.2.1 zv.2.2.1 zv.2.2.2.1)) else none),some 95⟩])) x.1 x.2.1 x.2.2.1
theorem aaa:∀x,nL Try.prog tB (Mf x):=fun _=>⟨⟨Tn,To⟩,⟨TB,TC⟩,⟨yD,yE⟩,trivial⟩
theorem Mg:xk.Ok Try.prog tB:=bO gn (Δ:=[Ao,Fj,Au]) ⟨Ly,YS,LN,trivial⟩ (Ω:=[]) trivial xk SN SO (Mf) (aaa) 3 (fun x=>(fun (many:Int) (more:Int) (at_:(List Int))=>(fun k=>bif Nat.beq k 0 then some (.inv [.sl 31 .aA, .ow 12 .mR] (fun zo zv=>(fun (i:Int) (out:(List (List UInt8)))=>n8 many more at_ i out) zv.1 zv.2.1) (fun zo zv=>(fun (i:Int) (out:(List (List UInt8)))=>((at_.length:Int) - i).toNat) zv.1 zv.2.1)) else bif Nat.beq k 1026 then some (.ib [7,5000]) else none)) x.1 x.2.1 x.2.2.1) fun x hp=>Eq.mp (by kernel_rfl) (Z9 x.1 x.2.1 x.2.2.1 hp)
def xl (many:Int) (more:Int) (at_:(List Int)) (pieces:(List ByteArray)) (i:Int):Prop:=(at_.length:Int)=pieces.length/\(at_.length:Int)=many/\(1<=many/\many<=8/\1<=more/\more<=6)/\fu (many+more) at_ i
def FI:bk Tc Tc.dn:=⟨44,[.ty .aA, .ty .aA, .ty .jN, .ty .jl],fun x=>(fun (many:Int) (more:Int) (at_:(List Int)) (pieces:(List ByteArray))=>True) x.1 x.2.1 x.2.2.1 x.2.2.2.1,[.jl, .aA],fun x=>(fun (many:Int) (more:Int) (at_:(List Int)) (pieces:(List ByteArray))=>hY many more at_ pieces) x.1 x.2.1 x.2.2.1 x.2.2.2.1⟩
theorem aab (many:Int) (more:Int) (at_:(List Int)) (pieces:(List ByteArray)):True/\(decide ((1:Int)<=many/\many<=(8:Int))= !!true->True)/\(decide ((1:Int)<=many/\many<=(8:Int))= !true/\decide ((1:Int)<=many/\many<=(8:Int))= !true\/decide ((1:Int)<=many/\many<=(8:Int))= !!true/\decide ((1:Int)<=more/\more<=(6:Int))= !true->([],(3:Int))=hY many more at_ pieces)/\((decide ((1:Int)<=many/\many<=(8:Int))= !false\/decide ((1:Int)<=many/\many<=(8:Int))= !false)/\(decide ((1:Int)<=many/\many<=(8:Int))= !!false\/decide ((1:Int)<=more/\more<=(6:Int))= !false)->(¬(↑at_.length:Int)=(↑pieces.length:Int)->([],(1:Int))=hY many more at_ pieces)/\((↑at_.length:Int)=(↑pieces.length:Int)->((↑at_.length:Int)<many->([],(8:Int))=hY many more at_ pieces)/\(many<=(↑at_.length:Int)->(many<(↑at_.length:Int)->([],(2:Int))=hY many more at_ pieces)/\((↑at_.length:Int)<=many->xl many more at_ pieces (0:Int)/\∀(x:Int),xl many more at_ pieces x->(x<(↑at_.length:Int)->((0:Int)<=x/\x<(↑at_.length:Int))/\((0:Int)<=gd (0:Int) at_ x.toNat->(0:Int)<=gd (0:Int) at_ x.toNat)/\((0:Int)<=gd (0:Int) at_ x.toNat->(0:Int)<=gd (0:Int) at_ x.toNat)/\((0:Int)<=gd (0:Int) at_ x.toNat->aE (many+more))/\((0:Int)<=gd (0:Int) at_ x.toNat->(0:Int)<=gd (0:Int) at_ x.toNat)/\((0:Int)<=gd (0:Int) at_ x.toNat->(0:Int)<=gd (0:Int) at_ x.toNat)/\((0:Int)<=gd (0:Int) at_ x.toNat->(0:Int)<=gd (0:Int) at_ x.toNat)/\(gd (0:Int) at_ x.toNat<(0:Int)\/many+more<=gd (0:Int) at_ x.toNat->([],(3:Int))=hY many more at_ pieces)/\((0:Int)<=gd (0:Int) at_ x.toNat/\gd (0:Int) at_ x.toNat<many+more->((0:Int)<=x/\x<=(↑at_.length:Int))/\(List.take x.toNat at_).length<=(1000000:Nat)/\(decide (gd (0:Int) at_ x.toNat∈List.take x.toNat at_)=true->([],(6:Int))=hY many more at_ pieces)/\(decide (gd (0:Int) at_ x.toNat∈List.take x.toNat at_)=false->aE (x+(1:Int))/\xl many more at_ pieces (x+(1:Int))/\((↑at_.length:Int) - (x+(1:Int))).toNat<((↑at_.length:Int) - x).toNat)))/\((↑at_.length:Int)<=x->pieces.length<=(1000000:Nat)/\(¬cT pieces=(0:Int)->([],cT pieces)=hY many more at_ pieces)/\(cT pieces=(0:Int)->((1:Int)<=many/\many<=(8:Int)/\(1:Int)<=more/\more<=(6:Int)/\at_.length<=(100:Nat)/\∀(i:Int),i∈at_->(0:Int)<=i/\i<many+more)/\True/\(¬(bu (bJ many more at_)).snd=(0:Int)->([],(bu (bJ many more at_)).snd)=hY many more at_ pieces)/\((bu (bJ many more at_)).snd=(0:Int)->iA (bu (bJ many more at_)).fst pieces/\(bP (bu (bJ many more at_)).fst pieces,(0:Int))=hY many more at_ pieces))))))):=by
 have a1:= @fu.start (many+more) at_
 have a2:= @fu.out (many+more) at_
 have a3:= @fu.Mb (many+more) at_
 have a4:= @fu.step (many+more) at_
 have a5:= @fu.fin (many+more) at_
 have a6:= @fu.lo (many+more) at_
 have b1:= @Z7 (many+more) at_
 have b2:= @Me many more at_ pieces
 unfold hY
 simp only [ady,adE,adh,ac9]
 (repeat' (first|apply And.intro|intro _))<;>first|assumption|trivial|omega|(focus ((repeat (first|rw [acN (by omega)]|rw [acL (by omega)]));done))|(grind [xl,aE])|trace_state
theorem aac:FI.Ok Try.prog tB:=bO gn (Δ:=[Aw,Av,Ax,xk,xh,Fk]) ⟨LW,LV,LX,Mg,Ma,YY,trivial⟩ (Ω:=[]) trivial FI Ia Ib (fun _=>[]) (fun _=>trivial) 0 (fun x=>(fun (many:Int) (more:Int) (at_:(List Int)) (pieces:(List ByteArray))=>(fun k=>bif Nat.beq k 0 then some (.inv [.sl 40 .aA] (fun zo zv=>(fun (i:Int)=>xl many more at_ pieces i) zv.1) (fun zo zv=>(fun (i:Int)=>((at_.length:Int) - i).toNat) zv.1)) else none)) x.1 x.2.1 x.2.2.1 x.2.2.2.1) fun x hp=>Eq.mp (by kernel_rfl) (aab x.1 x.2.1 x.2.2.1 x.2.2.2.1)
open Go.RowKit
structure iT {α:Type} (n:Int) (f:Nat->α) (i:Int) (L:List α):Prop where
 lo:0<=i
 hi:i<=n
 eq:L=(List.range i.toNat).map f
theorem iT.start {α:Type} {n:Int} {f:Nat->α} (h:0<=n):iT n f 0 []:=⟨by omega,h,rfl⟩
theorem iT.step {α:Type} {n:Int} {f:Nat->α} {i:Int} {L:List α} (h:iT n f i L) (hi:i<n):iT n f (i+1) (L++[f i.toNat]):=⟨by have:=h.lo;omega,by omega,by
 have:=h.lo
 rw [show (i+1).toNat=i.toNat+1 by omega,List.range_succ,adv, <-h.eq];rfl⟩
theorem iT.len {α:Type} {n:Int} {f:Nat->α} {i:Int} {L:List α} (h:iT n f i L):(L.length:Int)=i:=by rw [h.eq];have:=h.lo;simp;omega
theorem iT.fin {α:Type} {n:Int} {f:Nat->α} {i:Int} {L:List α} (h:iT n f i L) (hi:n<=i):L=(List.range n.toNat).map f:=by rw [h.eq,show i=n by have:=h.hi;omega]
abbrev jS (l:aO) (no:Int) (p:Nat):Int:=l.node no p
def iU (l:aO) (no:Int):List Int:=(List.range (l.data+l.more).toNat).map (jS l no)
structure dL (s:ct):Prop where
 vk:s.vol.K
 no:0<=s.no/\s.no<s.vol.versions.length
 nd:s.nodes=iU s.vol.layout s.no
theorem dL.len {s:ct} (h:dL s):(s.nodes.length:Int)=s.vol.layout.data+s.vol.layout.more/\s.nodes.length<=14:=by
 have h1:=h.vk.lay.d;have h2:=h.vk.lay.m
 rw [h.nd];unfold iU;simp;omega
theorem dL.at_ {s:ct} (h:dL s) {p:Int} (h0:0<=p) (h1:p<s.vol.layout.data+s.vol.layout.more):gd 0 s.nodes p.toNat=s.vol.layout.node s.no p:=by
 rw [h.nd];unfold iU gd
 rw [ac5,aeA (by omega)]
 show jS _ _ _=_
 unfold jS;rw [show ((p.toNat:Nat):Int)=p by omega]
theorem dL.AS {s:ct} (h:dL s) (p:Int):0<=s.vol.layout.node s.no p/\s.vol.layout.node s.no p<s.vol.nodes.length/\s.no<(gd (⟨false,[]⟩:Shelf) s.vol.nodes (s.vol.layout.node s.no p).toNat).pieces.length:=by
 obtain ⟨a,b⟩:=h.vk.lay.node s.no p
 have c:=h.vk.l8
 refine ⟨a,by omega, ?_⟩
 rw [h.vk.pre.shl a (by omega)];exact h.no.2
theorem dL.bd {s:ct} (h:dL s):0<=s.no/\s.no<s.vol.versions.length/\s.vol.versions.length<=64/\s.vol.layout.K:=⟨h.no.1,h.no.2,h.vk.str.2,h.vk.lay⟩
theorem dL.mk' {v:ah} {no:Int} (h:v.K) (h0:0<=no) (h1:no<v.versions.length):dL ⟨v,no,iU v.layout no⟩:=⟨h,⟨h0,h1⟩,rfl⟩
def cd (v:ah) (no p:Int):Bool:=decide ((gd (⟨false,[]⟩:Shelf) v.nodes (v.layout.node no p).toNat).up=true/\(v.at_ (v.layout.node no p) no).version=gd 0 v.versions no.toNat)
def cY (v:ah) (no:Int) (k:Nat):List Int:=((List.range k).filter fun p:Nat=>cd v no p).map fun p:Nat=>(p:Int)
def jr (v:ah) (no:Int) (k:Nat):List Int:=(cY v no k).take v.layout.data.toNat
def gw (v:ah) (no:Int) (p:Int):BA:=(v.at_ (v.layout.node no p) no).data
theorem Mh {no:Int}:cY v no (k+1)=if cd v no k=true then cY v no k++[(k:Int)] else cY v no k:=by
 unfold cY
 rw [List.range_succ,List.filter_append,adv]
 by_cases e:cd v no k=true
 ·rw [acN e,List.filter_cons_of_pos (by simpa using e)];rfl
 ·rw [acL e,List.filter_cons_of_neg (by simpa using e)];simp
structure fv (v:ah) (no p:Int) (at_:List Int) (P:List BA):Prop where
 lo:0<=p
 hi:p<=v.layout.data+v.layout.more
 a:at_=jr v no p.toNat
 q:P=at_.map (gw v no)
theorem fv.start {v:ah} {no:Int} (h:v.layout.K):fv v no 0 [] []:=⟨by omega,by have:=h.d;have:=h.m;omega,by unfold jr cY;simp,rfl⟩
theorem Mi {no:Int}:(jr v no k).length<=v.layout.data.toNat:=by unfold jr;rw [adH];omega
theorem fv.len {v:ah} {no p:Int} {at_:List Int} {P:List BA} (h:fv v no p at_ P) (k:v.layout.K):(at_.length:Int)<=v.layout.data/\P.length=at_.length/\at_.length<=8/\0<=p:=by
 have:=k.d
 have h1:=Mi (v:=v) (no:=no) (k:=p.toNat)
 rw [<-h.a] at h1
 exact ⟨by omega,by rw [h.q,ac4],by omega,h.lo⟩
theorem aad {no:Int} (h:cd v no k=false\/v.layout.data.toNat<=(jr v no k).length):jr v no (k+1)=jr v no k:=by
 unfold jr at h ⊢
 rw [Mh]
 by_cases e:cd v no k=true
 ·rw [acN e]
  rcases h with h|h
  ·rw [h] at e;simp at e
  ·rw [adH] at h
   rw [List.take_append_of_le_length (by omega)]
 ·rw [acL e]
theorem aae {no:Int} (e:cd v no k=true) (h:(jr v no k).length<v.layout.data.toNat):jr v no (k+1)=jr v no k++[(k:Int)]:=by
 unfold jr at h ⊢
 rw [Mh,acN e]
 rw [adH] at h
 rw [adK (by simp;omega),adK (by omega)]
theorem fv.cm {v:ah} {no p:Int} {at_:List Int} {P:List BA} (h:fv v no p at_ P) (hp:p<v.layout.data+v.layout.more) (e:cd v no p=false\/v.layout.data<=at_.length):fv v no (p+1) at_ P:=by
 have h0:=h.lo
 refine ⟨by omega,by omega, ?_,h.q⟩
 rw [show (p+1).toNat=p.toNat+1 by omega,aad,h.a]
 rcases e with e|e
 ·left;rw [show ((p.toNat:Nat):Int)=p by omega];exact e
 ·right;rw [<-h.a];omega
theorem fv.more {v:ah} {no p:Int} {at_:List Int} {P:List BA} (h:fv v no p at_ P) (hp:p<v.layout.data+v.layout.more) (e:cd v no p=true) (hl:(at_.length:Int)<v.layout.data):fv v no (p+1) (at_++[p]) (P++[gw v no p]):=by
 have h0:=h.lo
 refine ⟨by omega,by omega, ?_,by rw [h.q,adv];rfl⟩
 rw [show (p+1).toNat=p.toNat+1 by omega,aae (by rw [show ((p.toNat:Nat):Int)=p by omega];exact e) (by rw [<-h.a];omega), <-h.a,show ((p.toNat:Nat):Int)=p by omega]
abbrev bW (v:ah) (no:Int):List Int:=jr v no (v.layout.data+v.layout.more).toNat
theorem fv.fin {v:ah} {no p:Int} {at_:List Int} {P:List BA} (h:fv v no p at_ P) (hp:v.layout.data+v.layout.more<=p):at_=bW v no/\P=(bW v no).map (gw v no):=by
 have e:p=v.layout.data+v.layout.more:=by have:=h.hi;omega
 have h1:at_=bW v no:=by rw [h.a,e]
 exact ⟨h1,by rw [h.q,h1]⟩
def cU (v:ah) (no:Int):List BA×Int:=if ((bW v no).length:Int)<v.layout.data then ([],8) else hY v.layout.data v.layout.more (bW v no) ((bW v no).map (gw v no))
def ld (v:ah) (no:Int):Nat->Nat
 |0=>0
 |k+1=>if cd v no k=true then ld v no k|||2^(v.layout.node no k).toNat else ld v no k
def eC (v:ah) (no:Int):bU:=uN (ld v no (v.layout.data+v.layout.more).toNat)
theorem aaf {a b:Nat} (ha:a<2^k) (hb:b<2^k):a|||b<2^k:=Nat.or_lt_two_pow ha hb
theorem AT {v:ah} {no:Int} (h:v.layout.K):∀k,ld v no k<2^12
 |0=>by unfold ld;exact Nat.two_pow_pos _
 |k+1=>by
  unfold ld
  split
  ·refine aaf (AT h k) ?_
   have h1:=h.node no k;have h2:=h.n
   exact Nat.pow_lt_pow_right (by omega) (by omega)
  ·exact AT h k
theorem bU.ext' {a b:bU} (h:a.n=b.n):a=b:=by cases a;cases b;simp at h;subst h;rfl
structure js (v:ah) (no p:Int) (o:bU):Prop where
 k:v.layout.K
 lo:0<=p
 hi:p<=v.layout.data+v.layout.more
 eq:o.n=ld v no p.toNat
theorem js.start {v:ah} {no:Int} (h:v.layout.K):js v no 0 (uN (Int.toNat 0)):=⟨h,by omega,by have:=h.d;have:=h.m;omega,rfl⟩
theorem js.yes {v:ah} {no p:Int} {o:bU} (h:js v no p o) (hp:p<v.layout.data+v.layout.more) (e:cd v no p=true):js v no (p+1) (dU BinOp.or o (uN ((uN (Int.toNat 1)).n*2^min (v.layout.node no p).toNat 64))):=by
 have h0:=h.lo
 have h1:=h.k.node no p;have h2:=h.k.n
 refine ⟨h.k,by omega,by omega, ?_⟩
 rw [show (p+1).toNat=p.toNat+1 by omega,ti,ld,show ((p.toNat:Nat):Int)=p by omega,acN e,h.eq]
 have hlt:2^(v.layout.node no p).toNat<2^12:=Nat.pow_lt_pow_right (by omega) (by omega)
 have e1:(uN ((uN (Int.toNat 1)).n*2^min (v.layout.node no p).toNat 64)).n=2^(v.layout.node no p).toNat:=by
  rw [show min (v.layout.node no p).toNat 64=(v.layout.node no p).toNat by omega,rH]
  ·show 1*_=_;rw [Nat.one_mul]
  ·show 1*_<_;rw [Nat.one_mul];omega
 rw [e1];rfl
theorem js.no' {v:ah} {no p:Int} {o:bU} (h:js v no p o) (hp:p<v.layout.data+v.layout.more) (e:cd v no p=false):js v no (p+1) o:=by
 have h0:=h.lo
 refine ⟨h.k,by omega,by omega, ?_⟩
 rw [show (p+1).toNat=p.toNat+1 by omega,ld,show ((p.toNat:Nat):Int)=p by omega,acL (by simp [e]),h.eq]
theorem js.fin {v:ah} {no p:Int} {o:bU} (h:js v no p o) (hp:v.layout.data+v.layout.more<=p):o=eC v no:=by
 have e:p=v.layout.data+v.layout.more:=by have:=h.hi;omega
 refine bU.ext' ?_
 unfold eC
 rw [h.eq,e,rH (by have:=AT (v:=v) (no:=no) h.k (v.layout.data+v.layout.more).toNat;omega)]
def eg (v:ah) (b:Int):Int:=if ¬bN v=0 then bN v else if ¬(0<=b/\b<=v.versions.length*v.layout.data - 1) then 3 else 0
def fw (v:ah) (b:Int):BA×Int:=
 if ¬eg v b=0 then (ByteArray.empty,eg v b) else if ¬(cU v (b / v.layout.data)).2=0 then (ByteArray.empty,(cU v (b / v.layout.data)).2) else (gd ByteArray.empty (cU v (b / v.layout.data)).1 (b%v.layout.data).toNat,0)
def aR (v:ah) (no:Int):bU×Int:=if ¬bN v=0 then (uN (Int.toNat 0),bN v) else if ¬(0<=no/\no<=v.versions.length - 1) then (uN (Int.toNat 0),3) else (eC v no,0)
def au (v:ah) (b:Int):ct×Int×Int:=if ¬eg v b=0 then (⟨⟨⟨0,0,0,0⟩,0,[],[]⟩,0,[]⟩,0,eg v b) else (⟨v,b / v.layout.data,iU v.layout (b / v.layout.data)⟩,b%v.layout.data,0)
theorem xm {v:ah} {b:Int} (h:eg v b=0):v.K/\0<=b/\b<v.versions.length*v.layout.data/\0<=b / v.layout.data/\b / v.layout.data<v.versions.length/\0<=b%v.layout.data/\b%v.layout.data<v.layout.data:=by
 unfold eg at h
 split at h
 ·rename_i h1;exact absurd h h1
 ·rename_i h1
  split at h
  ·simp at h
  ·rename_i h2
   have hk:=nQ.1 (ad9.1 h1)
   have hd:=hk.lay.d
   have h3:=ad9.1 h2
   exact ⟨hk,h3.1,by omega,Int.ediv_nonneg h3.1 (by omega),Int.ediv_lt_of_lt_mul (by omega) (by omega),Int.emod_nonneg _ (by omega),Int.emod_lt_of_pos _ (by omega)⟩
theorem aah {v:ah} (h:v.K):0<=(v.versions.length:Int)*v.layout.data/\(v.versions.length:Int)*v.layout.data<=512:=by
 have h1:=h.str;have h2:=h.lay.d
 constructor
 ·exact Int.mul_nonneg (by omega) (by omega)
 ·calc (v.versions.length:Int)*v.layout.data<=64*8:=Int.mul_le_mul (by omega) (by omega) (by omega) (by omega)
   _=512:=rfl
theorem aai {more:Int} {at_:List Int} {P:List BA} (h:(hY many more at_ P).2=0):((hY many more at_ P).1.length:Int)=many:=by
 unfold hY at h ⊢
 split at h
 ·simp at h
 ·rename_i h1
  rw [acL h1]
  split at h
  ·simp at h
  ·rename_i h2
   rw [acL h2]
   split at h
   ·simp at h
   ·rename_i h3
    rw [acL h3]
    split at h
    ·simp at h
    ·rename_i h4
     rw [acL h4]
     split at h
     ·rename_i h5;exact absurd h h5
     ·rename_i h5
      rw [acL h5]
      split at h
      ·rename_i h6;exact absurd h h6
      ·rename_i h6
       rw [acL h6]
       split at h
       ·rename_i h7;exact absurd h h7
       ·rename_i h7
        rw [acL h7]
        have:=(Md (ad9.1 h7)).1
        have e:(bJ many more at_).length=at_.length:=by unfold bJ;simp
        show ((bP _ _).length:Int)=many
        unfold bP
        rw [ac4];omega
theorem FJ {v:ah} {no:Int} (h:(cU v no).2=0):((cU v no).1.length:Int)=v.layout.data:=by
 unfold cU at h ⊢
 split at h
 ·simp at h
 ·rename_i h1;rw [acL h1];exact aai h
def xn (v:ah) (no:Int) (p:Int) (Z:(ct×List Int)):Prop:=Z.1.vol=v/\Z.1.no=no/\iT (v.layout.data+v.layout.more) (jS v.layout no) p Z.2
def AU:bk Tc Tc.dn:=⟨20,[.ty .eV, .ty .aA],fun x=>(fun (v:ah) (no:Int)=>v.layout.K/\0<=no/\no<=63) x.1 x.2.1,[.ky],fun x=>(fun (v:ah) (no:Int)=>⟨v,no,iU v.layout no⟩) x.1 x.2.1⟩
theorem aaj (v:ah) (no:Int) (hp:v.layout.K/\0<=no/\no<=63):(v.layout.K\/(1:Int)<=v.layout.data/\v.layout.data<=(8:Int)/\(1:Int)<=v.layout.more/\v.layout.more<=(6:Int))/\xn v no (0:Int) (ct.mk v no [],[])/\∀(x:Int) (af:ct×List Int),xn v no x af->(x<v.layout.data+v.layout.more->(v.layout.K/\(0:Int)<=no/\no<=(100:Int)/\(0:Int)<=x/\x<=(100:Int))/\(af.snd.length+(1:Nat))*(8:Nat)<=(140737488355328:Nat)/\aE (x+(1:Int))/\xn v no (x+(1:Int)) (ct.mk af.fst.vol af.fst.no [],af.snd++[v.layout.node no x])/\(v.layout.data+v.layout.more - (x+(1:Int))).toNat<(v.layout.data+v.layout.more - x).toNat)/\(v.layout.data+v.layout.more<=x->ct.mk af.fst.vol af.fst.no af.snd=ct.mk v no (iU v.layout no)):=by
 have u1:= @iT.start Int (v.layout.data+v.layout.more) (jS v.layout no)
 have u2:= @iT.step Int (v.layout.data+v.layout.more) (jS v.layout no)
 have u3:= @iT.len Int (v.layout.data+v.layout.more) (jS v.layout no)
 have u4:= @iT.lo Int (v.layout.data+v.layout.more) (jS v.layout no)
 have u5:= @iT.fin Int (v.layout.data+v.layout.more) (jS v.layout no)
 have u6:∀p:Int,0<=p->jS v.layout no p.toNat=v.layout.node no p:=fun p h=>by unfold jS;rw [show ((p.toNat:Nat):Int)=p by omega]
 have u7:(List.range (v.layout.data+v.layout.more).toNat).map (jS v.layout no)=iU v.layout no:=rfl
 have h1:=hp.1.d
 have h2:=hp.1.m
 (repeat' (first|apply And.intro|intro _))<;>first|assumption|trivial|omega|(grind [xn,aE])|trace_state
theorem Mj:AU.Ok Try.prog tD:=bO cP (Δ:=[sn,wP]) ⟨wN,EX,trivial⟩ (Ω:=[]) trivial AU HY HZ (fun _=>[]) (fun _=>trivial) 0 (fun x=>(fun (v:ah) (no:Int)=>(fun k=>bif Nat.beq k 0 then some (.inv [.sl 13 .aA, .sg 3 8 .aA .ky []] (fun zo zv=>(fun (p:Int) (Z:(ct×List Int))=>xn v no p Z) zv.1 zv.2.1) (fun zo zv=>(fun (p:Int) (Z:(ct×List Int))=>(v.layout.data+v.layout.more - p).toNat) zv.1 zv.2.1)) else none)) x.1 x.2.1) fun x hp=>Eq.mp (by kernel_rfl) (aaj x.1 x.2.1 hp)
def xp:bk Tc Tc.dn:=⟨22,[.ty .ky, .ty .aA],fun x=>(fun (s:ct) (p:Int)=>dL s/\0<=p/\p<s.vol.layout.data+s.vol.layout.more) x.1 x.2.1,[.tS],fun x=>(fun (s:ct) (p:Int)=>⟨s.vol.at_ (s.vol.layout.node s.no p) s.no⟩) x.1 x.2.1⟩
theorem aak (s:ct) (p:Int) (hp:dL s/\0<=p/\p<s.vol.layout.data+s.vol.layout.more):((0:Int)<=p/\p<(↑s.nodes.length:Int))/\((0:Int)<=gd (0:Int) s.nodes p.toNat/\gd (0:Int) s.nodes p.toNat<(↑s.vol.nodes.length:Int))/\((0:Int)<=s.no/\s.no<(↑(gd (Shelf.mk false []) s.vol.nodes (gd (0:Int) s.nodes p.toNat).toNat).pieces.length:Int))/\Ptr.mk (gd (Piece.mk (0:Int) ByteArray.empty) (gd (Shelf.mk false []) s.vol.nodes (gd (0:Int) s.nodes p.toNat).toNat).pieces s.no.toNat)=Ptr.mk (s.vol.at_ (s.vol.layout.node s.no p) s.no):=by
 have h1:=hp.1.len
 have h2:=hp.1.bd
 have h3:= @dL.at_ s hp.1 p hp.2.1 hp.2.2
 have h4:=hp.1.AS p
 (repeat' (first|apply And.intro|intro _))<;>first|assumption|trivial|omega|(grind [aE])|trace_state
theorem FK:xp.Ok Try.prog tD:=bO cP (Δ:=[]) trivial (Ω:=[]) trivial xp H3 H4 (fun _=>[]) (fun _=>trivial) 0 (fun x=>(fun (s:ct) (p:Int)=>(fun _=>none)) x.1 x.2.1) fun x hp=>Eq.mp (by kernel_rfl) (aak x.1 x.2.1 hp)
def xq:bk Tc Tc.dn:=⟨43,[.ty .ky, .ty .aA],fun x=>(fun (s:ct) (p:Int)=>dL s/\0<=p/\p<s.vol.layout.data+s.vol.layout.more) x.1 x.2.1,[.ed],fun x=>(fun (s:ct) (p:Int)=>cd s.vol s.no p) x.1 x.2.1⟩
abbrev jT (s:ct) (p:Int):=((gd (Shelf.mk false []) s.vol.nodes (gd (0:Int) s.nodes p.toNat).toNat).up=true->(gd (Shelf.mk false []) s.vol.nodes (gd (0:Int) s.nodes p.toNat).toNat).up=true)
theorem aal (s:ct) (p:Int) (hp:dL s/\0<=p/\p<s.vol.layout.data+s.vol.layout.more):((0:Int)<=p/\p<(↑s.nodes.length:Int))/\((0:Int)<=gd (0:Int) s.nodes p.toNat/\gd (0:Int) s.nodes p.toNat<(↑s.vol.nodes.length:Int))/\(jT s p)/\(jT s p)/\((gd (Shelf.mk false []) s.vol.nodes (gd (0:Int) s.nodes p.toNat).toNat).up=true->dL s/\(0:Int)<=p/\p<s.vol.layout.data+s.vol.layout.more)/\(jT s p)/\(jT s p)/\(jT s p)/\(jT s p)/\(jT s p)/\(jT s p)/\(jT s p)/\(jT s p)/\((gd (Shelf.mk false []) s.vol.nodes (gd (0:Int) s.nodes p.toNat).toNat).up=true->(0:Int)<=s.no/\s.no<(↑s.vol.versions.length:Int))/\(jT s p)/\(jT s p)/\(jT s p)/\(jT s p)/\((gd (Shelf.mk false []) s.vol.nodes (gd (0:Int) s.nodes p.toNat).toNat).up&&(s.vol.at_ (s.vol.layout.node s.no p) s.no).version==gd (0:Int) s.vol.versions s.no.toNat)=cd s.vol s.no p:=by
 delta jT
 have h1:=hp.1.len
 have h2:=hp.1.bd
 have h3:= @dL.at_ s hp.1 p hp.2.1 hp.2.2
 have h4:=hp.1.AS p
 unfold cd
 (try simp only [ady,adE,adh,ac9])
 (repeat' (first|apply And.intro|intro _))<;>first|assumption|trivial|omega|(grind [aE])|trace_state
theorem FL:xq.Ok Try.prog tD:=bO cP (Δ:=[xp]) ⟨FK,trivial⟩ (Ω:=[]) trivial xq Sb Sc (fun _=>[]) (fun _=>trivial) 0 (fun x=>(fun (s:ct) (p:Int)=>(fun _=>none)) x.1 x.2.1) fun x hp=>Eq.mp (by kernel_rfl) (aal x.1 x.2.1 hp)
def ud (s:ct) (p:Int) (o:bU):Prop:=js s.vol s.no p o
def FM:bk Tc Tc.dn:=⟨55,[.ty .ky],fun x=>(fun (s:ct)=>dL s) x.1,[.nN],fun x=>(fun (s:ct)=>eC s.vol s.no) x.1⟩
theorem aam (s:ct) (hp:dL s):ud s (0:Int) (uN (Int.toNat (0:Int)))/\∀(x:Int) (af:bU),ud s x af->(x<(↑s.nodes.length:Int)->((0:Int)<=x/\x<(↑s.nodes.length:Int))/\(dL s/\(0:Int)<=x/\x<s.vol.layout.data+s.vol.layout.more)/\(cd s.vol s.no x=true->(0:Int)<=gd (0:Int) s.nodes x.toNat/\aE (x+(1:Int))/\ud s (x+(1:Int)) (dU BinOp.or af (uN ((uN (Int.toNat (1:Int))).n*(2:Nat)^min (gd (0:Int) s.nodes x.toNat).toNat (64:Nat))))/\((↑s.nodes.length:Int) - (x+(1:Int))).toNat<((↑s.nodes.length:Int) - x).toNat)/\(cd s.vol s.no x=false->aE (x+(1:Int))/\ud s (x+(1:Int)) af/\((↑s.nodes.length:Int) - (x+(1:Int))).toNat<((↑s.nodes.length:Int) - x).toNat))/\((↑s.nodes.length:Int)<=x->af=eC s.vol s.no):=by
 have h1:=hp.len
 have h2:=hp.bd
 have h3:=fun p=> @dL.at_ s hp p
 have h4:=hp.AS
 have a1:= @js.start s.vol s.no
 have a2:= @js.yes s.vol s.no
 have a3:= @js.no' s.vol s.no
 have a4:= @js.fin s.vol s.no
 have a5:=fun p o=> @js.lo s.vol s.no p o
 have a6:= @qG
 (try simp only [ady,adE,adh,ac9])
 (repeat' (first|apply And.intro|intro _))<;>first|assumption|trivial|omega|(grind [ud,aE])|trace_state
theorem aan:FM.Ok Try.prog tD:=bO cP (Δ:=[xq]) ⟨FL,trivial⟩ (Ω:=[]) trivial FM SE SF (fun _=>[]) (fun _=>trivial) 0 (fun x=>(fun (s:ct)=>(fun k=>bif Nat.beq k 0 then some (.inv [.sl 8 .aA, .sl 2 .nN] (fun zo zv=>(fun (p:Int) (o:bU)=>ud s p o) zv.1 zv.2.1) (fun zo zv=>(fun (p:Int) (o:bU)=>((s.nodes.length:Int) - p).toNat) zv.1 zv.2.1)) else none)) x.1) fun x hp=>Eq.mp (by kernel_rfl) (aam x.1 hp)
def ue (s:ct) (p:Int) (at_:(List Int)) (P:(List ByteArray)):Prop:=fv s.vol s.no p at_ P
def FN:bk Tc Tc.dn:=⟨18,[.ty .ky],fun x=>(fun (s:ct)=>dL s) x.1,[.jl, .aA],fun x=>(fun (s:ct)=>cU s.vol s.no) x.1⟩
theorem aao (s:ct) (hp:dL s):ue s (0:Int) [] []/\∀(x:Int) (af:List Int) (aD:List ByteArray),ue s x af aD->(x<(↑s.nodes.length:Int)->(dL s/\(0:Int)<=x/\x<s.vol.layout.data+s.vol.layout.more)/\(cd s.vol s.no x=true->cd s.vol s.no x=true)/\(cd s.vol s.no x=true->cd s.vol s.no x=true)/\(cd s.vol s.no x=true->cd s.vol s.no x=true)/\(cd s.vol s.no x=true->cd s.vol s.no x=true)/\(cd s.vol s.no x=true->cd s.vol s.no x=true)/\(cd s.vol s.no x=true->cd s.vol s.no x=true)/\(cd s.vol s.no x=true->cd s.vol s.no x=true)/\(cd s.vol s.no x=true/\(↑af.length:Int)<s.vol.layout.data->(af.length+(1:Nat))*(8:Nat)<=(140737488355328:Nat)/\(dL s/\(0:Int)<=x/\x<s.vol.layout.data+s.vol.layout.more)/\(aD.length+(1:Nat))*(16:Nat)<=(140737488355328:Nat)/\aE (x+(1:Int))/\ue s (x+(1:Int)) (af++[x]) (aD++[(s.vol.at_ (s.vol.layout.node s.no x) s.no).data])/\((↑s.nodes.length:Int) - (x+(1:Int))).toNat<((↑s.nodes.length:Int) - x).toNat)/\(cd s.vol s.no x=false\/s.vol.layout.data<=(↑af.length:Int)->aE (x+(1:Int))/\ue s (x+(1:Int)) af aD/\((↑s.nodes.length:Int) - (x+(1:Int))).toNat<((↑s.nodes.length:Int) - x).toNat))/\((↑s.nodes.length:Int)<=x->((↑af.length:Int)<s.vol.layout.data->([],(8:Int))=cU s.vol s.no)/\(s.vol.layout.data<=(↑af.length:Int)->True/\hY s.vol.layout.data s.vol.layout.more af aD=cU s.vol s.no)):=by
 have h1:=hp.len
 have h2:=hp.bd
 have h3:=hp.AS
 have d1:= @fv.start s.vol s.no
 have d2:= @fv.cm s.vol s.no
 have d3:= @fv.more s.vol s.no
 have d4:= @fv.fin s.vol s.no
 have d5:= @fv.len s.vol s.no
 have d6:= @qG
 have e0:∀p:Int,gw s.vol s.no p=(gd (⟨0,ByteArray.empty⟩:Piece) (gd (⟨false,[]⟩:Shelf) s.vol.nodes (s.vol.layout.node s.no p).toNat).pieces s.no.toNat).data:=fun p=>rfl
 have e1:((bW s.vol s.no).length:Int)<s.vol.layout.data->cU s.vol s.no=([],8):=fun h=>by unfold cU;rw [acN h]
 have e2:s.vol.layout.data<=((bW s.vol s.no).length:Int)->cU s.vol s.no=hY s.vol.layout.data s.vol.layout.more (bW s.vol s.no) ((bW s.vol s.no).map (gw s.vol s.no)):=fun h=>by unfold cU;rw [acL (by omega)]
 (try simp only [ady,adE,adh,ac9])
 (repeat' (first|apply And.intro|intro _))<;>first|assumption|trivial|omega|(grind [ue,aE])|trace_state
theorem aap:FN.Ok Try.prog tD:=bO cP (Δ:=[xq,xp,FI]) ⟨FL,FK,(aac.two rfl rfl rfl),trivial⟩ (Ω:=[]) trivial FN HU HV (fun _=>[]) (fun _=>trivial) 0 (fun x=>(fun (s:ct)=>(fun k=>bif Nat.beq k 0 then some (.inv [.sl 10 .aA, .ow 4 .aA, .ow 5 .gL] (fun zo zv=>(fun (p:Int) (at_:(List Int)) (P:(List ByteArray))=>ue s p at_ P) zv.1 zv.2.1 zv.2.2.1) (fun zo zv=>(fun (p:Int) (at_:(List Int)) (P:(List ByteArray))=>((s.nodes.length:Int) - p).toNat) zv.1 zv.2.1 zv.2.2.1)) else none)) x.1) fun x hp=>Eq.mp (by kernel_rfl) (aao x.1 hp)
def FO:bk Tc Tc.dn:=⟨33,[.ty .eV, .ty .aA],fun x=>(fun (v:ah) (no:Int)=>v.K/\0<=no/\no<v.versions.length) x.1 x.2.1,[.nN],fun x=>(fun (v:ah) (no:Int)=>eC v no) x.1 x.2.1⟩
theorem aaq (v:ah) (no:Int) (hp:v.K/\0<=no/\no<v.versions.length):(v.layout.K/\(0:Int)<=no/\no<=(63:Int))/\dL (ct.mk v no (iU v.layout no))/\eC v no=eC v no:=by
 have h1:= @dL.mk' v no hp.1 hp.2.1 hp.2.2
 have h2:=hp.1.lay
 have h3:=hp.1.str
 (repeat' (first|apply And.intro|intro _))<;>first|assumption|trivial|omega|(grind [])|trace_state
theorem aar:FO.Ok Try.prog tD:=bO cP (Δ:=[AU,FM]) ⟨Mj,aan,trivial⟩ (Ω:=[]) trivial FO RF RG (fun _=>[]) (fun _=>trivial) 0 (fun x=>(fun (v:ah) (no:Int)=>(fun _=>none)) x.1 x.2.1) fun x hp=>Eq.mp (by kernel_rfl) (aaq x.1 x.2.1 hp)
def AW:bk Tc Tc.dn:=⟨11,[.ty .eV, .ty .aA],fun x=>(fun (v:ah) (no:Int)=>True) x.1 x.2.1,[.nN, .aA],fun x=>(fun (v:ah) (no:Int)=>aR v no) x.1 x.2.1⟩
theorem aas (v:ah) (no:Int):True/\(¬bN v=(0:Int)->(uN (Int.toNat (0:Int)),bN v)=aR v no)/\(bN v=(0:Int)->aE ((↑v.versions.length:Int) - (1:Int))/\True/\(decide ((0:Int)<=no/\no<=(↑v.versions.length:Int) - (1:Int))= !true->(uN (Int.toNat (0:Int)),(3:Int))=aR v no)/\(decide ((0:Int)<=no/\no<=(↑v.versions.length:Int) - (1:Int))= !false->(v.K/\(0:Int)<=no/\no<(↑v.versions.length:Int))/\(eC v no,(0:Int))=aR v no)):=by
 have h1:= @nQ v
 have h2:v.K->v.versions.length<=64:=fun h=>h.str.2
 unfold aR
 (try simp only [ady,adE,adh,ac9])
 (repeat' (first|apply And.intro|intro _))<;>first|assumption|trivial|omega|(grind [aE])|trace_state
theorem Ml:AW.Ok Try.prog tD:=bO cP (Δ:=[qL,nR,FO]) ⟨tW,qI,aar,trivial⟩ (Ω:=[]) trivial AW QN QO (fun _=>[]) (fun _=>trivial) 0 (fun x=>(fun (v:ah) (no:Int)=>(fun _=>none)) x.1 x.2.1) fun x hp=>Eq.mp (by kernel_rfl) (aas x.1 x.2.1)
def AX:bk Tc Tc.dn:=⟨17,[.ty .eV, .ty .aA],fun x=>(fun (v:ah) (b:Int)=>True) x.1 x.2.1,[.ky, .aA, .aA],fun x=>(fun (v:ah) (b:Int)=>au v b) x.1 x.2.1⟩
theorem aat (v:ah) (b:Int):True/\(¬bN v=(0:Int)->(ct.mk (ah.mk (aO.mk (0:Int) (0:Int) (0:Int) (0:Int)) (0:Int) [] []) (0:Int) [],(0:Int),bN v)=au v b)/\(bN v=(0:Int)->aE ((↑v.versions.length:Int)*v.layout.data)/\aE ((↑v.versions.length:Int)*v.layout.data - (1:Int))/\True/\(decide ((0:Int)<=b/\b<=(↑v.versions.length:Int)*v.layout.data - (1:Int))= !true->(ct.mk (ah.mk (aO.mk (0:Int) (0:Int) (0:Int) (0:Int)) (0:Int) [] []) (0:Int) [],(0:Int),(3:Int))=au v b)/\(decide ((0:Int)<=b/\b<=(↑v.versions.length:Int)*v.layout.data - (1:Int))= !false->v.layout.data≠(0:Int)/\aE (b.tdiv v.layout.data)/\(v.layout.K/\(0:Int)<=b.tdiv v.layout.data/\b.tdiv v.layout.data<=(63:Int))/\v.layout.data≠(0:Int)/\(ct.mk v (b.tdiv v.layout.data) (iU v.layout (b.tdiv v.layout.data)),b.tmod v.layout.data,(0:Int))=au v b)):=by
 have h1:= @nQ v
 have h2:= @aah v
 have h3:= @xm v b
 have h4:v.K->v.layout.K/\1<=v.layout.data/\v.layout.data<=8/\v.versions.length<=64:=fun h=>⟨h.lay,h.lay.d.1,h.lay.d.2,h.str.2⟩
 have t1:0<=b->b.tdiv v.layout.data=b / v.layout.data:=fun h=>Int.tdiv_eq_ediv_of_nonneg h
 have t2:0<=b->0<v.layout.data->b.tmod v.layout.data=b%v.layout.data:=Lm
 have p0:bN v=0->0<=b->b<=v.versions.length*v.layout.data - 1->eg v b=0:=fun h h5 h6=>by unfold eg;rw [acL (by simp [h]),acL (by omega)]
 have p1:¬bN v=0->au v b=(⟨⟨⟨0,0,0,0⟩,0,[],[]⟩,0,[]⟩,0,bN v):=fun h=>by
  have e:eg v b=bN v:=by unfold eg;rw [acN h]
  unfold au;rw [e,acN h]
 have p2:bN v=0->¬(0<=b/\b<=v.versions.length*v.layout.data - 1)->au v b=(⟨⟨⟨0,0,0,0⟩,0,[],[]⟩,0,[]⟩,0,3):=fun h h2=>by
  have e:eg v b=3:=by unfold eg;rw [acL (by simp [h]),acN h2]
  unfold au;rw [e,acN (by simp)]
 have p3:eg v b=0->au v b=(⟨v,b / v.layout.data,iU v.layout (b / v.layout.data)⟩,b%v.layout.data,0):=fun h=>by unfold au;rw [acL (by simp [h])]
 (try simp only [ady,adE,adh,ac9])
 (repeat' (first|apply And.intro|intro _))<;>first|assumption|trivial|omega|(grind [aE])|trace_state
theorem Mm:AX.Ok Try.prog tD:=bO cP (Δ:=[qL,nR,AU]) ⟨tW,qI,Mj,trivial⟩ (Ω:=[]) trivial AX Q2 Q3 (fun _=>[]) (fun _=>trivial) 0 (fun x=>(fun (v:ah) (b:Int)=>(fun _=>none)) x.1 x.2.1) fun x hp=>Eq.mp (by kernel_rfl) (aat x.1 x.2.1)
def FP:bk Tc Tc.dn:=⟨9,[.ty .eV, .ty .aA],fun x=>(fun (v:ah) (b:Int)=>True) x.1 x.2.1,[.gL, .aA],fun x=>(fun (v:ah) (b:Int)=>fw v b) x.1 x.2.1⟩
theorem aau (v:ah) (b:Int):True/\(¬(au v b).snd.snd=(0:Int)->(ByteArray.mk #[],(au v b).snd.snd)=fw v b)/\((au v b).snd.snd=(0:Int)->dL (au v b).fst/\(¬(cU (au v b).fst.vol (au v b).fst.no).snd=(0:Int)->(ByteArray.mk #[],(cU (au v b).fst.vol (au v b).fst.no).snd)=fw v b)/\((cU (au v b).fst.vol (au v b).fst.no).snd=(0:Int)->((0:Int)<=(au v b).snd.fst/\(au v b).snd.fst<(↑(cU (au v b).fst.vol (au v b).fst.no).fst.length:Int))/\(gd ByteArray.empty (cU (au v b).fst.vol (au v b).fst.no).fst (au v b).snd.fst.toNat,(0:Int))=fw v b)):=by
 have q1:(au v b).2.2=eg v b:=by
  unfold au
  by_cases h:eg v b=0
  ·rw [acL (by simp [h]),h]
  ·rw [acN h]
 have q2:eg v b=0->(au v b).1=⟨v,b / v.layout.data,iU v.layout (b / v.layout.data)⟩/\(au v b).2.1=b%v.layout.data:=fun h=>by unfold au;rw [acL (by simp [h])];exact ⟨rfl,rfl⟩
 have q3:eg v b=0->dL ⟨v,b / v.layout.data,iU v.layout (b / v.layout.data)⟩:=fun h=>by
  obtain ⟨a1,a2,a3,a4,a5,a6,a7⟩:=xm h
  exact dL.mk' a1 a4 a5
 have q4:= @xm v b
 have q5:= @FJ v (b / v.layout.data)
 have r1:¬eg v b=0->fw v b=(ByteArray.empty,eg v b):=fun h=>by unfold fw;rw [acN h]
 have r2:eg v b=0->¬(cU v (b / v.layout.data)).2=0->fw v b=(ByteArray.empty,(cU v (b / v.layout.data)).2):=fun h h2=>by unfold fw;rw [acL (by simp [h]),acN h2]
 have r3:eg v b=0->(cU v (b / v.layout.data)).2=0->fw v b=(gd ByteArray.empty (cU v (b / v.layout.data)).1 (b%v.layout.data).toNat,0):=fun h h2=>by unfold fw;rw [acL (by simp [h]),acL (by simp [h2])]
 have he:(ByteArray.mk #[])=ByteArray.empty:=rfl
 simp only [he,q1]
 (try simp only [ady,adE,adh,ac9])
 (repeat' (first|apply And.intro|intro _))<;>first|assumption|trivial|omega|(grind [aE])|trace_state
theorem aav:FP.Ok Try.prog tD:=bO cP (Δ:=[AX,FN]) ⟨Mm,aap,trivial⟩ (Ω:=[]) trivial FP QH QI (fun _=>[]) (fun _=>trivial) 0 (fun x=>(fun (v:ah) (b:Int)=>(fun _=>none)) x.1 x.2.1) fun x hp=>Eq.mp (by kernel_rfl) (aau x.1 x.2.1)
open Go.RowKit
def AY:iP Tc Tc.dn:=⟨50,[.ty .jN],fun x=>((x.1.length:Nat):Int)*8<=140737488355328, .aA,fun x=>x.1⟩
theorem FQ:AY.Ok Try.prog tD:=⟨⟨Ss,fun _=>rfl⟩,fun x N hp=>Lv (sz:=1) (by_:=8) Sr (tD.ea N.ρ .aA) (fun y=>cP.pu1 N .aA y rfl) (by decide) rfl x.1 hp⟩
def AZ:iP Tc Tc.dn:=⟨52,[.ty .qC],fun x=>((x.1.length:Nat):Int)*24<=140737488355328, .eU,fun x=>x.1⟩
theorem FR:AZ.Ok Try.prog tD:=⟨⟨Sv,fun _=>rfl⟩,fun x N hp=>Lv (sz:=2) (by_:=24) Su (tD.ea N.ρ .eU) (fun y=>cP.pu1 N .eU y rfl) (by decide) rfl x.1 hp⟩
abbrev dg:Type:=List (Nat×List Piece)
theorem fy {α:Type} {d:α} {l:List α} {x:α} (hi:i<l.length):gd d (l.set i x) j=if i=j then x else gd d l j:=tV hi
structure db (L:List Shelf) (i:Int) (K:List az) (A:dg):Prop where
 lo:0<=i
 hi:i<=L.length
 len:K.length=L.length
 up:∀j,j<L.length->(gd (⟨false,Row.no Piece⟩:az) K j).up=(gd (⟨false,[]⟩:Shelf) L j).up
 own:∀j,j<i.toNat->(gd (⟨false,Row.no Piece⟩:az) K j).pieces.bD A/\bj A (gd (⟨false,Row.no Piece⟩:az) K j).pieces.id=(gd (⟨false,[]⟩:Shelf) L j).pieces
 fix:∀j,i.toNat<=j->j<L.length->(gd (⟨false,Row.no Piece⟩:az) K j).pieces=Row.fix Piece (gd (⟨false,[]⟩:Shelf) L j).pieces
 inj:∀j k,j<i.toNat->k<i.toNat->(gd (⟨false,Row.no Piece⟩:az) K j).pieces.id=(gd (⟨false,Row.no Piece⟩:az) K k).pieces.id->j=k
theorem db.start {L:List Shelf}:db L 0 (L.map fun x=>(⟨x.up,Row.fix Piece x.pieces⟩:az)) []:=by
 have e:∀j,j<L.length->gd (⟨false,Row.no Piece⟩:az) (L.map fun x=>(⟨x.up,Row.fix Piece x.pieces⟩:az)) j=⟨(gd (⟨false,[]⟩:Shelf) L j).up,Row.fix Piece (gd (⟨false,[]⟩:Shelf) L j).pieces⟩:=fun j hj=>by
  unfold gd;rw [ac5,acT hj];rfl
 exact ⟨by omega,by omega,by simp,fun j hj=>by rw [e j hj],fun j hj=>by simp at hj,fun j _ hj=>by rw [e j hj],fun j k hj=>by simp at hj⟩
theorem db.cur {L:List Shelf} {i:Int} {K:List az} {A:dg} (h:db L i K A) (hi:i<L.length):(gd (⟨false,Row.no Piece⟩:az) K i.toNat).pieces=Row.fix Piece (gd (⟨false,[]⟩:Shelf) L i.toNat).pieces:=h.fix _ (acV _) (by have:=h.lo;omega)
theorem db.step {L:List Shelf} {i:Int} {K:List az} {A:dg} {id:Nat} {b:Bool} (h:db L i K A) (hi:i<L.length) (hid:¬cv A id) (hb:b=(gd (⟨false,Row.no Piece⟩:az) K i.toNat).up):db L (i+1) (K.set i.toNat ⟨b,Row.at Piece id (gd (⟨false,[]⟩:Shelf) L i.toNat).pieces.length⟩) ((id,(gd (⟨false,[]⟩:Shelf) L i.toNat).pieces)::A):=by
 have h0:=h.lo;have hl:=h.len
 have k9:i.toNat<K.length:=by omega
 have aZ:∀j,j<i.toNat->(gd (⟨false,Row.no Piece⟩:az) K j).pieces.id≠id:=fun j hj e=>hid (e▸(h.own j hj).1.2.1)
 refine ⟨by omega,by omega,by rw [ada];exact hl,fun j hj=> ?_,fun j hj=> ?_,fun j h1 hj=> ?_,fun j k hj hk he=> ?_⟩
 ·rw [fy k9]
  split
  ·rename_i e;rw [hb, <-e];exact h.up _ (by omega)
  ·exact h.up j hj
 ·rw [fy k9]
  split
  ·rename_i e;subst e
   refine ⟨⟨rfl,jd.2 (.inl rfl), ?_⟩, ?_⟩
   ·show (bj _ id).length=_;rw [gj,acN rfl];rfl
   ·show bj _ id=_;rw [gj,acN rfl]
  ·rename_i e
   have fP:j<i.toNat:=by omega
   obtain ⟨q1,q2⟩:=h.own j fP
   have aJ:=aZ j fP
   exact ⟨⟨q1.1,jd.2 (.inr q1.2.1),by rw [gj,acL aJ];exact q1.2.2⟩,by rw [gj,acL aJ];exact q2⟩
 ·rw [fy k9,acL (by omega)];exact h.fix j (by omega) hj
 ·rw [fy k9,fy k9] at he
  by_cases e1:i.toNat=j<;>by_cases e2:i.toNat=k
  ·omega
  ·rw [acN e1,acL e2] at he
   exact absurd he.symm (aZ k (by omega))
  ·rw [acL e1,acN e2] at he
   exact absurd he (aZ j (by omega))
  ·rw [acL e1,acL e2] at he
   exact h.inj j k (by omega) (by omega) he
structure lf (L:List Shelf) (K:List az) (A:dg):Prop where
 len:K.length=L.length
 up:∀j,j<L.length->(gd (⟨false,Row.no Piece⟩:az) K j).up=(gd (⟨false,[]⟩:Shelf) L j).up
 own:∀j,j<L.length->(gd (⟨false,Row.no Piece⟩:az) K j).pieces.bD A/\bj A (gd (⟨false,Row.no Piece⟩:az) K j).pieces.id=(gd (⟨false,[]⟩:Shelf) L j).pieces
 inj:∀j k,j<L.length->k<L.length->(gd (⟨false,Row.no Piece⟩:az) K j).pieces.id=(gd (⟨false,Row.no Piece⟩:az) K k).pieces.id->j=k
theorem db.fin {L:List Shelf} {i:Int} {K:List az} {A:dg} (h:db L i K A) (hi:L.length<=i):lf L K A:=by
 have hh:=h.hi
 exact ⟨h.len,h.up,fun j hj=>h.own j (by omega),fun j k hj hk=>h.inj j k (by omega) (by omega)⟩
theorem A7 {A:dg} {r:Row Piece} (h:r.bD A):r.get A=bj A r.id:=by unfold Row.get;rw [h.1]
theorem lf.view {L:List Shelf} {K:List az} {A:dg} (h:lf L K A):(∀x:az,x∈K->x.pieces.ok A/\x.pieces.kd≠RK.nil)/\List.map (fun x:az=>(⟨x.up,x.pieces.get A⟩:Shelf)) K=L:=by
 refine ⟨XO (d:=(⟨false,Row.no Piece⟩:az)) fun j hj=> ?_, ?_⟩
 ·obtain ⟨q1,q2⟩:=h.own j (by rw [<-h.len];exact hj)
  exact ⟨Row.bD.ok q1,by rw [q1.1];simp⟩
 ·refine aeh (by simp [h.len]) fun j h1 h2=> ?_
  simp at h1
  obtain ⟨q1,q2⟩:=h.own j h2
  have u:=h.up j h2
  have e1:gd (⟨false,Row.no Piece⟩:az) K j=K[j]:=by unfold gd;rw [acT h1];rfl
  have e2:gd (⟨false,[]⟩:Shelf) L j=L[j]:=by unfold gd;rw [acT h2];rfl
  rw [e1] at q1 q2 u
  rw [e2] at q2 u
  rw [List.getElem_map,A7 q1,q2,u]
theorem db.done {v:ah} {i:Int} {K:List az} {A:dg} (h:db v.nodes i K A) (hi:v.nodes.length<=i):(∀x:az,x∈K->True/\x.pieces.ok A/\x.pieces.kd≠RK.nil)/\(⟨v.layout,v.size,v.versions,List.map (fun x:az=>(⟨x.up,x.pieces.get A⟩:Shelf)) K⟩:ah)=v:=by
 obtain ⟨e1,e2⟩:=(h.fin hi).view
 exact ⟨fun x hx=>⟨trivial,e1 x hx⟩,by rw [e2]⟩
theorem db.rw {v:ah} (k:v.K) {i:Int} {K:List az} {A:dg} (h:db v.nodes i K A) (hi:i<v.nodes.length):(gd (⟨false,Row.no Piece⟩:az) K i.toNat).pieces.ok A/\(gd (⟨false,Row.no Piece⟩:az) K i.toNat).pieces.kd≠RK.nil/\(gd (⟨false,Row.no Piece⟩:az) K i.toNat).pieces.get A=(gd (⟨false,[]⟩:Shelf) v.nodes i.toNat).pieces/\(gd (⟨false,[]⟩:Shelf) v.nodes i.toNat).pieces.length<=64:=by
 rw [h.cur hi]
 exact ⟨trivial,(by intro e;cases e),rfl,by rw [k.pre.shl h.lo hi];exact k.str.2⟩
theorem ah.K.bd {v:ah} (k:v.K):v.nodes≠[]/\v.nodes.length<=12/\1<=v.nodes.length/\v.versions.length<=64/\1<=v.versions.length:=by
 have h1:=k.l8;have h2:=k.lay.n;have h3:=k.str
 refine ⟨fun e=> ?_,by omega,by omega,h3.2,h3.1⟩
 rw [e] at h1;simp at h1;omega
def ck (v:ah) (n:Int) (up:Bool):ah:=⟨v.layout,v.size,v.versions,v.nodes.set n.toNat ⟨up,(gd (⟨false,[]⟩:Shelf) v.nodes n.toNat).pieces⟩⟩
def bm (v:ah) (n:Int) (up:Bool):ah×Int:=if ¬bN v=0 then (⟨⟨0,0,0,0⟩,0,[],[]⟩,bN v) else if ¬(0<=n/\n<=v.nodes.length - 1) then (⟨⟨0,0,0,0⟩,0,[],[]⟩,3) else (ck v n up,0)
theorem lf.set {L:List Shelf} {K:List az} {A:dg} (h:lf L K A) {n:Nat} (hn:n<L.length) {up:Bool} {r:Row Piece} (hr:r=(gd (⟨false,Row.no Piece⟩:az) K n).pieces):lf (L.set n ⟨up,(gd (⟨false,[]⟩:Shelf) L n).pieces⟩) (K.set n ⟨up,r⟩) A:=by
 have hk:n<K.length:=by rw [h.len];exact hn
 have p1:∀j,(gd (⟨false,Row.no Piece⟩:az) (K.set n ⟨up,r⟩) j).pieces=(gd (⟨false,Row.no Piece⟩:az) K j).pieces:=fun j=>by
  rw [fy hk]
  split
  ·rename_i e;rw [<-e,hr]
  ·rfl
 have p2:∀j,(gd (⟨false,[]⟩:Shelf) (L.set n ⟨up,(gd (⟨false,[]⟩:Shelf) L n).pieces⟩) j).pieces=(gd (⟨false,[]⟩:Shelf) L j).pieces:=fun j=>by
  rw [fy hn]
  split
  ·rename_i e;rw [<-e]
  ·rfl
 refine ⟨by simp [h.len],fun j hj=> ?_,fun j hj=> ?_,fun j k hj l6 he=> ?_⟩
 ·rw [ada] at hj
  rw [fy hk,fy hn]
  split
  ·rfl
  ·exact h.up j hj
 ·rw [ada] at hj
  rw [p1,p2];exact h.own j hj
 ·rw [ada] at hj l6
  rw [p1,p1] at he
  exact h.inj j k hj l6 he
theorem aaw {v:ah} {i n:Int} {K:List az} {A:dg} {up:Bool} {r:Row Piece} (h:db v.nodes i K A) (hi:v.nodes.length<=i) (h0:0<=n) (h1:n<=v.nodes.length - 1) (hr:r=(gd (⟨false,Row.no Piece⟩:az) K n.toNat).pieces):(∀x:az,x∈K.set n.toNat ⟨up,r⟩->True/\x.pieces.ok A/\x.pieces.kd≠RK.nil)/\(⟨v.layout,v.size,v.versions,List.map (fun x:az=>(⟨x.up,x.pieces.get A⟩:Shelf)) (K.set n.toNat ⟨up,r⟩)⟩:ah)=ck v n up:=by
 obtain ⟨e1,e2⟩:=((h.fin hi).set (n:=n.toNat) (by omega) hr).view
 exact ⟨fun x hx=>⟨trivial,e1 x hx⟩,by rw [e2];rfl⟩
def A8 (v:ah) (i:Int) (K:(List az)) (A:(List (Nat×List Piece))):Prop:=db v.nodes i K A
theorem acz (v:ah) (hp:v.K):(↑v.versions.length:Int)*(8:Int)<=(140737488355328:Int)/\v.nodes≠[]/\((0:Nat)+v.nodes.length)*(32:Nat)<=(140737488355328:Nat)/\A8 v (0:Int) (List.map (fun x=>az.mk x.up (Row.fix Piece x.pieces)) ([]++v.nodes)) []/\∀(x:Int) (af:List az) (aD:List (Nat×List Piece)),A8 v x af aD->(x<(↑([]++v.nodes).length:Int)->((0:Int)<=x/\x<(↑af.length:Int))/\x.toNat<af.length/\(gd (az.mk false (Row.no Piece)) af x.toNat).pieces.ok aD/\(gd (az.mk false (Row.no Piece)) af x.toNat).pieces.kd≠RK.nil/\(↑((gd (az.mk false (Row.no Piece)) af x.toNat).pieces.get aD).length:Int)*(24:Int)<=(140737488355328:Int)/\((0:Int)<=x/\x<(↑af.length:Int))/\∀(id:Nat),¬cv aD id->x.toNat<af.length/\aE (x+(1:Int))/\A8 v (x+(1:Int)) (af.set x.toNat (az.mk (gd (az.mk false (Row.no Piece)) af x.toNat).up (Row.at Piece id ((gd (az.mk false (Row.no Piece)) af x.toNat).pieces.get aD).length))) ((id,(gd (az.mk false (Row.no Piece)) af x.toNat).pieces.get aD)::aD)/\((↑v.nodes.length:Int) - (x+(1:Int))).toNat<((↑v.nodes.length:Int) - x).toNat)/\((↑([]++v.nodes).length:Int)<=x->(∀(x:az),x∈af->True/\x.pieces.ok aD/\x.pieces.kd≠RK.nil)/\ah.mk v.layout v.size v.versions (List.map (fun x=>Shelf.mk x.up (x.pieces.get aD)) af)=v):=by
 have a1:= @db.start v.nodes
 have a2:= @db.rw v
 have a3:= @db.step v.nodes
 have a4:= @db.done v
 have a5:= @db.lo v.nodes
 have a6:= @db.len v.nodes
 have a7:= @ah.K.bd v
 have a8:= @qG
 (repeat' (first|apply And.intro|intro _))<;>first|assumption|trivial|omega|(grind [A8,aE])|trace_state
def xr (v:ah) (i:Int) (K:(List az)) (A:(List (Nat×List Piece))):Prop:=db v.nodes i K A
def xu:bk Tc Tc.dn:=⟨14,[.ty .eV, .ty .aA, .ty .ed],fun x=>(fun (v:ah) (n:Int) (up:Bool)=>True) x.1 x.2.1 x.2.2.1,[.eV, .aA],fun x=>(fun (v:ah) (n:Int) (up:Bool)=>bm v n up) x.1 x.2.1 x.2.2.1⟩
theorem aax (v:ah) (n:Int) (up:Bool):True/\(¬bN v=(0:Int)->(ah.mk (aO.mk (0:Int) (0:Int) (0:Int) (0:Int)) (0:Int) [] [],bN v)=bm v n up)/\(bN v=(0:Int)->aE ((↑v.nodes.length:Int) - (1:Int))/\True/\(decide ((0:Int)<=n/\n<=(↑v.nodes.length:Int) - (1:Int))= !true->(ah.mk (aO.mk (0:Int) (0:Int) (0:Int) (0:Int)) (0:Int) [] [],(3:Int))=bm v n up)/\(decide ((0:Int)<=n/\n<=(↑v.nodes.length:Int) - (1:Int))= !false->(↑v.versions.length:Int)*(8:Int)<=(140737488355328:Int)/\v.nodes≠[]/\((0:Nat)+v.nodes.length)*(32:Nat)<=(140737488355328:Nat)/\xr v (0:Int) (List.map (fun x=>az.mk x.up (Row.fix Piece x.pieces)) ([]++v.nodes)) []/\∀(x:Int) (af:List az) (aD:List (Nat×List Piece)),xr v x af aD->(x<(↑([]++v.nodes).length:Int)->((0:Int)<=x/\x<(↑af.length:Int))/\x.toNat<af.length/\(gd (az.mk false (Row.no Piece)) af x.toNat).pieces.ok aD/\(gd (az.mk false (Row.no Piece)) af x.toNat).pieces.kd≠RK.nil/\(↑((gd (az.mk false (Row.no Piece)) af x.toNat).pieces.get aD).length:Int)*(24:Int)<=(140737488355328:Int)/\((0:Int)<=x/\x<(↑af.length:Int))/\∀(id:Nat),¬cv aD id->x.toNat<af.length/\aE (x+(1:Int))/\xr v (x+(1:Int)) (af.set x.toNat (az.mk (gd (az.mk false (Row.no Piece)) af x.toNat).up (Row.at Piece id ((gd (az.mk false (Row.no Piece)) af x.toNat).pieces.get aD).length))) ((id,(gd (az.mk false (Row.no Piece)) af x.toNat).pieces.get aD)::aD)/\((↑v.nodes.length:Int) - (x+(1:Int))).toNat<((↑v.nodes.length:Int) - x).toNat)/\((↑([]++v.nodes).length:Int)<=x->((0:Int)<=n/\n<(↑af.length:Int))/\n.toNat<af.length/\(∀(x:az),x∈af.set n.toNat (az.mk up (gd (az.mk false (Row.no Piece)) af n.toNat).pieces)->True/\x.pieces.ok aD/\x.pieces.kd≠RK.nil)/\(ah.mk v.layout v.size v.versions (List.map (fun x=>Shelf.mk x.up (x.pieces.get aD)) (af.set n.toNat (az.mk up (gd (az.mk false (Row.no Piece)) af n.toNat).pieces))),(0:Int))=bm v n up))):=by
 have a1:= @db.start v.nodes
 have a2:= @db.rw v
 have a3:= @db.step v.nodes
 have a4:= @db.done v
 have a5:= @db.lo v.nodes
 have a6:= @db.len v.nodes
 have a7:= @ah.K.bd v
 have a8:= @qG
 have b1:= @nQ v
 have b2:= @aaw v
 have e1:¬bN v=0->bm v n up=(⟨⟨0,0,0,0⟩,0,[],[]⟩,bN v):=fun h=>by unfold bm;rw [acN h]
 have e2:bN v=0->¬(0<=n/\n<=v.nodes.length - 1)->bm v n up=(⟨⟨0,0,0,0⟩,0,[],[]⟩,3):=fun h h2=>by unfold bm;rw [acL (by simp [h]),acN h2]
 have e3:bN v=0->0<=n->n<=v.nodes.length - 1->bm v n up=(ck v n up,0):=fun h h2 h3=>by unfold bm;rw [acL (by simp [h]),acL (by omega)]
 (try simp only [ady,adE,adh,ac9])
 (repeat' (first|apply And.intro|intro _))<;>first|assumption|trivial|omega|(grind [xr,aE])|trace_state
noncomputable def Mn:PD Tc.dn xu.ps->List (IL Tc Tc.dn):=fun x=>(fun (v:ah) (n:Int) (up:Bool)=>([⟨39, .fn CM (fun _=>none),none⟩,⟨21, .fn yB (fun k=>bif Nat.beq k 0 then some (.inv [.sl 15 .aA, .bl 10 .gM, .ar .eU] (fun zo zv=>(fun (i:Int) (K:(List az)) (A:(List (Nat×List Piece)))=>xr v i K A) zv.1 zv.2.1 zv.2.2.1) (fun zo zv=>(fun (i:Int) (K:(List az)) (A:(List (Nat×List Piece)))=>((v.nodes.length:Int) - i).toNat) zv.1 zv.2.1 zv.2.2.1)) else none),none⟩,⟨51, .fn yC (fun _=>none),none⟩,⟨40, .fn H7 (fun _=>none),none⟩])) x.1 x.2.1 x.2.2.1
theorem aay:∀x,nL Try.prog tD (Mn x):=fun _=>⟨⟨H5,H6⟩,⟨CK,CL⟩,⟨CN,CO⟩,⟨RY,RZ⟩,trivial⟩
theorem Mo:xu.Ok Try.prog tD:=bO cP (Δ:=[qL,nR]) ⟨tW,qI,trivial⟩ (Ω:=[AY,AZ]) ⟨FQ,FR,trivial⟩ xu QT QU (Mn) (aay) 3 (fun x=>(fun (v:ah) (n:Int) (up:Bool)=>(fun _=>none)) x.1 x.2.1 x.2.2.1) fun x hp=>Eq.mp (by kernel_rfl) (aax x.1 x.2.1 x.2.2.1)
open Go.RowKit
theorem aaz {f:FuncId} {as_:List AV} {sz:Nat} {els:List (List AV)} {g':Nat->Option Bk} {k' id:Nat} (hz:sz≠0) (uO:∀cs,cs∈els->∀c,c∈cs->c.dY=true) (h:Fi P f as_ (fun _=>none) 0 (.own id sz 0 els.length) g' k') (hg:g' id=some ⟨sz,els⟩):Fo P f as_ sz els:=by
 intro w J vs hJ hG dd
 have hm:aS (E0 w J) J w.heap.size (fun _=>none):=⟨fun id=>by simp [E0],fun id B hg=>by simp at hg,fun id dc b B B' hg=>by simp at hg,fun id b B hg=>by simp at hg,fun b hb=>⟨hJ b hb, .inl hb⟩,acV _,fun id B hg=>by simp at hg,fun _ h=>h.elim,fun _ h=>h.elim⟩
 refine (h (E0 w J) J w.heap.size vs hG hm (fun id hid=>hid.elim) dd).mono ?_
 rintro e w' ⟨v,E',he,hw,hle,hr,hM,hb,hk⟩
 obtain ⟨k1,k2⟩:=(hM.live id).2 ⟨_,hg⟩
 have cH:=hM.at_ id _ hg
 have bG:=(hM.len id _ hg (hr.sC k2)).symm
 let E1:Env:={ w:=E'.w,kn:=fun j=>j=0,loc:=fun _=>E'.loc id,dead:=fun _=>False,I:=E'.I,ln:=fun _=>E'.ln id,rg:=E'.rg,X:=E'.X }
 refine ⟨v,E1,he,hw,hb, ?_,rfl,fun h=>h, ?_,bG⟩
 ·obtain ⟨n,hn⟩:∃n,n=els.length:=⟨_,rfl⟩
  rw [<-hn] at hr ⊢
  cases hr with
  |own hi hd hl hq hs dM ux hcc rk=>exact .own rfl (fun h=>h) hl hq hs dM ux hcc rk
  |cG hi hd hl rk=>exact .cG rfl (fun h=>h) hl rk
  |dj hi hd=>exact absurd hd k2
 ·show dB E1 w.heap.size ⟨sz,els⟩ (E'.loc id)
  cases hl:E'.loc id with
  |none=>rw [hl] at cH;exact cH
  |some b=>
   rw [hl] at cH
   obtain ⟨q1,arr,t,q2,q3,q4⟩:=cH.cells hz
   refine .lx ⟨q1,arr,t,q2,q3,fun i cs hi=>⟨(q4 i cs hi).1,fun j x hj=> ?_⟩⟩ hz
   obtain ⟨u,u1,u2,u3⟩:=(q4 i cs hi).2 j x hj
   exact ⟨u,u1,u2,u3.dY (uO cs (adm hi) x (adm hj))⟩
section
variable {τ:Type} {dn:τ->Type} [DecidableEq τ]
def FT (C:cO τ dn) (F:ba) (an:Nat->Option (LA τ dn)) (vs:List (SV τ dn)) (t:τ) (r:List (dn t)):Prop:=
 bif Nat.ble vs.length F.n&&Nat.beq C.fl 0 then gJ C F.n an F.code 0 (fS C.D vs) fun e st=>match e with
  | .exit _=>False
  |_=>match kW C.D st F.res with
   |some (O,[.own nm sz])=>bif Nat.beq sz (C.D.sz t)&& !Nat.beq sz 0 then (match mN C.D st nm t with
    |some xs=>gY O (xs=r)
    |none=>False) else False
   |_=>False
 else False
theorem aaA {C:cO τ dn} (hC:C.Ok) {f:FuncId} (hF:cFunc C.P f=some F) {an:Nat->Option (LA τ dn)} {vs:List (SV τ dn)} {t:τ} {r:List (dn t)} (N:aK) (fO:SV.cY (fun _=>false) vs=true) (sS:∀x:dn t,(C.D.ea N.ρ t x).all AV.dY=true) (h:FT C F an vs t r):Fo C.P f (vs.map (SV.av C.D.toTE N)) (C.D.sz t) (r.map (C.D.ea N.ρ t)):=by
 unfold FT at h
 cases hb:(Nat.ble vs.length F.n&&Nat.beq C.fl 0) with
 |false=>rw [hb] at h;exact h.elim
 |true=>
 rw [hb,acR] at h
 rw [acO] at hb
 obtain ⟨hb,hz⟩:=hb
 have hz:=ac0 hz
 have hl:vs.length<=F.n:=adC hb
 have cW:∀(N':aK),N'.ρ=N.ρ->∀i v,getS (l0 vs 0) i=some v->dD (vs.map (SV.av C.D.toTE N)) i=v.av C.D.toTE N':=fun N' gF i v hv=>by
  obtain ⟨_,h2⟩:=Af hv
  rw [Nat.sub_zero] at h2
  have hs:N.same (fun _=>false) N':=⟨fun a ha=>by simp at ha,gF⟩
  have hm:∀(l:List (SV τ dn)) (j:Nat) w,SV.cY (fun _=>false) l=true->l[j]? =some w->w.fr (fun _=>false)=true:=by
   intro l
   induction l with
   |nil=>intro j w _ hw;simp at hw
   |cons a l ih=>
    intro j w hl hw
    simp only [SV.cY,acO] at hl
    cases j with
    |zero=>simp only [ado,acM] at hw;subst hw;exact hl.1
    |succ j=>exact ih j w hl.2 (by simpa using hw)
  unfold dD
  rw [ac5,h2]
  exact (rX hs v (hm vs i v fO h2)).symm
 have R0:∃s0 N0,S3.Le 0 F.n ⟨dD (vs.map (SV.av C.D.toTE N)),fun _=>none,0⟩ s0/\Rel C.D N0 (fS C.D vs) s0/\N0.ρ=N.ρ:=by
  unfold fS
  split
  ·refine ⟨_,N,S3.Le.nG,⟨fun N' hN=>⟨fun i v hv=>cW N' hN.2 i v hv,fun i v hv=>by simp [getS] at hv,fun nm B hB=>by simp [getS] at hB,fun nm B hB=>by simp [getS] at hB,fun t A h=>by rcases h with h|h<;>simp [getS] at h⟩,fun a b ha=>absurd ha (Nat.not_lt_zero _),fun a ha=>absurd ha (Nat.not_lt_zero _),fun nm B hB=>by simp [getS] at hB,fun nm B hB=>by simp [getS] at hB,fun t A h=>by rcases h with h|h<;>simp [getS] at h⟩,rfl⟩
  ·rename_i t _
   have wA:∀t' A,(⟨[],[],l0 vs 0,[(0,some (.ar t []))],1⟩:SS τ dn).bV 0 (.ar t' A)->∀id,¬cv A id:=fun t' A h id=>by
    rcases h with h|h
    ·simp only [bE,acP,acM,SB.ar.injEq] at h
     obtain ⟨rfl,h⟩:=h
     have h:=eq_of_heq h
     subst h;exact C8
    ·simp [getS] at h
   refine ⟨_,⟨fun _=>0,fun _=>0,N.ρ⟩,S3.KB (C.D.sz t),⟨fun N' hN=>⟨fun i v hv=>cW N' hN.2 i v hv,fun i v hv=>by simp [getS] at hv,fun nm B hB=> ?_,fun nm B hB=>by simp [getS] at hB,fun t' A h id hid=>absurd hid (wA t' A h id)⟩,fun a b ha hb _=> ?_,fun a ha=> ?_,fun nm B hB=> ?_,fun nm B hB=>by simp [getS] at hB,fun t' A h id hid=>absurd hid (wA t' A h id)⟩,rfl⟩
   ·have aX:getS [(0,some (SB.ar t ([]:List (Nat×List (dn t)))))] nm=some (some B):=hB
    rw [bE] at aX
    by_cases hn:nm=0
    ·subst hn
     simp only [acP,acM] at aX
     subst aX
     have e:=hN.1 0 (adL 0)
     refine ⟨?_,e.2⟩
     show aH _ _ (N'.ι 0)=_
     rw [e.1];rfl
    ·rw [acL hn] at aX;simp [getS] at aX
   ·have:a<1:=ha
    have:b<1:=hb
    omega
   ·exact adL 0
   ·have aX:getS [(0,some (SB.ar t ([]:List (Nat×List (dn t)))))] nm=some B:=hB
    rw [bE] at aX
    by_cases hn:nm=0
    ·subst hn;exact adL 0
    ·rw [acL hn] at aX;simp [getS] at aX
 obtain ⟨s0,N0,w0,R0,aaB⟩:=R0
 obtain ⟨e,s',N',aw,e1,R1,_,_,⟨r3,_⟩,hk⟩:=l5 hC (n:=F.n) (k0:=0) F.code 0 R0 (by rw [hz];exact Nat.zero_le _) h
 have e1:=ED.kN w0 e1
 have gF:N'.ρ=N.ρ:=r3.2.trans aaB
 have l6:(e= .normal\/e= .ret)/\(match kW C.D aw F.res with
   |some (O,[.own nm sz])=>bif Nat.beq sz (C.D.sz t)&& !Nat.beq sz 0 then (match mN C.D aw nm t with
    |some xs=>gY O (xs=r)
    |none=>False) else False
   |_=>False):=by
  cases e with
  |normal=>exact ⟨.inl rfl,hk⟩
  |ret=>exact ⟨.inr rfl,hk⟩
  |exit i=>exact hk.elim
 clear hk
 obtain ⟨he,hk⟩:=l6
 split at hk
 case h_2=>exact hk.elim
 rename_i O nm sz hr
 cases hs:(Nat.beq sz (C.D.sz t)&& !Nat.beq sz 0) with
 |false=>rw [hs] at hk;exact hk.elim
 |true=>
 rw [hs,acR] at hk
 rw [acO] at hs
 have s6:=ac0 hs.1
 have ES:C.D.sz t≠0:=fun h=>by
  have:=hs.2
  rw [s6,h] at this
  simp at this
 split at hk
 case h_2=>exact hk.elim
 rename_i xs hx
 rw [lT] at hk
 obtain ⟨hO,rfl⟩:=hk
 have q1:=wz hC.ok R1.here hr hO
 obtain ⟨g1,g2⟩:=tq hC.ok R1.here hx
 have q3:(gT s'.σ F.res).run s'.g=some (.own (N'.ι nm) (C.D.sz t) 0 (xs.map (C.D.ea N.ρ t)).length):=by
  unfold gT
  rw [eM q1,ac4, <-g2, <-s6];rfl
 refine aaz (id:=N'.ι nm) (g':=s'.g) (k':=s'.k) ES ?_ (Ck hF (by rw [ac4];exact hl) ?_) (by rw [g1,gF])
 ·intro cs hcs c hc
  obtain ⟨y,_,rfl⟩:=ade.1 hcs
  exact acQ.1 (sS y) c hc
 ·refine EW.kg e1 fun x y hy=> ?_
  obtain ⟨rfl,rfl⟩:=hy
  exact ⟨he,y,S3.Le.nG,q3,rfl,rfl⟩
theorem aaC {D:TD τ dn} (ok:bC D) {Δ:List (bk τ dn)} (se:Cons P D Δ) {Ω:List (iP τ dn)} (sf:wD P D Ω) (c:iP τ dn) (hF:cFunc P c.f=some F) (hc:aY P c.f=true) (hn:∀x:dn c.t,(D.es c.t x).all (fun v=>v.zq)=true) (il:PD dn c.ps->List (IL τ dn)) (cQ:∀x,nL P D (il x)) (d:Nat) (an:PD dn c.ps->Nat->Option (LA τ dn)) (h:∀x,c.pre x->FT ⟨P,D,Δ,Ω,0,wE P D Δ Ω (il x) d,false⟩ F (an x) (kV D c.ps x) c.t (c.res x)):c.Ok P D:=
 ⟨⟨hc,hn⟩,fun x N hp=>aaA (Eu ok se sf (cQ x) d 0) hF N (wB ok c.ps x) (fun y=>by
  rw [<-ok.dy N]
  refine acQ.2 fun v hv=> ?_
  obtain ⟨u,hu,rfl⟩:=ade.1 hv
  exact Jp (acQ.1 (hn y) u hu)) (h x hp)⟩
end
open Go.RowKit
def xv (by_:(List (List UInt8))) (pieces:(List ByteArray)) (j0:Int) (k0:Int) (i0:Int) (b0:(List UInt8)) (j:Int) (k:Int) (i:Int) (b:(List UInt8)):Prop:=i=i0/\k=k0/\b.length=b0.length/\gu by_ pieces i k j b
def xw (by_:(List (List UInt8))) (pieces:(List ByteArray)) (k0:Int) (i0:Int) (b0:(List UInt8)) (k:Int) (i:Int) (b:(List UInt8)):Prop:=i=i0/\jQ by_ pieces i k b
def xx (by_:(List (List UInt8))) (pieces:(List ByteArray)) (i:Int) (out:(List ByteArray)):Prop:=gr by_ pieces i out
def FU:iP Tc Tc.dn:=⟨48,[.ty .iz, .ty .jl],fun x=>(fun (by_:(List (List UInt8))) (pieces:(List ByteArray))=>iA by_ pieces) x.1 x.2.1, .gL,fun x=>(fun (by_:(List (List UInt8))) (pieces:(List ByteArray))=>bP by_ pieces) x.1 x.2.1⟩
abbrev pF (pieces:(List ByteArray)):=(↑(gd ByteArray.empty pieces (Int.toNat (0:Int))).size:Int)
theorem aaD (by_:(List (List UInt8))) (pieces:(List ByteArray)) (hp:iA by_ pieces):((0:Int)<=(↑by_.length:Int)/\(↑by_.length:Int)<=(↑by_.length:Int)/\(↑by_.length:Int)*(↑(16:Nat):Int)<=(140737488355328:Int))/\xx by_ pieces (0:Int) (List.replicate (↑by_.length:Int).toNat (ByteArray.mk #[]))/\∀(x:Int) (af:List ByteArray),xx by_ pieces x af->(x<(↑by_.length:Int)->((0:Int)<=x/\x<(↑by_.length:Int))/\((0:Int)<=(0:Int)/\(0:Int)<(↑pieces.length:Int))/\((0:Int)<=(pF pieces)/\(pF pieces)<=(pF pieces)/\(pF pieces)*(↑(1:Nat):Int)<=(140737488355328:Int))/\xw by_ pieces (0:Int) x (List.replicate (pF pieces).toNat (UInt8.ofNat (Int.toNat (0:Int)))) (0:Int) x (List.replicate (pF pieces).toNat (UInt8.ofNat (Int.toNat (0:Int))))/\∀(aD ae:Int) (aB:List UInt8),xw by_ pieces (0:Int) x (List.replicate (pF pieces).toNat (UInt8.ofNat (Int.toNat (0:Int)))) aD ae aB->(aD<(↑pieces.length:Int)->((0:Int)<=aD/\aD<(↑pieces.length:Int))/\xv by_ pieces (0:Int) aD ae aB (0:Int) aD ae aB/\∀(aF aU aC:Int) (bp:List UInt8),xv by_ pieces (0:Int) aD ae aB aF aU aC bp->(aF<(↑aB.length:Int)->((0:Int)<=aF/\aF<(↑bp.length:Int))/\aF.toNat<bp.length/\((0:Int)<=aD/\aD<(↑(gd [] by_ x.toNat).length:Int))/\((0:Int)<=aF/\aF<(↑(gd ByteArray.empty pieces aD.toNat).size:Int))/\True/\((0:Int)<=aF/\aF<(↑bp.length:Int))/\aF.toNat<bp.length/\aE (aF+(1:Int))/\xv by_ pieces (0:Int) aD ae aB (aF+(1:Int)) aU aC (bp.set aF.toNat (gd (0:UInt8) bp aF.toNat^^^aW (gd (0:UInt8) (gd [] by_ x.toNat) aD.toNat) (gb (gd ByteArray.empty pieces aD.toNat) aF.toNat)))/\((↑(bp.set aF.toNat (gd (0:UInt8) bp aF.toNat^^^aW (gd (0:UInt8) (gd [] by_ x.toNat) aD.toNat) (gb (gd ByteArray.empty pieces aD.toNat) aF.toNat))).length:Int) - (aF+(1:Int))).toNat<((↑bp.length:Int) - aF).toNat)/\((↑aB.length:Int)<=aF->aE (aU+(1:Int))/\xw by_ pieces (0:Int) x (List.replicate (pF pieces).toNat (UInt8.ofNat (Int.toNat (0:Int)))) (aU+(1:Int)) aC bp/\((↑pieces.length:Int) - (aU+(1:Int))).toNat<((↑pieces.length:Int) - aD).toNat))/\((↑pieces.length:Int)<=aD->((0:Int)<=x/\x<(↑af.length:Int))/\x.toNat<af.length/\aE (ae+(1:Int))/\xx by_ pieces (ae+(1:Int)) (af.set x.toNat (ByteArray.mk (List.map id aB).toArray))/\((↑by_.length:Int) - (ae+(1:Int))).toNat<((↑by_.length:Int) - x).toNat))/\((↑by_.length:Int)<=x->af=bP by_ pieces):=by
 delta pF
 have p0:=hp.p0
 have p1:=hp.p1
 have p2:=hp.b1
 have p3:=hp.s0
 have p4:=fun i=>iA.row (i:=i) hp
 have p5:=fun k=>iA.str (k:=k) hp
 have a1:= @gr.start by_ pieces ByteArray.empty
 have a2:= @jQ.start by_ pieces
 have a3:= @gu.start by_ pieces
 have a4:= @gu.step by_ pieces
 have a5:= @gu.fin by_ pieces
 have a6:= @gr.step by_ pieces
 have a7:= @gr.fin by_ pieces
 have b1:= @gr.lo by_ pieces
 have b2:= @gr.hi by_ pieces
 have b3:= @gr.len by_ pieces
 have c1:= @jQ.lo by_ pieces
 have c2:= @jQ.hi by_ pieces
 have c3:= @jQ.len by_ pieces
 have d1:= @gu.lo by_ pieces
 have d2:= @gu.hi by_ pieces
 have d3:= @gu.len by_ pieces
 (repeat' (first|apply And.intro|intro _))<;>first|assumption|trivial|omega|(grind [xv,xw,xx,aE])|trace_state
theorem aaE:FU.Ok Try.prog tD:=aaC cP (Δ:=[An]) ⟨(Ff.two rfl rfl rfl),trivial⟩ (Ω:=[]) trivial FU Ic Ie (fun _=>rfl) (fun _=>[]) (fun _=>trivial) 0 (fun x=>(fun (by_:(List (List UInt8))) (pieces:(List ByteArray))=>(fun k=>bif Nat.beq k 0 then some (.inv [.sl 17 .aA, .ow 5 .gL] (fun zo zv=>(fun (i:Int) (out:(List ByteArray))=>xx by_ pieces i out) zv.1 zv.2.1) (fun zo zv=>(fun (i:Int) (out:(List ByteArray))=>((by_.length:Int) - i).toNat) zv.1 zv.2.1)) else bif Nat.beq k 1 then some (.inv [.sl 29 .aA, .sl 17 .aA, .ow 8 .cA] (fun zo zv=>(fun (k0:Int) (i0:Int) (b0:(List UInt8)) (k:Int) (i:Int) (b:(List UInt8))=>xw by_ pieces k0 i0 b0 k i b) zo.1 zo.2.1 zo.2.2.1 zv.1 zv.2.1 zv.2.2.1) (fun zo zv=>(fun (k0:Int) (i0:Int) (b0:(List UInt8)) (k:Int) (i:Int) (b:(List UInt8))=>((pieces.length:Int) - k).toNat) zo.1 zo.2.1 zo.2.2.1 zv.1 zv.2.1 zv.2.2.1)) else bif Nat.beq k 2 then some (.inv [.sl 36 .aA, .sl 29 .aA, .sl 17 .aA, .ow 8 .cA] (fun zo zv=>(fun (j0:Int) (k0:Int) (i0:Int) (b0:(List UInt8)) (j:Int) (k:Int) (i:Int) (b:(List UInt8))=>xv by_ pieces j0 k0 i0 b0 j k i b) zo.1 zo.2.1 zo.2.2.1 zo.2.2.2.1 zv.1 zv.2.1 zv.2.2.1 zv.2.2.2.1) (fun zo zv=>(fun (j0:Int) (k0:Int) (i0:Int) (b0:(List UInt8)) (j:Int) (k:Int) (i:Int) (b:(List UInt8))=>((b.length:Int) - j).toNat) zo.1 zo.2.1 zo.2.2.1 zo.2.2.2.1 zv.1 zv.2.1 zv.2.2.1 zv.2.2.2.1)) else none)) x.1 x.2.1) fun x hp=>Eq.mp (by kernel_rfl) (aaD x.1 x.2.1 hp)
open Go.RowKit Go.Shelf
def Mp:Go.Shelf.Ren:=⟨fun|105=>56|212=>67|99=>68|165=>69|166=>70|170=>71|169=>72|263=>82|264=>83|206=>84|240=>85|241=>86|276=>93|277=>94|n=>n,fun|9=>9|3=>3|4=>4|20=>20|0=>0|46=>107|109=>108|5=>5|72=>113|76=>117|51=>130|146=>131|53=>36|148=>133|70=>111|37=>105|75=>116|127=>135|164=>147|80=>120|n=>n,fun|n=>n⟩
theorem aaF:Go.Proofs.Lays.n105 Try.prog Mp:={
 mixed:=by kernel_rfl
 f99:=Try.func68.trans (adQ some (by kernel_rfl))
 f105:=Try.func56.trans (adQ some (by kernel_rfl))
 f165:=Try.func69.trans (adQ some (by kernel_rfl))
 f166:=Try.func70.trans (adQ some (by kernel_rfl))
 f169:=Try.func72.trans (adQ some (by kernel_rfl))
 f170:=Try.func71.trans (adQ some (by kernel_rfl))
 f206:=Try.func84.trans (adQ some (by kernel_rfl))
 f212:=Try.func67.trans (adQ some (by kernel_rfl))
 f240:=Try.func85.trans (adQ some (by kernel_rfl))
 f241:=Try.func86.trans (adQ some (by kernel_rfl))
 f263:=Try.func82.trans (adQ some (by kernel_rfl))
 f264:=Try.func83.trans (adQ some (by kernel_rfl))
 f276:=Try.func93.trans (adQ some (by kernel_rfl))
 f277:=Try.func94.trans (adQ some (by kernel_rfl))
 t0:=Try.underlying0
 a0:=Try.isAgg0
 z0:=Try.sizeOf0
 v0:=Try.zeroValue0
 t3:=Try.underlying3
 a3:=Try.isAgg3
 z3:=Try.sizeOf3
 v3:=Try.zeroValue3
 t4:=Try.underlying4
 a4:=Try.isAgg4
 z4:=Try.sizeOf4
 v4:=Try.zeroValue4
 t5:=Try.underlying5
 a5:=Try.isAgg5
 z5:=Try.sizeOf5
 v5:=Try.zeroValue5
 t9:=Try.underlying9
 a9:=Try.isAgg9
 z9:=Try.sizeOf9
 v9:=Try.zeroValue9
 t20:=Try.underlying20
 a20:=Try.isAgg20
 z20:=Try.sizeOf20
 v20:=Try.zeroValue20
 t37:=Try.underlying105
 a37:=Try.isAgg105
 z37:=Try.sizeOf105
 v37:=Try.zeroValue105
 t46:=Try.underlying107
 a46:=Try.isAgg107
 z46:=Try.sizeOf107
 v46:=Try.zeroValue107
 t51:=Try.underlying130
 a51:=Try.isAgg130
 z51:=Try.sizeOf130
 v51:=Try.zeroValue130
 t53:=Try.underlying36
 a53:=Try.isAgg36
 z53:=Try.sizeOf36
 v53:=Try.zeroValue36
 t70:=Try.underlying111
 a70:=Try.isAgg111
 z70:=Try.sizeOf111
 v70:=Try.zeroValue111
 t72:=Try.underlying113
 a72:=Try.isAgg113
 z72:=Try.sizeOf113
 v72:=Try.zeroValue113
 t75:=Try.underlying116
 a75:=Try.isAgg116
 z75:=Try.sizeOf116
 v75:=Try.zeroValue116
 t76:=Try.underlying117
 a76:=Try.isAgg117
 z76:=Try.sizeOf117
 v76:=Try.zeroValue117
 t109:=Try.underlying108
 a109:=Try.isAgg108
 z109:=Try.sizeOf108
 v109:=Try.zeroValue108
 t127:=Try.underlying135
 a127:=Try.isAgg135
 z127:=Try.sizeOf135
 v127:=Try.zeroValue135
 t146:=Try.underlying131
 a146:=Try.isAgg131
 z146:=Try.sizeOf131
 v146:=Try.zeroValue131
 t148:=Try.underlying133
 a148:=Try.isAgg133
 z148:=Try.sizeOf133
 v148:=Try.zeroValue133
 t164:=Try.underlying147
 a164:=Try.isAgg147
 z164:=Try.sizeOf147
 v164:=Try.zeroValue147 }
theorem aaG:Builder.Extra Try.prog Mp:={
 sizeBuilder:=by kernel_rfl
 liesBuilder:=by kernel_rfl
 t5:=Try.underlying5
 a5:=Try.isAgg5
 z5:=Try.sizeOf5
 v5:=Try.zeroValue5
 infoByte:=by kernel_rfl
 cellsByte:=by kernel_rfl
 sizeByte:=by kernel_rfl
 neB5:=by decide }
theorem aaH (s:ByteArray) (c:Nat) (w:World) (hc:c<=9223372036854775807) (hlen:s.size*c<=140737488355328):Calls Try.prog 56 #[.string s, .int .i64 c] w fun e w'=>e= .returned (.string ⟨(Lib.repeatL s.data.toList c).toArray⟩)/\Below w.heap.size w w':=Any.strings_Repeat aaF aaG s c w hc hlen
def pG (s:ByteArray) (n:Int):ByteArray:=⟨(Lib.repeatL s.data.toList n.toNat).toArray⟩
theorem aaI (s:ByteArray) (n:Int) (h1:0<=n) (h2:n<=65536) (h3:s.size<=65536):Fn Try.prog 56 ([Value.string s,Value.int .i64 n].map AV.v) (.v (.string (pG s n))):=by
 obtain ⟨c,rfl⟩:∃c:Nat,n=(c:Int):=⟨n.toNat,by omega⟩
 have h4:c<=65536:=by omega
 exact Fe (vs:=[Value.string s,Value.int .i64 c]) (u:= .string (pG s c)) (fun _=> .v rfl) fun w=>aaH s c w (by omega) (adk (Nat.mul_le_mul h3 h4) (by omega))
def Mq:bk Tc Tc.dn:=⟨56,[.ty .gL, .ty .aA],fun x=>(0:Int)<=x.2.1/\(x.2.1:Int)<=65536/\ByteArray.size x.1<=65536,[.gL],fun x=>pG x.1 x.2.1⟩
theorem aaJ:Mq.Ok Try.prog tB:=⟨by kernel_rfl,fun x N hp=>aaI x.1 x.2.1 hp.1 hp.2.1 hp.2.2⟩
theorem aaK (b:UInt8) (n:Int):pG ⟨#[b]⟩ n=⟨(List.replicate n.toNat b).toArray⟩:=by
 unfold pG;congr 2
 show Lib.repeatL [b] _=_
 induction n.toNat with
 |zero=>rfl
 |succ m ih=>simp [Lib.repeatL,List.replicate_succ,ih]<;>rfl
theorem aaL (b:UInt8) (n:Int):(pG ⟨#[b]⟩ n).size=n.toNat:=by rw [aaK];simp [ByteArray.size]
open Go.RowKit
def ia (n:Int):ByteArray:=pG ⟨#[0]⟩ n
theorem Mr (n:Int):(ia n).size=n.toNat:=aaL 0 n
def sA (p:Piece):Piece:=⟨0,ia p.data.size⟩
def jU (i:Nat) (L:List Piece):List Piece:=(L.take i).map sA++L.drop i
theorem Ms:(jU i L).length=L.length:=by simp [jU];omega
theorem aaM (h:L.length<=i):jU i L=L.map sA:=by unfold jU;rw [adK h,aeI h,aeq]
theorem aaN (h:i<L.length):gd (⟨0,ByteArray.empty⟩:Piece) (jU i L) i=gd (⟨0,ByteArray.empty⟩:Piece) L i:=by
 unfold gd jU
 rw [adJ (by simp;omega)]
 simp [show min i L.length=i from aet (by omega)]
theorem aaO (h:i<L.length):(jU i L).set i (sA (gd (⟨0,ByteArray.empty⟩:Piece) L i))=jU (i+1) L:=by
 have e:gd (⟨0,ByteArray.empty⟩:Piece) L i=L[i]:=by unfold gd;rw [acT h];rfl
 rw [e]
 unfold jU
 rw [List.set_append_right _ _ (by simp;omega),List.take_succ_eq_append_getElem h,adv,ad6]
 congr 1
 have e3:i - ((L.take i).map sA).length=0:=by simp;omega
 rw [e3,List.drop_eq_getElem_cons h]
 rfl
theorem lf.put {L:List Shelf} {K:List az} {A:dg} (h:lf L K A) (hn:n<L.length) {up:Bool} (hu:up=(gd (⟨false,[]⟩:Shelf) L n).up) {xs:List Piece} (hx:xs.length=(gd (⟨false,[]⟩:Shelf) L n).pieces.length):lf (L.set n ⟨up,xs⟩) K (((gd (⟨false,Row.no Piece⟩:az) K n).pieces.id,xs)::A):=by
 refine ⟨by simp [h.len],fun j hj=> ?_,fun j hj=> ?_,fun j k hj hk he=> ?_⟩
 ·rw [ada] at hj
  rw [fy hn]
  split
  ·rename_i e;subst e;rw [h.up _ hj,hu]
  ·exact h.up j hj
 ·rw [ada] at hj
  obtain ⟨q1,q2⟩:=h.own j hj
  rw [fy hn]
  by_cases e:n=j
  ·subst e
   rw [acN rfl]
   refine ⟨⟨q1.1,jd.2 (.inl rfl), ?_⟩, ?_⟩
   ·rw [gj,acN rfl,hx, <-q2];exact q1.2.2
   ·show bj _ _=_;rw [gj,acN rfl]
  ·have aJ:(gd (⟨false,Row.no Piece⟩:az) K j).pieces.id≠(gd (⟨false,Row.no Piece⟩:az) K n).pieces.id:=fun e2=>e (h.inj j n hj hn e2).symm
   rw [acL e]
   exact ⟨⟨q1.1,jd.2 (.inr q1.2.1),by rw [gj,acL aJ];exact q1.2.2⟩,by rw [gj,acL aJ];exact q2⟩
 ·rw [ada] at hj hk
  exact h.inj j k hj hk he
def me (L:List Shelf) (n i:Nat):List Shelf:=L.set n ⟨(gd (⟨false,[]⟩:Shelf) L n).up,jU i (gd (⟨false,[]⟩:Shelf) L n).pieces⟩
theorem FV {L:List Shelf} (h:n<L.length):gd (⟨false,[]⟩:Shelf) (me L n i) n=⟨(gd (⟨false,[]⟩:Shelf) L n).up,jU i (gd (⟨false,[]⟩:Shelf) L n).pieces⟩:=by unfold me;rw [fy h,acN rfl]
structure gx (v:ah) (n i:Int) (K:List az) (A:dg):Prop where
 lo:0<=i
 hi:i<=v.versions.length
 k:v.K
 n0:0<=n
 n1:n<v.nodes.length
 o:lf (me v.nodes n.toNat i.toNat) K A
def gO (K:List az) (n:Int):Row Piece:=(gd (⟨false,Row.no Piece⟩:az) K n.toNat).pieces
theorem gx.start {v:ah} (k:v.K) {i n:Int} {K:List az} {A:dg} (h:db v.nodes i K A) (hi:v.nodes.length<=i) (h0:0<=n) (h1:n<=v.nodes.length - 1):gx v n 0 K A:=by
 refine ⟨by omega,by omega,k,h0,by omega, ?_⟩
 have e:me v.nodes n.toNat (0:Int).toNat=v.nodes:=by
  show v.nodes.set n.toNat ⟨_,(gd (⟨false,[]⟩:Shelf) v.nodes n.toNat).pieces⟩=v.nodes
  have hn:n.toNat<v.nodes.length:=by omega
  have q:gd (⟨false,[]⟩:Shelf) v.nodes n.toNat=v.nodes[n.toNat]:=by unfold gd;rw [acT hn];rfl
  rw [q];exact List.set_getElem_self hn
 rw [e];exact h.fin hi
theorem gx.row {v:ah} {n i:Int} {K:List az} {A:dg} (h:gx v n i K A):n.toNat<K.length/\(gO K n).bD A/\(gO K n).ok A/\(gO K n).get A=jU i.toNat (gd (⟨false,[]⟩:Shelf) v.nodes n.toNat).pieces/\((gO K n).get A).length=v.versions.length:=by
 have h0:=h.n0;have h1:=h.n1
 have hn:n.toNat<v.nodes.length:=by omega
 have hl:(me v.nodes n.toNat i.toNat).length=v.nodes.length:=by unfold me;simp
 obtain ⟨q1,q2⟩:=h.o.own n.toNat (by rw [hl];exact hn)
 have q3:(gO K n).get A=jU i.toNat (gd (⟨false,[]⟩:Shelf) v.nodes n.toNat).pieces:=by
  unfold gO;rw [A7 q1,q2,FV hn]
 refine ⟨by rw [h.o.len,hl];exact hn,q1,Row.bD.ok q1,q3, ?_⟩
 rw [q3,Ms];exact h.k.pre.shl h0 h1
theorem gx.bD {v:ah} {n i:Int} {K:List az} {A:dg} (h:gx v n i K A):(gO K n).kd=RK.own/\cv A (gO K n).id/\(bj A (gO K n).id).length=(gO K n).n:=h.row.2.1
theorem gx.cur {v:ah} {n i:Int} {K:List az} {A:dg} (h:gx v n i K A) (hi:i<v.versions.length):gd (⟨0,ByteArray.empty⟩:Piece) ((gO K n).get A) i.toNat=gd (⟨0,ByteArray.empty⟩:Piece) (gd (⟨false,[]⟩:Shelf) v.nodes n.toNat).pieces i.toNat/\(gd (⟨0,ByteArray.empty⟩:Piece) ((gO K n).get A) i.toNat).data.size<=64:=by
 have h0:=h.lo
 have e:(gd (⟨false,[]⟩:Shelf) v.nodes n.toNat).pieces.length=v.versions.length:=h.k.pre.shl h.n0 h.n1
 have q:gd (⟨0,ByteArray.empty⟩:Piece) ((gO K n).get A) i.toNat=gd (⟨0,ByteArray.empty⟩:Piece) (gd (⟨false,[]⟩:Shelf) v.nodes n.toNat).pieces i.toNat:=by rw [h.row.2.2.2.1];exact aaN (by omega)
 refine ⟨q, ?_⟩
 rw [q]
 have ok:=h.k.ok n i h.n0 h.n1 h.lo hi
 have sz:=h.k.qH
 unfold fc ah.at_ at ok
 split at ok
 ·exact absurd ok (by decide)
 ·rename_i hh
  cases hb:v.layout.has i n with
  |true=>
   have:(Piece.data (gd (⟨0,ByteArray.empty⟩:Piece) (gd (⟨false,[]⟩:Shelf) v.nodes n.toNat).pieces i.toNat)).size=v.size:=aed fun hx=>hh (.inr ⟨hb,hx⟩)
   omega
  |false=>
   have:=aed fun hx=>hh (.inl ⟨hb,hx⟩)
   rw [this.2];decide
theorem gx.step {v:ah} {n i:Int} {K:List az} {A:dg} (h:gx v n i K A) (hi:i<v.versions.length):gx v n (i+1) K (((gd (⟨false,Row.no Piece⟩:az) K n.toNat).pieces.id,((gO K n).get A).set i.toNat ⟨0,ia ((gd (⟨0,ByteArray.empty⟩:Piece) ((gO K n).get A) i.toNat).data.size:Int)⟩)::A):=by
 have h0:=h.lo;have h1:=h.n0;have h2:=h.n1
 have hn:n.toNat<v.nodes.length:=by omega
 have e:(gd (⟨false,[]⟩:Shelf) v.nodes n.toNat).pieces.length=v.versions.length:=h.k.pre.shl h.n0 h.n1
 have hl:(me v.nodes n.toNat i.toNat).length=v.nodes.length:=by unfold me;simp
 refine ⟨by omega,by omega,h.k,h1,h2, ?_⟩
 have:=h.o.put (n:=n.toNat) (up:=(gd (⟨false,[]⟩:Shelf) v.nodes n.toNat).up) (by rw [hl];exact hn) (by rw [FV hn]) (xs:=jU (i+1).toNat (gd (⟨false,[]⟩:Shelf) v.nodes n.toNat).pieces) (by rw [FV hn];simp only [Ms])
 have e1:jU (i+1).toNat (gd (⟨false,[]⟩:Shelf) v.nodes n.toNat).pieces=((gO K n).get A).set i.toNat ⟨0,ia ((gd (⟨0,ByteArray.empty⟩:Piece) ((gO K n).get A) i.toNat).data.size:Int)⟩:=by
  rw [(h.cur hi).1,h.row.2.2.2.1,show (i+1).toNat=i.toNat+1 by omega]
  exact (aaO (by omega)).symm
 rw [e1] at this
 have e2:(me v.nodes n.toNat i.toNat).set n.toNat ⟨(gd (⟨false,[]⟩:Shelf) v.nodes n.toNat).up,((gO K n).get A).set i.toNat ⟨0,ia ((gd (⟨0,ByteArray.empty⟩:Piece) ((gO K n).get A) i.toNat).data.size:Int)⟩⟩=me v.nodes n.toNat (i+1).toNat:=by
  rw [<-e1];unfold me;rw [List.set_set]
 rw [e2] at this
 exact this
def gP (v:ah) (n:Int):ah:=⟨v.layout,v.size,v.versions,v.nodes.set n.toNat ⟨(gd (⟨false,[]⟩:Shelf) v.nodes n.toNat).up,(gd (⟨false,[]⟩:Shelf) v.nodes n.toNat).pieces.map sA⟩⟩
def bF (v:ah) (n:Int):ah×Int:=if ¬bN v=0 then (⟨⟨0,0,0,0⟩,0,[],[]⟩,bN v) else if ¬(0<=n/\n<=v.nodes.length - 1) then (⟨⟨0,0,0,0⟩,0,[],[]⟩,3) else (gP v n,0)
theorem gx.done {v:ah} {n i:Int} {K:List az} {A:dg} (h:gx v n i K A) (hi:v.versions.length<=i):(∀x:az,x∈K->True/\x.pieces.ok A/\x.pieces.kd≠RK.nil)/\(⟨v.layout,v.size,v.versions,List.map (fun x:az=>(⟨x.up,x.pieces.get A⟩:Shelf)) K⟩:ah)=gP v n:=by
 obtain ⟨e1,e2⟩:=h.o.view
 have e:(gd (⟨false,[]⟩:Shelf) v.nodes n.toNat).pieces.length=v.versions.length:=h.k.pre.shl h.n0 h.n1
 refine ⟨fun x hx=>⟨trivial,e1 x hx⟩, ?_⟩
 rw [e2];unfold gP me
 rw [aaM (by omega)]
def A9:bk Tc Tc.dn:=⟨42,[.ty .aA],fun x=>(fun (size:Int)=>0<=size/\size<=65536) x.1,[.gL],fun x=>(fun (size:Int)=>ia size) x.1⟩
theorem aaP (size:Int) (hp:0<=size/\size<=65536):((0:Int)<=size/\size<=(65536:Pt.T Tc.dn (Pt.ty Tc.aA))/\(ByteArray.mk #[(0:UInt8)]).size<=(65536:Nat))/\pG (ByteArray.mk #[(0:UInt8)]) size=ia size:=by
 have e:ia size=pG ⟨#[0]⟩ size:=rfl
 have e2:ByteArray.size ⟨#[0]⟩=1:=rfl
 (repeat' (first|apply And.intro|intro _))<;>first|assumption|trivial|omega|(grind [ia])|trace_state
theorem Mu:A9.Ok Try.prog tD:=bO cP (Δ:=[Mq]) ⟨(aaJ.two rfl rfl rfl),trivial⟩ (Ω:=[]) trivial A9 R8 R9 (fun _=>[]) (fun _=>trivial) 0 (fun x=>(fun (size:Int)=>(fun _=>none)) x.1) fun x hp=>Eq.mp (by kernel_rfl) (aaP x.1 hp)
def xy (v:ah) (i:Int) (K:(List az)) (A:(List (Nat×List Piece))):Prop:=db v.nodes i K A
def xz (v:ah) (n:Int) (i0:Int) (K0:(List az)) (A0:(List (Nat×List Piece))) (i:Int) (K:(List az)) (A:(List (Nat×List Piece))):Prop:=K=K0/\gx v n i K A
def Ba:bk Tc Tc.dn:=⟨16,[.ty .eV, .ty .aA],fun x=>(fun (v:ah) (n:Int)=>True) x.1 x.2.1,[.eV, .aA],fun x=>(fun (v:ah) (n:Int)=>bF v n) x.1 x.2.1⟩
theorem aaQ (v:ah) (n:Int):True/\(¬bN v=(0:Int)->(ah.mk (aO.mk (0:Int) (0:Int) (0:Int) (0:Int)) (0:Int) [] [],bN v)=bF v n)/\(bN v=(0:Int)->aE ((↑v.nodes.length:Int) - (1:Int))/\True/\(decide ((0:Int)<=n/\n<=(↑v.nodes.length:Int) - (1:Int))= !true->(ah.mk (aO.mk (0:Int) (0:Int) (0:Int) (0:Int)) (0:Int) [] [],(3:Int))=bF v n)/\(decide ((0:Int)<=n/\n<=(↑v.nodes.length:Int) - (1:Int))= !false->(↑v.versions.length:Int)*(8:Int)<=(140737488355328:Int)/\v.nodes≠[]/\((0:Nat)+v.nodes.length)*(32:Nat)<=(140737488355328:Nat)/\xy v (0:Int) (List.map (fun x=>az.mk x.up (Row.fix Piece x.pieces)) ([]++v.nodes)) []/\∀(x:Int) (af:List az) (aD:List (Nat×List Piece)),xy v x af aD->(x<(↑([]++v.nodes).length:Int)->((0:Int)<=x/\x<(↑af.length:Int))/\x.toNat<af.length/\(gd (az.mk false (Row.no Piece)) af x.toNat).pieces.ok aD/\(gd (az.mk false (Row.no Piece)) af x.toNat).pieces.kd≠RK.nil/\(↑((gd (az.mk false (Row.no Piece)) af x.toNat).pieces.get aD).length:Int)*(24:Int)<=(140737488355328:Int)/\((0:Int)<=x/\x<(↑af.length:Int))/\∀(id:Nat),¬cv aD id->x.toNat<af.length/\aE (x+(1:Int))/\xy v (x+(1:Int)) (af.set x.toNat (az.mk (gd (az.mk false (Row.no Piece)) af x.toNat).up (Row.at Piece id ((gd (az.mk false (Row.no Piece)) af x.toNat).pieces.get aD).length))) ((id,(gd (az.mk false (Row.no Piece)) af x.toNat).pieces.get aD)::aD)/\((↑v.nodes.length:Int) - (x+(1:Int))).toNat<((↑v.nodes.length:Int) - x).toNat)/\((↑([]++v.nodes).length:Int)<=x->((0:Int)<=n/\n<(↑af.length:Int))/\n.toNat<af.length/\(gd (az.mk false (Row.no Piece)) af n.toNat).pieces.ok aD/\xz v n (0:Int) af aD (0:Int) af aD/\∀(x:Int) (ae:List az) (aB:List (Nat×List Piece)),xz v n (0:Int) af aD x ae aB->(x<(↑((gd (az.mk false (Row.no Piece)) af n.toNat).pieces.get aD).length:Int)->(gd (az.mk false (Row.no Piece)) af n.toNat).pieces.ok aB/\((0:Int)<=x/\x<(↑((gd (az.mk false (Row.no Piece)) af n.toNat).pieces.get aB).length:Int))/\(gd (az.mk false (Row.no Piece)) af n.toNat).pieces.ok aB/\x.toNat<((gd (az.mk false (Row.no Piece)) af n.toNat).pieces.get aB).length/\n.toNat<ae.length/\((0:Int)<=(↑(gd (Piece.mk (0:Int) ByteArray.empty) ((gd (az.mk false (Row.no Piece)) af n.toNat).pieces.get aB) x.toNat).data.size:Int)/\(↑(gd (Piece.mk (0:Int) ByteArray.empty) ((gd (az.mk false (Row.no Piece)) af n.toNat).pieces.get aB) x.toNat).data.size:Int)<=(65536:Int))/\(gd (az.mk false (Row.no Piece)) ae n.toNat).pieces.ok aB/\((0:Int)<=x/\x<(↑((gd (az.mk false (Row.no Piece)) ae n.toNat).pieces.get aB).length:Int))/\(gd (az.mk false (Row.no Piece)) ae n.toNat).pieces.bD aB/\x.toNat<((gd (az.mk false (Row.no Piece)) ae n.toNat).pieces.get aB).length/\aE (x+(1:Int))/\xz v n (0:Int) af aD (x+(1:Int)) ae (((gd (az.mk false (Row.no Piece)) ae n.toNat).pieces.id,((gd (az.mk false (Row.no Piece)) ae n.toNat).pieces.get aB).set x.toNat (Piece.mk (0:Int) (ia (↑(gd (Piece.mk (0:Int) ByteArray.empty) ((gd (az.mk false (Row.no Piece)) af n.toNat).pieces.get aB) x.toNat).data.size:Int))))::aB)/\((↑v.versions.length:Int) - (x+(1:Int))).toNat<((↑v.versions.length:Int) - x).toNat)/\((↑((gd (az.mk false (Row.no Piece)) af n.toNat).pieces.get aD).length:Int)<=x->(∀(x:az),x∈ae->True/\x.pieces.ok aB/\x.pieces.kd≠RK.nil)/\(ah.mk v.layout v.size v.versions (List.map (fun x=>Shelf.mk x.up (x.pieces.get aB)) ae),(0:Int))=bF v n)))):=by
 have a1:= @db.start v.nodes
 have a2:= @db.rw v
 have a3:= @db.step v.nodes
 have a4:= @db.done v
 have a5:= @db.lo v.nodes
 have a6:= @db.len v.nodes
 have a7:= @ah.K.bd v
 have a8:= @qG
 have b1:= @nQ v
 have b2:= @gx.start v
 have b3:= @gx.row v n
 have b4:= @gx.cur v n
 have b5:= @gx.step v n
 have b6:= @gx.done v n
 have b7:= @gx.lo v n
 have b8:= @gx.bD v n
 simp only [gO] at b3 b4 b5 b8
 have e1:¬bN v=0->bF v n=(⟨⟨0,0,0,0⟩,0,[],[]⟩,bN v):=fun h=>by unfold bF;rw [acN h]
 have e2:bN v=0->¬(0<=n/\n<=v.nodes.length - 1)->bF v n=(⟨⟨0,0,0,0⟩,0,[],[]⟩,3):=fun h h2=>by unfold bF;rw [acL (by simp [h]),acN h2]
 have e3:bN v=0->0<=n->n<=v.nodes.length - 1->bF v n=(gP v n,0):=fun h h2 h3=>by unfold bF;rw [acL (by simp [h]),acL (by omega)]
 (try simp only [ady,adE,adh,ac9])
 (repeat' (first|apply And.intro|intro _))<;>first|assumption|trivial|omega|(grind [xy,xz,aE])|trace_state
noncomputable def Mv:PD Tc.dn Ba.ps->List (IL Tc Tc.dn):=fun x=>(fun (v:ah) (n:Int)=>([⟨39, .fn CM (fun _=>none),none⟩,⟨21, .fn yB (fun k=>bif Nat.beq k 0 then some (.inv [.sl 15 .aA, .bl 9 .gM, .ar .eU] (fun zo zv=>(fun (i:Int) (K:(List az)) (A:(List (Nat×List Piece)))=>xy v i K A) zv.1 zv.2.1 zv.2.2.1) (fun zo zv=>(fun (i:Int) (K:(List az)) (A:(List (Nat×List Piece)))=>((v.nodes.length:Int) - i).toNat) zv.1 zv.2.1 zv.2.2.1)) else none),none⟩,⟨51, .fn yC (fun _=>none),none⟩,⟨41, .fn H8 (fun k=>bif Nat.beq k 0 then some (.inv [.sl 9 .aA, .bl 9 .gM, .ar .eU] (fun zo zv=>(fun (i0:Int) (K0:(List az)) (A0:(List (Nat×List Piece))) (i:Int) (K:(List az)) (A:(List (Nat×List Piece)))=>xz v n i0 K0 A0 i K A) zo.1 zo.2.1 zo.2.2.1 zv.1 zv.2.1 zv.2.2.1) (fun zo zv=>(fun (i0:Int) (K0:(List az)) (A0:(List (Nat×List Piece))) (i:Int) (K:(List az)) (A:(List (Nat×List Piece)))=>((v.versions.length:Int) - i).toNat) zo.1 zo.2.1 zo.2.2.1 zv.1 zv.2.1 zv.2.2.1)) else none),none⟩])) x.1 x.2.1
theorem aaR:∀x,nL Try.prog tD (Mv x):=fun _=>⟨⟨H5,H6⟩,⟨CK,CL⟩,⟨CN,CO⟩,⟨R5,R6⟩,trivial⟩
theorem aaS:Ba.Ok Try.prog tD:=bO cP (Δ:=[qL,nR,A9]) ⟨tW,qI,Mu,trivial⟩ (Ω:=[AY,AZ]) ⟨FQ,FR,trivial⟩ Ba QZ Q0 (Mv) (aaR) 3 (fun x=>(fun (v:ah) (n:Int)=>(fun _=>none)) x.1 x.2.1) fun x hp=>Eq.mp (by kernel_rfl) (aaQ x.1 x.2.1)
open Go.RowKit
open Go.RowKit
theorem aaT {α:Type} {d:α} {a b:List α} (h:a.length=b.length) (k:∀i,i<a.length->gd d a i=gd d b i):a=b:=by
 refine aeh h fun i h1 h2=> ?_
 have:=k i h1
 unfold gd at this
 rw [acT h1,acT h2] at this
 simpa using this
open Go.RowKit
theorem aaU {n:Int} {f:Nat->Nat->UInt8}:(dF m n f).length=m.toNat:=by unfold dF;simp
theorem Mw {α β:Type} {d:α} {e:β} {f:α->β} {l:List α} (h:i<l.length):gd e (l.map f) i=f (gd d l i):=by
 unfold gd;rw [ac5,acT h];rfl
end Go.Proofs.Ytboaekdecndckaa
