/- Two ways that come together. No condition. -/
import Derived.Test.YtpoikkflcpklgaaPSxX
import Derived.Test.YtpoikkflcpklgaaPAc
set_option linter.unusedSectionVars false
set_option linter.unusedSimpArgs false
set_option linter.unusedVariables false
namespace Go.Proofs.Ytpoikkflcpklgaa
variable {o:az} {a':AV} {dep:List (List Nat)} {cs:List (Nat×Nat)} {hs:List (Option Nat)} {os:List az} {args:List Arg} {l:List Nat} {O:List Prop} {rs:List Rec} {n nm k0 i a f k jn k1 sz q:Nat} {σ σ':Nat->AV} {p:Nat->Bool} {g:Nat->Option Bk} {Q:Nat->Prop} {N N':aw} {d:Option Nat} {r:Rec} {s u:S3} {α:Type}
open Go.RowKit
abbrev LU:=@Bool.not_false
abbrev Mb:=@Nat.lt_succ_self
abbrev Mu:=@Option.none_or
abbrev MI:=@Option.some_or
abbrev MZ:=@List.getElem?_set_ne
section
variable {τ:Type} {dn:τ->Type}
mutual
def SV.dK (E:TE τ dn) (nm:Nat) (t:τ) (r:Row (dn t)):SV τ dn->SV τ dn
 | .own a sz=>bif Nat.beq a nm&&Nat.beq sz (E.sz t) then .rw t r else .own a sz
 | .ref a sz i o=>bif Nat.beq a nm&&Nat.beq sz (E.sz t) then .cK t r i o else .ref a sz i o
 | .agg cs=> .agg (SV.jd E nm t r cs)
 | .aJ cs=> .aJ (SV.jd E nm t r cs)
 | .fn f cs=> .fn f (SV.jd E nm t r cs)
 | .bf f cs=> .bf f (SV.jd E nm t r cs)
 | .vg p c v=> .vg p c (SV.dK E nm t r v)
 | .part a b c d=> .part a b c d
 | .pim cs o=> .pim cs o
 | .vc sz els=> .vc sz els
 | .mp a=> .mp a
 | .vi x=> .vi x
 | .vn x=> .vn x
 | .vy x=> .vy x
 | .vu x=> .vu x
 | .vw q x=> .vw q x
 | .vb c=> .vb c
 | .vt x=> .vt x
 | .vz x=> .vz x
 | .vo x=> .vo x
 | .vl a b=> .vl a b
 | .emp=> .emp
 | .rw a b=> .rw a b
 | .cK a b c d=> .cK a b c d
 | .dead=> .dead
def SV.jd (E:TE τ dn) (nm:Nat) (t:τ) (r:Row (dn t)):List (SV τ dn)->List (SV τ dn)
 |[]=>[]
 |v::l=>SV.dK E nm t r v::SV.jd E nm t r l
end
section
variable {E:TE τ dn} {N:aw} {nm:Nat} {t:τ} {r:Row (dn t)}
mutual
theorem uM (hk:r.kd= .own) (h1:N.ι nm=r.id) (h2:N.ln nm=r.n):∀v:SV τ dn,(v.dK E nm t r).av E N=v.av E N
 | .own a sz=>by
  simp only [SV.dK]
  cases hb:(Nat.beq a nm&&Nat.beq sz (E.sz t)) with
  |false=>rfl
  |true=>
   rw [K2] at hb
   have e1:=Lk hb.1
   have e2:=Lk hb.2
   simp only [K5,SV.av,hk,e1,e2,h1,h2]
 | .ref a sz i o=>by
  simp only [SV.dK]
  cases hb:(Nat.beq a nm&&Nat.beq sz (E.sz t)) with
  |false=>rfl
  |true=>
   rw [K2] at hb
   have e1:=Lk hb.1
   have e2:=Lk hb.2
   simp only [K5,SV.av,hk,e1,e2,h1]
 | .agg cs| .aJ cs| .fn f cs| .bf f cs=>by simp only [SV.dK,SV.av,uO hk h1 h2 cs]
 | .vg p c v=>by simp only [SV.dK,SV.av,uM hk h1 h2 v]
 | .part _ _ _ _| .pim _ _| .vc _ _| .mp _| .vi _| .vn _| .vy _| .vu _| .vw _ _| .vb _| .vt _| .vz _| .vo _| .vl _ _| .emp| .rw _ _| .cK _ _ _ _| .dead=>by simp only [SV.dK]
theorem uO (hk:r.kd= .own) (h1:N.ι nm=r.id) (h2:N.ln nm=r.n):∀cs:List (SV τ dn),SV.ck E N (SV.jd E nm t r cs)=SV.ck E N cs
 |[]=>rfl
 |v::l=>by simp only [SV.jd,SV.ck,uM hk h1 h2 v,uO hk h1 h2 l]
end
end
def SB.dK (E:TE τ dn) (nm:Nat) (t:τ) (r:Row (dn t)):SB τ dn->SB τ dn
 | .bc sz els=> .bc sz (els.map (SV.jd E nm t r))
 | .mc els=> .mc (els.map (SV.jd E nm t r))
 |B=>B
theorem HL {E:TE τ dn} {t:τ} {r:Row (dn t)} (hk:r.kd= .own) (h1:N.ι nm=r.id) (h2:N.ln nm=r.n) (B:SB τ dn):(B.dK E nm t r).av E N=B.av E N/\(B.dK E nm t r).len=B.len:=by
 have hM:∀els:List (List (SV τ dn)),SV.bE E N (els.map (SV.jd E nm t r))=SV.bE E N els:=by
  intro els
  induction els with
  |nil=>rfl
  |cons a l ih=>simp only [Lf,SV.bE,ih,uO hk h1 h2]
 cases B with
 |bc sz els=>simp only [SB.dK,SB.av,hM,SB.len,Lq,Lp]
 |mc els=>simp only [SB.dK,SB.av,hM,SB.len,Lp]
 |_=>exact ⟨rfl,rfl⟩
variable [DecidableEq τ]
def j0 (D:TD τ dn) (st:SS τ dn) (nm:Nat) (t:τ):Option (List (dn t)):=match st.gm nm with
 |some (.bl t' xs)=>if h:t'=t then some (h▸xs) else (D.th t' t).map fun f=>xs.map f
 |some (.bc q els)=>if q=D.sz t then iZ D t els else none
 |_=>none
theorem o9 {D:TD τ dn} {st:SS τ dn} (ok:aU D) (R:aW D N st σ g) {t:τ} {xs:List (dn t)} (h:j0 D st nm t=some xs):g (N.ι nm)=some ⟨D.sz t,xs.map (D.ea N.ρ t)⟩/\N.ln nm=xs.length:=by
 unfold j0 at h
 split at h
 ·rename_i t' ys hB
  split at h
  ·rename_i he
   subst he
   simp only [KZ] at h;subst h
   exact R.gm hB
  ·simp only [K7] at h
   obtain ⟨f,hf,rfl⟩:=h
   obtain ⟨g1,g2⟩:=R.gm hB
   obtain ⟨q1,q2⟩:=ok.th N.ρ t' t f hf
   refine ⟨?_,by rw [g2];simp only [SB.len,Lq]⟩
   rw [g1]
   simp only [SB.av,MG,q1]
   congr 2
   exact MY fun x _=>(q2 x).symm
 ·rename_i q els hB
  split at h
  ·rename_i hq
   obtain ⟨g1,g2⟩:=R.gm hB
   have e1:=qU (N:=N) ok h
   have e2:=qV h
   refine ⟨?_,by rw [g2];exact e2⟩
   rw [g1];simp only [SB.av,hq,e1]
  ·simp at h
 ·simp at h
def SS.mY (D:TD τ dn) (st:SS τ dn) (nm:Nat):Option ((t:τ)×(List (Nat×List (dn t))×List (dn t))):=match st.gm 0 with
 |some (.ar t A)=>match j0 D st nm t with
  |some xs=>bif !Nat.beq nm 0&&(st.rw nm&&st.rw 0) then some ⟨t,A,xs⟩ else none
  |none=>none
 |_=>none
def SS.tk (D:TD τ dn) (st:SS τ dn) (nm id:Nat) (t:τ) (A:List (Nat×List (dn t))) (xs:List (dn t)):SS τ dn:=
 ⟨st.rt,st.rm,st.t.map fun q=>(q.1,q.2.dK D.toTE nm t (Row.at (dn t) id xs.length)),(0,some (.ar t ((id,xs)::A)))::(nm,none)::st.m.map fun q=>(q.1,q.2.map (SB.dK D.toTE nm t (Row.at (dn t) id xs.length))),st.nx⟩
def uP:SV τ dn->Option Nat
 | .own nm _=>some nm
 |_=>none
def needs (D:TD τ dn) (st:SS τ dn):AO->List Nat
 | .store _ x y=>match st.ev x,st.ev y with
  |some (.ref nm _ _ _),some b=>match st.gm nm with
   |some (.bl t _)=>bif D.hr t then b.cells.filterMap uP else []
   |_=>[]
  |_,_=>[]
 | .app sz _ s x=>match st.ev s,st.ev x with
  |some (.own nm _),some b=>match st.gm nm with
   |some (.bl t _)=>bif D.hr t then (match st.cont D sz b with
    |some (.li els)=>els.flatMap fun cs=>cs.filterMap uP
    |_=>[]) else []
   |_=>[]
  |_,_=>[]
 |_=>[]
def je (D:TD τ dn):List Nat->SS τ dn->(SS τ dn->Prop)->Prop
 |[],st,K=>K st
 |nm::r,st,K=>match st.mY D nm with
  |some ⟨t,A,xs⟩=>∀id,¬dp A id->je D r (st.tk D nm id t A xs) K
  |none=>je D r st K
end
section
variable {τ:Type} {dn:τ->Type} {D:TD τ dn} [DecidableEq τ]
theorem mZ {α β:Type} (f:α->β):∀{l:List (Nat×α)} {i:Nat},getS (l.map fun q=>(q.1,f q.2)) i=(getS l i).map f
 |[],i=>rfl
 |(j,v)::r,i=>by
  rw [Lf,aV,aV,mZ f (l:=r)]
  by_cases h:i=j<;>simp [h]
theorem HM (ok:aU D) {st:SS τ dn} (R:Rel D N st s) {t:τ} {A:List (Nat×List (dn t))} {xs:List (dn t)} (h:st.mY D nm=some ⟨t,A,xs⟩):¬dp A (N.ι nm)/\Rel D N (st.tk D nm (N.ι nm) t A xs) s:=by
 unfold SS.mY at h
 split at h
 case h_2=>simp at h
 rename_i t' A' ic
 split at h
 case h_2=>simp at h
 rename_i ys hb
 cases hc:(!Nat.beq nm 0&&(st.rw nm&&st.rw 0)) with
 |false=>rw [hc] at h;simp at h
 |true=>
 rw [hc,K5,KZ] at h
 simp only [Sigma.mk.injEq] at h
 obtain ⟨rfl,h⟩:=h
 have h:=eq_of_heq h
 simp only [Li] at h
 obtain ⟨rfl,rfl⟩:=h
 simp only [K2,Lm] at hc
 obtain ⟨lu,hw,uQ⟩:=hc
 have zm:nm≠0:=fun e=>by subst e;simp at lu
 obtain ⟨⟨B1,m1⟩,r1⟩:=iz hw
 obtain ⟨⟨B2,m2⟩,r2⟩:=iz uQ
 have uR:B2= .ar t' A':=by
  have:=kR m2;rw [this] at ic;simpa using ic
 subst uR
 have hlt:=R.ml nm _ m1
 have pa:=R.ml 0 _ m2
 have ek:¬dp A' (N.ι nm):=fun hh=>(R.sp t' A' (fI ic) _ hh).2 nm _ (.inl m1) rfl
 have dc:∀a X,getS ((0,some (SB.ar t' ((N.ι nm,ys)::A')))::(nm,(none:Option (SB τ dn)))::st.m.map fun q=>(q.1,q.2.map (SB.dK D.toTE nm t' (Row.at (dn t') (N.ι nm) ys.length)))) a=some (some X)->
   (a=0/\X= .ar t' ((N.ι nm,ys)::A'))\/(a≠0/\a≠nm/\∃B,getS st.m a=some (some B)/\X=B.dK D.toTE nm t' (Row.at (dn t') (N.ι nm) ys.length)):=fun a X h=>by
  rw [aV,aV,mZ (Option.map (SB.dK D.toTE nm t' (Row.at (dn t') (N.ι nm) ys.length)))] at h
  by_cases h0:a=0
  ·rw [K1 h0] at h;simp only [KZ] at h;exact .inl ⟨h0,h.symm⟩
  ·rw [K0 h0] at h
   by_cases h1:a=nm
   ·rw [K1 h1] at h;simp at h
   ·rw [K0 h1] at h
    simp only [K7] at h
    obtain ⟨x,hx,B,rfl,rfl⟩:=h
    exact .inr ⟨h0,h1,B,hx,rfl⟩
 have bz:∀t2 A2,(st.tk D nm (N.ι nm) t' A' ys).bm 0 (.ar t2 A2)->(SB.ar t' ((N.ι nm,ys)::A'):SB τ dn)= .ar t2 A2:=fun t2 A2 h=>by
  rcases h with h|h
  ·rcases dc 0 _ h with ⟨_,h⟩|⟨h,_⟩
   ·exact h.symm
   ·exact absurd rfl h
  ·have h':getS st.rm 0=some (some (.ar t2 A2)):=h
   rw [r2] at h';simp at h'
 refine ⟨ek,⟨fun N' hN=> ?_,R.inj,R.lt,fun a X h=> ?_,R.rl,fun t2 A2 h id hid=> ?_⟩⟩
 ·have A:=R.at_ N' hN
  have e1:N'.ι nm=N.ι nm:=(hN.1 nm hlt).1
  have hbl:=o9 ok A hb
  have e2:N'.ln nm=ys.length:=hbl.2
  refine ⟨fun i v h=> ?_,A.rs,fun a X h=> ?_,A.rb,fun t2 A2 h id hid=> ?_⟩
  ·have h':getS (st.t.map fun q=>(q.1,q.2.dK D.toTE nm t' (Row.at (dn t') (N.ι nm) ys.length))) i=some v:=h
   rw [mZ (SV.dK D.toTE nm t' (Row.at (dn t') (N.ι nm) ys.length))] at h'
   simp only [K7] at h'
   obtain ⟨w,hw,rfl⟩:=h'
   rw [A.sl i w hw]
   exact (uM rfl e1 e2 w).symm
  ·rcases dc a X h with ⟨rfl,rfl⟩|⟨h0,h1,B,hB,rfl⟩
   ·have:=A.bl 0 _ m2
    exact ⟨this.1,this.2⟩
   ·obtain ⟨p1,p2⟩:=HL (E:=D.toTE) (N:=N') (r:=Row.at (dn t') (N.ι nm) ys.length) rfl e1 e2 B
    rw [p1,p2];exact A.bl a B hB
  ·have h':=bz t2 A2 h
   simp only [SB.ar.injEq] at h'
   obtain ⟨rfl,h'⟩:=h'
   have h':=eq_of_heq h'
   subst h'
   rw [yC]
   by_cases hi:id=N.ι nm
   ·rw [K1 hi,hi, <-e1];exact hbl.1
   ·rw [K0 hi]
    rcases ox.1 hid with hh|hh
    ·exact absurd hh hi
    ·exact A.ar _ A' (fI ic) id hh
 ·have h':getS ((0,some (SB.ar t' ((N.ι nm,ys)::A')))::(nm,(none:Option (SB τ dn)))::st.m.map fun q=>(q.1,q.2.map (SB.dK D.toTE nm t' (Row.at (dn t') (N.ι nm) ys.length)))) a=some X:=h
  show a<st.nx
  rw [aV,aV,mZ (Option.map (SB.dK D.toTE nm t' (Row.at (dn t') (N.ι nm) ys.length)))] at h'
  by_cases h0:a=0
  ·subst h0;exact pa
  ·rw [K0 h0] at h'
   by_cases h1:a=nm
   ·subst h1;exact hlt
   ·rw [K0 h1] at h'
    simp only [K7] at h'
    obtain ⟨x,hx,_⟩:=h'
    exact R.ml a _ hx
 ·have h':=bz t2 A2 h
  simp only [SB.ar.injEq] at h'
  obtain ⟨rfl,h'⟩:=h'
  have h':=eq_of_heq h'
  subst h'
  have bm:∀a X,(getS (st.tk D nm (N.ι nm) t' A' ys).m a=some (some X)\/getS st.rm a=some (some X))->a≠nm/\a<st.nx/\∃X',getS st.m a=some (some X')\/getS st.rm a=some (some X'):=fun a X hX=>by
   rcases hX with hX|hX
   ·rcases dc a X hX with ⟨rfl,rfl⟩|⟨h0,h1,B,hB,rfl⟩
    ·exact ⟨fun e=>zm e.symm,pa,_, .inl m2⟩
    ·exact ⟨h1,R.ml a _ hB,B, .inl hB⟩
   ·exact ⟨fun e=>by subst e;rw [r1] at hX;simp at hX,R.rl a _ hX,X, .inr hX⟩
  rcases ox.1 hid with hh|hh
  ·subst hh
   refine ⟨R.lt nm hlt,fun a X hX e=> ?_⟩
   obtain ⟨q1,q2,_⟩:=bm a X hX
   exact q1 (R.inj a nm q2 hlt e)
  ·obtain ⟨q1,q2⟩:=R.sp _ A' (fI ic) id hh
   refine ⟨q1,fun a X hX=> ?_⟩
   obtain ⟨_,_,X',j1⟩:=bm a X hX
   exact q2 a X' j1
theorem rz (ok:aU D) {N:aw} {s:S3} {K:SS τ dn->Prop}:∀{l:List Nat} {st:SS τ dn},Rel D N st s->je D l st K->∃ah,Rel D N ah s/\ah.rt=st.rt/\ah.rm=st.rm/\ah.nx=st.nx/\K ah
 |[],st,R,h=>⟨st,R,rfl,rfl,rfl,h⟩
 |nm::r,st,R,h=>by
  simp only [je] at h
  split at h
  ·rename_i t A xs ht
   obtain ⟨h1,h2⟩:=HM ok R ht
   obtain ⟨ah,q1,q2,q3,q4,q5⟩:=rz ok h2 (h _ h1)
   exact ⟨ah,q1,q2,q3,q4,q5⟩
  ·exact rz ok R h
end
open Go.RowKit
section
variable {τ:Type} {dn:τ->Type}
abbrev JW (τ:Type) (dn:τ->Type):=FuncId->List (SV τ dn)->SS τ dn->(SV τ dn->SS τ dn->Prop)->Prop
structure bU (τ:Type) (dn:τ->Type) where
 P:Program
 D:TD τ dn
 Δ:List (bZ τ dn)
 Ω:List (gY τ dn)
 fl:Nat
 J:JW τ dn
 hd:Bool
def rA (P:Program) (D:TD τ dn) (f:FuncId) (vs:List (SV τ dn)) (st:SS τ dn) (K:SV τ dn->SS τ dn->Prop) (N:aw) (s:S3):Prop:=
 bW P f=true/\∃g1 k1 N' v st1,Fi P f (vs.map (SV.av D.toTE N)) s.g s.k (v.av D.toTE N') g1 k1/\(∀bJ,N'.aZ st1.nx bJ->v.av D.toTE bJ=v.av D.toTE N')/\N.aZ st.nx N'/\st.nx<=st1.nx/\Rel D N' ⟨[],st.rm,[],st1.m,st1.nx⟩ ⟨s.σ,g1,k1⟩/\K v st1
structure bU.Ok (C:bU τ dn):Prop where
 ok:aU C.D
 rB:∀c,c∈C.Δ->c.Ok C.P C.D
 zn:∀c,c∈C.Ω->c.Ok C.P C.D
 inl:∀{f vs st K N s},Rel C.D N st s->(∀N',N.aZ st.nx N'->vs.map (SV.av C.D.toTE N')=vs.map (SV.av C.D.toTE N))->C.J f vs st K->rA C.P C.D f vs st K N s
def lZ (D:TD τ dn):List (bZ τ dn)->FuncId->List (SV τ dn)->Option ((c:bZ τ dn)×PD dn c.ps)
 |[],_,_=>none
 |c::r,f,as_=>bif Nat.beq c.f f then (match iC D c.ps as_ with
  |some x=>some ⟨c,x⟩
  |none=>lZ D r f as_) else lZ D r f as_
theorem uS {D:TD τ dn}:∀{Δ:List (bZ τ dn)} {f:FuncId} {as_:List (SV τ dn)} {c:bZ τ dn} {x:PD dn c.ps},lZ D Δ f as_=some ⟨c,x⟩->c∈Δ/\c.f=f/\iC D c.ps as_=some x
 |[],f,as_,c,x,h=>by simp [lZ] at h
 |d::r,f,as_,c,x,h=>by
  have go:lZ D r f as_=some ⟨c,x⟩->c∈d::r/\c.f=f/\iC D c.ps as_=some x:=fun h=>by
   obtain ⟨h1,h2,h3⟩:=uS h
   exact ⟨LS _ h1,h2,h3⟩
  simp only [lZ] at h
  cases hb:Nat.beq d.f f with
  |false=>rw [hb,Ln] at h;exact go h
  |true=>
   rw [hb,K5] at h
   split at h
   ·rename_i y hy
    simp only [KZ] at h
    cases h
    exact ⟨L7 ..,Lk hb,hy⟩
   ·exact go h
def l0 (D:TD τ dn):List (gY τ dn)->FuncId->List (SV τ dn)->Option ((c:gY τ dn)×PD dn c.ps)
 |[],_,_=>none
 |c::r,f,as_=>bif Nat.beq c.f f then (match iC D c.ps as_ with
  |some x=>some ⟨c,x⟩
  |none=>l0 D r f as_) else l0 D r f as_
theorem zp {D:TD τ dn}:∀{Δ:List (gY τ dn)} {f:FuncId} {as_:List (SV τ dn)} {c:gY τ dn} {x:PD dn c.ps},l0 D Δ f as_=some ⟨c,x⟩->c∈Δ/\c.f=f/\iC D c.ps as_=some x
 |[],f,as_,c,x,h=>by simp [l0] at h
 |d::r,f,as_,c,x,h=>by
  have go:l0 D r f as_=some ⟨c,x⟩->c∈d::r/\c.f=f/\iC D c.ps as_=some x:=fun h=>by
   obtain ⟨h1,h2,h3⟩:=zp h
   exact ⟨LS _ h1,h2,h3⟩
  simp only [l0] at h
  cases hb:Nat.beq d.f f with
  |false=>rw [hb,Ln] at h;exact go h
  |true=>
   rw [hb,K5] at h
   split at h
   ·rename_i y hy
    simp only [KZ] at h
    cases h
    exact ⟨L7 ..,Lk hb,hy⟩
   ·exact go h
def SV.c8:SV τ dn->Bool
 | .vi _| .vn _| .vy _| .vu _| .vw _ _| .vb _| .vt _| .vz _| .vo _| .emp| .dead=>true
 | .fn _ cs=>cs.isEmpty
 |_=>false
def SV.dx:SV τ dn->Bool
 | .agg cs=>cs.all SV.c8
 |a=>a.c8
def SV.nob:SV τ dn->Bool
 | .aJ vs=>vs.all SV.dx
 |a=>a.dx
theorem zq {E:TE τ dn} {v:SV τ dn} (h:v.c8=true):(v.av E N).c8=true:=by
 cases v<;>simp [SV.c8] at h<;>simp [SV.av,AV.c8]
 subst h;rfl
theorem zr {E:TE τ dn} {v:SV τ dn} (h:v.dx=true):(v.av E N).dx=true:=by
 cases v with
 |agg cs=>
  simp only [SV.av,SV.dx,AV.dx,SV.bk,K6,Lz] at h ⊢
  rintro _ ⟨v,hv,rfl⟩;exact zq (h v hv)
 |vg p c v=>simp [SV.dx,SV.c8] at h
 |rw t r=>simp [SV.dx,SV.c8] at h
 |cK t r i o=>simp [SV.dx,SV.c8] at h
 |_=>
  simp only [SV.dx] at h
  exact zq (E:=E) (N:=N) h
theorem HN {E:TE τ dn} {v:SV τ dn} (h:v.nob=true):(v.av E N).nob=true:=by
 cases v with
 |aJ cs=>
  simp only [SV.av,SV.nob,AV.nob,SV.bk,K6,Lz] at h ⊢
  rintro _ ⟨v,hv,rfl⟩;exact zr (h v hv)
 |vg p c v=>simp [SV.nob,SV.dx,SV.c8] at h
 |rw t r=>simp [SV.nob,SV.dx,SV.c8] at h
 |cK t r i o=>simp [SV.nob,SV.dx,SV.c8] at h
 |_=>
  simp only [SV.nob] at h
  exact zr (E:=E) (N:=N) h
def m6 (st:SS τ dn) (x:Arg) (args:List Arg):Option (FuncId×List (SV τ dn)):=
 match st.ev x,args.mapM st.ev with
 |some (.fn f caps),some vs=>some (f,vs++caps)
 |some (.bf f first),some vs=>some (f,first++vs)
 |_,_=>none
theorem m7 {D:TD τ dn} {st:SS τ dn} (R:aW D N st σ g) {x:Arg} {f:FuncId} {vs:List (SV τ dn)} (h:m6 st x args=some (f,vs)) (k:Nat):
  (AO.ae k (aE σ) (.call x args)).run g=some (.call f (vs.map (SV.av D.toTE N))):=by
 unfold m6 at h
 split at h
 ·rename_i f' caps HO h1 h2
  simp only [KZ,Li] at h;obtain ⟨rfl,rfl⟩:=h
  simp only [AO.ae,R.ev h1,SV.av,RM.run,oV R h2,LW,SV.bk]
 ·rename_i f' first HO h1 h2
  simp only [KZ,Li] at h;obtain ⟨rfl,rfl⟩:=h
  simp only [AO.ae,R.ev h1,SV.av,RM.run,oV R h2,LW,SV.bk]
 ·simp at h
def zt [DecidableEq τ] (C:bU τ dn) (st:SS τ dn) (x:Arg) (args:List Arg):Option (SR τ dn×List Nat):=
 match m6 st x args with
 |some (f,vs)=>match lY C.D st vs with
  |some (O,as_)=>match lZ C.D C.Δ f as_ with
   |some ⟨c,y⟩=>bif (c.val C.D y).nob||(vs.flatMap SV.nms).isEmpty then some (.val (O++[c.pre y]) (c.val C.D y),vs.flatMap SV.nms) else bif (c.val C.D y).lb&&(vs.all SV.nvg&&(vs.flatMap SV.nms).all st.rw) then some (.ff (O++[c.pre y]) (c.val C.D y) (vs.flatMap SV.nms),vs.flatMap SV.nms) else none
   |none=>match l0 C.D C.Ω f as_ with
    |some ⟨c,y⟩=>some (.new (O++[c.pre y]) (.own st.nx (C.D.sz c.t)) (.bl c.t (c.res y)),vs.flatMap SV.nms)
    |none=>none
  |none=>none
 |none=>none
def SS.live (st:SS τ dn) (a:Nat):Bool:=Nat.blt a st.nx&&(st.gm a).isSome
def iD [DecidableEq τ] (C:bU τ dn) (st:SS τ dn) (ao:AO):Option (SR τ dn×List Nat):=
 match ao with
 | .call x args=>match zt C st x args with
  |some (r,ns)=>bif ns.all st.live then some (r,ns) else none
  |none=>none
 |ao=>match kS C.D st ao with
  |some r=>bif (ao.nrs st).all st.live&&ao.lk.all st.ngd then some (r,ao.nrs st) else none
  |none=>none
def SR.nx (st:SS τ dn):SR τ dn->Nat
 | .new _ _ _| .mov _ _ _ _=>st.nx+1
 |_=>st.nx
theorem SR.rC (st:SS τ dn) (d:Option Nat) (r:SR τ dn):(r.st st d).nx=r.nx st:=by cases r<;>rfl
theorem uT {D:TD τ dn} (ok:aU D) (h:N'.ρ=N.ρ) (t:τ) (x:dn t):(D.en t x).av D.toTE N=(D.en t x).av D.toTE N':=by
 have e:(D.es t x).map (SV.av D.toTE N)=(D.es t x).map (SV.av D.toTE N'):=by rw [ok.cO,ok.cO,h]
 cases ha:D.ag t with
 |true=>rw [rh ha,SV.av,SV.av,SV.bk,SV.bk,e]
 |false=>
  unfold TD.en
  rw [ha,Ln]
  cases hs:D.es t x with
  |nil=>rfl
  |cons v r=>rw [hs] at e;simp only [Lf,MN] at e;exact e.1
theorem zu {D:TD τ dn} (ok:aU D) {N N':aw} (h:N'.ρ=N.ρ):∀(rs:List τ) (x:RD dn rs),(gE D rs x).map (SV.av D.toTE N)=(gE D rs x).map (SV.av D.toTE N')
 |[],_=>rfl
 |[t],x=>by simp only [gE,Lf,LP,uT ok h t x]
 |t::s::r,x=>by simp only [gE,Lf,uT ok h t x.1,zu ok h (s::r) x.2]
theorem zw {D:TD τ dn} (ok:aU D) (h:N'.ρ=N.ρ) {c:bZ τ dn} {y:PD dn c.ps}:(c.val D y).av D.toTE N=(c.val D y).av D.toTE N':=by
 unfold bZ.val;rw [rp,rp,zu ok h]
theorem HP [DecidableEq τ] {D:TD τ dn} {st:SS τ dn} {g:Nat->Option Bk} (R:aW D N st σ g) {ao:AO} {r:SR τ dn} (h:kS D st ao=some r) (hO:∀p,p∈r.O->p):∀x,x∈ao.lk->∀v,st.ev x=some v->v.isRw=true->∀id,id∈(v.av D.toTE N).bn->fL st id:=by
 intro x hx v hv hr id hid
 unfold kS at h
 split at h
 ·simp [AO.lk] at hx
 ·have hb:(ao.lk.any st.rwa)=true:=MT.2 ⟨x,hx,by unfold SS.rwa;rw [hv];exact hr⟩
  rw [hb,K5] at h
  exact G4 R h hO hx hv hr id hid
theorem zx [DecidableEq τ] {C:bU τ dn} (hC:C.Ok) {st:SS τ dn} (R:∀N',N.aZ st.nx N'->aW C.D N' st σ g) (hg:bL σ o.guard=some true) {r:SR τ dn} {ns:List Nat} (h:iD C st o.ao=some (r,ns)) (hO:∀p,p∈r.O->p):
  ∃val ups acc,de C.P σ g k o val ups acc/\(∀N',(r.up N st k).aZ (r.nx st) N'->val=r.v.av C.D.toTE N'/\ups=r.ups C.D N' k)/\(∀id,id∈acc->∃nm,nm∈ns/\(id=N.ι nm\/(nm=0/\fL st id)))/\r.may C.D N st/\(∀nm,nm∈ns->st.live nm=true):=by
 have blt:∀{l:List Nat},(l.all st.live)=true->∀nm,nm∈l->nm<st.nx:=fun h nm hn=>by
  have:=K6.1 h nm hn
  unfold SS.live at this
  rw [K2] at this
  exact LV this.1
 have rD:∀{l:List Nat},(l.all st.live)=true->∀nm,nm∈l->st.live nm=true:=fun h nm hn=>K6.1 h nm hn
 have R0:=R N (N.dJ _)
 have dF:∀N',(r.up N st k).aZ (r.nx st) N'->N.aZ st.nx N'/\r.fresh N' st.nx k:=fun N' hN=>by
  cases r with
  |val=>exact ⟨hN,trivial⟩
  |put=>exact ⟨hN,trivial⟩
  |ff=>exact ⟨hN,trivial⟩
  |dZ=>exact ⟨hN,trivial⟩
  |new O v B=>
   refine ⟨aw.ep (N.jS st.nx k B.len) hN (Nat.le_succ _), ?_, ?_⟩
   ·rw [(hN.1 st.nx (Mb _)).1];exact K1 rfl
   ·rw [(hN.1 st.nx (Mb _)).2];exact K1 rfl
  |mov O v o B=>
   refine ⟨aw.ep (N.jS st.nx k B.len) hN (Nat.le_succ _), ?_, ?_⟩
   ·rw [(hN.1 st.nx (Mb _)).1];exact K1 rfl
   ·rw [(hN.1 st.nx (Mb _)).2];exact K1 rfl
 unfold iD at h
 split at h
 ·rename_i x args cw
  split at h
  ·rename_i r' ns' hc
   cases hb:(ns'.all st.live) with
   |false=>rw [hb] at h;simp at h
   |true=>
    rw [hb,K5,KZ,Li] at h
    obtain ⟨rfl,rfl⟩:=h
    unfold zt at hc
    split at hc
    ·rename_i f vs dX
     split at hc
     ·rename_i Os as_ gN
      split at hc
      ·rename_i c y hf
       cases hcd:((c.val C.D y).nob||(vs.flatMap SV.nms).isEmpty) with
       |false=>
        rw [hcd,Ln] at hc
        cases hce:((c.val C.D y).lb&&(vs.all SV.nvg&&(vs.flatMap SV.nms).all st.rw)) with
        |false=>rw [hce] at hc;simp at hc
        |true=>
         rw [hce,K5,KZ,Li] at hc
         obtain ⟨rfl,rfl⟩:=hc
         rw [K2,K2] at hce
         obtain ⟨l1,l2,l3⟩:=hce
         obtain ⟨f1,f2,f3⟩:=uS hf
         obtain ⟨c1,c2⟩:=hC.rB c f1
         simp only [SR.O,LD,K9] at hO
         have j2:∀p,p∈Os->p:=fun p hp=>hO p (.inl hp)
         have hs:=re hC.ok R0 gN j2
         have eO:=(c2 y N (hO _ (.inr rfl))).args (rn (N:=N) hC.ok f3)
         rw [f2] at eO c1
         have hr:=de.call (P:=C.P) (fresh:=k) hg (by rw [cw];exact m7 R0 dX k) c1 hs eO
         have lO:lE (vs.map (SV.av C.D.toTE N)) ((c.val C.D y).av C.D.toTE N)=((vs.flatMap SV.nms).map N.ι).map fun i=>(i,none):=by
          unfold lE
          rw [K0 (by rw [HH l1];simp),zk l2]
         rw [lO] at hr
         refine ⟨_,_,_,hr,fun N' hN=>⟨zw hC.ok (dF N' hN).1.2, ?_⟩,fun id hid=> ?_,fun a ha=> ?_,rD hb⟩
         ·simp only [SR.ups]
          congr 1
          exact MY fun a ha=>((hN.1 a (blt hb a ha)).1).symm
         ·rcases LD.1 hid with hid|hid
          ·have:=rr id hid
           rw [cw] at this;simp [AO.refs] at this
          ·exact o8 gN j2 id (rv id hid)
         ·exact iz (K6.1 l3 a ha)
       |true=>
        rw [hcd,K5,KZ,Li] at hc
        obtain ⟨rfl,rfl⟩:=hc
        obtain ⟨f1,f2,f3⟩:=uS hf
        obtain ⟨c1,c2⟩:=hC.rB c f1
        simp only [SR.O,LD,K9] at hO
        have j2:∀p,p∈Os->p:=fun p hp=>hO p (.inl hp)
        have key:∀N',N.aZ st.nx N'->∃acc,de C.P σ g k o ((c.val C.D y).av C.D.toTE N') [] acc/\∀id,id∈acc->∃nm,nm∈vs.flatMap SV.nms/\(id=N'.ι nm\/(nm=0/\fL st id)):=fun N' hN=>by
         have R':=R N' hN
         have hs:=re hC.ok R' gN j2
         have eO:=(c2 y N' (hO _ (.inr rfl))).args (rn (N:=N') hC.ok f3)
         rw [f2] at eO c1
         have hr:=de.call (P:=C.P) (fresh:=k) hg (by rw [cw];exact m7 R' dX k) c1 hs eO
         have lO:lE (vs.map (SV.av C.D.toTE N')) ((c.val C.D y).av C.D.toTE N')=[]:=by
          unfold lE
          rw [Ls] at hcd
          rcases hcd with hcd|hcd
          ·rw [K1 (HN hcd)]
          ·split
           ·rfl
           ·rw [List.map_eq_nil_iff]
            rw [L9] at hcd
            rw [List.eq_nil_iff_forall_not_mem]
            intro id hid
            obtain ⟨nm,h1,_⟩:=o8 gN j2 id hid
            rw [hcd] at h1;simp at h1
         rw [lO] at hr
         refine ⟨_,hr,fun id hid=> ?_⟩
         rcases LD.1 hid with hid|hid
         ·have:=rr id hid
          rw [cw] at this;simp [AO.refs] at this
         ·exact o8 gN j2 id (rv id hid)
        obtain ⟨acc,k1,k2⟩:=key N (N.dJ _)
        refine ⟨_,_,acc,k1,fun N' hN=>⟨?_,rfl⟩,k2,trivial,rD hb⟩
        exact zw hC.ok (dF N' hN).1.2
      ·split at hc
       ·rename_i c y hf
        rw [KZ,Li] at hc
        obtain ⟨rfl,rfl⟩:=hc
        obtain ⟨f1,f2,f3⟩:=zp hf
        obtain ⟨⟨c1,cn⟩,c2⟩:=hC.zn c f1
        simp only [SR.O,LD,K9] at hO
        have j2:∀p,p∈Os->p:=fun p hp=>hO p (.inl hp)
        have hs:=re hC.ok R0 gN j2
        have mz:=Hw (c2 y N (hO _ (.inr rfl))) (rn (N:=N) hC.ok f3)
        rw [f2] at mz c1
        have s9:∀cs,cs∈(c.res y).map (C.D.ea N.ρ c.t)->∀a,a∈cs->a.c8=true:=fun cs hcs a ha=>by
         obtain ⟨x,_,rfl⟩:=Lz.1 hcs
         rw [<-hC.ok.cO N c.t x] at ha
         obtain ⟨v,hv,rfl⟩:=Lz.1 ha
         exact Hv (K6.1 (cn x) v hv)
        have hr:=de.lF (P:=C.P) (fresh:=k) hg (by rw [cw];exact m7 R0 dX k) c1 hs mz s9
        refine ⟨_,_,_,hr,fun N' hN=> ?_,fun id hid=> ?_,rfl,rD hb⟩
        ·obtain ⟨uU,h1,h2⟩:=dF N' hN
         simp only [SR.v,SV.av,SR.ups,SB.av,h1,h2,uU.2,Lq,SB.len,Lp]
        ·rcases LD.1 hid with hid|hid
         ·have:=rr id hid
          rw [cw] at this;simp [AO.refs] at this
         ·exact o8 gN j2 id (rv id hid)
       ·simp at hc
     ·simp at hc
    ·simp at hc
  ·simp at h
 ·split at h
  ·rename_i r' hr
   cases hb:((o.ao.nrs st).all st.live&&o.ao.lk.all st.ngd) with
   |false=>rw [hb] at h;simp at h
   |true=>
    rw [hb,K5,KZ,Li] at h
    obtain ⟨rfl,rfl⟩:=h
    rw [K2] at hb
    obtain ⟨N1,uU⟩:∃N1,(r'.up N st k).aZ (r'.nx st) N1:=⟨_,aw.dJ _ _⟩
    have A1:=dF N1 uU
    have e1:=(uF hC.ok (R N1 A1.1) hr hO).1 k hO A1.2
    refine ⟨_,_,_, .done hg e1,fun N' hN=> ?_,fun id hid=> ?_,(uF hC.ok R0 hr hO).2,rD hb.1⟩
    ·have A2:=dF N' hN
     have e2:=(uF hC.ok (R N' A2.1) hr hO).1 k hO A2.2
     rw [e1] at e2
     simp only [KZ,Out.done.injEq] at e2
     exact e2
    ·exact HI R0 (HK hr) hb.2 (HP R0 hr hO) id hid
  ·simp at h
structure NR where
 keys:List Nat
 acc:List Nat
 all:Bool:=false
 ra:Bool:=false
 ex:List Nat:=[]
 nw:Bool:=false
def rE (x y:NR):Bool:=bif x.all then !y.all&&(!y.ra&&(y.keys.isEmpty&&y.acc.all fun a=>x.ex.contains a)) else bif y.all then !x.ra&&(x.keys.isEmpty&&x.acc.all fun a=>y.ex.contains a) else ((!x.ra||y.keys.isEmpty)&&(!y.ra||x.keys.isEmpty))&&((x.keys.all fun id=> !y.acc.contains id&& !y.keys.contains id)&&(y.keys.all fun id=> !x.acc.contains id))
def uV (dep:List (List Nat)) (i j:Nat) (x y:NR):Bool:=(x.all&&x.keys.isEmpty)&&(y.nw&&(y.acc.isEmpty&&(!y.ra&&kK dep i j)))
def idsN (rs:List NR) (dep:List (List Nat)):Bool:=
 (List.range rs.length).all fun j=>(List.range j).all fun i=>((dep[j]?).getD []).contains i||(match rs[i]?,rs[j]? with|some x,some y=>rE x y||uV dep i j x y|_,_=>false)
def g4 (N:aw) (Q:Nat->Prop) (nm id:Nat):Prop:=(id=N.ι nm/\¬Q id)\/(nm=0/\Q id)
structure g5 (N:aw) (Q:Nat->Prop) (nx:Nat) (r:Rec) (x:NR):Prop where
 keys:x.all=false->∀id,id∈r.keys->∃nm,nm∈x.keys/\g4 N Q nm id
 acc:x.all=false->x.ra=false->∀id,id∈r.acc->∃nm,nm∈x.acc/\g4 N Q nm id
 kl:∀nm,nm∈x.keys->nm<nx
 al:∀nm,nm∈x.acc->nm<nx
 ex:∀nm,nm∈x.ex->nm<nx/\∀id,id∈r.keys->¬g4 N Q nm id
 nw:x.nw=true->x.all=false/\∀id,id∈r.keys->r.fr<=id
 ca:x.all=true->x.keys.isEmpty=true->r.acc=[]
theorem g4.step {N N':aw} {Q:Nat->Prop} {nx nm id:Nat} (h:g4 N Q nm id) (hN:N.aZ nx N') (hn:nm<nx):g4 N' Q nm id:=by
 rcases h with ⟨h1,h2⟩|h
 ·exact .inl ⟨by rw [(hN.1 nm hn).1];exact h1,h2⟩
 ·exact .inr h
theorem g5.step {N N':aw} {Q:Nat->Prop} {nx nx':Nat} {r:Rec} {x:NR} (h:g5 N Q nx r x) (hN:N.aZ nx N') (hx:nx<=nx'):g5 N' Q nx' r x:=by
 refine ⟨fun ha id hid=> ?_,fun ha hb id hid=> ?_,fun nm hn=>Lr (h.kl nm hn) hx,fun nm hn=>Lr (h.al nm hn) hx,fun nm hn=>⟨Lr (h.ex nm hn).1 hx,fun id hid hq=>(h.ex nm hn).2 id hid ?_⟩,h.nw,h.ca⟩
 ·obtain ⟨nm,h1,h2⟩:=h.keys ha id hid
  exact ⟨nm,h1,h2.step hN (h.kl nm h1)⟩
 ·obtain ⟨nm,h1,h2⟩:=h.acc ha hb id hid
  exact ⟨nm,h1,h2.step hN (h.al nm h1)⟩
 ·rcases hq with ⟨h1,h2⟩|hq
  ·exact .inl ⟨h1.trans (hN.1 nm (h.ex nm hn).1).1,h2⟩
  ·exact .inr hq
theorem g5.nk {nx:Nat} {x:NR} (h:g5 N Q nx r x) (ha:x.all=false) (h1:x.keys.isEmpty=true):r.keys=[]:=by
 rw [L9] at h1
 refine List.eq_nil_iff_forall_not_mem.2 fun id hid=> ?_
 obtain ⟨nm,q,_⟩:=h.keys ha id hid
 rw [h1] at q;simp at q
theorem g4.eq {nx b id:Nat} (inj:∀a b,a<nx->b<nx->N.ι a=N.ι b->a=b) (ha:a<nx) (hb:b<nx) (h:g4 N Q a id) (k:g4 N Q b id):a=b:=by
 rcases h with ⟨h1,h2⟩|⟨h1,h2⟩<;>rcases k with ⟨k1,k2⟩|⟨k1,k2⟩
 ·exact inj a b ha hb (h1.symm.trans k1)
 ·exact absurd k2 h2
 ·exact absurd h2 k2
 ·rw [h1,k1]
theorem HQ {nx:Nat} (inj:∀a b,a<nx->b<nx->N.ι a=N.ι b->a=b) {q:Rec} {x y:NR} (hr:g5 N Q nx r x) (hq:g5 N Q nx q y) (h:rE x y=true):eQ r q=true:=by
 unfold rE at h
 unfold eQ
 cases hx:x.all with
 |true=>
  rw [hx,K5] at h
  simp only [K2,Lm] at h
  obtain ⟨h1,h2,h3,h4⟩:=h
  have e1:=hq.nk h1 h3
  rw [e1]
  simp only [List.all_nil,Bool.and_true,K6,K2,Lm,LI,Lo,Ly] at h4 ⊢
  refine fun id hid=>⟨fun hc=> ?_,by simp⟩
  obtain ⟨b,hb,eb⟩:=hq.acc h1 h2 _ hc
  exact (hr.ex b (h4 b hb)).2 id hid eb
 |false=>
  rw [hx,Ln] at h
  cases hy:y.all with
  |true=>
   rw [hy,K5,K2,K2,Lm] at h
   obtain ⟨h2,h3,h4⟩:=h
   have e1:=hr.nk hx h3
   rw [e1]
   simp only [List.all_nil,Bool.true_and,K6,Lm,LI,Lo,Ly] at h4 ⊢
   refine fun id hid hc=> ?_
   obtain ⟨b,hb,eb⟩:=hr.acc hx h2 _ hc
   exact (hq.ex b (h4 b hb)).2 id hid eb
  |false=>
   rw [hy,Ln,K2] at h
   obtain ⟨zy,h⟩:=h
   rw [K2,Ls,Ls,Lm,Lm] at zy
   obtain ⟨m8,m9⟩:=zy
   simp only [K2,K6,Lm,LI,Lo] at h ⊢
   obtain ⟨h1,h2⟩:=h
   refine ⟨fun id hid=> ?_,fun id hid=> ?_⟩
   ·obtain ⟨a,ha,ea⟩:=hr.keys hx _ hid
    refine ⟨fun hc=> ?_,fun hc=> ?_⟩
    ·rcases m9 with m9|m9
     case inr=>rw [L9] at m9;rw [m9] at ha;simp at ha
     obtain ⟨b,hb,eb⟩:=hq.acc hy m9 _ hc
     have:=ea.eq inj (hr.kl a ha) (hq.al b hb) eb
     subst this;exact (h1 a ha).1 hb
    ·obtain ⟨b,hb,eb⟩:=hq.keys hy _ hc
     have:=ea.eq inj (hr.kl a ha) (hq.kl b hb) eb
     subst this;exact (h1 a ha).2 hb
   ·obtain ⟨a,ha,ea⟩:=hq.keys hy _ hid
    intro hc
    rcases m8 with m8|m8
    case inr=>rw [L9] at m8;rw [m8] at ha;simp at ha
    obtain ⟨b,hb,eb⟩:=hr.acc hx m8 _ hc
    have:=ea.eq inj (hq.kl a ha) (hr.al b hb) eb
    subst this;exact h2 a ha hb
inductive fN (N:aw) (Q:Nat->Prop) (nx:Nat):List Rec->List (Option Nat)->List NR->Prop
 |nil:fN N Q nx [] [] []
 |cons {r:Rec} {c:Option Nat} {x:NR} {rs:List Rec} {hs:List (Option Nat)} {xs:List NR} (h:g5 N Q nx r x) (hc:x.all=false->c=none) (t:fN N Q nx rs hs xs):fN N Q nx (r::rs) (c::hs) (x::xs)
theorem fN.step {N N':aw} {Q:Nat->Prop} {nx nx':Nat} {rs:List Rec} {hs:List (Option Nat)} {xs:List NR} (h:fN N Q nx rs hs xs) (hN:N.aZ nx N') (hx:nx<=nx'):fN N' Q nx' rs hs xs:=by
 induction h with
 |nil=>exact .nil
 |cons h hc _ ih=>exact .cons (h.step hN hx) hc ih
theorem fN.snoc {nx:Nat} {xs:List NR} (h:fN N Q nx rs hs xs) {c:Option Nat} {x:NR} (hr:g5 N Q nx r x) (hc:x.all=false->c=none):fN N Q nx (rs++[r]) (hs++[c]) (xs++[x]):=by
 induction h with
 |nil=>exact .cons hr hc .nil
 |cons h hc _ ih=>exact .cons h hc ih
theorem fN.len {nx:Nat} {xs:List NR} (h:fN N Q nx rs hs xs):rs.length=xs.length:=by
 induction h with
 |nil=>rfl
 |cons _ _ _ ih=>simp [ih]
theorem fN.get {nx:Nat} {xs:List NR} (h:fN N Q nx rs hs xs):∀(i:Nat) x,xs[i]? =some x->∃r c,rs[i]? =some r/\hs[i]? =some c/\g5 N Q nx r x/\(x.all=false->c=none):=by
 induction h with
 |nil=>intro i x hx;simp at hx
 |cons h hc _ ih=>
  intro i x hx
  cases i with
  |zero=>simp only [LB,KZ] at hx;subst hx;exact ⟨_,_,rfl,rfl,h,hc⟩
  |succ i=>exact ih i x (by simpa using hx)
theorem zA {nx:Nat} (inj:∀a b,a<nx->b<nx->N.ι a=N.ι b->a=b) {xs:List NR} (h:fN N Q nx rs hs xs) (hlt:∀(i j:Nat) ri rj,i<j->rs[i]? =some ri->rs[j]? =some rj->∀id,id∈ri.keys->id<rj.fr) (jI:∀(i:Nat) x,xs[i]? =some x->x.nw=true->i=jn) (hd:idsN xs dep=true):eE rs dep=true/\gU jn rs hs dep=true:=by
 unfold idsN at hd
 unfold eE gU
 simp only [K6,LH,Ls] at hd ⊢
 refine ⟨fun j hj i hi=> ?_,fun j hj i hi=> ?_⟩
 ·rcases hd j (by rw [<-h.len];exact hj) i hi with h1|h1
  ·exact .inl h1
  ·right
   split at h1
   ·rename_i x y hx hy
    obtain ⟨r,_,hr,_,rF,_⟩:=h.get i x hx
    obtain ⟨q,_,hq,_,l4,_⟩:=h.get j y hy
    rw [hr,hq]
    rw [Ls] at h1
    rcases h1 with h1|h1
    ·exact HQ inj rF l4 h1
    ·unfold uV at h1
     simp only [K2,Lm] at h1
     obtain ⟨n1,n2,n3,n4,n5⟩:=h1
     have e1:=rF.ca n1.1 n1.2
     have e2:q.acc=[]:=by
      rw [L9] at n3
      refine List.eq_nil_iff_forall_not_mem.2 fun id hid=> ?_
      obtain ⟨nm,eV,_⟩:=l4.acc (l4.nw n2).1 n4 id hid
      rw [n3] at eV;simp at eV
     show eQ r q=true
     unfold eQ
     rw [e1,e2]
     simp only [List.contains_nil,LU,Bool.and_true,Bool.true_and,K2,K6,Lm,LI,Lo]
     refine ⟨fun id hid=>⟨by simp,fun hc=> ?_⟩,by simp⟩
     have b1:=hlt i j r q hi hr hq id hid
     have b2:=(l4.nw n2).2 id hc
     omega
   ·simp at h1
 ·rcases hd j (by rw [<-h.len];exact hj) i hi with h1|h1
  ·exact .inl h1
  ·right
   split at h1
   ·rename_i x y hx hy
    obtain ⟨r,c,hr,hc,rF,b6⟩:=h.get i x hx
    obtain ⟨q,e,hq,he,l4,uW⟩:=h.get j y hy
    rw [hr,hq]
    have emp:∀{r:Rec},r.keys=[]->r.ups.isEmpty=true:=fun {r} hk=>by
     unfold Rec.keys at hk
     rw [List.map_eq_nil_iff] at hk
     rw [hk];rfl
    rw [Ls] at h1
    rcases h1 with h1|h1
    case inr=>
     unfold uV at h1
     simp only [K2,Lm] at h1
     obtain ⟨n1,n2,n3,n4,n5⟩:=h1
     have ce:=uW (l4.nw n2).1
     subst ce
     have hY:cj hs j=false:=by unfold cj;rw [he]
     have ej:=jI j y hy n2
     have eb:Nat.beq j jn=true:=by rw [ej];exact Nat.beq_refl _
     simp only [hY,eb,n5];simp
    unfold rE at h1
    cases hxa:x.all with
    |true=>
     rw [hxa,K5] at h1
     simp only [K2,Lm] at h1
     have ce:=uW h1.1
     subst ce
     have k1:=l4.nk h1.1 h1.2.2.1
     have:cj hs j=false:=by unfold cj;rw [he]
     simp only [this,emp k1];simp
    |false=>
     rw [hxa,Ln] at h1
     have cc:=b6 hxa
     subst cc
     have hi:cj hs i=false:=by unfold cj;rw [hc]
     cases hya:y.all with
     |true=>
      rw [hya,K5,K2,K2] at h1
      have k1:=rF.nk hxa h1.2.1
      simp only [hi,emp k1];simp
     |false=>
      have ce:=uW hya
      subst ce
      have hY:cj hs j=false:=by unfold cj;rw [he]
      simp only [hi,hY];simp
   ·simp at h1
theorem rG (h:Nat->Option Bk):∀(l:List Nat) (g:Nat->Option Bk) (id:Nat),au g (l.map fun i=>(i,h i)) id=if id∈l then h id else g id
 |[],g,id=>by simp [au]
 |a::r,g,id=>by
  rw [Lf,au,rG h r]
  by_cases h1:id∈r<;>by_cases h2:id=a<;>simp [h1,h2]
theorem uX (g h:Nat->Option Bk) (K id:Nat):au g ((List.range K).map fun i=>(i,h i)) id=if id<K then h id else g id:=by
 rw [rG];simp only [LH]
theorem zB {P:Program} {f:FuncId} {as_:List AV} {g1:Nat->Option Bk} {r:AV} (h:Fi P f as_ g k r g1 k1):Fi P f as_ g k r (au g ((List.range (max k k1)).map fun i=>(i,g1 i))) (max k k1):=by
 intro E J base vs hG hm ba b6
 refine (h E J base vs hG hm ba b6).mono ?_
 rintro e w' ⟨v,E',he,hw,hle,hr,hM,hb,hk⟩
 refine ⟨v,E',he,hw,hle,hr, ?_,hb,fun id hid=>by have:=hk id hid;omega⟩
 have:au g ((List.range (max k k1)).map fun i=>(i,g1 i))=g1:=by
  funext id
  rw [uX]
  by_cases hi:id<max k k1
  ·rw [K1 hi]
  ·rw [K0 hi]
   have e1:g id=none:=by
    cases hq:g id with
    |none=>rfl
    |some B=>exact absurd (ba id ((hm.live id).2 ⟨B,hq⟩).1) (by omega)
   have e2:g1 id=none:=by
    cases hq:g1 id with
    |none=>rfl
    |some B=>exact absurd (hk id ((hM.live id).2 ⟨B,hq⟩).1) (by omega)
   rw [e1,e2]
 rw [this];exact hM
def AO.uns:AO->List Nat
 | .pick c _ _=>c.slot
 |ao=>ao.oa
def SS.set (st:SS τ dn) (d:Option Nat) (v:SV τ dn):SS τ dn:=⟨st.rt,st.rm,gi st.t d v,st.m,st.nx⟩
variable [DecidableEq τ]
def eX (z:Bool):List (Nat×Option (SB τ dn))->List (Nat×Option (SB τ dn))
 |[]=>[]
 |e::r=>bif Bool.xor (Nat.beq e.1 0) z then eX z r else e::eX z r
theorem zC {z:Bool}:∀{m:List (Nat×Option (SB τ dn))} {nm:Nat},getS (eX z m) nm=if Bool.xor (Nat.beq nm 0) z=true then none else getS m nm
 |[],nm=>by simp [eX,getS]
 |e::r,nm=>by
  have ih:=zC (z:=z) (m:=r) (nm:=nm)
  unfold eX
  cases hb:Bool.xor (Nat.beq e.1 0) z with
  |true=>
   rw [K5,ih,show (e::r)=((e.1,e.2)::r) from rfl,aV]
   by_cases q:nm=e.1
   ·rw [q,K1 hb,K1 hb]
   ·rw [K0 q]
  |false=>
   rw [Ln,show (e::eX z r)=((e.1,e.2)::eX z r) from rfl,aV,ih,show (e::r)=((e.1,e.2)::r) from rfl,aV]
   by_cases q:nm=e.1
   ·rw [q,K1 rfl,K1 rfl,hb];simp
   ·rw [K0 q,K0 q]
theorem l5 {α:Type}:∀{a b:List (Nat×α)} {i:Nat},getS (a++b) i=(match getS a i with|some v=>some v|none=>getS b i)
 |[],b,i=>by simp [getS]
 |e::r,b,i=>by
  have ih:=l5 (a:=r) (b:=b) (i:=i)
  rw [Mj,show (e::(r++b))=((e.1,e.2)::(r++b)) from rfl,aV,show (e::r)=((e.1,e.2)::r) from rfl,aV,ih]
  by_cases q:i=e.1
  ·rw [K1 q,K1 q]
  ·rw [K0 q,K0 q]
def SS.hid (st:SS τ dn):SS τ dn:=⟨st.rt,eX false st.m++st.rm,st.t,eX true st.m,st.nx⟩
def l6 (l:List (Nat×Option (SB τ dn))):List (Nat×Option (SB τ dn))->List Nat
 |[]=>[]
 |e::r=>bif (match getS l e.1 with|some (some _)=>true|_=>false) then e.1::l6 l r else l6 l r
def SS.l7 (st:SS τ dn):List Nat:=l6 st.hid.rm st.hid.rm
def pb (rm:List (Nat×Option (SB τ dn))):List (Nat×Option (SB τ dn))->Bool
 |[]=>true
 |e::r=>(getS rm e.1).isNone&&pb rm r
def hidB (hd:Bool) (dep:Option (List (List Nat))) (st:SS τ dn) (vs:List (SV τ dn)):Bool:=dep.isSome&&((hd||SV.db (fun _=>false) vs)&&pb st.rm (eX false st.m))
def HR (C:bU τ dn):Arg->Bool
 | .c (.fn f _)=>(C.Δ.any fun c=>Nat.beq c.f f)||C.Ω.any fun c=>Nat.beq c.f f
 |_=>false
def HS (C:bU τ dn) (dep:Option (List (List Nat))) (os:List az):Bool:=dep.isNone||(os.any fun o=>match o.ao with
 | .call x _=> !HR C x
 | .app _ b _ _=>Nat.beq b 24
 |_=>false)||((os.any fun o=>match o.ao with
 | .call (.c (.fn f _)) _=>C.Ω.any fun c=>Nat.beq c.f f
 | .load (some _) _=>true
 | .msl _ b _ _ _=>Nat.beq b 24
 |_=>false)&&os.any fun o=>match o.ao with
 | .store _ _ _=>true
 |_=>false)
def SS.rH (st:SS τ dn):Bool:=match st.gm 0 with
 |some (.ar _ _)=>true
 |_=>false
def cY (B:Bool) (st:SS τ dn) (keys acc:List Nat) (nb:Bool:=false):NR:=⟨keys,acc,B&&(st.rH&&keys.any (Nat.beq 0)),B&&(st.rH&&acc.any (Nat.beq 0)),[],nb⟩
def na (o:az) (r:SR τ dn) (rs:List NR):Bool:=(match r with| .new _ _ _=>true|_=>false)&&(gg o&&(!(rs.any fun x=>x.nw)))
def SS.fj (st:SS τ dn) (i:Nat) (v:SV τ dn):SS τ dn:=⟨st.rt,st.rm,(i,v)::st.t,st.m,st.nx⟩
def uY (i:Option Nat) (st:SS τ dn) (K:SS τ dn->Prop):Prop:=match i with
 |none=>K st
 |some i=>match st.gt i with
  |some (.vb c)=>(c.tf true->K (st.fj i (.vt true)))/\(c.tf false->K (st.fj i (.vt false)))
  |_=>K st
theorem Rel.fj {D:TD τ dn} {N:aw} {st:SS τ dn} {s:S3} (R:Rel D N st s) {i:Nat} {c:Cn} (h:st.gt i=some (.vb c)) {b:Bool} (hb:c.den=b):Rel D N (st.fj i (.vt b)) s:=by
 refine ⟨fun N' hN=> ?_,R.inj,R.lt,R.ml,R.rl,R.sp⟩
 have A:=R.at_ N' hN
 refine ⟨fun j v hv=> ?_,A.rs,A.bl,A.rb,A.ar⟩
 simp only [SS.fj,aV] at hv
 split at hv
 ·rename_i e
  simp only [KZ] at hv
  subst hv;subst e
  rw [A.gt h]
  simp only [SV.av,hb]
 ·exact A.sl j v hv
theorem HT {D:TD τ dn} {i:Option Nat} {st:SS τ dn} {K:SS τ dn->Prop} (R:Rel D N st s) (h:uY i st K):∃ah,Rel D N ah s/\ah.rt=st.rt/\ah.rm=st.rm/\ah.nx=st.nx/\K ah:=by
 unfold uY at h
 split at h
 ·exact ⟨st,R,rfl,rfl,rfl,h⟩
 ·split at h
  ·rename_i j c hc
   cases hd:c.den with
   |true=>exact ⟨_,R.fj hc hd,rfl,rfl,rfl,h.1 ((Cn.gW c true).2 hd)⟩
   |false=>exact ⟨_,R.fj hc hd,rfl,rfl,rfl,h.2 ((Cn.gW c false).2 hd)⟩
  ·exact ⟨st,R,rfl,rfl,rfl,h⟩
def nc (C:bU τ dn) (st:SS τ dn) (o:az):Option Nat:=match o.guard with
 |some (i,_)=>match st.gt i with
  |some (.vb _)=>match o.ao with
   | .call _ _=>match iD C (st.unw o.ao.uns) o.ao with
    |some _=>none
    |none=>some i
   |_=>none
  |_=>none
 |none=>none
def nd (C:bU τ dn) (st:SS τ dn) (o:az) (os:List az) (K:SS τ dn->Prop):Prop:=match nc C st o with
 |none=>K st
 |some i=>match o.guard with
  |some (_,w)=>match st.gt i with
   |some (.vb c)=>((c.pol w).tf true->eW (gX (st.fj i (.vt w)) (c.pol w) ((o::os).flatMap fun o=>o.ao.uns)) (K ((st.fj i (.vt w)).unw ((o::os).flatMap fun o=>o.ao.uns))))/\((c.pol w).tf false->K (st.fj i (.vt !w)))
   |_=>K st
  |none=>K st
theorem uZ {C:bU τ dn} {st:SS τ dn} (h:(∀e,st.gd o.guard≠ .jU e)\/∃r,iD C (st.unw o.ao.uns) o.ao=some r):nc C st o=none:=by
 unfold nc
 split
 ·rename_i i w hg
  split
  ·rename_i c hc
   split
   ·rename_i x args cw
    split
    ·rfl
    ·rename_i hn
     rcases h with h|⟨r,h⟩
     ·exact absurd (by rw [hg];simp only [SS.gd,hc]) (h (c.pol w))
     ·rw [h] at hn;cases hn
   ·rfl
  ·rfl
 ·rfl
def wpOps (C:bU τ dn) (n:Nat) (dep:Option (List (List Nat))) (B:Bool):List az->List NR->SS τ dn->(SS τ dn->Prop)->Prop
 |[],rs,st,K=>match dep with
  |none=>K st
  |some d=>bif idsN rs d then K st else False
 |o::os,rs,st,K=>je C.D (bif B then needs C.D st o.ao else []) st fun st=>nd C st o os fun st=>bif dstS n st.rt o.dst then (match st.gd o.guard with
  | .yes=>match iD C st o.ao with
   |some (r,ns)=>eW r.O (wpOps C n dep B os (rs++[cY B st (r.keys st) ns (na o r rs&& !(cY B st (r.keys st) ns).all)]) (r.st st o.dst) K)
   |none=>match o.ao with
    | .call x args=>match m6 st x args with
     |some (f,vs)=>bif B then (bif hidB C.hd dep st vs then C.J f vs st.hid fun v st1=>wpOps C n dep B os (rs++[⟨[],[],true,false,st.l7,false⟩]) ⟨st.rt,st.rm,gi st.t o.dst v,st1.m++eX false st.m,st1.nx⟩ K else C.J f vs st fun v st1=>wpOps C n dep B os (rs++[⟨[],[],true,false,[],false⟩]) ⟨st.rt,st.rm,gi st.t o.dst v,st1.m,st1.nx⟩ K) else False
     |none=>False
    |_=>False
  | .no=>wpOps C n dep B os (rs++[⟨[],[],false,false,[],false⟩]) (st.set o.dst (.vo undef)) K
  | .jU e=>match iD C (st.unw o.ao.uns) o.ao with
   |some (.val O v,ns)=>eW (gX st e o.ao.uns++O.map fun p=>e.tf true->p) (wpOps C n dep B os (rs++[cY B st [] ns]) (st.set o.dst (.vg true e v)) K)
   |_=>False
  | .bad=>False) else False
structure er (B:Bool) (Q:Nat->Prop) (N:aw) (st:SS τ dn) (s:S3):Prop where
 q0:B=true->∀id,¬Q id
 qa:∀nm X,(getS st.m nm=some (some X)\/getS st.rm nm=some (some X))->¬Q (N.ι nm)
 qb:B=false->∀id,fL st id->Q id
 qk:∀id,Q id->id<s.k
theorem er.pc {st:SS τ dn} (h:∀id,¬Q id):er true Q N st s:=⟨fun _=>h,fun _ _ _=>h _,fun hh=>by simp at hh,fun id hid=>absurd hid (h id)⟩
theorem zD {C:bU τ dn} {B:Bool} {st:SS τ dn} {K:SS τ dn->Prop} (R:Rel C.D N st s) (M:er B Q N st s) (h:nd C st o os K):∃ah,Rel C.D N ah s/\er B Q N ah s/\ah.rt=st.rt/\ah.rm=st.rm/\ah.nx=st.nx/\K ah:=by
 unfold nd at h
 split at h
 ·exact ⟨st,R,M,rfl,rfl,rfl,h⟩
 ·rename_i i _
  split at h
  ·rename_i _ w _
   split at h
   ·rename_i c hc
    cases hd:(c.pol w).den with
    |true=>
     have hcd:c.den=w:=by cases w<;>simpa [Cn.pol,Cn.den] using hd
     have R1:=R.fj hc hcd
     have h1:=(iA.1 (h.1 ((Cn.gW _ true).2 hd)))
     exact ⟨(st.fj i (.vt w)).unw ((o::os).flatMap fun o=>o.ao.uns),⟨fun N' hN=>za (R1.at_ N' hN) hd h1.1,R1.inj,R1.lt,R1.ml,R1.rl,R1.sp⟩,⟨M.q0,M.qa,M.qb,M.qk⟩,rfl,rfl,rfl,h1.2⟩
    |false=>
     have hcd:c.den= !w:=by cases w<;>simpa [Cn.pol,Cn.den] using hd
     exact ⟨_,R.fj hc hcd,⟨M.q0,M.qa,M.qb,M.qk⟩,rfl,rfl,rfl,h.2 ((Cn.gW _ false).2 hd)⟩
   ·exact ⟨st,R,M,rfl,rfl,rfl,h⟩
  ·exact ⟨st,R,M,rfl,rfl,rfl,h⟩
theorem SR.HU {D:TD τ dn} {st:SS τ dn} {r:SR τ dn} (hm:r.may D N st) {X:SB τ dn} (h:getS (r.st st d).m nm=some (some X)\/getS (r.st st d).rm nm=some (some X)):(nm=st.nx/\r.nx st=st.nx+1)\/∃X',getS st.m nm=some (some X')\/getS st.rm nm=some (some X'):=by
 have rI:(r.st st d).rm=st.rm:=by cases r<;>rfl
 rw [rI] at h
 rcases h with h|h
 case inr=>exact .inr ⟨X, .inr h⟩
 cases r with
 |val O v=>exact .inr ⟨X, .inl h⟩
 |new O v B=>
  simp only [SR.st,aV] at h
  by_cases hn:nm=st.nx
  ·exact .inl ⟨hn,rfl⟩
  ·rw [K0 hn] at h;exact .inr ⟨X, .inl h⟩
 |put O v dH B=>
  simp only [SR.st,aV] at h
  by_cases hn:nm=dH
  ·subst hn;obtain ⟨⟨B0,bY,_⟩,_⟩:=hm;exact .inr ⟨B0, .inl bY⟩
  ·rw [K0 hn] at h;exact .inr ⟨X, .inl h⟩
 |mov O v aL B=>
  simp only [SR.st,aV] at h
  by_cases hn:nm=st.nx
  ·exact .inl ⟨hn,rfl⟩
  ·rw [K0 hn] at h
   by_cases ho:nm=aL
   ·rw [K1 ho] at h;simp at h
   ·rw [K0 ho] at h;exact .inr ⟨X, .inl h⟩
 |ff O v ns=>
  rcases o0 h with ⟨_,h2⟩|⟨_,h2⟩
  ·simp at h2
  ·exact .inr ⟨X, .inl h2⟩
 |dZ O v id t row A=>
  simp only [SR.st,aV] at h
  by_cases hn:nm=0
  ·subst hn;exact .inr ⟨_, .inl hm.1⟩
  ·rw [K0 hn] at h;exact .inr ⟨X, .inl h⟩
theorem SR.HV {D:TD τ dn} {st:SS τ dn} {r:SR τ dn} (hm:r.may D N st) {id:Nat} (h:fL (r.st st d) id):fL st id:=by
 obtain ⟨t,A,h,hid⟩:=h
 have bH:∀{x:SS τ dn} {dH:Nat} {B:Option (SB τ dn)} {t':List (Nat×SV τ dn)} {m:List (Nat×Option (SB τ dn))} {nx:Nat},(⟨st.rt,st.rm,t',(dH,B)::m,nx⟩:SS τ dn).gm 0=some (.ar t A)->(∀b,B=some b->b.gC=false)->(⟨st.rt,st.rm,st.t,m,st.nx⟩:SS τ dn).gm 0=some (.ar t A):=fun {x dH B t' m nx} h hB=>by
  rw [yT (rt':=st.rt) (t':=st.t) (nx':=st.nx)] at h
  by_cases h0:0=dH
  ·rw [K1 h0] at h;have:=hB _ h;simp [SB.gC] at this
  ·rw [K0 h0] at h;exact h
 cases r with
 |val O v=>exact ⟨t,A,h,hid⟩
 |new O v B=>exact ⟨t,A,bH (x:=st) h (fun b hb=>by simp only [KZ] at hb;subst hb;exact hm),hid⟩
 |put O v dH B=>exact ⟨t,A,bH (x:=st) h (fun b hb=>by simp only [KZ] at hb;subst hb;exact hm.2.2),hid⟩
 |mov O v aL B=>
  have h1:=bH (x:=st) h (fun b hb=>by simp only [KZ] at hb;subst hb;exact hm.2.2)
  exact ⟨t,A,bH (x:=st) h1 (fun b hb=>by simp at hb),hid⟩
 |ff O v ns=>
  refine ⟨t,A, ?_,hid⟩
  have hh:∀(l:List Nat),(⟨st.rt,st.rm,st.t,(l.map fun a=>(a,(none:Option (SB τ dn))))++st.m,st.nx⟩:SS τ dn).gm 0=some (.ar t A)->st.gm 0=some (.ar t A):=by
   intro l
   induction l with
   |nil=>exact fun h=>h
   |cons a l ih=>
    intro h
    rw [Lf,Mj] at h
    exact ih (bH (x:=st) h (fun b hb=>by simp at hb))
  exact hh ns h
 |dZ O v jT t0 row A0=>
  simp only [SR.st] at h
  rw [yT (rt':=st.rt) (t':=st.t) (nx':=st.nx),K1 rfl,KZ] at h
  simp only [SB.ar.injEq] at h
  obtain ⟨rfl,h⟩:=h
  have h:=eq_of_heq h
  subst h
  refine ⟨t0,A0,kR hm.1, ?_⟩
  rcases ox.1 hid with hh|hh
  ·subst hh;exact hm.2.2
  ·exact hh
theorem nh {st:SS τ dn} (h:st.live nm=true):nm<st.nx/\∃X,getS st.m nm=some (some X)\/getS st.rm nm=some (some X):=by
 unfold SS.live at h
 rw [K2] at h
 obtain ⟨B,hB⟩:=MU.1 h.2
 exact ⟨LV h.1,B,fI hB⟩
theorem zE {st:SS τ dn} {id:Nat} (h:fL st id):st.rH=true:=by
 obtain ⟨t,A,h,_⟩:=h
 unfold SS.rH;rw [h]
theorem zF (h:0∈l):l.any (Nat.beq 0)=true:=MT.2 ⟨0,h,rfl⟩
theorem zG {B:Bool} {st:SS τ dn} {s:S3} (M:er B Q N st s) {keys acc:List Nat} (ha:(cY B st keys acc).ra=false) {id:Nat} (hn:nm∈acc) (hl:st.live nm=true) (h:id=N.ι nm\/(nm=0/\fL st id)):g4 N Q nm id:=by
 rcases h with h|⟨rfl,h⟩
 ·obtain ⟨_,X,hX⟩:=nh hl
  exact .inl ⟨h,by rw [h];exact M.qa nm X hX⟩
 ·cases B with
  |false=>exact .inr ⟨rfl,M.qb rfl id h⟩
  |true=>
   simp only [cY,zE h,zF hn,Bool.and_true] at ha
   simp at ha
theorem u0 {l:List (Nat×Option (SB τ dn))}:∀{m:List (Nat×Option (SB τ dn))} {nm:Nat},nm∈l6 l m->∃B,getS l nm=some (some B)
 |[],nm,h=>by simp [l6] at h
 |e::r,nm,h=>by
  have go:nm∈l6 l r->∃B,getS l nm=some (some B):=u0
  unfold l6 at h
  cases hb:(match getS l e.1 with|some (some _)=>true|_=>false) with
  |false=>rw [hb,Ln] at h;exact go h
  |true=>
   rw [hb,K5] at h
   rcases Lc.1 h with rfl|h
   ·split at hb
    ·rename_i B hB;exact ⟨B,hB⟩
    ·cases hb
   ·exact go h
theorem zH {rm:List (Nat×Option (SB τ dn))}:∀{m:List (Nat×Option (SB τ dn))} {nm:Nat} {v:Option (SB τ dn)},pb rm m=true->getS m nm=some v->getS rm nm=none
 |[],nm,v,_,h=>by simp [getS] at h
 |e::r,nm,v,hd,h=>by
  unfold pb at hd
  rw [K2] at hd
  rw [show (e::r)=((e.1,e.2)::r) from rfl,aV] at h
  by_cases q:nm=e.1
  ·rw [q];exact Option.isNone_iff_eq_none.1 hd.1
  ·rw [K0 q] at h;exact zH hd.2 h
theorem ni {z:Bool} {m:List (Nat×Option (SB τ dn))} {v:Option (SB τ dn)} (h:getS (eX z m) nm=some v):getS m nm=some v/\Bool.xor (Nat.beq nm 0) z=false:=by
 rw [zC] at h
 split at h
 ·cases h
 ·rename_i q;exact ⟨h,by simpa using q⟩
theorem HW {C:bU τ dn} (hC:C.Ok) {dep:Option (List (List Nat))} {xs:List NR} {st:SS τ dn} {K:SS τ dn->Prop} (R:Rel C.D N st s) (M:er true Q N st s)
  (g1:st.gd o.guard= .yes->bL s.σ o.guard=some true) (cv:st.gd o.guard= .yes) {x:Arg} (cw:o.ao= .call x args) (hd:dstS n st.rt o.dst=true) {f:FuncId} {vs:List (SV τ dn)} (dX:m6 st x args=some (f,vs)) (fA:∀N',N.aZ st.nx N'->vs.map (SV.av C.D.toTE N')=vs.map (SV.av C.D.toTE N)) (hh:hidB C.hd dep st vs=true)
  (h:C.J f vs st.hid fun v st1=>wpOps C n dep true os (xs++[⟨[],[],true,false,st.l7,false⟩]) ⟨st.rt,st.rm,gi st.t o.dst v,st1.m++eX false st.m,st1.nx⟩ K):
  (∃val ups acc x cL N',de C.P s.σ s.g s.k o val ups acc/\wpOps C n dep true os (xs++[x]) cL K/\N.aZ st.nx N'/\st.nx<=cL.nx/\g5 N' Q cL.nx ⟨o.dst,val,ups,acc,s.k⟩ x/\(x.nw=true->gg o=true/\(xs.any fun x=>x.nw)=false)/\(cL.rt=st.rt/\cL.rm=st.rm)/\∃k1,s.k<=k1/\(∀id,id∈ups.map Prod.fst->id<k1)/\Rel C.D N' cL ⟨bw n o.dst val s.σ,au s.g ups,k1⟩/\er true Q N' cL ⟨bw n o.dst val s.σ,au s.g ups,k1⟩)\/
  ∃f as_ r ups k1 cL N',bL s.σ o.guard=some true/\o.ao.allocs=false/\(o.ao.ae s.k (aE s.σ)).run s.g=some (.call f as_)/\bW C.P f=true/\Fi C.P f as_ s.g s.k r (au s.g ups) k1/\(s.k<=k1/\∀id,id∈ups.map Prod.fst->id<k1)/\(∃ex,(∀nm,nm∈ex->nm<cL.nx/\∀id,id∈ups.map Prod.fst->¬g4 N' Q nm id)/\wpOps C n dep true os (xs++[⟨[],[],true,false,ex,false⟩]) cL K)/\N.aZ st.nx N'/\st.nx<=cL.nx/\(cL.rt=st.rt/\cL.rm=st.rm)/\Rel C.D N' cL ⟨bw n o.dst r s.σ,au s.g ups,k1⟩/\er true Q N' cL ⟨bw n o.dst r s.σ,au s.g ups,k1⟩:=by
 have nK:pb st.rm (eX false st.m)=true:=by
  unfold hidB at hh
  rw [K2,K2] at hh
  exact hh.2.2
 have cE:∀nm B,st.hid.bm nm B->st.bm nm B:=fun nm B hB=>by
  rcases hB with hB|hB
  ·exact .inl (ni hB).1
  ·simp only [SS.hid,l5] at hB
   split at hB
   ·rename_i v hv
    rw [hB] at hv
    exact .inl (ni hv).1
   ·exact .inr hB
 have fU:∀nm v,getS st.hid.rm nm=some v->getS st.m nm=some v\/getS st.rm nm=some v:=fun nm v hv=>by
  simp only [SS.hid,l5] at hv
  split at hv
  ·rename_i w hw
   rw [hv] at hw
   exact .inl (ni hw).1
  ·exact .inr hv
 have Rh:Rel C.D N st.hid s:=by
  refine ⟨fun N' hN=> ?_,R.inj,R.lt,fun nm B hB=>R.ml nm B (ni hB).1,fun nm B hB=> ?_,fun t A h id hid=> ?_⟩
  ·have A:=R.at_ N' hN
   refine ⟨A.sl,A.rs,fun nm B hB=>A.bl nm B (ni hB).1,fun nm B hB=> ?_,fun t X hX id hid=>A.ar t X (cE 0 _ hX) id hid⟩
   rcases fU nm _ hB with q|q
   ·exact A.bl nm B q
   ·exact A.rb nm B q
  ·rcases fU nm _ hB with q|q
   ·exact R.ml nm B q
   ·exact R.rl nm B q
  ·obtain ⟨q1,q2⟩:=R.sp t A (cE 0 _ h) id hid
   exact ⟨q1,fun nm B hB=>q2 nm B (cE nm B hB)⟩
 have hc0:=m7 R.here dX s.k
 obtain ⟨h1,j3,k1,N',v,st1,h2,h3,h4,h5,h6,h7⟩:=hC.inl Rh fA h
 have u4:∀id,id<k1->au s.g ((List.range (max s.k k1)).map fun i=>(i,j3 i)) id=j3 id:=fun id hid=>by rw [uX,K1 (by omega)]
 have hu:au s.g (((List.range (max s.k k1)).filter fun i=> !(st.l7.map N'.ι).contains i).map fun i=>(i,j3 i))=au s.g ((List.range (max s.k k1)).map fun i=>(i,j3 i)):=by
  funext id
  rw [rG,rG]
  simp only [List.mem_filter]
  by_cases q1:id∈List.range (max s.k k1)
  ·by_cases q2:(st.l7.map N'.ι).contains id=true
   ·rw [K0 (by rw [q2];simp),K1 q1]
    obtain ⟨nm,hn,rfl⟩:=Lz.1 (Mi.1 q2)
    obtain ⟨B,hB⟩:=u0 hn
    exact ((Rh.at_ N' h4).rb nm B hB).1.trans (h6.here.rb nm B hB).1.symm
   ·rw [K1 ⟨q1,by simpa using q2⟩,K1 q1]
  ·rw [K0 (fun q=>q1 q.1),K0 q1]
 have pe:∀nm B,(getS (st1.m++eX false st.m) nm=some (some B)\/getS st.rm nm=some (some B))->(getS st1.m nm=some (some B)\/getS st.hid.rm nm=some (some B)):=fun nm B hB=>by
  rcases hB with hB|hB
  ·rw [l5] at hB
   split at hB
   ·rename_i w hw
    rw [hB] at hw;exact .inl hw
   ·exact .inr (by simp only [SS.hid,l5,hB])
  ·right
   simp only [SS.hid,l5]
   split
   ·rename_i w hw
    rw [zH nK hw] at hB;cases hB
   ·exact hB
 refine .inr ⟨f,_,_,_,max s.k k1,_,N',g1 cv,by rw [cw];rfl,by rw [cw];exact hc0,h1,by rw [hu];exact zB h2,⟨Nat.le_max_left _ _,fun id hid=> ?_⟩,⟨st.l7,fun nm hn=> ?_,h7⟩,h4,h5,⟨rfl,rfl⟩, ?_,er.pc (M.q0 rfl)⟩
 ·rw [MG] at hid
  obtain ⟨i,hi,rfl⟩:=Lz.1 hid
  exact LH.1 (List.mem_filter.1 hi).1
 ·obtain ⟨B,hB⟩:=u0 hn
  refine ⟨h6.rl nm _ hB,fun id hid hq=> ?_⟩
  rcases hq with ⟨hq,_⟩|⟨_,hq⟩
  ·rw [MG] at hid
   obtain ⟨i,hi,rfl⟩:=Lz.1 hid
   have lB:=(List.mem_filter.1 hi).2
   simp only [Function.comp_apply] at hq
   subst hq
   have hq:(st.l7.map N'.ι).contains (N'.ι nm)=true:=Mi.2 (List.mem_map_of_mem hn)
   rw [hq] at lB
   simp at lB
  ·exact M.q0 rfl id hq
 ·rw [hu]
  refine ⟨fun bJ hN=> ?_,h6.inj,fun a ha=>Lr (h6.lt a ha) (Nat.le_max_right _ _),fun nm B hB=> ?_,fun nm B hB=> ?_,fun t A hg id hid=> ?_⟩
  ·have A:=h6.at_ bJ hN
   have A0:=R.at_ bJ (aw.ep h4 hN h5)
   obtain ⟨q1,q2⟩:=kQ (D:=C.D) (n:=n) (v:=v) (a:=v.av C.D.toTE N') hd A0.sl A0.rs (h3 bJ hN).symm
   have hlt:∀nm,nm<st1.nx->bJ.ι nm<k1:=fun nm hn=>by rw [(hN.1 nm hn).1];exact h6.lt nm hn
   have hb:∀nm B,(getS (st1.m++eX false st.m) nm=some (some B)\/getS st.rm nm=some (some B))->au s.g ((List.range (max s.k k1)).map fun i=>(i,j3 i)) (bJ.ι nm)=some (B.av C.D.toTE bJ)/\bJ.ln nm=B.len:=fun nm B hB=>by
    rcases pe nm B hB with hB|hB
    ·exact ⟨(u4 _ (hlt nm (h6.ml nm _ hB))).trans (A.bl nm B hB).1,(A.bl nm B hB).2⟩
    ·exact ⟨(u4 _ (hlt nm (h6.rl nm _ hB))).trans (A.rb nm B hB).1,(A.rb nm B hB).2⟩
   exact ⟨q1,q2,fun nm B hB=>hb nm B (.inl hB),fun nm B hB=>hb nm B (.inr hB),fun t A' hg id hid=>(u4 _ (h6.sp t A' (pe 0 _ hg) id hid).1).trans (A.ar t A' (pe 0 _ hg) id hid)⟩
  ·simp only [l5] at hB
   split at hB
   ·rename_i w hw;exact h6.ml nm w hw
   ·exact Lr (R.ml nm B (ni hB).1) h5
  ·exact Lr (R.rl nm B hB) h5
  ·obtain ⟨q1,q2⟩:=h6.sp t A (pe 0 _ hg) id hid
   exact ⟨Lr q1 (Nat.le_max_right _ _),fun nm B hB=>q2 nm B (pe nm B hB)⟩
theorem zI {C:bU τ dn} (hC:C.Ok) {dep:Option (List (List Nat))} {B:Bool} {xs:List NR} {eu:SS τ dn} {K:SS τ dn->Prop} (R0:Rel C.D N eu s) (M0:er B Q N eu s) (h9:wpOps C n dep B (o::os) xs eu K):
  (∃val ups acc x cL N',de C.P s.σ s.g s.k o val ups acc/\wpOps C n dep B os (xs++[x]) cL K/\N.aZ eu.nx N'/\eu.nx<=cL.nx/\g5 N' Q cL.nx ⟨o.dst,val,ups,acc,s.k⟩ x/\(x.nw=true->gg o=true/\(xs.any fun x=>x.nw)=false)/\(cL.rt=eu.rt/\cL.rm=eu.rm)/\∃k1,s.k<=k1/\(∀id,id∈ups.map Prod.fst->id<k1)/\Rel C.D N' cL ⟨bw n o.dst val s.σ,au s.g ups,k1⟩/\er B Q N' cL ⟨bw n o.dst val s.σ,au s.g ups,k1⟩)\/
  ∃f as_ r ups k1 cL N',bL s.σ o.guard=some true/\o.ao.allocs=false/\(o.ao.ae s.k (aE s.σ)).run s.g=some (.call f as_)/\bW C.P f=true/\Fi C.P f as_ s.g s.k r (au s.g ups) k1/\(s.k<=k1/\∀id,id∈ups.map Prod.fst->id<k1)/\(∃ex,(∀nm,nm∈ex->nm<cL.nx/\∀id,id∈ups.map Prod.fst->¬g4 N' Q nm id)/\wpOps C n dep B os (xs++[⟨[],[],true,false,ex,false⟩]) cL K)/\N.aZ eu.nx N'/\eu.nx<=cL.nx/\(cL.rt=eu.rt/\cL.rm=eu.rm)/\Rel C.D N' cL ⟨bw n o.dst r s.σ,au s.g ups,k1⟩/\er B Q N' cL ⟨bw n o.dst r s.σ,au s.g ups,k1⟩:=by
 have h:=h9
 simp only [wpOps] at h
 have h0:∃aO,Rel C.D N aO s/\er B Q N aO s/\aO.rt=eu.rt/\aO.rm=eu.rm/\aO.nx=eu.nx/\(bif dstS n aO.rt o.dst then (match aO.gd o.guard with
  | .yes=>match iD C aO o.ao with
   |some (r,ns)=>eW r.O (wpOps C n dep B os (xs++[cY B aO (r.keys aO) ns (na o r xs&& !(cY B aO (r.keys aO) ns).all)]) (r.st aO o.dst) K)
   |none=>match o.ao with
    | .call x args=>match m6 aO x args with
     |some (f,vs)=>bif B then (bif hidB C.hd dep aO vs then C.J f vs aO.hid fun v st1=>wpOps C n dep B os (xs++[⟨[],[],true,false,aO.l7,false⟩]) ⟨aO.rt,aO.rm,gi aO.t o.dst v,st1.m++eX false aO.m,st1.nx⟩ K else C.J f vs aO fun v st1=>wpOps C n dep B os (xs++[⟨[],[],true,false,[],false⟩]) ⟨aO.rt,aO.rm,gi aO.t o.dst v,st1.m,st1.nx⟩ K) else False
     |none=>False
    |_=>False
  | .no=>wpOps C n dep B os (xs++[⟨[],[],false,false,[],false⟩]) (aO.set o.dst (.vo undef)) K
  | .jU e=>match iD C (aO.unw o.ao.uns) o.ao with
   |some (.val O v,ns)=>eW (gX aO e o.ao.uns++O.map fun p=>e.tf true->p) (wpOps C n dep B os (xs++[cY B aO [] ns]) (aO.set o.dst (.vg true e v)) K)
   |_=>False
  | .bad=>False) else False):=by
  cases B with
  |false=>
   simp only [Ln,je] at h
   exact zD R0 M0 h
  |true=>
   obtain ⟨aO,q1,q2,q3,q4,q5⟩:=rz hC.ok R0 h
   obtain ⟨kV,p1,p2,p3,p4,p5,p6⟩:=zD q1 (er.pc (M0.q0 rfl)) q5
   exact ⟨kV,p1,p2,p3.trans q2,p4.trans q3,p5.trans q4,p6⟩
 clear h
 obtain ⟨st,R,M,z1,z2,z3,h⟩:=h0
 rw [<-z1, <-z2, <-z3]
 clear z1 z2 z3
 clear R0 M0 h9 eu
 cases hd:dstS n st.rt o.dst with
 |false=>rw [hd] at h;exact h.elim
 |true=>
  rw [hd,K5] at h
  obtain ⟨g1,g2,g3⟩:=Hm R.here (x:=o.guard)
  split at h
  ·rename_i cv
   split at h
   ·rename_i r ns hr
    rw [iA] at h
    obtain ⟨hO,h⟩:=h
    obtain ⟨val,ups,acc,e1,e2,e3,e4,e5⟩:=zx hC R.at_ (g1 cv) hr hO
    have fk:=R.go hd e4 (val:=val) (ups:=ups) (fun N' hN=>(e2 N' (by rw [SR.rC] at hN;exact hN)).1) (fun N' hN=>(e2 N' (by rw [SR.rC] at hN;exact hN)).2)
    have dF:N.aZ st.nx (r.up N st s.k):=by
     cases r<;>first|exact N.dJ _|exact N.jS _ _ _
    have nU:st.nx<=(r.st st o.dst).nx:=by rw [SR.rC];cases r<;>simp [SR.nx]
    have hu:=(e2 _ (aw.dJ (r.nx st) (r.up N st s.k))).2
    have ij:s.k<=r.k1 s.k:=by cases r<;>simp [SR.k1]
    have zJ:∀nm X,nm<st.nx->(getS st.m nm=some (some X)\/getS st.rm nm=some (some X))->¬Q ((r.up N st s.k).ι nm):=fun nm X hn hX=>by rw [(dF.1 nm hn).1];exact M.qa nm X hX
    have HX:r.nx st=st.nx+1->¬Q ((r.up N st s.k).ι st.nx):=fun hx hq=>by
     have:=M.qk _ hq
     cases r with
     |new O v B'=>simp only [SR.up,aw.cS,K3] at this;omega
     |mov O v aL B'=>simp only [SR.up,aw.cS,K3] at this;omega
     |_=>simp [SR.nx] at hx
    have HY:er B Q (r.up N st s.k) (r.st st o.dst) ⟨bw n o.dst val s.σ,au s.g ups,r.k1 s.k⟩:=by
     refine ⟨M.q0,fun nm X hX=> ?_,fun hB id hid=>M.qb hB id (SR.HV e4 hid),fun id hid=>Lr (M.qk id hid) ij⟩
     rcases SR.HU e4 hX with ⟨h1,h2⟩|⟨X',h1⟩
     ·rw [h1];exact HX h2
     ·refine zJ nm X' ?_ h1
      rcases h1 with h1|h1
      ·exact R.ml nm _ h1
      ·exact R.rl nm _ h1
    refine .inl ⟨val,ups,acc,_,_,_,e1,h,dF,nU,⟨fun ha id hid=> ?_,fun _ ha id hid=> ?_,fun nm hn=> ?_,fun nm hn=>Lr (nh (e5 nm hn)).1 nU,fun nm hn=>by simp [cY] at hn,fun hn=> ?_,fun ha hk=> ?_⟩,fun hn=> ?_,⟨by cases r<;>rfl,by cases r<;>rfl⟩,r.k1 s.k,ij,fun id hid=> ?_,fk,HY⟩
    ·have hid:id∈ups.map Prod.fst:=hid
     rw [hu] at hid
     cases r with
     |val O v=>simp [SR.ups] at hid
     |new O v B'=>
      simp only [SR.ups,Lf,LP,K9] at hid
      subst hid
      refine ⟨st.nx,by simp [cY,SR.keys], .inl ⟨by simp [SR.up,aw.cS],fun hq=> ?_⟩⟩
      have:=M.qk _ hq;omega
     |put O v nm B'=>
      simp only [SR.ups,SR.up,Lf,LP,K9] at hid
      obtain ⟨⟨B0,bY,_⟩,_⟩:=e4
      exact ⟨nm,by simp [cY,SR.keys], .inl ⟨hid,by rw [hid];exact M.qa nm _ (.inl bY)⟩⟩
     |ff O v ns'=>
      simp only [SR.ups,SR.up,MG,Lz,Function.comp_apply] at hid
      obtain ⟨a,zK,rfl⟩:=hid
      obtain ⟨⟨B0,bY⟩,_⟩:=e4 a zK
      exact ⟨a,zK, .inl ⟨rfl,M.qa a _ (.inl bY)⟩⟩
     |mov O v aL B'=>
      obtain ⟨⟨B0,bY⟩,_⟩:=e4
      have fE:=R.ml aL _ bY
      simp only [SR.ups,Lf,LP,Lc,Ma,or_false] at hid
      rcases hid with hid|hid
      ·exact ⟨aL,by simp [cY,SR.keys], .inl ⟨hid,by rw [hid];exact zJ aL _ fE (.inl bY)⟩⟩
      ·subst hid
       refine ⟨st.nx,by simp [cY,SR.keys], .inl ⟨by simp [SR.up,aw.cS],fun hq=> ?_⟩⟩
       have:=M.qk _ hq;omega
     |dZ O v jT t row A=>
      simp only [SR.ups,Lf,LP,K9] at hid
      subst hid
      have hrow:fL st id:=⟨t,A,kR e4.1,e4.2.2⟩
      cases B with
      |false=>exact ⟨0,by simp [cY,SR.keys], .inr ⟨rfl,M.qb rfl id hrow⟩⟩
      |true=>
       simp only [cY,SR.keys,zE hrow,zF (K9.2 rfl),Bool.and_true] at ha
       simp at ha
    ·obtain ⟨nm,q1,q2⟩:=e3 id hid
     exact ⟨nm,q1,(zG (keys:=r.keys st) M ha q1 (e5 nm q1) q2).step dF (nh (e5 nm q1)).1⟩
    ·rw [SR.rC]
     have hn:nm∈r.keys st:=hn
     cases r with
     |val O v=>simp [SR.keys] at hn
     |new O v B'=>simp only [SR.keys,K9] at hn;simp only [SR.nx];omega
     |put O v nm' B'=>
      simp only [SR.keys,K9] at hn
      subst hn;obtain ⟨⟨B0,bY,_⟩,_⟩:=e4;exact R.ml _ _ bY
     |ff O v ns'=>obtain ⟨⟨B0,bY⟩,_⟩:=e4 nm hn;exact R.ml _ _ bY
     |mov O v aL B'=>
      obtain ⟨⟨B0,bY⟩,_⟩:=e4
      have:=R.ml _ _ bY
      simp only [SR.keys,Lc,Ma,or_false] at hn
      simp only [SR.nx]
      rcases hn with rfl|rfl<;>omega
     |dZ O v jT t row A=>
      simp only [SR.keys,K9] at hn
      subst hn;exact R.ml _ _ e4.1
    ·have hn:(na o r xs&& !(cY B st (r.keys st) ns).all)=true:=hn
     rw [K2] at hn
     have nG:=hn.2
     rw [Lm] at nG
     refine ⟨nG,fun id hid=> ?_⟩
     have hid:id∈ups.map Prod.fst:=hid
     rw [hu] at hid
     cases r with
     |new O v B'=>
      simp only [SR.ups,Lf,LP,K9] at hid
      subst hid;exact K4 _
     |_=>simp [na] at hn
    ·have hk:(r.keys st).isEmpty=true:=hk
     rw [L9] at hk
     simp [cY,hk] at ha
    ·have hn:(na o r xs&& !(cY B st (r.keys st) ns).all)=true:=hn
     rw [K2] at hn
     have h1:=hn.1
     unfold na at h1
     rw [K2,K2,Lm] at h1
     exact h1.2
    ·rw [hu] at hid
     cases r with
     |val O v=>simp [SR.ups] at hid
     |new O v B'=>simp only [SR.ups,Lf,LP,K9] at hid;simp only [SR.k1];omega
     |put O v nm' B'=>
      simp only [SR.ups,SR.up,Lf,LP,K9] at hid
      subst hid;obtain ⟨⟨B0,bY,_⟩,_⟩:=e4;exact R.lt _ (R.ml _ _ bY)
     |ff O v ns'=>
      simp only [SR.ups,MG,Lz,Function.comp_apply] at hid
      obtain ⟨a,ha,rfl⟩:=hid
      obtain ⟨⟨B0,bY⟩,_⟩:=e4 a ha;exact R.lt _ (R.ml _ _ bY)
     |mov O v aL B'=>
      obtain ⟨⟨B0,bY⟩,_⟩:=e4
      have h0:=R.ml _ _ bY
      have:=R.lt _ h0
      simp only [SR.ups,SR.up,Lf,LP,Lc,Ma,or_false] at hid
      simp only [SR.k1]
      rcases hid with rfl|rfl
      ·rw [((N.jS st.nx s.k B'.len).1 aL h0).1];omega
      ·omega
     |dZ O v jT t row A=>
      simp only [SR.ups,Lf,LP,K9] at hid
      subst hid
      exact (R.sp t A (.inl e4.1) id e4.2.2).1
   ·split at h
    ·rename_i x args cw
     split at h
     ·rename_i f vs dX
      cases B with
      |false=>exact h.elim
      |true=>
      rw [K5] at h
      have hc0:=m7 R.here dX s.k
      have fA:∀N',N.aZ st.nx N'->vs.map (SV.av C.D.toTE N')=vs.map (SV.av C.D.toTE N):=fun N' hN=>by
       have lM:=m7 (R.at_ N' hN) dX s.k
       rw [hc0] at lM
       simp only [KZ,Out.call.injEq,true_and] at lM
       exact lM.symm
      cases hh:hidB C.hd dep st vs with
      |true=>
       rw [hh,K5] at h
       exact HW hC R M g1 cv cw hd dX fA hh h
      |false=>
      rw [hh,Ln] at h
      obtain ⟨h1,j3,k1,N',v,st1,h2,h3,h4,h5,h6,h7⟩:=hC.inl R fA h
      have u5:∀id,id<k1->au s.g ((List.range (max s.k k1)).map fun i=>(i,j3 i)) id=j3 id:=fun id hid=>by rw [uX,K1 (by omega)]
      refine .inr ⟨f,_,_,(List.range (max s.k k1)).map fun i=>(i,j3 i),max s.k k1,_,N',g1 cv,by rw [cw];rfl,by rw [cw];exact hc0,h1,zB h2,⟨Nat.le_max_left _ _,fun id hid=>by simpa using hid⟩,⟨[],fun nm hn=>by simp at hn,h7⟩,h4,h5,⟨rfl,rfl⟩, ?_,er.pc (M.q0 rfl)⟩
      refine ⟨fun bJ hN=> ?_,h6.inj,fun a ha=>Lr (h6.lt a ha) (Nat.le_max_right _ _),h6.ml,h6.rl,fun t A hg id hid=>⟨Lr (h6.sp t A hg id hid).1 (Nat.le_max_right _ _),(h6.sp t A hg id hid).2⟩⟩
      have A:=h6.at_ bJ hN
      have A0:=R.at_ bJ (aw.ep h4 hN h5)
      obtain ⟨q1,q2⟩:=kQ (D:=C.D) (n:=n) (v:=v) (a:=v.av C.D.toTE N') hd A0.sl A0.rs (h3 bJ hN).symm
      have hlt:∀nm,nm<st1.nx->bJ.ι nm<k1:=fun nm hn=>by rw [(hN.1 nm hn).1];exact h6.lt nm hn
      exact ⟨q1,q2,fun nm B hB=>⟨(u5 _ (hlt nm (h6.ml nm _ hB))).trans (A.bl nm B hB).1,(A.bl nm B hB).2⟩,fun nm B hB=>⟨(u5 _ (hlt nm (h6.rl nm _ hB))).trans (A.rb nm B hB).1,(A.rb nm B hB).2⟩,fun t A' hg id hid=>(u5 _ (h6.sp t A' hg id hid).1).trans (A.ar t A' hg id hid)⟩
     ·exact h.elim
    ·exact h.elim
  ·rename_i cv
   left
   have fk:=R.go (r:= .val [] (.vo undef)) hd trivial (val:= .v undef) (ups:=[]) (fun _ _=>rfl) (fun _ _=>rfl)
   exact ⟨.v undef,[],[],_,_,N, .skip (g2 cv),h,N.dJ _,K4 _,⟨fun _ id hid=>by simp [Rec.keys] at hid,fun _ _ id hid=>by simp at hid,fun nm hn=>by simp at hn,fun nm hn=>by simp at hn,fun nm hn=>by simp at hn,fun hn=>by simp at hn,fun hn=>by simp at hn⟩,fun hn=>by simp at hn,⟨rfl,rfl⟩,s.k,K4 _,fun id hid=>by simp at hid,fk,M.q0,M.qa,M.qb,M.qk⟩
  ·rename_i e cv
   left
   split at h
   ·rename_i O v ns hr
    rw [iA] at h
    obtain ⟨hO,h⟩:=h
    have u6:∀p,p∈gX st e o.ao.uns->p:=fun p hp=>hO p (LL _ hp)
    have hg:=g3 e cv
    cases hden:e.den with
    |false=>
     rw [hden] at hg
     have hv:∀N':aw,(.v undef:AV)=((SV.vg true e v:SV τ dn)).av C.D.toTE N':=fun N'=>by simp [SV.av,hden]
     have fk:=R.go (r:= .val [] (.vg true e v)) hd trivial (val:= .v undef) (ups:=[]) (fun N' _=>hv N') (fun _ _=>rfl)
     have HZ:∀nm,nm∈ns->nm<st.nx:=by
      have dh:=hr
      unfold iD at dh
      split at dh
      ·split at dh
       ·rename_i r' ns' _
        cases hb:(ns'.all (st.unw o.ao.uns).live) with
        |false=>rw [hb] at dh;simp at dh
        |true=>
         rw [hb,K5,KZ,Li] at dh
         intro nm hn
         rw [<-dh.2] at hn
         exact (nh (K6.1 hb nm hn)).1
       ·simp at dh
      ·split at dh
       ·cases hb:((o.ao.nrs (st.unw o.ao.uns)).all (st.unw o.ao.uns).live&&o.ao.lk.all (st.unw o.ao.uns).ngd) with
        |false=>rw [hb] at dh;simp at dh
        |true=>
         rw [hb,K5,KZ,Li] at dh
         rw [K2] at hb
         intro nm hn
         rw [<-dh.2] at hn
         exact (nh (K6.1 hb.1 nm hn)).1
       ·simp at dh
     exact ⟨.v undef,[],[],_,_,N, .skip hg,h,N.dJ _,K4 _,⟨fun _ id hid=>by simp [Rec.keys] at hid,fun _ _ id hid=>by simp at hid,fun nm hn=>by simp [cY] at hn,HZ,fun nm hn=>by simp [cY] at hn,fun hn=>by simp [cY] at hn,fun hn=>by simp [cY] at hn⟩,fun hn=>by simp [cY] at hn,⟨rfl,rfl⟩,s.k,K4 _,fun id hid=>by simp at hid,fk,M.q0,M.qa,M.qb,M.qk⟩
    |true=>
     rw [hden] at hg
     have et:=(Cn.gW e true).2 hden
     have H0:∀p,p∈(SR.val O v:SR τ dn).O->p:=fun p hp=>hO _ (LF _ (Lz.2 ⟨p,hp,rfl⟩)) et
     obtain ⟨val,ups,acc,e1,e2,e3,e4,e5⟩:=zx (st:=st.unw o.ao.uns) hC (fun N' hN=>za (R.at_ N' hN) hden u6) hg hr H0
     have hv:∀N',N.aZ st.nx N'->val=((SV.vg true e v:SV τ dn)).av C.D.toTE N':=fun N' hN=>by
      rw [(e2 N' hN).1];simp only [SV.av,hden,K3];rfl
     have hu:ups=[]:=(e2 N (N.dJ _)).2
     have fk:=R.go (r:= .val [] (.vg true e v)) hd trivial (val:=val) (ups:=ups) (fun N' hN=>hv N' hN) (fun _ _=>hu)
     refine ⟨val,ups,acc,_,_,N,e1,h,N.dJ _,K4 _,⟨fun _ id hid=> ?_,fun _ ha id hid=> ?_,fun nm hn=>by simp [cY] at hn,fun nm hn=>(nh (e5 nm hn)).1,fun nm hn=>by simp [cY] at hn,fun hn=>by simp [cY] at hn,fun hn=>by simp [cY] at hn⟩,fun hn=>by simp [cY] at hn,⟨rfl,rfl⟩,s.k,K4 _,fun id hid=> ?_,fk,M.q0,M.qa,M.qb,M.qk⟩
     ·have hid:id∈ups.map Prod.fst:=hid
      rw [hu] at hid;simp at hid
     ·obtain ⟨nm,q1,q2⟩:=e3 id hid
      exact ⟨nm,q1,zG M ha q1 (e5 nm q1) q2⟩
     ·rw [hu] at hid;simp at hid
   ·exact h.elim
  ·exact h.elim
theorem rJ {C:bU τ dn} (hC:C.Ok) {n k0:Nat}:∀{os:List az} {xs:List NR} {st:SS τ dn} {K:SS τ dn->Prop} {N:aw} {s:S3},Rel C.D N st s->wpOps C n none true os xs st K->
  ∃s' N' ah,fC C.P n k0 os s.σ s.g s.k s'.σ s'.g s'.k/\Rel C.D N' ah s'/\(ah.rt=st.rt/\ah.rm=st.rm)/\N.aZ st.nx N'/\st.nx<=ah.nx/\K ah
 |[],xs,st,K,N,s,R,h=>⟨s,N,st, .nil,R,⟨rfl,rfl⟩,N.dJ _,K4 _,h⟩
 |o::os,xs,st,K,N,s,R,h=>by
  rcases zI hC R (er.pc (Q:=fun _=>False) fun _ h=>h) h with ⟨val,ups,acc,x,ah,N',h1,h2,h3,h4,_,_,h5,k1,h6,h7,h8,_⟩|⟨f,as_,r,ups,k1,ah,N',h1,_,h2,h3,h4,_,⟨ex,_,h5⟩,h6,h7,h8,h9,_⟩
  ·obtain ⟨s',N2,aO,q1,q2,q3,q4,q5,q6⟩:=rJ hC (k0:=k0) h8 h2
   exact ⟨s',N2,aO, .cons h1 h6 h7 q1,q2,⟨q3.1.trans h5.1,q3.2.trans h5.2⟩,aw.ep h3 q4 h4,Lw h4 q5,q6⟩
  ·obtain ⟨s',N2,aO,q1,q2,q3,q4,q5,q6⟩:=rJ hC (k0:=k0) h9 h5
   exact ⟨s',N2,aO, .inl h1 h2 h3 h4 q1,q2,⟨q3.1.trans h8.1,q3.2.trans h8.2⟩,aw.ep h6 q4 h7,Lw h7 q5,q6⟩
theorem jf {α:Type} {l:List α} {x y:α} (h:(l++[x])[i]? =some y):l[i]? =some y\/(i=l.length/\y=x):=by
 rcases LM i l.length with q|q
 ·rw [L5 q] at h;exact .inl h
 ·rw [Mg q] at h
  right
  cases hd:i - l.length with
  |zero=>rw [hd] at h;simp at h;exact ⟨by omega,h.symm⟩
  |succ m=>rw [hd] at h;simp at h
structure pf (pre:List az) (rs:List Rec) (xs:List NR) (k:Nat):Prop where
 pl:pre.length=xs.length
 rl:rs.length=xs.length
 kb:∀(i:Nat) r,rs[i]? =some r->∀id,id∈r.keys->id<k
 lt:∀(i j:Nat) ri rj,i<j->rs[i]? =some ri->rs[j]? =some rj->∀id,id∈ri.keys->id<rj.fr
 nw:∀(i:Nat) x,xs[i]? =some x->x.nw=true->(∀o,pre[i]? =some o->gg o=true)/\∀(j:Nat) y,xs[j]? =some y->y.nw=true->j=i
theorem pf.snoc {pre:List az} {xs:List NR} (h:pf pre rs xs k) {x:NR} (hk:k<=k1) (hr:r.fr=k) (hb:∀id,id∈r.keys->id<k1) (hx:x.nw=true->gg o=true/\(xs.any fun x=>x.nw)=false):pf (pre++[o]) (rs++[r]) (xs++[x]) k1:=by
 have ek:∀(i:Nat) y,xs[i]? =some y->y.nw=true->x.nw=true->False:=fun i y hy hn H2=>by
  have:=(hx H2).2
  rw [List.any_eq_false] at this
  exact this y (LJ hy) hn
 refine ⟨by simp [h.pl],by simp [h.rl],fun i r' hr' id hid=> ?_,fun i j ri rj aQ hi hj id hid=> ?_,fun i y hy hn=>⟨fun o' gu=> ?_,fun j z hz u7=> ?_⟩⟩
 ·rcases jf hr' with q|⟨_,rfl⟩
  ·exact Lr (h.kb i r' q id hid) hk
  ·exact hb id hid
 ·rcases jf hj with q|⟨q,rfl⟩
  ·rcases jf hi with p|⟨p,rfl⟩
   ·exact h.lt i j ri rj aQ p q id hid
   ·have:=(K8.1 q).1;omega
  ·rcases jf hi with p|⟨p,rfl⟩
   ·rw [hr];exact h.kb i ri p id hid
   ·omega
 ·rcases jf hy with q|⟨q,rfl⟩
  ·rcases jf gu with p|⟨p,rfl⟩
   ·exact (h.nw i y q hn).1 o' p
   ·have:=(K8.1 q).1
    have:=h.pl;omega
  ·rcases jf gu with p|⟨p,rfl⟩
   ·have:=(K8.1 p).1
    have:=h.pl;omega
   ·exact (hx hn).1
 ·rcases jf hy with q|⟨q,rfl⟩
  ·rcases jf hz with p|⟨p,rfl⟩
   ·exact (h.nw i y q hn).2 j z p u7
   ·exact (ek i y q hn u7).elim
  ·rcases jf hz with p|⟨p,rfl⟩
   ·exact (ek j z p u7 hn).elim
   ·omega
theorem rK {C:bU τ dn} (hC:C.Ok) {n:Nat} {dep:List (List Nat)} {B:Bool} {Q:Nat->Prop}:∀{os:List az} {pre:List az} {xs:List NR} {rs:List Rec} {hs:List (Option Nat)} {st:SS τ dn} {K:SS τ dn->Prop} {N:aw} {s:S3},Rel C.D N st s->er B Q N st s->fN N Q st.nx rs hs xs->pf pre rs xs s.k->wpOps C n (some dep) B os xs st K->
  ∃jn,(∀o,(pre++os)[jn]? =some o->gg o=true)/\∃s' N' ah,gV C.P n dep jn os s.σ s.g s.k rs hs s'.σ s'.g s'.k/\Rel C.D N' ah s'/\(ah.rt=st.rt/\ah.rm=st.rm)/\N.aZ st.nx N'/\st.nx<=ah.nx/\K ah
 |[],pre,xs,rs,hs,st,K,N,s,R,M,pg,hk,h=>by
  simp only [wpOps] at h
  cases hb:idsN xs dep with
  |false=>rw [hb] at h;exact h.elim
  |true=>
   rw [hb,K5] at h
   by_cases hx:∃(i:Nat) (x:NR),xs[i]? =some x/\x.nw=true
   ·obtain ⟨i,x,h1,h2⟩:=hx
    have hq:=zA R.inj pg hk.lt (jn:=i) (fun j y hy hn=>(hk.nw i x h1 h2).2 j y hy hn) hb
    exact ⟨i,by rw [List.append_nil];exact (hk.nw i x h1 h2).1,s,N,st, .nil hq.1 hq.2,R,⟨rfl,rfl⟩,N.dJ _,K4 _,h⟩
   ·have hq:=zA R.inj pg hk.lt (jn:=pre.length) (fun j y hy hn=>absurd ⟨j,y,hy,hn⟩ hx) hb
    exact ⟨pre.length,fun o ho=>by simp at ho,s,N,st, .nil hq.1 hq.2,R,⟨rfl,rfl⟩,N.dJ _,K4 _,h⟩
 |o::os,pre,xs,rs,hs,st,K,N,s,R,M,pg,hk,h=>by
  rcases zI hC R M h with ⟨val,ups,acc,x,ah,N',h1,h2,h3,h4,h5,H3,zL,k1,h6,h7,h8,hM⟩|⟨f,as_,r,ups,k1,ah,N',h1,lj,h2,h3,h4,ij,⟨ex,hex,h5⟩,h6,h7,h8,h9,hM⟩
  ·obtain ⟨jn,hj,s',N2,aO,q1,q2,q3,q4,q5,q6⟩:=rK hC (pre:=pre++[o]) h8 hM ((pg.step h3 h4).snoc (c:=none) h5 (fun _=>rfl)) (hk.snoc (r:=⟨o.dst,val,ups,acc,s.k⟩) h6 rfl h7 H3) h2
   exact ⟨jn,fun o' gu=>hj o' (by rw [Ml];exact gu),s',N2,aO, .cons h1 h6 h7 q1,q2,⟨q3.1.trans zL.1,q3.2.trans zL.2⟩,aw.ep h3 q4 h4,Lw h4 q5,q6⟩
  ·obtain ⟨jn,hj,s',N2,aO,q1,q2,q3,q4,q5,q6⟩:=rK hC (pre:=pre++[o]) (rs:=rs++[⟨o.dst,r,ups,[],s.k⟩]) (hs:=hs++[some k1]) h9 hM ((pg.step h6 h7).snoc (r:=⟨o.dst,r,ups,[],s.k⟩) (c:=some k1) (x:=⟨[],[],true,false,ex,false⟩) ⟨fun hh=>by simp at hh,fun hh=>by simp at hh,fun nm hn=>by simp at hn,fun nm hn=>by simp at hn,hex,fun hh=>by simp at hh,fun _ _=>rfl⟩ (fun hh=>by simp at hh)) (hk.snoc (r:=⟨o.dst,r,ups,[],s.k⟩) ij.1 rfl ij.2 (fun hh=>by simp at hh)) h5
   exact ⟨jn,fun o' gu=>hj o' (by rw [Ml];exact gu),s',N2,aO, .fi h1 lj h2 h3 h4 ij.1 ij.2 q1,q2,⟨q3.1.trans h8.1,q3.2.trans h8.2⟩,aw.ep h6 q4 h7,Lw h7 q5,q6⟩
theorem H4 {C:bU τ dn} (hC:C.Ok) {B:Bool} {st:SS τ dn} {K:SS τ dn->Prop} (R:Rel C.D N st s) (h:wpOps C n (some dep) B os [] st K):
  ∃jn,(∀o,os[jn]? =some o->gg o=true)/\∃s' N' ah,gV C.P n dep jn os s.σ s.g s.k [] [] s'.σ s'.g s'.k/\Rel C.D N' ah s'/\(ah.rt=st.rt/\ah.rm=st.rm)/\N.aZ st.nx N'/\st.nx<=ah.nx/\K ah:=by
 have h0:pf [] [] [] s.k:=⟨rfl,rfl,fun i r h=>by simp at h,fun i j ri rj _ h=>by simp at h,fun i x h=>by simp at h⟩
 cases B with
 |true=>exact rK (pre:=[]) hC R (er.pc (Q:=fun _=>False) fun _ h=>h) .nil h0 h
 |false=>
  refine rK (pre:=[]) (Q:=fL st) hC R ⟨fun hh=>by simp at hh,fun nm X hX ⟨t,A,hg,hid⟩=>(R.sp t A (fI hg) _ hid).2 nm X hX rfl,fun _ id h=>h,fun id ⟨t,A,hg,hid⟩=>(R.sp t A (fI hg) _ hid).1⟩ .nil h0 h
end
open Go.RowKit
variable {xs:List NR} {x:NR}
def ED (P:Program) (n k0:Nat) (ac:AC) (s:S3) (e:Ex) (s':S3):Prop:=EW P n k0 ac s fun x t=>x=e/\t=s'
def Ex.ja (i:Nat):Ex->Ex
 | .exit j=>if j=i then .normal else .exit j
 |e=>e
section
variable {P:Program} {n k0:Nat} {s s' t:S3} {a b:AC} {e:Ex}
theorem ED.skip:ED P n k0 .skip s .normal s:=EW.skip ⟨rfl,rfl⟩
theorem ED.ret:ED P n k0 .ret s .ret s:=EW.ret ⟨rfl,rfl⟩
theorem ED.exit {i:Nat}:ED P n k0 (.exit i) s (.exit i) s:=EW.exit ⟨rfl,rfl⟩
theorem ED.seq (h:ED P n k0 a s .normal t) (k:ED P n k0 b t e s'):ED P n k0 (.seq a b) s e s':=
 EW.seq (EW.jC h fun x u hu=>by obtain ⟨rfl,rfl⟩:=hu;exact k)
theorem ED.zM (h:ED P n k0 a s e t) (he:e≠ .normal):ED P n k0 (.seq a b) s e t:=
 EW.seq (EW.jC h fun x u hu=>by
  obtain ⟨rfl,rfl⟩:=hu
  cases x with
  |normal=>exact absurd rfl he
  |exit i=>exact ⟨rfl,rfl⟩
  |ret=>exact ⟨rfl,rfl⟩)
theorem ED.cond {c:Arg} {p:Bool} (hc:aE s.σ c= .v (.bool p)) (h:ED P n k0 (if p=true then a else b) s e t):ED P n k0 (.cond c a b) s e t:=EW.cond hc h
theorem ED.block {i:Nat} (h:ED P n k0 a s e t):ED P n k0 (.block i a) s (e.ja i) t:=
 EW.block (EW.jC h fun x u hu=>by
  obtain ⟨rfl,rfl⟩:=hu
  cases x with
  |normal=>exact ⟨rfl,rfl⟩
  |exit j=>
   simp only [Ex.inBlock,Ex.ja]
   split
   all_goals (first|trivial|exact ⟨rfl,rfl⟩|simp_all)
  |ret=>exact ⟨rfl,rfl⟩)
theorem ED.iW (h:s.Le k0 n t) (k:ED P n k0 a t e s'):ED P n k0 a s e s':=EW.iW h k
inductive Ch (P:Program) (n k0:Nat) (a:AC) (e:Ex) (s':S3):Nat->S3->Prop
 |last {s:S3} (h:ED P n k0 a s e s') (he:e≠ .normal):Ch P n k0 a e s' 0 s
 |step {m:Nat} {s t u:S3} (h:ED P n k0 a s .normal t) (hw:t.Le k0 n u) (c:Ch P n k0 a e s' m u):Ch P n k0 a e s' (m+1) s
theorem ED.post (h:ED P n k0 a s e t) (hw:t.Le k0 n u):ED P n k0 a s e u:=by
 intro rd c E0 J base w0 ac w bX hc hk hr
 refine wpIn_mono (h rd c E0 J base w0 ac w bX hc hk hr) fun e' a' w' ⟨x,s1,⟨h1,h2⟩,h3,h4⟩=>⟨x,u,⟨h1,rfl⟩,h3, ?_⟩
 subst h2
 exact hw E0 J base w0 a' w' hk h4
theorem ED.loop {m:Nat} (h:Ch P n k0 a e s' m s):ED P n k0 (.loop a) s e s':=by
 refine EW.loop (fun m t=>Ch P n k0 a e s' m t) h fun m t hc=> ?_
 cases hc with
 |last h he=>
  refine EW.jC h fun x u hu=> ?_
  obtain ⟨rfl,rfl⟩:=hu
  cases x with
  |normal=>exact absurd rfl he
  |exit i=>exact ⟨rfl,rfl⟩
  |ret=>exact ⟨rfl,rfl⟩
 | @step m _ t u h hw c=>
  refine EW.jC (ED.post h hw) fun x v hv=> ?_
  obtain ⟨rfl,rfl⟩:=hv
  exact ⟨m,Mb m,c⟩
theorem ED.bM {os:List az} (h:fC P n k0 os s.σ s.g s.k s'.σ s'.g s'.k):ED P n k0 (.bM os none) s .normal s':=EW.bM h ⟨rfl,rfl⟩
theorem ED.draw (hj:∀o,os[jn]? =some o->gg o=true) (h:gV P n dep jn os s.σ s.g s.k [] [] s'.σ s'.g s'.k):ED P n k0 (.bM os (some dep)) s .normal s':=EW.E5 hj h ⟨rfl,rfl⟩
theorem S3.H5 (h:∀i,bN (s.σ i) (σ' i)):s.Le k0 n ⟨σ',s.g,s.k⟩:=by
 intro E0 J base w0 a w _ hr
 obtain ⟨E,h1,h2,h3,h4,h5,h6⟩:=hr.ex
 exact ⟨⟨E,h1,h2,fun t=>h t E _ (h3 t),h4,h5,h6⟩,hr.size,hr.below,hr.gl⟩
theorem S3.Le.trans' (h:s.Le k0 n t) (k:t.Le k0 n u):s.Le k0 n u:=fun E0 J base w0 a w hk hr=>k E0 J base w0 a w hk (h E0 J base w0 a w hk hr)
theorem S3.Le.kW:s.Le k0 n s:=fun _ _ _ _ _ _ _ hr=>hr
theorem S3.H6 (hσ:s.σ i= .emp) (hz:sz≠0):s.Le k0 n ⟨fun j=>if j=i then .own s.k sz 0 0 else s.σ j,au s.g [(s.k,some ⟨sz,[]⟩)],s.k+1⟩:=by
 intro E0 J base w0 a w hk hr
 obtain ⟨E,rfl,hle,hs,hm,ba,hmk⟩:=hr.ex
 obtain ⟨E',hw,hE,hM,k1,k2,k3,k4,k5⟩:=hm.p9 (fresh:=s.k) (fun hh=>Mh _ (ba _ hh)) sz
 refine ⟨⟨E',hw,hle.trans hE,fun j=> ?_,hM,fun id hid=> ?_,hmk.step hE⟩,hr.size,hr.below,hr.gl⟩
 ·show af E' _ (if j=i then _ else _)
  by_cases hj:j=i
  ·rw [K1 hj]
   have:=hs j
   rw [hj,hσ] at this
   obtain ⟨A,hA⟩:=tG this
   rw [hj,hA]
   exact .bP k1 k2 k3 k5 hz
  ·rw [K0 hj];exact (hs j).step hE
 ·show id<s.k+1
  rcases k4 id hid with h|h
  ·have:=ba id h;omega
  ·omega
end
section
variable {τ:Type} {dn:τ->Type}
def aw.same (p:Nat->Bool) (N N':aw):Prop:=(∀a,p a=true->N'.ι a=N.ι a/\N'.ln a=N.ln a)/\N'.ρ=N.ρ
mutual
theorem nj {E:TE τ dn} {p:Nat->Bool} {N N':aw} (hN:N.same p N'):∀(v:SV τ dn),v.fr p=true->v.av E N'=v.av E N
 | .own nm sz,h=>by simp only [SV.fr] at h;simp only [SV.av,hN.1 nm h]
 | .part nm sz o l,h=>by simp only [SV.fr] at h;simp only [SV.av,hN.1 nm h]
 | .ref nm sz i o,h=>by simp only [SV.fr] at h;simp only [SV.av,hN.1 nm h]
 | .mp nm,h=>by simp only [SV.fr] at h;simp only [SV.av,hN.1 nm h]
 | .agg cs,h| .aJ cs,h| .fn _ cs,h| .bf _ cs,h| .pim cs _,h=>by simp only [SV.fr] at h;simp only [SV.av,u9 hN cs h]
 | .vc _ els,h=>by simp only [SV.fr] at h;simp only [SV.av,rL hN els h]
 | .vg p c v,h=>by simp only [SV.fr] at h;simp only [SV.av,nj hN v h]
 | .vl t xs,h=>by simp only [SV.av,hN.2]
 | .rw t r,h=>by simp only [SV.av,hN.2]
 | .cK t r i o,h=>by simp only [SV.av,hN.2]
 | .vi _,_| .vn _,_| .vy _,_| .vu _,_| .vw _ _,_| .vb _,_| .vt _,_| .vz _,_| .vo _,_| .emp,_| .dead,_=>by simp only [SV.av]
theorem u9 {E:TE τ dn} {p:Nat->Bool} {N N':aw} (hN:N.same p N'):∀(cs:List (SV τ dn)),SV.db p cs=true->SV.ck E N' cs=SV.ck E N cs
 |[],_=>rfl
 |v::r,h=>by
  simp only [SV.db,K2] at h
  simp only [SV.ck,nj hN v h.1,u9 hN r h.2]
theorem rL {E:TE τ dn} {p:Nat->Bool} {N N':aw} (hN:N.same p N'):∀(els:List (List (SV τ dn))),SV.jJ p els=true->SV.bE E N' els=SV.bE E N els
 |[],_=>rfl
 |v::r,h=>by
  simp only [SV.jJ,K2] at h
  simp only [SV.bE,u9 hN v h.1,rL hN r h.2]
end
def SB.fr (p:Nat->Bool):SB τ dn->Bool
 | .bl _ _=>true
 | .bc _ els=>SV.jJ p els
 | .mc els=>SV.jJ p els
 | .ar _ _=>true
theorem zN {E:TE τ dn} (hN:N.same p N') (B:SB τ dn) (h:B.fr p=true):B.av E N'=B.av E N:=by
 cases B with
 |bl t xs=>simp only [SB.av,hN.2]
 |bc sz els=>simp only [SB.fr] at h;simp only [SB.av,rL hN els h]
 |mc els=>simp only [SB.fr] at h;simp only [SB.av,rL hN els h]
 |ar t A=>rfl
def hasN (l:List Nat) (a:Nat):Bool:=l.any (Nat.beq a)
theorem j4:hasN l a=true↔a∈l:=by
 unfold hasN
 rw [MT]
 constructor
 ·rintro ⟨b,h1,h2⟩;rw [Lk h2];exact h1
 ·intro h;exact ⟨a,h,Nat.beq_refl a⟩
def j5 (p:Nat->Bool):List Nat->List (Nat×SV τ dn)->List (Nat×SV τ dn)
 |_,[]=>[]
 |seen,(i,v)::r=>bif hasN seen i then j5 p seen r else bif v.fr p then (i,v)::j5 p (i::seen) r else j5 p (i::seen) r
theorem vd {p:Nat->Bool}:∀{t:List (Nat×SV τ dn)} {seen:List Nat} {i:Nat} {v:SV τ dn},getS (j5 p seen t) i=some v->getS t i=some v/\v.fr p=true/\¬i∈seen
 |[],seen,i,v,h=>by simp [j5,getS] at h
 |(j,w)::r,seen,i,v,h=>by
  simp only [j5] at h
  cases hs:hasN seen j with
  |true=>
   rw [hs,K5] at h
   obtain ⟨h1,h2,h3⟩:=vd h
   refine ⟨?_,h2,h3⟩
   rw [aV,K0];exact h1
   intro e;subst e;exact h3 (j4.1 hs)
  |false=>
   rw [hs,Ln] at h
   have hj:¬j∈seen:=fun hh=>by rw [j4.2 hh] at hs;simp at hs
   have next:getS (j5 p (j::seen) r) i=some v->getS ((j,w)::r) i=some v/\v.fr p=true/\¬i∈seen:=fun h=>by
    obtain ⟨h1,h2,h3⟩:=vd h
    simp only [Lc,not_or] at h3
    exact ⟨by rw [aV,K0 h3.1];exact h1,h2,h3.2⟩
   cases hf:w.fr p with
   |true=>
    rw [hf,K5,aV] at h
    by_cases hi:i=j
    ·rw [K1 hi,KZ] at h
     subst h;subst hi
     exact ⟨by rw [aV,K1 rfl],hf,hj⟩
    ·rw [K0 hi] at h;exact next h
   |false=>rw [hf,Ln] at h;exact next h
def jg (p:Nat->Bool):List Nat->List (Nat×Option (SB τ dn))->List (Nat×Option (SB τ dn))
 |_,[]=>[]
 |seen,(i,v)::r=>bif hasN seen i then jg p seen r else match v with
  |some B=>bif B.fr p&&p i then (i,some B)::jg p (i::seen) r else jg p (i::seen) r
  |none=>jg p (i::seen) r
theorem ve {p:Nat->Bool}:∀{t:List (Nat×Option (SB τ dn))} {seen:List Nat} {i:Nat} {v:Option (SB τ dn)},getS (jg p seen t) i=some v->getS t i=some v/\(∃B,v=some B/\B.fr p=true)/\p i=true/\¬i∈seen
 |[],seen,i,v,h=>by simp [jg,getS] at h
 |(j,w)::r,seen,i,v,h=>by
  simp only [jg] at h
  cases hs:hasN seen j with
  |true=>
   rw [hs,K5] at h
   obtain ⟨h1,h2,h4,h3⟩:=ve h
   refine ⟨?_,h2,h4,h3⟩
   rw [aV,K0];exact h1
   intro e;subst e;exact h3 (j4.1 hs)
  |false=>
   rw [hs,Ln] at h
   have hj:¬j∈seen:=fun hh=>by rw [j4.2 hh] at hs;simp at hs
   have next:getS (jg p (j::seen) r) i=some v->getS ((j,w)::r) i=some v/\(∃B,v=some B/\B.fr p=true)/\p i=true/\¬i∈seen:=fun h=>by
    obtain ⟨h1,h2,h4,h3⟩:=ve h
    simp only [Lc,not_or] at h3
    exact ⟨by rw [aV,K0 h3.1];exact h1,h2,h4,h3.2⟩
   cases w with
   |none=>exact next h
   |some B=>
    simp only at h
    cases hf:(B.fr p&&p j) with
    |true=>
     rw [hf,K5,aV] at h
     rw [K2] at hf
     by_cases hi:i=j
     ·rw [K1 hi,KZ] at h
      subst h;subst hi
      exact ⟨by rw [aV,K1 rfl],⟨B,rfl,hf.1⟩,hf.2,hj⟩
     ·rw [K0 hi] at h;exact next h
    |false=>rw [hf,Ln] at h;exact next h
theorem fo {a b:List (Nat×α)}:getS (a++b) i=(getS a i).or (getS b i):=by
 induction a with
 |nil=>simp [getS]
 |cons q r ih=>
  obtain ⟨j,v⟩:=q
  rw [Mj,aV,aV,ih]
  split<;>simp
theorem g6 {l:List (Nat×α)} {v:α} (h:getS l i=some v):(i,v)∈l:=by
 induction l with
 |nil=>simp [getS] at h
 |cons q r ih=>
  obtain ⟨j,w⟩:=q
  rw [aV] at h
  by_cases hi:i=j
  ·rw [K1 hi,KZ] at h;subst h;subst hi;exact L7 ..
  ·rw [K0 hi] at h;exact LS _ (ih h)
inductive VK (τ:Type) where
 |sl (i:Nat) (t:τ)
 |ow (i:Nat) (t:τ)
 |bl (nm:Nat) (t:τ)
 |ce (nm:Nat) (t:τ)
 |ar (t:τ)
 |pt (i nm sz:Nat)
 |so (q f:Nat) (t:τ) (cs:List (Nat×Nat))
 |sg (q f:Nat) (t S:τ) (fx:List (Nat×τ×Nat×Nat))
abbrev VK.T (dn:τ->Type):VK τ->Type
 | .sl _ t=>dn t
 | .ow _ t=>List (dn t)
 | .bl _ t=>List (dn t)
 | .ce _ t=>dn t
 | .ar t=>List (Nat×List (dn t))
 | .pt _ _ _=>Nat×Nat
 | .so _ _ t _=>List (dn t)
 | .sg _ _ t S _=>dn S×List (dn t)
abbrev VT (dn:τ->Type):List (VK τ)->Type
 |[]=>Unit
 |v::r=>v.T dn×VT dn r
def rN:(vs:List (VK τ))->(VT dn vs->Prop)->Prop
 |[],F=>F ()
 |_::r,F=>∀x,rN r fun y=>F (x,y)
theorem rO:∀{vs:List (VK τ)} {F:VT dn vs->Prop},rN vs F↔∀x,F x
 |[],F=>⟨fun h _=>h,fun h=>h ()⟩
 |_::r,F=>⟨fun h x=>rO.1 (h x.1) x.2,fun h x=>rO.2 fun y=>h (x,y)⟩
def kX (cs:List (Nat×Nat)) (f n sz:Nat):List (SV τ dn):=(cs.map fun c=>(.own c.1 c.2:SV τ dn)).set f (.own n sz)
def soE:List (SV τ dn)->List (Nat×Nat)->Nat->Nat->Bool
 |[],[],_,_=>true
 | .own a z::r,c::l,j,f=>(Nat.beq j f||(Nat.beq a c.1&&Nat.beq z c.2))&&soE r l (j+1) f
 |_,_,_,_=>false
theorem zO:∀{vs:List (SV τ dn)} {cs:List (Nat×Nat)} {j f n sz:Nat},soE vs cs j f=true->j<=f->vs[f - j]? =some (.own n sz)->vs=kX cs (f - j) n sz
 |[],[],j,f,n,sz,_,_,h=>by simp at h
 |[],c::l,j,f,n,sz,h,_,_=>by simp [soE] at h
 |v::r,[],j,f,n,sz,h,_,_=>by cases v<;>simp [soE] at h
 |v::r,c::l,j,f,n,sz,h,hj,hf=>by
  have hv:∃a z,v= .own a z:=by cases v<;>first|exact ⟨_,_,rfl⟩|simp [soE] at h
  obtain ⟨a,z,rfl⟩:=hv
  simp only [soE,K2,Ls] at h
  obtain ⟨h1,h2⟩:=h
  by_cases e:j=f
  ·subst e
   rw [Nat.sub_self] at hf ⊢
   simp only [LB,KZ] at hf
   rw [hf]
   unfold kX
   rw [Lf,List.set_cons_zero]
   congr 1
   have key:∀{r:List (SV τ dn)} {l:List (Nat×Nat)} {k:Nat},soE r l k j=true->j<k->r=l.map fun c=>(.own c.1 c.2:SV τ dn):=by
    intro r
    induction r with
    |nil=>intro l k h _;cases l with
     |nil=>rfl
     |cons c l=>simp [soE] at h
    |cons v r ih=>
     intro l k h hk
     cases l with
     |nil=>cases v<;>simp [soE] at h
     |cons c l=>
      have hv:∃a z,v= .own a z:=by cases v<;>first|exact ⟨_,_,rfl⟩|simp [soE] at h
      obtain ⟨a,z,rfl⟩:=hv
      simp only [soE,K2,Ls] at h
      obtain ⟨h1,h2⟩:=h
      rcases h1 with h1|⟨h1,h3⟩
      ·have:=Lk h1;omega
      ·rw [Lf,ih h2 (by omega),Lk h1,Lk h3]
   exact key h2 (by omega)
  ·rcases h1 with h1|⟨h1,h3⟩
   ·exact absurd (Lk h1) e
   ·have e2:f - j=(f - (j+1))+1:=by omega
    rw [e2] at hf ⊢
    rw [L2] at hf
    have ih:=zO h2 (by omega) hf
    unfold kX at ih ⊢
    rw [Lf,List.set_cons_succ, <-ih,Lk h1,Lk h3]
theorem H7 {E:TE τ dn} {m:Nat} (h1:N'.ι n=N.ι m) (h2:N'.ln n=N.ln m) (hF:∀c,c∈cs->N'.ι c.1=N.ι c.1/\N'.ln c.1=N.ln c.1):(kX cs f n sz:List (SV τ dn)).map (SV.av E N')=(kX cs f m sz:List (SV τ dn)).map (SV.av E N):=by
 unfold kX
 rw [Mt,Mt]
 have e1:(SV.own n sz:SV τ dn).av E N'=(SV.own m sz:SV τ dn).av E N:=by simp only [SV.av,h1,h2]
 rw [e1]
 congr 1
 rw [MG,MG]
 refine MY fun c hc=> ?_
 obtain ⟨q1,q2⟩:=hF c hc
 simp only [Function.comp_apply,SV.av,q1,q2]
def setX {κ α:Type} (h:Nat×κ->α):List α->List (Nat×κ)->List α
 |l,[]=>l
 |l,c::r=>(setX h l r).set c.1 (h c)
theorem ph {κ α:Type} {h:Nat×κ->α} {l:List α}:∀{r:List (Nat×κ)},(setX h l r).length=l.length
 |[]=>rfl
 |c::r=>by simp only [setX,List.length_set];exact ph
theorem vf {κ α β:Type} {h:Nat×κ->α} {u:α->β} {l:List α}:∀{r:List (Nat×κ)},(setX h l r).map u=setX (fun c=>u (h c)) (l.map u) r
 |[]=>rfl
 |c::r=>by simp only [setX,Mt];rw [vf]
theorem zP {κ α:Type} {h h':Nat×κ->α} {l:List α}:∀{r:List (Nat×κ)},(∀c,c∈r->h c=h' c)->setX h l r=setX h' l r
 |[],_=>rfl
 |c::r,e=>by simp only [setX];rw [e c (L7 ..),zP fun d hd=>e d (LS _ hd)]
theorem vh {κ α:Type} {h:Nat×κ->α} {l:List α} {j:Nat}:∀{r:List (Nat×κ)},(∀c,c∈r->c.1≠j)->(setX h l r)[j]? =l[j]?
 |[],_=>rfl
 |c::r,e=>by simp only [setX];rw [MZ (e c (L7 ..))];exact vh fun d hd=>e d (LS _ hd)
theorem zQ {κ α:Type} {h:Nat×κ->α} {l L:List α} {j:Nat} (hl:l.length=L.length):∀{r:List (Nat×κ)},(∀c,c∈r->L[c.1]? =some (h c))->(∃c,c∈r/\c.1=j)->(setX h l r)[j]? =L[j]?
 |[],_,⟨_,hc,_⟩=>by simp at hc
 |c::r,e,hx=>by
  simp only [setX]
  by_cases q:c.1=j
  ·subst q
   have e1:=e c (L7 ..)
   have:=(K8.1 e1).1
   rw [List.getElem?_set_self (by rw [ph,hl];exact this),e1]
  ·rw [MZ q]
   refine zQ hl (fun d hd=>e d (LS _ hd)) ?_
   obtain ⟨d,hd,rfl⟩:=hx
   rcases Lc.1 hd with rfl|hd
   ·exact absurd rfl q
   ·exact ⟨d,hd,rfl⟩
theorem H8 {κ α:Type} {h h':Nat×κ->α} {L:List α} {r:List (Nat×κ)} {y z:α} (h1:∀c,c∈r->L[c.1]? =some (h c)) (h2:L[f]? =some z):(setX h ((setX h' L r).set f y) r).set f z=L:=by
 apply List.ext_getElem?
 intro j
 by_cases e:f=j
 ·subst e
  have:=(K8.1 h2).1
  rw [List.getElem?_set_self (by rw [ph,List.length_set,ph];exact this),h2]
 ·rw [MZ e]
  by_cases q:∃c,c∈r/\c.1=j
  ·exact zQ (by rw [List.length_set,ph]) h1 q
  ·have q':∀c,c∈r->c.1≠j:=fun c hc e2=>q ⟨c,hc,e2⟩
   rw [vh q',MZ e,vh q']
def chkX (vs:List (SV τ dn)) (fx:List (Nat×τ×Nat×Nat)):Bool:=fx.all fun c=>match vs[c.1]? with
 |some (.own a z)=>Nat.beq a c.2.2.1&&Nat.beq z c.2.2.2
 |_=>false
def ofX (c:Nat×τ×Nat×Nat):SV τ dn:= .vl c.2.1 []
def rP (c:Nat×τ×Nat×Nat):SV τ dn:= .own c.2.2.1 c.2.2.2
def l8 (N:aw) (c:Nat×τ×Nat×Nat):AV:= .own (N.ι c.2.2.1) c.2.2.2 0 (N.ln c.2.2.1)
theorem zR {E:TE τ dn} (c:Nat×τ×Nat×Nat):(rP c:SV τ dn).av E N=l8 N c:=by simp only [rP,l8,SV.av]
theorem H9 {vs:List (SV τ dn)} {fx:List (Nat×τ×Nat×Nat)} (h:chkX vs fx=true) {E:TE τ dn}:∀c,c∈fx->(vs.map (SV.av E N))[c.1]? =some (l8 N c):=fun c hc=>by
 have:=K6.1 h c hc
 revert this
 cases hv:vs[c.1]? with
 |none=>intro h;simp at h
 |some w=>
  cases w with
  |own a z=>
   intro h
   simp only [K2] at h
   rw [Lu,hv, <-zR (E:=E),rP, <-Lk h.1, <-Lk h.2];rfl
  |_=>intro h;simp at h
variable [DecidableEq τ]
def eH (D:TD τ dn) (st:SS τ dn):(v:VK τ)->Option (v.T dn)
 | .sl i t=>match st.gt i with
  |some v=>jW D t v
  |none=>none
 | .ow i t=>match st.gt i with
  |some (.own nm sz)=>if sz=D.sz t then j0 D st nm t else none
  |_=>none
 | .bl nm t=>j0 D st nm t
 | .ce nm t=>match st.gm nm with
  |some (.bc q [cs])=>if q=D.sz t/\cs.all SV.ne=true then D.ds t cs else none
  |_=>none
 | .ar t=>st.fg t
 | .pt i nm sz=>match st.gt i with
  |some (.part nm' sz' off len)=>bif Nat.beq nm' nm&&Nat.beq sz' sz then some (off,len) else none
  |_=>none
 | .so q f t cs=>match st.gm q with
  |some (.bc Q [vs])=>match vs[f]? with
   |some (.own nm sz)=>bif Nat.beq Q cs.length&&(soE vs cs 0 f&&Nat.beq sz (D.sz t)) then j0 D st nm t else none
   |_=>none
  |_=>none
 | .sg q f t S fx=>match st.gm q with
  |some (.bc Q [vs])=>match vs[f]? with
   |some (.own nm sz)=>bif Nat.beq Q (D.sz S)&&(Nat.beq sz (D.sz t)&&(((setX ofX vs fx).set f (.vl t [])).all SV.ne&&chkX vs fx)) then (match D.ds S ((setX ofX vs fx).set f (.vl t [])),j0 D st nm t with
    |some x,some l=>some (x,l)
    |_,_=>none) else none
   |_=>none
  |_=>none
def j6 (D:TD τ dn) (st:SS τ dn):(vs:List (VK τ))->Option (VT dn vs)
 |[]=>some ()
 |v::r=>match eH D st v,j6 D st r with
  |some x,some y=>some (x,y)
  |_,_=>none
def nmV (st:SS τ dn):VK τ->Nat
 | .sl _ _=>0
 | .pt _ nm _=>nm
 | .ow i _=>match st.gt i with
  |some (.own nm _)=>nm
  |_=>0
 | .bl nm _| .ce nm _=>nm
 | .ar _=>0
 | .so q f _ _| .sg q f _ _ _=>match st.gm q with
  |some (.bc _ [vs])=>match vs[f]? with
   |some (.own nm _)=>nm
   |_=>0
  |_=>0
def kY:VK τ->Bool
 | .ow _ _=>true
 | .so _ _ _ _=>true
 | .sg _ _ _ _ _=>true
 |_=>false
def ew:VK τ->Bool
 | .sl _ _=>true
 |_=>false
def dQ:List (VK τ)->List Nat
 |[]=>[]
 | .sl i _::r| .ow i _::r| .pt i _ _::r=>i::dQ r
 |_::r=>dQ r
def l9:List (VK τ)->List Nat->List Nat
 | .sl _ _::r,_::l=>l9 r l
 | .pt _ _ _::r,_::l=>l9 r l
 | .so q _ _ _::r,n::l=>n::q::l9 r l
 | .sg q _ _ _ _::r,n::l=>n::q::l9 r l
 |_::r,n::l=>n::l9 r l
 |_,_=>[]
def movesV:List (VK τ)->List Nat->List Nat
 | .ow _ _::r,n::l=>n::movesV r l
 | .so _ _ _ _::r,n::l=>n::movesV r l
 | .sg _ _ _ _ _::r,n::l=>n::movesV r l
 |_::r,_::l=>movesV r l
 |_,_=>[]
def gk:List (VK τ)->List Nat
 |[]=>[]
 | .so q _ _ cs::r=>q::(cs.map Prod.fst++gk r)
 | .sg q _ _ _ fx::r=>q::(fx.map (fun c=>c.2.2.1)++gk r)
 |_::r=>gk r
def bC (D:TD τ dn):(vs:List (VK τ))->List Nat->VT dn vs->List (Nat×SV τ dn)
 | .sl i t::r,_::l,x=>(i,D.en t x.1)::bC D r l x.2
 | .ow i t::r,n::l,x=>(i, .own n (D.sz t))::bC D r l x.2
 | .bl _ _::r,_::l,x=>bC D r l x.2
 | .ce _ _::r,_::l,x=>bC D r l x.2
 | .ar _::r,_::l,x=>bC D r l x.2
 | .pt i nm sz::r,_::l,x=>(i, .part nm sz x.1.1 x.1.2)::bC D r l x.2
 | .so _ _ _ _::r,_::l,x=>bC D r l x.2
 | .sg _ _ _ _ _::r,_::l,x=>bC D r l x.2
 |_,_,_=>[]
def putM (D:TD τ dn):(vs:List (VK τ))->List Nat->VT dn vs->List (Nat×Option (SB τ dn))
 | .sl _ _::r,_::l,x=>putM D r l x.2
 | .ow _ t::r,n::l,x=>(n,some (.bl t x.1))::putM D r l x.2
 | .bl _ t::r,n::l,x=>(n,some (.bl t x.1))::putM D r l x.2
 | .ce _ t::r,n::l,x=>(n,some (.bc (D.sz t) [D.es t x.1]))::putM D r l x.2
 | .ar t::r,n::l,x=>(n,some (.ar t x.1))::putM D r l x.2
 | .pt _ _ _::r,_::l,x=>putM D r l x.2
 | .so q f t cs::r,n::l,x=>(n,some (.bl t x.1))::(q,some (.bc cs.length [kX cs f n (D.sz t)]))::putM D r l x.2
 | .sg q f t S fx::r,n::l,x=>(n,some (.bl t x.1.2))::(q,some (.bc (D.sz S) [(setX rP (D.es S x.1.1) fx).set f (.own n (D.sz t))]))::putM D r l x.2
 |_,_,_=>[]
def dz:List (VK τ)->List Nat->List Nat->Nat->Nat
 | .ow _ _::r,n::l,m::l',a=>bif Nat.beq a n then m else dz r l l' a
 | .so _ _ _ _::r,n::l,m::l',a=>bif Nat.beq a n then m else dz r l l' a
 | .sg _ _ _ _ _::r,n::l,m::l',a=>bif Nat.beq a n then m else dz r l l' a
 |_::r,_::l,_::l',a=>dz r l l' a
 |_,_,_,a=>a
def pj:List Nat->Bool
 |[]=>true
 |a::r=> !hasN r a&&pj r
end
section
variable {τ:Type} {dn:τ->Type} {D:TD τ dn} {N:aw} {st:SS τ dn} {σ:Nat->AV} {g:Nat->Option Bk}
def zS (D:TD τ dn) (N:aw) (σ:Nat->AV) (g:Nat->Option Bk):(v:VK τ)->Nat->v.T dn->Prop
 | .sl i t,_,x=>bN (σ i) ((D.en t x).av D.toTE N)
 | .ow i t,n,x=>σ i= .own (N.ι n) (D.sz t) 0 (N.ln n)/\g (N.ι n)=some ⟨D.sz t,x.map (D.ea N.ρ t)⟩/\N.ln n=x.length
 | .bl nm t,n,x=>n=nm/\g (N.ι n)=some ⟨D.sz t,x.map (D.ea N.ρ t)⟩/\N.ln n=x.length
 | .ce nm t,n,x=>n=nm/\g (N.ι n)=some ⟨D.sz t,[D.ea N.ρ t x]⟩/\N.ln n=1
 | .ar t,n,x=>n=0/\g (N.ι n)=some ⟨D.sz t,[]⟩/\N.ln n=0
 | .pt i nm sz,n,x=>n=nm/\σ i= .own (N.ι n) sz x.1 x.2
 | .so q f t cs,n,x=>(g (N.ι n)=some ⟨D.sz t,x.map (D.ea N.ρ t)⟩/\N.ln n=x.length)/\(g (N.ι q)=some ⟨cs.length,[(kX cs f n (D.sz t):List (SV τ dn)).map (SV.av D.toTE N)]⟩/\N.ln q=1)
 | .sg q f t S fx,n,x=>(g (N.ι n)=some ⟨D.sz t,x.2.map (D.ea N.ρ t)⟩/\N.ln n=x.2.length)/\(g (N.ι q)=some ⟨D.sz S,[(setX (l8 N) (D.ea N.ρ S x.1) fx).set f (.own (N.ι n) (D.sz t) 0 (N.ln n))]⟩/\N.ln q=1)
theorem Ia [DecidableEq τ] (ok:aU D) (R:aW D N st σ g) {v:VK τ} {x:v.T dn} (h:eH D st v=some x):zS D N σ g v (nmV st v) x:=by
 cases v with
 |sl i t=>
  simp only [eH] at h
  split at h
  ·rename_i w hw
   show bN (σ i) _
   rw [R.gt hw];exact rk ok h
  ·simp at h
 |ow i t=>
  simp only [eH] at h
  split at h
  ·rename_i nm sz hw
   split at h
   ·rename_i hs
    have hn:nmV st (.ow i t)=nm:=by simp only [nmV,hw]
    rw [hn]
    refine ⟨?_,o9 ok R h⟩
    rw [R.gt hw,hs];rfl
   ·simp at h
  ·simp at h
 |bl nm t=>exact ⟨rfl,o9 ok R h⟩
 |ce nm t=>
  simp only [eH] at h
  split at h
  ·rename_i q cs hB
   split at h
   ·rename_i hq
    obtain ⟨g1,g2⟩:=R.gm hB
    refine ⟨rfl, ?_,g2⟩
    show g (N.ι nm)=_
    rw [g1];simp only [SB.av,SV.bE,SV.bk,hq.1,ok.oB N t _ _ h hq.2]
   ·simp at h
  ·simp at h
 |ar t=>
  simp only [eH] at h
  obtain ⟨g1,g2⟩:=R.gm (kP h)
  exact ⟨rfl,g1,g2⟩
 |pt i nm sz=>
  simp only [eH] at h
  split at h
  ·rename_i nm' sz' off len hw
   cases hb:(Nat.beq nm' nm&&Nat.beq sz' sz) with
   |false=>rw [hb] at h;simp at h
   |true=>
    rw [hb,K5,KZ] at h
    subst h
    rw [K2] at hb
    have e1:=Lk hb.1
    have e2:=Lk hb.2
    subst e1;subst e2
    exact ⟨rfl,R.gt hw⟩
  ·simp at h
 |so q f t cs=>
  simp only [eH] at h
  split at h
  ·rename_i Q vs hB
   split at h
   ·rename_i nm sz hf
    cases hb:(Nat.beq Q cs.length&&(soE vs cs 0 f&&Nat.beq sz (D.sz t))) with
    |false=>rw [hb] at h;simp at h
    |true=>
     rw [hb,K5] at h
     simp only [K2] at hb
     obtain ⟨b1,b2,b3⟩:=hb
     have hn:nmV st (.so q f t cs)=nm:=by simp only [nmV,hB,hf]
     obtain ⟨g1,g2⟩:=R.gm hB
     have e:=zO b2 (Nat.zero_le _) hf
     rw [Nat.sub_zero,Lk b3] at e
     rw [hn]
     refine ⟨o9 ok R h, ?_,g2⟩
     rw [g1,e,Lk b1];simp only [SB.av,SV.bE,SV.bk]
   ·simp at h
  ·simp at h
 |sg q f t S fx=>
  simp only [eH] at h
  split at h
  ·rename_i Q vs hB
   split at h
   ·rename_i nm sz hf
    cases hb:(Nat.beq Q (D.sz S)&&(Nat.beq sz (D.sz t)&&(((setX ofX vs fx).set f (.vl t [])).all SV.ne&&chkX vs fx))) with
    |false=>rw [hb] at h;simp at h
    |true=>
     rw [hb,K5] at h
     simp only [K2] at hb
     obtain ⟨b1,b2,b3,b4⟩:=hb
     split at h
     ·rename_i y l hx hl
      simp only [KZ] at h;subst h
      have hn:nmV st (.sg q f t S fx)=nm:=by simp only [nmV,hB,hf]
      obtain ⟨g1,g2⟩:=R.gm hB
      have e:=ok.oB N S _ _ hx b3
      rw [hn]
      refine ⟨o9 ok R hl, ?_,g2⟩
      have hz:=Lk b2
      have gM:(vs.map (SV.av D.toTE N))[f]? =some (.own (N.ι nm) (D.sz t) 0 (N.ln nm)):=by rw [Lu,hf, <-hz];rfl
      rw [g1,Lk b1, <-e,Mt,vf,H8 (H9 b4) gM]
      simp only [SB.av,SV.bE,SV.bk]
     ·simp at h
   ·simp at h
  ·simp at h
inductive iE (D:TD τ dn) (N:aw) (σ:Nat->AV) (g:Nat->Option Bk):(vs:List (VK τ))->List Nat->VT dn vs->Prop
 |nil:iE D N σ g [] [] ()
 |cons {v:VK τ} {vs:List (VK τ)} {n:Nat} {l:List Nat} {x:v.T dn} {y:VT dn vs} (h:zS D N σ g v n x) (t:iE D N σ g vs l y):iE D N σ g (v::vs) (n::l) (x,y)
theorem rQ [DecidableEq τ] (ok:aU D) (R:aW D N st σ g):∀{vs:List (VK τ)} {x:VT dn vs},j6 D st vs=some x->iE D N σ g vs (vs.map (nmV st)) x
 |[],x,h=> .nil
 |v::r,x,h=>by
  simp only [j6] at h
  split at h
  ·rename_i a b h1 h2
   simp only [KZ] at h;subst h
   exact .cons (Ia ok R h1) (rQ ok R h2)
  ·simp at h
theorem vj {vs:List (VK τ)} {T A:List Nat} (h:¬a∈movesV vs T):dz vs T A a=a:=by
 induction vs generalizing T A with
 |nil=>simp [dz]
 |cons v r ih=>
  cases T with
  |nil=>cases v<;>simp [dz]
  |cons n l=>
   cases A with
   |nil=>cases v<;>simp [dz]
   |cons m l'=>
    cases v with
    |ow i t=>
     simp only [movesV,Lc,not_or] at h
     simp only [dz]
     have:Nat.beq a n=false:=by
      cases hb:Nat.beq a n with
      |false=>rfl
      |true=>exact absurd (Lk hb) h.1
     rw [this,Ln];exact ih h.2
    |so q f t cs=>
     simp only [movesV,Lc,not_or] at h
     simp only [dz]
     have:Nat.beq a n=false:=by
      cases hb:Nat.beq a n with
      |false=>rfl
      |true=>exact absurd (Lk hb) h.1
     rw [this,Ln];exact ih h.2
    |sg q f t S fx=>
     simp only [movesV,Lc,not_or] at h
     simp only [dz]
     have:Nat.beq a n=false:=by
      cases hb:Nat.beq a n with
      |false=>rfl
      |true=>exact absurd (Lk hb) h.1
     rw [this,Ln];exact ih h.2
    |_=>
     simp only [movesV] at h
     simp only [dz];exact ih h
theorem vm (D:TD τ dn) {N N':aw} {σ:Nat->AV} {g:Nat->Option Bk} (jh:N'.ρ=N.ρ) (ok:aU D):∀{vs:List (VK τ)} {A T:List Nat} {x:VT dn vs},iE D N σ g vs A x->T.length=A.length->
  (∀(j:Nat) v (n m:Nat),vs[j]? =some v->T[j]? =some n->A[j]? =some m->ew v=true\/(N'.ι n=N.ι m/\N'.ln n=N.ln m/\(kY v=true\/n=m)))->(∀a,a∈gk vs->N'.ι a=N.ι a/\N'.ln a=N.ln a)->iE D N' σ g vs T x
 |[],[],[],x,h,hl,hN,hF=> .nil
 |[],[],_::_,x,h,hl,hN,hF=>by simp at hl
 |v::r,a::A,[],x,h,hl,hN,hF=>by simp at hl
 |v::r,a::A,n::T,x,h,hl,hN,hF=>by
  cases h with
  |cons h t=>
   refine .cons ?_ (vm D jh ok t (by simpa using hl) (fun j v n m h0 h1 h2=>hN (j+1) v n m (by simpa using h0) (by simpa using h1) (by simpa using h2)) (fun a ha=>hF a (by cases v<;>simp only [gk]<;>first|exact ha|exact LS _ (LF _ ha)|exact LS _ ha)))
   have fU:=hN 0 v n a rfl rfl rfl
   cases v with
   |sl i t=>show bN (σ i) _;rw [<-uT ok jh];exact h
   |ow i t=>
    obtain ⟨e1,e2,_⟩:=fU.resolve_left (by simp [ew])
    obtain ⟨h1,h2,h3⟩:=h;exact ⟨by rw [e1,e2];exact h1,by rw [e1,jh];exact h2,by rw [e2];exact h3⟩
   |bl nm t=>
    obtain ⟨e1,e2,e3⟩:=fU.resolve_left (by simp [ew])
    obtain ⟨h1,h2,h3⟩:=h
    have:n=a:=by simpa [kY] using e3
    exact ⟨this.trans h1,by rw [e1,jh];exact h2,by rw [e2];exact h3⟩
   |pt i nm sz=>
    obtain ⟨e1,e2,e3⟩:=fU.resolve_left (by simp [ew])
    obtain ⟨h1,h2⟩:=h
    have:n=a:=by simpa [kY] using e3
    exact ⟨this.trans h1,by rw [e1];exact h2⟩
   |ar t=>
    obtain ⟨e1,e2,e3⟩:=fU.resolve_left (by simp [ew])
    obtain ⟨h1,h2,h3⟩:=h
    have:n=a:=by simpa [kY] using e3
    exact ⟨this.trans h1,by rw [e1];exact h2,by rw [e2];exact h3⟩
   |ce nm t=>
    obtain ⟨e1,e2,e3⟩:=fU.resolve_left (by simp [ew])
    obtain ⟨h1,h2,h3⟩:=h
    have:n=a:=by simpa [kY] using e3
    exact ⟨this.trans h1,by rw [e1,jh];exact h2,by rw [e2];exact h3⟩
   |so q f t cs=>
    obtain ⟨e1,e2,_⟩:=fU.resolve_left (by simp [ew])
    obtain ⟨⟨h1,h2⟩,h3,h4⟩:=h
    obtain ⟨q1,q2⟩:=hF q (L7 ..)
    have hc:∀c,c∈cs->N'.ι c.1=N.ι c.1/\N'.ln c.1=N.ln c.1:=fun c hc=>hF c.1 (LS _ (LL _ (Lz.2 ⟨c,hc,rfl⟩)))
    refine ⟨⟨by rw [e1,jh];exact h1,by rw [e2];exact h2⟩, ?_,by rw [q2];exact h4⟩
    rw [q1,H7 e1 e2 hc];exact h3
   |sg q f t S fx=>
    obtain ⟨e1,e2,_⟩:=fU.resolve_left (by simp [ew])
    obtain ⟨⟨h1,h2⟩,h3,h4⟩:=h
    obtain ⟨q1,q2⟩:=hF q (L7 ..)
    have hc:∀c,c∈fx->l8 N' c=l8 N c:=fun c hc=>by
     obtain ⟨w1,w2⟩:=hF c.2.2.1 (LS _ (LL _ (Lz.2 ⟨c,hc,rfl⟩)))
     unfold l8;rw [w1,w2]
    exact ⟨⟨by rw [e1,jh];exact h1,by rw [e2];exact h2⟩,by rw [q1,jh,e1,e2,zP hc];exact h3,by rw [q2];exact h4⟩
theorem j7:∀{vs:List (VK τ)} {T:List Nat} {x:VT dn vs},iE D N σ g vs T x->∀i v,(i,v)∈bC D vs T x->bN (σ i) (v.av D.toTE N)
 |[],[],x,h,i,v,hm=>by simp [bC] at hm
 |[],_::_,x,h,i,v,hm=>by simp [bC] at hm
 |w::r,[],x,h,i,v,hm=>by cases h
 |w::r,n::T,x,h,i,v,hm=>by
  cases h with
  |cons h t=>
   cases w with
   |sl j ty=>
    simp only [bC,Lc,Li] at hm
    rcases hm with ⟨rfl,rfl⟩|hm
    ·exact h
    ·exact j7 t i v hm
   |ow j ty=>
    simp only [bC,Lc,Li] at hm
    rcases hm with ⟨rfl,rfl⟩|hm
    ·exact bN.of_eq h.1
    ·exact j7 t i v hm
   |bl nm ty=>simp only [bC] at hm;exact j7 t i v hm
   |ce nm ty=>simp only [bC] at hm;exact j7 t i v hm
   |ar ty=>simp only [bC] at hm;exact j7 t i v hm
   |so q f ty cs=>simp only [bC] at hm;exact j7 t i v hm
   |sg q f ty S fx=>simp only [bC] at hm;exact j7 t i v hm
   |pt j nm sz=>
    simp only [bC,Lc,Li] at hm
    rcases hm with ⟨rfl,rfl⟩|hm
    ·obtain ⟨h1,h2⟩:=h;subst h1;exact bN.of_eq h2
    ·exact j7 t i v hm
theorem ji (ok:aU D):∀{vs:List (VK τ)} {T:List Nat} {x:VT dn vs},iE D N σ g vs T x->∀nm B,(nm,B)∈putM D vs T x->∃B',B=some B'/\g (N.ι nm)=some (B'.av D.toTE N)/\N.ln nm=B'.len
 |[],[],x,h,nm,B,hm=>by simp [putM] at hm
 |[],_::_,x,h,nm,B,hm=>by simp [putM] at hm
 |w::r,[],x,h,nm,B,hm=>by cases h
 |w::r,n::T,x,h,nm,B,hm=>by
  cases h with
  |cons h t=>
   cases w with
   |sl j ty=>simp only [putM] at hm;exact ji ok t nm B hm
   |ow j ty=>
    simp only [putM,Lc,Li] at hm
    rcases hm with ⟨rfl,rfl⟩|hm
    ·exact ⟨_,rfl,h.2⟩
    ·exact ji ok t nm B hm
   |bl nm' ty=>
    simp only [putM,Lc,Li] at hm
    rcases hm with ⟨rfl,rfl⟩|hm
    ·exact ⟨_,rfl,h.2⟩
    ·exact ji ok t nm B hm
   |ce nm' ty=>
    simp only [putM,Lc,Li] at hm
    rcases hm with ⟨rfl,rfl⟩|hm
    ·obtain ⟨h1,h2,h3⟩:=h
     refine ⟨_,rfl, ?_,h3⟩
     rw [h2];simp only [SB.av,SV.bE,SV.bk,ok.cO]
    ·exact ji ok t nm B hm
   |pt j nm sz=>simp only [putM] at hm;exact ji ok t _ B hm
   |so q f ty cs=>
    simp only [putM,Lc,Li] at hm
    rcases hm with ⟨rfl,rfl⟩|⟨rfl,rfl⟩|hm
    ·exact ⟨_,rfl,h.1⟩
    ·refine ⟨_,rfl, ?_,h.2.2⟩
     rw [h.2.1];simp only [SB.av,SV.bE,SV.bk]
    ·exact ji ok t _ B hm
   |sg q f ty S fx=>
    simp only [putM,Lc,Li] at hm
    rcases hm with ⟨rfl,rfl⟩|⟨rfl,rfl⟩|hm
    ·exact ⟨_,rfl,h.1⟩
    ·refine ⟨_,rfl, ?_,h.2.2⟩
     rw [h.2.1];simp only [SB.av,SV.bE,SV.bk,Mt,vf,zR,ok.cO,SV.av]
    ·exact ji ok t _ B hm
   |ar ty=>
    simp only [putM,Lc,Li] at hm
    rcases hm with ⟨rfl,rfl⟩|hm
    ·exact ⟨_,rfl,h.2⟩
    ·exact ji ok t nm B hm
def okT (p:Nat->Bool):List (VK τ)->List Nat->Bool
 | .pt _ nm _::r,n::l=>p n&&(p nm&&okT p r l)
 | .sl _ _::r,_::l=>okT p r l
 | .so q _ _ cs::r,n::l=>p n&&(p q&&(cs.all (fun c=>p c.1)&&okT p r l))
 | .sg q _ _ _ fx::r,n::l=>p n&&(p q&&(fx.all (fun c=>p c.2.2.1)&&okT p r l))
 |_::r,n::l=>p n&&okT p r l
 |_,_=>true
theorem zT {p:Nat->Bool}:∀{vs:List (VK τ)} {T:List Nat},okT p vs T=true->∀(j:Nat) v n,vs[j]? =some v->T[j]? =some n->ew v=true\/p n=true
 |[],T,h,j,v,n,h1,h2=>by simp at h1
 |w::r,[],h,j,v,n,h1,h2=>by simp at h2
 |w::r,m::l,h,j,v,n,h1,h2=>by
  cases j with
  |zero=>
   simp only [LB,KZ] at h1 h2
   subst h1;subst h2
   cases w<;>simp only [okT,K2] at h<;>first
    |exact .inl rfl
    |exact .inr h.1
  |succ j=>
   have hr:okT p r l=true:=by
    cases w<;>simp only [okT,K2] at h<;>first
     |exact h
     |exact h.2
     |exact h.2.2.2
     |exact h.2.2
   exact zT hr j v n (by simpa using h1) (by simpa using h2)
theorem j8 {p:Nat->Bool}:∀{vs:List (VK τ)} {T:List Nat},okT p vs T=true->T.length=vs.length->∀a,a∈gk vs->p a=true
 |[],T,h,_,a,ha=>by simp [gk] at ha
 |w::r,[],h,hl,a,ha=>by simp at hl
 |w::r,m::l,h,hl,a,ha=>by
  have dd:l.length=r.length:=by simpa using hl
  cases w with
  |so q f t cs=>
   simp only [okT,K2] at h
   simp only [gk,Lc,LD,Lz] at ha
   rcases ha with rfl|⟨c,hc,rfl⟩|ha
   ·exact h.2.1
   ·exact K6.1 h.2.2.1 c hc
   ·exact j8 h.2.2.2 dd a ha
  |sg q f t S fx=>
   simp only [okT,K2] at h
   simp only [gk,Lc,LD,Lz] at ha
   rcases ha with rfl|⟨c,hc,rfl⟩|ha
   ·exact h.2.1
   ·exact K6.1 h.2.2.1 c hc
   ·exact j8 h.2.2.2 dd a ha
  |sl i t=>simp only [okT] at h;exact j8 h dd a ha
  |pt i nm sz=>simp only [okT,K2] at h;exact j8 h.2.2 dd a ha
  |ow i t=>simp only [okT,K2] at h;exact j8 h.2 dd a ha
  |bl i t=>simp only [okT,K2] at h;exact j8 h.2 dd a ha
  |ce i t=>simp only [okT,K2] at h;exact j8 h.2 dd a ha
  |ar t=>simp only [okT,K2] at h;exact j8 h.2 dd a ha
theorem vp (ok:aU D) (t:τ) (x:dn t):(D.en t x).fr p=true:=by
 have h:=ok.nf p t x
 unfold TD.en
 cases ha:D.ag t with
 |true=>rw [K5];simp only [SV.fr];exact h
 |false=>
  rw [Ln]
  cases hs:D.es t x with
  |nil=>rfl
  |cons v r=>rw [hs] at h;simp only [SV.db,K2] at h;exact h.1
theorem jj (ok:aU D) {p:Nat->Bool}:∀{vs:List (VK τ)} {T:List Nat} {x:VT dn vs},okT p vs T=true->∀i v,(i,v)∈bC D vs T x->v.fr p=true/\i∈dQ vs
 |[],[],x,hp,i,v,hm=>by simp [bC] at hm
 |[],_::_,x,hp,i,v,hm=>by simp [bC] at hm
 |w::r,[],x,hp,i,v,hm=>by cases w<;>simp [bC] at hm
 |w::r,n::T,x,hp,i,v,hm=>by
  cases w with
  |sl j ty=>
   simp only [okT] at hp
   simp only [bC,Lc,Li] at hm
   simp only [dQ,Lc]
   rcases hm with ⟨rfl,rfl⟩|hm
   ·exact ⟨vp ok _ _, .inl rfl⟩
   ·have ih:=jj ok hp i v hm;exact ⟨ih.1, .inr ih.2⟩
  |ow j ty=>
   simp only [okT,K2] at hp
   simp only [bC,Lc,Li] at hm
   simp only [dQ,Lc]
   rcases hm with ⟨rfl,rfl⟩|hm
   ·exact ⟨by simp only [SV.fr];exact hp.1, .inl rfl⟩
   ·have ih:=jj ok hp.2 i v hm;exact ⟨ih.1, .inr ih.2⟩
  |bl nm ty=>
   simp only [okT,K2] at hp
   simp only [bC] at hm;simp only [dQ];exact jj ok hp.2 i v hm
  |ce nm ty=>
   simp only [okT,K2] at hp
   simp only [bC] at hm;simp only [dQ];exact jj ok hp.2 i v hm
  |ar ty=>
   simp only [okT,K2] at hp
   simp only [bC] at hm;simp only [dQ];exact jj ok hp.2 i v hm
  |pt j nm sz=>
   simp only [okT,K2] at hp
   simp only [bC,Lc,Li] at hm
   simp only [dQ,Lc]
   rcases hm with ⟨rfl,rfl⟩|hm
   ·exact ⟨by simp only [SV.fr];exact hp.2.1, .inl rfl⟩
   ·have ih:=jj ok hp.2.2 i v hm;exact ⟨ih.1, .inr ih.2⟩
  |so q f ty cs=>
   simp only [okT,K2] at hp
   simp only [bC] at hm;simp only [dQ];exact jj ok hp.2.2.2 i v hm
  |sg q f ty S fx=>
   simp only [okT,K2] at hp
   simp only [bC] at hm;simp only [dQ];exact jj ok hp.2.2.2 i v hm
theorem ma {p:Nat->Bool}:∀{vs:List (VK τ)} {T:List Nat} {x:VT dn vs},okT p vs T=true->∀nm B,(nm,B)∈putM D vs T x->p nm=true
 |[],[],x,hp,nm,B,hm=>by simp [putM] at hm
 |[],_::_,x,hp,nm,B,hm=>by simp [putM] at hm
 |w::r,[],x,hp,nm,B,hm=>by cases w<;>simp [putM] at hm
 |w::r,n::T,x,hp,nm,B,hm=>by
  cases w with
  |sl j ty=>simp only [okT] at hp;simp only [putM] at hm;exact ma hp nm B hm
  |pt j nm' sz=>simp only [okT,K2] at hp;simp only [putM] at hm;exact ma hp.2.2 nm B hm
  |so q f ty cs=>
   simp only [okT,K2] at hp
   simp only [putM,Lc,Li] at hm
   rcases hm with ⟨rfl,_⟩|⟨rfl,_⟩|hm
   ·exact hp.1
   ·exact hp.2.1
   ·exact ma hp.2.2.2 nm B hm
  |sg q f ty S fx=>
   simp only [okT,K2] at hp
   simp only [putM,Lc,Li] at hm
   rcases hm with ⟨rfl,_⟩|⟨rfl,_⟩|hm
   ·exact hp.1
   ·exact hp.2.1
   ·exact ma hp.2.2.2 nm B hm
  |_=>
   simp only [okT,K2] at hp
   simp only [putM,Lc,Li] at hm
   rcases hm with ⟨rfl,_⟩|hm
   ·exact hp.1
   ·exact ma hp.2 nm B hm
def lessB (nx:Nat) (a:Nat):Bool:=Nat.blt a nx
theorem pk {nx:Nat} (h:lessB nx a=true):a<nx:=LV h
theorem Ib {nx:Nat} {N:aw} (h:N.aZ nx N'):N.same (lessB nx) N':=⟨fun a ha=>h.1 a (pk ha),h.2⟩
theorem zU (ok:aU D) {vs:List (VK τ)} {T:List Nat} {x:VT dn vs} {rt:List (Nat×SV τ dn)} {rm:List (Nat×Option (SB τ dn))} {nx:Nat} (hV:iE D N s.σ s.g vs T x) (hT:okT (lessB nx) vs T=true) (hl:T.length=vs.length)
  (Ic:∀i v,getS rt i=some v->s.σ i=v.av D.toTE N/\v.fr (lessB nx)=true/\¬i∈dQ vs) (rI:∀nm B,getS rm nm=some B->nm<nx/\∀B',B=some B'->s.g (N.ι nm)=some (B'.av D.toTE N)/\N.ln nm=B'.len/\B'.fr (lessB nx)=true)
  (inj:∀a b,a<nx->b<nx->N.ι a=N.ι b->a=b) (lt:∀a,a<nx->N.ι a<s.k)
  (zV:∀t A,(⟨rt,rm,bC D vs T x,putM D vs T x,nx⟩:SS τ dn).bm 0 (.ar t A)->∀id,dp A id->s.g id=some ⟨D.sz t,(eU A id).map (D.ea N.ρ t)⟩/\id<s.k/\∀nm B,(⟨rt,rm,bC D vs T x,putM D vs T x,nx⟩:SS τ dn).bm nm B->N.ι nm≠id):
  ∃s',s.Le k0 n s'/\Rel D N ⟨rt,rm,bC D vs T x,putM D vs T x,nx⟩ s':=by
 let σ':Nat->AV:=fun i=>match getS (bC D vs T x) i with
  |some v=>v.av D.toTE N
  |none=>s.σ i
 refine ⟨⟨σ',s.g,s.k⟩,S3.H5 fun i=> ?_,fun N' hN=> ?_,inj,lt,fun nm B h=>pk (ma hT nm B (g6 h)),fun nm B h=>(rI nm B h).1,fun t A h id hid=>(zV t A h id hid).2⟩
 ·show bN (s.σ i) (match getS (bC D vs T x) i with|some v=>v.av D.toTE N|none=>s.σ i)
  split
  ·rename_i v hv;exact j7 hV i v (g6 hv)
  ·exact bN.refl
 ·have hs:=Ib hN
  have Ie:iE D N' s.σ s.g vs T x:=by
   refine vm D hN.2 ok hV rfl (fun j v n m h0 h1 h2=> ?_) fun a ha=>hs.1 a (j8 hT hl a ha)
   rw [h1] at h2;simp only [KZ] at h2;subst h2
   rcases zT hT j v n h0 h1 with h|h
   ·exact .inl h
   ·exact .inr ⟨(hs.1 n h).1,(hs.1 n h).2, .inr rfl⟩
  refine ⟨fun i v h=> ?_,fun i v h=> ?_,fun nm B h=> ?_,fun nm B h=> ?_,fun t A h id hid=>by rw [hN.2];exact (zV t A h id hid).1⟩
  ·show (match getS (bC D vs T x) i with|some v=>v.av D.toTE N|none=>s.σ i)=_
   have h':getS (bC D vs T x) i=some v:=h
   rw [h']
   exact (nj hs v (jj ok hT i v (g6 h')).1).symm
  ·show (match getS (bC D vs T x) i with|some v=>v.av D.toTE N|none=>s.σ i)=_
   obtain ⟨h1,h2,h3⟩:=Ic i v h
   split
   ·rename_i w hw;exact absurd (jj ok hT i w (g6 hw)).2 h3
   ·rw [h1];exact (nj hs v h2).symm
  ·obtain ⟨B',e,h1,h2⟩:=ji ok Ie nm (some B) (g6 h)
   simp only [KZ] at e;subst e
   exact ⟨h1,h2⟩
  ·obtain ⟨h0,h1⟩:=rI nm (some B) h
   obtain ⟨q1,q2,q3⟩:=h1 B rfl
   exact ⟨by rw [(hN.1 nm h0).1,q1,zN hs B q3],by rw [(hN.1 nm h0).2];exact q2⟩
def me:VK τ->Bool
 | .pt _ _ _=>true
 |_=>false
theorem Ig [DecidableEq τ] {v:VK τ} {x:v.T dn} (h:eH D st v=some x):(ew v=true\/me v=true)\/∃B,st.gm (nmV st v)=some B:=by
 have bl:∀{nm t} {xs:List (dn t)},j0 D st nm t=some xs->∃B,st.gm nm=some B:=fun {nm t xs} h=>by
  unfold j0 at h
  split at h
  ·rename_i hB;exact ⟨_,hB⟩
  ·rename_i hB;exact ⟨_,hB⟩
  ·simp at h
 cases v with
 |sl i t=>exact .inl (.inl rfl)
 |pt i nm sz=>exact .inl (.inr rfl)
 |ow i t=>
  simp only [eH] at h
  split at h
  ·rename_i nm sz hw
   split at h
   ·have hn:nmV st (.ow i t)=nm:=by simp only [nmV,hw]
    rw [hn];exact .inr (bl h)
   ·simp at h
  ·simp at h
 |bl nm t=>exact .inr (bl h)
 |ce nm t=>
  simp only [eH] at h
  split at h
  ·rename_i hB;exact .inr ⟨_,hB⟩
  ·simp at h
 |ar t=>exact .inr ⟨_,kP h⟩
 |so q f t cs=>
  simp only [eH] at h
  split at h
  ·rename_i Q vs hB
   split at h
   ·rename_i nm sz hf
    have hn:nmV st (.so q f t cs)=nm:=by simp only [nmV,hB,hf]
    cases hb:(Nat.beq Q cs.length&&(soE vs cs 0 f&&Nat.beq sz (D.sz t))) with
    |false=>rw [hb] at h;simp at h
    |true=>rw [hb,K5] at h;rw [hn];exact .inr (bl h)
   ·simp at h
  ·simp at h
 |sg q f t S fx=>
  simp only [eH] at h
  split at h
  ·rename_i Q vs hB
   split at h
   ·rename_i nm sz hf
    have hn:nmV st (.sg q f t S fx)=nm:=by simp only [nmV,hB,hf]
    cases hb:(Nat.beq Q (D.sz S)&&(Nat.beq sz (D.sz t)&&(((setX ofX vs fx).set f (.vl t [])).all SV.ne&&chkX vs fx))) with
    |false=>rw [hb] at h;simp at h
    |true=>
     rw [hb,K5] at h
     split at h
     ·rename_i y l hx hl
      rw [hn];exact .inr (bl hl)
     ·simp at h
   ·simp at h
  ·simp at h
theorem Ih [DecidableEq τ] {t S:τ} {fx:List (Nat×τ×Nat×Nat)} {x:(VK.sg q f t S fx).T dn} (h:eH D st (.sg q f t S fx)=some x):∃B,st.gm q=some B:=by
 simp only [eH] at h
 split at h
 ·rename_i Q vs hB;exact ⟨_,hB⟩
 ·simp at h
theorem Ii [DecidableEq τ] {t:τ} {x:(VK.so q f t cs).T dn} (h:eH D st (.so q f t cs)=some x):∃B,st.gm q=some B:=by
 simp only [eH] at h
 split at h
 ·rename_i Q vs hB;exact ⟨_,hB⟩
 ·simp at h
theorem rR [DecidableEq τ] {st:SS τ dn}:∀{vs:List (VK τ)} {T:List Nat} {x:VT dn vs},j6 D st vs=some x->T.length=vs.length->∀nm B,(nm,some B)∈putM D vs T x->(∃(j:Nat) (v:VK τ),vs[j]? =some v/\T[j]? =some nm/\ew v=false/\(∃B',st.gm (nmV st v)=some B')/\(∀t A,B= .ar t A->v= .ar t/\st.gm 0=some (.ar t A)))\/(nm∈gk vs/\(∃B',st.gm nm=some B')/\∀t A,B≠ .ar t A)
 |[],[],x,h,hl,nm,B,hm=>by simp [putM] at hm
 |[],_::_,x,h,hl,nm,B,hm=>by simp at hl
 |v::r,[],x,h,hl,nm,B,hm=>by simp at hl
 |v::r,n::T,x,h,hl,nm,B,hm=>by
  simp only [j6] at h
  split at h
  case h_2=>simp at h
  rename_i a b h1 h2
  simp only [KZ] at h;subst h
  have ih:(nm,some B)∈putM D r T b->(∃(j:Nat) (w:VK τ),(v::r)[j]? =some w/\(n::T)[j]? =some nm/\ew w=false/\(∃B',st.gm (nmV st w)=some B')/\(∀t A,B= .ar t A->w= .ar t/\st.gm 0=some (.ar t A)))\/(nm∈gk (v::r)/\(∃B',st.gm nm=some B')/\∀t A,B≠ .ar t A):=fun hm=>by
   rcases rR h2 (by simpa using hl) nm B hm with ⟨j,w,q⟩|⟨q1,q2⟩
   ·exact .inl ⟨j+1,w,by simpa using q⟩
   ·exact .inr ⟨by cases v<;>simp only [gk]<;>first|exact q1|exact LS _ (LF _ q1)|exact LS _ q1,q2⟩
  have hal:=Ig h1
  cases v with
  |sl i t=>simp only [putM] at hm;exact ih hm
  |pt i nm' sz=>simp only [putM] at hm;exact ih hm
  |so q f t cs=>
   simp only [putM,Lc,Li,KZ] at hm
   rcases hm with ⟨rfl,rfl⟩|⟨rfl,rfl⟩|hm
   ·exact .inl ⟨0,_,rfl,rfl,rfl,hal.resolve_left (by simp [ew,me]),fun t A e=>by simp at e⟩
   ·exact .inr ⟨L7 ..,Ii h1,fun t A e=>by simp at e⟩
   ·exact ih hm
  |sg q f t S fx=>
   simp only [putM,Lc,Li,KZ] at hm
   rcases hm with ⟨rfl,rfl⟩|⟨rfl,rfl⟩|hm
   ·exact .inl ⟨0,_,rfl,rfl,rfl,hal.resolve_left (by simp [ew,me]),fun t A e=>by simp at e⟩
   ·exact .inr ⟨L7 ..,Ih h1,fun t A e=>by simp at e⟩
   ·exact ih hm
  |ow i t=>
   simp only [putM,Lc,Li,KZ] at hm
   rcases hm with ⟨rfl,rfl⟩|hm
   ·exact .inl ⟨0,_,rfl,rfl,rfl,hal.resolve_left (by simp [ew,me]),fun t A e=>by simp at e⟩
   ·exact ih hm
  |bl i t=>
   simp only [putM,Lc,Li,KZ] at hm
   rcases hm with ⟨rfl,rfl⟩|hm
   ·exact .inl ⟨0,_,rfl,rfl,rfl,hal.resolve_left (by simp [ew,me]),fun t A e=>by simp at e⟩
   ·exact ih hm
  |ce i t=>
   simp only [putM,Lc,Li,KZ] at hm
   rcases hm with ⟨rfl,rfl⟩|hm
   ·exact .inl ⟨0,_,rfl,rfl,rfl,hal.resolve_left (by simp [ew,me]),fun t A e=>by simp at e⟩
   ·exact ih hm
  |ar t=>
   simp only [putM,Lc,Li,KZ] at hm
   rcases hm with ⟨rfl,rfl⟩|hm
   ·refine .inl ⟨0,_,rfl,rfl,rfl,hal.resolve_left (by simp [ew,me]),fun t' A e=> ?_⟩
    simp only [SB.ar.injEq] at e
    obtain ⟨rfl,e⟩:=e
    have e:=eq_of_heq e
    subst e
    exact ⟨rfl,kP h1⟩
   ·exact ih hm
end
open Go.RowKit
inductive Fz (g:Nat->Option Bk) (F:List Nat):AV->AV->Prop
 |refl {a:AV}:Fz g F a a
 |snap {a a':AV} (hid:∀id,id∈a.bF->id∈F) (h:(snap1 a).run g=some a'):Fz g F a a'
 |agg {cs ds:List AV} (hl:cs.length=ds.length) (h:∀(i:Nat) c d,cs[i]? =some c->ds[i]? =some d->Fz g F c d):Fz g F (.agg cs) (.agg ds)
 |aJ {cs ds:List AV} (hl:cs.length=ds.length) (h:∀(i:Nat) c d,cs[i]? =some c->ds[i]? =some d->Fz g F c d):Fz g F (.aJ cs) (.aJ ds)
 |fn {f:FuncId} {cs ds:List AV} (hl:cs.length=ds.length) (h:∀(i:Nat) c d,cs[i]? =some c->ds[i]? =some d->Fz g F c d):Fz g F (.fn f cs) (.fn f ds)
 |bf {f:FuncId} {cs ds:List AV} (hl:cs.length=ds.length) (h:∀(i:Nat) c d,cs[i]? =some c->ds[i]? =some d->Fz g F c d):Fz g F (.bf f cs) (.bf f ds)
theorem Ij {a:AV} (h:(snap1 a).run g=some a'):Pu a':=by
 have other:(if a.pu1=true then RM.ret a else RM.fail).run g=some a'->Pu a':=fun h=>by
  split at h
  ·rename_i hp;simp only [RM.run,KZ] at h;subst h;exact AV.qi hp
  ·simp [RM.run] at h
 cases a with
 |own id sz off n=>
  simp only [snap1] at h
  obtain ⟨els,h1,h2⟩:=cB h
  split at h2
  ·simp only [RM.run,KZ] at h2;subst h2;exact .aP
  ·simp [RM.run] at h2
 |ref id sz i o=>
  simp only [snap1,RM.run] at h
  cases hB:g id with
  |none=>simp [hB] at h
  |some B=>
   simp only [hB] at h
   split at h
   ·split at h
    ·split at h
     ·simp only [RM.run,KZ] at h;subst h;exact .pim
     ·simp [RM.run] at h
    ·simp [RM.run] at h
   ·simp [RM.run] at h
 |_=>exact other h
section
variable {E E':Env} {J:Nat->Prop} {base:Nat} {g:Nat->Option Bk} {F:List Nat}
theorem Ik (hm:aD E J base g) (hE:E.Le E') (hw:E'.w=E.w) (hI:∀id b B,id∈F->g id=some B->E.loc id=some b->E'.I b) (iS:∀b,E.I b->E'.I b) {a:AV} (hf:Fz g F a a'):∀{v:Value},af E v a->af E' v a':=by
 have cells:∀{vs:Array Value} {cs ds:List AV},cs.length=ds.length->(∀(i:Nat) c d,cs[i]? =some c->ds[i]? =some d->∀{v:Value},af E v c->af E' v d)->(∀(i:Nat) v c,vs[i]? =some v->cs[i]? =some c->af E v c)->∀(i:Nat) v d,vs[i]? =some v->ds[i]? =some d->af E' v d:=fun {vs cs ds} hl ih h i v d hv hd=>by
  have hi:i<cs.length:=by rw [hl];exact (K8.1 hd).1
  exact ih i cs[i] d (Lj hi) hd (h i v _ hv (Lj hi))
 induction hf with
 |refl=>intro v h;exact h.step hE
 | @snap a a' hid h=>
  intro v hr
  have h1:=s7 hm E'.I hr h (fun b hb=>by
   rcases hb with hb|⟨id,B,h1,h2,h3⟩
   ·exact iS b hb
   ·exact hI id b B (hid id h1) h2 h3)
  exact af.pure (E:=Proofs.Ytpoikkflcpklgaa.E0 E.w E'.I) (E':=E') (fun b hb=>⟨hb,fun o=>by rw [hw];rfl⟩) h1 (Ij h)
 |agg hl h ih=>intro v hr;cases hr with|agg dd hr=>exact .agg (dd.trans hl) (cells hl (fun i c d h1 h2 v h3=>ih i c d h1 h2 h3) hr)
 |aJ hl h ih=>intro v hr;cases hr with|aJ dd hr=>exact .aJ (dd.trans hl) (cells hl (fun i c d h1 h2 v h3=>ih i c d h1 h2 h3) hr)
 |fn hl h ih=>intro v hr;cases hr with|fn dd hr=>exact .fn (dd.trans hl) (cells hl (fun i c d h1 h2 v h3=>ih i c d h1 h2 h3) hr)
 |bf hl h ih=>intro v hr;cases hr with|bf dd hr=>exact .bf (dd.trans hl) (cells hl (fun i c d h1 h2 v h3=>ih i c d h1 h2 h3) hr)
def j9 (g:Nat->Option Bk) (F:List Nat) (els fR:List (List AV)):Prop:=els.length=fR.length/\∀(i:Nat) cs ds,els[i]? =some cs->fR[i]? =some ds->cs.length=ds.length/\∀(j:Nat) c d,cs[j]? =some c->ds[j]? =some d->Fz g F c d
theorem j9.refl {els:List (List AV)}:j9 g F els els:=⟨rfl,fun i cs ds h1 h2=>by rw [h1] at h2;cases h2;exact ⟨rfl,fun j c d h3 h4=>by rw [h3] at h4;cases h4;exact .refl⟩⟩
theorem S3.zW {g':Nat->Option Bk} (hσ:∀i,Fz s.g F (s.σ i) (σ' i)) (hF:∀id,id∈F->∃B,s.g id=some B) (zX:∀id,id∈F->g' id=none) (zY:∀id,¬id∈F->s.g id=none->g' id=none) (zZ:∀id B,¬id∈F->s.g id=some B->∃B',g' id=some B'/\B'.sz=B.sz/\j9 s.g F B.els B'.els):s.Le k0 n ⟨σ',g',s.k⟩:=by
 intro E0 J base w0 a w hk hr
 obtain ⟨E,rfl,hle,hs,hm,ba,hmk⟩:=hr.ex
 obtain ⟨E',hw,hE,hM,k1,k2,k3⟩:=hm.kill F (fun id hid=>by obtain ⟨B,hB⟩:=hF id hid;exact ((hm.live id).2 ⟨B,hB⟩).1)
 have rep:∀{a a':AV},Fz s.g F a a'->∀{v:Value},af E v a->af E' v a':=fun h=>Ik hm hE hw k2 k3 h
 have key:∀id,au s.g (F.map fun id=>(id,none)) id=if id∈F then none else s.g id:=fun id=>oX F s.g id
 refine ⟨⟨E',hw,hle.trans hE,fun j=>rep (hσ j) (hs j), ?_,fun id hid=>ba id (k1 id hid),hmk.step hE⟩,hr.size,hr.below,hr.gl⟩
 have aL:∀{id B'},g' id=some B'->¬id∈F/\∃B,s.g id=some B/\B'.sz=B.sz/\j9 s.g F B.els B'.els:=fun {id B'} h=>by
  by_cases hid:id∈F
  ·rw [zX id hid] at h;simp at h
  ·refine ⟨hid, ?_⟩
   cases hB:s.g id with
   |none=>rw [zY id hid hB] at h;simp at h
   |some B=>
    obtain ⟨B2,q1,q2,q3⟩:=zZ id B hid hB
    rw [q1] at h;simp only [KZ] at h;subst h
    exact ⟨B,rfl,q2,q3⟩
 have kq:∀{id B},¬id∈F->s.g id=some B->au s.g (F.map fun id=>(id,none)) id=some B:=fun h1 h2=>by rw [key,K0 h1];exact h2
 refine ⟨fun id=> ?_,fun id B' hg=> ?_,fun id ct b B1 B2 h1 h2 h3 h4=> ?_,fun id b B' hg hb hI=> ?_,hM.low,hM.size,fun id B' hg hz=> ?_,hM.gq,fun b hX=>⟨(hM.xo b hX).1,(hM.xo b hX).2.1,fun k B1 hk he=> ?_⟩⟩
 ·show _↔∃B,g' id=some B
  rw [hM.live id,key]
  by_cases hid:id∈F
  ·rw [K1 hid,zX id hid]
  ·rw [K0 hid]
   cases hB:s.g id with
   |none=>rw [zY id hid hB]
   |some B=>
    obtain ⟨B',q1,_⟩:=zZ id B hid hB
    rw [q1];exact ⟨fun _=>⟨_,rfl⟩,fun _=>⟨_,rfl⟩⟩
 ·obtain ⟨hid,B,hB,hz,fv,hf⟩:=aL hg
  have nR:=(hM.live id).2 ⟨B,kq hid hB⟩
  have z0:=(hm.live id).2 ⟨B,hB⟩
  have hloc:E'.loc id=E.loc id:=(hE.loc id z0.1 z0.2).resolve_left nR.2
  rw [hloc]
  have h0:=hm.at_ id B hB
  cases hl:E.loc id with
  |none=>
   rw [hl] at h0
   have kz:B.els=[]:=h0
   show B'.els=[]
   rw [kz] at fv
   exact Mr (by simpa using fv.symm)
  |some b=>
   rw [hl] at h0
   have get:∀{els fR:List (List AV)} {i:Nat} {ds:List AV},els.length=fR.length->fR[i]? =some ds->∃cs,els[i]? =some cs:=fun {els fR i ds} hl h=>⟨_,Lj (by rw [hl];exact (K8.1 h).1)⟩
   obtain ⟨h1,⟨hz0,arr,t,h2,h3,h4⟩|⟨hz0,es,c,h2,h3,h4⟩⟩:=h0
   ·refine .iI ⟨h1,arr,t,by rw [hw];exact h2,by rw [<-fv,hz];exact h3,fun i ds hi=> ?_⟩ (by rw [hz];exact hz0)
    obtain ⟨cs,hc⟩:=get fv hi
    obtain ⟨e1,e2⟩:=hf i cs ds hc hi
    refine ⟨by rw [<-e1,hz];exact (h4 i cs hc).1,fun j d hj=> ?_⟩
    have aX:j<cs.length:=by rw [e1];exact (K8.1 hj).1
    obtain ⟨u,u1,u2,u3⟩:=(h4 i cs hc).2 j cs[j] (Lj aX)
    exact ⟨u,by rw [hz];exact u1,u2,rep (e2 j _ d (Lj aX) hj) u3⟩
   ·refine .ofMap ⟨h1,es,c,by rw [hw];exact h2,by rw [<-fv];exact h3,fun i e ds he hi=> ?_⟩ (by rw [hz];exact hz0)
    obtain ⟨cs,hc⟩:=get fv hi
    obtain ⟨e1,e2⟩:=hf i cs ds hc hi
    obtain ⟨x,rfl,x2,x3⟩:=h4 i e cs he hc
    match ds,e1 with
    |[d1,d2],_=>
     have f1:=e2 0 _ d1 rfl rfl
     have f2:=e2 1 _ d2 rfl rfl
     have:d1= .v e.key:=by
      generalize hq:(AV.v e.key)=q at f1
      cases f1 with
      |refl=>rfl
      |snap _ h=>subst hq;simp [snap1,AV.pu1,RM.run] at h;exact h.symm
      |_=>simp at hq
     subst this
     exact ⟨d2,rfl,x2,rep f2 x3⟩
 ·obtain ⟨q1,B3,q2,_⟩:=aL h1
  obtain ⟨q3,B4,q4,_⟩:=aL h2
  exact hM.apart id ct b B3 B4 (kq q1 q2) (kq q3 q4) h3 h4
 ·obtain ⟨q1,B3,q2,_⟩:=aL hg
  exact hM.out id b B3 (kq q1 q2) hb hI
 ·obtain ⟨q1,B3,q2,q3,q4,_⟩:=aL hg
  rw [<-q4]
  exact hM.len id B3 (kq q1 q2) (by rw [<-q3];exact hz)
 ·obtain ⟨q1,B3,q2,_⟩:=aL hk
  exact (hM.xo b hX).2.2 k B3 (kq q1 q2) he
end
section
variable {τ:Type} {dn:τ->Type} [DecidableEq τ]
def rS (D:TD τ dn) (ta:τ) (A:List (Nat×List (dn ta))):SB τ dn->Option (SB τ dn×Prop)
 | .bl t K=>match D.fz t ta A with
  |some ⟨t',f,O⟩=>some (.bl t' (K.map f),∀x,x∈K->O x)
  |none=>none
 |_=>none
def kZ (D:TD τ dn) (st:SS τ dn) (ta:τ) (A:List (Nat×List (dn ta))):List Nat->List (Nat×(SB τ dn×Prop))
 |[]=>[]
 |nm::l=>match st.gm nm with
  |some B=>match rS D ta A B with
   |some q=>bif !Nat.beq nm 0&&st.rw nm then (nm,q)::kZ D st ta A l else kZ D st ta A l
   |none=>kZ D st ta A l
  |none=>kZ D st ta A l
theorem pn {D:TD τ dn} {st:SS τ dn} {ta:τ} {A:List (Nat×List (dn ta))}:∀{l:List Nat} {q:Nat×(SB τ dn×Prop)},q∈kZ D st ta A l->∃B,st.gm q.1=some B/\rS D ta A B=some q.2/\q.1≠0/\st.rw q.1=true
 |[],q,h=>by simp [kZ] at h
 |nm::l,q,h=>by
  simp only [kZ] at h
  split at h
  ·rename_i B hB
   split at h
   ·rename_i p hp
    cases hc:(!Nat.beq nm 0&&st.rw nm) with
    |false=>rw [hc,Ln] at h;exact pn h
    |true=>
     rw [hc,K5,Lc] at h
     rcases h with rfl|h
     ·simp only [K2,Lm] at hc
      exact ⟨B,hB,hp,fun e=>by have:=hc.1;rw [show nm=0 from e] at this;simp at this,hc.2⟩
     ·exact pn h
   ·exact pn h
  ·exact pn h
def SS.rU (D:TD τ dn) (st:SS τ dn) (l:List Nat):Option (List Prop×SS τ dn):=match st.gm 0 with
 |some (.ar ta A)=>match kZ D st ta A l with
  |[]=>none
  |q::L=>bif D.pu ta&&st.rw 0 then some ((q::L).map (fun q=>q.2.2),⟨st.rt,st.rm,st.t,(q::L).map (fun q=>(q.1,some q.2.1))++(0,some (.ar ta []))::st.m,st.nx⟩) else none
 |_=>none
theorem z4 {α β:Type} {f:β->α} {r:List (Nat×α)}:∀{L:List (Nat×β)} {a:Nat},(∃q,q∈L/\q.1=a/\getS (L.map (fun q=>(q.1,f q.2))++r) a=some (f q.2))\/((∀q,q∈L->q.1≠a)/\getS (L.map (fun q=>(q.1,f q.2))++r) a=getS r a)
 |[],a=> .inr ⟨fun q h=>by simp at h,rfl⟩
 |q::L,a=>by
  rw [Lf,Mj,aV]
  by_cases h:a=q.1
  ·rw [K1 h];exact .inl ⟨q,L7 ..,h.symm,rfl⟩
  ·rw [K0 h]
   rcases z4 (f:=f) (r:=r) (L:=L) (a:=a) with ⟨p,h1,h2,h3⟩|⟨h1,h2⟩
   ·exact .inl ⟨p,LS _ h1,h2,h3⟩
   ·refine .inr ⟨fun p hp=> ?_,h2⟩
    rcases Lc.1 hp with rfl|hp
    ·exact fun e=>h e.symm
    ·exact h1 p hp
theorem z5 {D:TD τ dn} (ok:aU D) {st ah:SS τ dn} (R:Rel D N st s) (h:st.rU D l=some (O,ah)) (hO:∀p,p∈O->p):∃s',s.Le k0 n s'/\Rel D N ah s'/\ah.rt=st.rt/\ah.rm=st.rm/\ah.nx=st.nx:=by
 unfold SS.rU at h
 split at h
 case h_2=>simp at h
 rename_i ta A ic
 split at h
 ·simp at h
 rename_i q0 L0 hL
 cases hc:(D.pu ta&&st.rw 0) with
 |false=>rw [hc] at h;simp at h
 |true=>
 rw [hc,K5,KZ,Li] at h
 obtain ⟨rfl,rfl⟩:=h
 have cN:∀q,q∈q0::L0->∃B,st.gm q.1=some B/\rS D ta A B=some q.2/\q.1≠0/\st.rw q.1=true:=fun q hq=>pn (l:=l) (by rw [hL];exact hq)
 generalize q0::L0=L at hO cN
 clear hL q0 L0
 simp only [K2] at hc
 obtain ⟨Il,uQ⟩:=hc
 obtain ⟨⟨B2,m2⟩,r2⟩:=iz uQ
 have uR:B2= .ar ta A:=by have:=kR m2;rw [this] at ic;simpa using ic
 subst uR
 have pa:=R.ml 0 _ m2
 have hA:=R.here
 have hrow:=hA.ar ta A (.inl m2)
 have Im:=R.sp ta A (.inl m2)
 have hq:∀q,q∈L->∃t K t' f O,getS st.m q.1=some (some (.bl t K))/\getS st.rm q.1=none/\q.1≠0/\D.fz t ta A=some ⟨t',f,O⟩/\q.2.1= .bl t' (K.map f)/\∀x,x∈K->O x:=fun q hq=>by
  obtain ⟨B,h1,h2,h3,h4⟩:=cN q hq
  obtain ⟨⟨B1,m1⟩,r1⟩:=iz h4
  have hB1:B1=B:=by have:=kR m1;rw [this] at h1;simpa using h1
  subst hB1
  unfold rS at h2
  split at h2
  case h_2=>simp at h2
  rename_i t K
  split at h2
  case h_2=>simp at h2
  rename_i t' f O mf
  simp only [KZ] at h2
  have e1:q.2.1= .bl t' (K.map f):=by rw [<-h2]
  have e2:q.2.2=∀x,x∈K->O x:=by rw [<-h2]
  have e3:q.2.2:=hO _ (Lz.2 ⟨q,hq,rfl⟩)
  exact ⟨t,K,t',f,O,m1,r1,h3,mf,e1,e2▸e3⟩
 have po:∀q p,q∈L->p∈L->q.1=p.1->q=p:=fun q p hq hp e=>by
  obtain ⟨B,h1,h2,_⟩:=cN q hq
  obtain ⟨C,g1,g2,_⟩:=cN p hp
  rw [e,g1] at h1
  simp only [KZ] at h1;subst h1
  rw [g2] at h2
  simp only [KZ] at h2
  exact Prod.ext e h2.symm
 let F:List Nat:=A.map Prod.fst
 have vq:∀{id},id∈F↔dp A id:=fun {id}=>Iff.rfl
 let φ:AV->AV:=fun a=>match a with
  | .own id sz off n=>if id∈F then ((snap1 (.own id sz off n)).run s.g).getD (.own id sz off n) else .own id sz off n
  |a=>a
 have Io:∀a,a.pu1=true->φ a=a:=fun a ha=>by cases a<;>first|rfl|(simp [AV.pu1] at ha)
 have Ip:∀a,Fz s.g F a (φ a):=fun a=>by
  cases a with
  |own id sz off n=>
   show Fz s.g F _ (if id∈F then _ else _)
   by_cases hid:id∈F
   ·rw [K1 hid]
    cases hs:(snap1 (.own id sz off n)).run s.g with
    |none=>exact .refl
    |some a'=>exact .snap (fun i hi=>by simp only [AV.bF,K9] at hi;subst hi;exact hid) hs
   ·rw [K0 hid];exact .refl
  |_=>exact .refl
 have Iq:∀id n,dp A id->(eU A id).length=n->φ (.own id (D.sz ta) 0 n)= .aP (D.sz ta) ((eU A id).map (D.ea N.ρ ta)):=fun id n hid hn=>by
  show (if id∈F then _ else _)=_
  rw [K1 (vq.2 hid)]
  have c1:(content (D.sz ta) (.own id (D.sz ta) 0 n)).run s.g=some ((eU A id).map (D.ea N.ρ ta)):=by
   simp only [content,RM.run,hrow id hid, <-hn,Lh,Lq,K4,Lp,K3,MQ]
   rw [ME (by simp)]
  have bz:(((eU A id).map (D.ea N.ρ ta)).all fun cs=>cs.all AV.pu1)=true:=by
   simp only [K6,Lz]
   rintro _ ⟨y,_,rfl⟩
   have:=ok.pu1 N ta y Il
   simpa [K6] using this
  simp only [snap1]
  rw [di c1]
  simp only [bz,K3,RM.run,L8]
 have ek:∀a B,st.bm a B->¬N.ι a∈F:=fun a B hB hh=>(Im _ (vq.1 hh)).2 a B hB rfl
 have hlt:∀q,q∈L->q.1<st.nx:=fun q gw=>by
  obtain ⟨t,K,t',f,O,h1,_⟩:=hq q gw
  exact R.ml _ _ h1
 let g':Nat->Option Bk:=fun id=>if id∈F then none else match L.find? fun q=>N.ι q.1==id with
  |some q=>some (q.2.1.av D.toTE N)
  |none=>s.g id
 have gc:∀id,¬id∈F->(∃q,q∈L/\N.ι q.1=id/\g' id=some (q.2.1.av D.toTE N))\/((∀q,q∈L->N.ι q.1≠id)/\g' id=s.g id):=fun id hid=>by
  show (∃q,q∈L/\N.ι q.1=id/\(if id∈F then none else match L.find? (fun q=>N.ι q.1==id) with|some q=>some (q.2.1.av D.toTE N)|none=>s.g id)=some (q.2.1.av D.toTE N))\/((∀q,q∈L->N.ι q.1≠id)/\(if id∈F then none else match L.find? (fun q=>N.ι q.1==id) with|some q=>some (q.2.1.av D.toTE N)|none=>s.g id)=s.g id)
  rw [K0 hid]
  cases hf:L.find? (fun q=>N.ι q.1==id) with
  |none=>
   rw [List.find?_eq_none] at hf
   exact .inr ⟨fun q hq e=>by have:=hf q hq;simp [e] at this,rfl⟩
  |some q=>
   have h1:=List.find?_some hf
   simp only [beq_iff_eq] at h1
   exact .inl ⟨q,List.mem_of_find?_eq_some hf,h1,rfl⟩
 refine ⟨⟨s.σ,g',s.k⟩,S3.zW (F:=F) (fun i=> .refl) (fun id hid=>⟨_,hrow id (vq.1 hid)⟩) (fun id hid=>K1 hid) (fun id hid hn=> ?_) (fun id B hid hB=> ?_), ?_,rfl,rfl,rfl⟩
 ·show g' id=none
  rcases gc id hid with ⟨q,h1,h2,h3⟩|⟨h1,h2⟩
  ·obtain ⟨t,K,t',f,O,m1,_⟩:=hq q h1
   rw [<-h2,(hA.bl _ _ m1).1] at hn;simp at hn
  ·rw [h2];exact hn
 ·show ∃B',g' id=some B'/\_
  rcases gc id hid with ⟨q,h1,h2,h3⟩|⟨h1,h2⟩
  ·obtain ⟨t,K,t',f,O,m1,_,_,mf,e1,Ir⟩:=hq q h1
   obtain ⟨hz,hcv⟩:=ok.fz N φ t ta A t' f O mf Io Iq
   rw [<-h2,(hA.bl _ _ m1).1] at hB
   simp only [SB.av,KZ] at hB
   subst hB
   refine ⟨_,h3,by rw [e1];exact hz,by rw [e1];simp [SB.av],fun i cs ds h1 h2=> ?_⟩
   rw [e1] at h2
   simp only [SB.av,Lu,K7] at h1 h2
   obtain ⟨x,hx,rfl⟩:=h1
   obtain ⟨_,⟨y,hy,rfl⟩,rfl⟩:=h2
   rw [hx] at hy;simp only [KZ] at hy;subst hy
   have e:=hcv x (Ir x (LJ hx))
   rw [<-e]
   refine ⟨by simp,fun j c d h3 h4=> ?_⟩
   rw [Lu,h3] at h4
   simp only [Ld,KZ] at h4
   subst h4;exact Ip c
  ·rw [h2];exact ⟨B,hB,rfl,j9.refl⟩
 ·have dc:∀a X,getS (L.map (fun q=>(q.1,some q.2.1))++(0,some (SB.ar ta ([]:List (Nat×List (dn ta)))))::st.m) a=some X->(∃q,q∈L/\q.1=a/\X=some q.2.1)\/(a=0/\X=some (.ar ta []))\/(a≠0/\(∀q,q∈L->q.1≠a)/\getS st.m a=some X):=fun a X h=>by
   rcases z4 (f:=fun p:SB τ dn×Prop=>some p.1) (r:=(0,some (SB.ar ta ([]:List (Nat×List (dn ta)))))::st.m) (L:=L) (a:=a) with ⟨q,h1,h2,h3⟩|⟨h1,h2⟩
   ·rw [h3] at h;simp only [KZ] at h;exact .inl ⟨q,h1,h2,h.symm⟩
   ·rw [h2,aV] at h
    by_cases h0:a=0
    ·rw [K1 h0] at h;simp only [KZ] at h;exact .inr (.inl ⟨h0,h.symm⟩)
    ·rw [K0 h0] at h;exact .inr (.inr ⟨h0,h1,h⟩)
  have z6:∀t2 A2,(⟨st.rt,st.rm,st.t,L.map (fun q=>(q.1,some q.2.1))++(0,some (.ar ta []))::st.m,st.nx⟩:SS τ dn).bm 0 (.ar t2 A2)->∀id,¬dp A2 id:=fun t2 A2 h id hid=>by
   rcases h with h|h
   ·rcases dc 0 _ h with ⟨q,h1,e,_⟩|⟨_,e⟩|⟨e,_⟩
    ·obtain ⟨t,K,t',f,O,m1,_,hz,_⟩:=hq q h1
     exact hz e
    ·simp only [KZ,SB.ar.injEq] at e
     obtain ⟨rfl,e⟩:=e
     have e:=eq_of_heq e
     subst e;exact yB hid
    ·exact e rfl
   ·have h':getS st.rm 0=some (some (.ar t2 A2)):=h
    rw [r2] at h';simp at h'
  refine ⟨fun N' hN=> ?_,R.inj,R.lt,fun a X h=> ?_,R.rl,fun t2 A2 h id hid=>absurd hid (z6 t2 A2 h id)⟩
  ·have A':=R.at_ N' hN
   have vr:∀a B,st.bm a B->a<st.nx->(∀q,q∈L->q.1≠a)->g' (N'.ι a)=s.g (N'.ι a):=fun a B hB ha aC=>by
    rw [(hN.1 a ha).1]
    rcases gc (N.ι a) (ek a B hB) with ⟨q,h1,h2,_⟩|⟨_,h2⟩
    ·exact absurd (R.inj q.1 a (hlt q h1) ha h2) (aC q h1)
    ·exact h2
   refine ⟨A'.sl,A'.rs,fun a B h=> ?_,fun a B h=> ?_,fun t2 A2 h id hid=>absurd hid (z6 t2 A2 h id)⟩
   ·rcases dc a _ h with ⟨q,h1,rfl,e⟩|⟨rfl,e⟩|⟨h0,h1,h2⟩
    ·simp only [KZ] at e;subst e
     obtain ⟨t,K,t',f,O,m1,_,_,_,e1,_⟩:=hq q h1
     refine ⟨?_, ?_⟩
     ·show g' (N'.ι q.1)=_
      rw [(hN.1 q.1 (hlt q h1)).1]
      rcases gc (N.ι q.1) (ek q.1 _ (.inl m1)) with ⟨p,p1,p2,p3⟩|⟨p1,_⟩
      ·have:=po p q p1 h1 (R.inj p.1 q.1 (hlt p p1) (hlt q h1) p2)
       subst this
       rw [p3,e1];simp only [SB.av,hN.2]
      ·exact absurd rfl (p1 q h1)
     ·have:=(A'.bl q.1 _ m1).2
      rw [this,e1];simp [SB.len]
    ·simp only [KZ] at e;subst e
     have:=A'.bl 0 _ m2
     exact ⟨(vr 0 _ (.inl m2) pa (fun q h1 e=>by obtain ⟨t,K,t',f,O,_,_,hz,_⟩:=hq q h1;exact hz e)).trans this.1,this.2⟩
    ·have:=A'.bl a B h2
     exact ⟨(vr a B (.inl h2) (R.ml a _ h2) h1).trans this.1,this.2⟩
   ·have h':getS st.rm a=some (some B):=h
    have:=A'.rb a B h'
    exact ⟨(vr a B (.inr h') (R.rl a _ h') (fun q h1 e=>by subst e;obtain ⟨t,K,t',f,O,_,hr,_⟩:=hq q h1;rw [hr] at h';simp at h')).trans this.1,this.2⟩
  ·rcases dc a _ h with ⟨q,h1,rfl,_⟩|⟨rfl,_⟩|⟨_,_,h2⟩
   ·exact hlt q h1
   ·exact pa
   ·exact R.ml a _ h2
mutual
def SV.dL (D:TD τ dn) (st:SS τ dn) (nm:Nat):SV τ dn->SV τ dn
 | .own a sz=>bif Nat.beq a nm then (snap1S D st (.own a sz)).getD (.own a sz) else .own a sz
 | .ref a sz i o=>bif Nat.beq a nm then (snap1S D st (.ref a sz i o)).getD (.ref a sz i o) else .ref a sz i o
 | .agg cs=> .agg (SV.gn D st nm cs)
 | .aJ cs=> .aJ (SV.gn D st nm cs)
 | .fn f cs=> .fn f (SV.gn D st nm cs)
 | .bf f cs=> .bf f (SV.gn D st nm cs)
 | .vg p c v=> .vg p c v
 | .part a b c d=> .part a b c d
 | .pim cs o=> .pim cs o
 | .vc sz els=> .vc sz els
 | .mp a=> .mp a
 | .vi x=> .vi x
 | .vn x=> .vn x
 | .vy x=> .vy x
 | .vu x=> .vu x
 | .vw q x=> .vw q x
 | .vb c=> .vb c
 | .vt x=> .vt x
 | .vz x=> .vz x
 | .vo x=> .vo x
 | .vl a b=> .vl a b
 | .emp=> .emp
 | .rw a b=> .rw a b
 | .cK a b c d=> .cK a b c d
 | .dead=> .dead
def SV.gn (D:TD τ dn) (st:SS τ dn) (nm:Nat):List (SV τ dn)->List (SV τ dn)
 |[]=>[]
 |v::l=>SV.dL D st nm v::SV.gn D st nm l
end
section
variable {D:TD τ dn} {N N':aw} {st:SS τ dn} {σ:Nat->AV} {g:Nat->Option Bk} {nm:Nat}
theorem z7 (ok:aU D) (R:aW D N st σ g) (R':aW D N' st σ g) {v:SV τ dn} (hid:∀id,id∈(v.av D.toTE N).bF->id∈[N.ι nm]):Fz g [N.ι nm] (v.av D.toTE N) (((snap1S D st v).getD v).av D.toTE N)/\(v.av D.toTE N'=v.av D.toTE N->((snap1S D st v).getD v).av D.toTE N'=((snap1S D st v).getD v).av D.toTE N):=by
 cases hs:snap1S D st v with
 |none=>exact ⟨.refl,fun h=>h⟩
 |some w=>
  have h1:=qZ ok R hs
  refine ⟨.snap hid h1,fun h=> ?_⟩
  have h2:=qZ ok R' hs
  rw [h,h1] at h2
  simpa using h2.symm
mutual
theorem vA (ok:aU D) (R:aW D N st σ g) (R':aW D N' st σ g):∀v:SV τ dn,Fz g [N.ι nm] (v.av D.toTE N) ((v.dL D st nm).av D.toTE N)/\(v.av D.toTE N'=v.av D.toTE N->(v.dL D st nm).av D.toTE N'=(v.dL D st nm).av D.toTE N)
 | .own a sz=>by
  simp only [SV.dL]
  cases hb:Nat.beq a nm with
  |false=>exact ⟨.refl,fun h=>h⟩
  |true=>
   rw [K5]
   have:=Lk hb
   subst this
   exact z7 ok R R' (fun id hid=>by simpa [SV.av,AV.bF] using hid)
 | .ref a sz i o=>by
  simp only [SV.dL]
  cases hb:Nat.beq a nm with
  |false=>exact ⟨.refl,fun h=>h⟩
  |true=>
   rw [K5]
   have:=Lk hb
   subst this
   exact z7 ok R R' (fun id hid=>by simpa [SV.av,AV.bF] using hid)
 | .agg cs=>by
  obtain ⟨h1,h2,h3⟩:=np ok R R' cs
  simp only [SV.dL,SV.av]
  exact ⟨.agg h1 h2,fun h=>by simp only [AV.agg.injEq] at h ⊢; exact h3 h⟩
 | .aJ cs=>by
  obtain ⟨h1,h2,h3⟩:=np ok R R' cs
  simp only [SV.dL,SV.av]
  exact ⟨.aJ h1 h2,fun h=>by simp only [AV.aJ.injEq] at h ⊢; exact h3 h⟩
 | .fn f cs=>by
  obtain ⟨h1,h2,h3⟩:=np ok R R' cs
  simp only [SV.dL,SV.av]
  exact ⟨.fn h1 h2,fun h=>by simp only [AV.fn.injEq,true_and] at h ⊢; exact h3 h⟩
 | .bf f cs=>by
  obtain ⟨h1,h2,h3⟩:=np ok R R' cs
  simp only [SV.dL,SV.av]
  exact ⟨.bf h1 h2,fun h=>by simp only [AV.bf.injEq,true_and] at h ⊢; exact h3 h⟩
 | .vg p c v=>⟨by simp only [SV.dL];exact .refl,fun h=>by simp only [SV.dL];exact h⟩
 | .part _ _ _ _| .pim _ _| .vc _ _| .mp _| .vi _| .vn _| .vy _| .vu _| .vw _ _| .vb _| .vt _| .vz _| .vo _| .vl _ _| .emp| .rw _ _| .cK _ _ _ _| .dead=>⟨by simp only [SV.dL];exact .refl,fun h=>by simp only [SV.dL];exact h⟩
theorem np (ok:aU D) (R:aW D N st σ g) (R':aW D N' st σ g):∀cs:List (SV τ dn),(SV.ck D.toTE N cs).length=(SV.ck D.toTE N (SV.gn D st nm cs)).length/\(∀(i:Nat) c d,(SV.ck D.toTE N cs)[i]? =some c->(SV.ck D.toTE N (SV.gn D st nm cs))[i]? =some d->Fz g [N.ι nm] c d)/\(SV.ck D.toTE N' cs=SV.ck D.toTE N cs->SV.ck D.toTE N' (SV.gn D st nm cs)=SV.ck D.toTE N (SV.gn D st nm cs))
 |[]=>⟨rfl,fun i c d h=>by simp [SV.ck] at h,fun _=>rfl⟩
 |v::l=>by
  obtain ⟨h1,h2,h3⟩:=np ok R R' l
  obtain ⟨q1,q2⟩:=vA ok R R' v
  simp only [SV.gn,SV.ck]
  refine ⟨by simp [h1],fun i c d hc hd=> ?_,fun h=> ?_⟩
  ·cases i with
   |zero=>simp only [LB,KZ] at hc hd;subst hc;subst hd;exact q1
   |succ i=>exact h2 i c d (by simpa using hc) (by simpa using hd)
  ·simp only [MN] at h ⊢
   exact ⟨q2 h.1,h3 h.2⟩
end
def SB.dM (D:TD τ dn) (st:SS τ dn) (nm:Nat):SB τ dn->SB τ dn
 | .bc sz els=> .bc sz (els.map (SV.gn D st nm))
 |B=>B
theorem z8 (ok:aU D) (R:aW D N st σ g) (R':aW D N' st σ g):∀els:List (List (SV τ dn)),j9 g [N.ι nm] (SV.bE D.toTE N els) (SV.bE D.toTE N (els.map (SV.gn D st nm)))/\(SV.bE D.toTE N' els=SV.bE D.toTE N els->SV.bE D.toTE N' (els.map (SV.gn D st nm))=SV.bE D.toTE N (els.map (SV.gn D st nm)))
 |[]=>⟨⟨rfl,fun i c d h=>by simp [SV.bE] at h⟩,fun _=>rfl⟩
 |cs::l=>by
  obtain ⟨⟨h1,h2⟩,h3⟩:=z8 ok R R' l
  obtain ⟨q1,q2,q3⟩:=np ok R R' (nm:=nm) cs
  simp only [Lf,SV.bE]
  refine ⟨⟨by simp [h1],fun i c d hc hd=> ?_⟩,fun h=> ?_⟩
  ·cases i with
   |zero=>simp only [LB,KZ] at hc hd;subst hc;subst hd;exact ⟨q1,q2⟩
   |succ i=>exact h2 i c d (by simpa using hc) (by simpa using hd)
  ·simp only [MN] at h ⊢
   exact ⟨q3 h.1,h3 h.2⟩
theorem vB (ok:aU D) (R:aW D N st σ g) (R':aW D N' st σ g) (B:SB τ dn):((B.dM D st nm).av D.toTE N).sz=(B.av D.toTE N).sz/\j9 g [N.ι nm] (B.av D.toTE N).els ((B.dM D st nm).av D.toTE N).els/\(B.av D.toTE N'=B.av D.toTE N->(B.dM D st nm).av D.toTE N'=(B.dM D st nm).av D.toTE N)/\(B.dM D st nm).len=B.len/\∀t A,B.dM D st nm= .ar t A↔B= .ar t A:=by
 cases B with
 |bc sz els=>
  obtain ⟨h1,h2⟩:=z8 ok R R' (nm:=nm) els
  refine ⟨rfl,h1,fun h=> ?_,by simp [SB.dM,SB.len],fun t A=>by simp [SB.dM]⟩
  simp only [SB.dM,SB.av,Bk.mk.injEq,true_and] at h ⊢
  exact h2 h
 |_=>exact ⟨rfl,j9.refl,fun h=>h,rfl,fun t A=>Iff.rfl⟩
def SS.rV (D:TD τ dn) (st:SS τ dn) (nm:Nat):Option (SS τ dn):=
 bif !Nat.beq nm 0&&(st.rw nm&&st.rm.all fun q=>(getS st.m q.1).isNone) then
  some ⟨st.rt,st.rm,st.t.map fun q=>(q.1,bif (getS st.rt q.1).isSome then q.2 else q.2.dL D st nm),(nm,none)::st.m.map fun q=>(q.1,q.2.map (SB.dM D st nm)),st.nx⟩
 else none
theorem z9 {α β:Type} (f:Nat->α->β):∀{l:List (Nat×α)} {i:Nat},getS (l.map fun q=>(q.1,f q.1 q.2)) i=(getS l i).map (f i)
 |[],i=>rfl
 |(j,v)::r,i=>by
  rw [Lf,aV,aV,z9 f (l:=r)]
  by_cases h:i=j
  ·subst h;simp
  ·simp [h]
end
theorem Aa {D:TD τ dn} (ok:aU D) {st ah:SS τ dn} (R:Rel D N st s) (h:st.rV D nm=some ah):∃s',s.Le k0 n s'/\Rel D N ah s'/\ah.rt=st.rt/\ah.rm=st.rm/\ah.nx=st.nx:=by
 unfold SS.rV at h
 cases hc:(!Nat.beq nm 0&&(st.rw nm&&st.rm.all fun q=>(getS st.m q.1).isNone)) with
 |false=>rw [hc] at h;simp at h
 |true=>
 rw [hc,K5,KZ] at h
 subst h
 simp only [K2,Lm] at hc
 obtain ⟨lu,hw,cC⟩:=hc
 have zm:nm≠0:=fun e=>by subst e;simp at lu
 obtain ⟨⟨B1,m1⟩,r1⟩:=iz hw
 have hlt:=R.ml nm _ m1
 have hA:=R.here
 have Is:∀a B,getS st.rm a=some B->getS st.m a=none:=fun a B h=>by
  have:=K6.1 cC _ (g6 h)
  simpa using this
 let g':Nat->Option Bk:=fun id=>if id=N.ι nm then none else match (List.range st.nx).find? fun a=>N.ι a==id with
  |some a=>match getS st.m a with
   |some (some B)=>some ((B.dM D st nm).av D.toTE N)
   |_=>s.g id
  |none=>s.g id
 let σ':Nat->AV:=fun i=>match getS st.rt i with
  |some _=>s.σ i
  |none=>match getS st.t i with
   |some v=>(v.dL D st nm).av D.toTE N
   |none=>s.σ i
 have find:∀a,a<st.nx->(List.range st.nx).find? (fun b=>N.ι b==N.ι a)=some a:=fun a ha=>by
  cases hf:(List.range st.nx).find? (fun b=>N.ι b==N.ι a) with
  |none=>
   rw [List.find?_eq_none] at hf
   exact absurd (hf a (LH.2 ha)) (by simp)
  |some b=>
   have h1:=List.find?_some hf
   have h2:=LH.1 (List.mem_of_find?_eq_some hf)
   simp only [beq_iff_eq] at h1
   rw [R.inj b a h2 ha h1]
 have Ab:∀a B,getS st.m a=some (some B)->a≠nm->g' (N.ι a)=some ((B.dM D st nm).av D.toTE N):=fun a B hB aC=>by
  have ha:=R.ml a _ hB
  show (if N.ι a=N.ι nm then none else match (List.range st.nx).find? (fun b=>N.ι b==N.ι a) with|some a=>(match getS st.m a with|some (some B)=>some ((B.dM D st nm).av D.toTE N)|_=>s.g _)|none=>s.g _)=_
  rw [K0 (fun e=>aC (R.inj a nm ha hlt e)),find a ha]
  simp only [hB]
 have It:∀a B,getS st.rm a=some (some B)->g' (N.ι a)=s.g (N.ι a):=fun a B hB=>by
  have ha:=R.rl a _ hB
  have aC:a≠nm:=fun e=>by subst e;rw [r1] at hB;simp at hB
  show (if N.ι a=N.ι nm then none else match (List.range st.nx).find? (fun b=>N.ι b==N.ι a) with|some a=>(match getS st.m a with|some (some B)=>some ((B.dM D st nm).av D.toTE N)|_=>s.g _)|none=>s.g _)=_
  rw [K0 (fun e=>aC (R.inj a nm ha hlt e)),find a ha]
  simp only [Is a _ hB]
 have bY:=(hA.bl nm _ m1).1
 have vC:∀id,id≠N.ι nm->g' id=s.g id\/∃a B,id=N.ι a/\getS st.m a=some (some B)/\a≠nm/\g' id=some ((B.dM D st nm).av D.toTE N):=fun id hid=>by
  show (if id=N.ι nm then none else match (List.range st.nx).find? (fun b=>N.ι b==id) with|some a=>(match getS st.m a with|some (some B)=>some ((B.dM D st nm).av D.toTE N)|_=>s.g id)|none=>s.g id)=_\/_
  rw [K0 hid]
  cases hf:(List.range st.nx).find? (fun b=>N.ι b==id) with
  |none=>exact .inl rfl
  |some a=>
   have h1:=List.find?_some hf
   simp only [beq_iff_eq] at h1
   cases hq:getS st.m a with
   |none=>exact .inl (by simp only [hq])
   |some x=>
    cases x with
    |none=>exact .inl (by simp only [hq])
    |some B=>
     have aC:a≠nm:=fun e=>hid (by rw [<-h1,e])
     exact .inr ⟨a,B,h1.symm,hq,aC,by rw [<-h1];exact Ab a B hq aC⟩
 refine ⟨⟨σ',g',s.k⟩,S3.zW (F:=[N.ι nm]) (fun i=> ?_) (fun id hid=> ?_) (fun id hid=> ?_) (fun id hid hn=> ?_) (fun id B hid hB=> ?_), ?_,rfl,rfl,rfl⟩
 ·show Fz s.g _ (s.σ i) (match getS st.rt i with|some _=>s.σ i|none=>match getS st.t i with|some v=>(v.dL D st nm).av D.toTE N|none=>s.σ i)
  split
  ·exact .refl
  ·split
   ·rename_i v hv
    rw [hA.sl i v hv];exact (vA ok hA hA v).1
   ·exact .refl
 ·simp only [K9] at hid;subst hid;exact ⟨_,bY⟩
 ·simp only [K9] at hid;subst hid;exact K1 rfl
 ·simp only [K9] at hid
  rcases vC id hid with h|⟨a,B,rfl,h2,h3,h4⟩
  ·rw [h];exact hn
  ·rw [(hA.bl a B h2).1] at hn;simp at hn
 ·simp only [K9] at hid
  rcases vC id hid with h|⟨a,B2,rfl,h2,h3,h4⟩
  ·exact ⟨B,by rw [h];exact hB,rfl,j9.refl⟩
  ·rw [(hA.bl a B2 h2).1] at hB
   simp only [KZ] at hB;subst hB
   obtain ⟨q1,q2,_⟩:=vB ok hA hA (nm:=nm) B2
   exact ⟨_,h4,q1,q2⟩
 ·have dc:∀a X,getS ((nm,(none:Option (SB τ dn)))::st.m.map fun q=>(q.1,q.2.map (SB.dM D st nm))) a=some (some X)->a≠nm/\∃B,getS st.m a=some (some B)/\X=B.dM D st nm:=fun a X h=>by
   rw [aV,mZ (Option.map (SB.dM D st nm))] at h
   by_cases h1:a=nm
   ·rw [K1 h1] at h;simp at h
   ·rw [K0 h1] at h
    simp only [K7] at h
    obtain ⟨x,hx,B,rfl,rfl⟩:=h
    exact ⟨h1,B,hx,rfl⟩
  have cE:∀a X,(⟨st.rt,st.rm,st.t.map fun q=>(q.1,bif (getS st.rt q.1).isSome then q.2 else q.2.dL D st nm),(nm,none)::st.m.map fun q=>(q.1,q.2.map (SB.dM D st nm)),st.nx⟩:SS τ dn).bm a X->∃X',st.bm a X'/\∀t A,X= .ar t A->X'= .ar t A:=fun a X h=>by
   rcases h with h|h
   ·obtain ⟨_,B,hB,rfl⟩:=dc a X h
    exact ⟨B, .inl hB,fun t A e=>((vB ok hA hA (nm:=nm) B).2.2.2.2 t A).1 e⟩
   ·exact ⟨X, .inr h,fun t A e=>e⟩
  refine ⟨fun N' hN=> ?_,R.inj,R.lt,fun a X h=> ?_,R.rl,fun t A h id hid=> ?_⟩
  ·have A':=R.at_ N' hN
   refine ⟨fun i v h=> ?_,fun i v h=> ?_,fun a X h=> ?_,fun a X h=> ?_,fun t A h id hid=> ?_⟩
   ·have h':getS (st.t.map fun q=>(q.1,bif (getS st.rt q.1).isSome then q.2 else q.2.dL D st nm)) i=some v:=h
    rw [z9 (fun (j:Nat) (w:SV τ dn)=>bif (getS st.rt j).isSome then w else w.dL D st nm)] at h'
    simp only [K7] at h'
    obtain ⟨w,hw2,rfl⟩:=h'
    show (match getS st.rt i with|some _=>s.σ i|none=>match getS st.t i with|some v=>(v.dL D st nm).av D.toTE N|none=>s.σ i)=_
    cases hr:getS st.rt i with
    |some u=>simp only [Option.isSome_some,K5];exact A'.sl i w hw2
    |none=>
     simp only [hw2,Option.isSome_none,Ln]
     exact ((vA ok hA A' w).2 ((A'.sl i w hw2).symm.trans (hA.sl i w hw2))).symm
   ·show (match getS st.rt i with|some _=>s.σ i|none=>match getS st.t i with|some v=>(v.dL D st nm).av D.toTE N|none=>s.σ i)=_
    have h':getS st.rt i=some v:=h
    simp only [h'];exact A'.rs i v h'
   ·obtain ⟨h1,B,hB,rfl⟩:=dc a X h
    obtain ⟨q1,q2,q3,q4,q5⟩:=vB ok hA A' (nm:=nm) B
    have ha:=R.ml a _ hB
    refine ⟨?_,by rw [q4];exact (A'.bl a B hB).2⟩
    show g' (N'.ι a)=_
    rw [(hN.1 a ha).1,Ab a B hB h1]
    congr 1
    refine (q3 ?_).symm
    have e1:=(A'.bl a B hB).1
    rw [(hN.1 a ha).1,(hA.bl a B hB).1] at e1
    simpa using e1.symm
   ·have h':getS st.rm a=some (some X):=h
    have ha:=R.rl a _ h'
    refine ⟨?_,(A'.rb a X h').2⟩
    show g' (N'.ι a)=_
    have e1:=(A'.rb a X h').1
    rw [(hN.1 a ha).1] at e1 ⊢
    rw [It a X h'];exact e1
   ·obtain ⟨X',h1,h2⟩:=cE 0 _ h
    have h2:=h2 t A rfl
    subst h2
    have e:=A'.ar t A h1 id hid
    have hs:=(R.sp t A h1 id hid).2
    show g' id=_
    rcases vC id (fun e=>hs nm _ (.inl m1) e.symm) with h3|⟨a,B,rfl,h4,_,_⟩
    ·rw [h3];exact e
    ·exact absurd rfl (hs a B (.inl h4))
  ·have h':getS ((nm,(none:Option (SB τ dn)))::st.m.map fun q=>(q.1,q.2.map (SB.dM D st nm))) a=some X:=h
   rw [aV,mZ (Option.map (SB.dM D st nm))] at h'
   show a<st.nx
   by_cases h1:a=nm
   ·subst h1;exact hlt
   ·rw [K0 h1] at h'
    simp only [K7] at h'
    obtain ⟨x,hx,_⟩:=h'
    exact R.ml a _ hx
  ·obtain ⟨X',h1,h2⟩:=cE 0 _ h
   have h2:=h2 t A rfl
   subst h2
   obtain ⟨q1,q2⟩:=R.sp t A h1 id hid
   refine ⟨q1,fun a X hX=> ?_⟩
   obtain ⟨X',h3,_⟩:=cE a X hX
   exact q2 a X' h3
def Ac:SV τ dn->List Nat
 | .own nm _| .ref nm _ _ _=>[nm]
 |_=>[]
def Ad:SV τ dn->List Nat
 | .agg cs| .fn _ cs| .bf _ cs| .aJ cs=>cs.flatMap Ac
 |v=>Ac v
def pq (D:TD τ dn) (F:Nat->SS τ dn->(SS τ dn->Prop)->Prop):List Nat->SS τ dn->(SS τ dn->Prop)->Prop
 |[],st,K=>K st
 |a::l,st,K=>F a st fun st=>match st.rV D a with
  |some ah=>pq D F l ah K
  |none=>pq D F l st K
def pr (D:TD τ dn):Nat->Nat->SS τ dn->(SS τ dn->Prop)->Prop
 |0,_,st,K=>K st
 |d+1,nm,st,K=>pq D (pr D d) (match st.gm nm with
  |some (.bc _ els)=>els.flatMap fun (cs:List (SV τ dn))=>cs.flatMap Ad
  |_=>([]:List Nat)) st fun st=>match st.rU D [nm] with
   |some (O,ah)=>eW O (K ah)
   |none=>K st
theorem Ae {D:TD τ dn} (ok:aU D) {N:aw} {n k0:Nat}:∀(d nm:Nat) {st:SS τ dn} {s:S3} {K:SS τ dn->Prop},Rel D N st s->pr D d nm st K->∃s' ah,s.Le k0 n s'/\Rel D N ah s'/\ah.rt=st.rt/\ah.rm=st.rm/\ah.nx=st.nx/\K ah
 |0,nm,st,s,K,R,h=>⟨s,st,S3.Le.kW,R,rfl,rfl,rfl,h⟩
 |d+1,nm,st,s,K,R,h=>by
  simp only [pr] at h
  have go:∀(l:List Nat) {st:SS τ dn} {s:S3} {K:SS τ dn->Prop},Rel D N st s->pq D (pr D d) l st K->∃s' ah,s.Le k0 n s'/\Rel D N ah s'/\ah.rt=st.rt/\ah.rm=st.rm/\ah.nx=st.nx/\K ah:=by
   intro l
   induction l with
   |nil=>intro st s K R h;exact ⟨s,st,S3.Le.kW,R,rfl,rfl,rfl,h⟩
   |cons a l ih=>
    intro st s K R h
    simp only [pq] at h
    obtain ⟨s1,st1,p1,p2,p3,p4,p5,h1⟩:=Ae ok d a R h
    split at h1
    ·rename_i aO hf
     obtain ⟨s2,q1,q2,q3,q4,q5⟩:=Aa (n:=n) (k0:=k0) ok p2 hf
     obtain ⟨s3,kV,r1,r2,r3,r4,r5,r6⟩:=ih q2 h1
     exact ⟨s3,kV,(p1.trans' q1).trans' r1,r2,r3.trans (q3.trans p3),r4.trans (q4.trans p4),r5.trans (q5.trans p5),r6⟩
    ·obtain ⟨s3,kV,r1,r2,r3,r4,r5,r6⟩:=ih p2 h1
     exact ⟨s3,kV,p1.trans' r1,r2,r3.trans p3,r4.trans p4,r5.trans p5,r6⟩
  obtain ⟨s1,st1,p1,p2,p3,p4,p5,h1⟩:=go _ R h
  split at h1
  ·rename_i O ah hf
   rw [iA] at h1
   obtain ⟨s',q1,q2,q3,q4,q5⟩:=z5 (n:=n) (k0:=k0) ok p2 hf h1.1
   exact ⟨s',ah,p1.trans' q1,q2,q3.trans p3,q4.trans p4,q5.trans p5,h1.2⟩
  ·exact ⟨s1,st1,p1,p2,p3,p4,p5,h1⟩
def la (D:TD τ dn) (w:Bool):List Nat->SS τ dn->(SS τ dn->Prop)->Prop
 |[],st,K=>K st
 |a::l,st,K=>pr D 4 a st fun st=>bif w then (match st.rV D a with
  |some ah=>la D w l ah K
  |none=>la D w l st K) else la D w l st K
theorem vD {D:TD τ dn} (ok:aU D) {N:aw} {n k0:Nat} {w:Bool}:∀(l:List Nat) {st:SS τ dn} {s:S3} {K:SS τ dn->Prop},Rel D N st s->la D w l st K->∃s' ah,s.Le k0 n s'/\Rel D N ah s'/\ah.rt=st.rt/\ah.rm=st.rm/\ah.nx=st.nx/\K ah
 |[],st,s,K,R,h=>⟨s,st,S3.Le.kW,R,rfl,rfl,rfl,h⟩
 |a::l,st,s,K,R,h=>by
  simp only [la] at h
  obtain ⟨s1,st1,p1,p2,p3,p4,p5,h1⟩:=Ae (n:=n) (k0:=k0) ok 4 a R h
  have rest:∀{aO:SS τ dn} {s2:S3},s.Le k0 n s2->Rel D N aO s2->aO.rt=st.rt->aO.rm=st.rm->aO.nx=st.nx->la D w l aO K->∃s' ah,s.Le k0 n s'/\Rel D N ah s'/\ah.rt=st.rt/\ah.rm=st.rm/\ah.nx=st.nx/\K ah:=fun q1 q2 q3 q4 q5 hh=>by
   obtain ⟨s3,kV,r1,r2,r3,r4,r5,r6⟩:=vD ok l q2 hh
   exact ⟨s3,kV,q1.trans' r1,r2,r3.trans q3,r4.trans q4,r5.trans q5,r6⟩
  cases w with
  |false=>exact rest p1 p2 p3 p4 p5 h1
  |true=>
   rw [K5] at h1
   split at h1
   ·rename_i aO hf
    obtain ⟨s2,q1,q2,q3,q4,q5⟩:=Aa (n:=n) (k0:=k0) ok p2 hf
    exact rest (p1.trans' q1) q2 (q3.trans p3) (q4.trans p4) (q5.trans p5) h1
   ·exact rest p1 p2 p3 p4 p5 h1
def nq (D:TD τ dn) (w:Bool) (l:List Nat) (st:SS τ dn) (K:SS τ dn->Prop):Prop:=match st.rU D l with
 |some (O,ah)=>eW O (la D w l ah K)
 |none=>la D w l st K
theorem vE {D:TD τ dn} (ok:aU D) {w:Bool} (l:List Nat) {st:SS τ dn} {K:SS τ dn->Prop} (R:Rel D N st s) (h:nq D w l st K):∃s' ah,s.Le k0 n s'/\Rel D N ah s'/\ah.rt=st.rt/\ah.rm=st.rm/\ah.nx=st.nx/\K ah:=by
 unfold nq at h
 split at h
 ·rename_i O ah hf
  rw [iA] at h
  obtain ⟨s1,p1,p2,p3,p4,p5⟩:=z5 (n:=n) (k0:=k0) ok R hf h.1
  obtain ⟨s2,aO,q1,q2,q3,q4,q5,q6⟩:=vD ok l p2 h.2
  exact ⟨s2,aO,p1.trans' q1,q2,q3.trans p3,q4.trans p4,q5.trans p5,q6⟩
 ·exact vD ok l R h
def SS.rW (st:SS τ dn) (ss:List Nat):List Nat:=ss.flatMap fun i=>match st.gt i with
 |some v=>Ad v
 |none=>[]
end
open Go.RowKit
section
variable {τ:Type} {dn:τ->Type}
def nt (c:Cn) (b:Bool) (st ah:SS τ dn):List Nat->Option (List (Nat×SV τ dn))
 |[]=>some []
 |d::r=>match st.gt d with
  |none=>nt c b st ah r
  |some x=>match ah.gt d with
   |none=>none
   |some y=>match o7 c (bif b then x else y) (bif b then y else x),nt c b st ah r with
    |some v,some l=>some ((d,v)::l)
    |_,_=>none
theorem rX {c:Cn} {b:Bool} {st ah:SS τ dn}:∀{ds:List Nat} {l:List (Nat×SV τ dn)},nt c b st ah ds=some l->∀{i v},getS l i=some v->∃x y,st.gt i=some x/\ah.gt i=some y/\o7 c (bif b then x else y) (bif b then y else x)=some v
 |[],l,h,i,v,hv=>by simp only [nt,KZ] at h;subst h;simp [getS] at hv
 |d::r,l,h,i,v,hv=>by
  simp only [nt] at h
  split at h
  ·exact rX h hv
  ·rename_i x hx
   split at h
   ·simp at h
   ·rename_i y hy
    split at h
    ·rename_i w l' hw hl
     simp only [KZ] at h;subst h
     rw [aV] at hv
     by_cases hi:i=d
     ·subst hi
      rw [K1 rfl,KZ] at hv;subst hv
      exact ⟨x,y,hx,hy,hw⟩
     ·rw [K0 hi] at hv;exact rX hl hv
    ·simp at h
def ka (ds:List Nat):List (Nat×SV τ dn)->List (Nat×SV τ dn)
 |[]=>[]
 |q::r=>bif hasN ds q.1 then ka ds r else q::ka ds r
theorem rY {ds:List Nat}:∀{l:List (Nat×SV τ dn)} {i:Nat} {v:SV τ dn},getS (ka ds l) i=some v->hasN ds i=false/\getS l i=some v
 |[],i,v,h=>by simp [ka,getS] at h
 |q::r,i,v,h=>by
  simp only [ka] at h
  cases hq:hasN ds q.1 with
  |true=>
   rw [hq,K5] at h
   obtain ⟨h1,h2⟩:=rY h
   refine ⟨h1, ?_⟩
   obtain ⟨j,w⟩:=q
   rw [aV,K0 (fun e=>by subst e;rw [h1] at hq;simp at hq)];exact h2
  |false=>
   rw [hq,Ln] at h
   obtain ⟨j,w⟩:=q
   rw [aV] at h ⊢
   by_cases hi:i=j
   ·subst hi;rw [K1 rfl] at h ⊢; exact ⟨hq,h⟩
   ·rw [K0 hi] at h ⊢; exact rY h
theorem vF {st:SS τ dn} {v:SV τ dn} (h:d≠some i):getS (st.set d v).t i=getS st.t i:=by
 cases d with
 |none=>rfl
 |some j=>
  show getS ((j,v)::st.t) i=_
  rw [aV,K0 (fun e=>h (by rw [e]))]
variable [DecidableEq τ]
def mg (C:bU τ dn) (n:Nat):List az->SS τ dn->Option (List Prop×SS τ dn)
 |[],st=>some ([],st)
 |o::os,st=>bif dstS n st.rt o.dst&&(needs C.D st o.ao).isEmpty then (match st.gd o.guard with
  | .yes=>match iD C st o.ao with
   |some (.val O v,_)=>(mg C n os (st.set o.dst v)).map fun q=>(O++q.1,q.2)
   |_=>none
  | .no=>mg C n os (st.set o.dst (.vo undef))
  | .jU e=>match iD C (st.unw o.ao.uns) o.ao with
   |some (.val O v,_)=>(mg C n os (st.set o.dst (.vg true e v))).map fun q=>((gX st e o.ao.uns++O.map fun p=>e.tf true->p)++q.1,q.2)
   |_=>none
  | .bad=>none) else none
theorem rZ {C:bU τ dn} {n:Nat}:∀{os:List az} {st ah:SS τ dn} {O:List Prop},mg C n os st=some (O,ah)->(ah.rt=st.rt/\ah.rm=st.rm/\ah.m=st.m/\ah.nx=st.nx)/\(∀i,hasN (os.filterMap fun o=>o.dst) i=false->getS ah.t i=getS st.t i)/\((∀p,p∈O->p)->∀xs,wpOps C n none true os xs st fun x=>x=ah)
 |[],st,ah,O,h=>by
  simp only [mg,KZ,Li] at h
  obtain ⟨rfl,rfl⟩:=h
  exact ⟨⟨rfl,rfl,rfl,rfl⟩,fun _ _=>rfl,fun _ _=>rfl⟩
 |o::os,st,ah,O,h=>by
  simp only [mg] at h
  cases hdd:(dstS n st.rt o.dst&&(needs C.D st o.ao).isEmpty) with
  |false=>rw [hdd] at h;simp at h
  |true=>
   rw [hdd,K5] at h
   rw [K2,L9] at hdd
   obtain ⟨hd,aC⟩:=hdd
   have nu:∀i,hasN ((o::os).filterMap fun o=>o.dst) i=false->o.dst≠some i/\hasN (os.filterMap fun o=>o.dst) i=false:=fun i hi=>by
    have hn:¬i∈(o::os).filterMap fun o=>o.dst:=fun hh=>by rw [j4.2 hh] at hi;simp at hi
    refine ⟨fun e=>hn (List.mem_filterMap.2 ⟨o,L7 ..,e⟩), ?_⟩
    cases hb:hasN (os.filterMap fun o=>o.dst) i with
    |false=>rfl
    |true=>
     obtain ⟨q,q1,q2⟩:=List.mem_filterMap.1 (j4.1 hb)
     exact absurd (List.mem_filterMap.2 ⟨q,LS _ q1,q2⟩) hn
   split at h
   ·rename_i hg
    split at h
    ·rename_i O1 v ns hr
     rw [K7] at h
     obtain ⟨⟨O2,aO⟩,h1,h2⟩:=h
     simp only [Li] at h2
     obtain ⟨rfl,rfl⟩:=h2
     obtain ⟨p1,p2,p3⟩:=rZ h1
     refine ⟨p1,fun i hi=>(p2 i (nu i hi).2).trans (vF (nu i hi).1),fun hO xs=> ?_⟩
     have hgi:nc C st o=none:=uZ (.inl fun e=>by rw [hg];simp)
     simp only [wpOps,K5,aC,je,nd,hgi,hd,hg,hr]
     rw [iA]
     exact ⟨fun p hp=>hO p (LL _ hp),p3 (fun p hp=>hO p (LF _ hp)) _⟩
    ·simp at h
   ·rename_i hg
    obtain ⟨p1,p2,p3⟩:=rZ h
    refine ⟨p1,fun i hi=>(p2 i (nu i hi).2).trans (vF (nu i hi).1),fun hO xs=> ?_⟩
    have hgi:nc C st o=none:=uZ (.inl fun e=>by rw [hg];simp)
    simp only [wpOps,K5,aC,je,nd,hgi,hd,hg]
    exact p3 hO _
   ·rename_i e hg
    split at h
    ·rename_i O1 v ns hr
     rw [K7] at h
     obtain ⟨⟨O2,aO⟩,h1,h2⟩:=h
     simp only [Li] at h2
     obtain ⟨rfl,rfl⟩:=h2
     obtain ⟨p1,p2,p3⟩:=rZ h1
     refine ⟨p1,fun i hi=>(p2 i (nu i hi).2).trans (vF (nu i hi).1),fun hO xs=> ?_⟩
     have hgi:nc C st o=none:=uZ (.inr ⟨_,hr⟩)
     simp only [wpOps,K5,aC,je,nd,hgi,hd,hg,hr]
     rw [iA]
     exact ⟨fun p hp=>hO p (LL _ hp),p3 (fun p hp=>hO p (LF _ hp)) _⟩
    ·simp at h
   ·simp at h
def r7 (C:bU τ dn) (n:Nat) (c:Cn) (b:Bool) (os:List az) (st:SS τ dn):Option (List Prop×SS τ dn):=
 match mg C n os st with
 |some (O,ah)=>(nt c b st ah (os.filterMap fun o=>o.dst)).map fun l=>(O.map fun p=>c.tf (!b)->p,⟨st.rt,st.rm,l++ka (os.filterMap fun o=>o.dst) st.t,st.m,st.nx⟩)
 |none=>none
theorem Af {C:bU τ dn} (hC:C.Ok) {c:Cn} {b:Bool} {st aO:SS τ dn} (h:r7 C n c b os st=some (O,aO)) (hO:∀p,p∈O->p) (R:Rel C.D N st s):
  (aO.rt=st.rt/\aO.rm=st.rm/\aO.nx=st.nx)/\(c.den=b->Rel C.D N aO s)/\(c.den= !b->∃s' N',fC C.P n k0 os s.σ s.g s.k s'.σ s'.g s'.k/\Rel C.D N' aO s'/\N.aZ st.nx N'):=by
 unfold r7 at h
 split at h
 case h_2=>simp at h
 rename_i O1 ah hp
 rw [K7] at h
 obtain ⟨l,hl,he⟩:=h
 simp only [Li] at he
 obtain ⟨rfl,rfl⟩:=he
 obtain ⟨⟨e1,e2,e3,e4⟩,p2,p3⟩:=rZ hp
 refine ⟨⟨rfl,rfl,rfl⟩,fun hc=> ?_,fun hc=> ?_⟩
 ·refine ⟨fun N' hN=> ?_,R.inj,R.lt,R.ml,R.rl,R.sp⟩
  have A:=R.at_ N' hN
  refine ⟨fun i v hv=> ?_,A.rs,A.bl,A.rb,A.ar⟩
  have hv':getS (l++ka (os.filterMap fun o=>o.dst) st.t) i=some v:=hv
  rw [fo] at hv'
  cases hq:getS l i with
  |some w=>
   rw [hq] at hv';simp only [MI,KZ] at hv';subst hv'
   obtain ⟨x,y,q1,q2,q3⟩:=rX hl hq
   rw [uD q3,hc,A.gt q1]
   cases b<;>simp
  |none=>rw [hq] at hv';simp only [Mu] at hv';exact A.sl i v (rY hv').2
 ·have u6:∀p,p∈O1->p:=fun p hp=>hO _ (Lz.2 ⟨p,hp,rfl⟩) ((Cn.gW c (!b)).2 hc)
  obtain ⟨s',N',st1,r1,r2,r3,r4,r5,r6⟩:=rJ hC (k0:=k0) R (p3 u6 [])
  subst r6
  have cE:∀a X,(⟨st.rt,st.rm,l++ka (os.filterMap fun o=>o.dst) st.t,st.m,st.nx⟩:SS τ dn).bm a X->st1.bm a X:=fun a X hX=>by
   rcases hX with hX|hX
   ·exact .inl (by rw [e3];exact hX)
   ·exact .inr (by rw [e2];exact hX)
  refine ⟨s',N',r1,⟨fun bJ hN=> ?_, ?_, ?_, ?_, ?_,fun t A h id hid=>⟨(r2.sp t A (cE 0 _ h) id hid).1,fun nm B hB=>(r2.sp t A (cE 0 _ h) id hid).2 nm B (cE nm B hB)⟩⟩,r4⟩
  ·have A:=r2.at_ bJ (by rw [e4];exact hN)
   refine ⟨fun i v hv=> ?_,fun i v hv=>A.rs i v (by rw [e1];exact hv),fun nm B hB=>A.bl nm B (by rw [e3];exact hB),fun nm B hB=>A.rb nm B (by rw [e2];exact hB),fun t A' h id hid=>A.ar t A' (cE 0 _ h) id hid⟩
   have hv':getS (l++ka (os.filterMap fun o=>o.dst) st.t) i=some v:=hv
   rw [fo] at hv'
   cases hq:getS l i with
   |some w=>
    rw [hq] at hv';simp only [MI,KZ] at hv';subst hv'
    obtain ⟨x,y,q1,q2,q3⟩:=rX hl hq
    rw [uD q3,hc,A.gt q2]
    cases b<;>simp
   |none=>
    rw [hq] at hv';simp only [Mu] at hv'
    obtain ⟨k1,k2⟩:=rY hv'
    exact A.sl i v (by rw [p2 i k1];exact k2)
  ·have:=r2.inj;rw [e4] at this;exact this
  ·have:=r2.lt;rw [e4] at this;exact this
  ·have:=r2.ml;rw [e3,e4] at this;exact this
  ·have:=r2.rl;rw [e2,e4] at this;exact this
end
end Go.Proofs.Ytpoikkflcpklgaa
