/- Two ways that come together. No condition. -/
import Derived.Test.YtimomnfobfjggaaPSxX
import Derived.Test.YtimomnfobfjggaaPAvRng
set_option linter.unusedSectionVars false
set_option linter.unusedSimpArgs false
set_option linter.unusedVariables false
namespace Go.Proofs.Ytimomnfobfjggaa
variable {o:az} {a':AV} {dep:List (List Nat)} {cs:List (Nat×Nat)} {hs:List (Option Nat)} {os:List az} {args:List Arg} {l:List Nat} {O:List Prop} {rs:List Rec} {n nm k0 i a f k jn k1 sz q:Nat} {σ σ':Nat->AV} {p:Nat->Bool} {g:Nat->Option Bk} {Q:Nat->Prop} {N N':aC} {d:Option Nat} {r:Rec} {s u:S3} {α:Type}
open Go.RowKit
abbrev Pc:=@Nat.lt_succ_self
abbrev Pw:=@Option.none_or
abbrev PN:=@Option.some_or
abbrev P6:=@List.getElem?_set_ne
section
variable {τ:Type} {dn:τ->Type}
mutual
def SV.dO (E:TE τ dn) (nm:Nat) (t:τ) (r:Row (dn t)):SV τ dn->SV τ dn
 | .own a sz=>bif Nat.beq a nm&&Nat.beq sz (E.sz t) then .rw t r else .own a sz
 | .ref a sz i o=>bif Nat.beq a nm&&Nat.beq sz (E.sz t) then .cQ t r i o else .ref a sz i o
 | .agg cs=> .agg (SV.ku E nm t r cs)
 | .aK cs=> .aK (SV.ku E nm t r cs)
 | .fn f cs=> .fn f (SV.ku E nm t r cs)
 | .bf f cs=> .bf f (SV.ku E nm t r cs)
 | .vg p c v=> .vg p c (SV.dO E nm t r v)
 | .part a b c d=> .part a b c d
 | .pim cs o=> .pim cs o
 | .vc sz els=> .vc sz els
 | .mp a=> .mp a
 | .vi x=> .vi x
 | .vn x=> .vn x
 | .vy x=> .vy x
 | .vu x=> .vu x
 | .vw q x=> .vw q x
 | .vb c=> .vb c
 | .vt x=> .vt x
 | .vz x=> .vz x
 | .vo x=> .vo x
 | .vl a b=> .vl a b
 | .emp=> .emp
 | .rw a b=> .rw a b
 | .cQ a b c d=> .cQ a b c d
 | .dead=> .dead
def SV.ku (E:TE τ dn) (nm:Nat) (t:τ) (r:Row (dn t)):List (SV τ dn)->List (SV τ dn)
 |[]=>[]
 |v::l=>SV.dO E nm t r v::SV.ku E nm t r l
end
section
variable {E:TE τ dn} {N:aC} {nm:Nat} {t:τ} {r:Row (dn t)}
mutual
theorem ye (hk:r.kd= .own) (h1:N.ι nm=r.id) (h2:N.ln nm=r.n):∀v:SV τ dn,(v.dO E nm t r).av E N=v.av E N
 | .own a sz=>by
  simp only [SV.dO]
  cases hb:(Nat.beq a nm&&Nat.beq sz (E.sz t)) with
  |false=>rfl
  |true=>
   rw [N9] at hb
   have e1:=Ol hb.1
   have e2:=Ol hb.2
   simp only [Ob,SV.av,hk,e1,e2,h1,h2]
 | .ref a sz i o=>by
  simp only [SV.dO]
  cases hb:(Nat.beq a nm&&Nat.beq sz (E.sz t)) with
  |false=>rfl
  |true=>
   rw [N9] at hb
   have e1:=Ol hb.1
   have e2:=Ol hb.2
   simp only [Ob,SV.av,hk,e1,e2,h1]
 | .agg cs| .aK cs| .fn f cs| .bf f cs=>by simp only [SV.dO,SV.av,yf hk h1 h2 cs]
 | .vg p c v=>by simp only [SV.dO,SV.av,ye hk h1 h2 v]
 | .part _ _ _ _| .pim _ _| .vc _ _| .mp _| .vi _| .vn _| .vy _| .vu _| .vw _ _| .vb _| .vt _| .vz _| .vo _| .vl _ _| .emp| .rw _ _| .cQ _ _ _ _| .dead=>by simp only [SV.dO]
theorem yf (hk:r.kd= .own) (h1:N.ι nm=r.id) (h2:N.ln nm=r.n):∀cs:List (SV τ dn),SV.cu E N (SV.ku E nm t r cs)=SV.cu E N cs
 |[]=>rfl
 |v::l=>by simp only [SV.ku,SV.cu,ye hk h1 h2 v,yf hk h1 h2 l]
end
end
def SB.dO (E:TE τ dn) (nm:Nat) (t:τ) (r:Row (dn t)):SB τ dn->SB τ dn
 | .bc sz els=> .bc sz (els.map (SV.ku E nm t r))
 | .mc els=> .mc (els.map (SV.ku E nm t r))
 |B=>B
theorem KE {E:TE τ dn} {t:τ} {r:Row (dn t)} (hk:r.kd= .own) (h1:N.ι nm=r.id) (h2:N.ln nm=r.n) (B:SB τ dn):(B.dO E nm t r).av E N=B.av E N/\(B.dO E nm t r).len=B.len:=by
 have hM:∀els:List (List (SV τ dn)),SV.bR E N (els.map (SV.ku E nm t r))=SV.bR E N els:=by
  intro els
  induction els with
  |nil=>rfl
  |cons a l ih=>simp only [Om,SV.bR,ih,yf hk h1 h2]
 cases B with
 |bc sz els=>simp only [SB.dO,SB.av,hM,SB.len,Ox,Ow]
 |mc els=>simp only [SB.dO,SB.av,hM,SB.len,Ow]
 |_=>exact ⟨rfl,rfl⟩
variable [DecidableEq τ]
def lI (D:TD τ dn) (st:SS τ dn) (nm:Nat) (t:τ):Option (List (dn t)):=match st.gm nm with
 |some (.bl t' xs)=>if h:t'=t then some (h▸xs) else (D.th t' t).map fun f=>xs.map f
 |some (.bc q els)=>if q=D.sz t then kj D t els else none
 |_=>none
theorem rG {D:TD τ dn} {st:SS τ dn} (ok:aZ D) (R:bg D N st σ g) {t:τ} {xs:List (dn t)} (h:lI D st nm t=some xs):g (N.ι nm)=some ⟨D.sz t,xs.map (D.ea N.ρ t)⟩/\N.ln nm=xs.length:=by
 unfold lI at h
 split at h
 ·rename_i t' ys hB
  split at h
  ·rename_i he
   subst he
   simp only [N6] at h;subst h
   exact R.gm hB
  ·simp only [Od] at h
   obtain ⟨f,hf,rfl⟩:=h
   obtain ⟨g1,g2⟩:=R.gm hB
   obtain ⟨q1,q2⟩:=ok.th N.ρ t' t f hf
   refine ⟨?_,by rw [g2];simp only [SB.len,Ox]⟩
   rw [g1]
   simp only [SB.av,PL,q1]
   congr 2
   exact P4 fun x _=>(q2 x).symm
 ·rename_i q els hB
  split at h
  ·rename_i hq
   obtain ⟨g1,g2⟩:=R.gm hB
   have e1:=tO (N:=N) ok h
   have e2:=tP h
   refine ⟨?_,by rw [g2];exact e2⟩
   rw [g1];simp only [SB.av,hq,e1]
  ·simp at h
 ·simp at h
def SS.pf (D:TD τ dn) (st:SS τ dn) (nm:Nat):Option ((t:τ)×(List (Nat×List (dn t))×List (dn t))):=match st.gm 0 with
 |some (.ar t A)=>match lI D st nm t with
  |some xs=>bif !Nat.beq nm 0&&(st.rw nm&&st.rw 0) then some ⟨t,A,xs⟩ else none
  |none=>none
 |_=>none
def SS.tk (D:TD τ dn) (st:SS τ dn) (nm id:Nat) (t:τ) (A:List (Nat×List (dn t))) (xs:List (dn t)):SS τ dn:=
 ⟨st.rt,st.rm,st.t.map fun q=>(q.1,q.2.dO D.toTE nm t (Row.at (dn t) id xs.length)),(0,some (.ar t ((id,xs)::A)))::(nm,none)::st.m.map fun q=>(q.1,q.2.map (SB.dO D.toTE nm t (Row.at (dn t) id xs.length))),st.nx⟩
def yg:SV τ dn->Option Nat
 | .own nm _=>some nm
 |_=>none
def needs (D:TD τ dn) (st:SS τ dn):AO->List Nat
 | .store _ x y=>match st.ev x,st.ev y with
  |some (.ref nm _ _ _),some b=>match st.gm nm with
   |some (.bl t _)=>bif D.hr t then b.cells.filterMap yg else []
   |_=>[]
  |_,_=>[]
 | .app sz _ s x=>match st.ev s,st.ev x with
  |some (.own nm _),some b=>match st.gm nm with
   |some (.bl t _)=>bif D.hr t then (match st.cont D sz b with
    |some (.li els)=>els.flatMap fun cs=>cs.filterMap yg
    |_=>[]) else []
   |_=>[]
  |_,_=>[]
 |_=>[]
def kx (D:TD τ dn):List Nat->SS τ dn->(SS τ dn->Prop)->Prop
 |[],st,K=>K st
 |nm::r,st,K=>match st.pf D nm with
  |some ⟨t,A,xs⟩=>∀id,¬dw A id->kx D r (st.tk D nm id t A xs) K
  |none=>kx D r st K
end
section
variable {τ:Type} {dn:τ->Type} {D:TD τ dn} [DecidableEq τ]
theorem pg {α β:Type} (f:α->β):∀{l:List (Nat×α)} {i:Nat},getS (l.map fun q=>(q.1,f q.2)) i=(getS l i).map f
 |[],i=>rfl
 |(j,v)::r,i=>by
  rw [Om,ba,ba,pg f (l:=r)]
  by_cases h:i=j<;>simp [h]
theorem KF (ok:aZ D) {st:SS τ dn} (R:Rel D N st s) {t:τ} {A:List (Nat×List (dn t))} {xs:List (dn t)} (h:st.pf D nm=some ⟨t,A,xs⟩):¬dw A (N.ι nm)/\Rel D N (st.tk D nm (N.ι nm) t A xs) s:=by
 unfold SS.pf at h
 split at h
 case h_2=>simp at h
 rename_i t' A' jz
 split at h
 case h_2=>simp at h
 rename_i ys hb
 cases hc:(!Nat.beq nm 0&&(st.rw nm&&st.rw 0)) with
 |false=>rw [hc] at h;simp at h
 |true=>
 rw [hc,Ob,N6] at h
 simp only [Sigma.mk.injEq] at h
 obtain ⟨rfl,h⟩:=h
 have h:=eq_of_heq h
 simp only [Oi] at h
 obtain ⟨rfl,rfl⟩:=h
 simp only [N9,Ov] at hc
 obtain ⟨m5,hw,yh⟩:=hc
 have Cz:nm≠0:=fun e=>by subst e;simp at m5
 obtain ⟨⟨B1,m1⟩,r1⟩:=jM hw
 obtain ⟨⟨B2,m2⟩,r2⟩:=jM yh
 have hB2:B2= .ar t' A':=by
  have:=mC m2;rw [this] at jz;simpa using jz
 subst hB2
 have hlt:=R.ml nm _ m1
 have nL:=R.ml 0 _ m2
 have eF:¬dw A' (N.ι nm):=fun hh=>(R.sp t' A' (gG jz) _ hh).2 nm _ (.inl m1) rfl
 have di:∀a X,getS ((0,some (SB.ar t' ((N.ι nm,ys)::A')))::(nm,(none:Option (SB τ dn)))::st.m.map fun q=>(q.1,q.2.map (SB.dO D.toTE nm t' (Row.at (dn t') (N.ι nm) ys.length)))) a=some (some X)->
   (a=0/\X= .ar t' ((N.ι nm,ys)::A'))\/(a≠0/\a≠nm/\∃B,getS st.m a=some (some B)/\X=B.dO D.toTE nm t' (Row.at (dn t') (N.ι nm) ys.length)):=fun a X h=>by
  rw [ba,ba,pg (Option.map (SB.dO D.toTE nm t' (Row.at (dn t') (N.ι nm) ys.length)))] at h
  by_cases h0:a=0
  ·rw [N8 h0] at h;simp only [N6] at h;exact .inl ⟨h0,h.symm⟩
  ·rw [N7 h0] at h
   by_cases h1:a=nm
   ·rw [N8 h1] at h;simp at h
   ·rw [N7 h1] at h
    simp only [Od] at h
    obtain ⟨x,hx,B,rfl,rfl⟩:=h
    exact .inr ⟨h0,h1,B,hx,rfl⟩
 have bI:∀t2 A2,(st.tk D nm (N.ι nm) t' A' ys).bw 0 (.ar t2 A2)->(SB.ar t' ((N.ι nm,ys)::A'):SB τ dn)= .ar t2 A2:=fun t2 A2 h=>by
  rcases h with h|h
  ·rcases di 0 _ h with ⟨_,h⟩|⟨h,_⟩
   ·exact h.symm
   ·exact absurd rfl h
  ·have h':getS st.rm 0=some (some (.ar t2 A2)):=h
   rw [r2] at h';simp at h'
 refine ⟨eF,⟨fun N' hN=> ?_,R.inj,R.lt,fun a X h=> ?_,R.rl,fun t2 A2 h id hid=> ?_⟩⟩
 ·have A:=R.at_ N' hN
  have e1:N'.ι nm=N.ι nm:=(hN.1 nm hlt).1
  have bk:=rG ok A hb
  have e2:N'.ln nm=ys.length:=bk.2
  refine ⟨fun i v h=> ?_,A.rs,fun a X h=> ?_,A.rb,fun t2 A2 h id hid=> ?_⟩
  ·have h':getS (st.t.map fun q=>(q.1,q.2.dO D.toTE nm t' (Row.at (dn t') (N.ι nm) ys.length))) i=some v:=h
   rw [pg (SV.dO D.toTE nm t' (Row.at (dn t') (N.ι nm) ys.length))] at h'
   simp only [Od] at h'
   obtain ⟨w,hw,rfl⟩:=h'
   rw [A.sl i w hw]
   exact (ye rfl e1 e2 w).symm
  ·rcases di a X h with ⟨rfl,rfl⟩|⟨h0,h1,B,hB,rfl⟩
   ·have:=A.bl 0 _ m2
    exact ⟨this.1,this.2⟩
   ·obtain ⟨p1,p2⟩:=KE (E:=D.toTE) (N:=N') (r:=Row.at (dn t') (N.ι nm) ys.length) rfl e1 e2 B
    rw [p1,p2];exact A.bl a B hB
  ·have h':=bI t2 A2 h
   simp only [SB.ar.injEq] at h'
   obtain ⟨rfl,h'⟩:=h'
   have h':=eq_of_heq h'
   subst h'
   rw [BS]
   by_cases hi:id=N.ι nm
   ·rw [N8 hi,hi, <-e1];exact bk.1
   ·rw [N7 hi]
    rcases qQ.1 hid with hh|hh
    ·exact absurd hh hi
    ·exact A.ar _ A' (gG jz) id hh
 ·have h':getS ((0,some (SB.ar t' ((N.ι nm,ys)::A')))::(nm,(none:Option (SB τ dn)))::st.m.map fun q=>(q.1,q.2.map (SB.dO D.toTE nm t' (Row.at (dn t') (N.ι nm) ys.length)))) a=some X:=h
  show a<st.nx
  rw [ba,ba,pg (Option.map (SB.dO D.toTE nm t' (Row.at (dn t') (N.ι nm) ys.length)))] at h'
  by_cases h0:a=0
  ·subst h0;exact nL
  ·rw [N7 h0] at h'
   by_cases h1:a=nm
   ·subst h1;exact hlt
   ·rw [N7 h1] at h'
    simp only [Od] at h'
    obtain ⟨x,hx,_⟩:=h'
    exact R.ml a _ hx
 ·have h':=bI t2 A2 h
  simp only [SB.ar.injEq] at h'
  obtain ⟨rfl,h'⟩:=h'
  have h':=eq_of_heq h'
  subst h'
  have bw:∀a X,(getS (st.tk D nm (N.ι nm) t' A' ys).m a=some (some X)\/getS st.rm a=some (some X))->a≠nm/\a<st.nx/\∃X',getS st.m a=some (some X')\/getS st.rm a=some (some X'):=fun a X hX=>by
   rcases hX with hX|hX
   ·rcases di a X hX with ⟨rfl,rfl⟩|⟨h0,h1,B,hB,rfl⟩
    ·exact ⟨fun e=>Cz e.symm,nL,_, .inl m2⟩
    ·exact ⟨h1,R.ml a _ hB,B, .inl hB⟩
   ·exact ⟨fun e=>by subst e;rw [r1] at hX;simp at hX,R.rl a _ hX,X, .inr hX⟩
  rcases qQ.1 hid with hh|hh
  ·subst hh
   refine ⟨R.lt nm hlt,fun a X hX e=> ?_⟩
   obtain ⟨q1,q2,_⟩:=bw a X hX
   exact q1 (R.inj a nm q2 hlt e)
  ·obtain ⟨q1,q2⟩:=R.sp _ A' (gG jz) id hh
   refine ⟨q1,fun a X hX=> ?_⟩
   obtain ⟨_,_,X',lJ⟩:=bw a X hX
   exact q2 a X' lJ
theorem uk (ok:aZ D) {N:aC} {s:S3} {K:SS τ dn->Prop}:∀{l:List Nat} {st:SS τ dn},Rel D N st s->kx D l st K->∃aw,Rel D N aw s/\aw.rt=st.rt/\aw.rm=st.rm/\aw.nx=st.nx/\K aw
 |[],st,R,h=>⟨st,R,rfl,rfl,rfl,h⟩
 |nm::r,st,R,h=>by
  simp only [kx] at h
  split at h
  ·rename_i t A xs ht
   obtain ⟨h1,h2⟩:=KF ok R ht
   obtain ⟨aw,q1,q2,q3,q4,q5⟩:=uk ok h2 (h _ h1)
   exact ⟨aw,q1,q2,q3,q4,q5⟩
  ·exact uk ok R h
end
open Go.RowKit
section
variable {τ:Type} {dn:τ->Type}
abbrev JW (τ:Type) (dn:τ->Type):=FuncId->List (SV τ dn)->SS τ dn->(SV τ dn->SS τ dn->Prop)->Prop
structure b0 (τ:Type) (dn:τ->Type) where
 P:Program
 D:TD τ dn
 Δ:List (dr τ dn)
 Ω:List (jc τ dn)
 fl:Nat
 J:JW τ dn
 hd:Bool
def um (P:Program) (D:TD τ dn) (f:FuncId) (vs:List (SV τ dn)) (st:SS τ dn) (K:SV τ dn->SS τ dn->Prop) (N:aC) (s:S3):Prop:=
 bH P f=true/\∃g1 k1 N' v st1,Fi P f (vs.map (SV.av D.toTE N)) s.g s.k (v.av D.toTE N') g1 k1/\(∀bT,N'.agree st1.nx bT->v.av D.toTE bT=v.av D.toTE N')/\N.agree st.nx N'/\st.nx<=st1.nx/\Rel D N' ⟨[],st.rm,[],st1.m,st1.nx⟩ ⟨s.σ,g1,k1⟩/\K v st1
structure b0.Ok (C:b0 τ dn):Prop where
 ok:aZ C.D
 uo:∀c,c∈C.Δ->c.Ok C.P C.D
 CA:∀c,c∈C.Ω->c.Ok C.P C.D
 inl:∀{f vs st K N s},Rel C.D N st s->(∀N',N.agree st.nx N'->vs.map (SV.av C.D.toTE N')=vs.map (SV.av C.D.toTE N))->C.J f vs st K->um C.P C.D f vs st K N s
def nX (D:TD τ dn):List (dr τ dn)->FuncId->List (SV τ dn)->Option ((c:dr τ dn)×PD dn c.ps)
 |[],_,_=>none
 |c::r,f,as_=>bif Nat.beq c.f f then (match jP D c.ps as_ with
  |some x=>some ⟨c,x⟩
  |none=>nX D r f as_) else nX D r f as_
theorem yi {D:TD τ dn}:∀{Δ:List (dr τ dn)} {f:FuncId} {as_:List (SV τ dn)} {c:dr τ dn} {x:PD dn c.ps},nX D Δ f as_=some ⟨c,x⟩->c∈Δ/\c.f=f/\jP D c.ps as_=some x
 |[],f,as_,c,x,h=>by simp [nX] at h
 |d::r,f,as_,c,x,h=>by
  have go:nX D r f as_=some ⟨c,x⟩->c∈d::r/\c.f=f/\jP D c.ps as_=some x:=fun h=>by
   obtain ⟨h1,h2,h3⟩:=yi h
   exact ⟨OV _ h1,h2,h3⟩
  simp only [nX] at h
  cases hb:Nat.beq d.f f with
  |false=>rw [hb,Ot] at h;exact go h
  |true=>
   rw [hb,Ob] at h
   split at h
   ·rename_i y hy
    simp only [N6] at h
    cases h
    exact ⟨O6 ..,Ol hb,hy⟩
   ·exact go h
def nY (D:TD τ dn):List (jc τ dn)->FuncId->List (SV τ dn)->Option ((c:jc τ dn)×PD dn c.ps)
 |[],_,_=>none
 |c::r,f,as_=>bif Nat.beq c.f f then (match jP D c.ps as_ with
  |some x=>some ⟨c,x⟩
  |none=>nY D r f as_) else nY D r f as_
theorem CB {D:TD τ dn}:∀{Δ:List (jc τ dn)} {f:FuncId} {as_:List (SV τ dn)} {c:jc τ dn} {x:PD dn c.ps},nY D Δ f as_=some ⟨c,x⟩->c∈Δ/\c.f=f/\jP D c.ps as_=some x
 |[],f,as_,c,x,h=>by simp [nY] at h
 |d::r,f,as_,c,x,h=>by
  have go:nY D r f as_=some ⟨c,x⟩->c∈d::r/\c.f=f/\jP D c.ps as_=some x:=fun h=>by
   obtain ⟨h1,h2,h3⟩:=CB h
   exact ⟨OV _ h1,h2,h3⟩
  simp only [nY] at h
  cases hb:Nat.beq d.f f with
  |false=>rw [hb,Ot] at h;exact go h
  |true=>
   rw [hb,Ob] at h
   split at h
   ·rename_i y hy
    simp only [N6] at h
    cases h
    exact ⟨O6 ..,Ol hb,hy⟩
   ·exact go h
def SV.de:SV τ dn->Bool
 | .vi _| .vn _| .vy _| .vu _| .vw _ _| .vb _| .vt _| .vz _| .vo _| .emp| .dead=>true
 | .fn _ cs=>cs.isEmpty
 |_=>false
def SV.dA:SV τ dn->Bool
 | .agg cs=>cs.all SV.de
 |a=>a.de
def SV.nob:SV τ dn->Bool
 | .aK vs=>vs.all SV.dA
 |a=>a.dA
theorem CC {E:TE τ dn} {v:SV τ dn} (h:v.de=true):(v.av E N).de=true:=by
 cases v<;>simp [SV.de] at h<;>simp [SV.av,AV.de]
 subst h;rfl
theorem CE {E:TE τ dn} {v:SV τ dn} (h:v.dA=true):(v.av E N).dA=true:=by
 cases v with
 |agg cs=>
  simp only [SV.av,SV.dA,AV.dA,SV.bu,Oc,OE] at h ⊢
  rintro _ ⟨v,hv,rfl⟩;exact CC (h v hv)
 |vg p c v=>simp [SV.dA,SV.de] at h
 |rw t r=>simp [SV.dA,SV.de] at h
 |cQ t r i o=>simp [SV.dA,SV.de] at h
 |_=>
  simp only [SV.dA] at h
  exact CC (E:=E) (N:=N) h
theorem KG {E:TE τ dn} {v:SV τ dn} (h:v.nob=true):(v.av E N).nob=true:=by
 cases v with
 |aK cs=>
  simp only [SV.av,SV.nob,AV.nob,SV.bu,Oc,OE] at h ⊢
  rintro _ ⟨v,hv,rfl⟩;exact CE (h v hv)
 |vg p c v=>simp [SV.nob,SV.dA,SV.de] at h
 |rw t r=>simp [SV.nob,SV.dA,SV.de] at h
 |cQ t r i o=>simp [SV.nob,SV.dA,SV.de] at h
 |_=>
  simp only [SV.nob] at h
  exact CE (E:=E) (N:=N) h
def ph (st:SS τ dn) (x:Arg) (args:List Arg):Option (FuncId×List (SV τ dn)):=
 match st.ev x,args.mapM st.ev with
 |some (.fn f caps),some vs=>some (f,vs++caps)
 |some (.bf f first),some vs=>some (f,first++vs)
 |_,_=>none
theorem pj {D:TD τ dn} {st:SS τ dn} (R:bg D N st σ g) {x:Arg} {f:FuncId} {vs:List (SV τ dn)} (h:ph st x args=some (f,vs)) (k:Nat):
  (AO.au k (aG σ) (.call x args)).run g=some (.call f (vs.map (SV.av D.toTE N))):=by
 unfold ph at h
 split at h
 ·rename_i f' caps KH h1 h2
  simp only [N6,Oi] at h;obtain ⟨rfl,rfl⟩:=h
  simp only [AO.au,R.ev h1,SV.av,RM.run,rz R h2,O9,SV.bu]
 ·rename_i f' first KH h1 h2
  simp only [N6,Oi] at h;obtain ⟨rfl,rfl⟩:=h
  simp only [AO.au,R.ev h1,SV.av,RM.run,rz R h2,O9,SV.bu]
 ·simp at h
def CF [DecidableEq τ] (C:b0 τ dn) (st:SS τ dn) (x:Arg) (args:List Arg):Option (SR τ dn×List Nat):=
 match ph st x args with
 |some (f,vs)=>match nW C.D st vs with
  |some (O,as_)=>match nX C.D C.Δ f as_ with
   |some ⟨c,y⟩=>bif (c.val C.D y).nob||(vs.flatMap SV.nms).isEmpty then some (.val (O++[c.pre y]) (c.val C.D y),vs.flatMap SV.nms) else bif (c.val C.D y).lb&&(vs.all SV.nvg&&(vs.flatMap SV.nms).all st.rw) then some (.fS (O++[c.pre y]) (c.val C.D y) (vs.flatMap SV.nms),vs.flatMap SV.nms) else none
   |none=>match nY C.D C.Ω f as_ with
    |some ⟨c,y⟩=>some (.new (O++[c.pre y]) (.own st.nx (C.D.sz c.t)) (.bl c.t (c.res y)),vs.flatMap SV.nms)
    |none=>none
  |none=>none
 |none=>none
def SS.live (st:SS τ dn) (a:Nat):Bool:=Nat.blt a st.nx&&(st.gm a).isSome
def jQ [DecidableEq τ] (C:b0 τ dn) (st:SS τ dn) (ao:AO):Option (SR τ dn×List Nat):=
 match ao with
 | .call x args=>match CF C st x args with
  |some (r,ns)=>bif ns.all st.live then some (r,ns) else none
  |none=>none
 |ao=>match mD C.D st ao with
  |some r=>bif (ao.nrs st).all st.live&&ao.lk.all st.ngd then some (r,ao.nrs st) else none
  |none=>none
def SR.nx (st:SS τ dn):SR τ dn->Nat
 | .new _ _ _| .mov _ _ _ _=>st.nx+1
 |_=>st.nx
theorem SR.uq (st:SS τ dn) (d:Option Nat) (r:SR τ dn):(r.st st d).nx=r.nx st:=by cases r<;>rfl
theorem yj {D:TD τ dn} (ok:aZ D) (h:N'.ρ=N.ρ) (t:τ) (x:dn t):(D.en t x).av D.toTE N=(D.en t x).av D.toTE N':=by
 have e:(D.es t x).map (SV.av D.toTE N)=(D.es t x).map (SV.av D.toTE N'):=by rw [ok.dp,ok.dp,h]
 cases ha:D.ag t with
 |true=>rw [ua ha,SV.av,SV.av,SV.bu,SV.bu,e]
 |false=>
  unfold TD.en
  rw [ha,Ot]
  cases hs:D.es t x with
  |nil=>rfl
  |cons v r=>rw [hs] at e;simp only [Om,PS] at e;exact e.1
theorem CG {D:TD τ dn} (ok:aZ D) {N N':aC} (h:N'.ρ=N.ρ):∀(rs:List τ) (x:RD dn rs),(iG D rs x).map (SV.av D.toTE N)=(iG D rs x).map (SV.av D.toTE N')
 |[],_=>rfl
 |[t],x=>by simp only [iG,Om,OU,yj ok h t x]
 |t::s::r,x=>by simp only [iG,Om,yj ok h t x.1,CG ok h (s::r) x.2]
theorem CH {D:TD τ dn} (ok:aZ D) (h:N'.ρ=N.ρ) {c:dr τ dn} {y:PD dn c.ps}:(c.val D y).av D.toTE N=(c.val D y).av D.toTE N':=by
 unfold dr.val;rw [ud,ud,CG ok h]
theorem KI [DecidableEq τ] {D:TD τ dn} {st:SS τ dn} {g:Nat->Option Bk} (R:bg D N st σ g) {ao:AO} {r:SR τ dn} (h:mD D st ao=some r) (hO:∀p,p∈r.O->p):∀x,x∈ao.lk->∀v,st.ev x=some v->v.isRw=true->∀id,id∈(v.av D.toTE N).bz->gJ st id:=by
 intro x hx v hv hr id hid
 unfold mD at h
 split at h
 ·simp [AO.lk] at hx
 ·have hb:(ao.lk.any st.rwa)=true:=PU.2 ⟨x,hx,by unfold SS.rwa;rw [hv];exact hr⟩
  rw [hb,Ob] at h
  exact JV R h hO hx hv hr id hid
theorem CI [DecidableEq τ] {C:b0 τ dn} (hC:C.Ok) {st:SS τ dn} (R:∀N',N.agree st.nx N'->bg C.D N' st σ g) (hg:bO σ o.guard=some true) {r:SR τ dn} {ns:List Nat} (h:jQ C st o.ao=some (r,ns)) (hO:∀p,p∈r.O->p):
  ∃val ups acc,dk C.P σ g k o val ups acc/\(∀N',(r.up N st k).agree (r.nx st) N'->val=r.v.av C.D.toTE N'/\ups=r.ups C.D N' k)/\(∀id,id∈acc->∃nm,nm∈ns/\(id=N.ι nm\/(nm=0/\gJ st id)))/\r.may C.D N st/\(∀nm,nm∈ns->st.live nm=true):=by
 have blt:∀{l:List Nat},(l.all st.live)=true->∀nm,nm∈l->nm<st.nx:=fun h nm hn=>by
  have:=Oc.1 h nm hn
  unfold SS.live at this
  rw [N9] at this
  exact ON this.1
 have ur:∀{l:List Nat},(l.all st.live)=true->∀nm,nm∈l->st.live nm=true:=fun h nm hn=>Oc.1 h nm hn
 have R0:=R N (N.dN _)
 have dH:∀N',(r.up N st k).agree (r.nx st) N'->N.agree st.nx N'/\r.fresh N' st.nx k:=fun N' hN=>by
  cases r with
  |val=>exact ⟨hN,trivial⟩
  |put=>exact ⟨hN,trivial⟩
  |fS=>exact ⟨hN,trivial⟩
  |ew=>exact ⟨hN,trivial⟩
  |new O v B=>
   refine ⟨aC.eH (N.lA st.nx k B.len) hN (Nat.le_succ _), ?_, ?_⟩
   ·rw [(hN.1 st.nx (Pc _)).1];exact N8 rfl
   ·rw [(hN.1 st.nx (Pc _)).2];exact N8 rfl
  |mov O v o B=>
   refine ⟨aC.eH (N.lA st.nx k B.len) hN (Nat.le_succ _), ?_, ?_⟩
   ·rw [(hN.1 st.nx (Pc _)).1];exact N8 rfl
   ·rw [(hN.1 st.nx (Pc _)).2];exact N8 rfl
 unfold jQ at h
 split at h
 ·rename_i x args cC
  split at h
  ·rename_i r' ns' hc
   cases hb:(ns'.all st.live) with
   |false=>rw [hb] at h;simp at h
   |true=>
    rw [hb,Ob,N6,Oi] at h
    obtain ⟨rfl,rfl⟩:=h
    unfold CF at hc
    split at hc
    ·rename_i f vs er
     split at hc
     ·rename_i Os as_ fH
      split at hc
      ·rename_i c y hf
       cases hcd:((c.val C.D y).nob||(vs.flatMap SV.nms).isEmpty) with
       |false=>
        rw [hcd,Ot] at hc
        cases hce:((c.val C.D y).lb&&(vs.all SV.nvg&&(vs.flatMap SV.nms).all st.rw)) with
        |false=>rw [hce] at hc;simp at hc
        |true=>
         rw [hce,Ob,N6,Oi] at hc
         obtain ⟨rfl,rfl⟩:=hc
         rw [N9,N9] at hce
         obtain ⟨l1,l2,l3⟩:=hce
         obtain ⟨f1,f2,f3⟩:=yi hf
         obtain ⟨c1,c2⟩:=hC.uo c f1
         simp only [SR.O,OM,Of] at hO
         have lK:∀p,p∈Os->p:=fun p hp=>hO p (.inl hp)
         have hs:=tY hC.ok R0 fH lK
         have eR:=(c2 y N (hO _ (.inr rfl))).args (uc (N:=N) hC.ok f3)
         rw [f2] at eR c1
         have hr:=dk.call (P:=C.P) (fresh:=k) hg (by rw [cC];exact pj R0 er k) c1 hs eR
         have nJ:callUps (vs.map (SV.av C.D.toTE N)) ((c.val C.D y).av C.D.toTE N)=((vs.flatMap SV.nms).map N.ι).map fun i=>(i,none):=by
          unfold callUps
          rw [N7 (by rw [KA l1];simp),Cx l2]
         rw [nJ] at hr
         refine ⟨_,_,_,hr,fun N' hN=>⟨CH hC.ok (dH N' hN).1.2, ?_⟩,fun id hid=> ?_,fun a ha=> ?_,ur hb⟩
         ·simp only [SR.ups]
          congr 1
          exact P4 fun a ha=>((hN.1 a (blt hb a ha)).1).symm
         ·rcases OM.1 hid with hid|hid
          ·have:=ug id hid
           rw [cC] at this;simp [AO.refs] at this
          ·exact rF fH lK id (ui id hid)
         ·exact jM (Oc.1 l3 a ha)
       |true=>
        rw [hcd,Ob,N6,Oi] at hc
        obtain ⟨rfl,rfl⟩:=hc
        obtain ⟨f1,f2,f3⟩:=yi hf
        obtain ⟨c1,c2⟩:=hC.uo c f1
        simp only [SR.O,OM,Of] at hO
        have lK:∀p,p∈Os->p:=fun p hp=>hO p (.inl hp)
        have key:∀N',N.agree st.nx N'->∃acc,dk C.P σ g k o ((c.val C.D y).av C.D.toTE N') [] acc/\∀id,id∈acc->∃nm,nm∈vs.flatMap SV.nms/\(id=N'.ι nm\/(nm=0/\gJ st id)):=fun N' hN=>by
         have R':=R N' hN
         have hs:=tY hC.ok R' fH lK
         have eR:=(c2 y N' (hO _ (.inr rfl))).args (uc (N:=N') hC.ok f3)
         rw [f2] at eR c1
         have hr:=dk.call (P:=C.P) (fresh:=k) hg (by rw [cC];exact pj R' er k) c1 hs eR
         have nJ:callUps (vs.map (SV.av C.D.toTE N')) ((c.val C.D y).av C.D.toTE N')=[]:=by
          unfold callUps
          rw [OA] at hcd
          rcases hcd with hcd|hcd
          ·rw [N8 (KG hcd)]
          ·split
           ·rfl
           ·rw [List.map_eq_nil_iff]
            rw [OZ] at hcd
            rw [List.eq_nil_iff_forall_not_mem]
            intro id hid
            obtain ⟨nm,h1,_⟩:=rF fH lK id hid
            rw [hcd] at h1;simp at h1
         rw [nJ] at hr
         refine ⟨_,hr,fun id hid=> ?_⟩
         rcases OM.1 hid with hid|hid
         ·have:=ug id hid
          rw [cC] at this;simp [AO.refs] at this
         ·exact rF fH lK id (ui id hid)
        obtain ⟨acc,k1,k2⟩:=key N (N.dN _)
        refine ⟨_,_,acc,k1,fun N' hN=>⟨?_,rfl⟩,k2,trivial,ur hb⟩
        exact CH hC.ok (dH N' hN).1.2
      ·split at hc
       ·rename_i c y hf
        rw [N6,Oi] at hc
        obtain ⟨rfl,rfl⟩:=hc
        obtain ⟨f1,f2,f3⟩:=CB hf
        obtain ⟨⟨c1,cn⟩,c2⟩:=hC.CA c f1
        simp only [SR.O,OM,Of] at hO
        have lK:∀p,p∈Os->p:=fun p hp=>hO p (.inl hp)
        have hs:=tY hC.ok R0 fH lK
        have oD:=Ko (c2 y N (hO _ (.inr rfl))) (uc (N:=N) hC.ok f3)
        rw [f2] at oD c1
        have wx:∀cs,cs∈(c.res y).map (C.D.ea N.ρ c.t)->∀a,a∈cs->a.de=true:=fun cs hcs a ha=>by
         obtain ⟨x,_,rfl⟩:=OE.1 hcs
         rw [<-hC.ok.dp N c.t x] at ha
         obtain ⟨v,hv,rfl⟩:=OE.1 ha
         exact Kn (Oc.1 (cn x) v hv)
        have hr:=dk.ni (P:=C.P) (fresh:=k) hg (by rw [cC];exact pj R0 er k) c1 hs oD wx
        refine ⟨_,_,_,hr,fun N' hN=> ?_,fun id hid=> ?_,rfl,ur hb⟩
        ·obtain ⟨yk,h1,h2⟩:=dH N' hN
         simp only [SR.v,SV.av,SR.ups,SB.av,h1,h2,yk.2,Ox,SB.len,Ow]
        ·rcases OM.1 hid with hid|hid
         ·have:=ug id hid
          rw [cC] at this;simp [AO.refs] at this
         ·exact rF fH lK id (ui id hid)
       ·simp at hc
     ·simp at hc
    ·simp at hc
  ·simp at h
 ·split at h
  ·rename_i r' hr
   cases hb:((o.ao.nrs st).all st.live&&o.ao.lk.all st.ngd) with
   |false=>rw [hb] at h;simp at h
   |true=>
    rw [hb,Ob,N6,Oi] at h
    obtain ⟨rfl,rfl⟩:=h
    rw [N9] at hb
    obtain ⟨N1,yk⟩:∃N1,(r'.up N st k).agree (r'.nx st) N1:=⟨_,aC.dN _ _⟩
    have A1:=dH N1 yk
    have e1:=(x7 hC.ok (R N1 A1.1) hr hO).1 k hO A1.2
    refine ⟨_,_,_, .done hg e1,fun N' hN=> ?_,fun id hid=> ?_,(x7 hC.ok R0 hr hO).2,ur hb.1⟩
    ·have A2:=dH N' hN
     have e2:=(x7 hC.ok (R N' A2.1) hr hO).1 k hO A2.2
     rw [e1] at e2
     simp only [N6,Out.done.injEq] at e2
     exact e2
    ·exact KB R0 (KD hr) hb.2 (KI R0 hr hO) id hid
  ·simp at h
structure NR where
 keys:List Nat
 acc:List Nat
 all:Bool:=false
 ra:Bool:=false
 ex:List Nat:=[]
 nw:Bool:=false
def uu (x y:NR):Bool:=bif x.all then !y.all&&(!y.ra&&(y.keys.isEmpty&&y.acc.all fun a=>x.ex.contains a)) else bif y.all then !x.ra&&(x.keys.isEmpty&&x.acc.all fun a=>y.ex.contains a) else ((!x.ra||y.keys.isEmpty)&&(!y.ra||x.keys.isEmpty))&&((x.keys.all fun id=> !y.acc.contains id&& !y.keys.contains id)&&(y.keys.all fun id=> !x.acc.contains id))
def yl (dep:List (List Nat)) (i j:Nat) (x y:NR):Bool:=(x.all&&x.keys.isEmpty)&&(y.nw&&(y.acc.isEmpty&&(!y.ra&&mq dep i j)))
def idsN (rs:List NR) (dep:List (List Nat)):Bool:=
 (List.range rs.length).all fun j=>(List.range j).all fun i=>((dep[j]?).getD []).contains i||(match rs[i]?,rs[j]? with|some x,some y=>uu x y||yl dep i j x y|_,_=>false)
def je (N:aC) (Q:Nat->Prop) (nm id:Nat):Prop:=(id=N.ι nm/\¬Q id)\/(nm=0/\Q id)
structure jf (N:aC) (Q:Nat->Prop) (nx:Nat) (r:Rec) (x:NR):Prop where
 keys:x.all=false->∀id,id∈r.keys->∃nm,nm∈x.keys/\je N Q nm id
 acc:x.all=false->x.ra=false->∀id,id∈r.acc->∃nm,nm∈x.acc/\je N Q nm id
 kl:∀nm,nm∈x.keys->nm<nx
 al:∀nm,nm∈x.acc->nm<nx
 ex:∀nm,nm∈x.ex->nm<nx/\∀id,id∈r.keys->¬je N Q nm id
 nw:x.nw=true->x.all=false/\∀id,id∈r.keys->r.fr<=id
 ca:x.all=true->x.keys.isEmpty=true->r.acc=[]
theorem je.step {N N':aC} {Q:Nat->Prop} {nx nm id:Nat} (h:je N Q nm id) (hN:N.agree nx N') (hn:nm<nx):je N' Q nm id:=by
 rcases h with ⟨h1,h2⟩|h
 ·exact .inl ⟨by rw [(hN.1 nm hn).1];exact h1,h2⟩
 ·exact .inr h
theorem jf.step {N N':aC} {Q:Nat->Prop} {nx nx':Nat} {r:Rec} {x:NR} (h:jf N Q nx r x) (hN:N.agree nx N') (hx:nx<=nx'):jf N' Q nx' r x:=by
 refine ⟨fun ha id hid=> ?_,fun ha hb id hid=> ?_,fun nm hn=>Oz (h.kl nm hn) hx,fun nm hn=>Oz (h.al nm hn) hx,fun nm hn=>⟨Oz (h.ex nm hn).1 hx,fun id hid hq=>(h.ex nm hn).2 id hid ?_⟩,h.nw,h.ca⟩
 ·obtain ⟨nm,h1,h2⟩:=h.keys ha id hid
  exact ⟨nm,h1,h2.step hN (h.kl nm h1)⟩
 ·obtain ⟨nm,h1,h2⟩:=h.acc ha hb id hid
  exact ⟨nm,h1,h2.step hN (h.al nm h1)⟩
 ·rcases hq with ⟨h1,h2⟩|hq
  ·exact .inl ⟨h1.trans (hN.1 nm (h.ex nm hn).1).1,h2⟩
  ·exact .inr hq
theorem jf.nk {nx:Nat} {x:NR} (h:jf N Q nx r x) (ha:x.all=false) (h1:x.keys.isEmpty=true):r.keys=[]:=by
 rw [OZ] at h1
 refine List.eq_nil_iff_forall_not_mem.2 fun id hid=> ?_
 obtain ⟨nm,q,_⟩:=h.keys ha id hid
 rw [h1] at q;simp at q
theorem je.eq {nx b id:Nat} (inj:∀a b,a<nx->b<nx->N.ι a=N.ι b->a=b) (ha:a<nx) (hb:b<nx) (h:je N Q a id) (k:je N Q b id):a=b:=by
 rcases h with ⟨h1,h2⟩|⟨h1,h2⟩<;>rcases k with ⟨k1,k2⟩|⟨k1,k2⟩
 ·exact inj a b ha hb (h1.symm.trans k1)
 ·exact absurd k2 h2
 ·exact absurd h2 k2
 ·rw [h1,k1]
theorem KJ {nx:Nat} (inj:∀a b,a<nx->b<nx->N.ι a=N.ι b->a=b) {q:Rec} {x y:NR} (hr:jf N Q nx r x) (hq:jf N Q nx q y) (h:uu x y=true):fp r q=true:=by
 unfold uu at h
 unfold fp
 cases hx:x.all with
 |true=>
  rw [hx,Ob] at h
  simp only [N9,Ov] at h
  obtain ⟨h1,h2,h3,h4⟩:=h
  have e1:=hq.nk h1 h3
  rw [e1]
  simp only [List.all_nil,Bool.and_true,Oc,N9,Ov,OP,OQ,Pb] at h4 ⊢
  refine fun id hid=>⟨fun hc=> ?_,by simp⟩
  obtain ⟨b,hb,eb⟩:=hq.acc h1 h2 _ hc
  exact (hr.ex b (h4 b hb)).2 id hid eb
 |false=>
  rw [hx,Ot] at h
  cases hy:y.all with
  |true=>
   rw [hy,Ob,N9,N9,Ov] at h
   obtain ⟨h2,h3,h4⟩:=h
   have e1:=hr.nk hx h3
   rw [e1]
   simp only [List.all_nil,Bool.true_and,Oc,Ov,OP,OQ,Pb] at h4 ⊢
   refine fun id hid hc=> ?_
   obtain ⟨b,hb,eb⟩:=hr.acc hx h2 _ hc
   exact (hq.ex b (h4 b hb)).2 id hid eb
  |false=>
   rw [hy,Ot,N9] at h
   obtain ⟨CJ,h⟩:=h
   rw [N9,OA,OA,Ov,Ov] at CJ
   obtain ⟨pk,pn⟩:=CJ
   simp only [N9,Oc,Ov,OP,OQ] at h ⊢
   obtain ⟨h1,h2⟩:=h
   refine ⟨fun id hid=> ?_,fun id hid=> ?_⟩
   ·obtain ⟨a,ha,ea⟩:=hr.keys hx _ hid
    refine ⟨fun hc=> ?_,fun hc=> ?_⟩
    ·rcases pn with pn|pn
     case inr=>rw [OZ] at pn;rw [pn] at ha;simp at ha
     obtain ⟨b,hb,eb⟩:=hq.acc hy pn _ hc
     have:=ea.eq inj (hr.kl a ha) (hq.al b hb) eb
     subst this;exact (h1 a ha).1 hb
    ·obtain ⟨b,hb,eb⟩:=hq.keys hy _ hc
     have:=ea.eq inj (hr.kl a ha) (hq.kl b hb) eb
     subst this;exact (h1 a ha).2 hb
   ·obtain ⟨a,ha,ea⟩:=hq.keys hy _ hid
    intro hc
    rcases pk with pk|pk
    case inr=>rw [OZ] at pk;rw [pk] at ha;simp at ha
    obtain ⟨b,hb,eb⟩:=hr.acc hx pk _ hc
    have:=ea.eq inj (hq.kl a ha) (hr.al b hb) eb
    subst this;exact h2 a ha hb
inductive gK (N:aC) (Q:Nat->Prop) (nx:Nat):List Rec->List (Option Nat)->List NR->Prop
 |nil:gK N Q nx [] [] []
 |cons {r:Rec} {c:Option Nat} {x:NR} {rs:List Rec} {hs:List (Option Nat)} {xs:List NR} (h:jf N Q nx r x) (hc:x.all=false->c=none) (t:gK N Q nx rs hs xs):gK N Q nx (r::rs) (c::hs) (x::xs)
theorem gK.step {N N':aC} {Q:Nat->Prop} {nx nx':Nat} {rs:List Rec} {hs:List (Option Nat)} {xs:List NR} (h:gK N Q nx rs hs xs) (hN:N.agree nx N') (hx:nx<=nx'):gK N' Q nx' rs hs xs:=by
 induction h with
 |nil=>exact .nil
 |cons h hc _ ih=>exact .cons (h.step hN hx) hc ih
theorem gK.snoc {nx:Nat} {xs:List NR} (h:gK N Q nx rs hs xs) {c:Option Nat} {x:NR} (hr:jf N Q nx r x) (hc:x.all=false->c=none):gK N Q nx (rs++[r]) (hs++[c]) (xs++[x]):=by
 induction h with
 |nil=>exact .cons hr hc .nil
 |cons h hc _ ih=>exact .cons h hc ih
theorem gK.len {nx:Nat} {xs:List NR} (h:gK N Q nx rs hs xs):rs.length=xs.length:=by
 induction h with
 |nil=>rfl
 |cons _ _ _ ih=>simp [ih]
theorem gK.get {nx:Nat} {xs:List NR} (h:gK N Q nx rs hs xs):∀(i:Nat) x,xs[i]? =some x->∃r c,rs[i]? =some r/\hs[i]? =some c/\jf N Q nx r x/\(x.all=false->c=none):=by
 induction h with
 |nil=>intro i x hx;simp at hx
 |cons h hc _ ih=>
  intro i x hx
  cases i with
  |zero=>simp only [OI,N6] at hx;subst hx;exact ⟨_,_,rfl,rfl,h,hc⟩
  |succ i=>exact ih i x (by simpa using hx)
theorem CK {nx:Nat} (inj:∀a b,a<nx->b<nx->N.ι a=N.ι b->a=b) {xs:List NR} (h:gK N Q nx rs hs xs) (hlt:∀(i j:Nat) ri rj,i<j->rs[i]? =some ri->rs[j]? =some rj->∀id,id∈ri.keys->id<rj.fr) (kY:∀(i:Nat) x,xs[i]? =some x->x.nw=true->i=jn) (hd:idsN xs dep=true):dX rs dep=true/\iV jn rs hs dep=true:=by
 unfold idsN at hd
 unfold dX iV
 simp only [Oc,OL,OA] at hd ⊢
 refine ⟨fun j hj i hi=> ?_,fun j hj i hi=> ?_⟩
 ·rcases hd j (by rw [<-h.len];exact hj) i hi with h1|h1
  ·exact .inl h1
  ·right
   split at h1
   ·rename_i x y hx hy
    obtain ⟨r,_,hr,_,oW,_⟩:=h.get i x hx
    obtain ⟨q,_,hq,_,nZ,_⟩:=h.get j y hy
    rw [hr,hq]
    rw [OA] at h1
    rcases h1 with h1|h1
    ·exact KJ inj oW nZ h1
    ·unfold yl at h1
     simp only [N9,Ov] at h1
     obtain ⟨n1,n2,n3,n4,n5⟩:=h1
     have e1:=oW.ca n1.1 n1.2
     have e2:q.acc=[]:=by
      rw [OZ] at n3
      refine List.eq_nil_iff_forall_not_mem.2 fun id hid=> ?_
      obtain ⟨nm,fA,_⟩:=nZ.acc (nZ.nw n2).1 n4 id hid
      rw [n3] at fA;simp at fA
     show fp r q=true
     unfold fp
     rw [e1,e2]
     simp only [List.contains_nil,Bool.not_false,Bool.and_true,Bool.true_and,N9,Oc,Ov,OP,OQ]
     refine ⟨fun id hid=>⟨by simp,fun hc=> ?_⟩,by simp⟩
     have b1:=hlt i j r q hi hr hq id hid
     have b2:=(nZ.nw n2).2 id hc
     omega
   ·simp at h1
 ·rcases hd j (by rw [<-h.len];exact hj) i hi with h1|h1
  ·exact .inl h1
  ·right
   split at h1
   ·rename_i x y hx hy
    obtain ⟨r,c,hr,hc,oW,bF⟩:=h.get i x hx
    obtain ⟨q,e,hq,he,nZ,ym⟩:=h.get j y hy
    rw [hr,hq]
    have emp:∀{r:Rec},r.keys=[]->r.ups.isEmpty=true:=fun {r} hk=>by
     unfold Rec.keys at hk
     rw [List.map_eq_nil_iff] at hk
     rw [hk];rfl
    rw [OA] at h1
    rcases h1 with h1|h1
    case inr=>
     unfold yl at h1
     simp only [N9,Ov] at h1
     obtain ⟨n1,n2,n3,n4,n5⟩:=h1
     have ce:=ym (nZ.nw n2).1
     subst ce
     have jx:ct hs j=false:=by unfold ct;rw [he]
     have ej:=kY j y hy n2
     have eb:Nat.beq j jn=true:=by rw [ej];exact Nat.beq_refl _
     simp only [jx,eb,n5];simp
    unfold uu at h1
    cases hxa:x.all with
    |true=>
     rw [hxa,Ob] at h1
     simp only [N9,Ov] at h1
     have ce:=ym h1.1
     subst ce
     have k1:=nZ.nk h1.1 h1.2.2.1
     have:ct hs j=false:=by unfold ct;rw [he]
     simp only [this,emp k1];simp
    |false=>
     rw [hxa,Ot] at h1
     have cc:=bF hxa
     subst cc
     have hi:ct hs i=false:=by unfold ct;rw [hc]
     cases hya:y.all with
     |true=>
      rw [hya,Ob,N9,N9] at h1
      have k1:=oW.nk hxa h1.2.1
      simp only [hi,emp k1];simp
     |false=>
      have ce:=ym hya
      subst ce
      have jx:ct hs j=false:=by unfold ct;rw [he]
      simp only [hi,jx];simp
   ·simp at h1
theorem uv (h:Nat->Option Bk):∀(l:List Nat) (g:Nat->Option Bk) (id:Nat),aA g (l.map fun i=>(i,h i)) id=if id∈l then h id else g id
 |[],g,id=>by simp [aA]
 |a::r,g,id=>by
  rw [Om,aA,uv h r]
  by_cases h1:id∈r<;>by_cases h2:id=a<;>simp [h1,h2]
theorem yn (g h:Nat->Option Bk) (K id:Nat):aA g ((List.range K).map fun i=>(i,h i)) id=if id<K then h id else g id:=by
 rw [uv];simp only [OL]
theorem CL {P:Program} {f:FuncId} {as_:List AV} {g1:Nat->Option Bk} {r:AV} (h:Fi P f as_ g k r g1 k1):Fi P f as_ g k r (aA g ((List.range (max k k1)).map fun i=>(i,g1 i))) (max k k1):=by
 intro E J base vs hG hm aX bF
 refine (h E J base vs hG hm aX bF).mono ?_
 rintro e w' ⟨v,E',he,hw,hle,hr,hM,hb,hk⟩
 refine ⟨v,E',he,hw,hle,hr, ?_,hb,fun id hid=>by have:=hk id hid;omega⟩
 have:aA g ((List.range (max k k1)).map fun i=>(i,g1 i))=g1:=by
  funext id
  rw [yn]
  by_cases hi:id<max k k1
  ·rw [N8 hi]
  ·rw [N7 hi]
   have e1:g id=none:=by
    cases hq:g id with
    |none=>rfl
    |some B=>exact absurd (aX id ((hm.live id).2 ⟨B,hq⟩).1) (by omega)
   have e2:g1 id=none:=by
    cases hq:g1 id with
    |none=>rfl
    |some B=>exact absurd (hk id ((hM.live id).2 ⟨B,hq⟩).1) (by omega)
   rw [e1,e2]
 rw [this];exact hM
def AO.uns:AO->List Nat
 | .pick c _ _=>c.slot
 |ao=>ao.qq
def SS.set (st:SS τ dn) (d:Option Nat) (v:SV τ dn):SS τ dn:=⟨st.rt,st.rm,ia st.t d v,st.m,st.nx⟩
variable [DecidableEq τ]
def fC (z:Bool):List (Nat×Option (SB τ dn))->List (Nat×Option (SB τ dn))
 |[]=>[]
 |e::r=>bif Bool.xor (Nat.beq e.1 0) z then fC z r else e::fC z r
theorem CM {z:Bool}:∀{m:List (Nat×Option (SB τ dn))} {nm:Nat},getS (fC z m) nm=if Bool.xor (Nat.beq nm 0) z=true then none else getS m nm
 |[],nm=>by simp [fC,getS]
 |e::r,nm=>by
  have ih:=CM (z:=z) (m:=r) (nm:=nm)
  unfold fC
  cases hb:Bool.xor (Nat.beq e.1 0) z with
  |true=>
   rw [Ob,ih,show (e::r)=((e.1,e.2)::r) from rfl,ba]
   by_cases q:nm=e.1
   ·rw [q,N8 hb,N8 hb]
   ·rw [N7 q]
  |false=>
   rw [Ot,show (e::fC z r)=((e.1,e.2)::fC z r) from rfl,ba,ih,show (e::r)=((e.1,e.2)::r) from rfl,ba]
   by_cases q:nm=e.1
   ·rw [q,N8 rfl,N8 rfl,hb];simp
   ·rw [N7 q,N7 q]
theorem n0 {α:Type}:∀{a b:List (Nat×α)} {i:Nat},getS (a++b) i=(match getS a i with|some v=>some v|none=>getS b i)
 |[],b,i=>by simp [getS]
 |e::r,b,i=>by
  have ih:=n0 (a:=r) (b:=b) (i:=i)
  rw [Ps,show (e::(r++b))=((e.1,e.2)::(r++b)) from rfl,ba,show (e::r)=((e.1,e.2)::r) from rfl,ba,ih]
  by_cases q:i=e.1
  ·rw [N8 q,N8 q]
  ·rw [N7 q,N7 q]
def SS.hid (st:SS τ dn):SS τ dn:=⟨st.rt,fC false st.m++st.rm,st.t,fC true st.m,st.nx⟩
def n6 (l:List (Nat×Option (SB τ dn))):List (Nat×Option (SB τ dn))->List Nat
 |[]=>[]
 |e::r=>bif (match getS l e.1 with|some (some _)=>true|_=>false) then e.1::n6 l r else n6 l r
def SS.n7 (st:SS τ dn):List Nat:=n6 st.hid.rm st.hid.rm
def rH (rm:List (Nat×Option (SB τ dn))):List (Nat×Option (SB τ dn))->Bool
 |[]=>true
 |e::r=>(getS rm e.1).isNone&&rH rm r
def hidB (hd:Bool) (dep:Option (List (List Nat))) (st:SS τ dn) (vs:List (SV τ dn)):Bool:=dep.isSome&&((hd||SV.dM (fun _=>false) vs)&&rH st.rm (fC false st.m))
def KK (C:b0 τ dn):Arg->Bool
 | .c (.fn f _)=>(C.Δ.any fun c=>Nat.beq c.f f)||C.Ω.any fun c=>Nat.beq c.f f
 |_=>false
def KL (C:b0 τ dn) (dep:Option (List (List Nat))) (os:List az):Bool:=dep.isNone||(os.any fun o=>match o.ao with
 | .call x _=> !KK C x
 | .app _ b _ _=>Nat.beq b 24
 |_=>false)||((os.any fun o=>match o.ao with
 | .call (.c (.fn f _)) _=>C.Ω.any fun c=>Nat.beq c.f f
 | .load (some _) _=>true
 | .msl _ b _ _ _=>Nat.beq b 24
 |_=>false)&&os.any fun o=>match o.ao with
 | .store _ _ _=>true
 |_=>false)
def SS.uw (st:SS τ dn):Bool:=match st.gm 0 with
 |some (.ar _ _)=>true
 |_=>false
def dc (B:Bool) (st:SS τ dn) (keys acc:List Nat) (nb:Bool:=false):NR:=⟨keys,acc,B&&(st.uw&&keys.any (Nat.beq 0)),B&&(st.uw&&acc.any (Nat.beq 0)),[],nb⟩
def po (o:az) (r:SR τ dn) (rs:List NR):Bool:=(match r with| .new _ _ _=>true|_=>false)&&(hP o&&(!(rs.any fun x=>x.nw)))
def SS.fY (st:SS τ dn) (i:Nat) (v:SV τ dn):SS τ dn:=⟨st.rt,st.rm,(i,v)::st.t,st.m,st.nx⟩
def yp (i:Option Nat) (st:SS τ dn) (K:SS τ dn->Prop):Prop:=match i with
 |none=>K st
 |some i=>match st.gt i with
  |some (.vb c)=>(c.tf true->K (st.fY i (.vt true)))/\(c.tf false->K (st.fY i (.vt false)))
  |_=>K st
theorem Rel.fY {D:TD τ dn} {N:aC} {st:SS τ dn} {s:S3} (R:Rel D N st s) {i:Nat} {c:Cn} (h:st.gt i=some (.vb c)) {b:Bool} (hb:c.den=b):Rel D N (st.fY i (.vt b)) s:=by
 refine ⟨fun N' hN=> ?_,R.inj,R.lt,R.ml,R.rl,R.sp⟩
 have A:=R.at_ N' hN
 refine ⟨fun j v hv=> ?_,A.rs,A.bl,A.rb,A.ar⟩
 simp only [SS.fY,ba] at hv
 split at hv
 ·rename_i e
  simp only [N6] at hv
  subst hv;subst e
  rw [A.gt h]
  simp only [SV.av,hb]
 ·exact A.sl j v hv
theorem KM {D:TD τ dn} {i:Option Nat} {st:SS τ dn} {K:SS τ dn->Prop} (R:Rel D N st s) (h:yp i st K):∃aw,Rel D N aw s/\aw.rt=st.rt/\aw.rm=st.rm/\aw.nx=st.nx/\K aw:=by
 unfold yp at h
 split at h
 ·exact ⟨st,R,rfl,rfl,rfl,h⟩
 ·split at h
  ·rename_i j c hc
   cases hd:c.den with
   |true=>exact ⟨_,R.fY hc hd,rfl,rfl,rfl,h.1 ((Cn.iY c true).2 hd)⟩
   |false=>exact ⟨_,R.fY hc hd,rfl,rfl,rfl,h.2 ((Cn.iY c false).2 hd)⟩
  ·exact ⟨st,R,rfl,rfl,rfl,h⟩
def pq (C:b0 τ dn) (st:SS τ dn) (o:az):Option Nat:=match o.guard with
 |some (i,_)=>match st.gt i with
  |some (.vb _)=>match o.ao with
   | .call _ _=>match jQ C (st.unw o.ao.uns) o.ao with
    |some _=>none
    |none=>some i
   |_=>none
  |_=>none
 |none=>none
def pr (C:b0 τ dn) (st:SS τ dn) (o:az) (os:List az) (K:SS τ dn->Prop):Prop:=match pq C st o with
 |none=>K st
 |some i=>match o.guard with
  |some (_,w)=>match st.gt i with
   |some (.vb c)=>((c.pol w).tf true->fB (jb (st.fY i (.vt w)) (c.pol w) ((o::os).flatMap fun o=>o.ao.uns)) (K ((st.fY i (.vt w)).unw ((o::os).flatMap fun o=>o.ao.uns))))/\((c.pol w).tf false->K (st.fY i (.vt !w)))
   |_=>K st
  |none=>K st
theorem yq {C:b0 τ dn} {st:SS τ dn} (h:(∀e,st.gd o.guard≠ .lC e)\/∃r,jQ C (st.unw o.ao.uns) o.ao=some r):pq C st o=none:=by
 unfold pq
 split
 ·rename_i i w hg
  split
  ·rename_i c hc
   split
   ·rename_i x args cC
    split
    ·rfl
    ·rename_i hn
     rcases h with h|⟨r,h⟩
     ·exact absurd (by rw [hg];simp only [SS.gd,hc]) (h (c.pol w))
     ·rw [h] at hn;cases hn
   ·rfl
  ·rfl
 ·rfl
def wpOps (C:b0 τ dn) (n:Nat) (dep:Option (List (List Nat))) (B:Bool):List az->List NR->SS τ dn->(SS τ dn->Prop)->Prop
 |[],rs,st,K=>match dep with
  |none=>K st
  |some d=>bif idsN rs d then K st else False
 |o::os,rs,st,K=>kx C.D (bif B then needs C.D st o.ao else []) st fun st=>pr C st o os fun st=>bif dstS n st.rt o.dst then (match st.gd o.guard with
  | .yes=>match jQ C st o.ao with
   |some (r,ns)=>fB r.O (wpOps C n dep B os (rs++[dc B st (r.keys st) ns (po o r rs&& !(dc B st (r.keys st) ns).all)]) (r.st st o.dst) K)
   |none=>match o.ao with
    | .call x args=>match ph st x args with
     |some (f,vs)=>bif B then (bif hidB C.hd dep st vs then C.J f vs st.hid fun v st1=>wpOps C n dep B os (rs++[⟨[],[],true,false,st.n7,false⟩]) ⟨st.rt,st.rm,ia st.t o.dst v,st1.m++fC false st.m,st1.nx⟩ K else C.J f vs st fun v st1=>wpOps C n dep B os (rs++[⟨[],[],true,false,[],false⟩]) ⟨st.rt,st.rm,ia st.t o.dst v,st1.m,st1.nx⟩ K) else False
     |none=>False
    |_=>False
  | .no=>wpOps C n dep B os (rs++[⟨[],[],false,false,[],false⟩]) (st.set o.dst (.vo undef)) K
  | .lC e=>match jQ C (st.unw o.ao.uns) o.ao with
   |some (.val O v,ns)=>fB (jb st e o.ao.uns++O.map fun p=>e.tf true->p) (wpOps C n dep B os (rs++[dc B st [] ns]) (st.set o.dst (.vg true e v)) K)
   |_=>False
  | .bad=>False) else False
structure eI (B:Bool) (Q:Nat->Prop) (N:aC) (st:SS τ dn) (s:S3):Prop where
 q0:B=true->∀id,¬Q id
 qa:∀nm X,(getS st.m nm=some (some X)\/getS st.rm nm=some (some X))->¬Q (N.ι nm)
 qb:B=false->∀id,gJ st id->Q id
 qk:∀id,Q id->id<s.k
theorem eI.rI {st:SS τ dn} (h:∀id,¬Q id):eI true Q N st s:=⟨fun _=>h,fun _ _ _=>h _,fun hh=>by simp at hh,fun id hid=>absurd hid (h id)⟩
theorem CN {C:b0 τ dn} {B:Bool} {st:SS τ dn} {K:SS τ dn->Prop} (R:Rel C.D N st s) (M:eI B Q N st s) (h:pr C st o os K):∃aw,Rel C.D N aw s/\eI B Q N aw s/\aw.rt=st.rt/\aw.rm=st.rm/\aw.nx=st.nx/\K aw:=by
 unfold pr at h
 split at h
 ·exact ⟨st,R,M,rfl,rfl,rfl,h⟩
 ·rename_i i _
  split at h
  ·rename_i _ w _
   split at h
   ·rename_i c hc
    cases hd:(c.pol w).den with
    |true=>
     have hcd:c.den=w:=by cases w<;>simpa [Cn.pol,Cn.den] using hd
     have R1:=R.fY hc hcd
     have h1:=(jN.1 (h.1 ((Cn.iY _ true).2 hd)))
     exact ⟨(st.fY i (.vt w)).unw ((o::os).flatMap fun o=>o.ao.uns),⟨fun N' hN=>Cm (R1.at_ N' hN) hd h1.1,R1.inj,R1.lt,R1.ml,R1.rl,R1.sp⟩,⟨M.q0,M.qa,M.qb,M.qk⟩,rfl,rfl,rfl,h1.2⟩
    |false=>
     have hcd:c.den= !w:=by cases w<;>simpa [Cn.pol,Cn.den] using hd
     exact ⟨_,R.fY hc hcd,⟨M.q0,M.qa,M.qb,M.qk⟩,rfl,rfl,rfl,h.2 ((Cn.iY _ false).2 hd)⟩
   ·exact ⟨st,R,M,rfl,rfl,rfl,h⟩
  ·exact ⟨st,R,M,rfl,rfl,rfl,h⟩
theorem SR.KN {D:TD τ dn} {st:SS τ dn} {r:SR τ dn} (hm:r.may D N st) {X:SB τ dn} (h:getS (r.st st d).m nm=some (some X)\/getS (r.st st d).rm nm=some (some X)):(nm=st.nx/\r.nx st=st.nx+1)\/∃X',getS st.m nm=some (some X')\/getS st.rm nm=some (some X'):=by
 have ux:(r.st st d).rm=st.rm:=by cases r<;>rfl
 rw [ux] at h
 rcases h with h|h
 case inr=>exact .inr ⟨X, .inr h⟩
 cases r with
 |val O v=>exact .inr ⟨X, .inl h⟩
 |new O v B=>
  simp only [SR.st,ba] at h
  by_cases hn:nm=st.nx
  ·exact .inl ⟨hn,rfl⟩
  ·rw [N7 hn] at h;exact .inr ⟨X, .inl h⟩
 |put O v dJ B=>
  simp only [SR.st,ba] at h
  by_cases hn:nm=dJ
  ·subst hn;obtain ⟨⟨B0,cj,_⟩,_⟩:=hm;exact .inr ⟨B0, .inl cj⟩
  ·rw [N7 hn] at h;exact .inr ⟨X, .inl h⟩
 |mov O v old B=>
  simp only [SR.st,ba] at h
  by_cases hn:nm=st.nx
  ·exact .inl ⟨hn,rfl⟩
  ·rw [N7 hn] at h
   by_cases ho:nm=old
   ·rw [N8 ho] at h;simp at h
   ·rw [N7 ho] at h;exact .inr ⟨X, .inl h⟩
 |fS O v ns=>
  rcases rC h with ⟨_,h2⟩|⟨_,h2⟩
  ·simp at h2
  ·exact .inr ⟨X, .inl h2⟩
 |ew O v id t row A=>
  simp only [SR.st,ba] at h
  by_cases hn:nm=0
  ·subst hn;exact .inr ⟨_, .inl hm.1⟩
  ·rw [N7 hn] at h;exact .inr ⟨X, .inl h⟩
theorem SR.KO {D:TD τ dn} {st:SS τ dn} {r:SR τ dn} (hm:r.may D N st) {id:Nat} (h:gJ (r.st st d) id):gJ st id:=by
 obtain ⟨t,A,h,hid⟩:=h
 have bL:∀{x:SS τ dn} {dJ:Nat} {B:Option (SB τ dn)} {t':List (Nat×SV τ dn)} {m:List (Nat×Option (SB τ dn))} {nx:Nat},(⟨st.rt,st.rm,t',(dJ,B)::m,nx⟩:SS τ dn).gm 0=some (.ar t A)->(∀b,B=some b->b.iF=false)->(⟨st.rt,st.rm,st.t,m,st.nx⟩:SS τ dn).gm 0=some (.ar t A):=fun {x dJ B t' m nx} h hB=>by
  rw [Ce (rt':=st.rt) (t':=st.t) (nx':=st.nx)] at h
  by_cases h0:0=dJ
  ·rw [N8 h0] at h;have:=hB _ h;simp [SB.iF] at this
  ·rw [N7 h0] at h;exact h
 cases r with
 |val O v=>exact ⟨t,A,h,hid⟩
 |new O v B=>exact ⟨t,A,bL (x:=st) h (fun b hb=>by simp only [N6] at hb;subst hb;exact hm),hid⟩
 |put O v dJ B=>exact ⟨t,A,bL (x:=st) h (fun b hb=>by simp only [N6] at hb;subst hb;exact hm.2.2),hid⟩
 |mov O v old B=>
  have h1:=bL (x:=st) h (fun b hb=>by simp only [N6] at hb;subst hb;exact hm.2.2)
  exact ⟨t,A,bL (x:=st) h1 (fun b hb=>by simp at hb),hid⟩
 |fS O v ns=>
  refine ⟨t,A, ?_,hid⟩
  have hh:∀(l:List Nat),(⟨st.rt,st.rm,st.t,(l.map fun a=>(a,(none:Option (SB τ dn))))++st.m,st.nx⟩:SS τ dn).gm 0=some (.ar t A)->st.gm 0=some (.ar t A):=by
   intro l
   induction l with
   |nil=>exact fun h=>h
   |cons a l ih=>
    intro h
    rw [Om,Ps] at h
    exact ih (bL (x:=st) h (fun b hb=>by simp at hb))
  exact hh ns h
 |ew O v lB t0 row A0=>
  simp only [SR.st] at h
  rw [Ce (rt':=st.rt) (t':=st.t) (nx':=st.nx),N8 rfl,N6] at h
  simp only [SB.ar.injEq] at h
  obtain ⟨rfl,h⟩:=h
  have h:=eq_of_heq h
  subst h
  refine ⟨t0,A0,mC hm.1, ?_⟩
  rcases qQ.1 hid with hh|hh
  ·subst hh;exact hm.2.2
  ·exact hh
theorem pv {st:SS τ dn} (h:st.live nm=true):nm<st.nx/\∃X,getS st.m nm=some (some X)\/getS st.rm nm=some (some X):=by
 unfold SS.live at h
 rw [N9] at h
 obtain ⟨B,hB⟩:=P2.1 h.2
 exact ⟨ON h.1,B,gG hB⟩
theorem CO {st:SS τ dn} {id:Nat} (h:gJ st id):st.uw=true:=by
 obtain ⟨t,A,h,_⟩:=h
 unfold SS.uw;rw [h]
theorem CP (h:0∈l):l.any (Nat.beq 0)=true:=PU.2 ⟨0,h,rfl⟩
theorem CQ {B:Bool} {st:SS τ dn} {s:S3} (M:eI B Q N st s) {keys acc:List Nat} (ha:(dc B st keys acc).ra=false) {id:Nat} (hn:nm∈acc) (hl:st.live nm=true) (h:id=N.ι nm\/(nm=0/\gJ st id)):je N Q nm id:=by
 rcases h with h|⟨rfl,h⟩
 ·obtain ⟨_,X,hX⟩:=pv hl
  exact .inl ⟨h,by rw [h];exact M.qa nm X hX⟩
 ·cases B with
  |false=>exact .inr ⟨rfl,M.qb rfl id h⟩
  |true=>
   simp only [dc,CO h,CP hn,Bool.and_true] at ha
   simp at ha
theorem yr {l:List (Nat×Option (SB τ dn))}:∀{m:List (Nat×Option (SB τ dn))} {nm:Nat},nm∈n6 l m->∃B,getS l nm=some (some B)
 |[],nm,h=>by simp [n6] at h
 |e::r,nm,h=>by
  have go:nm∈n6 l r->∃B,getS l nm=some (some B):=yr
  unfold n6 at h
  cases hb:(match getS l e.1 with|some (some _)=>true|_=>false) with
  |false=>rw [hb,Ot] at h;exact go h
  |true=>
   rw [hb,Ob] at h
   rcases Oj.1 h with rfl|h
   ·split at hb
    ·rename_i B hB;exact ⟨B,hB⟩
    ·cases hb
   ·exact go h
theorem CR {rm:List (Nat×Option (SB τ dn))}:∀{m:List (Nat×Option (SB τ dn))} {nm:Nat} {v:Option (SB τ dn)},rH rm m=true->getS m nm=some v->getS rm nm=none
 |[],nm,v,_,h=>by simp [getS] at h
 |e::r,nm,v,hd,h=>by
  unfold rH at hd
  rw [N9] at hd
  rw [show (e::r)=((e.1,e.2)::r) from rfl,ba] at h
  by_cases q:nm=e.1
  ·rw [q];exact Option.isNone_iff_eq_none.1 hd.1
  ·rw [N7 q] at h;exact CR hd.2 h
theorem pw {z:Bool} {m:List (Nat×Option (SB τ dn))} {v:Option (SB τ dn)} (h:getS (fC z m) nm=some v):getS m nm=some v/\Bool.xor (Nat.beq nm 0) z=false:=by
 rw [CM] at h
 split at h
 ·cases h
 ·rename_i q;exact ⟨h,by simpa using q⟩
theorem KP {C:b0 τ dn} (hC:C.Ok) {dep:Option (List (List Nat))} {xs:List NR} {st:SS τ dn} {K:SS τ dn->Prop} (R:Rel C.D N st s) (M:eI true Q N st s)
  (g1:st.gd o.guard= .yes->bO s.σ o.guard=some true) (cq:st.gd o.guard= .yes) {x:Arg} (cC:o.ao= .call x args) (hd:dstS n st.rt o.dst=true) {f:FuncId} {vs:List (SV τ dn)} (er:ph st x args=some (f,vs)) (gr:∀N',N.agree st.nx N'->vs.map (SV.av C.D.toTE N')=vs.map (SV.av C.D.toTE N)) (hh:hidB C.hd dep st vs=true)
  (h:C.J f vs st.hid fun v st1=>wpOps C n dep true os (xs++[⟨[],[],true,false,st.n7,false⟩]) ⟨st.rt,st.rm,ia st.t o.dst v,st1.m++fC false st.m,st1.nx⟩ K):
  (∃val ups acc x cR N',dk C.P s.σ s.g s.k o val ups acc/\wpOps C n dep true os (xs++[x]) cR K/\N.agree st.nx N'/\st.nx<=cR.nx/\jf N' Q cR.nx ⟨o.dst,val,ups,acc,s.k⟩ x/\(x.nw=true->hP o=true/\(xs.any fun x=>x.nw)=false)/\(cR.rt=st.rt/\cR.rm=st.rm)/\∃k1,s.k<=k1/\(∀id,id∈ups.map Prod.fst->id<k1)/\Rel C.D N' cR ⟨bD n o.dst val s.σ,aA s.g ups,k1⟩/\eI true Q N' cR ⟨bD n o.dst val s.σ,aA s.g ups,k1⟩)\/
  ∃f as_ r ups k1 cR N',bO s.σ o.guard=some true/\o.ao.allocs=false/\(o.ao.au s.k (aG s.σ)).run s.g=some (.call f as_)/\bH C.P f=true/\Fi C.P f as_ s.g s.k r (aA s.g ups) k1/\(s.k<=k1/\∀id,id∈ups.map Prod.fst->id<k1)/\(∃ex,(∀nm,nm∈ex->nm<cR.nx/\∀id,id∈ups.map Prod.fst->¬je N' Q nm id)/\wpOps C n dep true os (xs++[⟨[],[],true,false,ex,false⟩]) cR K)/\N.agree st.nx N'/\st.nx<=cR.nx/\(cR.rt=st.rt/\cR.rm=st.rm)/\Rel C.D N' cR ⟨bD n o.dst r s.σ,aA s.g ups,k1⟩/\eI true Q N' cR ⟨bD n o.dst r s.σ,aA s.g ups,k1⟩:=by
 have pU:rH st.rm (fC false st.m)=true:=by
  unfold hidB at hh
  rw [N9,N9] at hh
  exact hh.2.2
 have cM:∀nm B,st.hid.bw nm B->st.bw nm B:=fun nm B hB=>by
  rcases hB with hB|hB
  ·exact .inl (pw hB).1
  ·simp only [SS.hid,n0] at hB
   split at hB
   ·rename_i v hv
    rw [hB] at hv
    exact .inl (pw hv).1
   ·exact .inr hB
 have gR:∀nm v,getS st.hid.rm nm=some v->getS st.m nm=some v\/getS st.rm nm=some v:=fun nm v hv=>by
  simp only [SS.hid,n0] at hv
  split at hv
  ·rename_i w hw
   rw [hv] at hw
   exact .inl (pw hw).1
  ·exact .inr hv
 have Rh:Rel C.D N st.hid s:=by
  refine ⟨fun N' hN=> ?_,R.inj,R.lt,fun nm B hB=>R.ml nm B (pw hB).1,fun nm B hB=> ?_,fun t A h id hid=> ?_⟩
  ·have A:=R.at_ N' hN
   refine ⟨A.sl,A.rs,fun nm B hB=>A.bl nm B (pw hB).1,fun nm B hB=> ?_,fun t X hX id hid=>A.ar t X (cM 0 _ hX) id hid⟩
   rcases gR nm _ hB with q|q
   ·exact A.bl nm B q
   ·exact A.rb nm B q
  ·rcases gR nm _ hB with q|q
   ·exact R.ml nm B q
   ·exact R.rl nm B q
  ·obtain ⟨q1,q2⟩:=R.sp t A (cM 0 _ h) id hid
   exact ⟨q1,fun nm B hB=>q2 nm B (cM nm B hB)⟩
 have j3:=pj R.here er s.k
 obtain ⟨h1,lL,k1,N',v,st1,h2,h3,h4,h5,h6,h7⟩:=hC.inl Rh gr h
 have yu:∀id,id<k1->aA s.g ((List.range (max s.k k1)).map fun i=>(i,lL i)) id=lL id:=fun id hid=>by rw [yn,N8 (by omega)]
 have hu:aA s.g (((List.range (max s.k k1)).filter fun i=> !(st.n7.map N'.ι).contains i).map fun i=>(i,lL i))=aA s.g ((List.range (max s.k k1)).map fun i=>(i,lL i)):=by
  funext id
  rw [uv,uv]
  simp only [List.mem_filter]
  by_cases q1:id∈List.range (max s.k k1)
  ·by_cases q2:(st.n7.map N'.ι).contains id=true
   ·rw [N7 (by rw [q2];simp),N8 q1]
    obtain ⟨nm,hn,rfl⟩:=OE.1 (Pm.1 q2)
    obtain ⟨B,hB⟩:=yr hn
    exact ((Rh.at_ N' h4).rb nm B hB).1.trans (h6.here.rb nm B hB).1.symm
   ·rw [N8 ⟨q1,by simpa using q2⟩,N8 q1]
  ·rw [N7 (fun q=>q1 q.1),N7 q1]
 have rJ:∀nm B,(getS (st1.m++fC false st.m) nm=some (some B)\/getS st.rm nm=some (some B))->(getS st1.m nm=some (some B)\/getS st.hid.rm nm=some (some B)):=fun nm B hB=>by
  rcases hB with hB|hB
  ·rw [n0] at hB
   split at hB
   ·rename_i w hw
    rw [hB] at hw;exact .inl hw
   ·exact .inr (by simp only [SS.hid,n0,hB])
  ·right
   simp only [SS.hid,n0]
   split
   ·rename_i w hw
    rw [CR pU hw] at hB;cases hB
   ·exact hB
 refine .inr ⟨f,_,_,_,max s.k k1,_,N',g1 cq,by rw [cC];rfl,by rw [cC];exact j3,h1,by rw [hu];exact CL h2,⟨Nat.le_max_left _ _,fun id hid=> ?_⟩,⟨st.n7,fun nm hn=> ?_,h7⟩,h4,h5,⟨rfl,rfl⟩, ?_,eI.rI (M.q0 rfl)⟩
 ·rw [PL] at hid
  obtain ⟨i,hi,rfl⟩:=OE.1 hid
  exact OL.1 (List.mem_filter.1 hi).1
 ·obtain ⟨B,hB⟩:=yr hn
  refine ⟨h6.rl nm _ hB,fun id hid hq=> ?_⟩
  rcases hq with ⟨hq,_⟩|⟨_,hq⟩
  ·rw [PL] at hid
   obtain ⟨i,hi,rfl⟩:=OE.1 hid
   have m8:=(List.mem_filter.1 hi).2
   simp only [Function.comp_apply] at hq
   subst hq
   have hq:(st.n7.map N'.ι).contains (N'.ι nm)=true:=Pm.2 (List.mem_map_of_mem hn)
   rw [hq] at m8
   simp at m8
  ·exact M.q0 rfl id hq
 ·rw [hu]
  refine ⟨fun bT hN=> ?_,h6.inj,fun a ha=>Oz (h6.lt a ha) (Nat.le_max_right _ _),fun nm B hB=> ?_,fun nm B hB=> ?_,fun t A hg id hid=> ?_⟩
  ·have A:=h6.at_ bT hN
   have A0:=R.at_ bT (aC.eH h4 hN h5)
   obtain ⟨q1,q2⟩:=mB (D:=C.D) (n:=n) (v:=v) (a:=v.av C.D.toTE N') hd A0.sl A0.rs (h3 bT hN).symm
   have hlt:∀nm,nm<st1.nx->bT.ι nm<k1:=fun nm hn=>by rw [(hN.1 nm hn).1];exact h6.lt nm hn
   have hb:∀nm B,(getS (st1.m++fC false st.m) nm=some (some B)\/getS st.rm nm=some (some B))->aA s.g ((List.range (max s.k k1)).map fun i=>(i,lL i)) (bT.ι nm)=some (B.av C.D.toTE bT)/\bT.ln nm=B.len:=fun nm B hB=>by
    rcases rJ nm B hB with hB|hB
    ·exact ⟨(yu _ (hlt nm (h6.ml nm _ hB))).trans (A.bl nm B hB).1,(A.bl nm B hB).2⟩
    ·exact ⟨(yu _ (hlt nm (h6.rl nm _ hB))).trans (A.rb nm B hB).1,(A.rb nm B hB).2⟩
   exact ⟨q1,q2,fun nm B hB=>hb nm B (.inl hB),fun nm B hB=>hb nm B (.inr hB),fun t A' hg id hid=>(yu _ (h6.sp t A' (rJ 0 _ hg) id hid).1).trans (A.ar t A' (rJ 0 _ hg) id hid)⟩
  ·simp only [n0] at hB
   split at hB
   ·rename_i w hw;exact h6.ml nm w hw
   ·exact Oz (R.ml nm B (pw hB).1) h5
  ·exact Oz (R.rl nm B hB) h5
  ·obtain ⟨q1,q2⟩:=h6.sp t A (rJ 0 _ hg) id hid
   exact ⟨Oz q1 (Nat.le_max_right _ _),fun nm B hB=>q2 nm B (rJ nm B hB)⟩
theorem CS {C:b0 τ dn} (hC:C.Ok) {dep:Option (List (List Nat))} {B:Bool} {xs:List NR} {eJ:SS τ dn} {K:SS τ dn->Prop} (R0:Rel C.D N eJ s) (M0:eI B Q N eJ s) (h9:wpOps C n dep B (o::os) xs eJ K):
  (∃val ups acc x cR N',dk C.P s.σ s.g s.k o val ups acc/\wpOps C n dep B os (xs++[x]) cR K/\N.agree eJ.nx N'/\eJ.nx<=cR.nx/\jf N' Q cR.nx ⟨o.dst,val,ups,acc,s.k⟩ x/\(x.nw=true->hP o=true/\(xs.any fun x=>x.nw)=false)/\(cR.rt=eJ.rt/\cR.rm=eJ.rm)/\∃k1,s.k<=k1/\(∀id,id∈ups.map Prod.fst->id<k1)/\Rel C.D N' cR ⟨bD n o.dst val s.σ,aA s.g ups,k1⟩/\eI B Q N' cR ⟨bD n o.dst val s.σ,aA s.g ups,k1⟩)\/
  ∃f as_ r ups k1 cR N',bO s.σ o.guard=some true/\o.ao.allocs=false/\(o.ao.au s.k (aG s.σ)).run s.g=some (.call f as_)/\bH C.P f=true/\Fi C.P f as_ s.g s.k r (aA s.g ups) k1/\(s.k<=k1/\∀id,id∈ups.map Prod.fst->id<k1)/\(∃ex,(∀nm,nm∈ex->nm<cR.nx/\∀id,id∈ups.map Prod.fst->¬je N' Q nm id)/\wpOps C n dep B os (xs++[⟨[],[],true,false,ex,false⟩]) cR K)/\N.agree eJ.nx N'/\eJ.nx<=cR.nx/\(cR.rt=eJ.rt/\cR.rm=eJ.rm)/\Rel C.D N' cR ⟨bD n o.dst r s.σ,aA s.g ups,k1⟩/\eI B Q N' cR ⟨bD n o.dst r s.σ,aA s.g ups,k1⟩:=by
 have h:=h9
 simp only [wpOps] at h
 have h0:∃aV,Rel C.D N aV s/\eI B Q N aV s/\aV.rt=eJ.rt/\aV.rm=eJ.rm/\aV.nx=eJ.nx/\(bif dstS n aV.rt o.dst then (match aV.gd o.guard with
  | .yes=>match jQ C aV o.ao with
   |some (r,ns)=>fB r.O (wpOps C n dep B os (xs++[dc B aV (r.keys aV) ns (po o r xs&& !(dc B aV (r.keys aV) ns).all)]) (r.st aV o.dst) K)
   |none=>match o.ao with
    | .call x args=>match ph aV x args with
     |some (f,vs)=>bif B then (bif hidB C.hd dep aV vs then C.J f vs aV.hid fun v st1=>wpOps C n dep B os (xs++[⟨[],[],true,false,aV.n7,false⟩]) ⟨aV.rt,aV.rm,ia aV.t o.dst v,st1.m++fC false aV.m,st1.nx⟩ K else C.J f vs aV fun v st1=>wpOps C n dep B os (xs++[⟨[],[],true,false,[],false⟩]) ⟨aV.rt,aV.rm,ia aV.t o.dst v,st1.m,st1.nx⟩ K) else False
     |none=>False
    |_=>False
  | .no=>wpOps C n dep B os (xs++[⟨[],[],false,false,[],false⟩]) (aV.set o.dst (.vo undef)) K
  | .lC e=>match jQ C (aV.unw o.ao.uns) o.ao with
   |some (.val O v,ns)=>fB (jb aV e o.ao.uns++O.map fun p=>e.tf true->p) (wpOps C n dep B os (xs++[dc B aV [] ns]) (aV.set o.dst (.vg true e v)) K)
   |_=>False
  | .bad=>False) else False):=by
  cases B with
  |false=>
   simp only [Ot,kx] at h
   exact CN R0 M0 h
  |true=>
   obtain ⟨aV,q1,q2,q3,q4,q5⟩:=uk hC.ok R0 h
   obtain ⟨mG,p1,p2,p3,p4,p5,p6⟩:=CN q1 (eI.rI (M0.q0 rfl)) q5
   exact ⟨mG,p1,p2,p3.trans q2,p4.trans q3,p5.trans q4,p6⟩
 clear h
 obtain ⟨st,R,M,z1,z2,z3,h⟩:=h0
 rw [<-z1, <-z2, <-z3]
 clear z1 z2 z3
 clear R0 M0 h9 eJ
 cases hd:dstS n st.rt o.dst with
 |false=>rw [hd] at h;exact h.elim
 |true=>
  rw [hd,Ob] at h
  obtain ⟨g1,g2,g3⟩:=Ke R.here (x:=o.guard)
  split at h
  ·rename_i cq
   split at h
   ·rename_i r ns hr
    rw [jN] at h
    obtain ⟨hO,h⟩:=h
    obtain ⟨val,ups,acc,e1,e2,e3,e4,e5⟩:=CI hC R.at_ (g1 cq) hr hO
    have eV:=R.go hd e4 (val:=val) (ups:=ups) (fun N' hN=>(e2 N' (by rw [SR.uq] at hN;exact hN)).1) (fun N' hN=>(e2 N' (by rw [SR.uq] at hN;exact hN)).2)
    have dH:N.agree st.nx (r.up N st s.k):=by
     cases r<;>first|exact N.dN _|exact N.lA _ _ _
    have qd:st.nx<=(r.st st o.dst).nx:=by rw [SR.uq];cases r<;>simp [SR.nx]
    have hu:=(e2 _ (aC.dN (r.nx st) (r.up N st s.k))).2
    have jB:s.k<=r.k1 s.k:=by cases r<;>simp [SR.k1]
    have CT:∀nm X,nm<st.nx->(getS st.m nm=some (some X)\/getS st.rm nm=some (some X))->¬Q ((r.up N st s.k).ι nm):=fun nm X hn hX=>by rw [(dH.1 nm hn).1];exact M.qa nm X hX
    have KQ:r.nx st=st.nx+1->¬Q ((r.up N st s.k).ι st.nx):=fun hx hq=>by
     have:=M.qk _ hq
     cases r with
     |new O v B'=>simp only [SR.up,aC.cX,Oa] at this;omega
     |mov O v old B'=>simp only [SR.up,aC.cX,Oa] at this;omega
     |_=>simp [SR.nx] at hx
    have KR:eI B Q (r.up N st s.k) (r.st st o.dst) ⟨bD n o.dst val s.σ,aA s.g ups,r.k1 s.k⟩:=by
     refine ⟨M.q0,fun nm X hX=> ?_,fun hB id hid=>M.qb hB id (SR.KO e4 hid),fun id hid=>Oz (M.qk id hid) jB⟩
     rcases SR.KN e4 hX with ⟨h1,h2⟩|⟨X',h1⟩
     ·rw [h1];exact KQ h2
     ·refine CT nm X' ?_ h1
      rcases h1 with h1|h1
      ·exact R.ml nm _ h1
      ·exact R.rl nm _ h1
    refine .inl ⟨val,ups,acc,_,_,_,e1,h,dH,qd,⟨fun ha id hid=> ?_,fun _ ha id hid=> ?_,fun nm hn=> ?_,fun nm hn=>Oz (pv (e5 nm hn)).1 qd,fun nm hn=>by simp [dc] at hn,fun hn=> ?_,fun ha hk=> ?_⟩,fun hn=> ?_,⟨by cases r<;>rfl,by cases r<;>rfl⟩,r.k1 s.k,jB,fun id hid=> ?_,eV,KR⟩
    ·have hid:id∈ups.map Prod.fst:=hid
     rw [hu] at hid
     cases r with
     |val O v=>simp [SR.ups] at hid
     |new O v B'=>
      simp only [SR.ups,Om,OU,Of] at hid
      subst hid
      refine ⟨st.nx,by simp [dc,SR.keys], .inl ⟨by simp [SR.up,aC.cX],fun hq=> ?_⟩⟩
      have:=M.qk _ hq;omega
     |put O v nm B'=>
      simp only [SR.ups,SR.up,Om,OU,Of] at hid
      obtain ⟨⟨B0,cj,_⟩,_⟩:=e4
      exact ⟨nm,by simp [dc,SR.keys], .inl ⟨hid,by rw [hid];exact M.qa nm _ (.inl cj)⟩⟩
     |fS O v ns'=>
      simp only [SR.ups,SR.up,PL,OE,Function.comp_apply] at hid
      obtain ⟨a,CU,rfl⟩:=hid
      obtain ⟨⟨B0,cj⟩,_⟩:=e4 a CU
      exact ⟨a,CU, .inl ⟨rfl,M.qa a _ (.inl cj)⟩⟩
     |mov O v old B'=>
      obtain ⟨⟨B0,cj⟩,_⟩:=e4
      have gx:=R.ml old _ cj
      simp only [SR.ups,Om,OU,Oj,Pa,or_false] at hid
      rcases hid with hid|hid
      ·exact ⟨old,by simp [dc,SR.keys], .inl ⟨hid,by rw [hid];exact CT old _ gx (.inl cj)⟩⟩
      ·subst hid
       refine ⟨st.nx,by simp [dc,SR.keys], .inl ⟨by simp [SR.up,aC.cX],fun hq=> ?_⟩⟩
       have:=M.qk _ hq;omega
     |ew O v lB t row A=>
      simp only [SR.ups,Om,OU,Of] at hid
      subst hid
      have hrow:gJ st id:=⟨t,A,mC e4.1,e4.2.2⟩
      cases B with
      |false=>exact ⟨0,by simp [dc,SR.keys], .inr ⟨rfl,M.qb rfl id hrow⟩⟩
      |true=>
       simp only [dc,SR.keys,CO hrow,CP (Of.2 rfl),Bool.and_true] at ha
       simp at ha
    ·obtain ⟨nm,q1,q2⟩:=e3 id hid
     exact ⟨nm,q1,(CQ (keys:=r.keys st) M ha q1 (e5 nm q1) q2).step dH (pv (e5 nm q1)).1⟩
    ·rw [SR.uq]
     have hn:nm∈r.keys st:=hn
     cases r with
     |val O v=>simp [SR.keys] at hn
     |new O v B'=>simp only [SR.keys,Of] at hn;simp only [SR.nx];omega
     |put O v nm' B'=>
      simp only [SR.keys,Of] at hn
      subst hn;obtain ⟨⟨B0,cj,_⟩,_⟩:=e4;exact R.ml _ _ cj
     |fS O v ns'=>obtain ⟨⟨B0,cj⟩,_⟩:=e4 nm hn;exact R.ml _ _ cj
     |mov O v old B'=>
      obtain ⟨⟨B0,cj⟩,_⟩:=e4
      have:=R.ml _ _ cj
      simp only [SR.keys,Oj,Pa,or_false] at hn
      simp only [SR.nx]
      rcases hn with rfl|rfl<;>omega
     |ew O v lB t row A=>
      simp only [SR.keys,Of] at hn
      subst hn;exact R.ml _ _ e4.1
    ·have hn:(po o r xs&& !(dc B st (r.keys st) ns).all)=true:=hn
     rw [N9] at hn
     have pQ:=hn.2
     rw [Ov] at pQ
     refine ⟨pQ,fun id hid=> ?_⟩
     have hid:id∈ups.map Prod.fst:=hid
     rw [hu] at hid
     cases r with
     |new O v B'=>
      simp only [SR.ups,Om,OU,Of] at hid
      subst hid;exact Og _
     |_=>simp [po] at hn
    ·have hk:(r.keys st).isEmpty=true:=hk
     rw [OZ] at hk
     simp [dc,hk] at ha
    ·have hn:(po o r xs&& !(dc B st (r.keys st) ns).all)=true:=hn
     rw [N9] at hn
     have h1:=hn.1
     unfold po at h1
     rw [N9,N9,Ov] at h1
     exact h1.2
    ·rw [hu] at hid
     cases r with
     |val O v=>simp [SR.ups] at hid
     |new O v B'=>simp only [SR.ups,Om,OU,Of] at hid;simp only [SR.k1];omega
     |put O v nm' B'=>
      simp only [SR.ups,SR.up,Om,OU,Of] at hid
      subst hid;obtain ⟨⟨B0,cj,_⟩,_⟩:=e4;exact R.lt _ (R.ml _ _ cj)
     |fS O v ns'=>
      simp only [SR.ups,PL,OE,Function.comp_apply] at hid
      obtain ⟨a,ha,rfl⟩:=hid
      obtain ⟨⟨B0,cj⟩,_⟩:=e4 a ha;exact R.lt _ (R.ml _ _ cj)
     |mov O v old B'=>
      obtain ⟨⟨B0,cj⟩,_⟩:=e4
      have h0:=R.ml _ _ cj
      have:=R.lt _ h0
      simp only [SR.ups,SR.up,Om,OU,Oj,Pa,or_false] at hid
      simp only [SR.k1]
      rcases hid with rfl|rfl
      ·rw [((N.lA st.nx s.k B'.len).1 old h0).1];omega
      ·omega
     |ew O v lB t row A=>
      simp only [SR.ups,Om,OU,Of] at hid
      subst hid
      exact (R.sp t A (.inl e4.1) id e4.2.2).1
   ·split at h
    ·rename_i x args cC
     split at h
     ·rename_i f vs er
      cases B with
      |false=>exact h.elim
      |true=>
      rw [Ob] at h
      have j3:=pj R.here er s.k
      have gr:∀N',N.agree st.nx N'->vs.map (SV.av C.D.toTE N')=vs.map (SV.av C.D.toTE N):=fun N' hN=>by
       have nH:=pj (R.at_ N' hN) er s.k
       rw [j3] at nH
       simp only [N6,Out.call.injEq,true_and] at nH
       exact nH.symm
      cases hh:hidB C.hd dep st vs with
      |true=>
       rw [hh,Ob] at h
       exact KP hC R M g1 cq cC hd er gr hh h
      |false=>
      rw [hh,Ot] at h
      obtain ⟨h1,lL,k1,N',v,st1,h2,h3,h4,h5,h6,h7⟩:=hC.inl R gr h
      have yv:∀id,id<k1->aA s.g ((List.range (max s.k k1)).map fun i=>(i,lL i)) id=lL id:=fun id hid=>by rw [yn,N8 (by omega)]
      refine .inr ⟨f,_,_,(List.range (max s.k k1)).map fun i=>(i,lL i),max s.k k1,_,N',g1 cq,by rw [cC];rfl,by rw [cC];exact j3,h1,CL h2,⟨Nat.le_max_left _ _,fun id hid=>by simpa using hid⟩,⟨[],fun nm hn=>by simp at hn,h7⟩,h4,h5,⟨rfl,rfl⟩, ?_,eI.rI (M.q0 rfl)⟩
      refine ⟨fun bT hN=> ?_,h6.inj,fun a ha=>Oz (h6.lt a ha) (Nat.le_max_right _ _),h6.ml,h6.rl,fun t A hg id hid=>⟨Oz (h6.sp t A hg id hid).1 (Nat.le_max_right _ _),(h6.sp t A hg id hid).2⟩⟩
      have A:=h6.at_ bT hN
      have A0:=R.at_ bT (aC.eH h4 hN h5)
      obtain ⟨q1,q2⟩:=mB (D:=C.D) (n:=n) (v:=v) (a:=v.av C.D.toTE N') hd A0.sl A0.rs (h3 bT hN).symm
      have hlt:∀nm,nm<st1.nx->bT.ι nm<k1:=fun nm hn=>by rw [(hN.1 nm hn).1];exact h6.lt nm hn
      exact ⟨q1,q2,fun nm B hB=>⟨(yv _ (hlt nm (h6.ml nm _ hB))).trans (A.bl nm B hB).1,(A.bl nm B hB).2⟩,fun nm B hB=>⟨(yv _ (hlt nm (h6.rl nm _ hB))).trans (A.rb nm B hB).1,(A.rb nm B hB).2⟩,fun t A' hg id hid=>(yv _ (h6.sp t A' hg id hid).1).trans (A.ar t A' hg id hid)⟩
     ·exact h.elim
    ·exact h.elim
  ·rename_i cq
   left
   have eV:=R.go (r:= .val [] (.vo undef)) hd trivial (val:= .v undef) (ups:=[]) (fun _ _=>rfl) (fun _ _=>rfl)
   exact ⟨.v undef,[],[],_,_,N, .skip (g2 cq),h,N.dN _,Og _,⟨fun _ id hid=>by simp [Rec.keys] at hid,fun _ _ id hid=>by simp at hid,fun nm hn=>by simp at hn,fun nm hn=>by simp at hn,fun nm hn=>by simp at hn,fun hn=>by simp at hn,fun hn=>by simp at hn⟩,fun hn=>by simp at hn,⟨rfl,rfl⟩,s.k,Og _,fun id hid=>by simp at hid,eV,M.q0,M.qa,M.qb,M.qk⟩
  ·rename_i e cq
   left
   split at h
   ·rename_i O v ns hr
    rw [jN] at h
    obtain ⟨hO,h⟩:=h
    have yw:∀p,p∈jb st e o.ao.uns->p:=fun p hp=>hO p (OR _ hp)
    have hg:=g3 e cq
    cases hden:e.den with
    |false=>
     rw [hden] at hg
     have hv:∀N':aC,(.v undef:AV)=((SV.vg true e v:SV τ dn)).av C.D.toTE N':=fun N'=>by simp [SV.av,hden]
     have eV:=R.go (r:= .val [] (.vg true e v)) hd trivial (val:= .v undef) (ups:=[]) (fun N' _=>hv N') (fun _ _=>rfl)
     have KS:∀nm,nm∈ns->nm<st.nx:=by
      have cT:=hr
      unfold jQ at cT
      split at cT
      ·split at cT
       ·rename_i r' ns' _
        cases hb:(ns'.all (st.unw o.ao.uns).live) with
        |false=>rw [hb] at cT;simp at cT
        |true=>
         rw [hb,Ob,N6,Oi] at cT
         intro nm hn
         rw [<-cT.2] at hn
         exact (pv (Oc.1 hb nm hn)).1
       ·simp at cT
      ·split at cT
       ·cases hb:((o.ao.nrs (st.unw o.ao.uns)).all (st.unw o.ao.uns).live&&o.ao.lk.all (st.unw o.ao.uns).ngd) with
        |false=>rw [hb] at cT;simp at cT
        |true=>
         rw [hb,Ob,N6,Oi] at cT
         rw [N9] at hb
         intro nm hn
         rw [<-cT.2] at hn
         exact (pv (Oc.1 hb.1 nm hn)).1
       ·simp at cT
     exact ⟨.v undef,[],[],_,_,N, .skip hg,h,N.dN _,Og _,⟨fun _ id hid=>by simp [Rec.keys] at hid,fun _ _ id hid=>by simp at hid,fun nm hn=>by simp [dc] at hn,KS,fun nm hn=>by simp [dc] at hn,fun hn=>by simp [dc] at hn,fun hn=>by simp [dc] at hn⟩,fun hn=>by simp [dc] at hn,⟨rfl,rfl⟩,s.k,Og _,fun id hid=>by simp at hid,eV,M.q0,M.qa,M.qb,M.qk⟩
    |true=>
     rw [hden] at hg
     have et:=(Cn.iY e true).2 hden
     have KT:∀p,p∈(SR.val O v:SR τ dn).O->p:=fun p hp=>hO _ (OO _ (OE.2 ⟨p,hp,rfl⟩)) et
     obtain ⟨val,ups,acc,e1,e2,e3,e4,e5⟩:=CI (st:=st.unw o.ao.uns) hC (fun N' hN=>Cm (R.at_ N' hN) hden yw) hg hr KT
     have hv:∀N',N.agree st.nx N'->val=((SV.vg true e v:SV τ dn)).av C.D.toTE N':=fun N' hN=>by
      rw [(e2 N' hN).1];simp only [SV.av,hden,Oa];rfl
     have hu:ups=[]:=(e2 N (N.dN _)).2
     have eV:=R.go (r:= .val [] (.vg true e v)) hd trivial (val:=val) (ups:=ups) (fun N' hN=>hv N' hN) (fun _ _=>hu)
     refine ⟨val,ups,acc,_,_,N,e1,h,N.dN _,Og _,⟨fun _ id hid=> ?_,fun _ ha id hid=> ?_,fun nm hn=>by simp [dc] at hn,fun nm hn=>(pv (e5 nm hn)).1,fun nm hn=>by simp [dc] at hn,fun hn=>by simp [dc] at hn,fun hn=>by simp [dc] at hn⟩,fun hn=>by simp [dc] at hn,⟨rfl,rfl⟩,s.k,Og _,fun id hid=> ?_,eV,M.q0,M.qa,M.qb,M.qk⟩
     ·have hid:id∈ups.map Prod.fst:=hid
      rw [hu] at hid;simp at hid
     ·obtain ⟨nm,q1,q2⟩:=e3 id hid
      exact ⟨nm,q1,CQ M ha q1 (e5 nm q1) q2⟩
     ·rw [hu] at hid;simp at hid
   ·exact h.elim
  ·exact h.elim
theorem uy {C:b0 τ dn} (hC:C.Ok) {n k0:Nat}:∀{os:List az} {xs:List NR} {st:SS τ dn} {K:SS τ dn->Prop} {N:aC} {s:S3},Rel C.D N st s->wpOps C n none true os xs st K->
  ∃s' N' aw,gv C.P n k0 os s.σ s.g s.k s'.σ s'.g s'.k/\Rel C.D N' aw s'/\(aw.rt=st.rt/\aw.rm=st.rm)/\N.agree st.nx N'/\st.nx<=aw.nx/\K aw
 |[],xs,st,K,N,s,R,h=>⟨s,N,st, .nil,R,⟨rfl,rfl⟩,N.dN _,Og _,h⟩
 |o::os,xs,st,K,N,s,R,h=>by
  rcases CS hC R (eI.rI (Q:=fun _=>False) fun _ h=>h) h with ⟨val,ups,acc,x,aw,N',h1,h2,h3,h4,_,_,h5,k1,h6,h7,h8,_⟩|⟨f,as_,r,ups,k1,aw,N',h1,_,h2,h3,h4,_,⟨ex,_,h5⟩,h6,h7,h8,h9,_⟩
  ·obtain ⟨s',N2,aV,q1,q2,q3,q4,q5,q6⟩:=uy hC (k0:=k0) h8 h2
   exact ⟨s',N2,aV, .cons h1 h6 h7 q1,q2,⟨q3.1.trans h5.1,q3.2.trans h5.2⟩,aC.eH h3 q4 h4,OF h4 q5,q6⟩
  ·obtain ⟨s',N2,aV,q1,q2,q3,q4,q5,q6⟩:=uy hC (k0:=k0) h9 h5
   exact ⟨s',N2,aV, .inl h1 h2 h3 h4 q1,q2,⟨q3.1.trans h8.1,q3.2.trans h8.2⟩,aC.eH h6 q4 h7,OF h7 q5,q6⟩
theorem ky {α:Type} {l:List α} {x y:α} (h:(l++[x])[i]? =some y):l[i]? =some y\/(i=l.length/\y=x):=by
 rcases OT i l.length with q|q
 ·rw [O4 q] at h;exact .inl h
 ·rw [Ph q] at h
  right
  cases hd:i - l.length with
  |zero=>rw [hd] at h;simp at h;exact ⟨by omega,h.symm⟩
  |succ m=>rw [hd] at h;simp at h
structure rK (pre:List az) (rs:List Rec) (xs:List NR) (k:Nat):Prop where
 pl:pre.length=xs.length
 rl:rs.length=xs.length
 kb:∀(i:Nat) r,rs[i]? =some r->∀id,id∈r.keys->id<k
 lt:∀(i j:Nat) ri rj,i<j->rs[i]? =some ri->rs[j]? =some rj->∀id,id∈ri.keys->id<rj.fr
 nw:∀(i:Nat) x,xs[i]? =some x->x.nw=true->(∀o,pre[i]? =some o->hP o=true)/\∀(j:Nat) y,xs[j]? =some y->y.nw=true->j=i
theorem rK.snoc {pre:List az} {xs:List NR} (h:rK pre rs xs k) {x:NR} (hk:k<=k1) (hr:r.fr=k) (hb:∀id,id∈r.keys->id<k1) (hx:x.nw=true->hP o=true/\(xs.any fun x=>x.nw)=false):rK (pre++[o]) (rs++[r]) (xs++[x]) k1:=by
 have eF:∀(i:Nat) y,xs[i]? =some y->y.nw=true->x.nw=true->False:=fun i y hy hn KU=>by
  have:=(hx KU).2
  rw [List.any_eq_false] at this
  exact this y (OG hy) hn
 refine ⟨by simp [h.pl],by simp [h.rl],fun i r' hr' id hid=> ?_,fun i j ri rj aW hi hj id hid=> ?_,fun i y hy hn=>⟨fun o' im=> ?_,fun j z hz yx=> ?_⟩⟩
 ·rcases ky hr' with q|⟨_,rfl⟩
  ·exact Oz (h.kb i r' q id hid) hk
  ·exact hb id hid
 ·rcases ky hj with q|⟨q,rfl⟩
  ·rcases ky hi with p|⟨p,rfl⟩
   ·exact h.lt i j ri rj aW p q id hid
   ·have:=(Oe.1 q).1;omega
  ·rcases ky hi with p|⟨p,rfl⟩
   ·rw [hr];exact h.kb i ri p id hid
   ·omega
 ·rcases ky hy with q|⟨q,rfl⟩
  ·rcases ky im with p|⟨p,rfl⟩
   ·exact (h.nw i y q hn).1 o' p
   ·have:=(Oe.1 q).1
    have:=h.pl;omega
  ·rcases ky im with p|⟨p,rfl⟩
   ·have:=(Oe.1 p).1
    have:=h.pl;omega
   ·exact (hx hn).1
 ·rcases ky hy with q|⟨q,rfl⟩
  ·rcases ky hz with p|⟨p,rfl⟩
   ·exact (h.nw i y q hn).2 j z p yx
   ·exact (eF i y q hn yx).elim
  ·rcases ky hz with p|⟨p,rfl⟩
   ·exact (eF j z p yx hn).elim
   ·omega
theorem uz {C:b0 τ dn} (hC:C.Ok) {n:Nat} {dep:List (List Nat)} {B:Bool} {Q:Nat->Prop}:∀{os:List az} {pre:List az} {xs:List NR} {rs:List Rec} {hs:List (Option Nat)} {st:SS τ dn} {K:SS τ dn->Prop} {N:aC} {s:S3},Rel C.D N st s->eI B Q N st s->gK N Q st.nx rs hs xs->rK pre rs xs s.k->wpOps C n (some dep) B os xs st K->
  ∃jn,(∀o,(pre++os)[jn]? =some o->hP o=true)/\∃s' N' aw,iW C.P n dep jn os s.σ s.g s.k rs hs s'.σ s'.g s'.k/\Rel C.D N' aw s'/\(aw.rt=st.rt/\aw.rm=st.rm)/\N.agree st.nx N'/\st.nx<=aw.nx/\K aw
 |[],pre,xs,rs,hs,st,K,N,s,R,M,rL,hk,h=>by
  simp only [wpOps] at h
  cases hb:idsN xs dep with
  |false=>rw [hb] at h;exact h.elim
  |true=>
   rw [hb,Ob] at h
   by_cases hx:∃(i:Nat) (x:NR),xs[i]? =some x/\x.nw=true
   ·obtain ⟨i,x,h1,h2⟩:=hx
    have hq:=CK R.inj rL hk.lt (jn:=i) (fun j y hy hn=>(hk.nw i x h1 h2).2 j y hy hn) hb
    exact ⟨i,by rw [List.append_nil];exact (hk.nw i x h1 h2).1,s,N,st, .nil hq.1 hq.2,R,⟨rfl,rfl⟩,N.dN _,Og _,h⟩
   ·have hq:=CK R.inj rL hk.lt (jn:=pre.length) (fun j y hy hn=>absurd ⟨j,y,hy,hn⟩ hx) hb
    exact ⟨pre.length,fun o ho=>by simp at ho,s,N,st, .nil hq.1 hq.2,R,⟨rfl,rfl⟩,N.dN _,Og _,h⟩
 |o::os,pre,xs,rs,hs,st,K,N,s,R,M,rL,hk,h=>by
  rcases CS hC R M h with ⟨val,ups,acc,x,aw,N',h1,h2,h3,h4,h5,KV,CV,k1,h6,h7,h8,hM⟩|⟨f,as_,r,ups,k1,aw,N',h1,mY,h2,h3,h4,jB,⟨ex,hex,h5⟩,h6,h7,h8,h9,hM⟩
  ·obtain ⟨jn,hj,s',N2,aV,q1,q2,q3,q4,q5,q6⟩:=uz hC (pre:=pre++[o]) h8 hM ((rL.step h3 h4).snoc (c:=none) h5 (fun _=>rfl)) (hk.snoc (r:=⟨o.dst,val,ups,acc,s.k⟩) h6 rfl h7 KV) h2
   exact ⟨jn,fun o' im=>hj o' (by rw [Po];exact im),s',N2,aV, .cons h1 h6 h7 q1,q2,⟨q3.1.trans CV.1,q3.2.trans CV.2⟩,aC.eH h3 q4 h4,OF h4 q5,q6⟩
  ·obtain ⟨jn,hj,s',N2,aV,q1,q2,q3,q4,q5,q6⟩:=uz hC (pre:=pre++[o]) (rs:=rs++[⟨o.dst,r,ups,[],s.k⟩]) (hs:=hs++[some k1]) h9 hM ((rL.step h6 h7).snoc (r:=⟨o.dst,r,ups,[],s.k⟩) (c:=some k1) (x:=⟨[],[],true,false,ex,false⟩) ⟨fun hh=>by simp at hh,fun hh=>by simp at hh,fun nm hn=>by simp at hn,fun nm hn=>by simp at hn,hex,fun hh=>by simp at hh,fun _ _=>rfl⟩ (fun hh=>by simp at hh)) (hk.snoc (r:=⟨o.dst,r,ups,[],s.k⟩) jB.1 rfl jB.2 (fun hh=>by simp at hh)) h5
   exact ⟨jn,fun o' im=>hj o' (by rw [Po];exact im),s',N2,aV, .fi h1 mY h2 h3 h4 jB.1 jB.2 q1,q2,⟨q3.1.trans h8.1,q3.2.trans h8.2⟩,aC.eH h6 q4 h7,OF h7 q5,q6⟩
theorem KW {C:b0 τ dn} (hC:C.Ok) {B:Bool} {st:SS τ dn} {K:SS τ dn->Prop} (R:Rel C.D N st s) (h:wpOps C n (some dep) B os [] st K):
  ∃jn,(∀o,os[jn]? =some o->hP o=true)/\∃s' N' aw,iW C.P n dep jn os s.σ s.g s.k [] [] s'.σ s'.g s'.k/\Rel C.D N' aw s'/\(aw.rt=st.rt/\aw.rm=st.rm)/\N.agree st.nx N'/\st.nx<=aw.nx/\K aw:=by
 have h0:rK [] [] [] s.k:=⟨rfl,rfl,fun i r h=>by simp at h,fun i j ri rj _ h=>by simp at h,fun i x h=>by simp at h⟩
 cases B with
 |true=>exact uz (pre:=[]) hC R (eI.rI (Q:=fun _=>False) fun _ h=>h) .nil h0 h
 |false=>
  refine uz (pre:=[]) (Q:=gJ st) hC R ⟨fun hh=>by simp at hh,fun nm X hX ⟨t,A,hg,hid⟩=>(R.sp t A (gG hg) _ hid).2 nm X hX rfl,fun _ id h=>h,fun id ⟨t,A,hg,hid⟩=>(R.sp t A (gG hg) _ hid).1⟩ .nil h0 h
end
open Go.RowKit
variable {xs:List NR} {x:NR}
def ED (P:Program) (n k0:Nat) (ac:AC) (s:S3) (e:Ex) (s':S3):Prop:=EW P n k0 ac s fun x t=>x=e/\t=s'
def Ex.ko (i:Nat):Ex->Ex
 | .exit j=>if j=i then .normal else .exit j
 |e=>e
section
variable {P:Program} {n k0:Nat} {s s' t:S3} {a b:AC} {e:Ex}
theorem ED.skip:ED P n k0 .skip s .normal s:=EW.skip ⟨rfl,rfl⟩
theorem ED.ret:ED P n k0 .ret s .ret s:=EW.ret ⟨rfl,rfl⟩
theorem ED.exit {i:Nat}:ED P n k0 (.exit i) s (.exit i) s:=EW.exit ⟨rfl,rfl⟩
theorem ED.seq (h:ED P n k0 a s .normal t) (k:ED P n k0 b t e s'):ED P n k0 (.seq a b) s e s':=
 EW.seq (EW.cL h fun x u hu=>by obtain ⟨rfl,rfl⟩:=hu;exact k)
theorem ED.CW (h:ED P n k0 a s e t) (he:e≠ .normal):ED P n k0 (.seq a b) s e t:=
 EW.seq (EW.cL h fun x u hu=>by
  obtain ⟨rfl,rfl⟩:=hu
  cases x with
  |normal=>exact absurd rfl he
  |exit i=>exact ⟨rfl,rfl⟩
  |ret=>exact ⟨rfl,rfl⟩)
theorem ED.cond {c:Arg} {p:Bool} (hc:aG s.σ c= .v (.bool p)) (h:ED P n k0 (if p=true then a else b) s e t):ED P n k0 (.cond c a b) s e t:=EW.cond hc h
theorem ED.block {i:Nat} (h:ED P n k0 a s e t):ED P n k0 (.block i a) s (e.ko i) t:=
 EW.block (EW.cL h fun x u hu=>by
  obtain ⟨rfl,rfl⟩:=hu
  cases x with
  |normal=>exact ⟨rfl,rfl⟩
  |exit j=>
   simp only [Ex.inBlock,Ex.ko]
   split
   all_goals (first|trivial|exact ⟨rfl,rfl⟩|simp_all)
  |ret=>exact ⟨rfl,rfl⟩)
theorem ED.fJ (h:s.Le k0 n t) (k:ED P n k0 a t e s'):ED P n k0 a s e s':=EW.fJ h k
inductive Ch (P:Program) (n k0:Nat) (a:AC) (e:Ex) (s':S3):Nat->S3->Prop
 |last {s:S3} (h:ED P n k0 a s e s') (he:e≠ .normal):Ch P n k0 a e s' 0 s
 |step {m:Nat} {s t u:S3} (h:ED P n k0 a s .normal t) (hw:t.Le k0 n u) (c:Ch P n k0 a e s' m u):Ch P n k0 a e s' (m+1) s
theorem ED.post (h:ED P n k0 a s e t) (hw:t.Le k0 n u):ED P n k0 a s e u:=by
 intro rd c E0 J base w0 ac w b7 hc hk hr
 refine wpIn_mono (h rd c E0 J base w0 ac w b7 hc hk hr) fun e' a' w' ⟨x,s1,⟨h1,h2⟩,h3,h4⟩=>⟨x,u,⟨h1,rfl⟩,h3, ?_⟩
 subst h2
 exact hw E0 J base w0 a' w' hk h4
theorem ED.loop {m:Nat} (h:Ch P n k0 a e s' m s):ED P n k0 (.loop a) s e s':=by
 refine EW.loop (fun m t=>Ch P n k0 a e s' m t) h fun m t hc=> ?_
 cases hc with
 |last h he=>
  refine EW.cL h fun x u hu=> ?_
  obtain ⟨rfl,rfl⟩:=hu
  cases x with
  |normal=>exact absurd rfl he
  |exit i=>exact ⟨rfl,rfl⟩
  |ret=>exact ⟨rfl,rfl⟩
 | @step m _ t u h hw c=>
  refine EW.cL (ED.post h hw) fun x v hv=> ?_
  obtain ⟨rfl,rfl⟩:=hv
  exact ⟨m,Pc m,c⟩
theorem ED.bG {os:List az} (h:gv P n k0 os s.σ s.g s.k s'.σ s'.g s'.k):ED P n k0 (.bG os none) s .normal s':=EW.bG h ⟨rfl,rfl⟩
theorem ED.draw (hj:∀o,os[jn]? =some o->hP o=true) (h:iW P n dep jn os s.σ s.g s.k [] [] s'.σ s'.g s'.k):ED P n k0 (.bG os (some dep)) s .normal s':=EW.Il hj h ⟨rfl,rfl⟩
theorem S3.KX (h:∀i,aP (s.σ i) (σ' i)):s.Le k0 n ⟨σ',s.g,s.k⟩:=by
 intro E0 J base w0 a w _ hr
 obtain ⟨E,h1,h2,h3,h4,h5,h6⟩:=hr.ex
 exact ⟨⟨E,h1,h2,fun t=>h t E _ (h3 t),h4,h5,h6⟩,hr.size,hr.below,hr.gl⟩
theorem S3.Le.trans' (h:s.Le k0 n t) (k:t.Le k0 n u):s.Le k0 n u:=fun E0 J base w0 a w hk hr=>k E0 J base w0 a w hk (h E0 J base w0 a w hk hr)
theorem S3.Le.mH:s.Le k0 n s:=fun _ _ _ _ _ _ _ hr=>hr
theorem S3.KY (hσ:s.σ i= .emp) (hz:sz≠0):s.Le k0 n ⟨fun j=>if j=i then .own s.k sz 0 0 else s.σ j,aA s.g [(s.k,some ⟨sz,[]⟩)],s.k+1⟩:=by
 intro E0 J base w0 a w hk hr
 obtain ⟨E,rfl,hle,hs,hm,aX,hmk⟩:=hr.ex
 obtain ⟨E',hw,hE,hM,k1,k2,k3,k4,k5⟩:=hm.sy (fresh:=s.k) (fun hh=>Pl _ (aX _ hh)) sz
 refine ⟨⟨E',hw,hle.trans hE,fun j=> ?_,hM,fun id hid=> ?_,hmk.step hE⟩,hr.size,hr.below,hr.gl⟩
 ·show aj E' _ (if j=i then _ else _)
  by_cases hj:j=i
  ·rw [N8 hj]
   have:=hs j
   rw [hj,hσ] at this
   obtain ⟨A,hA⟩:=qG this
   rw [hj,hA]
   exact .bQ k1 k2 k3 k5 hz
  ·rw [N7 hj];exact (hs j).step hE
 ·show id<s.k+1
  rcases k4 id hid with h|h
  ·have:=aX id h;omega
  ·omega
end
section
variable {τ:Type} {dn:τ->Type}
def aC.same (p:Nat->Bool) (N N':aC):Prop:=(∀a,p a=true->N'.ι a=N.ι a/\N'.ln a=N.ln a)/\N'.ρ=N.ρ
mutual
theorem px {E:TE τ dn} {p:Nat->Bool} {N N':aC} (hN:N.same p N'):∀(v:SV τ dn),v.fr p=true->v.av E N'=v.av E N
 | .own nm sz,h=>by simp only [SV.fr] at h;simp only [SV.av,hN.1 nm h]
 | .part nm sz o l,h=>by simp only [SV.fr] at h;simp only [SV.av,hN.1 nm h]
 | .ref nm sz i o,h=>by simp only [SV.fr] at h;simp only [SV.av,hN.1 nm h]
 | .mp nm,h=>by simp only [SV.fr] at h;simp only [SV.av,hN.1 nm h]
 | .agg cs,h| .aK cs,h| .fn _ cs,h| .bf _ cs,h| .pim cs _,h=>by simp only [SV.fr] at h;simp only [SV.av,yy hN cs h]
 | .vc _ els,h=>by simp only [SV.fr] at h;simp only [SV.av,uA hN els h]
 | .vg p c v,h=>by simp only [SV.fr] at h;simp only [SV.av,px hN v h]
 | .vl t xs,h=>by simp only [SV.av,hN.2]
 | .rw t r,h=>by simp only [SV.av,hN.2]
 | .cQ t r i o,h=>by simp only [SV.av,hN.2]
 | .vi _,_| .vn _,_| .vy _,_| .vu _,_| .vw _ _,_| .vb _,_| .vt _,_| .vz _,_| .vo _,_| .emp,_| .dead,_=>by simp only [SV.av]
theorem yy {E:TE τ dn} {p:Nat->Bool} {N N':aC} (hN:N.same p N'):∀(cs:List (SV τ dn)),SV.dM p cs=true->SV.cu E N' cs=SV.cu E N cs
 |[],_=>rfl
 |v::r,h=>by
  simp only [SV.dM,N9] at h
  simp only [SV.cu,px hN v h.1,yy hN r h.2]
theorem uA {E:TE τ dn} {p:Nat->Bool} {N N':aC} (hN:N.same p N'):∀(els:List (List (SV τ dn))),SV.ld p els=true->SV.bR E N' els=SV.bR E N els
 |[],_=>rfl
 |v::r,h=>by
  simp only [SV.ld,N9] at h
  simp only [SV.bR,yy hN v h.1,uA hN r h.2]
end
def SB.fr (p:Nat->Bool):SB τ dn->Bool
 | .bl _ _=>true
 | .bc _ els=>SV.ld p els
 | .mc els=>SV.ld p els
 | .ar _ _=>true
theorem CX {E:TE τ dn} (hN:N.same p N') (B:SB τ dn) (h:B.fr p=true):B.av E N'=B.av E N:=by
 cases B with
 |bl t xs=>simp only [SB.av,hN.2]
 |bc sz els=>simp only [SB.fr] at h;simp only [SB.av,uA hN els h]
 |mc els=>simp only [SB.fr] at h;simp only [SB.av,uA hN els h]
 |ar t A=>rfl
def hasN (l:List Nat) (a:Nat):Bool:=l.any (Nat.beq a)
theorem lM:hasN l a=true↔a∈l:=by
 unfold hasN
 rw [PU]
 constructor
 ·rintro ⟨b,h1,h2⟩;rw [Ol h2];exact h1
 ·intro h;exact ⟨a,h,Nat.beq_refl a⟩
def lN (p:Nat->Bool):List Nat->List (Nat×SV τ dn)->List (Nat×SV τ dn)
 |_,[]=>[]
 |seen,(i,v)::r=>bif hasN seen i then lN p seen r else bif v.fr p then (i,v)::lN p (i::seen) r else lN p (i::seen) r
theorem yz {p:Nat->Bool}:∀{t:List (Nat×SV τ dn)} {seen:List Nat} {i:Nat} {v:SV τ dn},getS (lN p seen t) i=some v->getS t i=some v/\v.fr p=true/\¬i∈seen
 |[],seen,i,v,h=>by simp [lN,getS] at h
 |(j,w)::r,seen,i,v,h=>by
  simp only [lN] at h
  cases hs:hasN seen j with
  |true=>
   rw [hs,Ob] at h
   obtain ⟨h1,h2,h3⟩:=yz h
   refine ⟨?_,h2,h3⟩
   rw [ba,N7];exact h1
   intro e;subst e;exact h3 (lM.1 hs)
  |false=>
   rw [hs,Ot] at h
   have hj:¬j∈seen:=fun hh=>by rw [lM.2 hh] at hs;simp at hs
   have next:getS (lN p (j::seen) r) i=some v->getS ((j,w)::r) i=some v/\v.fr p=true/\¬i∈seen:=fun h=>by
    obtain ⟨h1,h2,h3⟩:=yz h
    simp only [Oj,not_or] at h3
    exact ⟨by rw [ba,N7 h3.1];exact h1,h2,h3.2⟩
   cases hf:w.fr p with
   |true=>
    rw [hf,Ob,ba] at h
    by_cases hi:i=j
    ·rw [N8 hi,N6] at h
     subst h;subst hi
     exact ⟨by rw [ba,N8 rfl],hf,hj⟩
    ·rw [N7 hi] at h;exact next h
   |false=>rw [hf,Ot] at h;exact next h
def kz (p:Nat->Bool):List Nat->List (Nat×Option (SB τ dn))->List (Nat×Option (SB τ dn))
 |_,[]=>[]
 |seen,(i,v)::r=>bif hasN seen i then kz p seen r else match v with
  |some B=>bif B.fr p&&p i then (i,some B)::kz p (i::seen) r else kz p (i::seen) r
  |none=>kz p (i::seen) r
theorem yA {p:Nat->Bool}:∀{t:List (Nat×Option (SB τ dn))} {seen:List Nat} {i:Nat} {v:Option (SB τ dn)},getS (kz p seen t) i=some v->getS t i=some v/\(∃B,v=some B/\B.fr p=true)/\p i=true/\¬i∈seen
 |[],seen,i,v,h=>by simp [kz,getS] at h
 |(j,w)::r,seen,i,v,h=>by
  simp only [kz] at h
  cases hs:hasN seen j with
  |true=>
   rw [hs,Ob] at h
   obtain ⟨h1,h2,h4,h3⟩:=yA h
   refine ⟨?_,h2,h4,h3⟩
   rw [ba,N7];exact h1
   intro e;subst e;exact h3 (lM.1 hs)
  |false=>
   rw [hs,Ot] at h
   have hj:¬j∈seen:=fun hh=>by rw [lM.2 hh] at hs;simp at hs
   have next:getS (kz p (j::seen) r) i=some v->getS ((j,w)::r) i=some v/\(∃B,v=some B/\B.fr p=true)/\p i=true/\¬i∈seen:=fun h=>by
    obtain ⟨h1,h2,h4,h3⟩:=yA h
    simp only [Oj,not_or] at h3
    exact ⟨by rw [ba,N7 h3.1];exact h1,h2,h4,h3.2⟩
   cases w with
   |none=>exact next h
   |some B=>
    simp only at h
    cases hf:(B.fr p&&p j) with
    |true=>
     rw [hf,Ob,ba] at h
     rw [N9] at hf
     by_cases hi:i=j
     ·rw [N8 hi,N6] at h
      subst h;subst hi
      exact ⟨by rw [ba,N8 rfl],⟨B,rfl,hf.1⟩,hf.2,hj⟩
     ·rw [N7 hi] at h;exact next h
    |false=>rw [hf,Ot] at h;exact next h
theorem fZ {a b:List (Nat×α)}:getS (a++b) i=(getS a i).or (getS b i):=by
 induction a with
 |nil=>simp [getS]
 |cons q r ih=>
  obtain ⟨j,v⟩:=q
  rw [Ps,ba,ba,ih]
  split<;>simp
theorem jg {l:List (Nat×α)} {v:α} (h:getS l i=some v):(i,v)∈l:=by
 induction l with
 |nil=>simp [getS] at h
 |cons q r ih=>
  obtain ⟨j,w⟩:=q
  rw [ba] at h
  by_cases hi:i=j
  ·rw [N8 hi,N6] at h;subst h;subst hi;exact O6 ..
  ·rw [N7 hi] at h;exact OV _ (ih h)
inductive VK (τ:Type) where
 |sl (i:Nat) (t:τ)
 |ow (i:Nat) (t:τ)
 |bl (nm:Nat) (t:τ)
 |ce (nm:Nat) (t:τ)
 |ar (t:τ)
 |pt (i nm sz:Nat)
 |so (q f:Nat) (t:τ) (cs:List (Nat×Nat))
 |sg (q f:Nat) (t S:τ) (fx:List (Nat×τ×Nat×Nat))
abbrev VK.T (dn:τ->Type):VK τ->Type
 | .sl _ t=>dn t
 | .ow _ t=>List (dn t)
 | .bl _ t=>List (dn t)
 | .ce _ t=>dn t
 | .ar t=>List (Nat×List (dn t))
 | .pt _ _ _=>Nat×Nat
 | .so _ _ t _=>List (dn t)
 | .sg _ _ t S _=>dn S×List (dn t)
abbrev VT (dn:τ->Type):List (VK τ)->Type
 |[]=>Unit
 |v::r=>v.T dn×VT dn r
def uB:(vs:List (VK τ))->(VT dn vs->Prop)->Prop
 |[],F=>F ()
 |_::r,F=>∀x,uB r fun y=>F (x,y)
theorem uC:∀{vs:List (VK τ)} {F:VT dn vs->Prop},uB vs F↔∀x,F x
 |[],F=>⟨fun h _=>h,fun h=>h ()⟩
 |_::r,F=>⟨fun h x=>uC.1 (h x.1) x.2,fun h x=>uC.2 fun y=>h (x,y)⟩
def mI (cs:List (Nat×Nat)) (f n sz:Nat):List (SV τ dn):=(cs.map fun c=>(.own c.1 c.2:SV τ dn)).set f (.own n sz)
def soE:List (SV τ dn)->List (Nat×Nat)->Nat->Nat->Bool
 |[],[],_,_=>true
 | .own a z::r,c::l,j,f=>(Nat.beq j f||(Nat.beq a c.1&&Nat.beq z c.2))&&soE r l (j+1) f
 |_,_,_,_=>false
theorem CY:∀{vs:List (SV τ dn)} {cs:List (Nat×Nat)} {j f n sz:Nat},soE vs cs j f=true->j<=f->vs[f - j]? =some (.own n sz)->vs=mI cs (f - j) n sz
 |[],[],j,f,n,sz,_,_,h=>by simp at h
 |[],c::l,j,f,n,sz,h,_,_=>by simp [soE] at h
 |v::r,[],j,f,n,sz,h,_,_=>by cases v<;>simp [soE] at h
 |v::r,c::l,j,f,n,sz,h,hj,hf=>by
  have hv:∃a z,v= .own a z:=by cases v<;>first|exact ⟨_,_,rfl⟩|simp [soE] at h
  obtain ⟨a,z,rfl⟩:=hv
  simp only [soE,N9,OA] at h
  obtain ⟨h1,h2⟩:=h
  by_cases e:j=f
  ·subst e
   rw [Nat.sub_self] at hf ⊢
   simp only [OI,N6] at hf
   rw [hf]
   unfold mI
   rw [Om,List.set_cons_zero]
   congr 1
   have key:∀{r:List (SV τ dn)} {l:List (Nat×Nat)} {k:Nat},soE r l k j=true->j<k->r=l.map fun c=>(.own c.1 c.2:SV τ dn):=by
    intro r
    induction r with
    |nil=>intro l k h _;cases l with
     |nil=>rfl
     |cons c l=>simp [soE] at h
    |cons v r ih=>
     intro l k h hk
     cases l with
     |nil=>cases v<;>simp [soE] at h
     |cons c l=>
      have hv:∃a z,v= .own a z:=by cases v<;>first|exact ⟨_,_,rfl⟩|simp [soE] at h
      obtain ⟨a,z,rfl⟩:=hv
      simp only [soE,N9,OA] at h
      obtain ⟨h1,h2⟩:=h
      rcases h1 with h1|⟨h1,h3⟩
      ·have:=Ol h1;omega
      ·rw [Om,ih h2 (by omega),Ol h1,Ol h3]
   exact key h2 (by omega)
  ·rcases h1 with h1|⟨h1,h3⟩
   ·exact absurd (Ol h1) e
   ·have e2:f - j=(f - (j+1))+1:=by omega
    rw [e2] at hf ⊢
    rw [OX] at hf
    have ih:=CY h2 (by omega) hf
    unfold mI at ih ⊢
    rw [Om,List.set_cons_succ, <-ih,Ol h1,Ol h3]
theorem KZ {E:TE τ dn} {m:Nat} (h1:N'.ι n=N.ι m) (h2:N'.ln n=N.ln m) (hF:∀c,c∈cs->N'.ι c.1=N.ι c.1/\N'.ln c.1=N.ln c.1):(mI cs f n sz:List (SV τ dn)).map (SV.av E N')=(mI cs f m sz:List (SV τ dn)).map (SV.av E N):=by
 unfold mI
 rw [Pv,Pv]
 have e1:(SV.own n sz:SV τ dn).av E N'=(SV.own m sz:SV τ dn).av E N:=by simp only [SV.av,h1,h2]
 rw [e1]
 congr 1
 rw [PL,PL]
 refine P4 fun c hc=> ?_
 obtain ⟨q1,q2⟩:=hF c hc
 simp only [Function.comp_apply,SV.av,q1,q2]
def setX {κ α:Type} (h:Nat×κ->α):List α->List (Nat×κ)->List α
 |l,[]=>l
 |l,c::r=>(setX h l r).set c.1 (h c)
theorem rN {κ α:Type} {h:Nat×κ->α} {l:List α}:∀{r:List (Nat×κ)},(setX h l r).length=l.length
 |[]=>rfl
 |c::r=>by simp only [setX,List.length_set];exact rN
theorem yB {κ α β:Type} {h:Nat×κ->α} {u:α->β} {l:List α}:∀{r:List (Nat×κ)},(setX h l r).map u=setX (fun c=>u (h c)) (l.map u) r
 |[]=>rfl
 |c::r=>by simp only [setX,Pv];rw [yB]
theorem CZ {κ α:Type} {h h':Nat×κ->α} {l:List α}:∀{r:List (Nat×κ)},(∀c,c∈r->h c=h' c)->setX h l r=setX h' l r
 |[],_=>rfl
 |c::r,e=>by simp only [setX];rw [e c (O6 ..),CZ fun d hd=>e d (OV _ hd)]
theorem yC {κ α:Type} {h:Nat×κ->α} {l:List α} {j:Nat}:∀{r:List (Nat×κ)},(∀c,c∈r->c.1≠j)->(setX h l r)[j]? =l[j]?
 |[],_=>rfl
 |c::r,e=>by simp only [setX];rw [P6 (e c (O6 ..))];exact yC fun d hd=>e d (OV _ hd)
theorem C0 {κ α:Type} {h:Nat×κ->α} {l L:List α} {j:Nat} (hl:l.length=L.length):∀{r:List (Nat×κ)},(∀c,c∈r->L[c.1]? =some (h c))->(∃c,c∈r/\c.1=j)->(setX h l r)[j]? =L[j]?
 |[],_,⟨_,hc,_⟩=>by simp at hc
 |c::r,e,hx=>by
  simp only [setX]
  by_cases q:c.1=j
  ·subst q
   have e1:=e c (O6 ..)
   have:=(Oe.1 e1).1
   rw [List.getElem?_set_self (by rw [rN,hl];exact this),e1]
  ·rw [P6 q]
   refine C0 hl (fun d hd=>e d (OV _ hd)) ?_
   obtain ⟨d,hd,rfl⟩:=hx
   rcases Oj.1 hd with rfl|hd
   ·exact absurd rfl q
   ·exact ⟨d,hd,rfl⟩
theorem K0 {κ α:Type} {h h':Nat×κ->α} {L:List α} {r:List (Nat×κ)} {y z:α} (h1:∀c,c∈r->L[c.1]? =some (h c)) (h2:L[f]? =some z):(setX h ((setX h' L r).set f y) r).set f z=L:=by
 apply List.ext_getElem?
 intro j
 by_cases e:f=j
 ·subst e
  have:=(Oe.1 h2).1
  rw [List.getElem?_set_self (by rw [rN,List.length_set,rN];exact this),h2]
 ·rw [P6 e]
  by_cases q:∃c,c∈r/\c.1=j
  ·exact C0 (by rw [List.length_set,rN]) h1 q
  ·have q':∀c,c∈r->c.1≠j:=fun c hc e2=>q ⟨c,hc,e2⟩
   rw [yC q',P6 e,yC q']
def chkX (vs:List (SV τ dn)) (fx:List (Nat×τ×Nat×Nat)):Bool:=fx.all fun c=>match vs[c.1]? with
 |some (.own a z)=>Nat.beq a c.2.2.1&&Nat.beq z c.2.2.2
 |_=>false
def ofX (c:Nat×τ×Nat×Nat):SV τ dn:= .vl c.2.1 []
def uD (c:Nat×τ×Nat×Nat):SV τ dn:= .own c.2.2.1 c.2.2.2
def n8 (N:aC) (c:Nat×τ×Nat×Nat):AV:= .own (N.ι c.2.2.1) c.2.2.2 0 (N.ln c.2.2.1)
theorem C1 {E:TE τ dn} (c:Nat×τ×Nat×Nat):(uD c:SV τ dn).av E N=n8 N c:=by simp only [uD,n8,SV.av]
theorem K1 {vs:List (SV τ dn)} {fx:List (Nat×τ×Nat×Nat)} (h:chkX vs fx=true) {E:TE τ dn}:∀c,c∈fx->(vs.map (SV.av E N))[c.1]? =some (n8 N c):=fun c hc=>by
 have:=Oc.1 h c hc
 revert this
 cases hv:vs[c.1]? with
 |none=>intro h;simp at h
 |some w=>
  cases w with
  |own a z=>
   intro h
   simp only [N9] at h
   rw [Oy,hv, <-C1 (E:=E),uD, <-Ol h.1, <-Ol h.2];rfl
  |_=>intro h;simp at h
variable [DecidableEq τ]
def eW (D:TD τ dn) (st:SS τ dn):(v:VK τ)->Option (v.T dn)
 | .sl i t=>match st.gt i with
  |some v=>lE D t v
  |none=>none
 | .ow i t=>match st.gt i with
  |some (.own nm sz)=>if sz=D.sz t then lI D st nm t else none
  |_=>none
 | .bl nm t=>lI D st nm t
 | .ce nm t=>match st.gm nm with
  |some (.bc q [cs])=>if q=D.sz t/\cs.all SV.ne=true then D.ds t cs else none
  |_=>none
 | .ar t=>st.fU t
 | .pt i nm sz=>match st.gt i with
  |some (.part nm' sz' off len)=>bif Nat.beq nm' nm&&Nat.beq sz' sz then some (off,len) else none
  |_=>none
 | .so q f t cs=>match st.gm q with
  |some (.bc Q [vs])=>match vs[f]? with
   |some (.own nm sz)=>bif Nat.beq Q cs.length&&(soE vs cs 0 f&&Nat.beq sz (D.sz t)) then lI D st nm t else none
   |_=>none
  |_=>none
 | .sg q f t S fx=>match st.gm q with
  |some (.bc Q [vs])=>match vs[f]? with
   |some (.own nm sz)=>bif Nat.beq Q (D.sz S)&&(Nat.beq sz (D.sz t)&&(((setX ofX vs fx).set f (.vl t [])).all SV.ne&&chkX vs fx)) then (match D.ds S ((setX ofX vs fx).set f (.vl t [])),lI D st nm t with
    |some x,some l=>some (x,l)
    |_,_=>none) else none
   |_=>none
  |_=>none
def lO (D:TD τ dn) (st:SS τ dn):(vs:List (VK τ))->Option (VT dn vs)
 |[]=>some ()
 |v::r=>match eW D st v,lO D st r with
  |some x,some y=>some (x,y)
  |_,_=>none
def nmV (st:SS τ dn):VK τ->Nat
 | .sl _ _=>0
 | .pt _ nm _=>nm
 | .ow i _=>match st.gt i with
  |some (.own nm _)=>nm
  |_=>0
 | .bl nm _| .ce nm _=>nm
 | .ar _=>0
 | .so q f _ _| .sg q f _ _ _=>match st.gm q with
  |some (.bc _ [vs])=>match vs[f]? with
   |some (.own nm _)=>nm
   |_=>0
  |_=>0
def mJ:VK τ->Bool
 | .ow _ _=>true
 | .so _ _ _ _=>true
 | .sg _ _ _ _ _=>true
 |_=>false
def eK:VK τ->Bool
 | .sl _ _=>true
 |_=>false
def ed:List (VK τ)->List Nat
 |[]=>[]
 | .sl i _::r| .ow i _::r| .pt i _ _::r=>i::ed r
 |_::r=>ed r
def n9:List (VK τ)->List Nat->List Nat
 | .sl _ _::r,_::l=>n9 r l
 | .pt _ _ _::r,_::l=>n9 r l
 | .so q _ _ _::r,n::l=>n::q::n9 r l
 | .sg q _ _ _ _::r,n::l=>n::q::n9 r l
 |_::r,n::l=>n::n9 r l
 |_,_=>[]
def movesV:List (VK τ)->List Nat->List Nat
 | .ow _ _::r,n::l=>n::movesV r l
 | .so _ _ _ _::r,n::l=>n::movesV r l
 | .sg _ _ _ _ _::r,n::l=>n::movesV r l
 |_::r,_::l=>movesV r l
 |_,_=>[]
def ic:List (VK τ)->List Nat
 |[]=>[]
 | .so q _ _ cs::r=>q::(cs.map Prod.fst++ic r)
 | .sg q _ _ _ fx::r=>q::(fx.map (fun c=>c.2.2.1)++ic r)
 |_::r=>ic r
def bP (D:TD τ dn):(vs:List (VK τ))->List Nat->VT dn vs->List (Nat×SV τ dn)
 | .sl i t::r,_::l,x=>(i,D.en t x.1)::bP D r l x.2
 | .ow i t::r,n::l,x=>(i, .own n (D.sz t))::bP D r l x.2
 | .bl _ _::r,_::l,x=>bP D r l x.2
 | .ce _ _::r,_::l,x=>bP D r l x.2
 | .ar _::r,_::l,x=>bP D r l x.2
 | .pt i nm sz::r,_::l,x=>(i, .part nm sz x.1.1 x.1.2)::bP D r l x.2
 | .so _ _ _ _::r,_::l,x=>bP D r l x.2
 | .sg _ _ _ _ _::r,_::l,x=>bP D r l x.2
 |_,_,_=>[]
def putM (D:TD τ dn):(vs:List (VK τ))->List Nat->VT dn vs->List (Nat×Option (SB τ dn))
 | .sl _ _::r,_::l,x=>putM D r l x.2
 | .ow _ t::r,n::l,x=>(n,some (.bl t x.1))::putM D r l x.2
 | .bl _ t::r,n::l,x=>(n,some (.bl t x.1))::putM D r l x.2
 | .ce _ t::r,n::l,x=>(n,some (.bc (D.sz t) [D.es t x.1]))::putM D r l x.2
 | .ar t::r,n::l,x=>(n,some (.ar t x.1))::putM D r l x.2
 | .pt _ _ _::r,_::l,x=>putM D r l x.2
 | .so q f t cs::r,n::l,x=>(n,some (.bl t x.1))::(q,some (.bc cs.length [mI cs f n (D.sz t)]))::putM D r l x.2
 | .sg q f t S fx::r,n::l,x=>(n,some (.bl t x.1.2))::(q,some (.bc (D.sz S) [(setX uD (D.es S x.1.1) fx).set f (.own n (D.sz t))]))::putM D r l x.2
 |_,_,_=>[]
def dC:List (VK τ)->List Nat->List Nat->Nat->Nat
 | .ow _ _::r,n::l,m::l',a=>bif Nat.beq a n then m else dC r l l' a
 | .so _ _ _ _::r,n::l,m::l',a=>bif Nat.beq a n then m else dC r l l' a
 | .sg _ _ _ _ _::r,n::l,m::l',a=>bif Nat.beq a n then m else dC r l l' a
 |_::r,_::l,_::l',a=>dC r l l' a
 |_,_,_,a=>a
def rO:List Nat->Bool
 |[]=>true
 |a::r=> !hasN r a&&rO r
end
section
variable {τ:Type} {dn:τ->Type} {D:TD τ dn} {N:aC} {st:SS τ dn} {σ:Nat->AV} {g:Nat->Option Bk}
def C2 (D:TD τ dn) (N:aC) (σ:Nat->AV) (g:Nat->Option Bk):(v:VK τ)->Nat->v.T dn->Prop
 | .sl i t,_,x=>aP (σ i) ((D.en t x).av D.toTE N)
 | .ow i t,n,x=>σ i= .own (N.ι n) (D.sz t) 0 (N.ln n)/\g (N.ι n)=some ⟨D.sz t,x.map (D.ea N.ρ t)⟩/\N.ln n=x.length
 | .bl nm t,n,x=>n=nm/\g (N.ι n)=some ⟨D.sz t,x.map (D.ea N.ρ t)⟩/\N.ln n=x.length
 | .ce nm t,n,x=>n=nm/\g (N.ι n)=some ⟨D.sz t,[D.ea N.ρ t x]⟩/\N.ln n=1
 | .ar t,n,x=>n=0/\g (N.ι n)=some ⟨D.sz t,[]⟩/\N.ln n=0
 | .pt i nm sz,n,x=>n=nm/\σ i= .own (N.ι n) sz x.1 x.2
 | .so q f t cs,n,x=>(g (N.ι n)=some ⟨D.sz t,x.map (D.ea N.ρ t)⟩/\N.ln n=x.length)/\(g (N.ι q)=some ⟨cs.length,[(mI cs f n (D.sz t):List (SV τ dn)).map (SV.av D.toTE N)]⟩/\N.ln q=1)
 | .sg q f t S fx,n,x=>(g (N.ι n)=some ⟨D.sz t,x.2.map (D.ea N.ρ t)⟩/\N.ln n=x.2.length)/\(g (N.ι q)=some ⟨D.sz S,[(setX (n8 N) (D.ea N.ρ S x.1) fx).set f (.own (N.ι n) (D.sz t) 0 (N.ln n))]⟩/\N.ln q=1)
theorem K2 [DecidableEq τ] (ok:aZ D) (R:bg D N st σ g) {v:VK τ} {x:v.T dn} (h:eW D st v=some x):C2 D N σ g v (nmV st v) x:=by
 cases v with
 |sl i t=>
  simp only [eW] at h
  split at h
  ·rename_i w hw
   show aP (σ i) _
   rw [R.gt hw];exact ub ok h
  ·simp at h
 |ow i t=>
  simp only [eW] at h
  split at h
  ·rename_i nm sz hw
   split at h
   ·rename_i hs
    have hn:nmV st (.ow i t)=nm:=by simp only [nmV,hw]
    rw [hn]
    refine ⟨?_,rG ok R h⟩
    rw [R.gt hw,hs];rfl
   ·simp at h
  ·simp at h
 |bl nm t=>exact ⟨rfl,rG ok R h⟩
 |ce nm t=>
  simp only [eW] at h
  split at h
  ·rename_i q cs hB
   split at h
   ·rename_i hq
    obtain ⟨g1,g2⟩:=R.gm hB
    refine ⟨rfl, ?_,g2⟩
    show g (N.ι nm)=_
    rw [g1];simp only [SB.av,SV.bR,SV.bu,hq.1,ok.qU N t _ _ h hq.2]
   ·simp at h
  ·simp at h
 |ar t=>
  simp only [eW] at h
  obtain ⟨g1,g2⟩:=R.gm (mA h)
  exact ⟨rfl,g1,g2⟩
 |pt i nm sz=>
  simp only [eW] at h
  split at h
  ·rename_i nm' sz' off len hw
   cases hb:(Nat.beq nm' nm&&Nat.beq sz' sz) with
   |false=>rw [hb] at h;simp at h
   |true=>
    rw [hb,Ob,N6] at h
    subst h
    rw [N9] at hb
    have e1:=Ol hb.1
    have e2:=Ol hb.2
    subst e1;subst e2
    exact ⟨rfl,R.gt hw⟩
  ·simp at h
 |so q f t cs=>
  simp only [eW] at h
  split at h
  ·rename_i Q vs hB
   split at h
   ·rename_i nm sz hf
    cases hb:(Nat.beq Q cs.length&&(soE vs cs 0 f&&Nat.beq sz (D.sz t))) with
    |false=>rw [hb] at h;simp at h
    |true=>
     rw [hb,Ob] at h
     simp only [N9] at hb
     obtain ⟨b1,b2,b3⟩:=hb
     have hn:nmV st (.so q f t cs)=nm:=by simp only [nmV,hB,hf]
     obtain ⟨g1,g2⟩:=R.gm hB
     have e:=CY b2 (Nat.zero_le _) hf
     rw [Nat.sub_zero,Ol b3] at e
     rw [hn]
     refine ⟨rG ok R h, ?_,g2⟩
     rw [g1,e,Ol b1];simp only [SB.av,SV.bR,SV.bu]
   ·simp at h
  ·simp at h
 |sg q f t S fx=>
  simp only [eW] at h
  split at h
  ·rename_i Q vs hB
   split at h
   ·rename_i nm sz hf
    cases hb:(Nat.beq Q (D.sz S)&&(Nat.beq sz (D.sz t)&&(((setX ofX vs fx).set f (.vl t [])).all SV.ne&&chkX vs fx))) with
    |false=>rw [hb] at h;simp at h
    |true=>
     rw [hb,Ob] at h
     simp only [N9] at hb
     obtain ⟨b1,b2,b3,b4⟩:=hb
     split at h
     ·rename_i y l hx hl
      simp only [N6] at h;subst h
      have hn:nmV st (.sg q f t S fx)=nm:=by simp only [nmV,hB,hf]
      obtain ⟨g1,g2⟩:=R.gm hB
      have e:=ok.qU N S _ _ hx b3
      rw [hn]
      refine ⟨rG ok R hl, ?_,g2⟩
      have hz:=Ol b2
      have gV:(vs.map (SV.av D.toTE N))[f]? =some (.own (N.ι nm) (D.sz t) 0 (N.ln nm)):=by rw [Oy,hf, <-hz];rfl
      rw [g1,Ol b1, <-e,Pv,yB,K0 (K1 b4) gV]
      simp only [SB.av,SV.bR,SV.bu]
     ·simp at h
   ·simp at h
  ·simp at h
inductive jR (D:TD τ dn) (N:aC) (σ:Nat->AV) (g:Nat->Option Bk):(vs:List (VK τ))->List Nat->VT dn vs->Prop
 |nil:jR D N σ g [] [] ()
 |cons {v:VK τ} {vs:List (VK τ)} {n:Nat} {l:List Nat} {x:v.T dn} {y:VT dn vs} (h:C2 D N σ g v n x) (t:jR D N σ g vs l y):jR D N σ g (v::vs) (n::l) (x,y)
theorem uE [DecidableEq τ] (ok:aZ D) (R:bg D N st σ g):∀{vs:List (VK τ)} {x:VT dn vs},lO D st vs=some x->jR D N σ g vs (vs.map (nmV st)) x
 |[],x,h=> .nil
 |v::r,x,h=>by
  simp only [lO] at h
  split at h
  ·rename_i a b h1 h2
   simp only [N6] at h;subst h
   exact .cons (K2 ok R h1) (uE ok R h2)
  ·simp at h
theorem yD {vs:List (VK τ)} {T A:List Nat} (h:¬a∈movesV vs T):dC vs T A a=a:=by
 induction vs generalizing T A with
 |nil=>simp [dC]
 |cons v r ih=>
  cases T with
  |nil=>cases v<;>simp [dC]
  |cons n l=>
   cases A with
   |nil=>cases v<;>simp [dC]
   |cons m l'=>
    cases v with
    |ow i t=>
     simp only [movesV,Oj,not_or] at h
     simp only [dC]
     have:Nat.beq a n=false:=by
      cases hb:Nat.beq a n with
      |false=>rfl
      |true=>exact absurd (Ol hb) h.1
     rw [this,Ot];exact ih h.2
    |so q f t cs=>
     simp only [movesV,Oj,not_or] at h
     simp only [dC]
     have:Nat.beq a n=false:=by
      cases hb:Nat.beq a n with
      |false=>rfl
      |true=>exact absurd (Ol hb) h.1
     rw [this,Ot];exact ih h.2
    |sg q f t S fx=>
     simp only [movesV,Oj,not_or] at h
     simp only [dC]
     have:Nat.beq a n=false:=by
      cases hb:Nat.beq a n with
      |false=>rfl
      |true=>exact absurd (Ol hb) h.1
     rw [this,Ot];exact ih h.2
    |_=>
     simp only [movesV] at h
     simp only [dC];exact ih h
theorem yE (D:TD τ dn) {N N':aC} {σ:Nat->AV} {g:Nat->Option Bk} (fL:N'.ρ=N.ρ) (ok:aZ D):∀{vs:List (VK τ)} {A T:List Nat} {x:VT dn vs},jR D N σ g vs A x->T.length=A.length->
  (∀(j:Nat) v (n m:Nat),vs[j]? =some v->T[j]? =some n->A[j]? =some m->eK v=true\/(N'.ι n=N.ι m/\N'.ln n=N.ln m/\(mJ v=true\/n=m)))->(∀a,a∈ic vs->N'.ι a=N.ι a/\N'.ln a=N.ln a)->jR D N' σ g vs T x
 |[],[],[],x,h,hl,hN,hF=> .nil
 |[],[],_::_,x,h,hl,hN,hF=>by simp at hl
 |v::r,a::A,[],x,h,hl,hN,hF=>by simp at hl
 |v::r,a::A,n::T,x,h,hl,hN,hF=>by
  cases h with
  |cons h t=>
   refine .cons ?_ (yE D fL ok t (by simpa using hl) (fun j v n m h0 h1 h2=>hN (j+1) v n m (by simpa using h0) (by simpa using h1) (by simpa using h2)) (fun a ha=>hF a (by cases v<;>simp only [ic]<;>first|exact ha|exact OV _ (OO _ ha)|exact OV _ ha)))
   have gR:=hN 0 v n a rfl rfl rfl
   cases v with
   |sl i t=>show aP (σ i) _;rw [<-yj ok fL];exact h
   |ow i t=>
    obtain ⟨e1,e2,_⟩:=gR.resolve_left (by simp [eK])
    obtain ⟨h1,h2,h3⟩:=h;exact ⟨by rw [e1,e2];exact h1,by rw [e1,fL];exact h2,by rw [e2];exact h3⟩
   |bl nm t=>
    obtain ⟨e1,e2,e3⟩:=gR.resolve_left (by simp [eK])
    obtain ⟨h1,h2,h3⟩:=h
    have:n=a:=by simpa [mJ] using e3
    exact ⟨this.trans h1,by rw [e1,fL];exact h2,by rw [e2];exact h3⟩
   |pt i nm sz=>
    obtain ⟨e1,e2,e3⟩:=gR.resolve_left (by simp [eK])
    obtain ⟨h1,h2⟩:=h
    have:n=a:=by simpa [mJ] using e3
    exact ⟨this.trans h1,by rw [e1];exact h2⟩
   |ar t=>
    obtain ⟨e1,e2,e3⟩:=gR.resolve_left (by simp [eK])
    obtain ⟨h1,h2,h3⟩:=h
    have:n=a:=by simpa [mJ] using e3
    exact ⟨this.trans h1,by rw [e1];exact h2,by rw [e2];exact h3⟩
   |ce nm t=>
    obtain ⟨e1,e2,e3⟩:=gR.resolve_left (by simp [eK])
    obtain ⟨h1,h2,h3⟩:=h
    have:n=a:=by simpa [mJ] using e3
    exact ⟨this.trans h1,by rw [e1,fL];exact h2,by rw [e2];exact h3⟩
   |so q f t cs=>
    obtain ⟨e1,e2,_⟩:=gR.resolve_left (by simp [eK])
    obtain ⟨⟨h1,h2⟩,h3,h4⟩:=h
    obtain ⟨q1,q2⟩:=hF q (O6 ..)
    have hc:∀c,c∈cs->N'.ι c.1=N.ι c.1/\N'.ln c.1=N.ln c.1:=fun c hc=>hF c.1 (OV _ (OR _ (OE.2 ⟨c,hc,rfl⟩)))
    refine ⟨⟨by rw [e1,fL];exact h1,by rw [e2];exact h2⟩, ?_,by rw [q2];exact h4⟩
    rw [q1,KZ e1 e2 hc];exact h3
   |sg q f t S fx=>
    obtain ⟨e1,e2,_⟩:=gR.resolve_left (by simp [eK])
    obtain ⟨⟨h1,h2⟩,h3,h4⟩:=h
    obtain ⟨q1,q2⟩:=hF q (O6 ..)
    have hc:∀c,c∈fx->n8 N' c=n8 N c:=fun c hc=>by
     obtain ⟨w1,w2⟩:=hF c.2.2.1 (OV _ (OR _ (OE.2 ⟨c,hc,rfl⟩)))
     unfold n8;rw [w1,w2]
    exact ⟨⟨by rw [e1,fL];exact h1,by rw [e2];exact h2⟩,by rw [q1,fL,e1,e2,CZ hc];exact h3,by rw [q2];exact h4⟩
theorem lP:∀{vs:List (VK τ)} {T:List Nat} {x:VT dn vs},jR D N σ g vs T x->∀i v,(i,v)∈bP D vs T x->aP (σ i) (v.av D.toTE N)
 |[],[],x,h,i,v,hm=>by simp [bP] at hm
 |[],_::_,x,h,i,v,hm=>by simp [bP] at hm
 |w::r,[],x,h,i,v,hm=>by cases h
 |w::r,n::T,x,h,i,v,hm=>by
  cases h with
  |cons h t=>
   cases w with
   |sl j ty=>
    simp only [bP,Oj,Oi] at hm
    rcases hm with ⟨rfl,rfl⟩|hm
    ·exact h
    ·exact lP t i v hm
   |ow j ty=>
    simp only [bP,Oj,Oi] at hm
    rcases hm with ⟨rfl,rfl⟩|hm
    ·exact aP.of_eq h.1
    ·exact lP t i v hm
   |bl nm ty=>simp only [bP] at hm;exact lP t i v hm
   |ce nm ty=>simp only [bP] at hm;exact lP t i v hm
   |ar ty=>simp only [bP] at hm;exact lP t i v hm
   |so q f ty cs=>simp only [bP] at hm;exact lP t i v hm
   |sg q f ty S fx=>simp only [bP] at hm;exact lP t i v hm
   |pt j nm sz=>
    simp only [bP,Oj,Oi] at hm
    rcases hm with ⟨rfl,rfl⟩|hm
    ·obtain ⟨h1,h2⟩:=h;subst h1;exact aP.of_eq h2
    ·exact lP t i v hm
theorem kA (ok:aZ D):∀{vs:List (VK τ)} {T:List Nat} {x:VT dn vs},jR D N σ g vs T x->∀nm B,(nm,B)∈putM D vs T x->∃B',B=some B'/\g (N.ι nm)=some (B'.av D.toTE N)/\N.ln nm=B'.len
 |[],[],x,h,nm,B,hm=>by simp [putM] at hm
 |[],_::_,x,h,nm,B,hm=>by simp [putM] at hm
 |w::r,[],x,h,nm,B,hm=>by cases h
 |w::r,n::T,x,h,nm,B,hm=>by
  cases h with
  |cons h t=>
   cases w with
   |sl j ty=>simp only [putM] at hm;exact kA ok t nm B hm
   |ow j ty=>
    simp only [putM,Oj,Oi] at hm
    rcases hm with ⟨rfl,rfl⟩|hm
    ·exact ⟨_,rfl,h.2⟩
    ·exact kA ok t nm B hm
   |bl nm' ty=>
    simp only [putM,Oj,Oi] at hm
    rcases hm with ⟨rfl,rfl⟩|hm
    ·exact ⟨_,rfl,h.2⟩
    ·exact kA ok t nm B hm
   |ce nm' ty=>
    simp only [putM,Oj,Oi] at hm
    rcases hm with ⟨rfl,rfl⟩|hm
    ·obtain ⟨h1,h2,h3⟩:=h
     refine ⟨_,rfl, ?_,h3⟩
     rw [h2];simp only [SB.av,SV.bR,SV.bu,ok.dp]
    ·exact kA ok t nm B hm
   |pt j nm sz=>simp only [putM] at hm;exact kA ok t _ B hm
   |so q f ty cs=>
    simp only [putM,Oj,Oi] at hm
    rcases hm with ⟨rfl,rfl⟩|⟨rfl,rfl⟩|hm
    ·exact ⟨_,rfl,h.1⟩
    ·refine ⟨_,rfl, ?_,h.2.2⟩
     rw [h.2.1];simp only [SB.av,SV.bR,SV.bu]
    ·exact kA ok t _ B hm
   |sg q f ty S fx=>
    simp only [putM,Oj,Oi] at hm
    rcases hm with ⟨rfl,rfl⟩|⟨rfl,rfl⟩|hm
    ·exact ⟨_,rfl,h.1⟩
    ·refine ⟨_,rfl, ?_,h.2.2⟩
     rw [h.2.1];simp only [SB.av,SV.bR,SV.bu,Pv,yB,C1,ok.dp,SV.av]
    ·exact kA ok t _ B hm
   |ar ty=>
    simp only [putM,Oj,Oi] at hm
    rcases hm with ⟨rfl,rfl⟩|hm
    ·exact ⟨_,rfl,h.2⟩
    ·exact kA ok t nm B hm
def okT (p:Nat->Bool):List (VK τ)->List Nat->Bool
 | .pt _ nm _::r,n::l=>p n&&(p nm&&okT p r l)
 | .sl _ _::r,_::l=>okT p r l
 | .so q _ _ cs::r,n::l=>p n&&(p q&&(cs.all (fun c=>p c.1)&&okT p r l))
 | .sg q _ _ _ fx::r,n::l=>p n&&(p q&&(fx.all (fun c=>p c.2.2.1)&&okT p r l))
 |_::r,n::l=>p n&&okT p r l
 |_,_=>true
theorem C3 {p:Nat->Bool}:∀{vs:List (VK τ)} {T:List Nat},okT p vs T=true->∀(j:Nat) v n,vs[j]? =some v->T[j]? =some n->eK v=true\/p n=true
 |[],T,h,j,v,n,h1,h2=>by simp at h1
 |w::r,[],h,j,v,n,h1,h2=>by simp at h2
 |w::r,m::l,h,j,v,n,h1,h2=>by
  cases j with
  |zero=>
   simp only [OI,N6] at h1 h2
   subst h1;subst h2
   cases w<;>simp only [okT,N9] at h<;>first
    |exact .inl rfl
    |exact .inr h.1
  |succ j=>
   have hr:okT p r l=true:=by
    cases w<;>simp only [okT,N9] at h<;>first
     |exact h
     |exact h.2
     |exact h.2.2.2
     |exact h.2.2
   exact C3 hr j v n (by simpa using h1) (by simpa using h2)
theorem lQ {p:Nat->Bool}:∀{vs:List (VK τ)} {T:List Nat},okT p vs T=true->T.length=vs.length->∀a,a∈ic vs->p a=true
 |[],T,h,_,a,ha=>by simp [ic] at ha
 |w::r,[],h,hl,a,ha=>by simp at hl
 |w::r,m::l,h,hl,a,ha=>by
  have dj:l.length=r.length:=by simpa using hl
  cases w with
  |so q f t cs=>
   simp only [okT,N9] at h
   simp only [ic,Oj,OM,OE] at ha
   rcases ha with rfl|⟨c,hc,rfl⟩|ha
   ·exact h.2.1
   ·exact Oc.1 h.2.2.1 c hc
   ·exact lQ h.2.2.2 dj a ha
  |sg q f t S fx=>
   simp only [okT,N9] at h
   simp only [ic,Oj,OM,OE] at ha
   rcases ha with rfl|⟨c,hc,rfl⟩|ha
   ·exact h.2.1
   ·exact Oc.1 h.2.2.1 c hc
   ·exact lQ h.2.2.2 dj a ha
  |sl i t=>simp only [okT] at h;exact lQ h dj a ha
  |pt i nm sz=>simp only [okT,N9] at h;exact lQ h.2.2 dj a ha
  |ow i t=>simp only [okT,N9] at h;exact lQ h.2 dj a ha
  |bl i t=>simp only [okT,N9] at h;exact lQ h.2 dj a ha
  |ce i t=>simp only [okT,N9] at h;exact lQ h.2 dj a ha
  |ar t=>simp only [okT,N9] at h;exact lQ h.2 dj a ha
theorem yF (ok:aZ D) (t:τ) (x:dn t):(D.en t x).fr p=true:=by
 have h:=ok.nf p t x
 unfold TD.en
 cases ha:D.ag t with
 |true=>rw [Ob];simp only [SV.fr];exact h
 |false=>
  rw [Ot]
  cases hs:D.es t x with
  |nil=>rfl
  |cons v r=>rw [hs] at h;simp only [SV.dM,N9] at h;exact h.1
theorem kB (ok:aZ D) {p:Nat->Bool}:∀{vs:List (VK τ)} {T:List Nat} {x:VT dn vs},okT p vs T=true->∀i v,(i,v)∈bP D vs T x->v.fr p=true/\i∈ed vs
 |[],[],x,hp,i,v,hm=>by simp [bP] at hm
 |[],_::_,x,hp,i,v,hm=>by simp [bP] at hm
 |w::r,[],x,hp,i,v,hm=>by cases w<;>simp [bP] at hm
 |w::r,n::T,x,hp,i,v,hm=>by
  cases w with
  |sl j ty=>
   simp only [okT] at hp
   simp only [bP,Oj,Oi] at hm
   simp only [ed,Oj]
   rcases hm with ⟨rfl,rfl⟩|hm
   ·exact ⟨yF ok _ _, .inl rfl⟩
   ·have ih:=kB ok hp i v hm;exact ⟨ih.1, .inr ih.2⟩
  |ow j ty=>
   simp only [okT,N9] at hp
   simp only [bP,Oj,Oi] at hm
   simp only [ed,Oj]
   rcases hm with ⟨rfl,rfl⟩|hm
   ·exact ⟨by simp only [SV.fr];exact hp.1, .inl rfl⟩
   ·have ih:=kB ok hp.2 i v hm;exact ⟨ih.1, .inr ih.2⟩
  |bl nm ty=>
   simp only [okT,N9] at hp
   simp only [bP] at hm;simp only [ed];exact kB ok hp.2 i v hm
  |ce nm ty=>
   simp only [okT,N9] at hp
   simp only [bP] at hm;simp only [ed];exact kB ok hp.2 i v hm
  |ar ty=>
   simp only [okT,N9] at hp
   simp only [bP] at hm;simp only [ed];exact kB ok hp.2 i v hm
  |pt j nm sz=>
   simp only [okT,N9] at hp
   simp only [bP,Oj,Oi] at hm
   simp only [ed,Oj]
   rcases hm with ⟨rfl,rfl⟩|hm
   ·exact ⟨by simp only [SV.fr];exact hp.2.1, .inl rfl⟩
   ·have ih:=kB ok hp.2.2 i v hm;exact ⟨ih.1, .inr ih.2⟩
  |so q f ty cs=>
   simp only [okT,N9] at hp
   simp only [bP] at hm;simp only [ed];exact kB ok hp.2.2.2 i v hm
  |sg q f ty S fx=>
   simp only [okT,N9] at hp
   simp only [bP] at hm;simp only [ed];exact kB ok hp.2.2.2 i v hm
theorem oa {p:Nat->Bool}:∀{vs:List (VK τ)} {T:List Nat} {x:VT dn vs},okT p vs T=true->∀nm B,(nm,B)∈putM D vs T x->p nm=true
 |[],[],x,hp,nm,B,hm=>by simp [putM] at hm
 |[],_::_,x,hp,nm,B,hm=>by simp [putM] at hm
 |w::r,[],x,hp,nm,B,hm=>by cases w<;>simp [putM] at hm
 |w::r,n::T,x,hp,nm,B,hm=>by
  cases w with
  |sl j ty=>simp only [okT] at hp;simp only [putM] at hm;exact oa hp nm B hm
  |pt j nm' sz=>simp only [okT,N9] at hp;simp only [putM] at hm;exact oa hp.2.2 nm B hm
  |so q f ty cs=>
   simp only [okT,N9] at hp
   simp only [putM,Oj,Oi] at hm
   rcases hm with ⟨rfl,_⟩|⟨rfl,_⟩|hm
   ·exact hp.1
   ·exact hp.2.1
   ·exact oa hp.2.2.2 nm B hm
  |sg q f ty S fx=>
   simp only [okT,N9] at hp
   simp only [putM,Oj,Oi] at hm
   rcases hm with ⟨rfl,_⟩|⟨rfl,_⟩|hm
   ·exact hp.1
   ·exact hp.2.1
   ·exact oa hp.2.2.2 nm B hm
  |_=>
   simp only [okT,N9] at hp
   simp only [putM,Oj,Oi] at hm
   rcases hm with ⟨rfl,_⟩|hm
   ·exact hp.1
   ·exact oa hp.2 nm B hm
def lessB (nx:Nat) (a:Nat):Bool:=Nat.blt a nx
theorem rP {nx:Nat} (h:lessB nx a=true):a<nx:=ON h
theorem K3 {nx:Nat} {N:aC} (h:N.agree nx N'):N.same (lessB nx) N':=⟨fun a ha=>h.1 a (rP ha),h.2⟩
theorem C4 (ok:aZ D) {vs:List (VK τ)} {T:List Nat} {x:VT dn vs} {rt:List (Nat×SV τ dn)} {rm:List (Nat×Option (SB τ dn))} {nx:Nat} (hV:jR D N s.σ s.g vs T x) (hT:okT (lessB nx) vs T=true) (hl:T.length=vs.length)
  (K4:∀i v,getS rt i=some v->s.σ i=v.av D.toTE N/\v.fr (lessB nx)=true/\¬i∈ed vs) (ux:∀nm B,getS rm nm=some B->nm<nx/\∀B',B=some B'->s.g (N.ι nm)=some (B'.av D.toTE N)/\N.ln nm=B'.len/\B'.fr (lessB nx)=true)
  (inj:∀a b,a<nx->b<nx->N.ι a=N.ι b->a=b) (lt:∀a,a<nx->N.ι a<s.k)
  (C5:∀t A,(⟨rt,rm,bP D vs T x,putM D vs T x,nx⟩:SS τ dn).bw 0 (.ar t A)->∀id,dw A id->s.g id=some ⟨D.sz t,(fy A id).map (D.ea N.ρ t)⟩/\id<s.k/\∀nm B,(⟨rt,rm,bP D vs T x,putM D vs T x,nx⟩:SS τ dn).bw nm B->N.ι nm≠id):
  ∃s',s.Le k0 n s'/\Rel D N ⟨rt,rm,bP D vs T x,putM D vs T x,nx⟩ s':=by
 let σ':Nat->AV:=fun i=>match getS (bP D vs T x) i with
  |some v=>v.av D.toTE N
  |none=>s.σ i
 refine ⟨⟨σ',s.g,s.k⟩,S3.KX fun i=> ?_,fun N' hN=> ?_,inj,lt,fun nm B h=>rP (oa hT nm B (jg h)),fun nm B h=>(ux nm B h).1,fun t A h id hid=>(C5 t A h id hid).2⟩
 ·show aP (s.σ i) (match getS (bP D vs T x) i with|some v=>v.av D.toTE N|none=>s.σ i)
  split
  ·rename_i v hv;exact lP hV i v (jg hv)
  ·exact aP.refl
 ·have hs:=K3 hN
  have K5:jR D N' s.σ s.g vs T x:=by
   refine yE D hN.2 ok hV rfl (fun j v n m h0 h1 h2=> ?_) fun a ha=>hs.1 a (lQ hT hl a ha)
   rw [h1] at h2;simp only [N6] at h2;subst h2
   rcases C3 hT j v n h0 h1 with h|h
   ·exact .inl h
   ·exact .inr ⟨(hs.1 n h).1,(hs.1 n h).2, .inr rfl⟩
  refine ⟨fun i v h=> ?_,fun i v h=> ?_,fun nm B h=> ?_,fun nm B h=> ?_,fun t A h id hid=>by rw [hN.2];exact (C5 t A h id hid).1⟩
  ·show (match getS (bP D vs T x) i with|some v=>v.av D.toTE N|none=>s.σ i)=_
   have h':getS (bP D vs T x) i=some v:=h
   rw [h']
   exact (px hs v (kB ok hT i v (jg h')).1).symm
  ·show (match getS (bP D vs T x) i with|some v=>v.av D.toTE N|none=>s.σ i)=_
   obtain ⟨h1,h2,h3⟩:=K4 i v h
   split
   ·rename_i w hw;exact absurd (kB ok hT i w (jg hw)).2 h3
   ·rw [h1];exact (px hs v h2).symm
  ·obtain ⟨B',e,h1,h2⟩:=kA ok K5 nm (some B) (jg h)
   simp only [N6] at e;subst e
   exact ⟨h1,h2⟩
  ·obtain ⟨h0,h1⟩:=ux nm (some B) h
   obtain ⟨q1,q2,q3⟩:=h1 B rfl
   exact ⟨by rw [(hN.1 nm h0).1,q1,CX hs B q3],by rw [(hN.1 nm h0).2];exact q2⟩
def oc:VK τ->Bool
 | .pt _ _ _=>true
 |_=>false
theorem K6 [DecidableEq τ] {v:VK τ} {x:v.T dn} (h:eW D st v=some x):(eK v=true\/oc v=true)\/∃B,st.gm (nmV st v)=some B:=by
 have bl:∀{nm t} {xs:List (dn t)},lI D st nm t=some xs->∃B,st.gm nm=some B:=fun {nm t xs} h=>by
  unfold lI at h
  split at h
  ·rename_i hB;exact ⟨_,hB⟩
  ·rename_i hB;exact ⟨_,hB⟩
  ·simp at h
 cases v with
 |sl i t=>exact .inl (.inl rfl)
 |pt i nm sz=>exact .inl (.inr rfl)
 |ow i t=>
  simp only [eW] at h
  split at h
  ·rename_i nm sz hw
   split at h
   ·have hn:nmV st (.ow i t)=nm:=by simp only [nmV,hw]
    rw [hn];exact .inr (bl h)
   ·simp at h
  ·simp at h
 |bl nm t=>exact .inr (bl h)
 |ce nm t=>
  simp only [eW] at h
  split at h
  ·rename_i hB;exact .inr ⟨_,hB⟩
  ·simp at h
 |ar t=>exact .inr ⟨_,mA h⟩
 |so q f t cs=>
  simp only [eW] at h
  split at h
  ·rename_i Q vs hB
   split at h
   ·rename_i nm sz hf
    have hn:nmV st (.so q f t cs)=nm:=by simp only [nmV,hB,hf]
    cases hb:(Nat.beq Q cs.length&&(soE vs cs 0 f&&Nat.beq sz (D.sz t))) with
    |false=>rw [hb] at h;simp at h
    |true=>rw [hb,Ob] at h;rw [hn];exact .inr (bl h)
   ·simp at h
  ·simp at h
 |sg q f t S fx=>
  simp only [eW] at h
  split at h
  ·rename_i Q vs hB
   split at h
   ·rename_i nm sz hf
    have hn:nmV st (.sg q f t S fx)=nm:=by simp only [nmV,hB,hf]
    cases hb:(Nat.beq Q (D.sz S)&&(Nat.beq sz (D.sz t)&&(((setX ofX vs fx).set f (.vl t [])).all SV.ne&&chkX vs fx))) with
    |false=>rw [hb] at h;simp at h
    |true=>
     rw [hb,Ob] at h
     split at h
     ·rename_i y l hx hl
      rw [hn];exact .inr (bl hl)
     ·simp at h
   ·simp at h
  ·simp at h
theorem K7 [DecidableEq τ] {t S:τ} {fx:List (Nat×τ×Nat×Nat)} {x:(VK.sg q f t S fx).T dn} (h:eW D st (.sg q f t S fx)=some x):∃B,st.gm q=some B:=by
 simp only [eW] at h
 split at h
 ·rename_i Q vs hB;exact ⟨_,hB⟩
 ·simp at h
theorem K8 [DecidableEq τ] {t:τ} {x:(VK.so q f t cs).T dn} (h:eW D st (.so q f t cs)=some x):∃B,st.gm q=some B:=by
 simp only [eW] at h
 split at h
 ·rename_i Q vs hB;exact ⟨_,hB⟩
 ·simp at h
theorem uF [DecidableEq τ] {st:SS τ dn}:∀{vs:List (VK τ)} {T:List Nat} {x:VT dn vs},lO D st vs=some x->T.length=vs.length->∀nm B,(nm,some B)∈putM D vs T x->(∃(j:Nat) (v:VK τ),vs[j]? =some v/\T[j]? =some nm/\eK v=false/\(∃B',st.gm (nmV st v)=some B')/\(∀t A,B= .ar t A->v= .ar t/\st.gm 0=some (.ar t A)))\/(nm∈ic vs/\(∃B',st.gm nm=some B')/\∀t A,B≠ .ar t A)
 |[],[],x,h,hl,nm,B,hm=>by simp [putM] at hm
 |[],_::_,x,h,hl,nm,B,hm=>by simp at hl
 |v::r,[],x,h,hl,nm,B,hm=>by simp at hl
 |v::r,n::T,x,h,hl,nm,B,hm=>by
  simp only [lO] at h
  split at h
  case h_2=>simp at h
  rename_i a b h1 h2
  simp only [N6] at h;subst h
  have ih:(nm,some B)∈putM D r T b->(∃(j:Nat) (w:VK τ),(v::r)[j]? =some w/\(n::T)[j]? =some nm/\eK w=false/\(∃B',st.gm (nmV st w)=some B')/\(∀t A,B= .ar t A->w= .ar t/\st.gm 0=some (.ar t A)))\/(nm∈ic (v::r)/\(∃B',st.gm nm=some B')/\∀t A,B≠ .ar t A):=fun hm=>by
   rcases uF h2 (by simpa using hl) nm B hm with ⟨j,w,q⟩|⟨q1,q2⟩
   ·exact .inl ⟨j+1,w,by simpa using q⟩
   ·exact .inr ⟨by cases v<;>simp only [ic]<;>first|exact q1|exact OV _ (OO _ q1)|exact OV _ q1,q2⟩
  have hal:=K6 h1
  cases v with
  |sl i t=>simp only [putM] at hm;exact ih hm
  |pt i nm' sz=>simp only [putM] at hm;exact ih hm
  |so q f t cs=>
   simp only [putM,Oj,Oi,N6] at hm
   rcases hm with ⟨rfl,rfl⟩|⟨rfl,rfl⟩|hm
   ·exact .inl ⟨0,_,rfl,rfl,rfl,hal.resolve_left (by simp [eK,oc]),fun t A e=>by simp at e⟩
   ·exact .inr ⟨O6 ..,K8 h1,fun t A e=>by simp at e⟩
   ·exact ih hm
  |sg q f t S fx=>
   simp only [putM,Oj,Oi,N6] at hm
   rcases hm with ⟨rfl,rfl⟩|⟨rfl,rfl⟩|hm
   ·exact .inl ⟨0,_,rfl,rfl,rfl,hal.resolve_left (by simp [eK,oc]),fun t A e=>by simp at e⟩
   ·exact .inr ⟨O6 ..,K7 h1,fun t A e=>by simp at e⟩
   ·exact ih hm
  |ow i t=>
   simp only [putM,Oj,Oi,N6] at hm
   rcases hm with ⟨rfl,rfl⟩|hm
   ·exact .inl ⟨0,_,rfl,rfl,rfl,hal.resolve_left (by simp [eK,oc]),fun t A e=>by simp at e⟩
   ·exact ih hm
  |bl i t=>
   simp only [putM,Oj,Oi,N6] at hm
   rcases hm with ⟨rfl,rfl⟩|hm
   ·exact .inl ⟨0,_,rfl,rfl,rfl,hal.resolve_left (by simp [eK,oc]),fun t A e=>by simp at e⟩
   ·exact ih hm
  |ce i t=>
   simp only [putM,Oj,Oi,N6] at hm
   rcases hm with ⟨rfl,rfl⟩|hm
   ·exact .inl ⟨0,_,rfl,rfl,rfl,hal.resolve_left (by simp [eK,oc]),fun t A e=>by simp at e⟩
   ·exact ih hm
  |ar t=>
   simp only [putM,Oj,Oi,N6] at hm
   rcases hm with ⟨rfl,rfl⟩|hm
   ·refine .inl ⟨0,_,rfl,rfl,rfl,hal.resolve_left (by simp [eK,oc]),fun t' A e=> ?_⟩
    simp only [SB.ar.injEq] at e
    obtain ⟨rfl,e⟩:=e
    have e:=eq_of_heq e
    subst e
    exact ⟨rfl,mA h1⟩
   ·exact ih hm
end
open Go.RowKit
inductive Fz (g:Nat->Option Bk) (F:List Nat):AV->AV->Prop
 |refl {a:AV}:Fz g F a a
 |snap {a a':AV} (hid:∀id,id∈a.bS->id∈F) (h:(snap1 a).run g=some a'):Fz g F a a'
 |agg {cs ds:List AV} (hl:cs.length=ds.length) (h:∀(i:Nat) c d,cs[i]? =some c->ds[i]? =some d->Fz g F c d):Fz g F (.agg cs) (.agg ds)
 |aK {cs ds:List AV} (hl:cs.length=ds.length) (h:∀(i:Nat) c d,cs[i]? =some c->ds[i]? =some d->Fz g F c d):Fz g F (.aK cs) (.aK ds)
 |fn {f:FuncId} {cs ds:List AV} (hl:cs.length=ds.length) (h:∀(i:Nat) c d,cs[i]? =some c->ds[i]? =some d->Fz g F c d):Fz g F (.fn f cs) (.fn f ds)
 |bf {f:FuncId} {cs ds:List AV} (hl:cs.length=ds.length) (h:∀(i:Nat) c d,cs[i]? =some c->ds[i]? =some d->Fz g F c d):Fz g F (.bf f cs) (.bf f ds)
theorem K9 {a:AV} (h:(snap1 a).run g=some a'):Pu a':=by
 have other:(if a.pu1=true then RM.ret a else RM.fail).run g=some a'->Pu a':=fun h=>by
  split at h
  ·rename_i hp;simp only [RM.run,N6] at h;subst h;exact AV.qi hp
  ·simp [RM.run] at h
 cases a with
 |own id sz off n=>
  simp only [snap1] at h
  obtain ⟨els,h1,h2⟩:=cA h
  split at h2
  ·simp only [RM.run,N6] at h2;subst h2;exact .aU
  ·simp [RM.run] at h2
 |ref id sz i o=>
  simp only [snap1,RM.run] at h
  cases hB:g id with
  |none=>simp [hB] at h
  |some B=>
   simp only [hB] at h
   split at h
   ·split at h
    ·split at h
     ·simp only [RM.run,N6] at h;subst h;exact .pim
     ·simp [RM.run] at h
    ·simp [RM.run] at h
   ·simp [RM.run] at h
 |_=>exact other h
section
variable {E E':Env} {J:Nat->Prop} {base:Nat} {g:Nat->Option Bk} {F:List Nat}
theorem Lc (hm:aE E J base g) (hE:E.Le E') (hw:E'.w=E.w) (hI:∀id b B,id∈F->g id=some B->E.loc id=some b->E'.I b) (j6:∀b,E.I b->E'.I b) {a:AV} (hf:Fz g F a a'):∀{v:Value},aj E v a->aj E' v a':=by
 have cells:∀{vs:Array Value} {cs ds:List AV},cs.length=ds.length->(∀(i:Nat) c d,cs[i]? =some c->ds[i]? =some d->∀{v:Value},aj E v c->aj E' v d)->(∀(i:Nat) v c,vs[i]? =some v->cs[i]? =some c->aj E v c)->∀(i:Nat) v d,vs[i]? =some v->ds[i]? =some d->aj E' v d:=fun {vs cs ds} hl ih h i v d hv hd=>by
  have hi:i<cs.length:=by rw [hl];exact (Oe.1 hd).1
  exact ih i cs[i] d (Oq hi) hd (h i v _ hv (Oq hi))
 induction hf with
 |refl=>intro v h;exact h.step hE
 | @snap a a' hid h=>
  intro v hr
  have h1:=wq hm E'.I hr h (fun b hb=>by
   rcases hb with hb|⟨id,B,h1,h2,h3⟩
   ·exact j6 b hb
   ·exact hI id b B (hid id h1) h2 h3)
  exact aj.pure (E:=Proofs.Ytimomnfobfjggaa.E0 E.w E'.I) (E':=E') (fun b hb=>⟨hb,fun o=>by rw [hw];rfl⟩) h1 (K9 h)
 |agg hl h ih=>intro v hr;cases hr with|agg dj hr=>exact .agg (dj.trans hl) (cells hl (fun i c d h1 h2 v h3=>ih i c d h1 h2 h3) hr)
 |aK hl h ih=>intro v hr;cases hr with|aK dj hr=>exact .aK (dj.trans hl) (cells hl (fun i c d h1 h2 v h3=>ih i c d h1 h2 h3) hr)
 |fn hl h ih=>intro v hr;cases hr with|fn dj hr=>exact .fn (dj.trans hl) (cells hl (fun i c d h1 h2 v h3=>ih i c d h1 h2 h3) hr)
 |bf hl h ih=>intro v hr;cases hr with|bf dj hr=>exact .bf (dj.trans hl) (cells hl (fun i c d h1 h2 v h3=>ih i c d h1 h2 h3) hr)
def lR (g:Nat->Option Bk) (F:List Nat) (els gP:List (List AV)):Prop:=els.length=gP.length/\∀(i:Nat) cs ds,els[i]? =some cs->gP[i]? =some ds->cs.length=ds.length/\∀(j:Nat) c d,cs[j]? =some c->ds[j]? =some d->Fz g F c d
theorem lR.refl {els:List (List AV)}:lR g F els els:=⟨rfl,fun i cs ds h1 h2=>by rw [h1] at h2;cases h2;exact ⟨rfl,fun j c d h3 h4=>by rw [h3] at h4;cases h4;exact .refl⟩⟩
theorem S3.C6 {g':Nat->Option Bk} (hσ:∀i,Fz s.g F (s.σ i) (σ' i)) (hF:∀id,id∈F->∃B,s.g id=some B) (C7:∀id,id∈F->g' id=none) (C8:∀id,¬id∈F->s.g id=none->g' id=none) (C9:∀id B,¬id∈F->s.g id=some B->∃B',g' id=some B'/\B'.sz=B.sz/\lR s.g F B.els B'.els):s.Le k0 n ⟨σ',g',s.k⟩:=by
 intro E0 J base w0 a w hk hr
 obtain ⟨E,rfl,hle,hs,hm,aX,hmk⟩:=hr.ex
 obtain ⟨E',hw,hE,hM,k1,k2,k3⟩:=hm.kill F (fun id hid=>by obtain ⟨B,hB⟩:=hF id hid;exact ((hm.live id).2 ⟨B,hB⟩).1)
 have rep:∀{a a':AV},Fz s.g F a a'->∀{v:Value},aj E v a->aj E' v a':=fun h=>Lc hm hE hw k2 k3 h
 have key:∀id,aA s.g (F.map fun id=>(id,none)) id=if id∈F then none else s.g id:=fun id=>rB F s.g id
 refine ⟨⟨E',hw,hle.trans hE,fun j=>rep (hσ j) (hs j), ?_,fun id hid=>aX id (k1 id hid),hmk.step hE⟩,hr.size,hr.below,hr.gl⟩
 have old:∀{id B'},g' id=some B'->¬id∈F/\∃B,s.g id=some B/\B'.sz=B.sz/\lR s.g F B.els B'.els:=fun {id B'} h=>by
  by_cases hid:id∈F
  ·rw [C7 id hid] at h;simp at h
  ·refine ⟨hid, ?_⟩
   cases hB:s.g id with
   |none=>rw [C8 id hid hB] at h;simp at h
   |some B=>
    obtain ⟨B2,q1,q2,q3⟩:=C9 id B hid hB
    rw [q1] at h;simp only [N6] at h;subst h
    exact ⟨B,rfl,q2,q3⟩
 have kq:∀{id B},¬id∈F->s.g id=some B->aA s.g (F.map fun id=>(id,none)) id=some B:=fun h1 h2=>by rw [key,N7 h1];exact h2
 refine ⟨fun id=> ?_,fun id B' hg=> ?_,fun id b5 b B1 B2 h1 h2 h3 h4=> ?_,fun id b B' hg hb hI=> ?_,hM.low,hM.size,fun id B' hg hz=> ?_,hM.fb,fun b hX=>⟨(hM.xo b hX).1,(hM.xo b hX).2.1,fun k B1 hk he=> ?_⟩⟩
 ·show _↔∃B,g' id=some B
  rw [hM.live id,key]
  by_cases hid:id∈F
  ·rw [N8 hid,C7 id hid]
  ·rw [N7 hid]
   cases hB:s.g id with
   |none=>rw [C8 id hid hB]
   |some B=>
    obtain ⟨B',q1,_⟩:=C9 id B hid hB
    rw [q1];exact ⟨fun _=>⟨_,rfl⟩,fun _=>⟨_,rfl⟩⟩
 ·obtain ⟨hid,B,hB,hz,fj,hf⟩:=old hg
  have ma:=(hM.live id).2 ⟨B,kq hid hB⟩
  have Da:=(hm.live id).2 ⟨B,hB⟩
  have hloc:E'.loc id=E.loc id:=(hE.loc id Da.1 Da.2).resolve_left ma.2
  rw [hloc]
  have h0:=hm.at_ id B hB
  cases hl:E.loc id with
  |none=>
   rw [hl] at h0
   have l9:B.els=[]:=h0
   show B'.els=[]
   rw [l9] at fj
   exact Pj (by simpa using fj.symm)
  |some b=>
   rw [hl] at h0
   have get:∀{els gP:List (List AV)} {i:Nat} {ds:List AV},els.length=gP.length->gP[i]? =some ds->∃cs,els[i]? =some cs:=fun {els gP i ds} hl h=>⟨_,Oq (by rw [hl];exact (Oe.1 h).1)⟩
   obtain ⟨h1,⟨hz0,arr,t,h2,h3,h4⟩|⟨hz0,es,c,h2,h3,h4⟩⟩:=h0
   ·refine .iK ⟨h1,arr,t,by rw [hw];exact h2,by rw [<-fj,hz];exact h3,fun i ds hi=> ?_⟩ (by rw [hz];exact hz0)
    obtain ⟨cs,hc⟩:=get fj hi
    obtain ⟨e1,e2⟩:=hf i cs ds hc hi
    refine ⟨by rw [<-e1,hz];exact (h4 i cs hc).1,fun j d hj=> ?_⟩
    have bj:j<cs.length:=by rw [e1];exact (Oe.1 hj).1
    obtain ⟨u,u1,u2,u3⟩:=(h4 i cs hc).2 j cs[j] (Oq bj)
    exact ⟨u,by rw [hz];exact u1,u2,rep (e2 j _ d (Oq bj) hj) u3⟩
   ·refine .ofMap ⟨h1,es,c,by rw [hw];exact h2,by rw [<-fj];exact h3,fun i e ds he hi=> ?_⟩ (by rw [hz];exact hz0)
    obtain ⟨cs,hc⟩:=get fj hi
    obtain ⟨e1,e2⟩:=hf i cs ds hc hi
    obtain ⟨x,rfl,x2,x3⟩:=h4 i e cs he hc
    match ds,e1 with
    |[d1,d2],_=>
     have f1:=e2 0 _ d1 rfl rfl
     have f2:=e2 1 _ d2 rfl rfl
     have:d1= .v e.key:=by
      generalize hq:(AV.v e.key)=q at f1
      cases f1 with
      |refl=>rfl
      |snap _ h=>subst hq;simp [snap1,AV.pu1,RM.run] at h;exact h.symm
      |_=>simp at hq
     subst this
     exact ⟨d2,rfl,x2,rep f2 x3⟩
 ·obtain ⟨q1,B3,q2,_⟩:=old h1
  obtain ⟨q3,B4,q4,_⟩:=old h2
  exact hM.apart id b5 b B3 B4 (kq q1 q2) (kq q3 q4) h3 h4
 ·obtain ⟨q1,B3,q2,_⟩:=old hg
  exact hM.out id b B3 (kq q1 q2) hb hI
 ·obtain ⟨q1,B3,q2,q3,q4,_⟩:=old hg
  rw [<-q4]
  exact hM.len id B3 (kq q1 q2) (by rw [<-q3];exact hz)
 ·obtain ⟨q1,B3,q2,_⟩:=old hk
  exact (hM.xo b hX).2.2 k B3 (kq q1 q2) he
end
section
variable {τ:Type} {dn:τ->Type} [DecidableEq τ]
def uG (D:TD τ dn) (ta:τ) (A:List (Nat×List (dn ta))):SB τ dn->Option (SB τ dn×Prop)
 | .bl t K=>match D.fz t ta A with
  |some ⟨t',f,O⟩=>some (.bl t' (K.map f),∀x,x∈K->O x)
  |none=>none
 |_=>none
def mK (D:TD τ dn) (st:SS τ dn) (ta:τ) (A:List (Nat×List (dn ta))):List Nat->List (Nat×(SB τ dn×Prop))
 |[]=>[]
 |nm::l=>match st.gm nm with
  |some B=>match uG D ta A B with
   |some q=>bif !Nat.beq nm 0&&st.rw nm then (nm,q)::mK D st ta A l else mK D st ta A l
   |none=>mK D st ta A l
  |none=>mK D st ta A l
theorem rQ {D:TD τ dn} {st:SS τ dn} {ta:τ} {A:List (Nat×List (dn ta))}:∀{l:List Nat} {q:Nat×(SB τ dn×Prop)},q∈mK D st ta A l->∃B,st.gm q.1=some B/\uG D ta A B=some q.2/\q.1≠0/\st.rw q.1=true
 |[],q,h=>by simp [mK] at h
 |nm::l,q,h=>by
  simp only [mK] at h
  split at h
  ·rename_i B hB
   split at h
   ·rename_i p hp
    cases hc:(!Nat.beq nm 0&&st.rw nm) with
    |false=>rw [hc,Ot] at h;exact rQ h
    |true=>
     rw [hc,Ob,Oj] at h
     rcases h with rfl|h
     ·simp only [N9,Ov] at hc
      exact ⟨B,hB,hp,fun e=>by have:=hc.1;rw [show nm=0 from e] at this;simp at this,hc.2⟩
     ·exact rQ h
   ·exact rQ h
  ·exact rQ h
def SS.uH (D:TD τ dn) (st:SS τ dn) (l:List Nat):Option (List Prop×SS τ dn):=match st.gm 0 with
 |some (.ar ta A)=>match mK D st ta A l with
  |[]=>none
  |q::L=>bif D.pu ta&&st.rw 0 then some ((q::L).map (fun q=>q.2.2),⟨st.rt,st.rm,st.t,(q::L).map (fun q=>(q.1,some q.2.1))++(0,some (.ar ta []))::st.m,st.nx⟩) else none
 |_=>none
theorem Db {α β:Type} {f:β->α} {r:List (Nat×α)}:∀{L:List (Nat×β)} {a:Nat},(∃q,q∈L/\q.1=a/\getS (L.map (fun q=>(q.1,f q.2))++r) a=some (f q.2))\/((∀q,q∈L->q.1≠a)/\getS (L.map (fun q=>(q.1,f q.2))++r) a=getS r a)
 |[],a=> .inr ⟨fun q h=>by simp at h,rfl⟩
 |q::L,a=>by
  rw [Om,Ps,ba]
  by_cases h:a=q.1
  ·rw [N8 h];exact .inl ⟨q,O6 ..,h.symm,rfl⟩
  ·rw [N7 h]
   rcases Db (f:=f) (r:=r) (L:=L) (a:=a) with ⟨p,h1,h2,h3⟩|⟨h1,h2⟩
   ·exact .inl ⟨p,OV _ h1,h2,h3⟩
   ·refine .inr ⟨fun p hp=> ?_,h2⟩
    rcases Oj.1 hp with rfl|hp
    ·exact fun e=>h e.symm
    ·exact h1 p hp
theorem Dc {D:TD τ dn} (ok:aZ D) {st aw:SS τ dn} (R:Rel D N st s) (h:st.uH D l=some (O,aw)) (hO:∀p,p∈O->p):∃s',s.Le k0 n s'/\Rel D N aw s'/\aw.rt=st.rt/\aw.rm=st.rm/\aw.nx=st.nx:=by
 unfold SS.uH at h
 split at h
 case h_2=>simp at h
 rename_i ta A jz
 split at h
 ·simp at h
 rename_i q0 L0 hL
 cases hc:(D.pu ta&&st.rw 0) with
 |false=>rw [hc] at h;simp at h
 |true=>
 rw [hc,Ob,N6,Oi] at h
 obtain ⟨rfl,rfl⟩:=h
 have cS:∀q,q∈q0::L0->∃B,st.gm q.1=some B/\uG D ta A B=some q.2/\q.1≠0/\st.rw q.1=true:=fun q hq=>rQ (l:=l) (by rw [hL];exact hq)
 generalize q0::L0=L at hO cS
 clear hL q0 L0
 simp only [N9] at hc
 obtain ⟨qI,yh⟩:=hc
 obtain ⟨⟨B2,m2⟩,r2⟩:=jM yh
 have hB2:B2= .ar ta A:=by have:=mC m2;rw [this] at jz;simpa using jz
 subst hB2
 have nL:=R.ml 0 _ m2
 have hA:=R.here
 have hrow:=hA.ar ta A (.inl m2)
 have Ld:=R.sp ta A (.inl m2)
 have hq:∀q,q∈L->∃t K t' f O,getS st.m q.1=some (some (.bl t K))/\getS st.rm q.1=none/\q.1≠0/\D.fz t ta A=some ⟨t',f,O⟩/\q.2.1= .bl t' (K.map f)/\∀x,x∈K->O x:=fun q hq=>by
  obtain ⟨B,h1,h2,h3,h4⟩:=cS q hq
  obtain ⟨⟨B1,m1⟩,r1⟩:=jM h4
  have hB1:B1=B:=by have:=mC m1;rw [this] at h1;simpa using h1
  subst hB1
  unfold uG at h2
  split at h2
  case h_2=>simp at h2
  rename_i t K
  split at h2
  case h_2=>simp at h2
  rename_i t' f O hfz
  simp only [N6] at h2
  have e1:q.2.1= .bl t' (K.map f):=by rw [<-h2]
  have e2:q.2.2=∀x,x∈K->O x:=by rw [<-h2]
  have e3:q.2.2:=hO _ (OE.2 ⟨q,hq,rfl⟩)
  exact ⟨t,K,t',f,O,m1,r1,h3,hfz,e1,e2▸e3⟩
 have rR:∀q p,q∈L->p∈L->q.1=p.1->q=p:=fun q p hq hp e=>by
  obtain ⟨B,h1,h2,_⟩:=cS q hq
  obtain ⟨C,g1,g2,_⟩:=cS p hp
  rw [e,g1] at h1
  simp only [N6] at h1;subst h1
  rw [g2] at h2
  simp only [N6] at h2
  exact Prod.ext e h2.symm
 let F:List Nat:=A.map Prod.fst
 have yG:∀{id},id∈F↔dw A id:=fun {id}=>Iff.rfl
 let φ:AV->AV:=fun a=>match a with
  | .own id sz off n=>if id∈F then ((snap1 (.own id sz off n)).run s.g).getD (.own id sz off n) else .own id sz off n
  |a=>a
 have Lf:∀a,a.pu1=true->φ a=a:=fun a ha=>by cases a<;>first|rfl|(simp [AV.pu1] at ha)
 have Lg:∀a,Fz s.g F a (φ a):=fun a=>by
  cases a with
  |own id sz off n=>
   show Fz s.g F _ (if id∈F then _ else _)
   by_cases hid:id∈F
   ·rw [N8 hid]
    cases hs:(snap1 (.own id sz off n)).run s.g with
    |none=>exact .refl
    |some a'=>exact .snap (fun i hi=>by simp only [AV.bS,Of] at hi;subst hi;exact hid) hs
   ·rw [N7 hid];exact .refl
  |_=>exact .refl
 have Lh:∀id n,dw A id->(fy A id).length=n->φ (.own id (D.sz ta) 0 n)= .aU (D.sz ta) ((fy A id).map (D.ea N.ρ ta)):=fun id n hid hn=>by
  show (if id∈F then _ else _)=_
  rw [N8 (yG.2 hid)]
  have c1:(content (D.sz ta) (.own id (D.sz ta) 0 n)).run s.g=some ((fy A id).map (D.ea N.ρ ta)):=by
   simp only [content,RM.run,hrow id hid, <-hn,On,Ox,Og,Ow,Oa,PV]
   rw [PA (by simp)]
  have bI:(((fy A id).map (D.ea N.ρ ta)).all fun cs=>cs.all AV.pu1)=true:=by
   simp only [Oc,OE]
   rintro _ ⟨y,_,rfl⟩
   have:=ok.pu1 N ta y qI
   simpa [Oc] using this
  simp only [snap1]
  rw [dq c1]
  simp only [bI,Oa,RM.run,O8]
 have eF:∀a B,st.bw a B->¬N.ι a∈F:=fun a B hB hh=>(Ld _ (yG.1 hh)).2 a B hB rfl
 have hlt:∀q,q∈L->q.1<st.nx:=fun q ir=>by
  obtain ⟨t,K,t',f,O,h1,_⟩:=hq q ir
  exact R.ml _ _ h1
 let g':Nat->Option Bk:=fun id=>if id∈F then none else match L.find? fun q=>N.ι q.1==id with
  |some q=>some (q.2.1.av D.toTE N)
  |none=>s.g id
 have gc:∀id,¬id∈F->(∃q,q∈L/\N.ι q.1=id/\g' id=some (q.2.1.av D.toTE N))\/((∀q,q∈L->N.ι q.1≠id)/\g' id=s.g id):=fun id hid=>by
  show (∃q,q∈L/\N.ι q.1=id/\(if id∈F then none else match L.find? (fun q=>N.ι q.1==id) with|some q=>some (q.2.1.av D.toTE N)|none=>s.g id)=some (q.2.1.av D.toTE N))\/((∀q,q∈L->N.ι q.1≠id)/\(if id∈F then none else match L.find? (fun q=>N.ι q.1==id) with|some q=>some (q.2.1.av D.toTE N)|none=>s.g id)=s.g id)
  rw [N7 hid]
  cases hf:L.find? (fun q=>N.ι q.1==id) with
  |none=>
   rw [List.find?_eq_none] at hf
   exact .inr ⟨fun q hq e=>by have:=hf q hq;simp [e] at this,rfl⟩
  |some q=>
   have h1:=List.find?_some hf
   simp only [beq_iff_eq] at h1
   exact .inl ⟨q,List.mem_of_find?_eq_some hf,h1,rfl⟩
 refine ⟨⟨s.σ,g',s.k⟩,S3.C6 (F:=F) (fun i=> .refl) (fun id hid=>⟨_,hrow id (yG.1 hid)⟩) (fun id hid=>N8 hid) (fun id hid hn=> ?_) (fun id B hid hB=> ?_), ?_,rfl,rfl,rfl⟩
 ·show g' id=none
  rcases gc id hid with ⟨q,h1,h2,h3⟩|⟨h1,h2⟩
  ·obtain ⟨t,K,t',f,O,m1,_⟩:=hq q h1
   rw [<-h2,(hA.bl _ _ m1).1] at hn;simp at hn
  ·rw [h2];exact hn
 ·show ∃B',g' id=some B'/\_
  rcases gc id hid with ⟨q,h1,h2,h3⟩|⟨h1,h2⟩
  ·obtain ⟨t,K,t',f,O,m1,_,_,hfz,e1,Li⟩:=hq q h1
   obtain ⟨hz,Lj⟩:=ok.fz N φ t ta A t' f O hfz Lf Lh
   rw [<-h2,(hA.bl _ _ m1).1] at hB
   simp only [SB.av,N6] at hB
   subst hB
   refine ⟨_,h3,by rw [e1];exact hz,by rw [e1];simp [SB.av],fun i cs ds h1 h2=> ?_⟩
   rw [e1] at h2
   simp only [SB.av,Oy,Od] at h1 h2
   obtain ⟨x,hx,rfl⟩:=h1
   obtain ⟨_,⟨y,hy,rfl⟩,rfl⟩:=h2
   rw [hx] at hy;simp only [N6] at hy;subst hy
   have e:=Lj x (Li x (OG hx))
   rw [<-e]
   refine ⟨by simp,fun j c d h3 h4=> ?_⟩
   rw [Oy,h3] at h4
   simp only [Oh,N6] at h4
   subst h4;exact Lg c
  ·rw [h2];exact ⟨B,hB,rfl,lR.refl⟩
 ·have di:∀a X,getS (L.map (fun q=>(q.1,some q.2.1))++(0,some (SB.ar ta ([]:List (Nat×List (dn ta)))))::st.m) a=some X->(∃q,q∈L/\q.1=a/\X=some q.2.1)\/(a=0/\X=some (.ar ta []))\/(a≠0/\(∀q,q∈L->q.1≠a)/\getS st.m a=some X):=fun a X h=>by
   rcases Db (f:=fun p:SB τ dn×Prop=>some p.1) (r:=(0,some (SB.ar ta ([]:List (Nat×List (dn ta)))))::st.m) (L:=L) (a:=a) with ⟨q,h1,h2,h3⟩|⟨h1,h2⟩
   ·rw [h3] at h;simp only [N6] at h;exact .inl ⟨q,h1,h2,h.symm⟩
   ·rw [h2,ba] at h
    by_cases h0:a=0
    ·rw [N8 h0] at h;simp only [N6] at h;exact .inr (.inl ⟨h0,h.symm⟩)
    ·rw [N7 h0] at h;exact .inr (.inr ⟨h0,h1,h⟩)
  have Dd:∀t2 A2,(⟨st.rt,st.rm,st.t,L.map (fun q=>(q.1,some q.2.1))++(0,some (.ar ta []))::st.m,st.nx⟩:SS τ dn).bw 0 (.ar t2 A2)->∀id,¬dw A2 id:=fun t2 A2 h id hid=>by
   rcases h with h|h
   ·rcases di 0 _ h with ⟨q,h1,e,_⟩|⟨_,e⟩|⟨e,_⟩
    ·obtain ⟨t,K,t',f,O,m1,_,hz,_⟩:=hq q h1
     exact hz e
    ·simp only [N6,SB.ar.injEq] at e
     obtain ⟨rfl,e⟩:=e
     have e:=eq_of_heq e
     subst e;exact BR hid
    ·exact e rfl
   ·have h':getS st.rm 0=some (some (.ar t2 A2)):=h
    rw [r2] at h';simp at h'
  refine ⟨fun N' hN=> ?_,R.inj,R.lt,fun a X h=> ?_,R.rl,fun t2 A2 h id hid=>absurd hid (Dd t2 A2 h id)⟩
  ·have A':=R.at_ N' hN
   have yH:∀a B,st.bw a B->a<st.nx->(∀q,q∈L->q.1≠a)->g' (N'.ι a)=s.g (N'.ι a):=fun a B hB ha hne=>by
    rw [(hN.1 a ha).1]
    rcases gc (N.ι a) (eF a B hB) with ⟨q,h1,h2,_⟩|⟨_,h2⟩
    ·exact absurd (R.inj q.1 a (hlt q h1) ha h2) (hne q h1)
    ·exact h2
   refine ⟨A'.sl,A'.rs,fun a B h=> ?_,fun a B h=> ?_,fun t2 A2 h id hid=>absurd hid (Dd t2 A2 h id)⟩
   ·rcases di a _ h with ⟨q,h1,rfl,e⟩|⟨rfl,e⟩|⟨h0,h1,h2⟩
    ·simp only [N6] at e;subst e
     obtain ⟨t,K,t',f,O,m1,_,_,_,e1,_⟩:=hq q h1
     refine ⟨?_, ?_⟩
     ·show g' (N'.ι q.1)=_
      rw [(hN.1 q.1 (hlt q h1)).1]
      rcases gc (N.ι q.1) (eF q.1 _ (.inl m1)) with ⟨p,p1,p2,p3⟩|⟨p1,_⟩
      ·have:=rR p q p1 h1 (R.inj p.1 q.1 (hlt p p1) (hlt q h1) p2)
       subst this
       rw [p3,e1];simp only [SB.av,hN.2]
      ·exact absurd rfl (p1 q h1)
     ·have:=(A'.bl q.1 _ m1).2
      rw [this,e1];simp [SB.len]
    ·simp only [N6] at e;subst e
     have:=A'.bl 0 _ m2
     exact ⟨(yH 0 _ (.inl m2) nL (fun q h1 e=>by obtain ⟨t,K,t',f,O,_,_,hz,_⟩:=hq q h1;exact hz e)).trans this.1,this.2⟩
    ·have:=A'.bl a B h2
     exact ⟨(yH a B (.inl h2) (R.ml a _ h2) h1).trans this.1,this.2⟩
   ·have h':getS st.rm a=some (some B):=h
    have:=A'.rb a B h'
    exact ⟨(yH a B (.inr h') (R.rl a _ h') (fun q h1 e=>by subst e;obtain ⟨t,K,t',f,O,_,hr,_⟩:=hq q h1;rw [hr] at h';simp at h')).trans this.1,this.2⟩
  ·rcases di a _ h with ⟨q,h1,rfl,_⟩|⟨rfl,_⟩|⟨_,_,h2⟩
   ·exact hlt q h1
   ·exact nL
   ·exact R.ml a _ h2
mutual
def SV.dP (D:TD τ dn) (st:SS τ dn) (nm:Nat):SV τ dn->SV τ dn
 | .own a sz=>bif Nat.beq a nm then (snap1S D st (.own a sz)).getD (.own a sz) else .own a sz
 | .ref a sz i o=>bif Nat.beq a nm then (snap1S D st (.ref a sz i o)).getD (.ref a sz i o) else .ref a sz i o
 | .agg cs=> .agg (SV.ig D st nm cs)
 | .aK cs=> .aK (SV.ig D st nm cs)
 | .fn f cs=> .fn f (SV.ig D st nm cs)
 | .bf f cs=> .bf f (SV.ig D st nm cs)
 | .vg p c v=> .vg p c v
 | .part a b c d=> .part a b c d
 | .pim cs o=> .pim cs o
 | .vc sz els=> .vc sz els
 | .mp a=> .mp a
 | .vi x=> .vi x
 | .vn x=> .vn x
 | .vy x=> .vy x
 | .vu x=> .vu x
 | .vw q x=> .vw q x
 | .vb c=> .vb c
 | .vt x=> .vt x
 | .vz x=> .vz x
 | .vo x=> .vo x
 | .vl a b=> .vl a b
 | .emp=> .emp
 | .rw a b=> .rw a b
 | .cQ a b c d=> .cQ a b c d
 | .dead=> .dead
def SV.ig (D:TD τ dn) (st:SS τ dn) (nm:Nat):List (SV τ dn)->List (SV τ dn)
 |[]=>[]
 |v::l=>SV.dP D st nm v::SV.ig D st nm l
end
section
variable {D:TD τ dn} {N N':aC} {st:SS τ dn} {σ:Nat->AV} {g:Nat->Option Bk} {nm:Nat}
theorem De (ok:aZ D) (R:bg D N st σ g) (R':bg D N' st σ g) {v:SV τ dn} (hid:∀id,id∈(v.av D.toTE N).bS->id∈[N.ι nm]):Fz g [N.ι nm] (v.av D.toTE N) (((snap1S D st v).getD v).av D.toTE N)/\(v.av D.toTE N'=v.av D.toTE N->((snap1S D st v).getD v).av D.toTE N'=((snap1S D st v).getD v).av D.toTE N):=by
 cases hs:snap1S D st v with
 |none=>exact ⟨.refl,fun h=>h⟩
 |some w=>
  have h1:=tU ok R hs
  refine ⟨.snap hid h1,fun h=> ?_⟩
  have h2:=tU ok R' hs
  rw [h,h1] at h2
  simpa using h2.symm
mutual
theorem yI (ok:aZ D) (R:bg D N st σ g) (R':bg D N' st σ g):∀v:SV τ dn,Fz g [N.ι nm] (v.av D.toTE N) ((v.dP D st nm).av D.toTE N)/\(v.av D.toTE N'=v.av D.toTE N->(v.dP D st nm).av D.toTE N'=(v.dP D st nm).av D.toTE N)
 | .own a sz=>by
  simp only [SV.dP]
  cases hb:Nat.beq a nm with
  |false=>exact ⟨.refl,fun h=>h⟩
  |true=>
   rw [Ob]
   have:=Ol hb
   subst this
   exact De ok R R' (fun id hid=>by simpa [SV.av,AV.bS] using hid)
 | .ref a sz i o=>by
  simp only [SV.dP]
  cases hb:Nat.beq a nm with
  |false=>exact ⟨.refl,fun h=>h⟩
  |true=>
   rw [Ob]
   have:=Ol hb
   subst this
   exact De ok R R' (fun id hid=>by simpa [SV.av,AV.bS] using hid)
 | .agg cs=>by
  obtain ⟨h1,h2,h3⟩:=py ok R R' cs
  simp only [SV.dP,SV.av]
  exact ⟨.agg h1 h2,fun h=>by simp only [AV.agg.injEq] at h ⊢; exact h3 h⟩
 | .aK cs=>by
  obtain ⟨h1,h2,h3⟩:=py ok R R' cs
  simp only [SV.dP,SV.av]
  exact ⟨.aK h1 h2,fun h=>by simp only [AV.aK.injEq] at h ⊢; exact h3 h⟩
 | .fn f cs=>by
  obtain ⟨h1,h2,h3⟩:=py ok R R' cs
  simp only [SV.dP,SV.av]
  exact ⟨.fn h1 h2,fun h=>by simp only [AV.fn.injEq,true_and] at h ⊢; exact h3 h⟩
 | .bf f cs=>by
  obtain ⟨h1,h2,h3⟩:=py ok R R' cs
  simp only [SV.dP,SV.av]
  exact ⟨.bf h1 h2,fun h=>by simp only [AV.bf.injEq,true_and] at h ⊢; exact h3 h⟩
 | .vg p c v=>⟨by simp only [SV.dP];exact .refl,fun h=>by simp only [SV.dP];exact h⟩
 | .part _ _ _ _| .pim _ _| .vc _ _| .mp _| .vi _| .vn _| .vy _| .vu _| .vw _ _| .vb _| .vt _| .vz _| .vo _| .vl _ _| .emp| .rw _ _| .cQ _ _ _ _| .dead=>⟨by simp only [SV.dP];exact .refl,fun h=>by simp only [SV.dP];exact h⟩
theorem py (ok:aZ D) (R:bg D N st σ g) (R':bg D N' st σ g):∀cs:List (SV τ dn),(SV.cu D.toTE N cs).length=(SV.cu D.toTE N (SV.ig D st nm cs)).length/\(∀(i:Nat) c d,(SV.cu D.toTE N cs)[i]? =some c->(SV.cu D.toTE N (SV.ig D st nm cs))[i]? =some d->Fz g [N.ι nm] c d)/\(SV.cu D.toTE N' cs=SV.cu D.toTE N cs->SV.cu D.toTE N' (SV.ig D st nm cs)=SV.cu D.toTE N (SV.ig D st nm cs))
 |[]=>⟨rfl,fun i c d h=>by simp [SV.cu] at h,fun _=>rfl⟩
 |v::l=>by
  obtain ⟨h1,h2,h3⟩:=py ok R R' l
  obtain ⟨q1,q2⟩:=yI ok R R' v
  simp only [SV.ig,SV.cu]
  refine ⟨by simp [h1],fun i c d hc hd=> ?_,fun h=> ?_⟩
  ·cases i with
   |zero=>simp only [OI,N6] at hc hd;subst hc;subst hd;exact q1
   |succ i=>exact h2 i c d (by simpa using hc) (by simpa using hd)
  ·simp only [PS] at h ⊢
   exact ⟨q2 h.1,h3 h.2⟩
end
def SB.dQ (D:TD τ dn) (st:SS τ dn) (nm:Nat):SB τ dn->SB τ dn
 | .bc sz els=> .bc sz (els.map (SV.ig D st nm))
 |B=>B
theorem Df (ok:aZ D) (R:bg D N st σ g) (R':bg D N' st σ g):∀els:List (List (SV τ dn)),lR g [N.ι nm] (SV.bR D.toTE N els) (SV.bR D.toTE N (els.map (SV.ig D st nm)))/\(SV.bR D.toTE N' els=SV.bR D.toTE N els->SV.bR D.toTE N' (els.map (SV.ig D st nm))=SV.bR D.toTE N (els.map (SV.ig D st nm)))
 |[]=>⟨⟨rfl,fun i c d h=>by simp [SV.bR] at h⟩,fun _=>rfl⟩
 |cs::l=>by
  obtain ⟨⟨h1,h2⟩,h3⟩:=Df ok R R' l
  obtain ⟨q1,q2,q3⟩:=py ok R R' (nm:=nm) cs
  simp only [Om,SV.bR]
  refine ⟨⟨by simp [h1],fun i c d hc hd=> ?_⟩,fun h=> ?_⟩
  ·cases i with
   |zero=>simp only [OI,N6] at hc hd;subst hc;subst hd;exact ⟨q1,q2⟩
   |succ i=>exact h2 i c d (by simpa using hc) (by simpa using hd)
  ·simp only [PS] at h ⊢
   exact ⟨q3 h.1,h3 h.2⟩
theorem yJ (ok:aZ D) (R:bg D N st σ g) (R':bg D N' st σ g) (B:SB τ dn):((B.dQ D st nm).av D.toTE N).sz=(B.av D.toTE N).sz/\lR g [N.ι nm] (B.av D.toTE N).els ((B.dQ D st nm).av D.toTE N).els/\(B.av D.toTE N'=B.av D.toTE N->(B.dQ D st nm).av D.toTE N'=(B.dQ D st nm).av D.toTE N)/\(B.dQ D st nm).len=B.len/\∀t A,B.dQ D st nm= .ar t A↔B= .ar t A:=by
 cases B with
 |bc sz els=>
  obtain ⟨h1,h2⟩:=Df ok R R' (nm:=nm) els
  refine ⟨rfl,h1,fun h=> ?_,by simp [SB.dQ,SB.len],fun t A=>by simp [SB.dQ]⟩
  simp only [SB.dQ,SB.av,Bk.mk.injEq,true_and] at h ⊢
  exact h2 h
 |_=>exact ⟨rfl,lR.refl,fun h=>h,rfl,fun t A=>Iff.rfl⟩
def SS.uI (D:TD τ dn) (st:SS τ dn) (nm:Nat):Option (SS τ dn):=
 bif !Nat.beq nm 0&&(st.rw nm&&st.rm.all fun q=>(getS st.m q.1).isNone) then
  some ⟨st.rt,st.rm,st.t.map fun q=>(q.1,bif (getS st.rt q.1).isSome then q.2 else q.2.dP D st nm),(nm,none)::st.m.map fun q=>(q.1,q.2.map (SB.dQ D st nm)),st.nx⟩
 else none
theorem Dg {α β:Type} (f:Nat->α->β):∀{l:List (Nat×α)} {i:Nat},getS (l.map fun q=>(q.1,f q.1 q.2)) i=(getS l i).map (f i)
 |[],i=>rfl
 |(j,v)::r,i=>by
  rw [Om,ba,ba,Dg f (l:=r)]
  by_cases h:i=j
  ·subst h;simp
  ·simp [h]
end
theorem Dh {D:TD τ dn} (ok:aZ D) {st aw:SS τ dn} (R:Rel D N st s) (h:st.uI D nm=some aw):∃s',s.Le k0 n s'/\Rel D N aw s'/\aw.rt=st.rt/\aw.rm=st.rm/\aw.nx=st.nx:=by
 unfold SS.uI at h
 cases hc:(!Nat.beq nm 0&&(st.rw nm&&st.rm.all fun q=>(getS st.m q.1).isNone)) with
 |false=>rw [hc] at h;simp at h
 |true=>
 rw [hc,Ob,N6] at h
 subst h
 simp only [N9,Ov] at hc
 obtain ⟨m5,hw,cJ⟩:=hc
 have Cz:nm≠0:=fun e=>by subst e;simp at m5
 obtain ⟨⟨B1,m1⟩,r1⟩:=jM hw
 have hlt:=R.ml nm _ m1
 have hA:=R.here
 have Lk:∀a B,getS st.rm a=some B->getS st.m a=none:=fun a B h=>by
  have:=Oc.1 cJ _ (jg h)
  simpa using this
 let g':Nat->Option Bk:=fun id=>if id=N.ι nm then none else match (List.range st.nx).find? fun a=>N.ι a==id with
  |some a=>match getS st.m a with
   |some (some B)=>some ((B.dQ D st nm).av D.toTE N)
   |_=>s.g id
  |none=>s.g id
 let σ':Nat->AV:=fun i=>match getS st.rt i with
  |some _=>s.σ i
  |none=>match getS st.t i with
   |some v=>(v.dP D st nm).av D.toTE N
   |none=>s.σ i
 have find:∀a,a<st.nx->(List.range st.nx).find? (fun b=>N.ι b==N.ι a)=some a:=fun a ha=>by
  cases hf:(List.range st.nx).find? (fun b=>N.ι b==N.ι a) with
  |none=>
   rw [List.find?_eq_none] at hf
   exact absurd (hf a (OL.2 ha)) (by simp)
  |some b=>
   have h1:=List.find?_some hf
   have h2:=OL.1 (List.mem_of_find?_eq_some hf)
   simp only [beq_iff_eq] at h1
   rw [R.inj b a h2 ha h1]
 have Di:∀a B,getS st.m a=some (some B)->a≠nm->g' (N.ι a)=some ((B.dQ D st nm).av D.toTE N):=fun a B hB hne=>by
  have ha:=R.ml a _ hB
  show (if N.ι a=N.ι nm then none else match (List.range st.nx).find? (fun b=>N.ι b==N.ι a) with|some a=>(match getS st.m a with|some (some B)=>some ((B.dQ D st nm).av D.toTE N)|_=>s.g _)|none=>s.g _)=_
  rw [N7 (fun e=>hne (R.inj a nm ha hlt e)),find a ha]
  simp only [hB]
 have Ll:∀a B,getS st.rm a=some (some B)->g' (N.ι a)=s.g (N.ι a):=fun a B hB=>by
  have ha:=R.rl a _ hB
  have hne:a≠nm:=fun e=>by subst e;rw [r1] at hB;simp at hB
  show (if N.ι a=N.ι nm then none else match (List.range st.nx).find? (fun b=>N.ι b==N.ι a) with|some a=>(match getS st.m a with|some (some B)=>some ((B.dQ D st nm).av D.toTE N)|_=>s.g _)|none=>s.g _)=_
  rw [N7 (fun e=>hne (R.inj a nm ha hlt e)),find a ha]
  simp only [Lk a _ hB]
 have cj:=(hA.bl nm _ m1).1
 have yK:∀id,id≠N.ι nm->g' id=s.g id\/∃a B,id=N.ι a/\getS st.m a=some (some B)/\a≠nm/\g' id=some ((B.dQ D st nm).av D.toTE N):=fun id hid=>by
  show (if id=N.ι nm then none else match (List.range st.nx).find? (fun b=>N.ι b==id) with|some a=>(match getS st.m a with|some (some B)=>some ((B.dQ D st nm).av D.toTE N)|_=>s.g id)|none=>s.g id)=_\/_
  rw [N7 hid]
  cases hf:(List.range st.nx).find? (fun b=>N.ι b==id) with
  |none=>exact .inl rfl
  |some a=>
   have h1:=List.find?_some hf
   simp only [beq_iff_eq] at h1
   cases hq:getS st.m a with
   |none=>exact .inl (by simp only [hq])
   |some x=>
    cases x with
    |none=>exact .inl (by simp only [hq])
    |some B=>
     have hne:a≠nm:=fun e=>hid (by rw [<-h1,e])
     exact .inr ⟨a,B,h1.symm,hq,hne,by rw [<-h1];exact Di a B hq hne⟩
 refine ⟨⟨σ',g',s.k⟩,S3.C6 (F:=[N.ι nm]) (fun i=> ?_) (fun id hid=> ?_) (fun id hid=> ?_) (fun id hid hn=> ?_) (fun id B hid hB=> ?_), ?_,rfl,rfl,rfl⟩
 ·show Fz s.g _ (s.σ i) (match getS st.rt i with|some _=>s.σ i|none=>match getS st.t i with|some v=>(v.dP D st nm).av D.toTE N|none=>s.σ i)
  split
  ·exact .refl
  ·split
   ·rename_i v hv
    rw [hA.sl i v hv];exact (yI ok hA hA v).1
   ·exact .refl
 ·simp only [Of] at hid;subst hid;exact ⟨_,cj⟩
 ·simp only [Of] at hid;subst hid;exact N8 rfl
 ·simp only [Of] at hid
  rcases yK id hid with h|⟨a,B,rfl,h2,h3,h4⟩
  ·rw [h];exact hn
  ·rw [(hA.bl a B h2).1] at hn;simp at hn
 ·simp only [Of] at hid
  rcases yK id hid with h|⟨a,B2,rfl,h2,h3,h4⟩
  ·exact ⟨B,by rw [h];exact hB,rfl,lR.refl⟩
  ·rw [(hA.bl a B2 h2).1] at hB
   simp only [N6] at hB;subst hB
   obtain ⟨q1,q2,_⟩:=yJ ok hA hA (nm:=nm) B2
   exact ⟨_,h4,q1,q2⟩
 ·have di:∀a X,getS ((nm,(none:Option (SB τ dn)))::st.m.map fun q=>(q.1,q.2.map (SB.dQ D st nm))) a=some (some X)->a≠nm/\∃B,getS st.m a=some (some B)/\X=B.dQ D st nm:=fun a X h=>by
   rw [ba,pg (Option.map (SB.dQ D st nm))] at h
   by_cases h1:a=nm
   ·rw [N8 h1] at h;simp at h
   ·rw [N7 h1] at h
    simp only [Od] at h
    obtain ⟨x,hx,B,rfl,rfl⟩:=h
    exact ⟨h1,B,hx,rfl⟩
  have cM:∀a X,(⟨st.rt,st.rm,st.t.map fun q=>(q.1,bif (getS st.rt q.1).isSome then q.2 else q.2.dP D st nm),(nm,none)::st.m.map fun q=>(q.1,q.2.map (SB.dQ D st nm)),st.nx⟩:SS τ dn).bw a X->∃X',st.bw a X'/\∀t A,X= .ar t A->X'= .ar t A:=fun a X h=>by
   rcases h with h|h
   ·obtain ⟨_,B,hB,rfl⟩:=di a X h
    exact ⟨B, .inl hB,fun t A e=>((yJ ok hA hA (nm:=nm) B).2.2.2.2 t A).1 e⟩
   ·exact ⟨X, .inr h,fun t A e=>e⟩
  refine ⟨fun N' hN=> ?_,R.inj,R.lt,fun a X h=> ?_,R.rl,fun t A h id hid=> ?_⟩
  ·have A':=R.at_ N' hN
   refine ⟨fun i v h=> ?_,fun i v h=> ?_,fun a X h=> ?_,fun a X h=> ?_,fun t A h id hid=> ?_⟩
   ·have h':getS (st.t.map fun q=>(q.1,bif (getS st.rt q.1).isSome then q.2 else q.2.dP D st nm)) i=some v:=h
    rw [Dg (fun (j:Nat) (w:SV τ dn)=>bif (getS st.rt j).isSome then w else w.dP D st nm)] at h'
    simp only [Od] at h'
    obtain ⟨w,hw2,rfl⟩:=h'
    show (match getS st.rt i with|some _=>s.σ i|none=>match getS st.t i with|some v=>(v.dP D st nm).av D.toTE N|none=>s.σ i)=_
    cases hr:getS st.rt i with
    |some u=>simp only [Option.isSome_some,Ob];exact A'.sl i w hw2
    |none=>
     simp only [hw2,Option.isSome_none,Ot]
     exact ((yI ok hA A' w).2 ((A'.sl i w hw2).symm.trans (hA.sl i w hw2))).symm
   ·show (match getS st.rt i with|some _=>s.σ i|none=>match getS st.t i with|some v=>(v.dP D st nm).av D.toTE N|none=>s.σ i)=_
    have h':getS st.rt i=some v:=h
    simp only [h'];exact A'.rs i v h'
   ·obtain ⟨h1,B,hB,rfl⟩:=di a X h
    obtain ⟨q1,q2,q3,q4,q5⟩:=yJ ok hA A' (nm:=nm) B
    have ha:=R.ml a _ hB
    refine ⟨?_,by rw [q4];exact (A'.bl a B hB).2⟩
    show g' (N'.ι a)=_
    rw [(hN.1 a ha).1,Di a B hB h1]
    congr 1
    refine (q3 ?_).symm
    have e1:=(A'.bl a B hB).1
    rw [(hN.1 a ha).1,(hA.bl a B hB).1] at e1
    simpa using e1.symm
   ·have h':getS st.rm a=some (some X):=h
    have ha:=R.rl a _ h'
    refine ⟨?_,(A'.rb a X h').2⟩
    show g' (N'.ι a)=_
    have e1:=(A'.rb a X h').1
    rw [(hN.1 a ha).1] at e1 ⊢
    rw [Ll a X h'];exact e1
   ·obtain ⟨X',h1,h2⟩:=cM 0 _ h
    have h2:=h2 t A rfl
    subst h2
    have e:=A'.ar t A h1 id hid
    have hs:=(R.sp t A h1 id hid).2
    show g' id=_
    rcases yK id (fun e=>hs nm _ (.inl m1) e.symm) with h3|⟨a,B,rfl,h4,_,_⟩
    ·rw [h3];exact e
    ·exact absurd rfl (hs a B (.inl h4))
  ·have h':getS ((nm,(none:Option (SB τ dn)))::st.m.map fun q=>(q.1,q.2.map (SB.dQ D st nm))) a=some X:=h
   rw [ba,pg (Option.map (SB.dQ D st nm))] at h'
   show a<st.nx
   by_cases h1:a=nm
   ·subst h1;exact hlt
   ·rw [N7 h1] at h'
    simp only [Od] at h'
    obtain ⟨x,hx,_⟩:=h'
    exact R.ml a _ hx
  ·obtain ⟨X',h1,h2⟩:=cM 0 _ h
   have h2:=h2 t A rfl
   subst h2
   obtain ⟨q1,q2⟩:=R.sp t A h1 id hid
   refine ⟨q1,fun a X hX=> ?_⟩
   obtain ⟨X',h3,_⟩:=cM a X hX
   exact q2 a X' h3
def Dj:SV τ dn->List Nat
 | .own nm _| .ref nm _ _ _=>[nm]
 |_=>[]
def Dk:SV τ dn->List Nat
 | .agg cs| .fn _ cs| .bf _ cs| .aK cs=>cs.flatMap Dj
 |v=>Dj v
def rS (D:TD τ dn) (F:Nat->SS τ dn->(SS τ dn->Prop)->Prop):List Nat->SS τ dn->(SS τ dn->Prop)->Prop
 |[],st,K=>K st
 |a::l,st,K=>F a st fun st=>match st.uI D a with
  |some aw=>rS D F l aw K
  |none=>rS D F l st K
def rU (D:TD τ dn):Nat->Nat->SS τ dn->(SS τ dn->Prop)->Prop
 |0,_,st,K=>K st
 |d+1,nm,st,K=>rS D (rU D d) (match st.gm nm with
  |some (.bc _ els)=>els.flatMap fun (cs:List (SV τ dn))=>cs.flatMap Dk
  |_=>([]:List Nat)) st fun st=>match st.uH D [nm] with
   |some (O,aw)=>fB O (K aw)
   |none=>K st
theorem Dl {D:TD τ dn} (ok:aZ D) {N:aC} {n k0:Nat}:∀(d nm:Nat) {st:SS τ dn} {s:S3} {K:SS τ dn->Prop},Rel D N st s->rU D d nm st K->∃s' aw,s.Le k0 n s'/\Rel D N aw s'/\aw.rt=st.rt/\aw.rm=st.rm/\aw.nx=st.nx/\K aw
 |0,nm,st,s,K,R,h=>⟨s,st,S3.Le.mH,R,rfl,rfl,rfl,h⟩
 |d+1,nm,st,s,K,R,h=>by
  simp only [rU] at h
  have go:∀(l:List Nat) {st:SS τ dn} {s:S3} {K:SS τ dn->Prop},Rel D N st s->rS D (rU D d) l st K->∃s' aw,s.Le k0 n s'/\Rel D N aw s'/\aw.rt=st.rt/\aw.rm=st.rm/\aw.nx=st.nx/\K aw:=by
   intro l
   induction l with
   |nil=>intro st s K R h;exact ⟨s,st,S3.Le.mH,R,rfl,rfl,rfl,h⟩
   |cons a l ih=>
    intro st s K R h
    simp only [rS] at h
    obtain ⟨s1,st1,p1,p2,p3,p4,p5,h1⟩:=Dl ok d a R h
    split at h1
    ·rename_i aV hf
     obtain ⟨s2,q1,q2,q3,q4,q5⟩:=Dh (n:=n) (k0:=k0) ok p2 hf
     obtain ⟨s3,mG,r1,r2,r3,r4,r5,r6⟩:=ih q2 h1
     exact ⟨s3,mG,(p1.trans' q1).trans' r1,r2,r3.trans (q3.trans p3),r4.trans (q4.trans p4),r5.trans (q5.trans p5),r6⟩
    ·obtain ⟨s3,mG,r1,r2,r3,r4,r5,r6⟩:=ih p2 h1
     exact ⟨s3,mG,p1.trans' r1,r2,r3.trans p3,r4.trans p4,r5.trans p5,r6⟩
  obtain ⟨s1,st1,p1,p2,p3,p4,p5,h1⟩:=go _ R h
  split at h1
  ·rename_i O aw hf
   rw [jN] at h1
   obtain ⟨s',q1,q2,q3,q4,q5⟩:=Dc (n:=n) (k0:=k0) ok p2 hf h1.1
   exact ⟨s',aw,p1.trans' q1,q2,q3.trans p3,q4.trans p4,q5.trans p5,h1.2⟩
  ·exact ⟨s1,st1,p1,p2,p3,p4,p5,h1⟩
def mL (D:TD τ dn) (w:Bool):List Nat->SS τ dn->(SS τ dn->Prop)->Prop
 |[],st,K=>K st
 |a::l,st,K=>rU D 4 a st fun st=>bif w then (match st.uI D a with
  |some aw=>mL D w l aw K
  |none=>mL D w l st K) else mL D w l st K
theorem yL {D:TD τ dn} (ok:aZ D) {N:aC} {n k0:Nat} {w:Bool}:∀(l:List Nat) {st:SS τ dn} {s:S3} {K:SS τ dn->Prop},Rel D N st s->mL D w l st K->∃s' aw,s.Le k0 n s'/\Rel D N aw s'/\aw.rt=st.rt/\aw.rm=st.rm/\aw.nx=st.nx/\K aw
 |[],st,s,K,R,h=>⟨s,st,S3.Le.mH,R,rfl,rfl,rfl,h⟩
 |a::l,st,s,K,R,h=>by
  simp only [mL] at h
  obtain ⟨s1,st1,p1,p2,p3,p4,p5,h1⟩:=Dl (n:=n) (k0:=k0) ok 4 a R h
  have rest:∀{aV:SS τ dn} {s2:S3},s.Le k0 n s2->Rel D N aV s2->aV.rt=st.rt->aV.rm=st.rm->aV.nx=st.nx->mL D w l aV K->∃s' aw,s.Le k0 n s'/\Rel D N aw s'/\aw.rt=st.rt/\aw.rm=st.rm/\aw.nx=st.nx/\K aw:=fun q1 q2 q3 q4 q5 hh=>by
   obtain ⟨s3,mG,r1,r2,r3,r4,r5,r6⟩:=yL ok l q2 hh
   exact ⟨s3,mG,q1.trans' r1,r2,r3.trans q3,r4.trans q4,r5.trans q5,r6⟩
  cases w with
  |false=>exact rest p1 p2 p3 p4 p5 h1
  |true=>
   rw [Ob] at h1
   split at h1
   ·rename_i aV hf
    obtain ⟨s2,q1,q2,q3,q4,q5⟩:=Dh (n:=n) (k0:=k0) ok p2 hf
    exact rest (p1.trans' q1) q2 (q3.trans p3) (q4.trans p4) (q5.trans p5) h1
   ·exact rest p1 p2 p3 p4 p5 h1
def pz (D:TD τ dn) (w:Bool) (l:List Nat) (st:SS τ dn) (K:SS τ dn->Prop):Prop:=match st.uH D l with
 |some (O,aw)=>fB O (mL D w l aw K)
 |none=>mL D w l st K
theorem yM {D:TD τ dn} (ok:aZ D) {w:Bool} (l:List Nat) {st:SS τ dn} {K:SS τ dn->Prop} (R:Rel D N st s) (h:pz D w l st K):∃s' aw,s.Le k0 n s'/\Rel D N aw s'/\aw.rt=st.rt/\aw.rm=st.rm/\aw.nx=st.nx/\K aw:=by
 unfold pz at h
 split at h
 ·rename_i O aw hf
  rw [jN] at h
  obtain ⟨s1,p1,p2,p3,p4,p5⟩:=Dc (n:=n) (k0:=k0) ok R hf h.1
  obtain ⟨s2,aV,q1,q2,q3,q4,q5,q6⟩:=yL ok l p2 h.2
  exact ⟨s2,aV,p1.trans' q1,q2,q3.trans p3,q4.trans p4,q5.trans p5,q6⟩
 ·exact yL ok l R h
def SS.uJ (st:SS τ dn) (ss:List Nat):List Nat:=ss.flatMap fun i=>match st.gt i with
 |some v=>Dk v
 |none=>[]
end
open Go.RowKit
section
variable {τ:Type} {dn:τ->Type}
def pA (c:Cn) (b:Bool) (st aw:SS τ dn):List Nat->Option (List (Nat×SV τ dn))
 |[]=>some []
 |d::r=>match st.gt d with
  |none=>pA c b st aw r
  |some x=>match aw.gt d with
   |none=>none
   |some y=>match rE c (bif b then x else y) (bif b then y else x),pA c b st aw r with
    |some v,some l=>some ((d,v)::l)
    |_,_=>none
theorem uK {c:Cn} {b:Bool} {st aw:SS τ dn}:∀{ds:List Nat} {l:List (Nat×SV τ dn)},pA c b st aw ds=some l->∀{i v},getS l i=some v->∃x y,st.gt i=some x/\aw.gt i=some y/\rE c (bif b then x else y) (bif b then y else x)=some v
 |[],l,h,i,v,hv=>by simp only [pA,N6] at h;subst h;simp [getS] at hv
 |d::r,l,h,i,v,hv=>by
  simp only [pA] at h
  split at h
  ·exact uK h hv
  ·rename_i x hx
   split at h
   ·simp at h
   ·rename_i y hy
    split at h
    ·rename_i w l' hw hl
     simp only [N6] at h;subst h
     rw [ba] at hv
     by_cases hi:i=d
     ·subst hi
      rw [N8 rfl,N6] at hv;subst hv
      exact ⟨x,y,hx,hy,hw⟩
     ·rw [N7 hi] at hv;exact uK hl hv
    ·simp at h
def lS (ds:List Nat):List (Nat×SV τ dn)->List (Nat×SV τ dn)
 |[]=>[]
 |q::r=>bif hasN ds q.1 then lS ds r else q::lS ds r
theorem uL {ds:List Nat}:∀{l:List (Nat×SV τ dn)} {i:Nat} {v:SV τ dn},getS (lS ds l) i=some v->hasN ds i=false/\getS l i=some v
 |[],i,v,h=>by simp [lS,getS] at h
 |q::r,i,v,h=>by
  simp only [lS] at h
  cases hq:hasN ds q.1 with
  |true=>
   rw [hq,Ob] at h
   obtain ⟨h1,h2⟩:=uL h
   refine ⟨h1, ?_⟩
   obtain ⟨j,w⟩:=q
   rw [ba,N7 (fun e=>by subst e;rw [h1] at hq;simp at hq)];exact h2
  |false=>
   rw [hq,Ot] at h
   obtain ⟨j,w⟩:=q
   rw [ba] at h ⊢
   by_cases hi:i=j
   ·subst hi;rw [N8 rfl] at h ⊢; exact ⟨hq,h⟩
   ·rw [N7 hi] at h ⊢; exact uL h
theorem yN {st:SS τ dn} {v:SV τ dn} (h:d≠some i):getS (st.set d v).t i=getS st.t i:=by
 cases d with
 |none=>rfl
 |some j=>
  show getS ((j,v)::st.t) i=_
  rw [ba,N7 (fun e=>h (by rw [e]))]
variable [DecidableEq τ]
def od (C:b0 τ dn) (n:Nat):List az->SS τ dn->Option (List Prop×SS τ dn)
 |[],st=>some ([],st)
 |o::os,st=>bif dstS n st.rt o.dst&&(needs C.D st o.ao).isEmpty then (match st.gd o.guard with
  | .yes=>match jQ C st o.ao with
   |some (.val O v,_)=>(od C n os (st.set o.dst v)).map fun q=>(O++q.1,q.2)
   |_=>none
  | .no=>od C n os (st.set o.dst (.vo undef))
  | .lC e=>match jQ C (st.unw o.ao.uns) o.ao with
   |some (.val O v,_)=>(od C n os (st.set o.dst (.vg true e v))).map fun q=>((jb st e o.ao.uns++O.map fun p=>e.tf true->p)++q.1,q.2)
   |_=>none
  | .bad=>none) else none
theorem uM {C:b0 τ dn} {n:Nat}:∀{os:List az} {st aw:SS τ dn} {O:List Prop},od C n os st=some (O,aw)->(aw.rt=st.rt/\aw.rm=st.rm/\aw.m=st.m/\aw.nx=st.nx)/\(∀i,hasN (os.filterMap fun o=>o.dst) i=false->getS aw.t i=getS st.t i)/\((∀p,p∈O->p)->∀xs,wpOps C n none true os xs st fun x=>x=aw)
 |[],st,aw,O,h=>by
  simp only [od,N6,Oi] at h
  obtain ⟨rfl,rfl⟩:=h
  exact ⟨⟨rfl,rfl,rfl,rfl⟩,fun _ _=>rfl,fun _ _=>rfl⟩
 |o::os,st,aw,O,h=>by
  simp only [od] at h
  cases hdd:(dstS n st.rt o.dst&&(needs C.D st o.ao).isEmpty) with
  |false=>rw [hdd] at h;simp at h
  |true=>
   rw [hdd,Ob] at h
   rw [N9,OZ] at hdd
   obtain ⟨hd,hne⟩:=hdd
   have pB:∀i,hasN ((o::os).filterMap fun o=>o.dst) i=false->o.dst≠some i/\hasN (os.filterMap fun o=>o.dst) i=false:=fun i hi=>by
    have hn:¬i∈(o::os).filterMap fun o=>o.dst:=fun hh=>by rw [lM.2 hh] at hi;simp at hi
    refine ⟨fun e=>hn (List.mem_filterMap.2 ⟨o,O6 ..,e⟩), ?_⟩
    cases hb:hasN (os.filterMap fun o=>o.dst) i with
    |false=>rfl
    |true=>
     obtain ⟨q,q1,q2⟩:=List.mem_filterMap.1 (lM.1 hb)
     exact absurd (List.mem_filterMap.2 ⟨q,OV _ q1,q2⟩) hn
   split at h
   ·rename_i hg
    split at h
    ·rename_i O1 v ns hr
     rw [Od] at h
     obtain ⟨⟨O2,aV⟩,h1,h2⟩:=h
     simp only [Oi] at h2
     obtain ⟨rfl,rfl⟩:=h2
     obtain ⟨p1,p2,p3⟩:=uM h1
     refine ⟨p1,fun i hi=>(p2 i (pB i hi).2).trans (yN (pB i hi).1),fun hO xs=> ?_⟩
     have hgi:pq C st o=none:=yq (.inl fun e=>by rw [hg];simp)
     simp only [wpOps,Ob,hne,kx,pr,hgi,hd,hg,hr]
     rw [jN]
     exact ⟨fun p hp=>hO p (OR _ hp),p3 (fun p hp=>hO p (OO _ hp)) _⟩
    ·simp at h
   ·rename_i hg
    obtain ⟨p1,p2,p3⟩:=uM h
    refine ⟨p1,fun i hi=>(p2 i (pB i hi).2).trans (yN (pB i hi).1),fun hO xs=> ?_⟩
    have hgi:pq C st o=none:=yq (.inl fun e=>by rw [hg];simp)
    simp only [wpOps,Ob,hne,kx,pr,hgi,hd,hg]
    exact p3 hO _
   ·rename_i e hg
    split at h
    ·rename_i O1 v ns hr
     rw [Od] at h
     obtain ⟨⟨O2,aV⟩,h1,h2⟩:=h
     simp only [Oi] at h2
     obtain ⟨rfl,rfl⟩:=h2
     obtain ⟨p1,p2,p3⟩:=uM h1
     refine ⟨p1,fun i hi=>(p2 i (pB i hi).2).trans (yN (pB i hi).1),fun hO xs=> ?_⟩
     have hgi:pq C st o=none:=yq (.inr ⟨_,hr⟩)
     simp only [wpOps,Ob,hne,kx,pr,hgi,hd,hg,hr]
     rw [jN]
     exact ⟨fun p hp=>hO p (OR _ hp),p3 (fun p hp=>hO p (OO _ hp)) _⟩
    ·simp at h
   ·simp at h
def uO (C:b0 τ dn) (n:Nat) (c:Cn) (b:Bool) (os:List az) (st:SS τ dn):Option (List Prop×SS τ dn):=
 match od C n os st with
 |some (O,aw)=>(pA c b st aw (os.filterMap fun o=>o.dst)).map fun l=>(O.map fun p=>c.tf (!b)->p,⟨st.rt,st.rm,l++lS (os.filterMap fun o=>o.dst) st.t,st.m,st.nx⟩)
 |none=>none
theorem Dm {C:b0 τ dn} (hC:C.Ok) {c:Cn} {b:Bool} {st aV:SS τ dn} (h:uO C n c b os st=some (O,aV)) (hO:∀p,p∈O->p) (R:Rel C.D N st s):
  (aV.rt=st.rt/\aV.rm=st.rm/\aV.nx=st.nx)/\(c.den=b->Rel C.D N aV s)/\(c.den= !b->∃s' N',gv C.P n k0 os s.σ s.g s.k s'.σ s'.g s'.k/\Rel C.D N' aV s'/\N.agree st.nx N'):=by
 unfold uO at h
 split at h
 case h_2=>simp at h
 rename_i O1 aw hp
 rw [Od] at h
 obtain ⟨l,hl,he⟩:=h
 simp only [Oi] at he
 obtain ⟨rfl,rfl⟩:=he
 obtain ⟨⟨e1,e2,e3,e4⟩,p2,p3⟩:=uM hp
 refine ⟨⟨rfl,rfl,rfl⟩,fun hc=> ?_,fun hc=> ?_⟩
 ·refine ⟨fun N' hN=> ?_,R.inj,R.lt,R.ml,R.rl,R.sp⟩
  have A:=R.at_ N' hN
  refine ⟨fun i v hv=> ?_,A.rs,A.bl,A.rb,A.ar⟩
  have hv':getS (l++lS (os.filterMap fun o=>o.dst) st.t) i=some v:=hv
  rw [fZ] at hv'
  cases hq:getS l i with
  |some w=>
   rw [hq] at hv';simp only [PN,N6] at hv';subst hv'
   obtain ⟨x,y,q1,q2,q3⟩:=uK hl hq
   rw [x5 q3,hc,A.gt q1]
   cases b<;>simp
  |none=>rw [hq] at hv';simp only [Pw] at hv';exact A.sl i v (uL hv').2
 ·have yw:∀p,p∈O1->p:=fun p hp=>hO _ (OE.2 ⟨p,hp,rfl⟩) ((Cn.iY c (!b)).2 hc)
  obtain ⟨s',N',st1,r1,r2,r3,r4,r5,r6⟩:=uy hC (k0:=k0) R (p3 yw [])
  subst r6
  have cM:∀a X,(⟨st.rt,st.rm,l++lS (os.filterMap fun o=>o.dst) st.t,st.m,st.nx⟩:SS τ dn).bw a X->st1.bw a X:=fun a X hX=>by
   rcases hX with hX|hX
   ·exact .inl (by rw [e3];exact hX)
   ·exact .inr (by rw [e2];exact hX)
  refine ⟨s',N',r1,⟨fun bT hN=> ?_, ?_, ?_, ?_, ?_,fun t A h id hid=>⟨(r2.sp t A (cM 0 _ h) id hid).1,fun nm B hB=>(r2.sp t A (cM 0 _ h) id hid).2 nm B (cM nm B hB)⟩⟩,r4⟩
  ·have A:=r2.at_ bT (by rw [e4];exact hN)
   refine ⟨fun i v hv=> ?_,fun i v hv=>A.rs i v (by rw [e1];exact hv),fun nm B hB=>A.bl nm B (by rw [e3];exact hB),fun nm B hB=>A.rb nm B (by rw [e2];exact hB),fun t A' h id hid=>A.ar t A' (cM 0 _ h) id hid⟩
   have hv':getS (l++lS (os.filterMap fun o=>o.dst) st.t) i=some v:=hv
   rw [fZ] at hv'
   cases hq:getS l i with
   |some w=>
    rw [hq] at hv';simp only [PN,N6] at hv';subst hv'
    obtain ⟨x,y,q1,q2,q3⟩:=uK hl hq
    rw [x5 q3,hc,A.gt q2]
    cases b<;>simp
   |none=>
    rw [hq] at hv';simp only [Pw] at hv'
    obtain ⟨k1,k2⟩:=uL hv'
    exact A.sl i v (by rw [p2 i k1];exact k2)
  ·have:=r2.inj;rw [e4] at this;exact this
  ·have:=r2.lt;rw [e4] at this;exact this
  ·have:=r2.ml;rw [e3,e4] at this;exact this
  ·have:=r2.rl;rw [e2,e4] at this;exact this
end
end Go.Proofs.Ytimomnfobfjggaa
