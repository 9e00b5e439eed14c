/- What functions answer (contracts). No condition. -/
import Derived.Test.YtimomnfobfjggaaPSxM
import Derived.Test.YtimomnfobfjggaaPAvRng
import Derived.Test.YtimomnfobfjggaaPSxX
import Derived.Laws.BitsAllLaws
set_option linter.unusedSectionVars false
set_option linter.unusedSimpArgs false
set_option linter.unusedVariables false
set_option maxHeartbeats 4000000
set_option maxRecDepth 100000
namespace Go.Proofs.Ytimomnfobfjggaa
variable {F:cP} {E:Env} {Q Q':Exit->Go.Act->World->Prop} {f:FuncId} {a:Go.Act} {K:Go.Act->World->Prop} {x:Int} {ps:List (List az)} {n k0 i base q:Nat} {g:Nat->Option Bk} {J:Nat->Prop} {N N':aC} {P:Program} {s s':S3} {α:Type} {w:World}
open Go.RowKit
abbrev P9:=@List.getElem?_zip_eq_some
section
variable {F:Go.Fence} {m:Nat} {P:Program} {ops:Array Oper}
theorem wpIn_exit (hq:∀e a w,e≠ .normal->Q e a w->Q' e a w) {o:Oper} (h:o.wpIn F m P a w K Q):o.wpIn F m P a w K Q':=by
 unfold Oper.wpIn at*
 refine ⟨h.1, ?_⟩
 have hh:=h.2
 generalize (o.semAt F.round a.eval).run P w=r at*
 cases r with
 |ok x w'=>
  cases x<;>simp only [Oper.uponIn] at hh ⊢ <;>
   first
    |exact hh
    |exact ⟨hh.1,CallsIn.mono hh.2 (fun e uP he=>by cases e<;>first|exact he|exact hq _ _ _ (by simp) he|(obtain ⟨a1,w1,h1⟩:=he;exact ⟨a1,w1,hq _ _ _ (by simp) h1⟩))⟩
    |exact ⟨hh.1,RoundIn.mono hh.2 (fun e uP he=>by cases e<;>first|exact he|exact hq _ _ _ (by simp) he|(obtain ⟨a1,w1,h1⟩:=he;exact ⟨a1,w1,hq _ _ _ (by simp) h1⟩))⟩
 |halt x w'=>cases x<;>simp only [Oper.uponIn] at hh ⊢ <;>first|exact hh|exact hq _ _ _ (by simp) hh
theorem Lm (hq:∀e a w,e≠ .normal->Q e a w->Q' e a w) (h:wpOpIn F m P ops Q i K a w):wpOpIn F m P ops Q' i K a w:=by
 unfold wpOpIn at*
 split
 ·rename_i ho;simpa [ho] using h
 ·rename_i o ho
  simp only [ho] at h
  split
  ·rename_i hw;simp only [hw,Oa] at h;exact wpIn_exit hq h
  ·rename_i hw;simp only [hw] at h;exact h
theorem Dn {Q Q':Exit->Go.Act->World->Prop} (hq:∀e a w,e≠ .normal->Q e a w->Q' e a w) {l2:List Nat} (hn:∀a w,Q .normal a w->wpOpsIn F m P ops Q' l2 a w):∀{l1:List Nat} {a:Go.Act} {w:World},wpOpsIn F m P ops Q l1 a w->wpOpsIn F m P ops Q' (l1++l2) a w
 |[],a,w,h=>hn a w h
 |i::l1,a,w,h=>by
  rw [wpOpsIn_cons] at h
  rw [Ps,wpOpsIn_cons]
  exact Lm hq (wpOpIn_mono (fun a w h=>Dn hq hn h) h)
inductive pC (P:Program) (n k0:Nat):List (List az)->S3->S3->Prop
 |nil {s:S3}:pC P n k0 [] s s
 |cons {p:List az} {ps:List (List az)} {s t u s':S3} (hw:s.Le k0 n t) (h:gv P n k0 p t.σ t.g t.k u.σ u.g u.k) (r:pC P n k0 ps u s'):pC P n k0 (p::ps) s s'
theorem Ln {rd:Option Nat} {E0:Env} (nd:∀id,E0.kn id->id<k0) {w0:World} (h:pC P n k0 ps s s'):
  ∀(i:Nat) (a:Go.Act) (w:World),(∀j,j<ps.flatten.length->∃op,ops[i+j]? =some op/\∃o,ps.flatten[j]? =some o/\fo P ops op=some o)->eE E0 J base w0 n s.σ s.g s.k a w->(∀a w,eE E0 J base w0 n s'.σ s'.g s'.k a w->Q .normal a w)->wpOpsIn (cx rd) 0 P ops Q (List.range' i ps.flatten.length) a w:=by
 induction h with
 |nil=>intro i a w _ hr hQ;exact hQ a w hr
 | @cons p ps s t u s' hw h r ih=>
  intro i a w dI hrel hQ
  rw [List.flatten_cons,Pk, <-List.range'_append_1]
  rw [List.flatten_cons,Pk] at dI
  refine Dn (Q:=fun e a w=>match e with| .normal=>wpOpsIn (cx rd) 0 P ops Q (List.range' (i+p.length) ps.flatten.length) a w|e=>Q e a w) (fun e a w he hh=>by cases e<;>first|exact hh|exact absurd rfl he) (fun a w hh=>hh) ?_
  refine Au nd h i a w (fun j hj=> ?_) (hw E0 J base w0 a w nd hrel) fun a w hr=> ?_
  ·obtain ⟨op,q1,o,q2,q3⟩:=dI j (by omega)
   exact ⟨op,q1,o,by rwa [O4 hj] at q2,q3⟩
  ·refine ih (i+p.length) a w (fun j hj=> ?_) hr hQ
   obtain ⟨op,q1,o,q2,q3⟩:=dI (p.length+j) (by omega)
   exact ⟨op,by rw [PG];exact q1,o,by rwa [Ph (by omega),Nat.add_sub_cancel_left] at q2,q3⟩
theorem ED.Lo (h:pC P n k0 ps s s'):ED P n k0 (.bG ps.flatten none) s .normal s':=by
 intro rd c E0 J base w0 a w b7 hc hk hr
 obtain ⟨id,ops,draw,rfl,h1,h2⟩:=sK hc
 rcases h2 with ⟨rfl,_⟩|⟨_,d,hd,_⟩
 ·obtain ⟨k1,k2⟩:=qv h1
  refine wpIn_region ?_
  have hsz:ops.size=ps.flatten.length:=by rw [<-k1];simp
  rw [List.range_eq_range',hsz]
  refine Ln (ops:=ops) hk h 0 a w (fun j hj=> ?_) hr fun a' w' hr'=>⟨.normal,s',⟨rfl,rfl⟩,rfl,hr'⟩
  have hjs:j<ops.size:=by omega
  obtain ⟨o,m1,m2⟩:=k2 j ops[j] (by simp [hjs])
  exact ⟨ops[j],by rw [On];exact Oo hjs,o,m1,m2⟩
 ·simp at hd
end
section
variable {τ:Type} {dn:τ->Type} [DecidableEq τ]
inductive LA (τ:Type) (dn:τ->Type) where
 |inv (vs:List (VK τ)) (I:VT dn vs->VT dn vs->Prop) (m:VT dn vs->VT dn vs->Nat)
 |Lp (m:Nat)
 |iJ (ss:List Nat)
 |Dp (i:Nat)
 |cut (vs:List (VK τ)) (I:VT dn vs->VT dn vs->Prop)
 |eq (i:Nat) (z:Int)
 |pf (i:Nat)
 |Dq (f:Nat)
def yO (an:Nat->Option (LA τ dn)) (os:List az):List Nat:=os.flatMap fun o=>match o.dst with
 |some d=>match an (1000+d) with
  |some (.iJ ss)=>ss
  |_=>[]
 |none=>[]
def Dr (an:Nat->Option (LA τ dn)) (os:List az):Bool:=(yO an os).all fun i=>Nat.blt i 5000
def Lq (an:Nat->Option (LA τ dn)) (os:List az):Option Nat:=match os with
 |o::_=>match o.dst with
  |some d=>match an (3000+d) with
   |some (.Dp i)=>some i
   |_=>none
  |none=>none
 |[]=>none
def cutB (an:Nat->Option (LA τ dn)) (o:az):Bool:=match o.dst with
 |some d=>(match an (11000+d) with|some (.Dq _)=>true|_=>false)||(match an (9000+d) with|some (.pf _)=>true|_=>false)||(match an (7000+d) with|some (.eq _ _)=>true|_=>false)||(match an (5000+d) with|some (.cut _ _)=>true|_=>false)||(match an (1000+d) with|some (.iJ _)=>true|_=>false)||(match an (3000+d) with|some (.Dp _)=>true|_=>false)
 |none=>false
def pieces (an:Nat->Option (LA τ dn)):List az->List (List az)
 |[]=>[]
 |o::os=>match pieces an os with
  |[]=>[[o]]
  |[]::ps=>[o]::ps
  |(p::q)::ps=>bif cutB an p then [o]::(p::q)::ps else (o::p::q)::ps
omit [DecidableEq τ] in
theorem Ds (an:Nat->Option (LA τ dn)):∀os:List az,(pieces an os).flatten=os
 |[]=>rfl
 |o::os=>by
  have ih:=Ds an os
  unfold pieces
  split
  ·rename_i h;rw [h] at ih;simp at ih;simp [ih]
  ·rename_i h;rw [h] at ih;simp at ih;simp [ih]
  ·rename_i h
   rw [h] at ih
   cases hb:cutB an _ with
   |true=>rw [Ob,List.flatten_cons,ih];rfl
   |false=>rw [Ot,List.flatten_cons,Ps, <-List.flatten_cons,ih]
def Dt (an:Nat->Option (LA τ dn)) (os:List az):Option ((vs:List (VK τ))×(VT dn vs->VT dn vs->Prop)):=match os with
 |o::_=>match o.dst with
  |some d=>match an (5000+d) with
   |some (.cut vs I)=>some ⟨vs,I⟩
   |_=>none
  |none=>none
 |[]=>none
def Du (an:Nat->Option (LA τ dn)) (os:List az):Option (Nat×Int):=match os with
 |o::_=>match o.dst with
  |some d=>match an (7000+d) with
   |some (.eq i z)=>some (i,z)
   |_=>none
  |none=>none
 |[]=>none
def uQ (o:Option (Nat×Int)) (st:SS τ dn) (K:SS τ dn->Prop):Prop:=match o with
 |none=>K st
 |some (i,z)=>match st.gt i with
  |some (.vi x)=>x=z/\K (st.fY i (.vn z))
  |_=>K st
omit [DecidableEq τ] in
theorem Dv {D:TD τ dn} {o:Option (Nat×Int)} {st:SS τ dn} {K:SS τ dn->Prop} (R:Rel D N st s) (h:uQ o st K):∃aw,Rel D N aw s/\aw.rt=st.rt/\aw.rm=st.rm/\aw.nx=st.nx/\K aw:=by
 unfold uQ at h
 split at h
 ·exact ⟨st,R,rfl,rfl,rfl,h⟩
 ·rename_i i z
  split at h
  ·rename_i x hx
   obtain ⟨hz,h⟩:=h
   refine ⟨st.fY i (.vn z),⟨fun N' hN=> ?_,R.inj,R.lt,R.ml,R.rl,R.sp⟩,rfl,rfl,rfl,h⟩
   have A:=R.at_ N' hN
   refine ⟨fun j v hv=> ?_,A.rs,A.bl,A.rb,A.ar⟩
   simp only [SS.fY,ba] at hv
   split at hv
   ·rename_i e
    simp only [N6] at hv
    subst hv;subst e
    rw [A.gt hx]
    simp only [SV.av,hz]
   ·exact A.sl j v hv
  ·exact ⟨st,R,rfl,rfl,rfl,h⟩
def Lr (an:Nat->Option (LA τ dn)) (os:List az) (st:SS τ dn):List Nat:=match os with
 |o::_=>match o.dst with
  |some d=>match an (9000+d) with
   |some (.pf i)=>match st.gt i with
    |some (.own nm _)=>match st.gm nm with
     |some (.bc _ els)=>els.flatMap fun cs=>cs.filterMap yg
     |_=>[]
    |_=>[]
   |_=>[]
  |none=>[]
 |[]=>[]
def rV (an:Nat->Option (LA τ dn)) (os:List az):Option Nat:=match os with
 |o::_=>match o.dst with
  |some d=>match an (11000+d) with
   |some (.Dq f)=>some f
   |_=>none
  |none=>none
 |[]=>none
def b0.wo (C:b0 τ dn) (o:Option Nat):b0 τ dn:=⟨C.P,C.D,(match o with
 |none=>C.Δ
 |some f=>C.Δ.filter fun c=> !Nat.beq c.f f),C.Ω,C.fl,C.J,o.isSome⟩
omit [DecidableEq τ] in
theorem b0.Ok.wo {C:b0 τ dn} (h:C.Ok) (o:Option Nat):(C.wo o).Ok:=by
 refine ⟨h.ok,fun c hc=> ?_,h.CA,h.inl⟩
 cases o with
 |none=>exact h.uo c hc
 |some f=>exact h.uo c (List.mem_filter.1 hc).1
def isBl:VK τ->Bool
 | .bl _ _=>true
 |_=>false
def uR (D:TD τ dn) (c:Option ((vs:List (VK τ))×(VT dn vs->VT dn vs->Prop))) (st:SS τ dn) (K:SS τ dn->Prop):Prop:=match c with
 |none=>K st
 |some ⟨vs,I⟩=>match lO D st vs with
  |some x0=>bif vs.all isBl&&okT (lessB st.nx) vs (vs.map (nmV st)) then I x0 x0/\uB vs fun x=>I x0 x->K ⟨st.rt,st.rm,st.t,putM D vs (vs.map (nmV st)) x++st.m,st.nx⟩ else False
  |none=>False
theorem Dw {D:TD τ dn} (ok:aZ D) {c:Option ((vs:List (VK τ))×(VT dn vs->VT dn vs->Prop))} {st:SS τ dn} {K:SS τ dn->Prop} (R:Rel D N st s) (h:uR D c st K):∃aw,Rel D N aw s/\aw.rt=st.rt/\aw.rm=st.rm/\aw.nx=st.nx/\K aw:=by
 unfold uR at h
 split at h
 ·exact ⟨st,R,rfl,rfl,rfl,h⟩
 ·rename_i vs I
  split at h
  case h_2=>exact h.elim
  rename_i x0 hx
  cases hb:(vs.all isBl&&okT (lessB st.nx) vs (vs.map (nmV st))) with
  |false=>rw [hb] at h;exact h.elim
  |true=>
  rw [hb,Ob] at h
  rw [N9] at hb
  obtain ⟨bk,hT⟩:=hb
  have hk:=(uC.1 h.2) x0 h.1
  have kC:(vs.map (nmV st)).length=vs.length:=Ox ..
  have Dx:∀nm B,getS (putM D vs (vs.map (nmV st)) x0++st.m) nm=some (some B)->(nm,some B)∈putM D vs (vs.map (nmV st)) x0\/getS st.m nm=some (some B):=fun nm B hB=>by
   rw [fZ] at hB
   cases hq:getS (putM D vs (vs.map (nmV st)) x0) nm with
   |some w=>rw [hq] at hB;simp only [PN,N6] at hB;subst hB;exact .inl (jg hq)
   |none=>rw [hq] at hB;simp only [Pw] at hB;exact .inr hB
  have old:∀nm B,(nm,some B)∈putM D vs (vs.map (nmV st)) x0->(∃B',st.bw nm B')/\∀t A,B≠ .ar t A:=fun nm B hB=>by
   rcases uF hx kC nm B hB with ⟨j,v,p1,p2,p3,⟨B',p4⟩,p5⟩|⟨_,⟨B',p4⟩,p5⟩
   case inr=>exact ⟨⟨B',gG p4⟩,p5⟩
   rw [Oy,p1] at p2
   simp only [Oh,N6] at p2
   refine ⟨⟨B',by rw [<-p2];exact gG p4⟩,fun t A e=> ?_⟩
   have:=Oc.1 bk v (OG p1)
   rw [(p5 t A e).1] at this
   simp [isBl] at this
  have cM:∀nm B,(⟨st.rt,st.rm,st.t,putM D vs (vs.map (nmV st)) x0++st.m,st.nx⟩:SS τ dn).bw nm B->(∃B',st.bw nm B')/\∀t A,B= .ar t A->st.bw nm (.ar t A):=fun nm B hB=>by
   rcases hB with hB|hB
   ·rcases Dx nm B hB with h1|h1
    ·obtain ⟨q1,q2⟩:=old nm B h1
     exact ⟨q1,fun t A e=>absurd e (q2 t A)⟩
    ·exact ⟨⟨B, .inl h1⟩,fun t A e=>by subst e;exact .inl h1⟩
   ·exact ⟨⟨B, .inr hB⟩,fun t A e=>by subst e;exact .inr hB⟩
  refine ⟨⟨st.rt,st.rm,st.t,putM D vs (vs.map (nmV st)) x0++st.m,st.nx⟩,⟨fun N' hN=> ?_,R.inj,R.lt,fun nm B hB=> ?_,R.rl,fun t A hA id hid=> ?_⟩,rfl,rfl,rfl,hk⟩
  ·have A:=R.at_ N' hN
   refine ⟨A.sl,A.rs,fun nm B hB=> ?_,A.rb,fun t A' hA id hid=>A.ar t A' ((cM 0 _ hA).2 t A' rfl) id hid⟩
   rcases Dx nm B hB with h1|h1
   ·obtain ⟨B',e,q⟩:=kA ok (uE ok A hx) nm (some B) h1
    simp only [N6] at e;subst e
    exact q
   ·exact A.bl nm B h1
  ·show nm<st.nx
   have aL:getS (putM D vs (vs.map (nmV st)) x0++st.m) nm=some B:=hB
   rw [fZ] at aL
   cases hq:getS (putM D vs (vs.map (nmV st)) x0) nm with
   |some w=>exact rP (oa hT nm w (jg hq))
   |none=>rw [hq] at aL;simp only [Pw] at aL;exact R.ml nm B aL
  ·have h1:=(cM 0 _ hA).2 t A rfl
   obtain ⟨q1,q2⟩:=R.sp t A h1 id hid
   refine ⟨q1,fun nm B hB=> ?_⟩
   obtain ⟨⟨B',aL⟩,_⟩:=cM nm B hB
   exact q2 nm B' aL
def AC.nl:AC->Nat
 | .seq a b=>a.nl+b.nl
 | .cond _ a b=>a.nl+b.nl
 | .block _ a=>a.nl
 | .loop a=>a.nl+1
 |_=>0
def AC.jh:AC->List Nat
 | .seq a b=>a.jh++b.jh
 | .cond _ a b=>a.jh++b.jh
 | .block _ a=>a.jh
 | .loop a=>a.jh
 | .bG os _=>os.filterMap az.dst
 |_=>[]
def jS (D:TD τ dn) (st:SS τ dn):VK τ->SS τ dn
 | .ow i t=>match st.gt i with
  |some .emp=>bif Nat.blt 0 (D.sz t)&&(getS st.rt i).isNone then ⟨st.rt,st.rm,(i, .own st.nx (D.sz t))::st.t,(st.nx,some (.bl t []))::st.m,st.nx+1⟩ else st
  |_=>st
 | .so q f t _| .sg q f t _ _=>match st.gm q with
  |some (.bc Q [vs])=>match vs[f]? with
   |some .emp=>bif Nat.blt 0 (D.sz t)&&(Nat.blt 0 Q&&st.rw q) then ⟨st.rt,st.rm,st.t,(q,some (.bc Q [vs.set f (.own st.nx (D.sz t))]))::(st.nx,some (.bl t []))::st.m,st.nx+1⟩ else st
   |_=>st
  |_=>st
 |_=>st
def pD (D:TD τ dn):SS τ dn->List (VK τ)->SS τ dn
 |st,[]=>st
 |st,v::r=>pD D (jS D st v) r
def yP (B:SS τ dn->(Ex->SS τ dn->Prop)->Prop):Nat->SS τ dn->(Ex->SS τ dn->Prop)->Prop
 |0,_,_=>False
 |m+1,st,K=>B st fun e aw=>match e with
  | .normal=>yP B m aw K
  |e=>K e aw
def okB (vs:List (VK τ)) (T:List Nat) (st:SS τ dn) (p:Nat->Bool) (ft:List (Nat×SV τ dn)) (fm:List (Nat×Option (SB τ dn))):Bool:=
 (st.rt.all fun q=>q.2.fr p&& !hasN (ed vs) q.1&&(getS ft q.1).isNone)&&(st.rm.all fun q=>p q.1&&(match q.2 with|some B=>B.fr p|none=>true)&&(getS fm q.1).isNone)&&
 okT (lessB st.nx) vs T&&okT (fun a=> !hasN (movesV vs T) a) (vs.filter fun v=> !mJ v) ((vs.zip T).filterMap fun q=>bif mJ q.1 then none else some q.2)&&rO (movesV vs T)
def nextB (vs:List (VK τ)) (T A:List Nat) (nx nx':Nat):Bool:=
 rO ((List.range nx).map (dC vs T A))&&((List.range nx).all fun a=>lessB nx' (dC vs T A a))&&((vs.zip (T.zip A)).all fun q=>eK q.1||(Nat.beq (dC vs T A q.2.1) q.2.2&&(mJ q.1||Nat.beq q.2.1 q.2.2)))&&(ic vs).all fun a=>Nat.beq (dC vs T A a) a
def keepP (vs:List (VK τ)) (T:List Nat) (nx:Nat) (a:Nat):Bool:=lessB nx a&& !hasN (movesV vs T) a
def Dy (D:TD τ dn) (fl:Nat) (vs:List (VK τ)) (I:VT dn vs->Prop) (ms:VT dn vs->Nat) (B:SS τ dn->(Ex->SS τ dn->Prop)->Prop) (st:SS τ dn) (K:Ex->SS τ dn->Prop) (T:List Nat) (x0:VT dn vs) (ft:List (Nat×SV τ dn)) (fm:List (Nat×Option (SB τ dn))):Prop:=
 bif okB vs T st (keepP vs T st.nx) ft fm&&(movesV vs T).all (Nat.ble fl) then I x0/\uB vs fun x=>I x->B ⟨ft++st.rt,fm++st.rm,bP D vs T x,putM D vs T x,st.nx⟩ fun e aw=>match e with
  | .normal=>match lO D aw vs with
   |some x'=>bif nextB vs T (vs.map (nmV aw)) st.nx aw.nx then I x'/\ms x'<ms x else False
   |none=>False
  |e=>K e ⟨st.rt,st.rm,aw.t++ft,aw.m++fm,aw.nx⟩
 else False
def yQ (D:TD τ dn) (fl:Nat) (vs:List (VK τ)) (I:VT dn vs->VT dn vs->Prop) (ms:VT dn vs->VT dn vs->Nat) (jh:List Nat) (B:SS τ dn->(Ex->SS τ dn->Prop)->Prop) (st:SS τ dn) (K:Ex->SS τ dn->Prop):Prop:=
 match lO D st vs with
 |none=>False
 |some x0=>Dy D fl vs (I x0) (ms x0) B st K (vs.map (nmV st)) x0 (lN (keepP vs (vs.map (nmV st)) st.nx) (ed vs++jh) st.t) (kz (keepP vs (vs.map (nmV st)) st.nx) (n9 vs (vs.map (nmV st))) st.m)
def Dz (C:b0 τ dn) (n:Nat) (c:Cn) (a b:AC) (st:SS τ dn):Option (List Prop×SS τ dn):=
 match a,b with
 | .skip, .bG os none=>uO C n c true os st
 | .bG os none, .skip=>uO C n c false os st
 |_,_=>none
def uS (C:b0 τ dn) (n:Nat) (an:Nat->Option (LA τ dn)):List (List az)->SS τ dn->(SS τ dn->Prop)->Prop
 |[],st,K=>K st
 |p::ps,st,K=>pz C.D (Dr an (p.take 1)) (st.uJ (yO an (p.take 1))) st fun st=>yp (Lq an p) st fun st=>uR C.D (Dt an p) st fun st=>uQ (Du an p) st fun st=>kx C.D (Lr an p st) st fun st=>wpOps (C.wo (rV an p)) n none true p [] st fun st=>uS C n an ps st K
def eL (C:b0 τ dn) (n:Nat) (an:Nat->Option (LA τ dn)):AC->Nat->SS τ dn->(Ex->SS τ dn->Prop)->Prop
 | .skip,_,st,K=>K .normal st
 | .ret,_,st,K=>K .ret st
 | .exit i,_,st,K=>K (.exit i) st
 | .seq a b,k,st,K=>eL C n an a k st fun e aw=>match e with
  | .normal=>eL C n an b (k+a.nl) aw K
  |e=>K e aw
 | .cond c a b,k,st,K=>match st.ev c with
  |some (.vt true)=>eL C n an a k st K
  |some (.vt false)=>eL C n an b (k+a.nl) st K
  |some (.vb c)=>match Dz C n c a b st with
   |some (O,aw)=>fB O (K .normal aw)
   |none=>(c.tf true->eL C n an a k st K)/\(c.tf false->eL C n an b (k+a.nl) st K)
  |_=>False
 | .block i a,k,st,K=>eL C n an a k st fun e aw=>K (e.ko i) aw
 | .loop a,k,st,K=>match an k with
  |some (.Lp m)=>yP (eL C n an a (k+1)) m st K
  |some (.inv vs I ms)=>yQ C.D C.fl vs I ms a.jh (eL C n an a (k+1)) (pD C.D st vs) K
  |_=>False
 | .bG os none,_,st,K=>uS C n an (pieces an os) st (K .normal)
 | .bG os (some dep),_,st,K=>pz C.D (Dr an os) (st.uJ (yO an os)) st fun st=>uR C.D (Dt an os) st fun st=>uQ (Du an os) st fun st=>wpOps (C.wo (rV an os)) n (some dep) (KL (C.wo (rV an os)) (some dep) os) os [] st (K .normal)
 | .gB _ _ _ _,_,_,_=>False
def Ends (C:b0 τ dn) (n k0:Nat) (ac:AC) (N:aC) (st:SS τ dn) (s:S3) (K:Ex->SS τ dn->Prop):Prop:=
 ∃e s' N' aw,ED C.P n k0 ac s e s'/\Rel C.D N' aw s'/\aw.rt=st.rt/\aw.rm=st.rm/\(N.agree C.fl N'/\C.fl<=aw.nx)/\K e aw
theorem uT {m:Nat} (h:N.agree m N') (hn:n<=m):N.agree n N':=⟨fun a ha=>h.1 a (Oz ha hn),h.2⟩
end
section
theorem aE.Ls (hm:aE E J base g) {B B':Bk} (hB:g q=some B) (hz:B.sz≠0) (hsz:B'.sz=B.sz) (hl:B.els.length=B'.els.length) (hc:∀(i:Nat) cs ds,B.els[i]? =some cs->B'.els[i]? =some ds->cs.length=ds.length/\∀(j:Nat) c d,cs[j]? =some c->ds[j]? =some d->∀v,aj E v c->aj E v d):aE E J base (aA g [(q,some B')]):=by
 have old:∀{id X},aA g [(q,some B')] id=some X->(id=q/\X=B')\/(id≠q/\g id=some X):=fun {id X} h=>by
  simp only [aA] at h
  by_cases e:id=q
  ·rw [N8 e] at h;simp only [N6] at h;exact .inl ⟨e,h.symm⟩
  ·rw [N7 e] at h;exact .inr ⟨e,h⟩
 have uU:∀{id X},aA g [(q,some B')] id=some X->∃Y,g id=some Y:=fun h=>by
  rcases old h with ⟨rfl,_⟩|⟨_,h⟩
  ·exact ⟨_,hB⟩
  ·exact ⟨_,h⟩
 refine ⟨fun id=> ?_,fun id X hg=> ?_,fun id b5 b B1 B2 h1 h2 h3 h4=> ?_,fun id b X hg hb=> ?_,hm.low,hm.size,fun id X hg cE=> ?_,hm.fb,fun b hb=>⟨(hm.xo b hb).1,(hm.xo b hb).2.1,fun k B1 hk he=>(uU hk).elim fun B2 h2=>(hm.xo b hb).2.2 k B2 h2 he⟩⟩
 ·rw [hm.live id]
  simp only [aA]
  by_cases e:id=q
  ·subst e;rw [N8 rfl,hB];exact ⟨fun _=>⟨_,rfl⟩,fun _=>⟨_,rfl⟩⟩
  ·rw [N7 e]
 ·rcases old hg with ⟨rfl,rfl⟩|⟨_,h⟩
  ·have h0:=hm.at_ id B hB
   cases hloc:E.loc id with
   |none=>
    rw [hloc] at h0
    have l9:B.els=[]:=h0
    show X.els=[]
    rw [l9] at hl
    exact Pj (by simpa using hl.symm)
   |some b=>
    rw [hloc] at h0
    obtain ⟨h1,⟨hz0,arr,t,h2,h3,h4⟩|⟨hz0,_⟩⟩:=h0
    ·refine .iK ⟨h1,arr,t,h2,by rw [<-hl,hsz];exact h3,fun i ds hi=> ?_⟩ (by rw [hsz];exact hz0)
     have cw:i<B.els.length:=by rw [hl];exact (Oe.1 hi).1
     have hcs:=Oq cw
     obtain ⟨e1,e2⟩:=hc i _ ds hcs hi
     refine ⟨by rw [<-e1,hsz];exact (h4 i _ hcs).1,fun j d hj=> ?_⟩
     have bj:j<B.els[i].length:=by rw [e1];exact (Oe.1 hj).1
     obtain ⟨u,u1,u2,u3⟩:=(h4 i _ hcs).2 j _ (Oq bj)
     exact ⟨u,by rw [hsz];exact u1,u2,e2 j _ d (Oq bj) hj u u3⟩
    ·exact absurd hz0 hz
  ·exact hm.at_ id X h
 ·obtain ⟨Y1,y1⟩:=uU h1
  obtain ⟨Y2,y2⟩:=uU h2
  exact hm.apart id b5 b Y1 Y2 y1 y2 h3 h4
 ·obtain ⟨Y,y⟩:=uU hg
  exact hm.out id b Y y hb
 ·rcases old hg with ⟨rfl,rfl⟩|⟨_,h⟩
  ·rw [<-hl];exact hm.len id B hB hz
  ·exact hm.len id X h cE
theorem S3.Lt {Q sz f:Nat} {cs:List AV} (hq:s.g q=some ⟨Q,[cs]⟩) (hk:q<s.k) (hf:cs[f]? =some .emp) (hQ:Q≠0) (hz:sz≠0):s.Le k0 n ⟨s.σ,aA (aA s.g [(s.k,some ⟨sz,[]⟩)]) [(q,some ⟨Q,[cs.set f (.own s.k sz 0 0)]⟩)],s.k+1⟩:=by
 intro E0 J base w0 a w nd hr
 obtain ⟨E,rfl,hle,hs,hm,aX,hmk⟩:=hr.ex
 obtain ⟨E',hw,hE,hM,k1,k2,k3,k4,k5⟩:=hm.sy (fresh:=s.k) (fun hh=>Pl _ (aX _ hh)) sz
 have ir:aA s.g [(s.k,some ⟨sz,[]⟩)] q=some ⟨Q,[cs]⟩:=by simp only [aA];rw [N7 (by omega)];exact hq
 have jE:f<cs.length:=(Oe.1 hf).1
 have kf:=hM.Ls (B':=⟨Q,[cs.set f (.own s.k sz 0 0)]⟩) ir hQ rfl rfl (fun i c1 d1 h1 h2=>by
  cases i with
  |succ i=>simp at h1
  |zero=>
   simp only [OI,N6] at h1 h2
   subst h1;subst h2
   refine ⟨by simp,fun j c d hc hd v hv=> ?_⟩
   rw [List.getElem?_set] at hd
   by_cases e:f=j
   ·subst e
    rw [N8 rfl,N8 jE,N6] at hd
    subst hd
    rw [hf,N6] at hc
    subst hc
    obtain ⟨A,hA⟩:=qG hv
    rw [hA]
    exact .bQ k1 k2 k3 k5 hz
   ·rw [N7 e,hc,N6] at hd
    subst hd;exact hv)
 refine ⟨⟨E',hw,hle.trans hE,fun j=>(hs j).step hE,kf,fun id hid=> ?_,hmk.step hE⟩,hr.size,hr.below,hr.gl⟩
 show id<s.k+1
 rcases k4 id hid with h|h
 ·have:=aX id h;omega
 ·omega
end
section
variable {τ:Type} {dn:τ->Type}
theorem DA {D:TD τ dn} {n k0:Nat}:∀{vs:List (VK τ)} {N:aC} {st:SS τ dn} {s:S3},Rel D N st s->∃s' N',s.Le k0 n s'/\Rel D N' (pD D st vs) s'/\(pD D st vs).rt=st.rt/\(pD D st vs).rm=st.rm/\N.agree st.nx N'/\st.nx<=(pD D st vs).nx
 |[],N,st,s,R=>⟨s,N,S3.Le.mH,R,rfl,rfl,N.dN _,Og _⟩
 |v::r,N,st,s,R=>by
  have one:∃s' N',s.Le k0 n s'/\Rel D N' (jS D st v) s'/\(jS D st v).rt=st.rt/\(jS D st v).rm=st.rm/\N.agree st.nx N'/\st.nx<=(jS D st v).nx:=by
   have no:∃s' N',s.Le k0 n s'/\Rel D N' st s'/\st.rt=st.rt/\st.rm=st.rm/\N.agree st.nx N'/\st.nx<=st.nx:=⟨s,N,S3.Le.mH,R,rfl,rfl,N.dN _,Og _⟩
   have DB:∀(q f:Nat) (t:τ) (cs:List (Nat×Nat)),∃s' N',s.Le k0 n s'/\Rel D N' (jS D st (.so q f t cs)) s'/\(jS D st (.so q f t cs)).rt=st.rt/\(jS D st (.so q f t cs)).rm=st.rm/\N.agree st.nx N'/\st.nx<=(jS D st (.so q f t cs)).nx:=by
    intro q f t cs
    simp only [jS]
    split
    ·rename_i Q vs hB
     split
     ·rename_i hf
      cases hb:(Nat.blt 0 (D.sz t)&&(Nat.blt 0 Q&&st.rw q)) with
      |false=>rw [Ot];exact no
      |true=>
       rw [Ob]
       rw [N9,N9] at hb
       have hz:D.sz t≠0:=Nat.ne_of_gt (ON hb.1)
       have hQ:Q≠0:=Nat.ne_of_gt (ON hb.2.1)
       obtain ⟨⟨B1,m1⟩,r1⟩:=jM hb.2.2
       have hB1:B1= .bc Q [vs]:=by have:=mC m1;rw [this] at hB;simpa using hB
       subst hB1
       have pE:=R.ml q _ m1
       obtain ⟨g1,g2⟩:=R.here.bl q _ m1
       have R1:=R.go (n:=0) (d:=none) (r:= .new [] (.own st.nx (D.sz t)) (.bl t [])) rfl rfl (val:= .own s.k (D.sz t) 0 0) (ups:=[(s.k,some ⟨D.sz t,[]⟩)]) (fun N' hN=>by
        simp only [SR.v,SV.av]
        have h1:=hN.1 st.nx (Pc _)
        simp only [SR.up,aC.cX,Oa] at h1
        rw [h1.1,h1.2];rfl) (fun N' hN=>rfl)
       have dH:=N.lA st.nx s.k 0
       have Lu:(N.cX st.nx s.k 0).ι q=N.ι q:=(dH.1 q pE).1
       have Lv:(N.cX st.nx s.k 0).ι st.nx=s.k/\(N.cX st.nx s.k 0).ln st.nx=0:=by simp [aC.cX]
       have hne:q≠st.nx:=Nat.ne_of_lt pE
       have l6:(SR.put [] (.vo undef) q (.bc Q [vs.set f (.own st.nx (D.sz t))]):SR τ dn).may D (N.cX st.nx s.k 0) ((SR.new [] (.own st.nx (D.sz t)) (.bl t []):SR τ dn).st st none):=by
        refine ⟨⟨.bc Q [vs], ?_, ?_⟩,r1,rfl⟩
        ·show getS ((st.nx,some (.bl t []))::st.m) q=_
         rw [ba,N7 hne];exact m1
        ·rw [(dH.1 q pE).2,g2];rfl
       have Lw:∀N':aC,(N.cX st.nx s.k 0).agree (st.nx+1) N'->(vs.map (SV.av D.toTE N'))=vs.map (SV.av D.toTE N):=fun N' hN=>by
        have A':=R.at_ N' (aC.eH dH hN (Nat.le_succ _))
        have e1:=(A'.bl q _ m1).1
        rw [((aC.eH dH hN (Nat.le_succ _)).1 q pE).1,g1] at e1
        simpa [SB.av,SV.bR,SV.bu] using e1.symm
       have R2:=R1.go (n:=0) (d:=none) (r:= .put [] (.vo undef) q (.bc Q [vs.set f (.own st.nx (D.sz t))])) rfl l6 (val:= .v undef) (ups:=[(N.ι q,some ⟨Q,[(vs.map (SV.av D.toTE N)).set f (.own s.k (D.sz t) 0 0)]⟩)]) (fun N' hN=>rfl) (fun N' hN=>by
        have yR:(N.cX st.nx s.k 0).agree (st.nx+1) N':=hN
        have h1:=yR.1 st.nx (Pc _)
        have h2:=(yR.1 q (PM pE)).1
        simp only [SR.ups,SB.av,SV.bR,SV.bu,Pv,SV.av,h1.1,h1.2,h2,Lv,Lu,Lw N' yR])
       refine ⟨_,N.cX st.nx s.k 0,S3.Lt (q:=N.ι q) (f:=f) (cs:=vs.map (SV.av D.toTE N)) (sz:=D.sz t) (by rw [g1];simp only [SB.av,SV.bR,SV.bu]) (R.lt q pE) (by rw [Oy,hf];rfl) hQ hz, ?_,rfl,rfl,dH,Nat.le_succ _⟩
       exact R2
     ·exact no
    ·exact no
   cases v with
   |ow i t=>
    simp only [jS]
    split
    ·rename_i hg
     cases hb:(Nat.blt 0 (D.sz t)&&(getS st.rt i).isNone) with
     |false=>rw [Ot];exact no
     |true=>
      rw [Ob]
      rw [N9] at hb
      have hz:D.sz t≠0:=Nat.ne_of_gt (ON hb.1)
      have hσ:s.σ i= .emp:=R.here.gt hg
      refine ⟨_,N.cX st.nx s.k 0,S3.KY hσ hz, ?_,rfl,rfl,N.lA _ _ _,Nat.le_succ _⟩
      have:=R.go (n:=i+1) (d:=some i) (r:= .new [] (.own st.nx (D.sz t)) (.bl t [])) (by simp only [dstS,N9];exact ⟨Nat.ble_eq_true_of_le (Og _),hb.2⟩) rfl (val:= .own s.k (D.sz t) 0 0) (ups:=[(s.k,some ⟨D.sz t,[]⟩)]) (fun N' hN=>by
       simp only [SR.v,SV.av]
       have h1:=hN.1 st.nx (Pc _)
       simp only [SR.up,aC.cX,Oa] at h1
       rw [h1.1,h1.2];rfl) (fun N' hN=>rfl)
      refine cast ?_ this
      congr 2
      funext j
      simp only [bD,N6]
      by_cases hj:j=i
      ·subst hj;rw [N8 ⟨rfl,Pc _⟩,N8 rfl]
      ·rw [N7 (fun hh=>hj hh.1.symm),N7 hj]
    ·exact no
   |so q f t cs=>exact DB q f t cs
   |sg q f t S fx=>exact DB q f t []
   |_=>exact no
  obtain ⟨s1,N1,h1,h2,h3,h4,h5,h6⟩:=one
  obtain ⟨s2,N2,q1,q2,q3,q4,q5,q6⟩:=DA (vs:=r) h2
  exact ⟨s2,N2,h1.trans' q1,q2,q3.trans h3,q4.trans h4,aC.eH h5 q5 h6,OF h6 q6⟩
mutual
theorem SV.oe {p q:Nat->Bool} (h:∀a,p a=true->q a=true):∀(v:SV τ dn),v.fr p=true->v.fr q=true
 | .own nm sz,hv| .part nm sz _ _,hv| .ref nm sz _ _,hv| .mp nm,hv=>by simp only [SV.fr] at hv ⊢; exact h nm hv
 | .agg cs,hv| .aK cs,hv| .fn _ cs,hv| .bf _ cs,hv| .pim cs _,hv=>by simp only [SV.fr] at hv ⊢; exact SV.yS h cs hv
 | .vc _ els,hv=>by simp only [SV.fr] at hv ⊢; exact SV.uV h els hv
 | .vg p c v,hv=>by simp only [SV.fr] at hv ⊢; exact SV.oe h v hv
 | .rw _ _,_| .cQ _ _ _ _,_| .vl _ _,_| .vi _,_| .vn _,_| .vy _,_| .vu _,_| .vw _ _,_| .vb _,_| .vt _,_| .vz _,_| .vo _,_| .emp,_| .dead,_=>by simp only [SV.fr]
theorem SV.yS {p q:Nat->Bool} (h:∀a,p a=true->q a=true):∀(cs:List (SV τ dn)),SV.dM p cs=true->SV.dM q cs=true
 |[],_=>rfl
 |v::r,hv=>by simp only [SV.dM,N9] at hv ⊢; exact ⟨SV.oe h v hv.1,SV.yS h r hv.2⟩
theorem SV.uV {p q:Nat->Bool} (h:∀a,p a=true->q a=true):∀(els:List (List (SV τ dn))),SV.ld p els=true->SV.ld q els=true
 |[],_=>rfl
 |v::r,hv=>by simp only [SV.ld,N9] at hv ⊢; exact ⟨SV.yS h v hv.1,SV.uV h r hv.2⟩
end
theorem SB.oe {p q:Nat->Bool} (h:∀a,p a=true->q a=true) (B:SB τ dn) (hB:B.fr p=true):B.fr q=true:=by
 cases B with
 |bl t xs=>rfl
 |bc sz els=>simp only [SB.fr] at hB ⊢; exact SV.uV h els hB
 |mc els=>simp only [SB.fr] at hB ⊢; exact SV.uV h els hB
 |ar t A=>rfl
def jT (D:TD τ dn) (st:SS τ dn):List ka->Option (List Prop×List (SV τ dn))
 |[]=>some ([],[])
 | .tmp i::r=>match st.gt i,jT D st r with
  |some v,some (O,l)=>some (O,v::l)
  |_,_=>none
 | .cell i m::r=>match st.gt i,jT D st r with
  |some a,some (O,l)=>match nS D st m a with
   |some (.val O' v)=>some (O'++O,v::l)
   |_=>none
  |_,_=>none
def kD (vs:List (SV τ dn)) (i:Nat):List (Nat×SV τ dn):=match vs with
 |[]=>[]
 |v::r=>(i,v)::kD r (i+1)
theorem yT {i:Nat}:∀{vs:List (SV τ dn)} {k:Nat} {v:SV τ dn},getS (kD vs k) i=some v->k<=i/\vs[i - k]? =some v
 |[],k,v,h=>by simp [kD,getS] at h
 |w::r,k,v,h=>by
  simp only [kD,ba] at h
  by_cases hi:i=k
  ·rw [N8 hi,N6] at h
   subst h;subst hi;exact ⟨Og _,by simp⟩
  ·rw [N7 hi] at h
   obtain ⟨h1,h2⟩:=yT h
   refine ⟨by omega, ?_⟩
   rw [show i - k=(i - (k+1))+1 by omega,OX];exact h2
theorem Lx {D:TD τ dn} {st:SS τ dn} {σ:Nat->AV} (ok:aZ D) (R:bg D N st σ g) {m:Option Nat} {a:SV τ dn} (hx:st.gt i=some a) {O:List Prop} {v:SV τ dn} (h:nS D st m a=some (.val O v)) (hO:∀p,p∈O->p):(qw m (σ i)).run g=some (v.av D.toTE N):=by
 have e:=Ca ok R (x:= .s i) hx h 0 hO trivial
 have hs:aG σ (.s i)=σ i:=rfl
 simp only [AO.au,hs] at e
 unfold qw
 cases hσ:σ i<;>rw [hσ] at e<;>simp only at e ⊢
 case pim cs o=>
  cases hg:getCells cs o m with
  |none=>rw [hg] at e;simp [RM.opt,RM.run] at e
  |some w=>rw [hg] at e;simp only [Oh,RM.opt,RM.run,N6,Out.done.injEq] at e;simp only [RM.opt,RM.run,e.1];rfl
 case ref id sz j o=>
  simp only [RM.run] at e ⊢
  cases hg:g id with
  |none=>rw [hg] at e;simp at e
  |some B=>
   rw [hg] at e
   simp only at e ⊢
   split at e
   ·rename_i hz
    rw [N8 hz]
    cases hq:(B.els[j]?.bind fun cs=>getCells cs o m) with
    |none=>rw [hq] at e;simp [RM.opt,RM.run] at e
    |some w=>rw [hq] at e;simp only [Oh,RM.opt,RM.run,N6,Out.done.injEq] at e;simp only [RM.opt,RM.run,e.1];rfl
   ·simp [RM.run] at e
 all_goals simp [RM.run] at e
theorem uW {D:TD τ dn} {N:aC} {st:SS τ dn} {σ:Nat->AV} {g:Nat->Option Bk} (ok:aZ D) (R:bg D N st σ g):∀{res:List ka} {O:List Prop} {l:List (SV τ dn)},jT D st res=some (O,l)->(∀p,p∈O->p)->(ke σ res).run g=some (l.map (SV.av D.toTE N))
 |[],O,l,h,hO=>by simp only [jT,N6,Oi] at h;obtain ⟨_,rfl⟩:=h;rfl
 | .tmp i::r,O,l,h,hO=>by
  simp only [jT] at h
  split at h
  ·rename_i v O' l' h1 h2
   simp only [N6,Oi] at h;obtain ⟨rfl,rfl⟩:=h
   simp only [ke]
   rw [dq (uW ok R h2 hO)]
   simp only [RM.run,Om,R.gt h1]
  ·simp at h
 | .cell i m::r,O,l,h,hO=>by
  simp only [jT] at h
  split at h
  ·rename_i a O' l' h1 h2
   split at h
   ·rename_i O2 v h3
    simp only [N6,Oi] at h;obtain ⟨rfl,rfl⟩:=h
    simp only [ke]
    rw [dq (Lx ok R h1 h3 fun p hp=>hO p (OR _ hp)),dq (uW ok R h2 fun p hp=>hO p (OO _ hp))]
    rfl
   ·simp at h
  ·simp at h
theorem DC {D:TD τ dn} {st:SS τ dn}:∀{l l':List (SV τ dn)},jO D st l=some l'->l.length=l'.length
 |[],l',h=>by simp only [jO,N6] at h;subst h;rfl
 |v::r,l',h=>by
  simp only [jO] at h
  split at h
  ·rename_i x l2 h1 h2
   simp only [N6] at h;subst h;simp [DC h2]
  ·simp at h
theorem Ly {a a':AV} (h:(du a).run g=some a'):(gC a).run g=some a':=by
 cases a<;>first
  |exact h
  |(simp [du,snap1,AV.pu1,RM.run] at h)
theorem DD {D:TD τ dn} (ok:aZ D) (t:τ) (x:dn t) (h:D.pu t=true):(D.en t x).av D.toTE N=(D.en t x).av D.toTE N':=by
 have e:(D.es t x).map (SV.av D.toTE N)=(D.es t x).map (SV.av D.toTE N'):=by rw [ok.dp,ok.dp,ok.ja _ N'.ρ t x h]
 cases ha:D.ag t with
 |true=>rw [ua ha,SV.av,SV.av,SV.bu,SV.bu,e]
 |false=>
  unfold TD.en
  rw [ha,Ot]
  cases hs:D.es t x with
  |nil=>rfl
  |cons v r=>rw [hs] at e;simp only [Om,PS] at e;exact e.1
theorem DE {D:TD τ dn} (ok:aZ D) {N N':aC}:∀(rs:List τ) (x:RD dn rs),rs.all D.pu=true->(iG D rs x).map (SV.av D.toTE N)=(iG D rs x).map (SV.av D.toTE N')
 |[],_,_=>rfl
 |[t],x,h=>by simp only [PJ,List.all_nil,Bool.and_true] at h;simp only [iG,Om,OU];rw [DD ok (N:=N) (N':=N') t x h]
 |t::s::r,x,h=>by
  rw [PJ,N9] at h
  simp only [iG,Om];rw [DD ok (N:=N) (N':=N') t x.1 h.1,DE ok (N:=N) (N':=N') (s::r) x.2 h.2]
theorem DF {f:Nat->Nat}:∀{n m:Nat},rO ((List.range' m n).map f)=true->∀a b,m<=a->a<m+n->m<=b->b<m+n->f a=f b->a=b
 |0,m,h,a,b,h1,h2,h3,h4,he=>by omega
 |n+1,m,h,a,b,h1,h2,h3,h4,he=>by
  rw [List.range'_succ,Om] at h
  simp only [rO,N9,Ov] at h
  have eF:∀c,m+1<=c->c<m+1+n->f m≠f c:=fun c k1 k2 e=>by
   have:hasN ((List.range' (m+1) n).map f) (f m)=true:=lM.2 (OE.2 ⟨c,List.mem_range'_1.2 ⟨k1,k2⟩,e.symm⟩)
   rw [this] at h;simp at h
  by_cases ha:a=m<;>by_cases hb:b=m
  ·omega
  ·subst ha;exact absurd he (eF b (by omega) (by omega))
  ·subst hb;exact absurd he.symm (eF a (by omega) (by omega))
  ·exact DF h.2 a b (by omega) (by omega) (by omega) (by omega) he
theorem DG {C:b0 τ dn} {n k0:Nat} {a:AC} {B:SS τ dn->(Ex->SS τ dn->Prop)->Prop} (hB:∀{st:SS τ dn} {K:Ex->SS τ dn->Prop} {N:aC} {s:S3},Rel C.D N st s->C.fl<=st.nx->B st K->Ends C n k0 a N st s K):
  ∀(m:Nat) {st:SS τ dn} {K:Ex->SS τ dn->Prop} {N:aC} {s:S3},Rel C.D N st s->C.fl<=st.nx->yP B m st K->∃e s' j N2 aw,Ch C.P n k0 a e s' j s/\Rel C.D N2 aw s'/\aw.rt=st.rt/\aw.rm=st.rm/\(N.agree C.fl N2/\C.fl<=aw.nx)/\K e aw
 |0,st,K,N,s,R,hl,h=>h.elim
 |m+1,st,K,N,s,R,hl,h=>by
  obtain ⟨e,s1,N1,st1,e1,R1,r1,r2,r3,hk⟩:=hB R hl h
  cases e with
  |normal=>
   obtain ⟨e,s2,j,N2,aV,c1,c2,c3,c4,c5,c6⟩:=DG hB m R1 r3.2 hk
   exact ⟨e,s2,j+1,N2,aV, .step e1 S3.Le.mH c1,c2,c3.trans r1,c4.trans r2,⟨aC.eH r3.1 c5.1 (Og _),c5.2⟩,c6⟩
  |exit i=>exact ⟨_,s1,0,N1,st1, .last e1 (by simp),R1,r1,r2,r3,hk⟩
  |ret=>exact ⟨_,s1,0,N1,st1, .last e1 (by simp),R1,r1,r2,r3,hk⟩
variable [DecidableEq τ]
theorem S3.Lz (sz:Nat):s.Le k0 n ⟨s.σ,aA s.g [(s.k,some ⟨sz,[]⟩)],s.k+1⟩:=by
 intro E0 J base w0 a w hk hr
 obtain ⟨E,rfl,hle,hs,hm,aX,hmk⟩:=hr.ex
 obtain ⟨E',hw,hE,hM,k1,k2,k3,k4,k5⟩:=hm.sy (fresh:=s.k) (fun hh=>Pl _ (aX _ hh)) sz
 refine ⟨⟨E',hw,hle.trans hE,fun j=>(hs j).step hE,hM,fun id hid=> ?_,hmk.step hE⟩,hr.size,hr.below,hr.gl⟩
 show id<s.k+1
 rcases k4 id hid with h|h
 ·have:=aX id h;omega
 ·omega
theorem DH {C:b0 τ dn} (hC:C.Ok) {a:AC} {B:SS τ dn->(Ex->SS τ dn->Prop)->Prop} (hB:∀{st:SS τ dn} {K:Ex->SS τ dn->Prop} {N:aC} {s:S3},Rel C.D N st s->C.fl<=st.nx->B st K->Ends C n k0 a N st s K) {vs:List (VK τ)} {I:VT dn vs->Prop} {ms:VT dn vs->Nat}
  {st:SS τ dn} {K:Ex->SS τ dn->Prop} {T:List Nat} {ft:List (Nat×SV τ dn)} {fm:List (Nat×Option (SB τ dn))} (hT:vs.map (nmV st)=T) (kC:T.length=vs.length) (kp:∀{a},keepP vs T st.nx a=true->a<st.nx/\¬a∈movesV vs T) (hle:∀a,keepP vs T st.nx a=true->lessB st.nx a=true)
  (aT:∀{i v},getS (ft++st.rt) i=some v->(getS ft i=some v\/getS st.rt i=some v)/\v.fr (keepP vs T st.nx)=true/\¬i∈ed vs) (aM:∀{i v},getS (fm++st.rm) i=some v->(getS fm i=some v\/getS st.rm i=some v)/\(∀B,v=some B->B.fr (keepP vs T st.nx)=true)/\keepP vs T st.nx i=true)
  (fT:∀{i v},getS ft i=some v->getS st.t i=some v/\v.fr (keepP vs T st.nx)=true/\¬i∈ed vs) (fM:∀{i v},getS fm i=some v->getS st.m i=some v/\(∃B,v=some B/\B.fr (keepP vs T st.nx)=true)/\keepP vs T st.nx i=true)
  (rT:∀{i v},getS st.rt i=some v->v.fr (keepP vs T st.nx)=true/\¬i∈ed vs/\getS ft i=none) (rM:∀{i v},getS st.rm i=some v->keepP vs T st.nx i=true/\(∀B,v=some B->B.fr (keepP vs T st.nx)=true)/\getS fm i=none) (o3:okT (lessB st.nx) vs T=true) (jE:C.fl<=st.nx) (uX:(movesV vs T).all (Nat.ble C.fl)=true)
  {x:VT dn vs} (h:B ⟨ft++st.rt,fm++st.rm,bP C.D vs T x,putM C.D vs T x,st.nx⟩ fun e aw=>match e with
   | .normal=>match lO C.D aw vs with
    |some x'=>bif nextB vs T (vs.map (nmV aw)) st.nx aw.nx then I x'/\ms x'<ms x else False
    |none=>False
   |e=>K e ⟨st.rt,st.rm,aw.t++ft,aw.m++fm,aw.nx⟩) (R:Rel C.D N ⟨ft++st.rt,fm++st.rm,bP C.D vs T x,putM C.D vs T x,st.nx⟩ s)
  (next:∀x',ms x'<ms x->I x'->∀N2 s2,Rel C.D N2 ⟨ft++st.rt,fm++st.rm,bP C.D vs T x',putM C.D vs T x',st.nx⟩ s2->∃e s' j N3 aw,Ch C.P n k0 a e s' j s2/\Rel C.D N3 aw s'/\aw.rt=st.rt/\aw.rm=st.rm/\(N2.agree C.fl N3/\C.fl<=aw.nx)/\K e aw):
  ∃e s' j N2 aw,Ch C.P n k0 a e s' j s/\Rel C.D N2 aw s'/\aw.rt=st.rt/\aw.rm=st.rm/\(N.agree C.fl N2/\C.fl<=aw.nx)/\K e aw:=by
 obtain ⟨e,s1,N1,st1,e1,R1,eD,cT,DI,hk⟩:=hB R jE h
 have leave:e≠ .normal->K e ⟨st.rt,st.rm,st1.t++ft,st1.m++fm,st1.nx⟩->∃e s' j N2 aw,Ch C.P n k0 a e s' j s/\Rel C.D N2 aw s'/\aw.rt=st.rt/\aw.rm=st.rm/\(N.agree C.fl N2/\C.fl<=aw.nx)/\K e aw:=fun hne hk=>by
  have DJ:∀i v,getS fm i=some v->getS st1.rm i=some v:=fun i v h=>by rw [cT];show getS (fm++st.rm) i=_;rw [fZ,h];rfl
  have DK:∀i v,getS st.rm i=some v->getS st1.rm i=some v:=fun i v h=>by rw [cT];show getS (fm++st.rm) i=_;rw [fZ,(rM h).2.2];exact h
  have cM:∀a X,(⟨st.rt,st.rm,st1.t++ft,st1.m++fm,st1.nx⟩:SS τ dn).bw a X->st1.bw a X:=fun a X hX=>by
   rcases hX with hX|hX
   ·have lJ:getS (st1.m++fm) a=some (some X):=hX
    rw [fZ] at lJ
    cases hq:getS st1.m a with
    |some w=>rw [hq] at lJ;simp only [PN,N6] at lJ;subst lJ;exact .inl hq
    |none=>rw [hq] at lJ;simp only [Pw] at lJ;exact .inr (DJ a _ lJ)
   ·exact .inr (DK a _ hX)
  refine ⟨e,s1,0,N1,⟨st.rt,st.rm,st1.t++ft,st1.m++fm,st1.nx⟩, .last e1 hne,⟨fun N' hN=> ?_,R1.inj,R1.lt,fun nm B h=> ?_,fun nm B h=> ?_,fun t A h id hid=>⟨(R1.sp t A (cM 0 _ h) id hid).1,fun nm B hB=>(R1.sp t A (cM 0 _ h) id hid).2 nm B (cM nm B hB)⟩⟩,rfl,rfl,DI,hk⟩
  ·have A:=R1.at_ N' hN
   have LC:∀i v,getS ft i=some v->getS st1.rt i=some v:=fun i v h=>by rw [eD];show getS (ft++st.rt) i=_;rw [fZ,h];rfl
   have LD:∀i v,getS st.rt i=some v->getS st1.rt i=some v:=fun i v h=>by rw [eD];show getS (ft++st.rt) i=_;rw [fZ,(rT h).2.2];exact h
   refine ⟨fun i v h=> ?_,fun i v h=>A.rs i v (LD i v h),fun nm B h=> ?_,fun nm B h=>A.rb nm B (DK nm _ h),fun t A' h id hid=>A.ar t A' (cM 0 _ h) id hid⟩
   ·have h':getS (st1.t++ft) i=some v:=h
    rw [fZ] at h'
    cases hq:getS st1.t i with
    |some w=>rw [hq] at h';simp only [PN,N6] at h';subst h';exact A.sl i _ hq
    |none=>rw [hq] at h';simp only [Pw] at h';exact A.rs i v (LC i v h')
   ·have h':getS (st1.m++fm) nm=some (some B):=h
    rw [fZ] at h'
    cases hq:getS st1.m nm with
    |some w=>rw [hq] at h';simp only [PN,N6] at h';subst h';exact A.bl nm _ hq
    |none=>rw [hq] at h';simp only [Pw] at h';exact A.rb nm B (DJ nm _ h')
  ·have h':getS (st1.m++fm) nm=some B:=h
   rw [fZ] at h'
   cases hq:getS st1.m nm with
   |some w=>exact R1.ml nm w hq
   |none=>rw [hq] at h';simp only [Pw] at h';exact R1.rl nm B (by rw [cT];show getS (fm++st.rm) nm=_;rw [fZ,h'];rfl)
  ·exact R1.rl nm B (by rw [cT];show getS (fm++st.rm) nm=_;rw [fZ,(rM h).2.2];exact h)
 cases e with
 |exit i=>exact leave (by simp) hk
 |ret=>exact leave (by simp) hk
 |normal=>
  simp only at hk
  split at hk
  case h_2=>exact hk.elim
  rename_i x' cF
  generalize hA:vs.map (nmV st1)=A at hk
  cases hn:nextB vs T A st.nx st1.nx with
  |false=>rw [hn] at hk;exact hk.elim
  |true=>
   rw [hn,Ob] at hk
   unfold nextB at hn
   simp only [N9] at hn
   obtain ⟨⟨⟨n1,n2⟩,n3⟩,n4⟩:=hn
   have DL:∀a,a∈ic vs->dC vs T A a=a:=fun a ha=>Ol (Oc.1 n4 a ha)
   have hV:=uE hC.ok R1.here cF
   rw [hA] at hV
   have LF:A.length=vs.length:=by rw [<-hA,Ox]
   have yU:∀c,c<st.nx->dC vs T A c<st1.nx:=fun c hc=>rP ((Oc.1 n2) c (OL.2 hc))
   have LG:∀c d,c<st.nx->d<st.nx->dC vs T A c=dC vs T A d->c=d:=fun c d hc hd he=>by
    rw [List.range_eq_range'] at n1
    exact DF n1 c d (Nat.zero_le _) (by omega) (Nat.zero_le _) (by omega) he
   obtain ⟨N2,ji⟩:∃N2:aC,N2=⟨fun c=>N1.ι (dC vs T A c),fun c=>N1.ln (dC vs T A c),N1.ρ⟩:=⟨_,rfl⟩
   have rR:N1.same (keepP vs T st.nx) N2:=by
    refine ⟨fun c hc=> ?_,by rw [ji]⟩
    rw [ji];simp only [yD (kp hc).2,Ow]
   have LH:jR C.D N2 s1.σ s1.g vs T x':=by
    refine yE C.D (by rw [ji]) hC.ok hV (by rw [kC,LF]) (fun j v c m h0 h1 h2=> ?_) fun a ha=>by rw [ji];simp only [DL a ha,Ow]
    have hz:(v,c,m)∈vs.zip (T.zip A):=by
     refine OG (i:=j) ?_
     rw [P9,P9]
     exact ⟨h0,h1,h2⟩
    have:=(Oc.1 n3) _ hz
    simp only [OA,N9] at this
    rcases this with h|⟨h,h'⟩
    ·exact .inl h
    ·have e:=Ol h
     refine .inr ⟨by rw [ji];simp only [e],by rw [ji];simp only [e], ?_⟩
     rcases h' with h'|h'
     ·exact .inl h'
     ·exact .inr (Ol h')
   obtain ⟨s2,w2,R2⟩:=C4 (n:=n) (k0:=k0) hC.ok (rt:=ft++st.rt) (rm:=fm++st.rm) (nx:=st.nx) LH o3 kC (fun i v h=>by
     obtain ⟨_,h2,h3⟩:=aT h
     refine ⟨?_,SV.oe hle v h2,h3⟩
     rw [px rR v h2]
     exact R1.here.rs i v (by rw [eD];exact h)) (fun nm B h=>by
     obtain ⟨_,h2,h3⟩:=aM h
     refine ⟨(kp h3).1,fun B' aL=> ?_⟩
     subst aL
     obtain ⟨q1,q2⟩:=R1.here.rb nm B' (by rw [cT];exact h)
     obtain ⟨p1,p2⟩:=rR.1 nm h3
     exact ⟨by rw [p1,CX rR B' (h2 B' rfl)];exact q1,by rw [p2];exact q2,SB.oe hle B' (h2 B' rfl)⟩)
    (fun c d hc hd he=>LG c d hc hd (R1.inj _ _ (yU c hc) (yU d hd) (by rw [ji] at he;exact he))) (fun c hc=>by rw [ji];exact R1.lt _ (yU c hc))
    (fun t Ar h id hid=>by
     have cM:∀nm B,(⟨ft++st.rt,fm++st.rm,bP C.D vs T x',putM C.D vs T x',st.nx⟩:SS τ dn).bw nm B->(∃B',st1.bw (dC vs T A nm) B')/\(∀t Ar,nm=0->B= .ar t Ar->st1.bw 0 (.ar t Ar)):=fun nm B hB=>by
      rcases hB with hB|hB
      ·rcases uF cF kC nm B (jg hB) with ⟨j,v,p1,p2,p3,⟨B',p4⟩,p5⟩|⟨hf,⟨B',p4⟩,p5⟩
       case inr=>exact ⟨⟨B',by rw [DL nm hf];exact gG p4⟩,fun t Ar h0 he=>absurd he (p5 t Ar)⟩
       have hj:A[j]? =some (nmV st1 v):=by rw [<-hA,Oy,p1];rfl
       have hz:(v,nm,nmV st1 v)∈vs.zip (T.zip A):=by
        refine OG (i:=j) ?_
        rw [P9,P9]
        exact ⟨p1,p2,hj⟩
       have:=(Oc.1 n3) _ hz
       simp only [OA,N9] at this
       have e:=Ol (this.resolve_left (by rw [p3];simp)).1
       refine ⟨⟨B', ?_⟩,fun t Ar h0 he=> ?_⟩
       ·show st1.bw (dC vs T A nm) B'
        rw [e];exact gG p4
       ·exact gG (p5 t Ar he).2
      ·have aL:getS (fm++st.rm) nm=some (some B):=hB
       obtain ⟨_,_,h3⟩:=aM aL
       refine ⟨⟨B, ?_⟩,fun t Ar h0 he=> ?_⟩
       ·rw [yD (kp h3).2];exact .inr (by rw [cT];exact aL)
       ·subst h0;subst he;exact .inr (by rw [cT];exact aL)
     have h1:=(cM 0 _ h).2 t Ar rfl rfl
     obtain ⟨q1,q2⟩:=R1.sp t Ar h1 id hid
     have q3:=R1.here.ar t Ar h1 id hid
     refine ⟨by rw [ji];exact q3,q1,fun nm B hB=> ?_⟩
     obtain ⟨⟨B',aL⟩,_⟩:=cM nm B hB
     rw [ji];exact q2 _ B' aL)
   obtain ⟨e,s',j,N3,aw,c1,c2,c3,c4,c5,c6⟩:=next x' hk.2 hk.1 N2 s2 R2
   have dH:N1.agree C.fl N2:=⟨fun c hc=>by
    have eF:¬c∈movesV vs T:=fun hm=>absurd (ON (Oc.1 uX c hm)) (by omega)
    rw [ji];simp only [yD eF,Ow],by rw [ji]⟩
   exact ⟨e,s',j+1,N3,aw, .step e1 w2 c1,c2,c3,c4,⟨aC.eH (aC.eH DI.1 dH (Og _)) c5.1 (Og _),c5.2⟩,c6⟩
theorem LI {C:b0 τ dn} (hC:C.Ok) {a:AC} {B:SS τ dn->(Ex->SS τ dn->Prop)->Prop} (hB:∀{st:SS τ dn} {K:Ex->SS τ dn->Prop} {N:aC} {s:S3},Rel C.D N st s->C.fl<=st.nx->B st K->Ends C n k0 a N st s K) {vs:List (VK τ)} {I0:VT dn vs->VT dn vs->Prop} {DM:VT dn vs->VT dn vs->Nat} {jh:List Nat}
  {st:SS τ dn} {K:Ex->SS τ dn->Prop} (R:Rel C.D N st s) (jE:C.fl<=st.nx) (h:yQ C.D C.fl vs I0 DM jh B st K):Ends C n k0 (.loop a) N st s K:=by
 unfold yQ at h
 split at h
 case h_1=>exact h.elim
 rename_i x0 DN
 generalize hI:I0 x0=I at h
 generalize v8:DM x0=ms at h
 generalize hT:vs.map (nmV st)=T at h
 generalize LJ:lN (keepP vs T st.nx) (ed vs++jh) st.t=ft at h
 generalize LL:kz (keepP vs T st.nx) (n9 vs T) st.m=fm at h
 unfold Dy at h
 cases hok:okB vs T st (keepP vs T st.nx) ft fm&&(movesV vs T).all (Nat.ble C.fl) with
 |false=>rw [hok] at h;exact h.elim
 |true=>
 rw [hok,Ob] at h
 rw [N9] at hok
 obtain ⟨hok,uX⟩:=hok
 obtain ⟨qj,bI⟩:=h
 rw [uC] at bI
 unfold okB at hok
 simp only [N9] at hok
 obtain ⟨⟨⟨⟨o1,o2⟩,o3⟩,o4⟩,o5⟩:=hok
 have kC:T.length=vs.length:=by rw [<-hT,Ox]
 have kp:∀{a},keepP vs T st.nx a=true->a<st.nx/\¬a∈movesV vs T:=fun {a} h=>by
  unfold keepP at h
  rw [N9] at h
  refine ⟨rP h.1,fun hm=> ?_⟩
  have:=h.2
  rw [lM.2 hm] at this;simp at this
 have hle:∀a,keepP vs T st.nx a=true->lessB st.nx a=true:=fun a h=>by
  unfold keepP at h;rw [N9] at h;exact h.1
 have fT:∀{i v},getS ft i=some v->getS st.t i=some v/\v.fr (keepP vs T st.nx)=true/\¬i∈ed vs:=fun {i v} h=>by
  rw [<-LJ] at h
  obtain ⟨h1,h2,h3⟩:=yz h
  exact ⟨h1,h2,fun hh=>h3 (OR _ hh)⟩
 have fM:∀{i v},getS fm i=some v->getS st.m i=some v/\(∃B,v=some B/\B.fr (keepP vs T st.nx)=true)/\keepP vs T st.nx i=true:=fun {i v} h=>by
  rw [<-LL] at h
  obtain ⟨h1,h2,h3,_⟩:=yA h
  exact ⟨h1,h2,h3⟩
 have rT:∀{i v},getS st.rt i=some v->v.fr (keepP vs T st.nx)=true/\¬i∈ed vs/\getS ft i=none:=fun {i v} h=>by
  have:=(Oc.1 o1) _ (jg h)
  simp only [N9,Ov,Option.isNone_iff_eq_none] at this
  exact ⟨this.1.1,fun hh=>by rw [lM.2 hh] at this;simp at this,this.2⟩
 have rM:∀{i v},getS st.rm i=some v->keepP vs T st.nx i=true/\(∀B,v=some B->B.fr (keepP vs T st.nx)=true)/\getS fm i=none:=fun {i v} h=>by
  have:=(Oc.1 o2) _ (jg h)
  simp only [N9,Option.isNone_iff_eq_none] at this
  exact ⟨this.1.1,fun B hB=>by subst hB;exact this.1.2,this.2⟩
 have aT:∀{i v},getS (ft++st.rt) i=some v->(getS ft i=some v\/getS st.rt i=some v)/\v.fr (keepP vs T st.nx)=true/\¬i∈ed vs:=fun {i v} h=>by
  rw [fZ] at h
  cases hf:getS ft i with
  |some w=>rw [hf] at h;simp only [PN,N6] at h;subst h;exact ⟨.inl rfl,(fT hf).2⟩
  |none=>rw [hf] at h;simp only [Pw] at h;exact ⟨.inr h,(rT h).1,(rT h).2.1⟩
 have aM:∀{i v},getS (fm++st.rm) i=some v->(getS fm i=some v\/getS st.rm i=some v)/\(∀B,v=some B->B.fr (keepP vs T st.nx)=true)/\keepP vs T st.nx i=true:=fun {i v} h=>by
  rw [fZ] at h
  cases hf:getS fm i with
  |some w=>
   rw [hf] at h;simp only [PN,N6] at h;subst h
   obtain ⟨h1,⟨B,h2,h3⟩,h4⟩:=fM hf
   exact ⟨.inl rfl,fun B' aL=>by rw [h2,N6] at aL;subst aL;exact h3,h4⟩
  |none=>rw [hf] at h;simp only [Pw] at h;exact ⟨.inr h,(rM h).2.1,(rM h).1⟩
 -- jA rounds
 have rounds:∀(m:Nat) (x:VT dn vs) (N':aC) (s0:S3),ms x<=m->I x->Rel C.D N' ⟨ft++st.rt,fm++st.rm,bP C.D vs T x,putM C.D vs T x,st.nx⟩ s0->
   ∃e s' j N2 aw,Ch C.P n k0 a e s' j s0/\Rel C.D N2 aw s'/\aw.rt=st.rt/\aw.rm=st.rm/\(N'.agree C.fl N2/\C.fl<=aw.nx)/\K e aw:=by
  intro m
  induction m with
  |zero=>
   intro x N' s0 hm hI R0
   exact DH hC hB hT kC kp hle aT aM fT fM rT rM o3 jE uX (bI x hI) R0 fun x' hlt=>absurd hlt (by omega)
  |succ m ih=>
   intro x N' s0 hm hI R0
   exact DH hC hB hT kC kp hle aT aM fT fM rT rM o3 jE uX (bI x hI) R0 fun x' hlt iz N2 s2 R2=>ih x' N2 s2 (by omega) iz R2
 have hV:=uE hC.ok R.here DN
 rw [hT] at hV
 obtain ⟨s1,w1,R1⟩:=C4 (n:=n) (k0:=k0) hC.ok (rt:=ft++st.rt) (rm:=fm++st.rm) hV o3 kC (fun i v h=>by
   obtain ⟨h1,h2,h3⟩:=aT h
   refine ⟨?_,SV.oe hle v h2,h3⟩
   rcases h1 with h1|h1
   ·exact R.here.sl i v (fT h1).1
   ·exact R.here.rs i v h1) (fun nm B h=>by
   obtain ⟨h1,h2,h3⟩:=aM h
   refine ⟨(kp h3).1,fun B' aL=> ?_⟩
   subst aL
   have:s.g (N.ι nm)=some (B'.av C.D.toTE N)/\N.ln nm=B'.len:=by
    rcases h1 with h1|h1
    ·exact R.here.bl nm B' (fM h1).1
    ·exact R.here.rb nm B' h1
   exact ⟨this.1,this.2,SB.oe hle B' (h2 B' rfl)⟩) R.inj R.lt
   (fun t Ar h id hid=>by
    have cM:∀nm B,(⟨ft++st.rt,fm++st.rm,bP C.D vs T x0,putM C.D vs T x0,st.nx⟩:SS τ dn).bw nm B->(∃B',st.bw nm B')/\(∀t Ar,nm=0->B= .ar t Ar->st.bw 0 (.ar t Ar)):=fun nm B hB=>by
     rcases hB with hB|hB
     ·rcases uF DN kC nm B (jg hB) with ⟨j,v,p1,p2,p3,⟨B',p4⟩,p5⟩|⟨hf,⟨B',p4⟩,p5⟩
      case inr=>exact ⟨⟨B',gG p4⟩,fun t Ar h0 he=>absurd he (p5 t Ar)⟩
      have hj:nmV st v=nm:=by
       have:T[j]? =some (nmV st v):=by rw [<-hT,Oy,p1];rfl
       rw [p2] at this;simpa using this.symm
      exact ⟨⟨B',hj▸gG p4⟩,fun t Ar h0 he=>gG (p5 t Ar he).2⟩
     ·have aL:getS (fm++st.rm) nm=some (some B):=hB
      have:st.bw nm B:=by
       rcases (aM aL).1 with h1|h1
       ·exact .inl (fM h1).1
       ·exact .inr h1
      exact ⟨⟨B,this⟩,fun t Ar h0 he=>by subst h0;subst he;exact this⟩
    have h1:=(cM 0 _ h).2 t Ar rfl rfl
    obtain ⟨q1,q2⟩:=R.sp t Ar h1 id hid
    exact ⟨R.here.ar t Ar h1 id hid,q1,fun nm B hB=>by obtain ⟨⟨B',aL⟩,_⟩:=cM nm B hB;exact q2 nm B' aL⟩)
 obtain ⟨e,s',j,N2,aw,c1,c2,c3,c4,c5,c6⟩:=rounds (ms x0) x0 N s1 (Og _) qj R1
 exact ⟨e,s',N2,aw,ED.fJ w1 (ED.loop c1),c2,c3,c4,c5,c6⟩
theorem DO {C:b0 τ dn} (hC:C.Ok) {n k0:Nat} {an:Nat->Option (LA τ dn)}:∀(ps:List (List az)) {st:SS τ dn} {K:SS τ dn->Prop} {N:aC} {s:S3},Rel C.D N st s->uS C n an ps st K->
  ∃s' N' aw,pC C.P n k0 ps s s'/\Rel C.D N' aw s'/\(aw.rt=st.rt/\aw.rm=st.rm)/\N.agree st.nx N'/\st.nx<=aw.nx/\K aw
 |[],st,K,N,s,R,h=>⟨s,N,st, .nil,R,⟨rfl,rfl⟩,N.dN _,Og _,h⟩
 |p::ps,st,K,N,s,R,h=>by
  simp only [uS] at h
  obtain ⟨s1,st1,w1,R1,z1,z2,z3,h⟩:=yM (n:=n) (k0:=k0) hC.ok _ R h
  obtain ⟨NS,LM,LN,LO,LP,h⟩:=KM R1 h
  obtain ⟨LQ,LU,yV,yW,yX,h⟩:=Dw hC.ok LM h
  obtain ⟨NT,LV,LW,LX,LZ,h⟩:=Dv LU h
  obtain ⟨aV,R2,y1,y2,y3,h⟩:=uk hC.ok LV h
  rw [LW,yV,LN] at y1;rw [LX,yW,LO] at y2;rw [LZ,yX,LP] at y3
  obtain ⟨s3,N3,mG,e3,R3,r1,r2,r3,h⟩:=uy (hC.wo (rV an p)) (k0:=k0) R2 h
  obtain ⟨s4,N4,L1,e4,R4,q1,q2,q3,h⟩:=DO hC (k0:=k0) ps R3 h
  rw [y1,y2,z1,z2] at r1
  rw [y3,z3] at r2 r3
  exact ⟨s4,N4,L1, .cons w1 e3 e4,R4,⟨q1.1.trans r1.1,q1.2.trans r1.2⟩,aC.eH r2 q2 r3,OF r3 q3,h⟩
theorem jU {C:b0 τ dn} (hC:C.Ok) {n k0:Nat} {an:Nat->Option (LA τ dn)}:∀(ac:AC) (k:Nat) {st:SS τ dn} {K:Ex->SS τ dn->Prop} {N:aC} {s:S3},Rel C.D N st s->C.fl<=st.nx->eL C n an ac k st K->Ends C n k0 ac N st s K
 | .skip,k,st,K,N,s,R,hl,h=>⟨_,s,N,st,ED.skip,R,rfl,rfl,⟨N.dN _,hl⟩,h⟩
 | .ret,k,st,K,N,s,R,hl,h=>⟨_,s,N,st,ED.ret,R,rfl,rfl,⟨N.dN _,hl⟩,h⟩
 | .exit i,k,st,K,N,s,R,hl,h=>⟨_,s,N,st,ED.exit,R,rfl,rfl,⟨N.dN _,hl⟩,h⟩
 | .seq a b,k,st,K,N,s,R,hl,h=>by
  simp only [eL] at h
  obtain ⟨e,s1,N1,st1,e1,R1,r1,r2,r3,hk⟩:=jU hC a k R hl h
  cases e with
  |normal=>
   obtain ⟨e,s2,N2,aV,e2,R2,q1,q2,q3,hk2⟩:=jU hC b _ R1 r3.2 hk
   exact ⟨e,s2,N2,aV,ED.seq e1 e2,R2,q1.trans r1,q2.trans r2,⟨aC.eH r3.1 q3.1 (Og _),q3.2⟩,hk2⟩
  |exit i=>exact ⟨_,s1,N1,st1,ED.CW e1 (by simp),R1,r1,r2,r3,hk⟩
  |ret=>exact ⟨_,s1,N1,st1,ED.CW e1 (by simp),R1,r1,r2,r3,hk⟩
 | .cond c a b,k,st,K,N,s,R,hl,h=>by
  simp only [eL] at h
  have go:∀p:Bool,aG s.σ c= .v (.bool p)->(p=true->Ends C n k0 a N st s K)->(p=false->Ends C n k0 b N st s K)->Ends C n k0 (.cond c a b) N st s K:=fun p hp h1 h2=>by
   cases p with
   |true=>
    obtain ⟨e,s1,N1,st1,e1,R1,r1,r2,r3,hk⟩:=h1 rfl
    exact ⟨e,s1,N1,st1,ED.cond hp (by rw [N8 rfl];exact e1),R1,r1,r2,r3,hk⟩
   |false=>
    obtain ⟨e,s1,N1,st1,e1,R1,r1,r2,r3,hk⟩:=h2 rfl
    exact ⟨e,s1,N1,st1,ED.cond hp (by rw [N7 (by simp)];exact e1),R1,r1,r2,r3,hk⟩
  split at h
  ·rename_i hc
   exact go true (R.here.ev hc) (fun _=>jU hC a k R hl h) (fun hh=>by simp at hh)
  ·rename_i hc
   exact go false (R.here.ev hc) (fun hh=>by simp at hh) (fun _=>jU hC b _ R hl h)
  ·rename_i c' hc
   split at h
   ·rename_i O aw hm
    rw [jN] at h
    obtain ⟨hO,hk⟩:=h
    have DP:∀{x:AC},x= .skip->Rel C.D N aw s->aw.rt=st.rt/\aw.rm=st.rm/\aw.nx=st.nx->Ends C n k0 x N st s K:=fun {x} hx hR hs=>by
     subst hx
     exact ⟨_,s,N,aw,ED.skip,hR,hs.1,hs.2.1,⟨N.dN _,by rw [hs.2.2];exact hl⟩,hk⟩
    have run:∀{x:AC} {os:List az},x= .bG os none->(∃s' N',gv C.P n k0 os s.σ s.g s.k s'.σ s'.g s'.k/\Rel C.D N' aw s'/\N.agree st.nx N')->aw.rt=st.rt/\aw.rm=st.rm/\aw.nx=st.nx->Ends C n k0 x N st s K:=fun {x os} hx hR hs=>by
     subst hx
     obtain ⟨s',N',q1,q2,q3⟩:=hR
     exact ⟨_,s',N',aw,ED.bG q1,q2,hs.1,hs.2.1,⟨uT q3 hl,by rw [hs.2.2];exact hl⟩,hk⟩
    unfold Dz at hm
    split at hm
    ·obtain ⟨q1,q2,q3⟩:=Dm (k0:=k0) hC hm hO R
     exact go c'.den (R.here.ev hc) (fun hh=>DP rfl (q2 hh) q1) (fun hh=>run rfl (q3 hh) q1)
    ·obtain ⟨q1,q2,q3⟩:=Dm (k0:=k0) hC hm hO R
     exact go c'.den (R.here.ev hc) (fun hh=>run rfl (q3 hh) q1) (fun hh=>DP rfl (q2 hh) q1)
    ·simp at hm
   exact go c'.den (R.here.ev hc) (fun hh=>jU hC a k R hl (h.1 ((Cn.iY c' true).2 hh))) (fun hh=>jU hC b _ R hl (h.2 ((Cn.iY c' false).2 hh)))
  ·exact h.elim
 | .block i a,k,st,K,N,s,R,hl,h=>by
  simp only [eL] at h
  obtain ⟨e,s1,N1,st1,e1,R1,r1,r2,r3,hk⟩:=jU hC a k R hl h
  exact ⟨_,s1,N1,st1,ED.block e1,R1,r1,r2,r3,hk⟩
 | .loop a,k,st,K,N,s,R,hl,h=>by
  simp only [eL] at h
  split at h
  ·rename_i m hm
   obtain ⟨e,s2,j,N2,aV,c1,c2,c3,c4,c5,c6⟩:=DG (fun R hl h=>jU hC a (k+1) R hl h) m R hl h
   exact ⟨e,s2,N2,aV,ED.loop c1,c2,c3,c4,c5,c6⟩
  ·rename_i vs I ms hm
   obtain ⟨s1,N1,w1,R1,r1,r2,r3,r4⟩:=DA (n:=n) (k0:=k0) (vs:=vs) R
   obtain ⟨e,s2,N2,aV,e2,R2,q1,q2,q3,hk⟩:=LI hC (fun R hl h=>jU hC a (k+1) R hl h) R1 (OF hl r4) h
   exact ⟨e,s2,N2,aV,ED.fJ w1 e2,R2,q1.trans r1,q2.trans r2,⟨aC.eH (uT r3 hl) q3.1 (Og _),q3.2⟩,hk⟩
  ·exact h.elim
 | .bG os none,k,st,K,N,s,R,hl,h=>by
  simp only [eL] at h
  obtain ⟨s',N',aw,e1,R1,r1,r2,r3,hk⟩:=DO hC (k0:=k0) _ R h
  have e2:=ED.Lo e1
  rw [Ds] at e2
  exact ⟨_,s',N',aw,e2,R1,r1.1,r1.2,⟨uT r2 hl,OF hl r3⟩,hk⟩
 | .bG os (some dep),k,st,K,N,s,R,hl,h=>by
  simp only [eL] at h
  obtain ⟨s1,st1,w1,R1,z1,z2,z3,h⟩:=yM (n:=n) (k0:=k0) hC.ok _ R h
  obtain ⟨LQ,L2,yV,yW,yX,h⟩:=Dw hC.ok R1 h
  obtain ⟨aV,R1,y1,y2,y3,h⟩:=Dv L2 h
  rw [yV] at y1;rw [yW] at y2;rw [yX] at y3
  obtain ⟨jn,hj,s',N',aw,e1,R1,r1,r2,r3,hk⟩:=KW (hC.wo (rV an os)) R1 h
  rw [y1,y2,z1,z2] at r1
  rw [y3,z3] at r2 r3
  exact ⟨_,s',N',aw,ED.fJ w1 (ED.draw hj e1),R1,r1.1,r1.2,⟨uT r2 hl,OF hl r3⟩,hk⟩
 | .gB _ _ _ _,k,st,K,N,s,R,hl,h=>by simp only [eL] at h
def eJ (D:TD τ dn) (vs:List (SV τ dn)):SS τ dn:=match D.ar with
 |none=>⟨[],[],kD vs 0,[],0⟩
 |some t=>⟨[],[],kD vs 0,[(0,some (.ar t []))],1⟩
def yY:List ka->List Nat
 |[]=>[]
 | .tmp i::r| .cell i _::r=>i::yY r
def yZ (C:b0 τ dn) (F:cP) (an:Nat->Option (LA τ dn)) (vs:List (SV τ dn)) (rs:List τ) (r:RD dn rs):Prop:=
 bif Nat.ble vs.length F.n&&rs.all C.D.pu&&Nat.beq C.fl 0 then eL C F.n an F.code 0 (eJ C.D vs) fun e st=>match e with
  | .exit _=>False
  |_=>pz C.D false (st.uJ (yY F.res)) st fun st=>match jT C.D st F.res with
   |some (O,l)=>match jO C.D st l with
    |some l'=>match ks C.D rs l' with
     |some y=>fB O (y=r)
     |none=>False
    |none=>False
   |none=>False
 else False
theorem L4 {C:b0 τ dn} (hC:C.Ok) (hF:cFunc C.P f=some F) {an:Nat->Option (LA τ dn)} {vs:List (SV τ dn)} {rs:List τ} {r:RD dn rs} (N:aC) (ep:SV.dM (fun _=>false) vs=true) (h:yZ C F an vs rs r):Fn C.P f (vs.map (SV.av C.D.toTE N)) ((mE (iG C.D rs r)).av C.D.toTE N):=by
 unfold yZ at h
 cases hb:(Nat.ble vs.length F.n&&rs.all C.D.pu&&Nat.beq C.fl 0) with
 |false=>rw [hb] at h;exact h.elim
 |true=>
 rw [hb,Ob] at h
 rw [N9,N9] at hb
 obtain ⟨hb,hz⟩:=hb
 have hz:=Ol hz
 have hl:vs.length<=F.n:=ON hb.1
 have cm:∀(N':aC),N'.ρ=N.ρ->∀i v,getS (kD vs 0) i=some v->b8 (vs.map (SV.av C.D.toTE N)) i=v.av C.D.toTE N':=fun N' fL i v hv=>by
  obtain ⟨_,h2⟩:=yT hv
  rw [Nat.sub_zero] at h2
  have hs:N.same (fun _=>false) N':=⟨fun a ha=>by simp at ha,fL⟩
  have hm:∀(l:List (SV τ dn)) (j:Nat) w,SV.dM (fun _=>false) l=true->l[j]? =some w->w.fr (fun _=>false)=true:=by
   intro l
   induction l with
   |nil=>intro j w _ hw;simp at hw
   |cons a l ih=>
    intro j w hl hw
    simp only [SV.dM,N9] at hl
    cases j with
    |zero=>simp only [OI,N6] at hw;subst hw;exact hl.1
    |succ j=>exact ih j w hl.2 (by simpa using hw)
  unfold b8
  rw [Oy,h2]
  exact (px hs v (hm vs i v ep h2)).symm
 have R0:∃s0 N0,S3.Le 0 F.n ⟨b8 (vs.map (SV.av C.D.toTE N)),fun _=>none,0⟩ s0/\Rel C.D N0 (eJ C.D vs) s0:=by
  unfold eJ
  split
  ·refine ⟨_,N,S3.Le.mH,⟨fun N' hN=>⟨fun i v hv=>cm N' hN.2 i v hv,fun i v hv=>by simp [getS] at hv,fun nm B hB=>by simp [getS] at hB,fun nm B hB=>by simp [getS] at hB,fun t A h=>by rcases h with h|h<;>simp [getS] at h⟩,fun a b ha=>absurd ha (Nat.not_lt_zero _),fun a ha=>absurd ha (Nat.not_lt_zero _),fun nm B hB=>by simp [getS] at hB,fun nm B hB=>by simp [getS] at hB,fun t A h=>by rcases h with h|h<;>simp [getS] at h⟩⟩
  ·rename_i t _
   have DQ:∀t' A,(⟨[],[],kD vs 0,[(0,some (.ar t []))],1⟩:SS τ dn).bw 0 (.ar t' A)->∀id,¬dw A id:=fun t' A h id=>by
    rcases h with h|h
    ·simp only [ba,Oa,N6,SB.ar.injEq] at h
     obtain ⟨rfl,h⟩:=h
     have h:=eq_of_heq h
     subst h;exact BR
    ·simp [getS] at h
   refine ⟨_,⟨fun _=>0,fun _=>0,N.ρ⟩,S3.Lz (C.D.sz t),⟨fun N' hN=>⟨fun i v hv=>cm N' hN.2 i v hv,fun i v hv=>by simp [getS] at hv,fun nm B hB=> ?_,fun nm B hB=>by simp [getS] at hB,fun t' A h id hid=>absurd hid (DQ t' A h id)⟩,fun a b ha hb _=> ?_,fun a ha=> ?_,fun nm B hB=> ?_,fun nm B hB=>by simp [getS] at hB,fun t' A h id hid=>absurd hid (DQ t' A h id)⟩⟩
   ·have aL:getS [(0,some (SB.ar t ([]:List (Nat×List (dn t)))))] nm=some (some B):=hB
    rw [ba] at aL
    by_cases hn:nm=0
    ·subst hn
     simp only [Oa,N6] at aL
     subst aL
     have e:=hN.1 0 (Pc 0)
     refine ⟨?_,e.2⟩
     show aA _ _ (N'.ι 0)=_
     rw [e.1];rfl
    ·rw [N7 hn] at aL;simp [getS] at aL
   ·have:a<1:=ha
    have:b<1:=hb
    omega
   ·exact Pc 0
   ·have aL:getS [(0,some (SB.ar t ([]:List (Nat×List (dn t)))))] nm=some B:=hB
    rw [ba] at aL
    by_cases hn:nm=0
    ·subst hn;exact Pc 0
    ·rw [N7 hn] at aL;simp [getS] at aL
 obtain ⟨s0,N0,w0,R0⟩:=R0
 refine AZ hF (by rw [Ox];exact hl) ?_
 obtain ⟨e,s',N',aw,e1,R1,_,_,_,hk⟩:=jU hC (n:=F.n) (k0:=0) F.code 0 R0 (by rw [hz];exact Nat.zero_le _) h
 have e1:=ED.fJ w0 e1
 have hk2:(e= .normal\/e= .ret)/\pz C.D false (aw.uJ (yY F.res)) aw fun aw=>match jT C.D aw F.res with
   |some (O,l)=>match jO C.D aw l with
    |some l'=>match ks C.D rs l' with
     |some y=>fB O (y=r)
     |none=>False
    |none=>False
   |none=>False:=by
  cases e with
  |normal=>exact ⟨.inl rfl,hk⟩
  |ret=>exact ⟨.inr rfl,hk⟩
  |exit i=>exact hk.elim
 clear hk
 obtain ⟨he,hk⟩:=hk2
 obtain ⟨s2,aV,w2,R2,_,_,_,hk2⟩:=yM (n:=F.n) (k0:=0) hC.ok _ R1 hk
 clear hk
 have e1:=ED.post e1 w2
 clear R1 w2
 revert hk2 R2
 generalize aV=aw
 intro R1 hk
 refine EW.cL e1 fun x t ht=> ?_
 obtain ⟨rfl,rfl⟩:=ht
 have fin:(match jT C.D aw F.res with
   |some (O,l)=>match jO C.D aw l with
    |some l'=>match ks C.D rs l' with
     |some y=>fB O (y=r)
     |none=>False
    |none=>False
   |none=>False)->∃r',((resR t.σ F.res).bind gC).run t.g=some r'/\aP r' ((mE (iG C.D rs r)).av C.D.toTE N):=fun hk=>by
  split at hk
  case h_2=>exact hk.elim
  rename_i O l hr
  split at hk
  case h_2=>exact hk.elim
  rename_i l' hs
  split at hk
  case h_2=>exact hk.elim
  rename_i y hy
  rw [jN] at hk
  obtain ⟨hO,rfl⟩:=hk
  have q1:=uW hC.ok R1.here hr hO
  have q2:=Cr hC.ok R1.here hs
  have q3:(resR t.σ F.res).run t.g=some (kS (l.map (SV.av C.D.toTE N'))):=by
   unfold resR
   rw [dq q1];rfl
  have q4:(gC (kS (l.map (SV.av C.D.toTE N')))).run t.g=some (kS (l'.map (SV.av C.D.toTE N'))):=by
   have hlen:=DC hs
   match l,l',q2,hlen with
   |[],[],q2,_=>exact dq q2
   |[v],[v'],q2,_=>
    have:(du (v.av C.D.toTE N')).run t.g=some (v'.av C.D.toTE N'):=by
     simp only [jO] at hs
     split at hs
     ·rename_i x l2 h1 h2
      simp only [N6] at h2;subst h2
      simp only [N6,PS,and_true] at hs;subst hs
      exact x9 hC.ok R1.here h1
     ·simp at hs
    exact Ly this
   |v::w::l2,v'::w'::NU,q2,_=>
    show ((cO ((v::w::l2).map (SV.av C.D.toTE N'))).bind fun l=>RM.ret (AV.aK l)).run t.g=_
    rw [dq q2];rfl
  refine ⟨_,(dq q3).trans q4, ?_⟩
  refine aP.trans (Km (Cu (N:=N') hC.ok hy)) (aP.of_eq ?_)
  rw [ud,DE hC.ok rs y hb.2]
 exact ⟨he,fin hk⟩
end
open Go.RowKit
section
variable {τ:Type} {dn:τ->Type} {D:TD τ dn}
theorem y0 (ok:aZ D) {p:Nat->Bool}:∀(cs:List (Bool×τ)) (x:CD dn cs),SV.dM p (lF D cs x)=true
 |[],_=>rfl
 |(false,t)::r,x=>by simp only [lF,SV.dM,yF ok,y0 ok r x.2,Bool.and_self]
 |(true,t)::r,x=>by simp only [lF,SV.dM,SV.fr,ok.nf,y0 ok r x.2,Bool.and_self]
theorem uY (ok:aZ D) {p:Nat->Bool}:∀(ps:List (Pt τ)) (x:PD dn ps),SV.dM p (lH D ps x)=true
 |[],_=>rfl
 | .ty t::r,x=>by simp only [lH,Pt.enc,SV.dM,yF ok,uY ok r x.2,Bool.and_self]
 | .ptr t::r,x=>by simp only [lH,Pt.enc,SV.dM,SV.fr,ok.nf,uY ok r x.2,Bool.and_self]
 | .pb f cs::r,x=>by simp only [lH,Pt.enc,SV.dM,SV.fr,y0 ok,uY ok r x.2,Bool.and_self]
inductive IK (τ:Type) (dn:τ->Type) where
 |fn (F:cP) (an:Nat->Option (LA τ dn))
 |del (t:τ) (by_:Nat) (zs:List AV)
structure IL (τ:Type) (dn:τ->Type) where
 f:FuncId
 k:IK τ dn
 cl:Option FuncId:=none
def uZ (g:FuncId):List (SV τ dn)->Bool
 |[]=>false
 | .fn f _::r=>Nat.beq f g||uZ g r
 |_::r=>uZ g r
def rW:List (IL τ dn)->FuncId->List (SV τ dn)->Option (IL τ dn)
 |[],_,_=>none
 |i::r,f,vs=>bif Nat.beq i.f f&&(match i.cl with|none=>true|some g=>uZ g vs) then some i else rW r f vs
def Cons (P:Program) (D:TD τ dn):List (dr τ dn)->Prop
 |[]=>True
 |c::r=>c.Ok P D/\Cons P D r
def u0 (P:Program) (D:TD τ dn):List (jc τ dn)->Prop
 |[]=>True
 |c::r=>c.Ok P D/\u0 P D r
def IK.Ok (P:Program) (D:TD τ dn) (f:FuncId):IK τ dn->Prop
 | .fn F _=>cFunc P f=some F/\bH P f=true
 | .del t by_ zs=>cFunc P f=some (w9 (D.sz t) by_ zs)/\bH P f=true/\zs.length=D.sz t
def u4 (P:Program) (D:TD τ dn):List (IL τ dn)->Prop
 |[]=>True
 |i::r=>i.k.Ok P D i.f/\u4 P D r
theorem y4 {P:Program}:∀{Δ:List (dr τ dn)},Cons P D Δ->∀c,c∈Δ->c.Ok P D
 |[],_,c,hc=>by simp at hc
 |d::r,h,c,hc=>by
  rcases Oj.1 hc with rfl|hc
  ·exact h.1
  ·exact y4 h.2 c hc
theorem y5 {P:Program}:∀{Ω:List (jc τ dn)},u0 P D Ω->∀c,c∈Ω->c.Ok P D
 |[],_,c,hc=>by simp at hc
 |d::r,h,c,hc=>by
  rcases Oj.1 hc with rfl|hc
  ·exact h.1
  ·exact y5 h.2 c hc
theorem y6 {P:Program}:∀{il:List (IL τ dn)},u4 P D il->∀{f vs i},rW il f vs=some i->i.k.Ok P D f
 |[],_,f,vs,i,h=>by simp [rW] at h
 |j::r,h,f,vs,i,hi=>by
  simp only [rW] at hi
  cases hb:(Nat.beq j.f f&&(match j.cl with|none=>true|some g=>uZ g vs)) with
  |false=>rw [hb,Ot] at hi;exact y6 h.2 hi
  |true=>
   rw [hb,Ob,N6] at hi
   subst hi
   rw [N9] at hb
   rw [<-Ol hb.1];exact h.1
theorem L5 {as_:List AV} {g':Nat->Option Bk} {k k':Nat} {r:AV} (h:∀m:List (Option Bk),m.length=k->look m=g->Fi P f as_ (look m) m.length r g' k'):Fi P f as_ g k r g' k':=by
 intro E J base vs hG hm aX bF
 have hg:look ((List.range k).map g)=g:=by
  funext id
  unfold look
  rcases OT id k with h1|h1
  ·simp [h1]
  ·rw [PI (by simpa using h1)]
   cases hq:g id with
   |none=>rfl
   |some B=>exact absurd (aX id ((hm.live id).2 ⟨B,hq⟩).1) (by omega)
 have:=h _ (by simp) hg
 rw [hg,Ox,List.length_range] at this
 exact this E J base vs hG hm aX bF
variable [DecidableEq τ]
def y7 (C:b0 τ dn) (F:cP) (an:Nat->Option (LA τ dn)) (vs:List (SV τ dn)) (st:SS τ dn) (K:SV τ dn->SS τ dn->Prop):Prop:=
 bif Nat.ble vs.length F.n then eL C F.n an F.code 0 ⟨[],st.rm,kD vs 0,st.m,st.nx⟩ fun e aw=>match e with
  | .exit _=>False
  |_=>match jT C.D aw F.res with
   |some (O,l)=>fB O (K (mE l) aw)
   |none=>False
 else False
theorem L6 {C:b0 τ dn} (hC:C.Ok) (hF:cFunc C.P f=some F) (hc:bH C.P f=true) {an:Nat->Option (LA τ dn)} {vs:List (SV τ dn)} {st:SS τ dn} {K:SV τ dn->SS τ dn->Prop} (R:Rel C.D N st s) (jE:C.fl=st.nx)
  (ha:∀N',N.agree st.nx N'->vs.map (SV.av C.D.toTE N')=vs.map (SV.av C.D.toTE N)) (h:y7 C F an vs st K):um C.P C.D f vs st K N s:=by
 unfold y7 at h
 cases hb:Nat.ble vs.length F.n with
 |false=>rw [hb] at h;exact h.elim
 |true=>
 rw [hb,Ob] at h
 have R0:Rel C.D N ⟨[],st.rm,kD vs 0,st.m,st.nx⟩ ⟨b8 (vs.map (SV.av C.D.toTE N)),s.g,s.k⟩:=by
  refine ⟨fun N' hN=>⟨fun i v hv=> ?_,fun i v hv=>by simp [getS] at hv,(R.at_ N' hN).bl,(R.at_ N' hN).rb,(R.at_ N' hN).ar⟩,R.inj,R.lt,R.ml,R.rl,R.sp⟩
  obtain ⟨_,h2⟩:=yT hv
  rw [Nat.sub_zero] at h2
  show b8 _ i=_
  unfold b8
  rw [<-ha N' hN,Oy,h2];rfl
 obtain ⟨e,s',N',aw,e1,R1,_,r2,r3,hk⟩:=jU hC (n:=F.n) (k0:=s.k) F.code 0 R0 (Nat.le_of_eq jE) h
 have fin:(match jT C.D aw F.res with
   |some (O,l)=>fB O (K (mE l) aw)
   |none=>False)->∃v,(resR s'.σ F.res).run s'.g=some (v.av C.D.toTE N')/\(∀bT,N'.agree aw.nx bT->v.av C.D.toTE bT=v.av C.D.toTE N')/\K v aw:=fun hk=>by
  split at hk
  case h_2=>exact hk.elim
  rename_i O l hr
  rw [jN] at hk
  obtain ⟨hO,hk⟩:=hk
  have q:∀bT,N'.agree aw.nx bT->(resR s'.σ F.res).run s'.g=some ((mE l).av C.D.toTE bT):=fun bT hN=>by
   rw [ud]
   unfold resR
   rw [dq (uW hC.ok (R1.at_ bT hN) hr hO)];rfl
  refine ⟨_,q N' (N'.dN _),fun bT hN=> ?_,hk⟩
  have:=(q bT hN).symm.trans (q N' (N'.dN _))
  simpa using this
 have go:∀{x:Ex},(x= .normal\/x= .ret)->e=x->(∃v,(resR s'.σ F.res).run s'.g=some (v.av C.D.toTE N')/\(∀bT,N'.agree aw.nx bT->v.av C.D.toTE bT=v.av C.D.toTE N')/\K v aw)->um C.P C.D f vs st K N s:=fun {x} hx he hv=>by
  obtain ⟨v,v1,v2,v3⟩:=hv
  refine ⟨hc,s'.g,s'.k,N',v,aw, ?_,v2, ?_, ?_, ?_,v3⟩
  ·refine A3 hF (by rw [Ox];exact ON hb) (EW.cL e1 fun y t ht=> ?_)
   obtain ⟨rfl,rfl⟩:=ht
   exact ⟨by rw [he];exact hx,t,S3.Le.mH,v1,rfl,rfl⟩
  ·rw [<-jE];exact r3.1
  ·rw [<-jE];exact r3.2
  ·have y8:aw.rm=st.rm:=r2
   have cM:∀a X,(⟨[],st.rm,[],aw.m,aw.nx⟩:SS τ dn).bw a X->aw.bw a X:=fun a X hX=>hX.imp id fun h=>by rw [y8];exact h
   refine ⟨fun bT hN=>⟨fun i v hv=>by simp [getS] at hv,fun i v hv=>by simp [getS] at hv,(R1.at_ bT hN).bl,fun nm B hB=>(R1.at_ bT hN).rb nm B (by rw [y8];exact hB),fun t A h id hid=>(R1.at_ bT hN).ar t A (cM 0 _ h) id hid⟩,R1.inj,R1.lt,R1.ml,fun nm B hB=>R1.rl nm B (by rw [y8];exact hB),fun t A h id hid=>⟨(R1.sp t A (cM 0 _ h) id hid).1,fun nm B hB=>(R1.sp t A (cM 0 _ h) id hid).2 nm B (cM nm B hB)⟩⟩
 cases e with
 |normal=>exact go (.inl rfl) rfl (fin hk)
 |ret=>exact go (.inr rfl) rfl (fin hk)
 |exit i=>exact hk.elim
def y9 (D:TD τ dn) (t:τ) (vs:List (SV τ dn)) (st:SS τ dn) (K:SV τ dn->SS τ dn->Prop):Prop:=
 match vs with
 |[.own nm sz,a,b]=>match st.gm nm,a.int,b.int with
  |some (.bl t' xs),some (x,_),some (y,_)=>if h:t'=t then (bif st.rw nm&&Nat.beq sz (D.sz t) then 0<=x/\x<xs.length/\y=x+1/\xs.length<=1000000/\K (.own st.nx sz) ⟨st.rt,st.rm,st.t,(st.nx,some (.bl t ((h▸xs:List (dn t)).eraseIdx x.toNat)))::(nm,none)::st.m,st.nx+1⟩ else False) else False
  |_,_,_=>False
 |_=>False
theorem L7 {t:τ} {by_:Nat} {zs:List AV} (hk:IK.Ok P D f (.del t by_ zs:IK τ dn)) {vs:List (SV τ dn)} {st:SS τ dn} {K:SV τ dn->SS τ dn->Prop} (R:Rel D N st s) (h:y9 D t vs st K):um P D f vs st K N s:=by
 obtain ⟨hF,hc,hz⟩:=hk
 unfold y9 at h
 split at h
 case h_2=>exact h.elim
 rename_i nm sz a b
 split at h
 case h_2=>exact h.elim
 rename_i t' xs x bx y NV h1 h2 h3
 split at h
 case isFalse=>exact h.elim
 rename_i ht
 subst ht
 cases hb:st.rw nm&&Nat.beq sz (D.sz t') with
 |false=>rw [hb] at h;exact h.elim
 |true=>
 rw [hb,Ob] at h
 rw [N9] at hb
 obtain ⟨za,hs⟩:=hb
 have hs:=Ol hs
 subst hs
 obtain ⟨q1,q2,q3,q4,hK⟩:=h
 unfold SS.rw at za
 rw [N9] at za
 obtain ⟨w1,w2⟩:=za
 have hm:getS st.m nm=some (some (.bl t' xs)):=by
  unfold SS.gm at h1
  cases hg:getS st.m nm with
  |none=>rw [hg] at w1;simp at w1
  |some B=>rw [hg] at h1;simp only at h1;rw [h1]
 have DR:=R.here.bl nm _ hm
 have R1:Rel D N st ⟨s.σ,s.g,s.k+1⟩:=⟨R.at_,R.inj,fun a ha=>PM (R.lt a ha),R.ml,R.rl,fun t A h id hid=>⟨PM (R.sp t A h id hid).1,(R.sp t A h id hid).2⟩⟩
 have eV:=R1.go (n:=0) (d:=none) (r:= .mov [] (.vo undef) nm (.bl t' (xs.eraseIdx x.toNat))) rfl ⟨⟨_,hm⟩,by simpa using w2,rfl⟩ (val:= .v undef) (ups:=[(N.ι nm,none),(s.k+1,some ⟨D.sz t',(xs.eraseIdx x.toNat).map (D.ea N.ρ t')⟩)]) (fun _ _=>rfl) (fun N' hN=>by
  have e:=hN.1 nm (PM (R.ml nm _ hm))
  have e2:=hN.2
  simp only [SR.up,aC.cX] at e e2
  have hne:¬nm=st.nx:=fun e=>by have:=R.ml nm _ hm;omega
  rw [N7 hne,N7 hne] at e
  simp only [SR.ups,SB.av,e.1,e2])
 have hid:N.ι nm<s.k:=R.lt nm (R.ml nm _ hm)
 refine ⟨hc,aA s.g [(N.ι nm,none),(s.k+1,some ⟨D.sz t',(xs.eraseIdx x.toNat).map (D.ea N.ρ t')⟩)],s.k+2,N.cX st.nx (s.k+1) (xs.eraseIdx x.toNat).length, .own st.nx (D.sz t'),_, ?_,fun bT hN=> ?_,N.lA _ _ _,Nat.le_succ _, ?_,hK⟩
 ·refine L5 fun m oR DS=> ?_
  have hB:look m (N.ι nm)=some ⟨D.sz t',xs.map (D.ea N.ρ t')⟩:=by rw [DS];exact DR.1
  have:=HO (P:=P) (f:=f) (m:=m) hF hz hB q1 q2 q4
  rw [q3] at h3
  have bh:N.ln nm=xs.length:=DR.2
  have e1:[SV.own nm (D.sz t'),a,b].map (SV.av D.toTE N)=[.own (N.ι nm) (D.sz t') 0 xs.length,VI x,VI (x+1)]:=by
   simp only [Om,OU,SV.av,bh,eA h2,eA h3]
  have e2:(SV.own st.nx (D.sz t'):SV τ dn).av D.toTE (N.cX st.nx (s.k+1) (xs.eraseIdx x.toNat).length)= .own (m.length+1) (D.sz t') 0 (xs.eraseIdx x.toNat).length:=by
   simp only [SV.av,aC.cX,Oa,oR]
  rw [e1,e2]
  have e3:look (kW m (N.ι nm) ⟨D.sz t',(xs.eraseIdx x.toNat).map (D.ea N.ρ t')⟩)=aA s.g [(N.ι nm,none),(s.k+1,some ⟨D.sz t',(xs.eraseIdx x.toNat).map (D.ea N.ρ t')⟩)]:=by
   rw [<-DS, <-oR]
   rw [<-oR] at hid
   funext id
   unfold look kW
   simp only [aA]
   rcases OT id m.length with hl|hl
   ·rw [O4 (by simpa using hl)]
    rw [N7 (by omega)]
    by_cases hi:id=N.ι nm
    ·subst hi;simp [hid]
    ·rw [N7 hi,P6 (fun e=>hi e.symm)]
   ·rw [Ph (by simpa using hl),List.length_set]
    rcases Nat.lt_trichotomy id (m.length+1) with h5|h5|h5
    ·have:id=m.length:=by omega
     subst this
     rw [N7 (by omega),N7 (by omega)];simp
    ·subst h5
     rw [N8 rfl];simp
    ·rw [N7 (by omega),N7 (by omega),PI (by simp;omega),PI (by omega)]
  have e4:(kW m (N.ι nm) ⟨D.sz t',(xs.eraseIdx x.toNat).map (D.ea N.ρ t')⟩).length=s.k+2:=by simp [kW,oR]
  rw [e3,e4] at this
  exact this
 ·have:=hN.1 st.nx (Pc _)
  simp only [SV.av,this.1,this.2]
 ·exact ⟨fun bT hN=>⟨fun i v hv=>by simp [getS] at hv,fun i v hv=>by simp [getS] at hv,(eV.at_ bT hN).bl,(eV.at_ bT hN).rb,(eV.at_ bT hN).ar⟩,eV.inj,eV.lt,eV.ml,eV.rl,eV.sp⟩
def u5 (P:Program) (D:TD τ dn) (Δ:List (dr τ dn)) (Ω:List (jc τ dn)) (il:List (IL τ dn)):Nat->JW τ dn
 |0,_,_,_,_=>False
 |d+1,f,vs,st,K=>match rW il f vs with
  |some ⟨_, .fn F an,_⟩=>y7 ⟨P,D,Δ,Ω,st.nx,u5 P D Δ Ω il d,false⟩ F an vs st K
  |some ⟨_, .del t _ _,_⟩=>y9 D t vs st K
  |none=>False
theorem DT {P:Program} (ok:aZ D) {Δ:List (dr τ dn)} (rX:Cons P D Δ) {Ω:List (jc τ dn)} (rY:u0 P D Ω) {il:List (IL τ dn)} (cw:u4 P D il):∀(d fl:Nat),(⟨P,D,Δ,Ω,fl,u5 P D Δ Ω il d,false⟩:b0 τ dn).Ok
 |0,fl=>⟨ok,y4 rX,y5 rY,fun _ _ h=>h.elim⟩
 |d+1,fl=>⟨ok,y4 rX,y5 rY,fun {f vs st K N s} R ha h=>by
  simp only [u5] at h
  split at h
  ·rename_i F an hi
   obtain ⟨h1,h2⟩:=y6 cw hi
   exact L6 (DT ok rX rY cw d st.nx) h1 h2 R rfl ha h
  ·rename_i hi
   exact L7 (y6 cw hi) R h
  ·exact h.elim⟩
theorem pF (ok:aZ D) {Δ:List (dr τ dn)} (rX:Cons P D Δ) {Ω:List (jc τ dn)} (rY:u0 P D Ω) (c:dr τ dn) (hF:cFunc P c.f=some F) (hc:bH P c.f=true) (il:PD dn c.ps->List (IL τ dn)) (cw:∀x,u4 P D (il x)) (d:Nat) (an:PD dn c.ps->Nat->Option (LA τ dn)) (h:∀x,c.pre x->yZ ⟨P,D,Δ,Ω,0,u5 P D Δ Ω (il x) d,false⟩ F (an x) (lH D c.ps x) c.rs (c.res x)):c.Ok P D:=
 ⟨hc,fun x N hp=>L4 (DT ok rX rY (cw x) d 0) hF N (uY ok c.ps x) (h x hp)⟩
end
open Go.RowKit
structure LR (α:Type) where
 sz:Nat
 ea:(Nat->AV)->α->List AV
def LR.i64:LR Int:=⟨1,fun _ x=>[.v (.int .i64 x)]⟩
def LR.u8:LR UInt8:=⟨1,fun _ x=>[.v (.int .u8 x.toNat)]⟩
def LR.u64:LR ec:=⟨1,fun _ x=>[.v (.int .u64 (x.n:Int))]⟩
def LR.u16:LR Int:=⟨1,fun _ x=>[.v (.int .u16 x)]⟩
def LR.u6:LR Bool:=⟨1,fun _ x=>[.v (.bool x)]⟩
def LR.str:LR ByteArray:=⟨1,fun _ x=>[.v (.string x)]⟩
def LR.list (A:LR α):LR (List α):=⟨1,fun ρ xs=>[.aU A.sz (xs.map (A.ea ρ))]⟩
section
variable {τ:Type} {dn:τ->Type}
structure LY (E:TE τ dn) {α:Type} (R:LR α) where
 es:α->List (SV τ dn)
 ds:List (SV τ dn)->Option α
 df:α
 dp:∀(N:aC) (x:α),(es x).map (SV.av E N)=R.ea N.ρ x
 iZ:∀(N:aC) (cs:List (SV τ dn)) (x:α),ds cs=some x->dY (cs.map (SV.av E N)) (R.ea N.ρ x)
 em:Bool
 pu:Bool
 fR:∀(N:aC) (cs:List (SV τ dn)) (x:α),ds cs=some x->(em=true\/cs.all SV.ne=true)->cs.map (SV.av E N)=R.ea N.ρ x
 len:∀x,(es x).length=R.sz
 one:∀x,(es x).all SV.one=true
 nf:∀(p:Nat->Bool) x,SV.dM p (es x)=true
 ja:∀(ρ mu:Nat->AV) (x:α),R.ea ρ x=R.ea mu x
 pu1:∀(N:aC) (x:α),pu=true->(R.ea N.ρ x).all AV.pu1=true
 bt:Option ((α->UInt8)×(UInt8->α)):=none
 DU:∀(N:aC) (p:(α->UInt8)×(UInt8->α)),bt=some p->(∀x,R.ea N.ρ x=[.v (.int .u8 (p.1 x).toNat)])/\∀b,p.1 (p.2 b)=b:=by intro N p h;simp at h
variable {E:TE τ dn}
def zb:List (SV τ dn)->Option Int
 |[.vi x]=>some x
 |[.vn x]=>some x
 |_=>none
def zc:List (SV τ dn)->Option UInt8
 |[.vy x]=>some x
 |_=>none
def zd:List (SV τ dn)->Option ec
 |[.vu x]=>some x
 |_=>none
def ze:List (SV τ dn)->Option Int
 |[.vw .u16 x]=>some x
 |_=>none
def zf:List (SV τ dn)->Option Bool
 |[.vt x]=>some x
 |[.vb c]=>some c.den
 |_=>none
def zg:List (SV τ dn)->Option ByteArray
 |[.vz x]=>some x
 |_=>none
theorem DV {cs:List (SV τ dn)} (h:zb cs=some x):cs.map (SV.av E N)=[.v (.int .i64 x)]:=by
 unfold zb at h;split at h<;>simp only [N6,reduceCtorEq] at h<;>subst h<;>rfl
theorem DX {cs:List (SV τ dn)} {x:UInt8} (h:zc cs=some x):cs.map (SV.av E N)=[.v (.int .u8 x.toNat)]:=by
 unfold zc at h;split at h<;>simp only [N6,reduceCtorEq] at h;subst h;rfl
theorem DY {cs:List (SV τ dn)} {x:ec} (h:zd cs=some x):cs.map (SV.av E N)=[.v (.int .u64 (x.n:Int))]:=by
 unfold zd at h;split at h<;>simp only [N6,reduceCtorEq] at h;subst h;rfl
theorem DZ {cs:List (SV τ dn)} (h:ze cs=some x):cs.map (SV.av E N)=[.v (.int .u16 x)]:=by
 unfold ze at h;split at h<;>simp only [N6,reduceCtorEq] at h;subst h;rfl
theorem D0 {cs:List (SV τ dn)} {x:Bool} (h:zf cs=some x):cs.map (SV.av E N)=[.v (.bool x)]:=by
 unfold zf at h;split at h<;>simp only [N6,reduceCtorEq] at h<;>subst h<;>rfl
theorem D1 {cs:List (SV τ dn)} {x:ByteArray} (h:zg cs=some x):cs.map (SV.av E N)=[.v (.string x)]:=by
 unfold zg at h;split at h<;>simp only [N6,reduceCtorEq] at h;subst h;rfl
theorem dY.of_eq {a b:List AV} (h:a=b):dY a b:=by
 subst h
 induction a with
 |nil=>exact .nil
 |cons x r ih=>exact .cons aP.refl ih
def LY.i64:LY E LR.i64 where
 es x:=[.vi x]
 ds:=zb
 df:=0
 dp _ _:=rfl
 iZ _ _ _ h:= .of_eq (DV h)
 em:=true
 pu:=true
 fR _ _ _ h _:=DV h
 len _:=rfl
 one _:=rfl
 nf _ _:=rfl
 ja _ _ _:=rfl
 pu1 _ _ _:=rfl
def LY.u8:LY E LR.u8 where
 es x:=[.vy x]
 ds:=zc
 df:=0
 dp _ _:=rfl
 iZ _ _ _ h:= .of_eq (DX h)
 em:=true
 pu:=true
 fR _ _ _ h _:=DX h
 len _:=rfl
 one _:=rfl
 nf _ _:=rfl
 ja _ _ _:=rfl
 pu1 _ _ _:=rfl
 bt:=some (id,id)
 DU N p h:=by simp only [N6] at h;subst h;exact ⟨fun _=>rfl,fun _=>rfl⟩
def LY.u64:LY E LR.u64 where
 es x:=[.vu x]
 ds:=zd
 df:=⟨0,by decide⟩
 dp _ _:=rfl
 iZ _ _ _ h:= .of_eq (DY h)
 em:=true
 pu:=true
 fR _ _ _ h _:=DY h
 len _:=rfl
 one _:=rfl
 nf _ _:=rfl
 ja _ _ _:=rfl
 pu1 _ _ _:=rfl
def LY.u16:LY E LR.u16 where
 es x:=[.vw .u16 x]
 ds:=ze
 df:=0
 dp _ _:=rfl
 iZ _ _ _ h:= .of_eq (DZ h)
 em:=true
 pu:=true
 fR _ _ _ h _:=DZ h
 len _:=rfl
 one _:=rfl
 nf _ _:=rfl
 ja _ _ _:=rfl
 pu1 _ _ _:=rfl
def LY.u6:LY E LR.u6 where
 es x:=[.vb (.b x)]
 ds:=zf
 df:=false
 dp _ _:=rfl
 iZ _ _ _ h:= .of_eq (D0 h)
 em:=true
 pu:=true
 fR _ _ _ h _:=D0 h
 len _:=rfl
 one _:=rfl
 nf _ _:=rfl
 ja _ _ _:=rfl
 pu1 _ _ _:=rfl
def LY.str:LY E LR.str where
 es x:=[.vz x]
 ds:=zg
 df:=ByteArray.empty
 dp _ _:=rfl
 iZ _ _ _ h:= .of_eq (D1 h)
 em:=true
 pu:=true
 fR _ _ _ h _:=D1 h
 len _:=rfl
 one _:=rfl
 nf _ _:=rfl
 ja _ _ _:=rfl
 pu1 _ _ _:=rfl
def NW {β:Type} (n:Nat) (a:List (SV τ dn)->Option α) (b:List (SV τ dn)->Option β) (cs:List (SV τ dn)):Option (α×β):=
 match a (cs.take n),b (cs.drop n) with
 |some x,some y=>some (x,y)
 |_,_=>none
def rZ {α:Type} (em:Bool) (ds:List (SV τ dn)->Option α):List (List (SV τ dn))->Option (List α)
 |[]=>some []
 |cs::r=>if (em||cs.all SV.ne)=true then (match ds cs,rZ em ds r with
  |some x,some l=>some (x::l)
  |_,_=>none) else none
theorem D2 {t:τ} {R:LR (dn t)} (A:LY E R) (N:aC):∀{els:List (List (SV τ dn))} {xs:List (dn t)},rZ A.em A.ds els=some xs->SV.bR E N els=xs.map (R.ea N.ρ)
 |[],xs,h=>by simp only [rZ,N6] at h;subst h;rfl
 |cs::r,xs,h=>by
  simp only [rZ] at h
  split at h
  ·rename_i hn
   split at h
   ·rename_i x l h1 h2
    simp only [N6] at h;subst h
    simp only [SV.bR,Om,SV.bu,A.fR N _ _ h1 (by rw [OA] at hn;exact hn),D2 A N h2]
   ·simp at h
  ·simp at h
section
variable [DecidableEq τ]
def zh (t:τ) (sz:Nat) (em:Bool) (ds:List (SV τ dn)->Option (dn t)):List (SV τ dn)->Option (List (dn t))
 |[.vl t' xs]=>if h:t'=t then some (h▸xs) else none
 |[.vc k els]=>if k=sz then rZ em ds els else none
 |[.emp]=>some []
 |_=>none
theorem D3 {t:τ} {R:LR (dn t)} (A:LY E R) (hs:E.sz t=R.sz) (he:∀ρ,E.ea ρ t=R.ea ρ) (N:aC) {cs:List (SV τ dn)} {xs:List (dn t)} (h:zh t R.sz A.em A.ds cs=some xs):dY (cs.map (SV.av E N)) ((LR.list R).ea N.ρ xs)/\(cs.all SV.ne=true->cs.map (SV.av E N)=(LR.list R).ea N.ρ xs):=by
 unfold zh at h
 split at h
 ·rename_i t' ys
  split at h
  ·rename_i ht
   subst ht
   simp only [N6] at h;subst h
   have:[SV.vl t' ys].map (SV.av E N)=(LR.list R).ea N.ρ ys:=by
    simp only [Om,OU,SV.av,hs,he];rfl
   exact ⟨.of_eq this,fun _=>this⟩
  ·simp at h
 ·rename_i k els
  split at h
  ·rename_i hk
   subst hk
   have:[SV.vc R.sz els].map (SV.av E N)=(LR.list R).ea N.ρ xs:=by
    simp only [Om,OU,SV.av,D2 A N h];rfl
   exact ⟨.of_eq this,fun _=>this⟩
  ·simp at h
 ·simp only [N6] at h;subst h
  exact ⟨.cons aP.emp .nil,fun hn=>by simp [SV.ne] at hn⟩
 ·simp at h
def LY.list {t:τ} {R:LR (dn t)} (A:LY E R) (hs:E.sz t=R.sz) (he:∀ρ,E.ea ρ t=R.ea ρ):LY E (LR.list R) where
 es x:=[.vl t x]
 ds:=zh t R.sz A.em A.ds
 df:=[]
 dp N x:=by simp only [Om,OU,SV.av,hs,he];rfl
 iZ N cs x h:=(D3 A hs he N h).1
 em:=false
 pu:=true
 fR N cs x h hn:=(D3 A hs he N h).2 (hn.resolve_left (by simp))
 len _:=rfl
 one _:=rfl
 nf _ _:=rfl
 ja ρ mu x:=by show [AV.aU R.sz (x.map (R.ea ρ))]=[AV.aU R.sz (x.map (R.ea mu))];rw [funext fun y=>A.ja ρ mu y]
 pu1 _ _ _:=rfl
end
def L8 (E:TE τ dn) (ta:τ) (A:List (Nat×List (dn ta))) {α β:Type} (R:LR α) (R':LR β) (f:α->β) (O:α->Prop):Prop:=
 R'.sz=R.sz/\∀(N:aC) (φ:AV->AV),(∀a,a.pu1=true->φ a=a)->(∀id n,dw A id->(fy A id).length=n->φ (.own id (E.sz ta) 0 n)= .aU (E.sz ta) ((fy A id).map (E.ea N.ρ ta)))->∀x,O x->(R.ea N.ρ x).map φ=R'.ea N.ρ (f x)
abbrev FZ (τ:Type) (dn:τ->Type):Type:=(t ta:τ)->(A:List (Nat×List (dn ta)))->Option ((t':τ)×(dn t->dn t')×(dn t->Prop))
def TE.mM (lr:(t:τ)->LR (dn t)):TE τ dn:=⟨fun t=>(lr t).sz,fun ρ t=>(lr t).ea ρ⟩
def TD.mM {lr:(t:τ)->LR (dn t)} (ly:(t:τ)->LY (TE.mM lr) (lr t)) (ag:τ->Bool) (hint:Nat->Nat->Option τ) (neg:Bool) (ar:Option τ:=none) (hr:τ->Bool:=fun _=>false) (fz:FZ τ dn:=fun _ _ _=>none) (th:(t t':τ)->Option (dn t->dn t'):=fun _ _=>none):TD τ dn where
 toTE:=TE.mM lr
 df t:=(ly t).df
 es t:=(ly t).es
 ds t:=(ly t).ds
 ag:=ag
 pu t:=(ly t).pu
 hint:=hint
 neg:=neg
 em t:=(ly t).em
 ar:=ar
 hr:=hr
 fz:=fz
 bt t:=(ly t).bt
 th:=th
theorem TD.L9 {lr:(t:τ)->LR (dn t)} {ly:(t:τ)->LY (TE.mM lr) (lr t)} {ag:τ->Bool} {hint:Nat->Nat->Option τ} {neg:Bool} {ar:Option τ} {hr:τ->Bool} {fz:FZ τ dn} {th:(t t':τ)->Option (dn t->dn t')} (hfz:∀(t ta:τ) (A:List (Nat×List (dn ta))) (t':τ) (f:dn t->dn t') (O:dn t->Prop),fz t ta A=some ⟨t',f,O⟩->L8 (TE.mM lr) ta A (lr t) (lr t') f O:=by intro t ta A t' f O h;simp at h) (Ma:∀(ρ:Nat->AV) (t t':τ) (f:dn t->dn t'),th t t'=some f->(lr t').sz=(lr t).sz/\∀x,(lr t').ea ρ (f x)=(lr t).ea ρ x:=by intro ρ t t' f h;simp at h):aZ (TD.mM ly ag hint neg ar hr fz th) where
 dp N t x:=(ly t).dp N x
 iZ N t cs x h:=(ly t).iZ N cs x h
 fR N t cs x h hn:=(ly t).fR N cs x h (by unfold TD.nQ at hn;rw [OA] at hn;exact hn)
 len t x:=(ly t).len x
 one t x:=(ly t).one x
 nf p t x:=(ly t).nf p x
 ja ρ mu t x _:=(ly t).ja ρ mu x
 pu1 N t x h:=(ly t).pu1 N x h
 bt N t p h:=(ly t).DU N p h
 th:=Ma
 fz N φ t ta A t' f O h h1 h2:=⟨(hfz t ta A t' f O h).1,fun x hx=>(hfz t ta A t' f O h).2 N φ h1 h2 x hx⟩
end
open Go.RowKit
def N0:aC:=⟨fun _=>0,fun _=>0,fun _=> .dead⟩
section
variable {τ:Type} {dn:τ->Type} {D:TD τ dn}
theorem Mb (ok:aZ D) {t:τ} {x:dn t} {v:Value} (ha:D.ag t=false) (h:R2 (aj E) [v] (D.ea (fun _=> .dead) t x)):aj E v ((D.en t x).av D.toTE N0):=by
 have one:∀l:List AV,[v].length=l.length->∃b,l=[b]:=fun l hl=>by
  match l with
  |[b]=>exact ⟨b,rfl⟩
  |[]=>simp at hl
  |_::_::_=>simp at hl
 obtain ⟨b,hb⟩:=one _ h.len
 rw [ya (N:=N0) ok ha hb]
 have h2:R2 (aj E) [v] [b]:=by rw [<-hb];exact h
 cases h2 with|cons h _=>exact h
end
open Go.RowKit
structure D4 where
 n:Nat
 lt:n<65536
theorem Mc {n:Int} (h:(Lit.int .u16 n).wf=true):∃x:D4,n=(x.n:Int):=by
 simp only [Lit.wf,N9,Pb] at h
 have h1:IntKind.u16.min=0:=rfl
 have h2:IntKind.u16.max=65535:=rfl
 exact ⟨⟨n.toNat,by omega⟩,by simp only;omega⟩
inductive Tc where
 |eM
 |kE
 |cW
 |r7
 |mN
 |lT
 |r8
 |r9
def Tc.no:Tc->Nat
 | .eM=>0
 | .kE=>1
 | .cW=>2
 | .r7=>3
 | .mN=>4
 | .lT=>5
 | .r8=>6
 | .r9=>7
def Tc.of:Nat->Tc
 |0=> .eM
 |1=> .kE
 |2=> .cW
 |3=> .r7
 |4=> .mN
 |5=> .lT
 |6=> .r8
 |_=> .r9
theorem Tc.D5 (a:Tc):Tc.of a.no=a:=by cases a<;>rfl
instance:DecidableEq Tc:=fun a b=>match Nat.decEq a.no b.no with
 |isTrue h=>isTrue (by rw [<-Tc.D5 a,h,Tc.D5])
 |isFalse h=>isFalse fun e=>h (by rw [e])
abbrev Tc.dn:Tc->Type
 | .eM=>Int
 | .kE=>UInt8
 | .cW=>Int
 | .r7=>ec
 | .mN=>Bool
 | .lT=>ByteArray
 | .r8=>(List Int)
 | .r9=>(List UInt8)
def Tc.lr:(t:Tc)->LR t.dn
 | .eM=>LR.i64
 | .kE=>LR.u8
 | .cW=>LR.u16
 | .r7=>LR.u64
 | .mN=>LR.u6
 | .lT=>LR.str
 | .r8=>(LR.list LR.i64)
 | .r9=>(LR.list LR.u8)
abbrev tE:TE Tc Tc.dn:=TE.mM Tc.lr
def Tc.ly:(t:Tc)->LY tE t.lr
 | .eM=>LY.i64
 | .kE=>LY.u8
 | .cW=>LY.u16
 | .r7=>LY.u64
 | .mN=>LY.u6
 | .lT=>LY.str
 | .r8=>(LY.list (t:=Tc.eM) LY.i64 rfl fun _=>rfl)
 | .r9=>(LY.list (t:=Tc.kE) LY.u8 rfl fun _=>rfl)
def Tc.ag:Tc->Bool
 |_=>false
def Md (sz bytes:Nat):Option Tc:=bif Nat.beq sz 1&&Nat.beq bytes 1 then some .kE else bif Nat.beq sz 1&&Nat.beq bytes 8 then some .eM else none
def tD:TD Tc Tc.dn:=TD.mM Tc.ly Tc.ag Md false
theorem og:aZ tD:=TD.L9
open Go.RowKit
def kF:Nat->Nat->Nat
 |0,_=>0
 |k+1,n=>n%2+kF k (n / 2)
def oi:ByteArray:=⟨#[0,1,1,2,1,2,2,3,1,2,2,3,2,3,3,4,1,2,2,3,2,3,3,4,2,3,3,4,3,4,4,5,1,2,2,3,2,3,3,4,2,3,3,4,3,4,4,5,2,3,3,4,3,4,4,5,3,4,4,5,4,5,5,6,1,2,2,3,2,3,3,4,2,3,3,4,3,4,4,5,2,3,3,4,3,4,4,5,3,4,4,5,4,5,5,6,2,3,3,4,3,4,4,5,3,4,4,5,4,5,5,6,3,4,4,5,4,5,5,6,4,5,5,6,5,6,6,7,1,2,2,3,2,3,3,4,2,3,3,4,3,4,4,5,2,3,3,4,3,4,4,5,3,4,4,5,4,5,5,6,2,3,3,4,3,4,4,5,3,4,4,5,4,5,5,6,3,4,4,5,4,5,5,6,4,5,5,6,5,6,6,7,2,3,3,4,3,4,4,5,3,4,4,5,4,5,5,6,3,4,4,5,4,5,5,6,4,5,5,6,5,6,6,7,3,4,4,5,4,5,5,6,4,5,5,6,5,6,6,7,4,5,5,6,5,6,6,7,5,6,6,7,6,7,7,8]⟩
theorem Me:((List.range 256).all fun i=>Nat.beq (gb oi i).toNat (kF 8 i))=true:=by decide+kernel
theorem D6 (h:i<256):(gb oi i).toNat=kF 8 i:=Ol (Oc.1 Me i (OL.2 h))
theorem zj:∀k n,kF k n<=k
 |0,_=>Og _
 |k+1,n=>by unfold kF;have:=zj k (n / 2);omega
def lU (x:Nat):Nat:=kF 8 (x / 256)+kF 8 (x%256)
def odW (x:Int):Bool:=decide (lU x.toNat%2=1)
def ga (w:Nat):Nat->Nat
 |0=>0
 |p+1=>if w / 2^p%2=1 then ga w p^^^p else ga w p
theorem zk (w:Nat):∀p,p<=16->ga w p<16
 |0,_=>by unfold ga;omega
 |p+1,h=>by
  unfold ga
  have:=zk w p (by omega)
  split
  ·exact Nat.xor_lt_two_pow (n:=4) this (by omega)
  ·exact this
def synI (x:Int):Int:=(ga x.toNat 13:Int)
theorem u7 (h:0<=x) (k:Nat):x.fdiv ((2:Int)^k)=((x.toNat / 2^k:Nat):Int):=by
 have e:((2:Int)^k)=((2^k:Nat):Int):=by simp
 rw [e,Int.fdiv_eq_ediv_of_nonneg _ (Int.natCast_nonneg _)]
 conv=>lhs;rw [<-Int.toNat_of_nonneg h]
 rfl
theorem zl (h:n<65536):bits BinOp.and IntKind.u16 (n:Int) 1=((n%2:Nat):Int):=by
 rw [show (1:Int)=((1:Nat):Int) from rfl,u16_and_nat n 1 h (by decide),Nat.and_one_is_mod]
theorem Mf (h:0<=x/\x<65536):bits BinOp.and IntKind.u16 x 255=((x.toNat%256:Nat):Int):=by
 rw [u16_and x 255 h.1 h.2 (by decide) (by decide)]
 have:=Nat.and_two_pow_sub_one_eq_mod x.toNat 8
 rw [show (255:Int).toNat=2^8 - 1 from rfl,this]
structure dR (w p o:Int):Prop where
 w0:0<=w/\w<65536
 lo:1<=p
 hi:p<=13
 eq:o=(ga w.toNat p.toNat:Int)
theorem dR.start {w:Int} (h:0<=w/\w<65536):dR w 1 0:=⟨h,by omega,by omega,by
 show (0:Int)=((if w.toNat / 2^0%2=1 then 0^^^0 else 0:Nat):Int)
 split<;>rfl⟩
theorem dR.bit {w p o:Int} (h:dR w p o):bits BinOp.and IntKind.u16 (w.fdiv ((2:Int)^min p.toNat IntKind.u16.bits)) 1=((w.toNat / 2^p.toNat%2:Nat):Int):=by
 have h1:=h.lo;have h2:=h.hi;have h0:=h.w0
 rw [show min p.toNat IntKind.u16.bits=p.toNat by show min p.toNat 16=_;omega,u7 h0.1,zl]
 exact PW (Nat.div_le_self _ _) (by omega)
theorem dR.bd {w p o:Int} (h:dR w p o):0<=o/\o<16:=by
 have:=zk w.toNat p.toNat (by have:=h.hi;omega)
 rw [h.eq];omega
theorem dR.yes {w p o:Int} (h:dR w p o) (hp:p<13) (e:bits BinOp.and IntKind.u16 (w.fdiv ((2:Int)^min p.toNat IntKind.u16.bits)) 1=1):dR w (p+1) ((o.toNat^^^p.toNat:Nat):Int):=by
 have h1:=h.lo
 rw [h.bit] at e
 refine ⟨h.w0,by omega,by omega, ?_⟩
 rw [show (p+1).toNat=p.toNat+1 by omega,ga,N8 (by omega),h.eq];rfl
theorem dR.no {w p o:Int} (h:dR w p o) (hp:p<13) (e:¬bits BinOp.and IntKind.u16 (w.fdiv ((2:Int)^min p.toNat IntKind.u16.bits)) 1=1):dR w (p+1) o:=by
 have h1:=h.lo
 rw [h.bit] at e
 refine ⟨h.w0,by omega,by omega, ?_⟩
 rw [show (p+1).toNat=p.toNat+1 by omega,ga,N7 (by omega),h.eq]
theorem dR.fin {w p o:Int} (h:dR w p o) (hp:13<=p):o=synI w:=by
 have:=h.hi
 rw [h.eq,show p=13 by omega];rfl
def zm:dr Tc Tc.dn:=⟨17,[.ty .cW],fun x=>(fun (x:Int)=>0<=x/\x<65536) x.1,[.eM],fun x=>(fun (x:Int)=>(lU x.toNat:Int)) x.1⟩
abbrev sa:=(ByteArray.mk #[(0:UInt8),(1:UInt8),(1:UInt8),(2:UInt8),(1:UInt8),(2:UInt8),(2:UInt8),(3:UInt8),(1:UInt8),(2:UInt8),(2:UInt8),(3:UInt8),(2:UInt8),(3:UInt8),(3:UInt8),(4:UInt8),(1:UInt8),(2:UInt8),(2:UInt8),(3:UInt8),(2:UInt8),(3:UInt8),(3:UInt8),(4:UInt8),(2:UInt8),(3:UInt8),(3:UInt8),(4:UInt8),(3:UInt8),(4:UInt8),(4:UInt8),(5:UInt8),(1:UInt8),(2:UInt8),(2:UInt8),(3:UInt8),(2:UInt8),(3:UInt8),(3:UInt8),(4:UInt8),(2:UInt8),(3:UInt8),(3:UInt8),(4:UInt8),(3:UInt8),(4:UInt8),(4:UInt8),(5:UInt8),(2:UInt8),(3:UInt8),(3:UInt8),(4:UInt8),(3:UInt8),(4:UInt8),(4:UInt8),(5:UInt8),(3:UInt8),(4:UInt8),(4:UInt8),(5:UInt8),(4:UInt8),(5:UInt8),(5:UInt8),(6:UInt8),(1:UInt8),(2:UInt8),(2:UInt8),(3:UInt8),(2:UInt8),(3:UInt8),(3:UInt8),(4:UInt8),(2:UInt8),(3:UInt8),(3:UInt8),(4:UInt8),(3:UInt8),(4:UInt8),(4:UInt8),(5:UInt8),(2:UInt8),(3:UInt8),(3:UInt8),(4:UInt8),(3:UInt8),(4:UInt8),(4:UInt8),(5:UInt8),(3:UInt8),(4:UInt8),(4:UInt8),(5:UInt8),(4:UInt8),(5:UInt8),(5:UInt8),(6:UInt8),(2:UInt8),(3:UInt8),(3:UInt8),(4:UInt8),(3:UInt8),(4:UInt8),(4:UInt8),(5:UInt8),(3:UInt8),(4:UInt8),(4:UInt8),(5:UInt8),(4:UInt8),(5:UInt8),(5:UInt8),(6:UInt8),(3:UInt8),(4:UInt8),(4:UInt8),(5:UInt8),(4:UInt8),(5:UInt8),(5:UInt8),(6:UInt8),(4:UInt8),(5:UInt8),(5:UInt8),(6:UInt8),(5:UInt8),(6:UInt8),(6:UInt8),(7:UInt8),(1:UInt8),(2:UInt8),(2:UInt8),(3:UInt8),(2:UInt8),(3:UInt8),(3:UInt8),(4:UInt8),(2:UInt8),(3:UInt8),(3:UInt8),(4:UInt8),(3:UInt8),(4:UInt8),(4:UInt8),(5:UInt8),(2:UInt8),(3:UInt8),(3:UInt8),(4:UInt8),(3:UInt8),(4:UInt8),(4:UInt8),(5:UInt8),(3:UInt8),(4:UInt8),(4:UInt8),(5:UInt8),(4:UInt8),(5:UInt8),(5:UInt8),(6:UInt8),(2:UInt8),(3:UInt8),(3:UInt8),(4:UInt8),(3:UInt8),(4:UInt8),(4:UInt8),(5:UInt8),(3:UInt8),(4:UInt8),(4:UInt8),(5:UInt8),(4:UInt8),(5:UInt8),(5:UInt8),(6:UInt8),(3:UInt8),(4:UInt8),(4:UInt8),(5:UInt8),(4:UInt8),(5:UInt8),(5:UInt8),(6:UInt8),(4:UInt8),(5:UInt8),(5:UInt8),(6:UInt8),(5:UInt8),(6:UInt8),(6:UInt8),(7:UInt8),(2:UInt8),(3:UInt8),(3:UInt8),(4:UInt8),(3:UInt8),(4:UInt8),(4:UInt8),(5:UInt8),(3:UInt8),(4:UInt8),(4:UInt8),(5:UInt8),(4:UInt8),(5:UInt8),(5:UInt8),(6:UInt8),(3:UInt8),(4:UInt8),(4:UInt8),(5:UInt8),(4:UInt8),(5:UInt8),(5:UInt8),(6:UInt8),(4:UInt8),(5:UInt8),(5:UInt8),(6:UInt8),(5:UInt8),(6:UInt8),(6:UInt8),(7:UInt8),(3:UInt8),(4:UInt8),(4:UInt8),(5:UInt8),(4:UInt8),(5:UInt8),(5:UInt8),(6:UInt8),(4:UInt8),(5:UInt8),(5:UInt8),(6:UInt8),(5:UInt8),(6:UInt8),(6:UInt8),(7:UInt8),(4:UInt8),(5:UInt8),(5:UInt8),(6:UInt8),(5:UInt8),(6:UInt8),(6:UInt8),(7:UInt8),(5:UInt8),(6:UInt8),(6:UInt8),(7:UInt8),(6:UInt8),(7:UInt8),(7:UInt8),(8:UInt8)])
theorem Mg (x:Int) (hp:0<=x/\x<65536):((0:Int)<=x.fdiv ((2:Int)^min (uN (Int.toNat (8:Int))).n IntKind.u16.bits)/\x.fdiv ((2:Int)^min (uN (Int.toNat (8:Int))).n IntKind.u16.bits)<(↑sa.size:Int))/\((0:Int)<=bits BinOp.and IntKind.u16 x (255:Int)/\bits BinOp.and IntKind.u16 x (255:Int)<(↑sa.size:Int))/\(↑(gb sa (x.fdiv ((2:Int)^min (uN (Int.toNat (8:Int))).n IntKind.u16.bits)).toNat+gb sa (bits BinOp.and IntKind.u16 x (255:Int)).toNat).toNat:Int)=(↑(lU x.toNat):Int):=by
 delta sa
 show (0<=x.fdiv ((2:Int)^min (uN (Int.toNat 8)).n IntKind.u16.bits)/\x.fdiv ((2:Int)^min (uN (Int.toNat 8)).n IntKind.u16.bits)<(oi.size:Int))/\(0<=bits BinOp.and IntKind.u16 x 255/\bits BinOp.and IntKind.u16 x 255<(oi.size:Int))/\((gb oi (x.fdiv ((2:Int)^min (uN (Int.toNat 8)).n IntKind.u16.bits)).toNat+gb oi (bits BinOp.and IntKind.u16 x 255).toNat).toNat:Int)=(lU x.toNat:Int)
 have e1:x.fdiv ((2:Int)^min (uN (Int.toNat 8)).n IntKind.u16.bits)=((x.toNat / 256:Nat):Int):=u7 hp.1 8
 have e2:=Mf hp
 have e3:oi.size=256:=rfl
 have e4:x.toNat / 256<256:=by omega
 have e5:x.toNat%256<256:=by omega
 have e6:=D6 e4
 have e7:=D6 e5
 have e8:=zj 8 (x.toNat / 256)
 have e9:=zj 8 (x.toNat%256)
 rw [e1,e2,e3]
 refine ⟨by omega,by omega, ?_⟩
 rw [O3,O3,UInt8.toNat_add,e6,e7]
 unfold lU
 rw [Pr (by omega)]
theorem Mh:zm.Ok Try.prog tD:=pF og (Δ:=[]) trivial (Ω:=[]) trivial zm BB BC (fun _=>[]) (fun _=>trivial) 0 (fun x=>(fun (x:Int)=>(fun _=>none)) x.1) fun x hp=>Eq.mp (by kernel_rfl) (Mg x.1 hp)
def D7:dr Tc Tc.dn:=⟨13,[.ty .cW],fun x=>(fun (x:Int)=>0<=x/\x<65536) x.1,[.mN],fun x=>(fun (x:Int)=>odW x) x.1⟩
theorem Mi (x:Int) (hp:0<=x/\x<65536):((0:Int)<=x/\x<(65536:Int))/\((0:Int)<=(↑(lU x.toNat):Int)/\(2:Int)≠(0:Int))/\((↑(lU x.toNat):Int)%(2:Int)==(1:Int))=odW x:=by
 refine ⟨hp,by omega, ?_⟩
 unfold odW
 rw [PC,beq_iff_eq,Pb];omega
theorem Mj:D7.Ok Try.prog tD:=pF og (Δ:=[zm]) ⟨Mh,trivial⟩ (Ω:=[]) trivial D7 Bx dZ (fun _=>[]) (fun _=>trivial) 0 (fun x=>(fun (x:Int)=>(fun _=>none)) x.1) fun x hp=>Eq.mp (by kernel_rfl) (Mi x.1 hp)
def pG (w:Int) (p:Int) (o:Int):Prop:=dR w p o
def D8:dr Tc Tc.dn:=⟨12,[.ty .cW],fun x=>(fun (w:Int)=>0<=w/\w<65536) x.1,[.eM],fun x=>(fun (w:Int)=>synI w) x.1⟩
theorem Ml (w:Int) (hp:0<=w/\w<65536):pG w (1:Int) (0:Int)/\∀(x ee:Int),pG w x ee->(x<(13:Int)->(0:Int)<=x/\(bits BinOp.and IntKind.u16 (w.fdiv ((2:Int)^min x.toNat IntKind.u16.bits)) (1:Int)=(1:Int)->((0:Int)<=ee/\(0:Int)<=x/\bJ ee/\bJ x)/\bJ (x+(1:Int))/\pG w (x+(1:Int)) (↑(ee.toNat^^^x.toNat):Int)/\((13:Int) - (x+(1:Int))).toNat<((13:Int) - x).toNat)/\(¬bits BinOp.and IntKind.u16 (w.fdiv ((2:Int)^min x.toNat IntKind.u16.bits)) (1:Int)=(1:Int)->bJ (x+(1:Int))/\pG w (x+(1:Int)) ee/\((13:Int) - (x+(1:Int))).toNat<((13:Int) - x).toNat))/\((13:Int)<=x->ee=synI w):=by
 have h1:= @dR.start w hp
 have h2:= @dR.yes w
 have h3:= @dR.no w
 have h4:= @dR.fin w
 have h5:= @dR.bd w
 have h6:= @dR.lo w
 have h7:= @dR.hi w
 (repeat' (first|apply And.intro|intro _))<;>first|assumption|trivial|omega|(grind [pG,bJ])|trace_state
theorem Mm:D8.Ok Try.prog tD:=pF og (Δ:=[]) trivial (Ω:=[]) trivial D8 Bv tg (fun _=>[]) (fun _=>trivial) 0 (fun x=>(fun (w:Int)=>(fun k=>bif Nat.beq k 0 then some (.inv [.sl 3 .eM, .sl 2 .eM] (fun zo zv=>(fun (p:Int) (o:Int)=>pG w p o) zv.1 zv.2.1) (fun zo zv=>(fun (p:Int) (o:Int)=>(13 - p).toNat) zv.1 zv.2.1)) else none)) x.1) fun x hp=>Eq.mp (by kernel_rfl) (Ml x.1 hp)
end Go.Proofs.Ytimomnfobfjggaa
