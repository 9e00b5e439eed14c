/- What functions answer (contracts). No condition. -/
import Derived.Test.YtimomnfobfjggaaPSxM
import Derived.Test.YtimomnfobfjggaaPAvRng
import Derived.Test.YtimomnfobfjggaaPSxX
import Derived.Laws.BitsAllLaws
set_option linter.unusedSectionVars false
set_option linter.unusedSimpArgs false
set_option linter.unusedVariables false
set_option maxHeartbeats 4000000
set_option maxRecDepth 100000
namespace Go.Proofs.Ytimomnfobfjggaa
variable {F:cQ} {E:Env} {Q Q':Exit->Go.Act->World->Prop} {f:FuncId} {a:Go.Act} {K:Go.Act->World->Prop} {x:Int} {ps:List (List az)} {n k0 i base q:Nat} {g:Nat->Option Bk} {J:Nat->Prop} {N N':aC} {P:Program} {s s':S3} {α:Type} {w:World}
open Go.RowKit
abbrev Ql:=@List.getElem?_zip_eq_some
section
variable {F:Go.Fence} {m:Nat} {P:Program} {ops:Array Oper}
theorem wpIn_exit (hq:∀e a w,e≠ .normal->Q e a w->Q' e a w) {o:Oper} (h:o.wpIn F m P a w K Q):o.wpIn F m P a w K Q':=by
 unfold Oper.wpIn at*
 refine ⟨h.1, ?_⟩
 have hh:=h.2
 generalize (o.semAt F.round a.eval).run P w=r at*
 cases r with
 |ok x w'=>
  cases x<;>simp only [Oper.uponIn] at hh ⊢ <;>
   first
    |exact hh
    |exact ⟨hh.1,CallsIn.mono hh.2 (fun e uM he=>by cases e<;>first|exact he|exact hq _ _ _ (by simp) he|(obtain ⟨a1,w1,h1⟩:=he;exact ⟨a1,w1,hq _ _ _ (by simp) h1⟩))⟩
    |exact ⟨hh.1,RoundIn.mono hh.2 (fun e uM he=>by cases e<;>first|exact he|exact hq _ _ _ (by simp) he|(obtain ⟨a1,w1,h1⟩:=he;exact ⟨a1,w1,hq _ _ _ (by simp) h1⟩))⟩
 |halt x w'=>cases x<;>simp only [Oper.uponIn] at hh ⊢ <;>first|exact hh|exact hq _ _ _ (by simp) hh
theorem Lv (hq:∀e a w,e≠ .normal->Q e a w->Q' e a w) (h:wpOpIn F m P ops Q i K a w):wpOpIn F m P ops Q' i K a w:=by
 unfold wpOpIn at*
 split
 ·rename_i ho;simpa [ho] using h
 ·rename_i o ho
  simp only [ho] at h
  split
  ·rename_i hw;simp only [hw,Oo] at h;exact wpIn_exit hq h
  ·rename_i hw;simp only [hw] at h;exact h
theorem Dv {Q Q':Exit->Go.Act->World->Prop} (hq:∀e a w,e≠ .normal->Q e a w->Q' e a w) {l2:List Nat} (hn:∀a w,Q .normal a w->wpOpsIn F m P ops Q' l2 a w):∀{l1:List Nat} {a:Go.Act} {w:World},wpOpsIn F m P ops Q l1 a w->wpOpsIn F m P ops Q' (l1++l2) a w
 |[],a,w,h=>hn a w h
 |i::l1,a,w,h=>by
  rw [wpOpsIn_cons] at h
  rw [PJ,wpOpsIn_cons]
  exact Lv hq (wpOpIn_mono (fun a w h=>Dv hq hn h) h)
inductive pE (P:Program) (n k0:Nat):List (List az)->S3->S3->Prop
 |nil {s:S3}:pE P n k0 [] s s
 |cons {p:List az} {ps:List (List az)} {s t u s':S3} (hw:s.Le k0 n t) (h:gx P n k0 p t.σ t.g t.k u.σ u.g u.k) (r:pE P n k0 ps u s'):pE P n k0 (p::ps) s s'
theorem Lw {rd:Option Nat} {E0:Env} (nh:∀id,E0.kn id->id<k0) {w0:World} (h:pE P n k0 ps s s'):
  ∀(i:Nat) (a:Go.Act) (w:World),(∀j,j<ps.flatten.length->∃op,ops[i+j]? =some op/\∃o,ps.flatten[j]? =some o/\fp P ops op=some o)->eG E0 J base w0 n s.σ s.g s.k a w->(∀a w,eG E0 J base w0 n s'.σ s'.g s'.k a w->Q .normal a w)->wpOpsIn (cz rd) 0 P ops Q (List.range' i ps.flatten.length) a w:=by
 induction h with
 |nil=>intro i a w _ hr hQ;exact hQ a w hr
 | @cons p ps s t u s' hw h r ih=>
  intro i a w dL hrel hQ
  rw [List.flatten_cons,Pz, <-List.range'_append_1]
  rw [List.flatten_cons,Pz] at dL
  refine Dv (Q:=fun e a w=>match e with| .normal=>wpOpsIn (cz rd) 0 P ops Q (List.range' (i+p.length) ps.flatten.length) a w|e=>Q e a w) (fun e a w he hh=>by cases e<;>first|exact hh|exact absurd rfl he) (fun a w hh=>hh) ?_
  refine AA nh h i a w (fun j hj=> ?_) (hw E0 J base w0 a w nh hrel) fun a w hr=> ?_
  ·obtain ⟨op,q1,o,q2,q3⟩:=dL j (by omega)
   exact ⟨op,q1,o,by rwa [Pg hj] at q2,q3⟩
  ·refine ih (i+p.length) a w (fun j hj=> ?_) hr hQ
   obtain ⟨op,q1,o,q2,q3⟩:=dL (p.length+j) (by omega)
   exact ⟨op,by rw [Nat.add_assoc];exact q1,o,by rwa [Px (by omega),Nat.add_sub_cancel_left] at q2,q3⟩
theorem ED.Lx (h:pE P n k0 ps s s'):ED P n k0 (.bH ps.flatten none) s .normal s':=by
 intro rd c E0 J base w0 a w b9 hc hk hr
 obtain ⟨id,ops,draw,rfl,h1,h2⟩:=sJ hc
 rcases h2 with ⟨rfl,_⟩|⟨_,d,hd,_⟩
 ·obtain ⟨k1,k2⟩:=qv h1
  refine wpIn_region ?_
  have hsz:ops.size=ps.flatten.length:=by rw [<-k1];simp
  rw [List.range_eq_range',hsz]
  refine Lw (ops:=ops) hk h 0 a w (fun j hj=> ?_) hr fun a' w' hr'=>⟨.normal,s',⟨rfl,rfl⟩,rfl,hr'⟩
  have hjs:j<ops.size:=by omega
  obtain ⟨o,m1,m2⟩:=k2 j ops[j] (by simp [hjs])
  exact ⟨ops[j],by rw [OF];exact OE hjs,o,m1,m2⟩
 ·simp at hd
end
section
variable {τ:Type} {dn:τ->Type} [DecidableEq τ]
inductive LA (τ:Type) (dn:τ->Type) where
 |inv (vs:List (VK τ)) (I:VT dn vs->VT dn vs->Prop) (m:VT dn vs->VT dn vs->Nat)
 |Ly (m:Nat)
 |iK (ss:List Nat)
 |Dw (i:Nat)
 |cut (vs:List (VK τ)) (I:VT dn vs->VT dn vs->Prop)
 |eq (i:Nat) (z:Int)
 |ph (i:Nat)
 |Dx (f:Nat)
def yO (an:Nat->Option (LA τ dn)) (os:List az):List Nat:=os.flatMap fun o=>match o.dst with
 |some d=>match an (1000+d) with
  |some (.iK ss)=>ss
  |_=>[]
 |none=>[]
def Dy (an:Nat->Option (LA τ dn)) (os:List az):Bool:=(yO an os).all fun i=>Nat.blt i 5000
def Lz (an:Nat->Option (LA τ dn)) (os:List az):Option Nat:=match os with
 |o::_=>match o.dst with
  |some d=>match an (3000+d) with
   |some (.Dw i)=>some i
   |_=>none
  |none=>none
 |[]=>none
def cutB (an:Nat->Option (LA τ dn)) (o:az):Bool:=match o.dst with
 |some d=>(match an (11000+d) with|some (.Dx _)=>true|_=>false)||(match an (9000+d) with|some (.ph _)=>true|_=>false)||(match an (7000+d) with|some (.eq _ _)=>true|_=>false)||(match an (5000+d) with|some (.cut _ _)=>true|_=>false)||(match an (1000+d) with|some (.iK _)=>true|_=>false)||(match an (3000+d) with|some (.Dw _)=>true|_=>false)
 |none=>false
def pieces (an:Nat->Option (LA τ dn)):List az->List (List az)
 |[]=>[]
 |o::os=>match pieces an os with
  |[]=>[[o]]
  |[]::ps=>[o]::ps
  |(p::q)::ps=>bif cutB an p then [o]::(p::q)::ps else (o::p::q)::ps
omit [DecidableEq τ] in
theorem Dz (an:Nat->Option (LA τ dn)):∀os:List az,(pieces an os).flatten=os
 |[]=>rfl
 |o::os=>by
  have ih:=Dz an os
  unfold pieces
  split
  ·rename_i h;rw [h] at ih;simp at ih;simp [ih]
  ·rename_i h;rw [h] at ih;simp at ih;simp [ih]
  ·rename_i h
   rw [h] at ih
   cases hb:cutB an _ with
   |true=>rw [Oq,List.flatten_cons,ih];rfl
   |false=>rw [OH,List.flatten_cons,PJ, <-List.flatten_cons,ih]
def DA (an:Nat->Option (LA τ dn)) (os:List az):Option ((vs:List (VK τ))×(VT dn vs->VT dn vs->Prop)):=match os with
 |o::_=>match o.dst with
  |some d=>match an (5000+d) with
   |some (.cut vs I)=>some ⟨vs,I⟩
   |_=>none
  |none=>none
 |[]=>none
def DB (an:Nat->Option (LA τ dn)) (os:List az):Option (Nat×Int):=match os with
 |o::_=>match o.dst with
  |some d=>match an (7000+d) with
   |some (.eq i z)=>some (i,z)
   |_=>none
  |none=>none
 |[]=>none
def uO (o:Option (Nat×Int)) (st:SS τ dn) (K:SS τ dn->Prop):Prop:=match o with
 |none=>K st
 |some (i,z)=>match st.gt i with
  |some (.vi x)=>x=z/\K (st.ga i (.vn z))
  |_=>K st
omit [DecidableEq τ] in
theorem DC {D:TD τ dn} {o:Option (Nat×Int)} {st:SS τ dn} {K:SS τ dn->Prop} (R:Rel D N st s) (h:uO o st K):∃aw,Rel D N aw s/\aw.rt=st.rt/\aw.rm=st.rm/\aw.nx=st.nx/\K aw:=by
 unfold uO at h
 split at h
 ·exact ⟨st,R,rfl,rfl,rfl,h⟩
 ·rename_i i z
  split at h
  ·rename_i x hx
   obtain ⟨hz,h⟩:=h
   refine ⟨st.ga i (.vn z),⟨fun N' hN=> ?_,R.inj,R.lt,R.ml,R.rl,R.sp⟩,rfl,rfl,rfl,h⟩
   have A:=R.at_ N' hN
   refine ⟨fun j v hv=> ?_,A.rs,A.bl,A.rb,A.ar⟩
   simp only [SS.ga,ba] at hv
   split at hv
   ·rename_i e
    simp only [Oj] at hv
    subst hv;subst e
    rw [A.gt hx]
    simp only [SV.av,hz]
   ·exact A.sl j v hv
  ·exact ⟨st,R,rfl,rfl,rfl,h⟩
def LC (an:Nat->Option (LA τ dn)) (os:List az) (st:SS τ dn):List Nat:=match os with
 |o::_=>match o.dst with
  |some d=>match an (9000+d) with
   |some (.ph i)=>match st.gt i with
    |some (.own nm _)=>match st.gm nm with
     |some (.bc _ els)=>els.flatMap fun cs=>cs.filterMap yg
     |_=>[]
    |_=>[]
   |_=>[]
  |none=>[]
 |[]=>[]
def rV (an:Nat->Option (LA τ dn)) (os:List az):Option Nat:=match os with
 |o::_=>match o.dst with
  |some d=>match an (11000+d) with
   |some (.Dx f)=>some f
   |_=>none
  |none=>none
 |[]=>none
def b5.wo (C:b5 τ dn) (o:Option Nat):b5 τ dn:=⟨C.P,C.D,(match o with
 |none=>C.Δ
 |some f=>C.Δ.filter fun c=> !Nat.beq c.f f),C.Ω,C.fl,C.J,o.isSome⟩
omit [DecidableEq τ] in
theorem b5.Ok.wo {C:b5 τ dn} (h:C.Ok) (o:Option Nat):(C.wo o).Ok:=by
 refine ⟨h.ok,fun c hc=> ?_,h.CI,h.inl⟩
 cases o with
 |none=>exact h.uk c hc
 |some f=>exact h.uk c (List.mem_filter.1 hc).1
def isBl:VK τ->Bool
 | .bl _ _=>true
 |_=>false
def uP (D:TD τ dn) (c:Option ((vs:List (VK τ))×(VT dn vs->VT dn vs->Prop))) (st:SS τ dn) (K:SS τ dn->Prop):Prop:=match c with
 |none=>K st
 |some ⟨vs,I⟩=>match lR D st vs with
  |some x0=>bif vs.all isBl&&okT (lessB st.nx) vs (vs.map (nmV st)) then I x0 x0/\uz vs fun x=>I x0 x->K ⟨st.rt,st.rm,st.t,putM D vs (vs.map (nmV st)) x++st.m,st.nx⟩ else False
  |none=>False
theorem DD {D:TD τ dn} (ok:aZ D) {c:Option ((vs:List (VK τ))×(VT dn vs->VT dn vs->Prop))} {st:SS τ dn} {K:SS τ dn->Prop} (R:Rel D N st s) (h:uP D c st K):∃aw,Rel D N aw s/\aw.rt=st.rt/\aw.rm=st.rm/\aw.nx=st.nx/\K aw:=by
 unfold uP at h
 split at h
 ·exact ⟨st,R,rfl,rfl,rfl,h⟩
 ·rename_i vs I
  split at h
  case h_2=>exact h.elim
  rename_i x0 hx
  cases hb:(vs.all isBl&&okT (lessB st.nx) vs (vs.map (nmV st))) with
  |false=>rw [hb] at h;exact h.elim
  |true=>
  rw [hb,Oq] at h
  rw [On] at hb
  obtain ⟨bm,hT⟩:=hb
  have hk:=(uA.1 h.2) x0 h.1
  have kG:(vs.map (nmV st)).length=vs.length:=OL ..
  have DE:∀nm B,getS (putM D vs (vs.map (nmV st)) x0++st.m) nm=some (some B)->(nm,some B)∈putM D vs (vs.map (nmV st)) x0\/getS st.m nm=some (some B):=fun nm B hB=>by
   rw [gf] at hB
   cases hq:getS (putM D vs (vs.map (nmV st)) x0) nm with
   |some w=>rw [hq] at hB;simp only [P0,Oj] at hB;subst hB;exact .inl (ji hq)
   |none=>rw [hq] at hB;simp only [PL] at hB;exact .inr hB
  have old:∀nm B,(nm,some B)∈putM D vs (vs.map (nmV st)) x0->(∃B',st.bz nm B')/\∀t A,B≠ .ar t A:=fun nm B hB=>by
   rcases uD hx kG nm B hB with ⟨j,v,p1,p2,p3,⟨B',p4⟩,p5⟩|⟨_,⟨B',p4⟩,p5⟩
   case inr=>exact ⟨⟨B',gI p4⟩,p5⟩
   rw [OM,p1] at p2
   simp only [Oz,Oj] at p2
   refine ⟨⟨B',by rw [<-p2];exact gI p4⟩,fun t A e=> ?_⟩
   have:=Ot.1 bm v (OT p1)
   rw [(p5 t A e).1] at this
   simp [isBl] at this
  have cN:∀nm B,(⟨st.rt,st.rm,st.t,putM D vs (vs.map (nmV st)) x0++st.m,st.nx⟩:SS τ dn).bz nm B->(∃B',st.bz nm B')/\∀t A,B= .ar t A->st.bz nm (.ar t A):=fun nm B hB=>by
   rcases hB with hB|hB
   ·rcases DE nm B hB with h1|h1
    ·obtain ⟨q1,q2⟩:=old nm B h1
     exact ⟨q1,fun t A e=>absurd e (q2 t A)⟩
    ·exact ⟨⟨B, .inl h1⟩,fun t A e=>by subst e;exact .inl h1⟩
   ·exact ⟨⟨B, .inr hB⟩,fun t A e=>by subst e;exact .inr hB⟩
  refine ⟨⟨st.rt,st.rm,st.t,putM D vs (vs.map (nmV st)) x0++st.m,st.nx⟩,⟨fun N' hN=> ?_,R.inj,R.lt,fun nm B hB=> ?_,R.rl,fun t A hA id hid=> ?_⟩,rfl,rfl,rfl,hk⟩
  ·have A:=R.at_ N' hN
   refine ⟨A.sl,A.rs,fun nm B hB=> ?_,A.rb,fun t A' hA id hid=>A.ar t A' ((cN 0 _ hA).2 t A' rfl) id hid⟩
   rcases DE nm B hB with h1|h1
   ·obtain ⟨B',e,q⟩:=kE ok (uC ok A hx) nm (some B) h1
    simp only [Oj] at e;subst e
    exact q
   ·exact A.bl nm B h1
  ·show nm<st.nx
   have aN:getS (putM D vs (vs.map (nmV st)) x0++st.m) nm=some B:=hB
   rw [gf] at aN
   cases hq:getS (putM D vs (vs.map (nmV st)) x0) nm with
   |some w=>exact rP (oc hT nm w (ji hq))
   |none=>rw [hq] at aN;simp only [PL] at aN;exact R.ml nm B aN
  ·have h1:=(cN 0 _ hA).2 t A rfl
   obtain ⟨q1,q2⟩:=R.sp t A h1 id hid
   refine ⟨q1,fun nm B hB=> ?_⟩
   obtain ⟨⟨B',aN⟩,_⟩:=cN nm B hB
   exact q2 nm B' aN
def AC.nl:AC->Nat
 | .seq a b=>a.nl+b.nl
 | .cond _ a b=>a.nl+b.nl
 | .block _ a=>a.nl
 | .loop a=>a.nl+1
 |_=>0
def AC.jj:AC->List Nat
 | .seq a b=>a.jj++b.jj
 | .cond _ a b=>a.jj++b.jj
 | .block _ a=>a.jj
 | .loop a=>a.jj
 | .bH os _=>os.filterMap az.dst
 |_=>[]
def jU (D:TD τ dn) (st:SS τ dn):VK τ->SS τ dn
 | .ow i t=>match st.gt i with
  |some .emp=>bif Nat.blt 0 (D.sz t)&&(getS st.rt i).isNone then ⟨st.rt,st.rm,(i, .own st.nx (D.sz t))::st.t,(st.nx,some (.bl t []))::st.m,st.nx+1⟩ else st
  |_=>st
 | .so q f t _| .sg q f t _ _=>match st.gm q with
  |some (.bc Q [vs])=>match vs[f]? with
   |some .emp=>bif Nat.blt 0 (D.sz t)&&(Nat.blt 0 Q&&st.rw q) then ⟨st.rt,st.rm,st.t,(q,some (.bc Q [vs.set f (.own st.nx (D.sz t))]))::(st.nx,some (.bl t []))::st.m,st.nx+1⟩ else st
   |_=>st
  |_=>st
 |_=>st
def pF (D:TD τ dn):SS τ dn->List (VK τ)->SS τ dn
 |st,[]=>st
 |st,v::r=>pF D (jU D st v) r
def yP (B:SS τ dn->(Ex->SS τ dn->Prop)->Prop):Nat->SS τ dn->(Ex->SS τ dn->Prop)->Prop
 |0,_,_=>False
 |m+1,st,K=>B st fun e aw=>match e with
  | .normal=>yP B m aw K
  |e=>K e aw
def okB (vs:List (VK τ)) (T:List Nat) (st:SS τ dn) (p:Nat->Bool) (ft:List (Nat×SV τ dn)) (fm:List (Nat×Option (SB τ dn))):Bool:=
 (st.rt.all fun q=>q.2.fr p&& !hasN (ek vs) q.1&&(getS ft q.1).isNone)&&(st.rm.all fun q=>p q.1&&(match q.2 with|some B=>B.fr p|none=>true)&&(getS fm q.1).isNone)&&
 okT (lessB st.nx) vs T&&okT (fun a=> !hasN (movesV vs T) a) (vs.filter fun v=> !mM v) ((vs.zip T).filterMap fun q=>bif mM q.1 then none else some q.2)&&rO (movesV vs T)
def nextB (vs:List (VK τ)) (T A:List Nat) (nx nx':Nat):Bool:=
 rO ((List.range nx).map (dE vs T A))&&((List.range nx).all fun a=>lessB nx' (dE vs T A a))&&((vs.zip (T.zip A)).all fun q=>eM q.1||(Nat.beq (dE vs T A q.2.1) q.2.2&&(mM q.1||Nat.beq q.2.1 q.2.2)))&&(ic vs).all fun a=>Nat.beq (dE vs T A a) a
def keepP (vs:List (VK τ)) (T:List Nat) (nx:Nat) (a:Nat):Bool:=lessB nx a&& !hasN (movesV vs T) a
def DF (D:TD τ dn) (fl:Nat) (vs:List (VK τ)) (I:VT dn vs->Prop) (ms:VT dn vs->Nat) (B:SS τ dn->(Ex->SS τ dn->Prop)->Prop) (st:SS τ dn) (K:Ex->SS τ dn->Prop) (T:List Nat) (x0:VT dn vs) (ft:List (Nat×SV τ dn)) (fm:List (Nat×Option (SB τ dn))):Prop:=
 bif okB vs T st (keepP vs T st.nx) ft fm&&(movesV vs T).all (Nat.ble fl) then I x0/\uz vs fun x=>I x->B ⟨ft++st.rt,fm++st.rm,bP D vs T x,putM D vs T x,st.nx⟩ fun e aw=>match e with
  | .normal=>match lR D aw vs with
   |some x'=>bif nextB vs T (vs.map (nmV aw)) st.nx aw.nx then I x'/\ms x'<ms x else False
   |none=>False
  |e=>K e ⟨st.rt,st.rm,aw.t++ft,aw.m++fm,aw.nx⟩
 else False
def yQ (D:TD τ dn) (fl:Nat) (vs:List (VK τ)) (I:VT dn vs->VT dn vs->Prop) (ms:VT dn vs->VT dn vs->Nat) (jj:List Nat) (B:SS τ dn->(Ex->SS τ dn->Prop)->Prop) (st:SS τ dn) (K:Ex->SS τ dn->Prop):Prop:=
 match lR D st vs with
 |none=>False
 |some x0=>DF D fl vs (I x0) (ms x0) B st K (vs.map (nmV st)) x0 (lQ (keepP vs (vs.map (nmV st)) st.nx) (ek vs++jj) st.t) (kD (keepP vs (vs.map (nmV st)) st.nx) (oa vs (vs.map (nmV st))) st.m)
def DG (C:b5 τ dn) (n:Nat) (c:Cn) (a b:AC) (st:SS τ dn):Option (List Prop×SS τ dn):=
 match a,b with
 | .skip, .bH os none=>uL C n c true os st
 | .bH os none, .skip=>uL C n c false os st
 |_,_=>none
def uQ (C:b5 τ dn) (n:Nat) (an:Nat->Option (LA τ dn)):List (List az)->SS τ dn->(SS τ dn->Prop)->Prop
 |[],st,K=>K st
 |p::ps,st,K=>pB C.D (Dy an (p.take 1)) (st.uH (yO an (p.take 1))) st fun st=>yp (Lz an p) st fun st=>uP C.D (DA an p) st fun st=>uO (DB an p) st fun st=>kB C.D (LC an p st) st fun st=>wpOps (C.wo (rV an p)) n none true p [] st fun st=>uQ C n an ps st K
def eN (C:b5 τ dn) (n:Nat) (an:Nat->Option (LA τ dn)):AC->Nat->SS τ dn->(Ex->SS τ dn->Prop)->Prop
 | .skip,_,st,K=>K .normal st
 | .ret,_,st,K=>K .ret st
 | .exit i,_,st,K=>K (.exit i) st
 | .seq a b,k,st,K=>eN C n an a k st fun e aw=>match e with
  | .normal=>eN C n an b (k+a.nl) aw K
  |e=>K e aw
 | .cond c a b,k,st,K=>match st.ev c with
  |some (.vt true)=>eN C n an a k st K
  |some (.vt false)=>eN C n an b (k+a.nl) st K
  |some (.vb c)=>match DG C n c a b st with
   |some (O,aw)=>fC O (K .normal aw)
   |none=>(c.tf true->eN C n an a k st K)/\(c.tf false->eN C n an b (k+a.nl) st K)
  |_=>False
 | .block i a,k,st,K=>eN C n an a k st fun e aw=>K (e.kx i) aw
 | .loop a,k,st,K=>match an k with
  |some (.Ly m)=>yP (eN C n an a (k+1)) m st K
  |some (.inv vs I ms)=>yQ C.D C.fl vs I ms a.jj (eN C n an a (k+1)) (pF C.D st vs) K
  |_=>False
 | .bH os none,_,st,K=>uQ C n an (pieces an os) st (K .normal)
 | .bH os (some dep),_,st,K=>pB C.D (Dy an os) (st.uH (yO an os)) st fun st=>uP C.D (DA an os) st fun st=>uO (DB an os) st fun st=>wpOps (C.wo (rV an os)) n (some dep) (KU (C.wo (rV an os)) (some dep) os) os [] st (K .normal)
 | .gD _ _ _ _,_,_,_=>False
def Ends (C:b5 τ dn) (n k0:Nat) (ac:AC) (N:aC) (st:SS τ dn) (s:S3) (K:Ex->SS τ dn->Prop):Prop:=
 ∃e s' N' aw,ED C.P n k0 ac s e s'/\Rel C.D N' aw s'/\aw.rt=st.rt/\aw.rm=st.rm/\(N.agree C.fl N'/\C.fl<=aw.nx)/\K e aw
theorem uR {m:Nat} (h:N.agree m N') (hn:n<=m):N.agree n N':=⟨fun a ha=>h.1 a (ON ha hn),h.2⟩
end
section
theorem aE.LD (hm:aE E J base g) {B B':Bk} (hB:g q=some B) (hz:B.sz≠0) (hsz:B'.sz=B.sz) (hl:B.els.length=B'.els.length) (hc:∀(i:Nat) cs ds,B.els[i]? =some cs->B'.els[i]? =some ds->cs.length=ds.length/\∀(j:Nat) c d,cs[j]? =some c->ds[j]? =some d->∀v,aj E v c->aj E v d):aE E J base (aA g [(q,some B')]):=by
 have old:∀{id X},aA g [(q,some B')] id=some X->(id=q/\X=B')\/(id≠q/\g id=some X):=fun {id X} h=>by
  simp only [aA] at h
  by_cases e:id=q
  ·rw [Om e] at h;simp only [Oj] at h;exact .inl ⟨e,h.symm⟩
  ·rw [Ol e] at h;exact .inr ⟨e,h⟩
 have uS:∀{id X},aA g [(q,some B')] id=some X->∃Y,g id=some Y:=fun h=>by
  rcases old h with ⟨rfl,_⟩|⟨_,h⟩
  ·exact ⟨_,hB⟩
  ·exact ⟨_,h⟩
 refine ⟨fun id=> ?_,fun id X hg=> ?_,fun id b7 b B1 B2 h1 h2 h3 h4=> ?_,fun id b X hg hb=> ?_,hm.low,hm.size,fun id X hg cG=> ?_,hm.fc,fun b hb=>⟨(hm.xo b hb).1,(hm.xo b hb).2.1,fun k B1 hk he=>(uS hk).elim fun B2 h2=>(hm.xo b hb).2.2 k B2 h2 he⟩⟩
 ·rw [hm.live id]
  simp only [aA]
  by_cases e:id=q
  ·subst e;rw [Om rfl,hB];exact ⟨fun _=>⟨_,rfl⟩,fun _=>⟨_,rfl⟩⟩
  ·rw [Ol e]
 ·rcases old hg with ⟨rfl,rfl⟩|⟨_,h⟩
  ·have h0:=hm.at_ id B hB
   cases hloc:E.loc id with
   |none=>
    rw [hloc] at h0
    have mf:B.els=[]:=h0
    show X.els=[]
    rw [mf] at hl
    exact Py (by simpa using hl.symm)
   |some b=>
    rw [hloc] at h0
    obtain ⟨h1,⟨hz0,arr,t,h2,h3,h4⟩|⟨hz0,_⟩⟩:=h0
    ·refine .iL ⟨h1,arr,t,h2,by rw [<-hl,hsz];exact h3,fun i ds hi=> ?_⟩ (by rw [hsz];exact hz0)
     have cy:i<B.els.length:=by rw [hl];exact (Ov.1 hi).1
     have hcs:=OG cy
     obtain ⟨e1,e2⟩:=hc i _ ds hcs hi
     refine ⟨by rw [<-e1,hsz];exact (h4 i _ hcs).1,fun j d hj=> ?_⟩
     have bk:j<B.els[i].length:=by rw [e1];exact (Ov.1 hj).1
     obtain ⟨u,u1,u2,u3⟩:=(h4 i _ hcs).2 j _ (OG bk)
     exact ⟨u,by rw [hsz];exact u1,u2,e2 j _ d (OG bk) hj u u3⟩
    ·exact absurd hz0 hz
  ·exact hm.at_ id X h
 ·obtain ⟨Y1,y1⟩:=uS h1
  obtain ⟨Y2,y2⟩:=uS h2
  exact hm.apart id b7 b Y1 Y2 y1 y2 h3 h4
 ·obtain ⟨Y,y⟩:=uS hg
  exact hm.out id b Y y hb
 ·rcases old hg with ⟨rfl,rfl⟩|⟨_,h⟩
  ·rw [<-hl];exact hm.len id B hB hz
  ·exact hm.len id X h cG
theorem S3.LF {Q sz f:Nat} {cs:List AV} (hq:s.g q=some ⟨Q,[cs]⟩) (hk:q<s.k) (hf:cs[f]? =some .emp) (hQ:Q≠0) (hz:sz≠0):s.Le k0 n ⟨s.σ,aA (aA s.g [(s.k,some ⟨sz,[]⟩)]) [(q,some ⟨Q,[cs.set f (.own s.k sz 0 0)]⟩)],s.k+1⟩:=by
 intro E0 J base w0 a w nh hr
 obtain ⟨E,rfl,hle,hs,hm,aY,hmk⟩:=hr.ex
 obtain ⟨E',hw,hE,hM,k1,k2,k3,k4,k5⟩:=hm.sw (fresh:=s.k) (fun hh=>PA _ (aY _ hh)) sz
 have ir:aA s.g [(s.k,some ⟨sz,[]⟩)] q=some ⟨Q,[cs]⟩:=by simp only [aA];rw [Ol (by omega)];exact hq
 have jG:f<cs.length:=(Ov.1 hf).1
 have ko:=hM.LD (B':=⟨Q,[cs.set f (.own s.k sz 0 0)]⟩) ir hQ rfl rfl (fun i c1 d1 h1 h2=>by
  cases i with
  |succ i=>simp at h1
  |zero=>
   simp only [OV,Oj] at h1 h2
   subst h1;subst h2
   refine ⟨by simp,fun j c d hc hd v hv=> ?_⟩
   rw [List.getElem?_set] at hd
   by_cases e:f=j
   ·subst e
    rw [Om rfl,Om jG,Oj] at hd
    subst hd
    rw [hf,Oj] at hc
    subst hc
    obtain ⟨A,hA⟩:=qG hv
    rw [hA]
    exact .bQ k1 k2 k3 k5 hz
   ·rw [Ol e,hc,Oj] at hd
    subst hd;exact hv)
 refine ⟨⟨E',hw,hle.trans hE,fun j=>(hs j).step hE,ko,fun id hid=> ?_,hmk.step hE⟩,hr.size,hr.below,hr.gl⟩
 show id<s.k+1
 rcases k4 id hid with h|h
 ·have:=aY id h;omega
 ·omega
end
section
variable {τ:Type} {dn:τ->Type}
theorem DH {D:TD τ dn} {n k0:Nat}:∀{vs:List (VK τ)} {N:aC} {st:SS τ dn} {s:S3},Rel D N st s->∃s' N',s.Le k0 n s'/\Rel D N' (pF D st vs) s'/\(pF D st vs).rt=st.rt/\(pF D st vs).rm=st.rm/\N.agree st.nx N'/\st.nx<=(pF D st vs).nx
 |[],N,st,s,R=>⟨s,N,S3.Le.mK,R,rfl,rfl,N.dR _,Ox _⟩
 |v::r,N,st,s,R=>by
  have one:∃s' N',s.Le k0 n s'/\Rel D N' (jU D st v) s'/\(jU D st v).rt=st.rt/\(jU D st v).rm=st.rm/\N.agree st.nx N'/\st.nx<=(jU D st v).nx:=by
   have no:∃s' N',s.Le k0 n s'/\Rel D N' st s'/\st.rt=st.rt/\st.rm=st.rm/\N.agree st.nx N'/\st.nx<=st.nx:=⟨s,N,S3.Le.mK,R,rfl,rfl,N.dR _,Ox _⟩
   have DI:∀(q f:Nat) (t:τ) (cs:List (Nat×Nat)),∃s' N',s.Le k0 n s'/\Rel D N' (jU D st (.so q f t cs)) s'/\(jU D st (.so q f t cs)).rt=st.rt/\(jU D st (.so q f t cs)).rm=st.rm/\N.agree st.nx N'/\st.nx<=(jU D st (.so q f t cs)).nx:=by
    intro q f t cs
    simp only [jU]
    split
    ·rename_i Q vs hB
     split
     ·rename_i hf
      cases hb:(Nat.blt 0 (D.sz t)&&(Nat.blt 0 Q&&st.rw q)) with
      |false=>rw [OH];exact no
      |true=>
       rw [Oq]
       rw [On,On] at hb
       have hz:D.sz t≠0:=Nat.ne_of_gt (O3 hb.1)
       have hQ:Q≠0:=Nat.ne_of_gt (O3 hb.2.1)
       obtain ⟨⟨B1,m1⟩,r1⟩:=jO hb.2.2
       have hB1:B1= .bc Q [vs]:=by have:=mF m1;rw [this] at hB;simpa using hB
       subst hB1
       have pG:=R.ml q _ m1
       obtain ⟨g1,g2⟩:=R.here.bl q _ m1
       have R1:=R.go (n:=0) (d:=none) (r:= .new [] (.own st.nx (D.sz t)) (.bl t [])) rfl rfl (val:= .own s.k (D.sz t) 0 0) (ups:=[(s.k,some ⟨D.sz t,[]⟩)]) (fun N' hN=>by
        simp only [SR.v,SV.av]
        have h1:=hN.1 st.nx (Pq _)
        simp only [SR.up,aC.cY,Oo] at h1
        rw [h1.1,h1.2];rfl) (fun N' hN=>rfl)
       have dK:=N.lD st.nx s.k 0
       have LH:(N.cY st.nx s.k 0).ι q=N.ι q:=(dK.1 q pG).1
       have LI:(N.cY st.nx s.k 0).ι st.nx=s.k/\(N.cY st.nx s.k 0).ln st.nx=0:=by simp [aC.cY]
       have hne:q≠st.nx:=Nat.ne_of_lt pG
       have l9:(SR.put [] (.vo undef) q (.bc Q [vs.set f (.own st.nx (D.sz t))]):SR τ dn).may D (N.cY st.nx s.k 0) ((SR.new [] (.own st.nx (D.sz t)) (.bl t []):SR τ dn).st st none):=by
        refine ⟨⟨.bc Q [vs], ?_, ?_⟩,r1,rfl⟩
        ·show getS ((st.nx,some (.bl t []))::st.m) q=_
         rw [ba,Ol hne];exact m1
        ·rw [(dK.1 q pG).2,g2];rfl
       have LJ:∀N':aC,(N.cY st.nx s.k 0).agree (st.nx+1) N'->(vs.map (SV.av D.toTE N'))=vs.map (SV.av D.toTE N):=fun N' hN=>by
        have A':=R.at_ N' (aC.eJ dK hN (Nat.le_succ _))
        have e1:=(A'.bl q _ m1).1
        rw [((aC.eJ dK hN (Nat.le_succ _)).1 q pG).1,g1] at e1
        simpa [SB.av,SV.bR,SV.bw] using e1.symm
       have R2:=R1.go (n:=0) (d:=none) (r:= .put [] (.vo undef) q (.bc Q [vs.set f (.own st.nx (D.sz t))])) rfl l9 (val:= .v undef) (ups:=[(N.ι q,some ⟨Q,[(vs.map (SV.av D.toTE N)).set f (.own s.k (D.sz t) 0 0)]⟩)]) (fun N' hN=>rfl) (fun N' hN=>by
        have yR:(N.cY st.nx s.k 0).agree (st.nx+1) N':=hN
        have h1:=yR.1 st.nx (Pq _)
        have h2:=(yR.1 q (PZ pG)).1
        simp only [SR.ups,SB.av,SV.bR,SV.bw,PK,SV.av,h1.1,h1.2,h2,LI,LH,LJ N' yR])
       refine ⟨_,N.cY st.nx s.k 0,S3.LF (q:=N.ι q) (f:=f) (cs:=vs.map (SV.av D.toTE N)) (sz:=D.sz t) (by rw [g1];simp only [SB.av,SV.bR,SV.bw]) (R.lt q pG) (by rw [OM,hf];rfl) hQ hz, ?_,rfl,rfl,dK,Nat.le_succ _⟩
       exact R2
     ·exact no
    ·exact no
   cases v with
   |ow i t=>
    simp only [jU]
    split
    ·rename_i hg
     cases hb:(Nat.blt 0 (D.sz t)&&(getS st.rt i).isNone) with
     |false=>rw [OH];exact no
     |true=>
      rw [Oq]
      rw [On] at hb
      have hz:D.sz t≠0:=Nat.ne_of_gt (O3 hb.1)
      have hσ:s.σ i= .emp:=R.here.gt hg
      refine ⟨_,N.cY st.nx s.k 0,S3.K7 hσ hz, ?_,rfl,rfl,N.lD _ _ _,Nat.le_succ _⟩
      have:=R.go (n:=i+1) (d:=some i) (r:= .new [] (.own st.nx (D.sz t)) (.bl t [])) (by simp only [dstS,On];exact ⟨Nat.ble_eq_true_of_le (Ox _),hb.2⟩) rfl (val:= .own s.k (D.sz t) 0 0) (ups:=[(s.k,some ⟨D.sz t,[]⟩)]) (fun N' hN=>by
       simp only [SR.v,SV.av]
       have h1:=hN.1 st.nx (Pq _)
       simp only [SR.up,aC.cY,Oo] at h1
       rw [h1.1,h1.2];rfl) (fun N' hN=>rfl)
      refine cast ?_ this
      congr 2
      funext j
      simp only [bE,Oj]
      by_cases hj:j=i
      ·subst hj;rw [Om ⟨rfl,Pq _⟩,Om rfl]
      ·rw [Ol (fun hh=>hj hh.1.symm),Ol hj]
    ·exact no
   |so q f t cs=>exact DI q f t cs
   |sg q f t S fx=>exact DI q f t []
   |_=>exact no
  obtain ⟨s1,N1,h1,h2,h3,h4,h5,h6⟩:=one
  obtain ⟨s2,N2,q1,q2,q3,q4,q5,q6⟩:=DH (vs:=r) h2
  exact ⟨s2,N2,h1.trans' q1,q2,q3.trans h3,q4.trans h4,aC.eJ h5 q5 h6,OS h6 q6⟩
mutual
theorem SV.og {p q:Nat->Bool} (h:∀a,p a=true->q a=true):∀(v:SV τ dn),v.fr p=true->v.fr q=true
 | .own nm sz,hv| .part nm sz _ _,hv| .ref nm sz _ _,hv| .mp nm,hv=>by simp only [SV.fr] at hv ⊢; exact h nm hv
 | .agg cs,hv| .aK cs,hv| .fn _ cs,hv| .bf _ cs,hv| .pim cs _,hv=>by simp only [SV.fr] at hv ⊢; exact SV.yS h cs hv
 | .vc _ els,hv=>by simp only [SV.fr] at hv ⊢; exact SV.uT h els hv
 | .vg p c v,hv=>by simp only [SV.fr] at hv ⊢; exact SV.og h v hv
 | .rw _ _,_| .cR _ _ _ _,_| .vl _ _,_| .vi _,_| .vn _,_| .vy _,_| .vu _,_| .vw _ _,_| .vb _,_| .vt _,_| .vz _,_| .vo _,_| .emp,_| .dead,_=>by simp only [SV.fr]
theorem SV.yS {p q:Nat->Bool} (h:∀a,p a=true->q a=true):∀(cs:List (SV τ dn)),SV.dQ p cs=true->SV.dQ q cs=true
 |[],_=>rfl
 |v::r,hv=>by simp only [SV.dQ,On] at hv ⊢; exact ⟨SV.og h v hv.1,SV.yS h r hv.2⟩
theorem SV.uT {p q:Nat->Bool} (h:∀a,p a=true->q a=true):∀(els:List (List (SV τ dn))),SV.lh p els=true->SV.lh q els=true
 |[],_=>rfl
 |v::r,hv=>by simp only [SV.lh,On] at hv ⊢; exact ⟨SV.yS h v hv.1,SV.uT h r hv.2⟩
end
theorem SB.og {p q:Nat->Bool} (h:∀a,p a=true->q a=true) (B:SB τ dn) (hB:B.fr p=true):B.fr q=true:=by
 cases B with
 |bl t xs=>rfl
 |bc sz els=>simp only [SB.fr] at hB ⊢; exact SV.uT h els hB
 |mc els=>simp only [SB.fr] at hB ⊢; exact SV.uT h els hB
 |ar t A=>rfl
def jV (D:TD τ dn) (st:SS τ dn):List ki->Option (List Prop×List (SV τ dn))
 |[]=>some ([],[])
 | .tmp i::r=>match st.gt i,jV D st r with
  |some v,some (O,l)=>some (O,v::l)
  |_,_=>none
 | .cell i m::r=>match st.gt i,jV D st r with
  |some a,some (O,l)=>match nT D st m a with
   |some (.val O' v)=>some (O'++O,v::l)
   |_=>none
  |_,_=>none
def kH (vs:List (SV τ dn)) (i:Nat):List (Nat×SV τ dn):=match vs with
 |[]=>[]
 |v::r=>(i,v)::kH r (i+1)
theorem yT {i:Nat}:∀{vs:List (SV τ dn)} {k:Nat} {v:SV τ dn},getS (kH vs k) i=some v->k<=i/\vs[i - k]? =some v
 |[],k,v,h=>by simp [kH,getS] at h
 |w::r,k,v,h=>by
  simp only [kH,ba] at h
  by_cases hi:i=k
  ·rw [Om hi,Oj] at h
   subst h;subst hi;exact ⟨Ox _,by simp⟩
  ·rw [Ol hi] at h
   obtain ⟨h1,h2⟩:=yT h
   refine ⟨by omega, ?_⟩
   rw [show i - k=(i - (k+1))+1 by omega,Pc];exact h2
theorem LL {D:TD τ dn} {st:SS τ dn} {σ:Nat->AV} (ok:aZ D) (R:bh D N st σ g) {m:Option Nat} {a:SV τ dn} (hx:st.gt i=some a) {O:List Prop} {v:SV τ dn} (h:nT D st m a=some (.val O v)) (hO:∀p,p∈O->p):(qw m (σ i)).run g=some (v.av D.toTE N):=by
 have e:=Ci ok R (x:= .s i) hx h 0 hO trivial
 have hs:aG σ (.s i)=σ i:=rfl
 simp only [AO.au,hs] at e
 unfold qw
 cases hσ:σ i<;>rw [hσ] at e<;>simp only at e ⊢
 case pim cs o=>
  cases hg:getCells cs o m with
  |none=>rw [hg] at e;simp [RM.opt,RM.run] at e
  |some w=>rw [hg] at e;simp only [Oz,RM.opt,RM.run,Oj,Out.done.injEq] at e;simp only [RM.opt,RM.run,e.1];rfl
 case ref id sz j o=>
  simp only [RM.run] at e ⊢
  cases hg:g id with
  |none=>rw [hg] at e;simp at e
  |some B=>
   rw [hg] at e
   simp only at e ⊢
   split at e
   ·rename_i hz
    rw [Om hz]
    cases hq:(B.els[j]?.bind fun cs=>getCells cs o m) with
    |none=>rw [hq] at e;simp [RM.opt,RM.run] at e
    |some w=>rw [hq] at e;simp only [Oz,RM.opt,RM.run,Oj,Out.done.injEq] at e;simp only [RM.opt,RM.run,e.1];rfl
   ·simp [RM.run] at e
 all_goals simp [RM.run] at e
theorem uU {D:TD τ dn} {N:aC} {st:SS τ dn} {σ:Nat->AV} {g:Nat->Option Bk} (ok:aZ D) (R:bh D N st σ g):∀{res:List ki} {O:List Prop} {l:List (SV τ dn)},jV D st res=some (O,l)->(∀p,p∈O->p)->(kj σ res).run g=some (l.map (SV.av D.toTE N))
 |[],O,l,h,hO=>by simp only [jV,Oj,OA] at h;obtain ⟨_,rfl⟩:=h;rfl
 | .tmp i::r,O,l,h,hO=>by
  simp only [jV] at h
  split at h
  ·rename_i v O' l' h1 h2
   simp only [Oj,OA] at h;obtain ⟨rfl,rfl⟩:=h
   simp only [kj]
   rw [dr (uU ok R h2 hO)]
   simp only [RM.run,OD,R.gt h1]
  ·simp at h
 | .cell i m::r,O,l,h,hO=>by
  simp only [jV] at h
  split at h
  ·rename_i a O' l' h1 h2
   split at h
   ·rename_i O2 v h3
    simp only [Oj,OA] at h;obtain ⟨rfl,rfl⟩:=h
    simp only [kj]
    rw [dr (LL ok R h1 h3 fun p hp=>hO p (O7 _ hp)),dr (uU ok R h2 fun p hp=>hO p (O4 _ hp))]
    rfl
   ·simp at h
  ·simp at h
theorem DJ {D:TD τ dn} {st:SS τ dn}:∀{l l':List (SV τ dn)},jQ D st l=some l'->l.length=l'.length
 |[],l',h=>by simp only [jQ,Oj] at h;subst h;rfl
 |v::r,l',h=>by
  simp only [jQ] at h
  split at h
  ·rename_i x l2 h1 h2
   simp only [Oj] at h;subst h;simp [DJ h2]
  ·simp at h
theorem LM {a a':AV} (h:(dw a).run g=some a'):(gE a).run g=some a':=by
 cases a<;>first
  |exact h
  |(simp [dw,snap1,AV.pu1,RM.run] at h)
theorem DK {D:TD τ dn} (ok:aZ D) (t:τ) (x:dn t) (h:D.pu t=true):(D.en t x).av D.toTE N=(D.en t x).av D.toTE N':=by
 have e:(D.es t x).map (SV.av D.toTE N)=(D.es t x).map (SV.av D.toTE N'):=by rw [ok.dq,ok.dq,ok.jc _ N'.ρ t x h]
 cases ha:D.ag t with
 |true=>rw [tY ha,SV.av,SV.av,SV.bw,SV.bw,e]
 |false=>
  unfold TD.en
  rw [ha,OH]
  cases hs:D.es t x with
  |nil=>rfl
  |cons v r=>rw [hs] at e;simp only [OD,P4] at e;exact e.1
theorem DL {D:TD τ dn} (ok:aZ D) {N N':aC}:∀(rs:List τ) (x:RD dn rs),rs.all D.pu=true->(iG D rs x).map (SV.av D.toTE N)=(iG D rs x).map (SV.av D.toTE N')
 |[],_,_=>rfl
 |[t],x,h=>by simp only [PW,List.all_nil,Bool.and_true] at h;simp only [iG,OD,Pa];rw [DK ok (N:=N) (N':=N') t x h]
 |t::s::r,x,h=>by
  rw [PW,On] at h
  simp only [iG,OD];rw [DK ok (N:=N) (N':=N') t x.1 h.1,DL ok (N:=N) (N':=N') (s::r) x.2 h.2]
theorem DM {f:Nat->Nat}:∀{n m:Nat},rO ((List.range' m n).map f)=true->∀a b,m<=a->a<m+n->m<=b->b<m+n->f a=f b->a=b
 |0,m,h,a,b,h1,h2,h3,h4,he=>by omega
 |n+1,m,h,a,b,h1,h2,h3,h4,he=>by
  rw [List.range'_succ,OD] at h
  simp only [rO,On,OJ] at h
  have eH:∀c,m+1<=c->c<m+1+n->f m≠f c:=fun c k1 k2 e=>by
   have:hasN ((List.range' (m+1) n).map f) (f m)=true:=lP.2 (OR.2 ⟨c,List.mem_range'_1.2 ⟨k1,k2⟩,e.symm⟩)
   rw [this] at h;simp at h
  by_cases ha:a=m<;>by_cases hb:b=m
  ·omega
  ·subst ha;exact absurd he (eH b (by omega) (by omega))
  ·subst hb;exact absurd he.symm (eH a (by omega) (by omega))
  ·exact DM h.2 a b (by omega) (by omega) (by omega) (by omega) he
theorem DN {C:b5 τ dn} {n k0:Nat} {a:AC} {B:SS τ dn->(Ex->SS τ dn->Prop)->Prop} (hB:∀{st:SS τ dn} {K:Ex->SS τ dn->Prop} {N:aC} {s:S3},Rel C.D N st s->C.fl<=st.nx->B st K->Ends C n k0 a N st s K):
  ∀(m:Nat) {st:SS τ dn} {K:Ex->SS τ dn->Prop} {N:aC} {s:S3},Rel C.D N st s->C.fl<=st.nx->yP B m st K->∃e s' j N2 aw,Ch C.P n k0 a e s' j s/\Rel C.D N2 aw s'/\aw.rt=st.rt/\aw.rm=st.rm/\(N.agree C.fl N2/\C.fl<=aw.nx)/\K e aw
 |0,st,K,N,s,R,hl,h=>h.elim
 |m+1,st,K,N,s,R,hl,h=>by
  obtain ⟨e,s1,N1,st1,e1,R1,r1,r2,r3,hk⟩:=hB R hl h
  cases e with
  |normal=>
   obtain ⟨e,s2,j,N2,aW,c1,c2,c3,c4,c5,c6⟩:=DN hB m R1 r3.2 hk
   exact ⟨e,s2,j+1,N2,aW, .step e1 S3.Le.mK c1,c2,c3.trans r1,c4.trans r2,⟨aC.eJ r3.1 c5.1 (Ox _),c5.2⟩,c6⟩
  |exit i=>exact ⟨_,s1,0,N1,st1, .last e1 (by simp),R1,r1,r2,r3,hk⟩
  |ret=>exact ⟨_,s1,0,N1,st1, .last e1 (by simp),R1,r1,r2,r3,hk⟩
variable [DecidableEq τ]
theorem S3.LN (sz:Nat):s.Le k0 n ⟨s.σ,aA s.g [(s.k,some ⟨sz,[]⟩)],s.k+1⟩:=by
 intro E0 J base w0 a w hk hr
 obtain ⟨E,rfl,hle,hs,hm,aY,hmk⟩:=hr.ex
 obtain ⟨E',hw,hE,hM,k1,k2,k3,k4,k5⟩:=hm.sw (fresh:=s.k) (fun hh=>PA _ (aY _ hh)) sz
 refine ⟨⟨E',hw,hle.trans hE,fun j=>(hs j).step hE,hM,fun id hid=> ?_,hmk.step hE⟩,hr.size,hr.below,hr.gl⟩
 show id<s.k+1
 rcases k4 id hid with h|h
 ·have:=aY id h;omega
 ·omega
theorem DO {C:b5 τ dn} (hC:C.Ok) {a:AC} {B:SS τ dn->(Ex->SS τ dn->Prop)->Prop} (hB:∀{st:SS τ dn} {K:Ex->SS τ dn->Prop} {N:aC} {s:S3},Rel C.D N st s->C.fl<=st.nx->B st K->Ends C n k0 a N st s K) {vs:List (VK τ)} {I:VT dn vs->Prop} {ms:VT dn vs->Nat}
  {st:SS τ dn} {K:Ex->SS τ dn->Prop} {T:List Nat} {ft:List (Nat×SV τ dn)} {fm:List (Nat×Option (SB τ dn))} (hT:vs.map (nmV st)=T) (kG:T.length=vs.length) (kp:∀{a},keepP vs T st.nx a=true->a<st.nx/\¬a∈movesV vs T) (hle:∀a,keepP vs T st.nx a=true->lessB st.nx a=true)
  (aT:∀{i v},getS (ft++st.rt) i=some v->(getS ft i=some v\/getS st.rt i=some v)/\v.fr (keepP vs T st.nx)=true/\¬i∈ek vs) (aM:∀{i v},getS (fm++st.rm) i=some v->(getS fm i=some v\/getS st.rm i=some v)/\(∀B,v=some B->B.fr (keepP vs T st.nx)=true)/\keepP vs T st.nx i=true)
  (fT:∀{i v},getS ft i=some v->getS st.t i=some v/\v.fr (keepP vs T st.nx)=true/\¬i∈ek vs) (fM:∀{i v},getS fm i=some v->getS st.m i=some v/\(∃B,v=some B/\B.fr (keepP vs T st.nx)=true)/\keepP vs T st.nx i=true)
  (rT:∀{i v},getS st.rt i=some v->v.fr (keepP vs T st.nx)=true/\¬i∈ek vs/\getS ft i=none) (rM:∀{i v},getS st.rm i=some v->keepP vs T st.nx i=true/\(∀B,v=some B->B.fr (keepP vs T st.nx)=true)/\getS fm i=none) (o3:okT (lessB st.nx) vs T=true) (jG:C.fl<=st.nx) (uV:(movesV vs T).all (Nat.ble C.fl)=true)
  {x:VT dn vs} (h:B ⟨ft++st.rt,fm++st.rm,bP C.D vs T x,putM C.D vs T x,st.nx⟩ fun e aw=>match e with
   | .normal=>match lR C.D aw vs with
    |some x'=>bif nextB vs T (vs.map (nmV aw)) st.nx aw.nx then I x'/\ms x'<ms x else False
    |none=>False
   |e=>K e ⟨st.rt,st.rm,aw.t++ft,aw.m++fm,aw.nx⟩) (R:Rel C.D N ⟨ft++st.rt,fm++st.rm,bP C.D vs T x,putM C.D vs T x,st.nx⟩ s)
  (next:∀x',ms x'<ms x->I x'->∀N2 s2,Rel C.D N2 ⟨ft++st.rt,fm++st.rm,bP C.D vs T x',putM C.D vs T x',st.nx⟩ s2->∃e s' j N3 aw,Ch C.P n k0 a e s' j s2/\Rel C.D N3 aw s'/\aw.rt=st.rt/\aw.rm=st.rm/\(N2.agree C.fl N3/\C.fl<=aw.nx)/\K e aw):
  ∃e s' j N2 aw,Ch C.P n k0 a e s' j s/\Rel C.D N2 aw s'/\aw.rt=st.rt/\aw.rm=st.rm/\(N.agree C.fl N2/\C.fl<=aw.nx)/\K e aw:=by
 obtain ⟨e,s1,N1,st1,e1,R1,eF,cU,DP,hk⟩:=hB R jG h
 have leave:e≠ .normal->K e ⟨st.rt,st.rm,st1.t++ft,st1.m++fm,st1.nx⟩->∃e s' j N2 aw,Ch C.P n k0 a e s' j s/\Rel C.D N2 aw s'/\aw.rt=st.rt/\aw.rm=st.rm/\(N.agree C.fl N2/\C.fl<=aw.nx)/\K e aw:=fun hne hk=>by
  have DQ:∀i v,getS fm i=some v->getS st1.rm i=some v:=fun i v h=>by rw [cU];show getS (fm++st.rm) i=_;rw [gf,h];rfl
  have DR:∀i v,getS st.rm i=some v->getS st1.rm i=some v:=fun i v h=>by rw [cU];show getS (fm++st.rm) i=_;rw [gf,(rM h).2.2];exact h
  have cN:∀a X,(⟨st.rt,st.rm,st1.t++ft,st1.m++fm,st1.nx⟩:SS τ dn).bz a X->st1.bz a X:=fun a X hX=>by
   rcases hX with hX|hX
   ·have lM:getS (st1.m++fm) a=some (some X):=hX
    rw [gf] at lM
    cases hq:getS st1.m a with
    |some w=>rw [hq] at lM;simp only [P0,Oj] at lM;subst lM;exact .inl hq
    |none=>rw [hq] at lM;simp only [PL] at lM;exact .inr (DQ a _ lM)
   ·exact .inr (DR a _ hX)
  refine ⟨e,s1,0,N1,⟨st.rt,st.rm,st1.t++ft,st1.m++fm,st1.nx⟩, .last e1 hne,⟨fun N' hN=> ?_,R1.inj,R1.lt,fun nm B h=> ?_,fun nm B h=> ?_,fun t A h id hid=>⟨(R1.sp t A (cN 0 _ h) id hid).1,fun nm B hB=>(R1.sp t A (cN 0 _ h) id hid).2 nm B (cN nm B hB)⟩⟩,rfl,rfl,DP,hk⟩
  ·have A:=R1.at_ N' hN
   have LO:∀i v,getS ft i=some v->getS st1.rt i=some v:=fun i v h=>by rw [eF];show getS (ft++st.rt) i=_;rw [gf,h];rfl
   have LP:∀i v,getS st.rt i=some v->getS st1.rt i=some v:=fun i v h=>by rw [eF];show getS (ft++st.rt) i=_;rw [gf,(rT h).2.2];exact h
   refine ⟨fun i v h=> ?_,fun i v h=>A.rs i v (LP i v h),fun nm B h=> ?_,fun nm B h=>A.rb nm B (DR nm _ h),fun t A' h id hid=>A.ar t A' (cN 0 _ h) id hid⟩
   ·have h':getS (st1.t++ft) i=some v:=h
    rw [gf] at h'
    cases hq:getS st1.t i with
    |some w=>rw [hq] at h';simp only [P0,Oj] at h';subst h';exact A.sl i _ hq
    |none=>rw [hq] at h';simp only [PL] at h';exact A.rs i v (LO i v h')
   ·have h':getS (st1.m++fm) nm=some (some B):=h
    rw [gf] at h'
    cases hq:getS st1.m nm with
    |some w=>rw [hq] at h';simp only [P0,Oj] at h';subst h';exact A.bl nm _ hq
    |none=>rw [hq] at h';simp only [PL] at h';exact A.rb nm B (DQ nm _ h')
  ·have h':getS (st1.m++fm) nm=some B:=h
   rw [gf] at h'
   cases hq:getS st1.m nm with
   |some w=>exact R1.ml nm w hq
   |none=>rw [hq] at h';simp only [PL] at h';exact R1.rl nm B (by rw [cU];show getS (fm++st.rm) nm=_;rw [gf,h'];rfl)
  ·exact R1.rl nm B (by rw [cU];show getS (fm++st.rm) nm=_;rw [gf,(rM h).2.2];exact h)
 cases e with
 |exit i=>exact leave (by simp) hk
 |ret=>exact leave (by simp) hk
 |normal=>
  simp only at hk
  split at hk
  case h_2=>exact hk.elim
  rename_i x' cH
  generalize hA:vs.map (nmV st1)=A at hk
  cases hn:nextB vs T A st.nx st1.nx with
  |false=>rw [hn] at hk;exact hk.elim
  |true=>
   rw [hn,Oq] at hk
   unfold nextB at hn
   simp only [On] at hn
   obtain ⟨⟨⟨n1,n2⟩,n3⟩,n4⟩:=hn
   have DS:∀a,a∈ic vs->dE vs T A a=a:=fun a ha=>Oy (Ot.1 n4 a ha)
   have hV:=uC hC.ok R1.here cH
   rw [hA] at hV
   have LQ:A.length=vs.length:=by rw [<-hA,OL]
   have yU:∀c,c<st.nx->dE vs T A c<st1.nx:=fun c hc=>rP ((Ot.1 n2) c (OZ.2 hc))
   have LU:∀c d,c<st.nx->d<st.nx->dE vs T A c=dE vs T A d->c=d:=fun c d hc hd he=>by
    rw [List.range_eq_range'] at n1
    exact DM n1 c d (Nat.zero_le _) (by omega) (Nat.zero_le _) (by omega) he
   obtain ⟨N2,jk⟩:∃N2:aC,N2=⟨fun c=>N1.ι (dE vs T A c),fun c=>N1.ln (dE vs T A c),N1.ρ⟩:=⟨_,rfl⟩
   have rR:N1.same (keepP vs T st.nx) N2:=by
    refine ⟨fun c hc=> ?_,by rw [jk]⟩
    rw [jk];simp only [yD (kp hc).2,OK]
   have LV:jT C.D N2 s1.σ s1.g vs T x':=by
    refine yE C.D (by rw [jk]) hC.ok hV (by rw [kG,LQ]) (fun j v c m h0 h1 h2=> ?_) fun a ha=>by rw [jk];simp only [DS a ha,OK]
    have hz:(v,c,m)∈vs.zip (T.zip A):=by
     refine OT (i:=j) ?_
     rw [Ql,Ql]
     exact ⟨h0,h1,h2⟩
    have:=(Ot.1 n3) _ hz
    simp only [OO,On] at this
    rcases this with h|⟨h,h'⟩
    ·exact .inl h
    ·have e:=Oy h
     refine .inr ⟨by rw [jk];simp only [e],by rw [jk];simp only [e], ?_⟩
     rcases h' with h'|h'
     ·exact .inl h'
     ·exact .inr (Oy h')
   obtain ⟨s2,w2,R2⟩:=Db (n:=n) (k0:=k0) hC.ok (rt:=ft++st.rt) (rm:=fm++st.rm) (nx:=st.nx) LV o3 kG (fun i v h=>by
     obtain ⟨_,h2,h3⟩:=aT h
     refine ⟨?_,SV.og hle v h2,h3⟩
     rw [pz rR v h2]
     exact R1.here.rs i v (by rw [eF];exact h)) (fun nm B h=>by
     obtain ⟨_,h2,h3⟩:=aM h
     refine ⟨(kp h3).1,fun B' aN=> ?_⟩
     subst aN
     obtain ⟨q1,q2⟩:=R1.here.rb nm B' (by rw [cU];exact h)
     obtain ⟨p1,p2⟩:=rR.1 nm h3
     exact ⟨by rw [p1,C4 rR B' (h2 B' rfl)];exact q1,by rw [p2];exact q2,SB.og hle B' (h2 B' rfl)⟩)
    (fun c d hc hd he=>LU c d hc hd (R1.inj _ _ (yU c hc) (yU d hd) (by rw [jk] at he;exact he))) (fun c hc=>by rw [jk];exact R1.lt _ (yU c hc))
    (fun t Ar h id hid=>by
     have cN:∀nm B,(⟨ft++st.rt,fm++st.rm,bP C.D vs T x',putM C.D vs T x',st.nx⟩:SS τ dn).bz nm B->(∃B',st1.bz (dE vs T A nm) B')/\(∀t Ar,nm=0->B= .ar t Ar->st1.bz 0 (.ar t Ar)):=fun nm B hB=>by
      rcases hB with hB|hB
      ·rcases uD cH kG nm B (ji hB) with ⟨j,v,p1,p2,p3,⟨B',p4⟩,p5⟩|⟨hf,⟨B',p4⟩,p5⟩
       case inr=>exact ⟨⟨B',by rw [DS nm hf];exact gI p4⟩,fun t Ar h0 he=>absurd he (p5 t Ar)⟩
       have hj:A[j]? =some (nmV st1 v):=by rw [<-hA,OM,p1];rfl
       have hz:(v,nm,nmV st1 v)∈vs.zip (T.zip A):=by
        refine OT (i:=j) ?_
        rw [Ql,Ql]
        exact ⟨p1,p2,hj⟩
       have:=(Ot.1 n3) _ hz
       simp only [OO,On] at this
       have e:=Oy (this.resolve_left (by rw [p3];simp)).1
       refine ⟨⟨B', ?_⟩,fun t Ar h0 he=> ?_⟩
       ·show st1.bz (dE vs T A nm) B'
        rw [e];exact gI p4
       ·exact gI (p5 t Ar he).2
      ·have aN:getS (fm++st.rm) nm=some (some B):=hB
       obtain ⟨_,_,h3⟩:=aM aN
       refine ⟨⟨B, ?_⟩,fun t Ar h0 he=> ?_⟩
       ·rw [yD (kp h3).2];exact .inr (by rw [cU];exact aN)
       ·subst h0;subst he;exact .inr (by rw [cU];exact aN)
     have h1:=(cN 0 _ h).2 t Ar rfl rfl
     obtain ⟨q1,q2⟩:=R1.sp t Ar h1 id hid
     have q3:=R1.here.ar t Ar h1 id hid
     refine ⟨by rw [jk];exact q3,q1,fun nm B hB=> ?_⟩
     obtain ⟨⟨B',aN⟩,_⟩:=cN nm B hB
     rw [jk];exact q2 _ B' aN)
   obtain ⟨e,s',j,N3,aw,c1,c2,c3,c4,c5,c6⟩:=next x' hk.2 hk.1 N2 s2 R2
   have dK:N1.agree C.fl N2:=⟨fun c hc=>by
    have eH:¬c∈movesV vs T:=fun hm=>absurd (O3 (Ot.1 uV c hm)) (by omega)
    rw [jk];simp only [yD eH,OK],by rw [jk]⟩
   exact ⟨e,s',j+1,N3,aw, .step e1 w2 c1,c2,c3,c4,⟨aC.eJ (aC.eJ DP.1 dK (Ox _)) c5.1 (Ox _),c5.2⟩,c6⟩
theorem LW {C:b5 τ dn} (hC:C.Ok) {a:AC} {B:SS τ dn->(Ex->SS τ dn->Prop)->Prop} (hB:∀{st:SS τ dn} {K:Ex->SS τ dn->Prop} {N:aC} {s:S3},Rel C.D N st s->C.fl<=st.nx->B st K->Ends C n k0 a N st s K) {vs:List (VK τ)} {I0:VT dn vs->VT dn vs->Prop} {DT:VT dn vs->VT dn vs->Nat} {jj:List Nat}
  {st:SS τ dn} {K:Ex->SS τ dn->Prop} (R:Rel C.D N st s) (jG:C.fl<=st.nx) (h:yQ C.D C.fl vs I0 DT jj B st K):Ends C n k0 (.loop a) N st s K:=by
 unfold yQ at h
 split at h
 case h_1=>exact h.elim
 rename_i x0 DU
 generalize hI:I0 x0=I at h
 generalize vZ:DT x0=ms at h
 generalize hT:vs.map (nmV st)=T at h
 generalize LX:lQ (keepP vs T st.nx) (ek vs++jj) st.t=ft at h
 generalize LZ:kD (keepP vs T st.nx) (oa vs T) st.m=fm at h
 unfold DF at h
 cases hok:okB vs T st (keepP vs T st.nx) ft fm&&(movesV vs T).all (Nat.ble C.fl) with
 |false=>rw [hok] at h;exact h.elim
 |true=>
 rw [hok,Oq] at h
 rw [On] at hok
 obtain ⟨hok,uV⟩:=hok
 obtain ⟨qj,bJ⟩:=h
 rw [uA] at bJ
 unfold okB at hok
 simp only [On] at hok
 obtain ⟨⟨⟨⟨o1,o2⟩,o3⟩,o4⟩,o5⟩:=hok
 have kG:T.length=vs.length:=by rw [<-hT,OL]
 have kp:∀{a},keepP vs T st.nx a=true->a<st.nx/\¬a∈movesV vs T:=fun {a} h=>by
  unfold keepP at h
  rw [On] at h
  refine ⟨rP h.1,fun hm=> ?_⟩
  have:=h.2
  rw [lP.2 hm] at this;simp at this
 have hle:∀a,keepP vs T st.nx a=true->lessB st.nx a=true:=fun a h=>by
  unfold keepP at h;rw [On] at h;exact h.1
 have fT:∀{i v},getS ft i=some v->getS st.t i=some v/\v.fr (keepP vs T st.nx)=true/\¬i∈ek vs:=fun {i v} h=>by
  rw [<-LX] at h
  obtain ⟨h1,h2,h3⟩:=yz h
  exact ⟨h1,h2,fun hh=>h3 (O7 _ hh)⟩
 have fM:∀{i v},getS fm i=some v->getS st.m i=some v/\(∃B,v=some B/\B.fr (keepP vs T st.nx)=true)/\keepP vs T st.nx i=true:=fun {i v} h=>by
  rw [<-LZ] at h
  obtain ⟨h1,h2,h3,_⟩:=yA h
  exact ⟨h1,h2,h3⟩
 have rT:∀{i v},getS st.rt i=some v->v.fr (keepP vs T st.nx)=true/\¬i∈ek vs/\getS ft i=none:=fun {i v} h=>by
  have:=(Ot.1 o1) _ (ji h)
  simp only [On,OJ,Option.isNone_iff_eq_none] at this
  exact ⟨this.1.1,fun hh=>by rw [lP.2 hh] at this;simp at this,this.2⟩
 have rM:∀{i v},getS st.rm i=some v->keepP vs T st.nx i=true/\(∀B,v=some B->B.fr (keepP vs T st.nx)=true)/\getS fm i=none:=fun {i v} h=>by
  have:=(Ot.1 o2) _ (ji h)
  simp only [On,Option.isNone_iff_eq_none] at this
  exact ⟨this.1.1,fun B hB=>by subst hB;exact this.1.2,this.2⟩
 have aT:∀{i v},getS (ft++st.rt) i=some v->(getS ft i=some v\/getS st.rt i=some v)/\v.fr (keepP vs T st.nx)=true/\¬i∈ek vs:=fun {i v} h=>by
  rw [gf] at h
  cases hf:getS ft i with
  |some w=>rw [hf] at h;simp only [P0,Oj] at h;subst h;exact ⟨.inl rfl,(fT hf).2⟩
  |none=>rw [hf] at h;simp only [PL] at h;exact ⟨.inr h,(rT h).1,(rT h).2.1⟩
 have aM:∀{i v},getS (fm++st.rm) i=some v->(getS fm i=some v\/getS st.rm i=some v)/\(∀B,v=some B->B.fr (keepP vs T st.nx)=true)/\keepP vs T st.nx i=true:=fun {i v} h=>by
  rw [gf] at h
  cases hf:getS fm i with
  |some w=>
   rw [hf] at h;simp only [P0,Oj] at h;subst h
   obtain ⟨h1,⟨B,h2,h3⟩,h4⟩:=fM hf
   exact ⟨.inl rfl,fun B' aN=>by rw [h2,Oj] at aN;subst aN;exact h3,h4⟩
  |none=>rw [hf] at h;simp only [PL] at h;exact ⟨.inr h,(rM h).2.1,(rM h).1⟩
 -- jC rounds
 have rounds:∀(m:Nat) (x:VT dn vs) (N':aC) (s0:S3),ms x<=m->I x->Rel C.D N' ⟨ft++st.rt,fm++st.rm,bP C.D vs T x,putM C.D vs T x,st.nx⟩ s0->
   ∃e s' j N2 aw,Ch C.P n k0 a e s' j s0/\Rel C.D N2 aw s'/\aw.rt=st.rt/\aw.rm=st.rm/\(N'.agree C.fl N2/\C.fl<=aw.nx)/\K e aw:=by
  intro m
  induction m with
  |zero=>
   intro x N' s0 hm hI R0
   exact DO hC hB hT kG kp hle aT aM fT fM rT rM o3 jG uV (bJ x hI) R0 fun x' hlt=>absurd hlt (by omega)
  |succ m ih=>
   intro x N' s0 hm hI R0
   exact DO hC hB hT kG kp hle aT aM fT fM rT rM o3 jG uV (bJ x hI) R0 fun x' hlt iz N2 s2 R2=>ih x' N2 s2 (by omega) iz R2
 have hV:=uC hC.ok R.here DU
 rw [hT] at hV
 obtain ⟨s1,w1,R1⟩:=Db (n:=n) (k0:=k0) hC.ok (rt:=ft++st.rt) (rm:=fm++st.rm) hV o3 kG (fun i v h=>by
   obtain ⟨h1,h2,h3⟩:=aT h
   refine ⟨?_,SV.og hle v h2,h3⟩
   rcases h1 with h1|h1
   ·exact R.here.sl i v (fT h1).1
   ·exact R.here.rs i v h1) (fun nm B h=>by
   obtain ⟨h1,h2,h3⟩:=aM h
   refine ⟨(kp h3).1,fun B' aN=> ?_⟩
   subst aN
   have:s.g (N.ι nm)=some (B'.av C.D.toTE N)/\N.ln nm=B'.len:=by
    rcases h1 with h1|h1
    ·exact R.here.bl nm B' (fM h1).1
    ·exact R.here.rb nm B' h1
   exact ⟨this.1,this.2,SB.og hle B' (h2 B' rfl)⟩) R.inj R.lt
   (fun t Ar h id hid=>by
    have cN:∀nm B,(⟨ft++st.rt,fm++st.rm,bP C.D vs T x0,putM C.D vs T x0,st.nx⟩:SS τ dn).bz nm B->(∃B',st.bz nm B')/\(∀t Ar,nm=0->B= .ar t Ar->st.bz 0 (.ar t Ar)):=fun nm B hB=>by
     rcases hB with hB|hB
     ·rcases uD DU kG nm B (ji hB) with ⟨j,v,p1,p2,p3,⟨B',p4⟩,p5⟩|⟨hf,⟨B',p4⟩,p5⟩
      case inr=>exact ⟨⟨B',gI p4⟩,fun t Ar h0 he=>absurd he (p5 t Ar)⟩
      have hj:nmV st v=nm:=by
       have:T[j]? =some (nmV st v):=by rw [<-hT,OM,p1];rfl
       rw [p2] at this;simpa using this.symm
      exact ⟨⟨B',hj▸gI p4⟩,fun t Ar h0 he=>gI (p5 t Ar he).2⟩
     ·have aN:getS (fm++st.rm) nm=some (some B):=hB
      have:st.bz nm B:=by
       rcases (aM aN).1 with h1|h1
       ·exact .inl (fM h1).1
       ·exact .inr h1
      exact ⟨⟨B,this⟩,fun t Ar h0 he=>by subst h0;subst he;exact this⟩
    have h1:=(cN 0 _ h).2 t Ar rfl rfl
    obtain ⟨q1,q2⟩:=R.sp t Ar h1 id hid
    exact ⟨R.here.ar t Ar h1 id hid,q1,fun nm B hB=>by obtain ⟨⟨B',aN⟩,_⟩:=cN nm B hB;exact q2 nm B' aN⟩)
 obtain ⟨e,s',j,N2,aw,c1,c2,c3,c4,c5,c6⟩:=rounds (ms x0) x0 N s1 (Ox _) qj R1
 exact ⟨e,s',N2,aw,ED.fL w1 (ED.loop c1),c2,c3,c4,c5,c6⟩
theorem DV {C:b5 τ dn} (hC:C.Ok) {n k0:Nat} {an:Nat->Option (LA τ dn)}:∀(ps:List (List az)) {st:SS τ dn} {K:SS τ dn->Prop} {N:aC} {s:S3},Rel C.D N st s->uQ C n an ps st K->
  ∃s' N' aw,pE C.P n k0 ps s s'/\Rel C.D N' aw s'/\(aw.rt=st.rt/\aw.rm=st.rm)/\N.agree st.nx N'/\st.nx<=aw.nx/\K aw
 |[],st,K,N,s,R,h=>⟨s,N,st, .nil,R,⟨rfl,rfl⟩,N.dR _,Ox _,h⟩
 |p::ps,st,K,N,s,R,h=>by
  simp only [uQ] at h
  obtain ⟨s1,st1,w1,R1,z1,z2,z3,h⟩:=yM (n:=n) (k0:=k0) hC.ok _ R h
  obtain ⟨NZ,L1,L2,L4,L5,h⟩:=KV R1 h
  obtain ⟨L6,L7,yV,yW,yX,h⟩:=DD hC.ok L1 h
  obtain ⟨N5,L8,L9,Ma,Mb,h⟩:=DC L7 h
  obtain ⟨aW,R2,y1,y2,y3,h⟩:=ui hC.ok L8 h
  rw [L9,yV,L2] at y1;rw [Ma,yW,L4] at y2;rw [Mb,yX,L5] at y3
  obtain ⟨s3,N3,mJ,e3,R3,r1,r2,r3,h⟩:=uw (hC.wo (rV an p)) (k0:=k0) R2 h
  obtain ⟨s4,N4,Mc,e4,R4,q1,q2,q3,h⟩:=DV hC (k0:=k0) ps R3 h
  rw [y1,y2,z1,z2] at r1
  rw [y3,z3] at r2 r3
  exact ⟨s4,N4,Mc, .cons w1 e3 e4,R4,⟨q1.1.trans r1.1,q1.2.trans r1.2⟩,aC.eJ r2 q2 r3,OS r3 q3,h⟩
theorem jW {C:b5 τ dn} (hC:C.Ok) {n k0:Nat} {an:Nat->Option (LA τ dn)}:∀(ac:AC) (k:Nat) {st:SS τ dn} {K:Ex->SS τ dn->Prop} {N:aC} {s:S3},Rel C.D N st s->C.fl<=st.nx->eN C n an ac k st K->Ends C n k0 ac N st s K
 | .skip,k,st,K,N,s,R,hl,h=>⟨_,s,N,st,ED.skip,R,rfl,rfl,⟨N.dR _,hl⟩,h⟩
 | .ret,k,st,K,N,s,R,hl,h=>⟨_,s,N,st,ED.ret,R,rfl,rfl,⟨N.dR _,hl⟩,h⟩
 | .exit i,k,st,K,N,s,R,hl,h=>⟨_,s,N,st,ED.exit,R,rfl,rfl,⟨N.dR _,hl⟩,h⟩
 | .seq a b,k,st,K,N,s,R,hl,h=>by
  simp only [eN] at h
  obtain ⟨e,s1,N1,st1,e1,R1,r1,r2,r3,hk⟩:=jW hC a k R hl h
  cases e with
  |normal=>
   obtain ⟨e,s2,N2,aW,e2,R2,q1,q2,q3,hk2⟩:=jW hC b _ R1 r3.2 hk
   exact ⟨e,s2,N2,aW,ED.seq e1 e2,R2,q1.trans r1,q2.trans r2,⟨aC.eJ r3.1 q3.1 (Ox _),q3.2⟩,hk2⟩
  |exit i=>exact ⟨_,s1,N1,st1,ED.C3 e1 (by simp),R1,r1,r2,r3,hk⟩
  |ret=>exact ⟨_,s1,N1,st1,ED.C3 e1 (by simp),R1,r1,r2,r3,hk⟩
 | .cond c a b,k,st,K,N,s,R,hl,h=>by
  simp only [eN] at h
  have go:∀p:Bool,aG s.σ c= .v (.bool p)->(p=true->Ends C n k0 a N st s K)->(p=false->Ends C n k0 b N st s K)->Ends C n k0 (.cond c a b) N st s K:=fun p hp h1 h2=>by
   cases p with
   |true=>
    obtain ⟨e,s1,N1,st1,e1,R1,r1,r2,r3,hk⟩:=h1 rfl
    exact ⟨e,s1,N1,st1,ED.cond hp (by rw [Om rfl];exact e1),R1,r1,r2,r3,hk⟩
   |false=>
    obtain ⟨e,s1,N1,st1,e1,R1,r1,r2,r3,hk⟩:=h2 rfl
    exact ⟨e,s1,N1,st1,ED.cond hp (by rw [Ol (by simp)];exact e1),R1,r1,r2,r3,hk⟩
  split at h
  ·rename_i hc
   exact go true (R.here.ev hc) (fun _=>jW hC a k R hl h) (fun hh=>by simp at hh)
  ·rename_i hc
   exact go false (R.here.ev hc) (fun hh=>by simp at hh) (fun _=>jW hC b _ R hl h)
  ·rename_i c' hc
   split at h
   ·rename_i O aw hm
    rw [jP] at h
    obtain ⟨hO,hk⟩:=h
    have DX:∀{x:AC},x= .skip->Rel C.D N aw s->aw.rt=st.rt/\aw.rm=st.rm/\aw.nx=st.nx->Ends C n k0 x N st s K:=fun {x} hx hR hs=>by
     subst hx
     exact ⟨_,s,N,aw,ED.skip,hR,hs.1,hs.2.1,⟨N.dR _,by rw [hs.2.2];exact hl⟩,hk⟩
    have run:∀{x:AC} {os:List az},x= .bH os none->(∃s' N',gx C.P n k0 os s.σ s.g s.k s'.σ s'.g s'.k/\Rel C.D N' aw s'/\N.agree st.nx N')->aw.rt=st.rt/\aw.rm=st.rm/\aw.nx=st.nx->Ends C n k0 x N st s K:=fun {x os} hx hR hs=>by
     subst hx
     obtain ⟨s',N',q1,q2,q3⟩:=hR
     exact ⟨_,s',N',aw,ED.bH q1,q2,hs.1,hs.2.1,⟨uR q3 hl,by rw [hs.2.2];exact hl⟩,hk⟩
    unfold DG at hm
    split at hm
    ·obtain ⟨q1,q2,q3⟩:=Du (k0:=k0) hC hm hO R
     exact go c'.den (R.here.ev hc) (fun hh=>DX rfl (q2 hh) q1) (fun hh=>run rfl (q3 hh) q1)
    ·obtain ⟨q1,q2,q3⟩:=Du (k0:=k0) hC hm hO R
     exact go c'.den (R.here.ev hc) (fun hh=>run rfl (q3 hh) q1) (fun hh=>DX rfl (q2 hh) q1)
    ·simp at hm
   exact go c'.den (R.here.ev hc) (fun hh=>jW hC a k R hl (h.1 ((Cn.ja c' true).2 hh))) (fun hh=>jW hC b _ R hl (h.2 ((Cn.ja c' false).2 hh)))
  ·exact h.elim
 | .block i a,k,st,K,N,s,R,hl,h=>by
  simp only [eN] at h
  obtain ⟨e,s1,N1,st1,e1,R1,r1,r2,r3,hk⟩:=jW hC a k R hl h
  exact ⟨_,s1,N1,st1,ED.block e1,R1,r1,r2,r3,hk⟩
 | .loop a,k,st,K,N,s,R,hl,h=>by
  simp only [eN] at h
  split at h
  ·rename_i m hm
   obtain ⟨e,s2,j,N2,aW,c1,c2,c3,c4,c5,c6⟩:=DN (fun R hl h=>jW hC a (k+1) R hl h) m R hl h
   exact ⟨e,s2,N2,aW,ED.loop c1,c2,c3,c4,c5,c6⟩
  ·rename_i vs I ms hm
   obtain ⟨s1,N1,w1,R1,r1,r2,r3,r4⟩:=DH (n:=n) (k0:=k0) (vs:=vs) R
   obtain ⟨e,s2,N2,aW,e2,R2,q1,q2,q3,hk⟩:=LW hC (fun R hl h=>jW hC a (k+1) R hl h) R1 (OS hl r4) h
   exact ⟨e,s2,N2,aW,ED.fL w1 e2,R2,q1.trans r1,q2.trans r2,⟨aC.eJ (uR r3 hl) q3.1 (Ox _),q3.2⟩,hk⟩
  ·exact h.elim
 | .bH os none,k,st,K,N,s,R,hl,h=>by
  simp only [eN] at h
  obtain ⟨s',N',aw,e1,R1,r1,r2,r3,hk⟩:=DV hC (k0:=k0) _ R h
  have e2:=ED.Lx e1
  rw [Dz] at e2
  exact ⟨_,s',N',aw,e2,R1,r1.1,r1.2,⟨uR r2 hl,OS hl r3⟩,hk⟩
 | .bH os (some dep),k,st,K,N,s,R,hl,h=>by
  simp only [eN] at h
  obtain ⟨s1,st1,w1,R1,z1,z2,z3,h⟩:=yM (n:=n) (k0:=k0) hC.ok _ R h
  obtain ⟨L6,Md,yV,yW,yX,h⟩:=DD hC.ok R1 h
  obtain ⟨aW,R1,y1,y2,y3,h⟩:=DC Md h
  rw [yV] at y1;rw [yW] at y2;rw [yX] at y3
  obtain ⟨jn,hj,s',N',aw,e1,R1,r1,r2,r3,hk⟩:=K5 (hC.wo (rV an os)) R1 h
  rw [y1,y2,z1,z2] at r1
  rw [y3,z3] at r2 r3
  exact ⟨_,s',N',aw,ED.fL w1 (ED.draw hj e1),R1,r1.1,r1.2,⟨uR r2 hl,OS hl r3⟩,hk⟩
 | .gD _ _ _ _,k,st,K,N,s,R,hl,h=>by simp only [eN] at h
def eL (D:TD τ dn) (vs:List (SV τ dn)):SS τ dn:=match D.ar with
 |none=>⟨[],[],kH vs 0,[],0⟩
 |some t=>⟨[],[],kH vs 0,[(0,some (.ar t []))],1⟩
def yY:List ki->List Nat
 |[]=>[]
 | .tmp i::r| .cell i _::r=>i::yY r
def yZ (C:b5 τ dn) (F:cQ) (an:Nat->Option (LA τ dn)) (vs:List (SV τ dn)) (rs:List τ) (r:RD dn rs):Prop:=
 bif Nat.ble vs.length F.n&&rs.all C.D.pu&&Nat.beq C.fl 0 then eN C F.n an F.code 0 (eL C.D vs) fun e st=>match e with
  | .exit _=>False
  |_=>pB C.D false (st.uH (yY F.res)) st fun st=>match jV C.D st F.res with
   |some (O,l)=>match jQ C.D st l with
    |some l'=>match kz C.D rs l' with
     |some y=>fC O (y=r)
     |none=>False
    |none=>False
   |none=>False
 else False
theorem Me {C:b5 τ dn} (hC:C.Ok) (hF:cFunc C.P f=some F) {an:Nat->Option (LA τ dn)} {vs:List (SV τ dn)} {rs:List τ} {r:RD dn rs} (N:aC) (ew:SV.dQ (fun _=>false) vs=true) (h:yZ C F an vs rs r):Fn C.P f (vs.map (SV.av C.D.toTE N)) ((mH (iG C.D rs r)).av C.D.toTE N):=by
 unfold yZ at h
 cases hb:(Nat.ble vs.length F.n&&rs.all C.D.pu&&Nat.beq C.fl 0) with
 |false=>rw [hb] at h;exact h.elim
 |true=>
 rw [hb,Oq] at h
 rw [On,On] at hb
 obtain ⟨hb,hz⟩:=hb
 have hz:=Oy hz
 have hl:vs.length<=F.n:=O3 hb.1
 have cq:∀(N':aC),N'.ρ=N.ρ->∀i v,getS (kH vs 0) i=some v->cd (vs.map (SV.av C.D.toTE N)) i=v.av C.D.toTE N':=fun N' fO i v hv=>by
  obtain ⟨_,h2⟩:=yT hv
  rw [Nat.sub_zero] at h2
  have hs:N.same (fun _=>false) N':=⟨fun a ha=>by simp at ha,fO⟩
  have hm:∀(l:List (SV τ dn)) (j:Nat) w,SV.dQ (fun _=>false) l=true->l[j]? =some w->w.fr (fun _=>false)=true:=by
   intro l
   induction l with
   |nil=>intro j w _ hw;simp at hw
   |cons a l ih=>
    intro j w hl hw
    simp only [SV.dQ,On] at hl
    cases j with
    |zero=>simp only [OV,Oj] at hw;subst hw;exact hl.1
    |succ j=>exact ih j w hl.2 (by simpa using hw)
  unfold cd
  rw [OM,h2]
  exact (pz hs v (hm vs i v ew h2)).symm
 have R0:∃s0 N0,S3.Le 0 F.n ⟨cd (vs.map (SV.av C.D.toTE N)),fun _=>none,0⟩ s0/\Rel C.D N0 (eL C.D vs) s0:=by
  unfold eL
  split
  ·refine ⟨_,N,S3.Le.mK,⟨fun N' hN=>⟨fun i v hv=>cq N' hN.2 i v hv,fun i v hv=>by simp [getS] at hv,fun nm B hB=>by simp [getS] at hB,fun nm B hB=>by simp [getS] at hB,fun t A h=>by rcases h with h|h<;>simp [getS] at h⟩,fun a b ha=>absurd ha (Nat.not_lt_zero _),fun a ha=>absurd ha (Nat.not_lt_zero _),fun nm B hB=>by simp [getS] at hB,fun nm B hB=>by simp [getS] at hB,fun t A h=>by rcases h with h|h<;>simp [getS] at h⟩⟩
  ·rename_i t _
   have DY:∀t' A,(⟨[],[],kH vs 0,[(0,some (.ar t []))],1⟩:SS τ dn).bz 0 (.ar t' A)->∀id,¬dy A id:=fun t' A h id=>by
    rcases h with h|h
    ·simp only [ba,Oo,Oj,SB.ar.injEq] at h
     obtain ⟨rfl,h⟩:=h
     have h:=eq_of_heq h
     subst h;exact BY
    ·simp [getS] at h
   refine ⟨_,⟨fun _=>0,fun _=>0,N.ρ⟩,S3.LN (C.D.sz t),⟨fun N' hN=>⟨fun i v hv=>cq N' hN.2 i v hv,fun i v hv=>by simp [getS] at hv,fun nm B hB=> ?_,fun nm B hB=>by simp [getS] at hB,fun t' A h id hid=>absurd hid (DY t' A h id)⟩,fun a b ha hb _=> ?_,fun a ha=> ?_,fun nm B hB=> ?_,fun nm B hB=>by simp [getS] at hB,fun t' A h id hid=>absurd hid (DY t' A h id)⟩⟩
   ·have aN:getS [(0,some (SB.ar t ([]:List (Nat×List (dn t)))))] nm=some (some B):=hB
    rw [ba] at aN
    by_cases hn:nm=0
    ·subst hn
     simp only [Oo,Oj] at aN
     subst aN
     have e:=hN.1 0 (Pq 0)
     refine ⟨?_,e.2⟩
     show aA _ _ (N'.ι 0)=_
     rw [e.1];rfl
    ·rw [Ol hn] at aN;simp [getS] at aN
   ·have:a<1:=ha
    have:b<1:=hb
    omega
   ·exact Pq 0
   ·have aN:getS [(0,some (SB.ar t ([]:List (Nat×List (dn t)))))] nm=some B:=hB
    rw [ba] at aN
    by_cases hn:nm=0
    ·subst hn;exact Pq 0
    ·rw [Ol hn] at aN;simp [getS] at aN
 obtain ⟨s0,N0,w0,R0⟩:=R0
 refine A8 hF (by rw [OL];exact hl) ?_
 obtain ⟨e,s',N',aw,e1,R1,_,_,_,hk⟩:=jW hC (n:=F.n) (k0:=0) F.code 0 R0 (by rw [hz];exact Nat.zero_le _) h
 have e1:=ED.fL w0 e1
 have hk2:(e= .normal\/e= .ret)/\pB C.D false (aw.uH (yY F.res)) aw fun aw=>match jV C.D aw F.res with
   |some (O,l)=>match jQ C.D aw l with
    |some l'=>match kz C.D rs l' with
     |some y=>fC O (y=r)
     |none=>False
    |none=>False
   |none=>False:=by
  cases e with
  |normal=>exact ⟨.inl rfl,hk⟩
  |ret=>exact ⟨.inr rfl,hk⟩
  |exit i=>exact hk.elim
 clear hk
 obtain ⟨he,hk⟩:=hk2
 obtain ⟨s2,aW,w2,R2,_,_,_,hk2⟩:=yM (n:=F.n) (k0:=0) hC.ok _ R1 hk
 clear hk
 have e1:=ED.post e1 w2
 clear R1 w2
 revert hk2 R2
 generalize aW=aw
 intro R1 hk
 refine EW.cM e1 fun x t ht=> ?_
 obtain ⟨rfl,rfl⟩:=ht
 have fin:(match jV C.D aw F.res with
   |some (O,l)=>match jQ C.D aw l with
    |some l'=>match kz C.D rs l' with
     |some y=>fC O (y=r)
     |none=>False
    |none=>False
   |none=>False)->∃r',((resR t.σ F.res).bind gE).run t.g=some r'/\aQ r' ((mH (iG C.D rs r)).av C.D.toTE N):=fun hk=>by
  split at hk
  case h_2=>exact hk.elim
  rename_i O l hr
  split at hk
  case h_2=>exact hk.elim
  rename_i l' hs
  split at hk
  case h_2=>exact hk.elim
  rename_i y hy
  rw [jP] at hk
  obtain ⟨hO,rfl⟩:=hk
  have q1:=uU hC.ok R1.here hr hO
  have q2:=Cz hC.ok R1.here hs
  have q3:(resR t.σ F.res).run t.g=some (kV (l.map (SV.av C.D.toTE N'))):=by
   unfold resR
   rw [dr q1];rfl
  have q4:(gE (kV (l.map (SV.av C.D.toTE N')))).run t.g=some (kV (l'.map (SV.av C.D.toTE N'))):=by
   have hlen:=DJ hs
   match l,l',q2,hlen with
   |[],[],q2,_=>exact dr q2
   |[v],[v'],q2,_=>
    have:(dw (v.av C.D.toTE N')).run t.g=some (v'.av C.D.toTE N'):=by
     simp only [jQ] at hs
     split at hs
     ·rename_i x l2 h1 h2
      simp only [Oj] at h2;subst h2
      simp only [Oj,P4,and_true] at hs;subst hs
      exact x9 hC.ok R1.here h1
     ·simp at hs
    exact LM this
   |v::w::l2,v'::w'::N6,q2,_=>
    show ((cP ((v::w::l2).map (SV.av C.D.toTE N'))).bind fun l=>RM.ret (AV.aK l)).run t.g=_
    rw [dr q2];rfl
  refine ⟨_,(dr q3).trans q4, ?_⟩
  refine aQ.trans (Kw (CB (N:=N') hC.ok hy)) (aQ.of_eq ?_)
  rw [ub,DL hC.ok rs y hb.2]
 exact ⟨he,fin hk⟩
end
open Go.RowKit
section
variable {τ:Type} {dn:τ->Type} {D:TD τ dn}
theorem y0 (ok:aZ D) {p:Nat->Bool}:∀(cs:List (Bool×τ)) (x:CD dn cs),SV.dQ p (lI D cs x)=true
 |[],_=>rfl
 |(false,t)::r,x=>by simp only [lI,SV.dQ,yF ok,y0 ok r x.2,Bool.and_self]
 |(true,t)::r,x=>by simp only [lI,SV.dQ,SV.fr,ok.nf,y0 ok r x.2,Bool.and_self]
theorem uW (ok:aZ D) {p:Nat->Bool}:∀(ps:List (Pt τ)) (x:PD dn ps),SV.dQ p (lK D ps x)=true
 |[],_=>rfl
 | .ty t::r,x=>by simp only [lK,Pt.enc,SV.dQ,yF ok,uW ok r x.2,Bool.and_self]
 | .ptr t::r,x=>by simp only [lK,Pt.enc,SV.dQ,SV.fr,ok.nf,uW ok r x.2,Bool.and_self]
 | .pe f cs::r,x=>by simp only [lK,Pt.enc,SV.dQ,SV.fr,y0 ok,uW ok r x.2,Bool.and_self]
inductive IK (τ:Type) (dn:τ->Type) where
 |fn (F:cQ) (an:Nat->Option (LA τ dn))
 |del (t:τ) (by_:Nat) (zs:List AV)
structure IL (τ:Type) (dn:τ->Type) where
 f:FuncId
 k:IK τ dn
 cl:Option FuncId:=none
def uX (g:FuncId):List (SV τ dn)->Bool
 |[]=>false
 | .fn f _::r=>Nat.beq f g||uX g r
 |_::r=>uX g r
def rW:List (IL τ dn)->FuncId->List (SV τ dn)->Option (IL τ dn)
 |[],_,_=>none
 |i::r,f,vs=>bif Nat.beq i.f f&&(match i.cl with|none=>true|some g=>uX g vs) then some i else rW r f vs
def Cons (P:Program) (D:TD τ dn):List (dt τ dn)->Prop
 |[]=>True
 |c::r=>c.Ok P D/\Cons P D r
def uY (P:Program) (D:TD τ dn):List (je τ dn)->Prop
 |[]=>True
 |c::r=>c.Ok P D/\uY P D r
def IK.Ok (P:Program) (D:TD τ dn) (f:FuncId):IK τ dn->Prop
 | .fn F _=>cFunc P f=some F/\bI P f=true
 | .del t by_ zs=>cFunc P f=some (w9 (D.sz t) by_ zs)/\bI P f=true/\zs.length=D.sz t
def uZ (P:Program) (D:TD τ dn):List (IL τ dn)->Prop
 |[]=>True
 |i::r=>i.k.Ok P D i.f/\uZ P D r
theorem y4 {P:Program}:∀{Δ:List (dt τ dn)},Cons P D Δ->∀c,c∈Δ->c.Ok P D
 |[],_,c,hc=>by simp at hc
 |d::r,h,c,hc=>by
  rcases OC.1 hc with rfl|hc
  ·exact h.1
  ·exact y4 h.2 c hc
theorem y5 {P:Program}:∀{Ω:List (je τ dn)},uY P D Ω->∀c,c∈Ω->c.Ok P D
 |[],_,c,hc=>by simp at hc
 |d::r,h,c,hc=>by
  rcases OC.1 hc with rfl|hc
  ·exact h.1
  ·exact y5 h.2 c hc
theorem y6 {P:Program}:∀{il:List (IL τ dn)},uZ P D il->∀{f vs i},rW il f vs=some i->i.k.Ok P D f
 |[],_,f,vs,i,h=>by simp [rW] at h
 |j::r,h,f,vs,i,hi=>by
  simp only [rW] at hi
  cases hb:(Nat.beq j.f f&&(match j.cl with|none=>true|some g=>uX g vs)) with
  |false=>rw [hb,OH] at hi;exact y6 h.2 hi
  |true=>
   rw [hb,Oq,Oj] at hi
   subst hi
   rw [On] at hb
   rw [<-Oy hb.1];exact h.1
theorem Mf {as_:List AV} {g':Nat->Option Bk} {k k':Nat} {r:AV} (h:∀m:List (Option Bk),m.length=k->look m=g->Fi P f as_ (look m) m.length r g' k'):Fi P f as_ g k r g' k':=by
 intro E J base vs hG hm aY bG
 have hg:look ((List.range k).map g)=g:=by
  funext id
  unfold look
  rcases O8 id k with h1|h1
  ·simp [h1]
  ·rw [PV (by simpa using h1)]
   cases hq:g id with
   |none=>rfl
   |some B=>exact absurd (aY id ((hm.live id).2 ⟨B,hq⟩).1) (by omega)
 have:=h _ (by simp) hg
 rw [hg,OL,List.length_range] at this
 exact this E J base vs hG hm aY bG
variable [DecidableEq τ]
def y7 (C:b5 τ dn) (F:cQ) (an:Nat->Option (LA τ dn)) (vs:List (SV τ dn)) (st:SS τ dn) (K:SV τ dn->SS τ dn->Prop):Prop:=
 bif Nat.ble vs.length F.n then eN C F.n an F.code 0 ⟨[],st.rm,kH vs 0,st.m,st.nx⟩ fun e aw=>match e with
  | .exit _=>False
  |_=>match jV C.D aw F.res with
   |some (O,l)=>fC O (K (mH l) aw)
   |none=>False
 else False
theorem Mg {C:b5 τ dn} (hC:C.Ok) (hF:cFunc C.P f=some F) (hc:bI C.P f=true) {an:Nat->Option (LA τ dn)} {vs:List (SV τ dn)} {st:SS τ dn} {K:SV τ dn->SS τ dn->Prop} (R:Rel C.D N st s) (jG:C.fl=st.nx)
  (ha:∀N',N.agree st.nx N'->vs.map (SV.av C.D.toTE N')=vs.map (SV.av C.D.toTE N)) (h:y7 C F an vs st K):uj C.P C.D f vs st K N s:=by
 unfold y7 at h
 cases hb:Nat.ble vs.length F.n with
 |false=>rw [hb] at h;exact h.elim
 |true=>
 rw [hb,Oq] at h
 have R0:Rel C.D N ⟨[],st.rm,kH vs 0,st.m,st.nx⟩ ⟨cd (vs.map (SV.av C.D.toTE N)),s.g,s.k⟩:=by
  refine ⟨fun N' hN=>⟨fun i v hv=> ?_,fun i v hv=>by simp [getS] at hv,(R.at_ N' hN).bl,(R.at_ N' hN).rb,(R.at_ N' hN).ar⟩,R.inj,R.lt,R.ml,R.rl,R.sp⟩
  obtain ⟨_,h2⟩:=yT hv
  rw [Nat.sub_zero] at h2
  show cd _ i=_
  unfold cd
  rw [<-ha N' hN,OM,h2];rfl
 obtain ⟨e,s',N',aw,e1,R1,_,r2,r3,hk⟩:=jW hC (n:=F.n) (k0:=s.k) F.code 0 R0 (Nat.le_of_eq jG) h
 have fin:(match jV C.D aw F.res with
   |some (O,l)=>fC O (K (mH l) aw)
   |none=>False)->∃v,(resR s'.σ F.res).run s'.g=some (v.av C.D.toTE N')/\(∀bU,N'.agree aw.nx bU->v.av C.D.toTE bU=v.av C.D.toTE N')/\K v aw:=fun hk=>by
  split at hk
  case h_2=>exact hk.elim
  rename_i O l hr
  rw [jP] at hk
  obtain ⟨hO,hk⟩:=hk
  have q:∀bU,N'.agree aw.nx bU->(resR s'.σ F.res).run s'.g=some ((mH l).av C.D.toTE bU):=fun bU hN=>by
   rw [ub]
   unfold resR
   rw [dr (uU hC.ok (R1.at_ bU hN) hr hO)];rfl
  refine ⟨_,q N' (N'.dR _),fun bU hN=> ?_,hk⟩
  have:=(q bU hN).symm.trans (q N' (N'.dR _))
  simpa using this
 have go:∀{x:Ex},(x= .normal\/x= .ret)->e=x->(∃v,(resR s'.σ F.res).run s'.g=some (v.av C.D.toTE N')/\(∀bU,N'.agree aw.nx bU->v.av C.D.toTE bU=v.av C.D.toTE N')/\K v aw)->uj C.P C.D f vs st K N s:=fun {x} hx he hv=>by
  obtain ⟨v,v1,v2,v3⟩:=hv
  refine ⟨hc,s'.g,s'.k,N',v,aw, ?_,v2, ?_, ?_, ?_,v3⟩
  ·refine A9 hF (by rw [OL];exact O3 hb) (EW.cM e1 fun y t ht=> ?_)
   obtain ⟨rfl,rfl⟩:=ht
   exact ⟨by rw [he];exact hx,t,S3.Le.mK,v1,rfl,rfl⟩
  ·rw [<-jG];exact r3.1
  ·rw [<-jG];exact r3.2
  ·have y8:aw.rm=st.rm:=r2
   have cN:∀a X,(⟨[],st.rm,[],aw.m,aw.nx⟩:SS τ dn).bz a X->aw.bz a X:=fun a X hX=>hX.imp id fun h=>by rw [y8];exact h
   refine ⟨fun bU hN=>⟨fun i v hv=>by simp [getS] at hv,fun i v hv=>by simp [getS] at hv,(R1.at_ bU hN).bl,fun nm B hB=>(R1.at_ bU hN).rb nm B (by rw [y8];exact hB),fun t A h id hid=>(R1.at_ bU hN).ar t A (cN 0 _ h) id hid⟩,R1.inj,R1.lt,R1.ml,fun nm B hB=>R1.rl nm B (by rw [y8];exact hB),fun t A h id hid=>⟨(R1.sp t A (cN 0 _ h) id hid).1,fun nm B hB=>(R1.sp t A (cN 0 _ h) id hid).2 nm B (cN nm B hB)⟩⟩
 cases e with
 |normal=>exact go (.inl rfl) rfl (fin hk)
 |ret=>exact go (.inr rfl) rfl (fin hk)
 |exit i=>exact hk.elim
def y9 (D:TD τ dn) (t:τ) (vs:List (SV τ dn)) (st:SS τ dn) (K:SV τ dn->SS τ dn->Prop):Prop:=
 match vs with
 |[.own nm sz,a,b]=>match st.gm nm,a.int,b.int with
  |some (.bl t' xs),some (x,_),some (y,_)=>if h:t'=t then (bif st.rw nm&&Nat.beq sz (D.sz t) then 0<=x/\x<xs.length/\y=x+1/\xs.length<=1000000/\K (.own st.nx sz) ⟨st.rt,st.rm,st.t,(st.nx,some (.bl t ((h▸xs:List (dn t)).eraseIdx x.toNat)))::(nm,none)::st.m,st.nx+1⟩ else False) else False
  |_,_,_=>False
 |_=>False
theorem Mh {t:τ} {by_:Nat} {zs:List AV} (hk:IK.Ok P D f (.del t by_ zs:IK τ dn)) {vs:List (SV τ dn)} {st:SS τ dn} {K:SV τ dn->SS τ dn->Prop} (R:Rel D N st s) (h:y9 D t vs st K):uj P D f vs st K N s:=by
 obtain ⟨hF,hc,hz⟩:=hk
 unfold y9 at h
 split at h
 case h_2=>exact h.elim
 rename_i nm sz a b
 split at h
 case h_2=>exact h.elim
 rename_i t' xs x bx y N7 h1 h2 h3
 split at h
 case isFalse=>exact h.elim
 rename_i ht
 subst ht
 cases hb:st.rw nm&&Nat.beq sz (D.sz t') with
 |false=>rw [hb] at h;exact h.elim
 |true=>
 rw [hb,Oq] at h
 rw [On] at hb
 obtain ⟨za,hs⟩:=hb
 have hs:=Oy hs
 subst hs
 obtain ⟨q1,q2,q3,q4,hK⟩:=h
 unfold SS.rw at za
 rw [On] at za
 obtain ⟨w1,w2⟩:=za
 have hm:getS st.m nm=some (some (.bl t' xs)):=by
  unfold SS.gm at h1
  cases hg:getS st.m nm with
  |none=>rw [hg] at w1;simp at w1
  |some B=>rw [hg] at h1;simp only at h1;rw [h1]
 have DZ:=R.here.bl nm _ hm
 have R1:Rel D N st ⟨s.σ,s.g,s.k+1⟩:=⟨R.at_,R.inj,fun a ha=>PZ (R.lt a ha),R.ml,R.rl,fun t A h id hid=>⟨PZ (R.sp t A h id hid).1,(R.sp t A h id hid).2⟩⟩
 have eW:=R1.go (n:=0) (d:=none) (r:= .mov [] (.vo undef) nm (.bl t' (xs.eraseIdx x.toNat))) rfl ⟨⟨_,hm⟩,by simpa using w2,rfl⟩ (val:= .v undef) (ups:=[(N.ι nm,none),(s.k+1,some ⟨D.sz t',(xs.eraseIdx x.toNat).map (D.ea N.ρ t')⟩)]) (fun _ _=>rfl) (fun N' hN=>by
  have e:=hN.1 nm (PZ (R.ml nm _ hm))
  have e2:=hN.2
  simp only [SR.up,aC.cY] at e e2
  have hne:¬nm=st.nx:=fun e=>by have:=R.ml nm _ hm;omega
  rw [Ol hne,Ol hne] at e
  simp only [SR.ups,SB.av,e.1,e2])
 have hid:N.ι nm<s.k:=R.lt nm (R.ml nm _ hm)
 refine ⟨hc,aA s.g [(N.ι nm,none),(s.k+1,some ⟨D.sz t',(xs.eraseIdx x.toNat).map (D.ea N.ρ t')⟩)],s.k+2,N.cY st.nx (s.k+1) (xs.eraseIdx x.toNat).length, .own st.nx (D.sz t'),_, ?_,fun bU hN=> ?_,N.lD _ _ _,Nat.le_succ _, ?_,hK⟩
 ·refine Mf fun m oT D0=> ?_
  have hB:look m (N.ι nm)=some ⟨D.sz t',xs.map (D.ea N.ρ t')⟩:=by rw [D0];exact DZ.1
  have:=HW (P:=P) (f:=f) (m:=m) hF hz hB q1 q2 q4
  rw [q3] at h3
  have bj:N.ln nm=xs.length:=DZ.2
  have e1:[SV.own nm (D.sz t'),a,b].map (SV.av D.toTE N)=[.own (N.ι nm) (D.sz t') 0 xs.length,VI x,VI (x+1)]:=by
   simp only [OD,Pa,SV.av,bj,eD h2,eD h3]
  have e2:(SV.own st.nx (D.sz t'):SV τ dn).av D.toTE (N.cY st.nx (s.k+1) (xs.eraseIdx x.toNat).length)= .own (m.length+1) (D.sz t') 0 (xs.eraseIdx x.toNat).length:=by
   simp only [SV.av,aC.cY,Oo,oT]
  rw [e1,e2]
  have e3:look (kZ m (N.ι nm) ⟨D.sz t',(xs.eraseIdx x.toNat).map (D.ea N.ρ t')⟩)=aA s.g [(N.ι nm,none),(s.k+1,some ⟨D.sz t',(xs.eraseIdx x.toNat).map (D.ea N.ρ t')⟩)]:=by
   rw [<-D0, <-oT]
   rw [<-oT] at hid
   funext id
   unfold look kZ
   simp only [aA]
   rcases O8 id m.length with hl|hl
   ·rw [Pg (by simpa using hl)]
    rw [Ol (by omega)]
    by_cases hi:id=N.ι nm
    ·subst hi;simp [hid]
    ·rw [Ol hi,Qi (fun e=>hi e.symm)]
   ·rw [Px (by simpa using hl),List.length_set]
    rcases Nat.lt_trichotomy id (m.length+1) with h5|h5|h5
    ·have:id=m.length:=by omega
     subst this
     rw [Ol (by omega),Ol (by omega)];simp
    ·subst h5
     rw [Om rfl];simp
    ·rw [Ol (by omega),Ol (by omega),PV (by simp;omega),PV (by omega)]
  have e4:(kZ m (N.ι nm) ⟨D.sz t',(xs.eraseIdx x.toNat).map (D.ea N.ρ t')⟩).length=s.k+2:=by simp [kZ,oT]
  rw [e3,e4] at this
  exact this
 ·have:=hN.1 st.nx (Pq _)
  simp only [SV.av,this.1,this.2]
 ·exact ⟨fun bU hN=>⟨fun i v hv=>by simp [getS] at hv,fun i v hv=>by simp [getS] at hv,(eW.at_ bU hN).bl,(eW.at_ bU hN).rb,(eW.at_ bU hN).ar⟩,eW.inj,eW.lt,eW.ml,eW.rl,eW.sp⟩
def u0 (P:Program) (D:TD τ dn) (Δ:List (dt τ dn)) (Ω:List (je τ dn)) (il:List (IL τ dn)):Nat->JW τ dn
 |0,_,_,_,_=>False
 |d+1,f,vs,st,K=>match rW il f vs with
  |some ⟨_, .fn F an,_⟩=>y7 ⟨P,D,Δ,Ω,st.nx,u0 P D Δ Ω il d,false⟩ F an vs st K
  |some ⟨_, .del t _ _,_⟩=>y9 D t vs st K
  |none=>False
theorem D1 {P:Program} (ok:aZ D) {Δ:List (dt τ dn)} (rX:Cons P D Δ) {Ω:List (je τ dn)} (rY:uY P D Ω) {il:List (IL τ dn)} (cy:uZ P D il):∀(d fl:Nat),(⟨P,D,Δ,Ω,fl,u0 P D Δ Ω il d,false⟩:b5 τ dn).Ok
 |0,fl=>⟨ok,y4 rX,y5 rY,fun _ _ h=>h.elim⟩
 |d+1,fl=>⟨ok,y4 rX,y5 rY,fun {f vs st K N s} R ha h=>by
  simp only [u0] at h
  split at h
  ·rename_i F an hi
   obtain ⟨h1,h2⟩:=y6 cy hi
   exact Mg (D1 ok rX rY cy d st.nx) h1 h2 R rfl ha h
  ·rename_i hi
   exact Mh (y6 cy hi) R h
  ·exact h.elim⟩
theorem pH (ok:aZ D) {Δ:List (dt τ dn)} (rX:Cons P D Δ) {Ω:List (je τ dn)} (rY:uY P D Ω) (c:dt τ dn) (hF:cFunc P c.f=some F) (hc:bI P c.f=true) (il:PD dn c.ps->List (IL τ dn)) (cy:∀x,uZ P D (il x)) (d:Nat) (an:PD dn c.ps->Nat->Option (LA τ dn)) (h:∀x,c.pre x->yZ ⟨P,D,Δ,Ω,0,u0 P D Δ Ω (il x) d,false⟩ F (an x) (lK D c.ps x) c.rs (c.res x)):c.Ok P D:=
 ⟨hc,fun x N hp=>Me (D1 ok rX rY (cy x) d 0) hF N (uW ok c.ps x) (h x hp)⟩
end
open Go.RowKit
structure LR (α:Type) where
 sz:Nat
 ea:(Nat->AV)->α->List AV
def LR.i64:LR Int:=⟨1,fun _ x=>[.v (.int .i64 x)]⟩
def LR.u8:LR UInt8:=⟨1,fun _ x=>[.v (.int .u8 x.toNat)]⟩
def LR.u64:LR eg:=⟨1,fun _ x=>[.v (.int .u64 (x.n:Int))]⟩
def LR.u16:LR Int:=⟨1,fun _ x=>[.v (.int .u16 x)]⟩
def LR.u4:LR Bool:=⟨1,fun _ x=>[.v (.bool x)]⟩
def LR.str:LR ByteArray:=⟨1,fun _ x=>[.v (.string x)]⟩
def LR.list (A:LR α):LR (List α):=⟨1,fun ρ xs=>[.aU A.sz (xs.map (A.ea ρ))]⟩
section
variable {τ:Type} {dn:τ->Type}
structure LY (E:TE τ dn) {α:Type} (R:LR α) where
 es:α->List (SV τ dn)
 ds:List (SV τ dn)->Option α
 df:α
 dq:∀(N:aC) (x:α),(es x).map (SV.av E N)=R.ea N.ρ x
 jb:∀(N:aC) (cs:List (SV τ dn)) (x:α),ds cs=some x->ee (cs.map (SV.av E N)) (R.ea N.ρ x)
 em:Bool
 pu:Bool
 fU:∀(N:aC) (cs:List (SV τ dn)) (x:α),ds cs=some x->(em=true\/cs.all SV.ne=true)->cs.map (SV.av E N)=R.ea N.ρ x
 len:∀x,(es x).length=R.sz
 one:∀x,(es x).all SV.one=true
 nf:∀(p:Nat->Bool) x,SV.dQ p (es x)=true
 jc:∀(ρ my:Nat->AV) (x:α),R.ea ρ x=R.ea my x
 pu1:∀(N:aC) (x:α),pu=true->(R.ea N.ρ x).all AV.pu1=true
 bt:Option ((α->UInt8)×(UInt8->α)):=none
 D2:∀(N:aC) (p:(α->UInt8)×(UInt8->α)),bt=some p->(∀x,R.ea N.ρ x=[.v (.int .u8 (p.1 x).toNat)])/\∀b,p.1 (p.2 b)=b:=by intro N p h;simp at h
variable {E:TE τ dn}
def zb:List (SV τ dn)->Option Int
 |[.vi x]=>some x
 |[.vn x]=>some x
 |_=>none
def zc:List (SV τ dn)->Option UInt8
 |[.vy x]=>some x
 |_=>none
def zd:List (SV τ dn)->Option eg
 |[.vu x]=>some x
 |_=>none
def ze:List (SV τ dn)->Option Int
 |[.vw .u16 x]=>some x
 |_=>none
def zf:List (SV τ dn)->Option Bool
 |[.vt x]=>some x
 |[.vb c]=>some c.den
 |_=>none
def zg:List (SV τ dn)->Option ByteArray
 |[.vz x]=>some x
 |_=>none
theorem D3 {cs:List (SV τ dn)} (h:zb cs=some x):cs.map (SV.av E N)=[.v (.int .i64 x)]:=by
 unfold zb at h;split at h<;>simp only [Oj,reduceCtorEq] at h<;>subst h<;>rfl
theorem D4 {cs:List (SV τ dn)} {x:UInt8} (h:zc cs=some x):cs.map (SV.av E N)=[.v (.int .u8 x.toNat)]:=by
 unfold zc at h;split at h<;>simp only [Oj,reduceCtorEq] at h;subst h;rfl
theorem D5 {cs:List (SV τ dn)} {x:eg} (h:zd cs=some x):cs.map (SV.av E N)=[.v (.int .u64 (x.n:Int))]:=by
 unfold zd at h;split at h<;>simp only [Oj,reduceCtorEq] at h;subst h;rfl
theorem D6 {cs:List (SV τ dn)} (h:ze cs=some x):cs.map (SV.av E N)=[.v (.int .u16 x)]:=by
 unfold ze at h;split at h<;>simp only [Oj,reduceCtorEq] at h;subst h;rfl
theorem D7 {cs:List (SV τ dn)} {x:Bool} (h:zf cs=some x):cs.map (SV.av E N)=[.v (.bool x)]:=by
 unfold zf at h;split at h<;>simp only [Oj,reduceCtorEq] at h<;>subst h<;>rfl
theorem D8 {cs:List (SV τ dn)} {x:ByteArray} (h:zg cs=some x):cs.map (SV.av E N)=[.v (.string x)]:=by
 unfold zg at h;split at h<;>simp only [Oj,reduceCtorEq] at h;subst h;rfl
theorem ee.of_eq {a b:List AV} (h:a=b):ee a b:=by
 subst h
 induction a with
 |nil=>exact .nil
 |cons x r ih=>exact .cons aQ.refl ih
def LY.i64:LY E LR.i64 where
 es x:=[.vi x]
 ds:=zb
 df:=0
 dq _ _:=rfl
 jb _ _ _ h:= .of_eq (D3 h)
 em:=true
 pu:=true
 fU _ _ _ h _:=D3 h
 len _:=rfl
 one _:=rfl
 nf _ _:=rfl
 jc _ _ _:=rfl
 pu1 _ _ _:=rfl
def LY.u8:LY E LR.u8 where
 es x:=[.vy x]
 ds:=zc
 df:=0
 dq _ _:=rfl
 jb _ _ _ h:= .of_eq (D4 h)
 em:=true
 pu:=true
 fU _ _ _ h _:=D4 h
 len _:=rfl
 one _:=rfl
 nf _ _:=rfl
 jc _ _ _:=rfl
 pu1 _ _ _:=rfl
 bt:=some (id,id)
 D2 N p h:=by simp only [Oj] at h;subst h;exact ⟨fun _=>rfl,fun _=>rfl⟩
def LY.u64:LY E LR.u64 where
 es x:=[.vu x]
 ds:=zd
 df:=⟨0,by decide⟩
 dq _ _:=rfl
 jb _ _ _ h:= .of_eq (D5 h)
 em:=true
 pu:=true
 fU _ _ _ h _:=D5 h
 len _:=rfl
 one _:=rfl
 nf _ _:=rfl
 jc _ _ _:=rfl
 pu1 _ _ _:=rfl
def LY.u16:LY E LR.u16 where
 es x:=[.vw .u16 x]
 ds:=ze
 df:=0
 dq _ _:=rfl
 jb _ _ _ h:= .of_eq (D6 h)
 em:=true
 pu:=true
 fU _ _ _ h _:=D6 h
 len _:=rfl
 one _:=rfl
 nf _ _:=rfl
 jc _ _ _:=rfl
 pu1 _ _ _:=rfl
def LY.u4:LY E LR.u4 where
 es x:=[.vb (.b x)]
 ds:=zf
 df:=false
 dq _ _:=rfl
 jb _ _ _ h:= .of_eq (D7 h)
 em:=true
 pu:=true
 fU _ _ _ h _:=D7 h
 len _:=rfl
 one _:=rfl
 nf _ _:=rfl
 jc _ _ _:=rfl
 pu1 _ _ _:=rfl
def LY.str:LY E LR.str where
 es x:=[.vz x]
 ds:=zg
 df:=ByteArray.empty
 dq _ _:=rfl
 jb _ _ _ h:= .of_eq (D8 h)
 em:=true
 pu:=true
 fU _ _ _ h _:=D8 h
 len _:=rfl
 one _:=rfl
 nf _ _:=rfl
 jc _ _ _:=rfl
 pu1 _ _ _:=rfl
def N8 {β:Type} (n:Nat) (a:List (SV τ dn)->Option α) (b:List (SV τ dn)->Option β) (cs:List (SV τ dn)):Option (α×β):=
 match a (cs.take n),b (cs.drop n) with
 |some x,some y=>some (x,y)
 |_,_=>none
def rZ {α:Type} (em:Bool) (ds:List (SV τ dn)->Option α):List (List (SV τ dn))->Option (List α)
 |[]=>some []
 |cs::r=>if (em||cs.all SV.ne)=true then (match ds cs,rZ em ds r with
  |some x,some l=>some (x::l)
  |_,_=>none) else none
theorem D9 {t:τ} {R:LR (dn t)} (A:LY E R) (N:aC):∀{els:List (List (SV τ dn))} {xs:List (dn t)},rZ A.em A.ds els=some xs->SV.bR E N els=xs.map (R.ea N.ρ)
 |[],xs,h=>by simp only [rZ,Oj] at h;subst h;rfl
 |cs::r,xs,h=>by
  simp only [rZ] at h
  split at h
  ·rename_i hn
   split at h
   ·rename_i x l h1 h2
    simp only [Oj] at h;subst h
    simp only [SV.bR,OD,SV.bw,A.fU N _ _ h1 (by rw [OO] at hn;exact hn),D9 A N h2]
   ·simp at h
  ·simp at h
section
variable [DecidableEq τ]
def zh (t:τ) (sz:Nat) (em:Bool) (ds:List (SV τ dn)->Option (dn t)):List (SV τ dn)->Option (List (dn t))
 |[.vl t' xs]=>if h:t'=t then some (h▸xs) else none
 |[.vc k els]=>if k=sz then rZ em ds els else none
 |[.emp]=>some []
 |_=>none
theorem Ea {t:τ} {R:LR (dn t)} (A:LY E R) (hs:E.sz t=R.sz) (he:∀ρ,E.ea ρ t=R.ea ρ) (N:aC) {cs:List (SV τ dn)} {xs:List (dn t)} (h:zh t R.sz A.em A.ds cs=some xs):ee (cs.map (SV.av E N)) ((LR.list R).ea N.ρ xs)/\(cs.all SV.ne=true->cs.map (SV.av E N)=(LR.list R).ea N.ρ xs):=by
 unfold zh at h
 split at h
 ·rename_i t' ys
  split at h
  ·rename_i ht
   subst ht
   simp only [Oj] at h;subst h
   have:[SV.vl t' ys].map (SV.av E N)=(LR.list R).ea N.ρ ys:=by
    simp only [OD,Pa,SV.av,hs,he];rfl
   exact ⟨.of_eq this,fun _=>this⟩
  ·simp at h
 ·rename_i k els
  split at h
  ·rename_i hk
   subst hk
   have:[SV.vc R.sz els].map (SV.av E N)=(LR.list R).ea N.ρ xs:=by
    simp only [OD,Pa,SV.av,D9 A N h];rfl
   exact ⟨.of_eq this,fun _=>this⟩
  ·simp at h
 ·simp only [Oj] at h;subst h
  exact ⟨.cons aQ.emp .nil,fun hn=>by simp [SV.ne] at hn⟩
 ·simp at h
def LY.list {t:τ} {R:LR (dn t)} (A:LY E R) (hs:E.sz t=R.sz) (he:∀ρ,E.ea ρ t=R.ea ρ):LY E (LR.list R) where
 es x:=[.vl t x]
 ds:=zh t R.sz A.em A.ds
 df:=[]
 dq N x:=by simp only [OD,Pa,SV.av,hs,he];rfl
 jb N cs x h:=(Ea A hs he N h).1
 em:=false
 pu:=true
 fU N cs x h hn:=(Ea A hs he N h).2 (hn.resolve_left (by simp))
 len _:=rfl
 one _:=rfl
 nf _ _:=rfl
 jc ρ my x:=by show [AV.aU R.sz (x.map (R.ea ρ))]=[AV.aU R.sz (x.map (R.ea my))];rw [funext fun y=>A.jc ρ my y]
 pu1 _ _ _:=rfl
end
def Mi (E:TE τ dn) (ta:τ) (A:List (Nat×List (dn ta))) {α β:Type} (R:LR α) (R':LR β) (f:α->β) (O:α->Prop):Prop:=
 R'.sz=R.sz/\∀(N:aC) (φ:AV->AV),(∀a,a.pu1=true->φ a=a)->(∀id n,dy A id->(fA A id).length=n->φ (.own id (E.sz ta) 0 n)= .aU (E.sz ta) ((fA A id).map (E.ea N.ρ ta)))->∀x,O x->(R.ea N.ρ x).map φ=R'.ea N.ρ (f x)
abbrev FZ (τ:Type) (dn:τ->Type):Type:=(t ta:τ)->(A:List (Nat×List (dn ta)))->Option ((t':τ)×(dn t->dn t')×(dn t->Prop))
def TE.mP (lr:(t:τ)->LR (dn t)):TE τ dn:=⟨fun t=>(lr t).sz,fun ρ t=>(lr t).ea ρ⟩
def TD.mP {lr:(t:τ)->LR (dn t)} (ly:(t:τ)->LY (TE.mP lr) (lr t)) (ag:τ->Bool) (hint:Nat->Nat->Option τ) (neg:Bool) (ar:Option τ:=none) (hr:τ->Bool:=fun _=>false) (fz:FZ τ dn:=fun _ _ _=>none) (th:(t t':τ)->Option (dn t->dn t'):=fun _ _=>none):TD τ dn where
 toTE:=TE.mP lr
 df t:=(ly t).df
 es t:=(ly t).es
 ds t:=(ly t).ds
 ag:=ag
 pu t:=(ly t).pu
 hint:=hint
 neg:=neg
 em t:=(ly t).em
 ar:=ar
 hr:=hr
 fz:=fz
 bt t:=(ly t).bt
 th:=th
theorem TD.Mj {lr:(t:τ)->LR (dn t)} {ly:(t:τ)->LY (TE.mP lr) (lr t)} {ag:τ->Bool} {hint:Nat->Nat->Option τ} {neg:Bool} {ar:Option τ} {hr:τ->Bool} {fz:FZ τ dn} {th:(t t':τ)->Option (dn t->dn t')} (hfz:∀(t ta:τ) (A:List (Nat×List (dn ta))) (t':τ) (f:dn t->dn t') (O:dn t->Prop),fz t ta A=some ⟨t',f,O⟩->Mi (TE.mP lr) ta A (lr t) (lr t') f O:=by intro t ta A t' f O h;simp at h) (Ml:∀(ρ:Nat->AV) (t t':τ) (f:dn t->dn t'),th t t'=some f->(lr t').sz=(lr t).sz/\∀x,(lr t').ea ρ (f x)=(lr t).ea ρ x:=by intro ρ t t' f h;simp at h):aZ (TD.mP ly ag hint neg ar hr fz th) where
 dq N t x:=(ly t).dq N x
 jb N t cs x h:=(ly t).jb N cs x h
 fU N t cs x h hn:=(ly t).fU N cs x h (by unfold TD.nR at hn;rw [OO] at hn;exact hn)
 len t x:=(ly t).len x
 one t x:=(ly t).one x
 nf p t x:=(ly t).nf p x
 jc ρ my t x _:=(ly t).jc ρ my x
 pu1 N t x h:=(ly t).pu1 N x h
 bt N t p h:=(ly t).D2 N p h
 th:=Ml
 fz N φ t ta A t' f O h h1 h2:=⟨(hfz t ta A t' f O h).1,fun x hx=>(hfz t ta A t' f O h).2 N φ h1 h2 x hx⟩
end
open Go.RowKit
structure LG {α:Type} [aV α] (R:LR α) where
 zj:α->Prop
 sz:R.sz=aV.size α
 av:∀{w:World} {cs:List Value} {x:α},aV.rep w w.heap.size cs x->R2 (aj (E0 w fun b=>b<w.heap.size)) cs (R.ea (fun _=> .dead) x)
 one:∀{w:World} {cs:List Value} {x:α},aV.rep w w.heap.size cs x->∀v,v∈cs->v.oneCell'=true
 pu:∀(x:α) c,c∈R.ea (fun _=> .dead) x->Pu c
 bg:∀{w:World} {cs:List Value} {x:α},aV.rep w w.heap.size cs x->zj x
def LG.i64:LG LR.i64 where
 zj:=bT
 sz:=rfl
 av h:=by obtain ⟨rfl,_⟩:=h;exact .cons (.v rfl) .nil
 one h v hv:=by obtain ⟨rfl,_⟩:=h;simp at hv;subst hv;rfl
 pu x c hc:=by simp [LR.i64] at hc;subst hc;exact .v
 bg h:=h.2
def LG.u8:LG LR.u8 where
 zj _:=True
 sz:=rfl
 av h:=by cases h;exact .cons (.v rfl) .nil
 one h v hv:=by cases h;simp at hv;subst hv;rfl
 pu x c hc:=by simp [LR.u8] at hc;subst hc;exact .v
 bg _:=trivial
def N0:aC:=⟨fun _=>0,fun _=>0,fun _=> .dead⟩
section
variable {τ:Type} {dn:τ->Type} {D:TD τ dn}
theorem zk (ok:aZ D) {t:τ} {x:dn t} {v:Value} (ha:D.ag t=false) (h:R2 (aj E) [v] (D.ea (fun _=> .dead) t x)):aj E v ((D.en t x).av D.toTE N0):=by
 have one:∀l:List AV,[v].length=l.length->∃b,l=[b]:=fun l hl=>by
  match l with
  |[b]=>exact ⟨b,rfl⟩
  |[]=>simp at hl
  |_::_::_=>simp at hl
 obtain ⟨b,hb⟩:=one _ h.len
 rw [ya (N:=N0) ok ha hb]
 have h2:R2 (aj E) [v] [b]:=by rw [<-hb];exact h
 cases h2 with|cons h _=>exact h
end
open Go.RowKit
inductive Tc where
 |dN
 |iI
 |cW
 |r7
 |mQ
 |lW
 |r8
 |r9
def Tc.no:Tc->Nat
 | .dN=>0
 | .iI=>1
 | .cW=>2
 | .r7=>3
 | .mQ=>4
 | .lW=>5
 | .r8=>6
 | .r9=>7
def Tc.of:Nat->Tc
 |0=> .dN
 |1=> .iI
 |2=> .cW
 |3=> .r7
 |4=> .mQ
 |5=> .lW
 |6=> .r8
 |_=> .r9
theorem Tc.Ec (a:Tc):Tc.of a.no=a:=by cases a<;>rfl
instance:DecidableEq Tc:=fun a b=>match Nat.decEq a.no b.no with
 |isTrue h=>isTrue (by rw [<-Tc.Ec a,h,Tc.Ec])
 |isFalse h=>isFalse fun e=>h (by rw [e])
abbrev Tc.dn:Tc->Type
 | .dN=>Int
 | .iI=>UInt8
 | .cW=>Int
 | .r7=>eg
 | .mQ=>Bool
 | .lW=>ByteArray
 | .r8=>(List Int)
 | .r9=>(List UInt8)
def Tc.lr:(t:Tc)->LR t.dn
 | .dN=>LR.i64
 | .iI=>LR.u8
 | .cW=>LR.u16
 | .r7=>LR.u64
 | .mQ=>LR.u4
 | .lW=>LR.str
 | .r8=>(LR.list LR.i64)
 | .r9=>(LR.list LR.u8)
abbrev tE:TE Tc Tc.dn:=TE.mP Tc.lr
def Tc.ly:(t:Tc)->LY tE t.lr
 | .dN=>LY.i64
 | .iI=>LY.u8
 | .cW=>LY.u16
 | .r7=>LY.u64
 | .mQ=>LY.u4
 | .lW=>LY.str
 | .r8=>(LY.list (t:=Tc.dN) LY.i64 rfl fun _=>rfl)
 | .r9=>(LY.list (t:=Tc.iI) LY.u8 rfl fun _=>rfl)
def Tc.ag:Tc->Bool
 |_=>false
def Mm (sz bytes:Nat):Option Tc:=bif Nat.beq sz 1&&Nat.beq bytes 1 then some .iI else bif Nat.beq sz 1&&Nat.beq bytes 8 then some .dN else none
def tD:TD Tc Tc.dn:=TD.mP Tc.ly Tc.ag Mm false
theorem lX:aZ tD:=TD.Mj
open Go.RowKit
def kI:Nat->Nat->Nat
 |0,_=>0
 |k+1,n=>n%2+kI k (n / 2)
def oi:ByteArray:=⟨#[0,1,1,2,1,2,2,3,1,2,2,3,2,3,3,4,1,2,2,3,2,3,3,4,2,3,3,4,3,4,4,5,1,2,2,3,2,3,3,4,2,3,3,4,3,4,4,5,2,3,3,4,3,4,4,5,3,4,4,5,4,5,5,6,1,2,2,3,2,3,3,4,2,3,3,4,3,4,4,5,2,3,3,4,3,4,4,5,3,4,4,5,4,5,5,6,2,3,3,4,3,4,4,5,3,4,4,5,4,5,5,6,3,4,4,5,4,5,5,6,4,5,5,6,5,6,6,7,1,2,2,3,2,3,3,4,2,3,3,4,3,4,4,5,2,3,3,4,3,4,4,5,3,4,4,5,4,5,5,6,2,3,3,4,3,4,4,5,3,4,4,5,4,5,5,6,3,4,4,5,4,5,5,6,4,5,5,6,5,6,6,7,2,3,3,4,3,4,4,5,3,4,4,5,4,5,5,6,3,4,4,5,4,5,5,6,4,5,5,6,5,6,6,7,3,4,4,5,4,5,5,6,4,5,5,6,5,6,6,7,4,5,5,6,5,6,6,7,5,6,6,7,6,7,7,8]⟩
theorem Mn:((List.range 256).all fun i=>Nat.beq (gb oi i).toNat (kI 8 i))=true:=by decide+kernel
theorem Ed (h:i<256):(gb oi i).toNat=kI 8 i:=Oy (Ot.1 Mn i (OZ.2 h))
theorem zl:∀k n,kI k n<=k
 |0,_=>Ox _
 |k+1,n=>by unfold kI;have:=zl k (n / 2);omega
def lY (x:Nat):Nat:=kI 8 (x / 256)+kI 8 (x%256)
def odW (x:Int):Bool:=decide (lY x.toNat%2=1)
def gh (w:Nat):Nat->Nat
 |0=>0
 |p+1=>if w / 2^p%2=1 then gh w p^^^p else gh w p
theorem zm (w:Nat):∀p,p<=16->gh w p<16
 |0,_=>by unfold gh;omega
 |p+1,h=>by
  unfold gh
  have:=zm w p (by omega)
  split
  ·exact Nat.xor_lt_two_pow (n:=4) this (by omega)
  ·exact this
def synI (x:Int):Int:=(gh x.toNat 13:Int)
theorem zn (h:0<=x) (k:Nat):x.fdiv ((2:Int)^k)=((x.toNat / 2^k:Nat):Int):=by
 have e:((2:Int)^k)=((2^k:Nat):Int):=by simp
 rw [e,Int.fdiv_eq_ediv_of_nonneg _ (Int.natCast_nonneg _)]
 conv=>lhs;rw [<-Int.toNat_of_nonneg h]
 rfl
theorem Ee (h:n<65536):bits BinOp.and IntKind.u16 (n:Int) 1=((n%2:Nat):Int):=by
 rw [show (1:Int)=((1:Nat):Int) from rfl,u16_and_nat n 1 h (by decide),Nat.and_one_is_mod]
theorem Mo (h:0<=x/\x<65536):bits BinOp.and IntKind.u16 x 255=((x.toNat%256:Nat):Int):=by
 rw [u16_and x 255 h.1 h.2 (by decide) (by decide)]
 have:=Nat.and_two_pow_sub_one_eq_mod x.toNat 8
 rw [show (255:Int).toNat=2^8 - 1 from rfl,this]
structure dV (w p o:Int):Prop where
 w0:0<=w/\w<65536
 lo:1<=p
 hi:p<=13
 eq:o=(gh w.toNat p.toNat:Int)
theorem dV.start {w:Int} (h:0<=w/\w<65536):dV w 1 0:=⟨h,by omega,by omega,by
 show (0:Int)=((if w.toNat / 2^0%2=1 then 0^^^0 else 0:Nat):Int)
 split<;>rfl⟩
theorem dV.bit {w p o:Int} (h:dV w p o):bits BinOp.and IntKind.u16 (w.fdiv ((2:Int)^min p.toNat IntKind.u16.bits)) 1=((w.toNat / 2^p.toNat%2:Nat):Int):=by
 have h1:=h.lo;have h2:=h.hi;have h0:=h.w0
 rw [show min p.toNat IntKind.u16.bits=p.toNat by show min p.toNat 16=_;omega,zn h0.1,Ee]
 exact Qd (Nat.div_le_self _ _) (by omega)
theorem dV.bd {w p o:Int} (h:dV w p o):0<=o/\o<16:=by
 have:=zm w.toNat p.toNat (by have:=h.hi;omega)
 rw [h.eq];omega
theorem dV.yes {w p o:Int} (h:dV w p o) (hp:p<13) (e:bits BinOp.and IntKind.u16 (w.fdiv ((2:Int)^min p.toNat IntKind.u16.bits)) 1=1):dV w (p+1) ((o.toNat^^^p.toNat:Nat):Int):=by
 have h1:=h.lo
 rw [h.bit] at e
 refine ⟨h.w0,by omega,by omega, ?_⟩
 rw [show (p+1).toNat=p.toNat+1 by omega,gh,Om (by omega),h.eq];rfl
theorem dV.no {w p o:Int} (h:dV w p o) (hp:p<13) (e:¬bits BinOp.and IntKind.u16 (w.fdiv ((2:Int)^min p.toNat IntKind.u16.bits)) 1=1):dV w (p+1) o:=by
 have h1:=h.lo
 rw [h.bit] at e
 refine ⟨h.w0,by omega,by omega, ?_⟩
 rw [show (p+1).toNat=p.toNat+1 by omega,gh,Ol (by omega),h.eq]
theorem dV.fin {w p o:Int} (h:dV w p o) (hp:13<=p):o=synI w:=by
 have:=h.hi
 rw [h.eq,show p=13 by omega];rfl
def zp:dt Tc Tc.dn:=⟨17,[.ty .cW],fun x=>(fun (x:Int)=>0<=x/\x<65536) x.1,[.dN],fun x=>(fun (x:Int)=>(lY x.toNat:Int)) x.1⟩
abbrev sa:=(ByteArray.mk #[(0:UInt8),(1:UInt8),(1:UInt8),(2:UInt8),(1:UInt8),(2:UInt8),(2:UInt8),(3:UInt8),(1:UInt8),(2:UInt8),(2:UInt8),(3:UInt8),(2:UInt8),(3:UInt8),(3:UInt8),(4:UInt8),(1:UInt8),(2:UInt8),(2:UInt8),(3:UInt8),(2:UInt8),(3:UInt8),(3:UInt8),(4:UInt8),(2:UInt8),(3:UInt8),(3:UInt8),(4:UInt8),(3:UInt8),(4:UInt8),(4:UInt8),(5:UInt8),(1:UInt8),(2:UInt8),(2:UInt8),(3:UInt8),(2:UInt8),(3:UInt8),(3:UInt8),(4:UInt8),(2:UInt8),(3:UInt8),(3:UInt8),(4:UInt8),(3:UInt8),(4:UInt8),(4:UInt8),(5:UInt8),(2:UInt8),(3:UInt8),(3:UInt8),(4:UInt8),(3:UInt8),(4:UInt8),(4:UInt8),(5:UInt8),(3:UInt8),(4:UInt8),(4:UInt8),(5:UInt8),(4:UInt8),(5:UInt8),(5:UInt8),(6:UInt8),(1:UInt8),(2:UInt8),(2:UInt8),(3:UInt8),(2:UInt8),(3:UInt8),(3:UInt8),(4:UInt8),(2:UInt8),(3:UInt8),(3:UInt8),(4:UInt8),(3:UInt8),(4:UInt8),(4:UInt8),(5:UInt8),(2:UInt8),(3:UInt8),(3:UInt8),(4:UInt8),(3:UInt8),(4:UInt8),(4:UInt8),(5:UInt8),(3:UInt8),(4:UInt8),(4:UInt8),(5:UInt8),(4:UInt8),(5:UInt8),(5:UInt8),(6:UInt8),(2:UInt8),(3:UInt8),(3:UInt8),(4:UInt8),(3:UInt8),(4:UInt8),(4:UInt8),(5:UInt8),(3:UInt8),(4:UInt8),(4:UInt8),(5:UInt8),(4:UInt8),(5:UInt8),(5:UInt8),(6:UInt8),(3:UInt8),(4:UInt8),(4:UInt8),(5:UInt8),(4:UInt8),(5:UInt8),(5:UInt8),(6:UInt8),(4:UInt8),(5:UInt8),(5:UInt8),(6:UInt8),(5:UInt8),(6:UInt8),(6:UInt8),(7:UInt8),(1:UInt8),(2:UInt8),(2:UInt8),(3:UInt8),(2:UInt8),(3:UInt8),(3:UInt8),(4:UInt8),(2:UInt8),(3:UInt8),(3:UInt8),(4:UInt8),(3:UInt8),(4:UInt8),(4:UInt8),(5:UInt8),(2:UInt8),(3:UInt8),(3:UInt8),(4:UInt8),(3:UInt8),(4:UInt8),(4:UInt8),(5:UInt8),(3:UInt8),(4:UInt8),(4:UInt8),(5:UInt8),(4:UInt8),(5:UInt8),(5:UInt8),(6:UInt8),(2:UInt8),(3:UInt8),(3:UInt8),(4:UInt8),(3:UInt8),(4:UInt8),(4:UInt8),(5:UInt8),(3:UInt8),(4:UInt8),(4:UInt8),(5:UInt8),(4:UInt8),(5:UInt8),(5:UInt8),(6:UInt8),(3:UInt8),(4:UInt8),(4:UInt8),(5:UInt8),(4:UInt8),(5:UInt8),(5:UInt8),(6:UInt8),(4:UInt8),(5:UInt8),(5:UInt8),(6:UInt8),(5:UInt8),(6:UInt8),(6:UInt8),(7:UInt8),(2:UInt8),(3:UInt8),(3:UInt8),(4:UInt8),(3:UInt8),(4:UInt8),(4:UInt8),(5:UInt8),(3:UInt8),(4:UInt8),(4:UInt8),(5:UInt8),(4:UInt8),(5:UInt8),(5:UInt8),(6:UInt8),(3:UInt8),(4:UInt8),(4:UInt8),(5:UInt8),(4:UInt8),(5:UInt8),(5:UInt8),(6:UInt8),(4:UInt8),(5:UInt8),(5:UInt8),(6:UInt8),(5:UInt8),(6:UInt8),(6:UInt8),(7:UInt8),(3:UInt8),(4:UInt8),(4:UInt8),(5:UInt8),(4:UInt8),(5:UInt8),(5:UInt8),(6:UInt8),(4:UInt8),(5:UInt8),(5:UInt8),(6:UInt8),(5:UInt8),(6:UInt8),(6:UInt8),(7:UInt8),(4:UInt8),(5:UInt8),(5:UInt8),(6:UInt8),(5:UInt8),(6:UInt8),(6:UInt8),(7:UInt8),(5:UInt8),(6:UInt8),(6:UInt8),(7:UInt8),(6:UInt8),(7:UInt8),(7:UInt8),(8:UInt8)])
theorem Mp (x:Int) (hp:0<=x/\x<65536):((0:Int)<=x.fdiv ((2:Int)^min (uN (Int.toNat (8:Int))).n IntKind.u16.bits)/\x.fdiv ((2:Int)^min (uN (Int.toNat (8:Int))).n IntKind.u16.bits)<(↑sa.size:Int))/\((0:Int)<=bits BinOp.and IntKind.u16 x (255:Int)/\bits BinOp.and IntKind.u16 x (255:Int)<(↑sa.size:Int))/\(↑(gb sa (x.fdiv ((2:Int)^min (uN (Int.toNat (8:Int))).n IntKind.u16.bits)).toNat+gb sa (bits BinOp.and IntKind.u16 x (255:Int)).toNat).toNat:Int)=(↑(lY x.toNat):Int):=by
 delta sa
 show (0<=x.fdiv ((2:Int)^min (uN (Int.toNat 8)).n IntKind.u16.bits)/\x.fdiv ((2:Int)^min (uN (Int.toNat 8)).n IntKind.u16.bits)<(oi.size:Int))/\(0<=bits BinOp.and IntKind.u16 x 255/\bits BinOp.and IntKind.u16 x 255<(oi.size:Int))/\((gb oi (x.fdiv ((2:Int)^min (uN (Int.toNat 8)).n IntKind.u16.bits)).toNat+gb oi (bits BinOp.and IntKind.u16 x 255).toNat).toNat:Int)=(lY x.toNat:Int)
 have e1:x.fdiv ((2:Int)^min (uN (Int.toNat 8)).n IntKind.u16.bits)=((x.toNat / 256:Nat):Int):=zn hp.1 8
 have e2:=Mo hp
 have e3:oi.size=256:=rfl
 have e4:x.toNat / 256<256:=by omega
 have e5:x.toNat%256<256:=by omega
 have e6:=Ed e4
 have e7:=Ed e5
 have e8:=zl 8 (x.toNat / 256)
 have e9:=zl 8 (x.toNat%256)
 rw [e1,e2,e3]
 refine ⟨by omega,by omega, ?_⟩
 rw [Pl,Pl,UInt8.toNat_add,e6,e7]
 unfold lY
 rw [PI (by omega)]
theorem Mq:zp.Ok Try.prog tD:=pH lX (Δ:=[]) trivial (Ω:=[]) trivial zp BH BI (fun _=>[]) (fun _=>trivial) 0 (fun x=>(fun (x:Int)=>(fun _=>none)) x.1) fun x hp=>Eq.mp (by kernel_rfl) (Mp x.1 hp)
def Ef:dt Tc Tc.dn:=⟨13,[.ty .cW],fun x=>(fun (x:Int)=>0<=x/\x<65536) x.1,[.mQ],fun x=>(fun (x:Int)=>odW x) x.1⟩
theorem Mr (x:Int) (hp:0<=x/\x<65536):((0:Int)<=x/\x<(65536:Int))/\((0:Int)<=(↑(lY x.toNat):Int)/\(2:Int)≠(0:Int))/\((↑(lY x.toNat):Int)%(2:Int)==(1:Int))=odW x:=by
 refine ⟨hp,by omega, ?_⟩
 unfold odW
 rw [PR,beq_iff_eq,Pn];omega
theorem Ms:Ef.Ok Try.prog tD:=pH lX (Δ:=[zp]) ⟨Mq,trivial⟩ (Ω:=[]) trivial Ef BD ef (fun _=>[]) (fun _=>trivial) 0 (fun x=>(fun (x:Int)=>(fun _=>none)) x.1) fun x hp=>Eq.mp (by kernel_rfl) (Mr x.1 hp)
def pI (w:Int) (p:Int) (o:Int):Prop:=dV w p o
def Eg:dt Tc Tc.dn:=⟨12,[.ty .cW],fun x=>(fun (w:Int)=>0<=w/\w<65536) x.1,[.dN],fun x=>(fun (w:Int)=>synI w) x.1⟩
theorem Mt (w:Int) (hp:0<=w/\w<65536):pI w (1:Int) (0:Int)/\∀(x jX:Int),pI w x jX->(x<(13:Int)->(0:Int)<=x/\(bits BinOp.and IntKind.u16 (w.fdiv ((2:Int)^min x.toNat IntKind.u16.bits)) (1:Int)=(1:Int)->((0:Int)<=jX/\(0:Int)<=x/\bT jX/\bT x)/\bT (x+(1:Int))/\pI w (x+(1:Int)) (↑(jX.toNat^^^x.toNat):Int)/\((13:Int) - (x+(1:Int))).toNat<((13:Int) - x).toNat)/\(¬bits BinOp.and IntKind.u16 (w.fdiv ((2:Int)^min x.toNat IntKind.u16.bits)) (1:Int)=(1:Int)->bT (x+(1:Int))/\pI w (x+(1:Int)) jX/\((13:Int) - (x+(1:Int))).toNat<((13:Int) - x).toNat))/\((13:Int)<=x->jX=synI w):=by
 have h1:= @dV.start w hp
 have h2:= @dV.yes w
 have h3:= @dV.no w
 have h4:= @dV.fin w
 have h5:= @dV.bd w
 have h6:= @dV.lo w
 have h7:= @dV.hi w
 (repeat' (first|apply And.intro|intro _))<;>first|assumption|trivial|omega|(grind [pI,bT])|trace_state
theorem Mu:Eg.Ok Try.prog tD:=pH lX (Δ:=[]) trivial (Ω:=[]) trivial Eg BB tb (fun _=>[]) (fun _=>trivial) 0 (fun x=>(fun (w:Int)=>(fun k=>bif Nat.beq k 0 then some (.inv [.sl 3 .dN, .sl 2 .dN] (fun zo zv=>(fun (p:Int) (o:Int)=>pI w p o) zv.1 zv.2.1) (fun zo zv=>(fun (p:Int) (o:Int)=>(13 - p).toNat) zv.1 zv.2.1)) else none)) x.1) fun x hp=>Eq.mp (by kernel_rfl) (Mt x.1 hp)
end Go.Proofs.Ytimomnfobfjggaa
