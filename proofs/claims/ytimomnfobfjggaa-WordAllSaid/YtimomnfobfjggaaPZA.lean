/- What functions answer (contracts). No condition. -/
import Derived.Test.YtimomnfobfjggaaPSxM
import Derived.Test.YtimomnfobfjggaaPAvRng
import Derived.Test.YtimomnfobfjggaaPSxK
import Derived.Laws.BitsAllLaws
set_option linter.unusedSectionVars false
set_option linter.unusedSimpArgs false
set_option linter.unusedVariables false
set_option maxHeartbeats 4000000
set_option maxRecDepth 100000
namespace Go.Proofs.Ytimomnfobfjggaa
variable {F:cT} {E:Env} {Q Q':Exit->Go.Act->World->Prop} {f:FuncId} {a:Go.Act} {K:Go.Act->World->Prop} {x:Int} {ps:List (List az)} {n k0 i base q:Nat} {g:Nat->Option Bk} {J:Nat->Prop} {N N':aC} {P:Program} {s s':S3} {α:Type} {w:World}
open Go.RowKit
abbrev QH:=@List.getElem?_zip_eq_some
section
variable {F:Go.Fence} {m:Nat} {P:Program} {ops:Array Oper}
theorem wpIn_exit (hq:∀e a w,e≠ .normal->Q e a w->Q' e a w) {o:Oper} (h:o.wpIn F m P a w K Q):o.wpIn F m P a w K Q':=by
 unfold Oper.wpIn at*
 refine ⟨h.1, ?_⟩
 have hh:=h.2
 generalize (o.semAt F.round a.eval).run P w=r at*
 cases r with
 |ok x w'=>
  cases x<;>simp only [Oper.uponIn] at hh ⊢ <;>
   first
    |exact hh
    |exact ⟨hh.1,CallsIn.mono hh.2 (fun e u6 he=>by cases e<;>first|exact he|exact hq _ _ _ (by simp) he|(obtain ⟨a1,w1,h1⟩:=he;exact ⟨a1,w1,hq _ _ _ (by simp) h1⟩))⟩
    |exact ⟨hh.1,RoundIn.mono hh.2 (fun e u6 he=>by cases e<;>first|exact he|exact hq _ _ _ (by simp) he|(obtain ⟨a1,w1,h1⟩:=he;exact ⟨a1,w1,hq _ _ _ (by simp) h1⟩))⟩
 |halt x w'=>cases x<;>simp only [Oper.uponIn] at hh ⊢ <;>first|exact hh|exact hq _ _ _ (by simp) hh
theorem LP (hq:∀e a w,e≠ .normal->Q e a w->Q' e a w) (h:wpOpIn F m P ops Q i K a w):wpOpIn F m P ops Q' i K a w:=by
 unfold wpOpIn at*
 split
 ·rename_i ho;simpa [ho] using h
 ·rename_i o ho
  simp only [ho] at h
  split
  ·rename_i hw;simp only [hw,OK] at h;exact wpIn_exit hq h
  ·rename_i hw;simp only [hw] at h;exact h
theorem Dz {Q Q':Exit->Go.Act->World->Prop} (hq:∀e a w,e≠ .normal->Q e a w->Q' e a w) {l2:List Nat} (hn:∀a w,Q .normal a w->wpOpsIn F m P ops Q' l2 a w):∀{l1:List Nat} {a:Go.Act} {w:World},wpOpsIn F m P ops Q l1 a w->wpOpsIn F m P ops Q' (l1++l2) a w
 |[],a,w,h=>hn a w h
 |i::l1,a,w,h=>by
  rw [wpOpsIn_cons] at h
  rw [P3,wpOpsIn_cons]
  exact LP hq (wpOpIn_mono (fun a w h=>Dz hq hn h) h)
inductive pO (P:Program) (n k0:Nat):List (List az)->S3->S3->Prop
 |nil {s:S3}:pO P n k0 [] s s
 |cons {p:List az} {ps:List (List az)} {s t u s':S3} (hw:s.Le k0 n t) (h:gB P n k0 p t.σ t.g t.k u.σ u.g u.k) (r:pO P n k0 ps u s'):pO P n k0 (p::ps) s s'
theorem LQ {rd:Option Nat} {E0:Env} (hH:∀id,E0.kn id->id<k0) {w0:World} (h:pO P n k0 ps s s'):
  ∀(i:Nat) (a:Go.Act) (w:World),(∀j,j<ps.flatten.length->∃op,ops[i+j]? =some op/\∃o,ps.flatten[j]? =some o/\fv P ops op=some o)->eK E0 J base w0 n s.σ s.g s.k a w->(∀a w,eK E0 J base w0 n s'.σ s'.g s'.k a w->Q .normal a w)->wpOpsIn (cC rd) 0 P ops Q (List.range' i ps.flatten.length) a w:=by
 induction h with
 |nil=>intro i a w _ hr hQ;exact hQ a w hr
 | @cons p ps s t u s' hw h r ih=>
  intro i a w dO hrel hQ
  rw [List.flatten_cons,PV, <-List.range'_append_1]
  rw [List.flatten_cons,PV] at dO
  refine Dz (Q:=fun e a w=>match e with| .normal=>wpOpsIn (cC rd) 0 P ops Q (List.range' (i+p.length) ps.flatten.length) a w|e=>Q e a w) (fun e a w he hh=>by cases e<;>first|exact hh|exact absurd rfl he) (fun a w hh=>hh) ?_
  refine AH hH h i a w (fun j hj=> ?_) (hw E0 J base w0 a w hH hrel) fun a w hr=> ?_
  ·obtain ⟨op,q1,o,q2,q3⟩:=dO j (by omega)
   exact ⟨op,q1,o,by rwa [PB hj] at q2,q3⟩
  ·refine ih (i+p.length) a w (fun j hj=> ?_) hr hQ
   obtain ⟨op,q1,o,q2,q3⟩:=dO (p.length+j) (by omega)
   exact ⟨op,by rw [Qe];exact q1,o,by rwa [PN (by omega),Nat.add_sub_cancel_left] at q2,q3⟩
theorem ED.LU (h:pO P n k0 ps s s'):ED P n k0 (.bK ps.flatten none) s .normal s':=by
 intro rd c E0 J base w0 a w cg hc hk hr
 obtain ⟨id,ops,draw,rfl,h1,h2⟩:=sY hc
 rcases h2 with ⟨rfl,_⟩|⟨_,d,hd,_⟩
 ·obtain ⟨k1,k2⟩:=qH h1
  refine wpIn_region ?_
  have hsz:ops.size=ps.flatten.length:=by rw [<-k1];simp
  rw [List.range_eq_range',hsz]
  refine LQ (ops:=ops) hk h 0 a w (fun j hj=> ?_) hr fun a' w' hr'=>⟨.normal,s',⟨rfl,rfl⟩,rfl,hr'⟩
  have hjs:j<ops.size:=by omega
  obtain ⟨o,m1,m2⟩:=k2 j ops[j] (by simp [hjs])
  exact ⟨ops[j],by rw [OZ];exact OY hjs,o,m1,m2⟩
 ·simp at hd
end
section
variable {τ:Type} {dn:τ->Type} [DecidableEq τ]
inductive LA (τ:Type) (dn:τ->Type) where
 |inv (vs:List (VK τ)) (I:VT dn vs->VT dn vs->Prop) (m:VT dn vs->VT dn vs->Nat)
 |LV (m:Nat)
 |iS (ss:List Nat)
 |DA (i:Nat)
 |cut (vs:List (VK τ)) (I:VT dn vs->VT dn vs->Prop)
 |eq (i:Nat) (z:Int)
 |py (i:Nat)
 |DB (f:Nat)
def yY (an:Nat->Option (LA τ dn)) (os:List az):List Nat:=os.flatMap fun o=>match o.dst with
 |some d=>match an (1000+d) with
  |some (.iS ss)=>ss
  |_=>[]
 |none=>[]
def DC (an:Nat->Option (LA τ dn)) (os:List az):Bool:=(yY an os).all fun i=>Nat.blt i 5000
def LW (an:Nat->Option (LA τ dn)) (os:List az):Option Nat:=match os with
 |o::_=>match o.dst with
  |some d=>match an (3000+d) with
   |some (.DA i)=>some i
   |_=>none
  |none=>none
 |[]=>none
def cutB (an:Nat->Option (LA τ dn)) (o:az):Bool:=match o.dst with
 |some d=>(match an (11000+d) with|some (.DB _)=>true|_=>false)||(match an (9000+d) with|some (.py _)=>true|_=>false)||(match an (7000+d) with|some (.eq _ _)=>true|_=>false)||(match an (5000+d) with|some (.cut _ _)=>true|_=>false)||(match an (1000+d) with|some (.iS _)=>true|_=>false)||(match an (3000+d) with|some (.DA _)=>true|_=>false)
 |none=>false
def pieces (an:Nat->Option (LA τ dn)):List az->List (List az)
 |[]=>[]
 |o::os=>match pieces an os with
  |[]=>[[o]]
  |[]::ps=>[o]::ps
  |(p::q)::ps=>bif cutB an p then [o]::(p::q)::ps else (o::p::q)::ps
omit [DecidableEq τ] in
theorem DD (an:Nat->Option (LA τ dn)):∀os:List az,(pieces an os).flatten=os
 |[]=>rfl
 |o::os=>by
  have ih:=DD an os
  unfold pieces
  split
  ·rename_i h;rw [h] at ih;simp at ih;simp [ih]
  ·rename_i h;rw [h] at ih;simp at ih;simp [ih]
  ·rename_i h
   rw [h] at ih
   cases hb:cutB an _ with
   |true=>rw [OL,List.flatten_cons,ih];rfl
   |false=>rw [O0,List.flatten_cons,P3, <-List.flatten_cons,ih]
def DE (an:Nat->Option (LA τ dn)) (os:List az):Option ((vs:List (VK τ))×(VT dn vs->VT dn vs->Prop)):=match os with
 |o::_=>match o.dst with
  |some d=>match an (5000+d) with
   |some (.cut vs I)=>some ⟨vs,I⟩
   |_=>none
  |none=>none
 |[]=>none
def DF (an:Nat->Option (LA τ dn)) (os:List az):Option (Nat×Int):=match os with
 |o::_=>match o.dst with
  |some d=>match an (7000+d) with
   |some (.eq i z)=>some (i,z)
   |_=>none
  |none=>none
 |[]=>none
def u7 (o:Option (Nat×Int)) (st:SS τ dn) (K:SS τ dn->Prop):Prop:=match o with
 |none=>K st
 |some (i,z)=>match st.gt i with
  |some (.vi x)=>x=z/\K (st.gi i (.vn z))
  |_=>K st
omit [DecidableEq τ] in
theorem DG {D:TD τ dn} {o:Option (Nat×Int)} {st:SS τ dn} {K:SS τ dn->Prop} (R:Rel D N st s) (h:u7 o st K):∃aw,Rel D N aw s/\aw.rt=st.rt/\aw.rm=st.rm/\aw.nx=st.nx/\K aw:=by
 unfold u7 at h
 split at h
 ·exact ⟨st,R,rfl,rfl,rfl,h⟩
 ·rename_i i z
  split at h
  ·rename_i x hx
   obtain ⟨hz,h⟩:=h
   refine ⟨st.gi i (.vn z),⟨fun N' hN=> ?_,R.inj,R.lt,R.ml,R.rl,R.sp⟩,rfl,rfl,rfl,h⟩
   have A:=R.at_ N' hN
   refine ⟨fun j v hv=> ?_,A.rs,A.bl,A.rb,A.ar⟩
   simp only [SS.gi,bk] at hv
   split at hv
   ·rename_i e
    simp only [OG] at hv
    subst hv;subst e
    rw [A.gt hx]
    simp only [SV.av,hz]
   ·exact A.sl j v hv
  ·exact ⟨st,R,rfl,rfl,rfl,h⟩
def LX (an:Nat->Option (LA τ dn)) (os:List az) (st:SS τ dn):List Nat:=match os with
 |o::_=>match o.dst with
  |some d=>match an (9000+d) with
   |some (.py i)=>match st.gt i with
    |some (.own nm _)=>match st.gm nm with
     |some (.bc _ els)=>els.flatMap fun cs=>cs.filterMap yr
     |_=>[]
    |_=>[]
   |_=>[]
  |none=>[]
 |[]=>[]
def se (an:Nat->Option (LA τ dn)) (os:List az):Option Nat:=match os with
 |o::_=>match o.dst with
  |some d=>match an (11000+d) with
   |some (.DB f)=>some f
   |_=>none
  |none=>none
 |[]=>none
def b7.wo (C:b7 τ dn) (o:Option Nat):b7 τ dn:=⟨C.P,C.D,(match o with
 |none=>C.Δ
 |some f=>C.Δ.filter fun c=> !Nat.beq c.f f),C.Ω,C.fl,C.J,o.isSome⟩
omit [DecidableEq τ] in
theorem b7.Ok.wo {C:b7 τ dn} (h:C.Ok) (o:Option Nat):(C.wo o).Ok:=by
 refine ⟨h.ok,fun c hc=> ?_,h.CM,h.inl⟩
 cases o with
 |none=>exact h.uF c hc
 |some f=>exact h.uF c (List.mem_filter.1 hc).1
def isBl:VK τ->Bool
 | .bl _ _=>true
 |_=>false
def u9 (D:TD τ dn) (c:Option ((vs:List (VK τ))×(VT dn vs->VT dn vs->Prop))) (st:SS τ dn) (K:SS τ dn->Prop):Prop:=match c with
 |none=>K st
 |some ⟨vs,I⟩=>match l7 D st vs with
  |some x0=>bif vs.all isBl&&okT (lessB st.nx) vs (vs.map (nmV st)) then I x0 x0/\uQ vs fun x=>I x0 x->K ⟨st.rt,st.rm,st.t,putM D vs (vs.map (nmV st)) x++st.m,st.nx⟩ else False
  |none=>False
theorem DH {D:TD τ dn} (ok:bh D) {c:Option ((vs:List (VK τ))×(VT dn vs->VT dn vs->Prop))} {st:SS τ dn} {K:SS τ dn->Prop} (R:Rel D N st s) (h:u9 D c st K):∃aw,Rel D N aw s/\aw.rt=st.rt/\aw.rm=st.rm/\aw.nx=st.nx/\K aw:=by
 unfold u9 at h
 split at h
 ·exact ⟨st,R,rfl,rfl,rfl,h⟩
 ·rename_i vs I
  split at h
  case h_2=>exact h.elim
  rename_i x0 hx
  cases hb:(vs.all isBl&&okT (lessB st.nx) vs (vs.map (nmV st))) with
  |false=>rw [hb] at h;exact h.elim
  |true=>
  rw [hb,OL] at h
  rw [OJ] at hb
  obtain ⟨bo,hT⟩:=hb
  have hk:=(uR.1 h.2) x0 h.1
  have kO:(vs.map (nmV st)).length=vs.length:=O7 ..
  have DI:∀nm B,getS (putM D vs (vs.map (nmV st)) x0++st.m) nm=some (some B)->(nm,some B)∈putM D vs (vs.map (nmV st)) x0\/getS st.m nm=some (some B):=fun nm B hB=>by
   rw [gj] at hB
   cases hq:getS (putM D vs (vs.map (nmV st)) x0) nm with
   |some w=>rw [hq] at hB;simp only [Qm,OG] at hB;subst hB;exact .inl (jq hq)
   |none=>rw [hq] at hB;simp only [P6] at hB;exact .inr hB
  have old:∀nm B,(nm,some B)∈putM D vs (vs.map (nmV st)) x0->(∃B',st.bB nm B')/\∀t A,B≠ .ar t A:=fun nm B hB=>by
   rcases uU hx kO nm B hB with ⟨j,v,p1,p2,p3,⟨B',p4⟩,p5⟩|⟨_,⟨B',p4⟩,p5⟩
   case inr=>exact ⟨⟨B',gL p4⟩,p5⟩
   rw [O6,p1] at p2
   simp only [OS,OG] at p2
   refine ⟨⟨B',by rw [<-p2];exact gL p4⟩,fun t A e=> ?_⟩
   have:=ON.1 bo v (Pd p1)
   rw [(p5 t A e).1] at this
   simp [isBl] at this
  have cQ:∀nm B,(⟨st.rt,st.rm,st.t,putM D vs (vs.map (nmV st)) x0++st.m,st.nx⟩:SS τ dn).bB nm B->(∃B',st.bB nm B')/\∀t A,B= .ar t A->st.bB nm (.ar t A):=fun nm B hB=>by
   rcases hB with hB|hB
   ·rcases DI nm B hB with h1|h1
    ·obtain ⟨q1,q2⟩:=old nm B h1
     exact ⟨q1,fun t A e=>absurd e (q2 t A)⟩
    ·exact ⟨⟨B, .inl h1⟩,fun t A e=>by subst e;exact .inl h1⟩
   ·exact ⟨⟨B, .inr hB⟩,fun t A e=>by subst e;exact .inr hB⟩
  refine ⟨⟨st.rt,st.rm,st.t,putM D vs (vs.map (nmV st)) x0++st.m,st.nx⟩,⟨fun N' hN=> ?_,R.inj,R.lt,fun nm B hB=> ?_,R.rl,fun t A hA id hid=> ?_⟩,rfl,rfl,rfl,hk⟩
  ·have A:=R.at_ N' hN
   refine ⟨A.sl,A.rs,fun nm B hB=> ?_,A.rb,fun t A' hA id hid=>A.ar t A' ((cQ 0 _ hA).2 t A' rfl) id hid⟩
   rcases DI nm B hB with h1|h1
   ·obtain ⟨B',e,q⟩:=kM ok (uT ok A hx) nm (some B) h1
    simp only [OG] at e;subst e
    exact q
   ·exact A.bl nm B h1
  ·show nm<st.nx
   have aL:getS (putM D vs (vs.map (nmV st)) x0++st.m) nm=some B:=hB
   rw [gj] at aL
   cases hq:getS (putM D vs (vs.map (nmV st)) x0) nm with
   |some w=>exact r8 (oz hT nm w (jq hq))
   |none=>rw [hq] at aL;simp only [P6] at aL;exact R.ml nm B aL
  ·have h1:=(cQ 0 _ hA).2 t A rfl
   obtain ⟨q1,q2⟩:=R.sp t A h1 id hid
   refine ⟨q1,fun nm B hB=> ?_⟩
   obtain ⟨⟨B',aL⟩,_⟩:=cQ nm B hB
   exact q2 nm B' aL
def AC.nl:AC->Nat
 | .seq a b=>a.nl+b.nl
 | .cond _ a b=>a.nl+b.nl
 | .block _ a=>a.nl
 | .loop a=>a.nl+1
 |_=>0
def AC.jr:AC->List Nat
 | .seq a b=>a.jr++b.jr
 | .cond _ a b=>a.jr++b.jr
 | .block _ a=>a.jr
 | .loop a=>a.jr
 | .bK os _=>os.filterMap az.dst
 |_=>[]
def j2 (D:TD τ dn) (st:SS τ dn):VK τ->SS τ dn
 | .ow i t=>match st.gt i with
  |some .emp=>bif Nat.blt 0 (D.sz t)&&(getS st.rt i).isNone then ⟨st.rt,st.rm,(i, .own st.nx (D.sz t))::st.t,(st.nx,some (.bl t []))::st.m,st.nx+1⟩ else st
  |_=>st
 | .so q f t _| .sg q f t _ _=>match st.gm q with
  |some (.bc Q [vs])=>match vs[f]? with
   |some .emp=>bif Nat.blt 0 (D.sz t)&&(Nat.blt 0 Q&&st.rw q) then ⟨st.rt,st.rm,st.t,(q,some (.bc Q [vs.set f (.own st.nx (D.sz t))]))::(st.nx,some (.bl t []))::st.m,st.nx+1⟩ else st
   |_=>st
  |_=>st
 |_=>st
def pP (D:TD τ dn):SS τ dn->List (VK τ)->SS τ dn
 |st,[]=>st
 |st,v::r=>pP D (j2 D st v) r
def yZ (B:SS τ dn->(Ex->SS τ dn->Prop)->Prop):Nat->SS τ dn->(Ex->SS τ dn->Prop)->Prop
 |0,_,_=>False
 |m+1,st,K=>B st fun e aw=>match e with
  | .normal=>yZ B m aw K
  |e=>K e aw
def okB (vs:List (VK τ)) (T:List Nat) (st:SS τ dn) (p:Nat->Bool) (ft:List (Nat×SV τ dn)) (fm:List (Nat×Option (SB τ dn))):Bool:=
 (st.rt.all fun q=>q.2.fr p&& !hasN (ep vs) q.1&&(getS ft q.1).isNone)&&(st.rm.all fun q=>p q.1&&(match q.2 with|some B=>B.fr p|none=>true)&&(getS fm q.1).isNone)&&
 okT (lessB st.nx) vs T&&okT (fun a=> !hasN (movesV vs T) a) (vs.filter fun v=> !mX v) ((vs.zip T).filterMap fun q=>bif mX q.1 then none else some q.2)&&r7 (movesV vs T)
def nextB (vs:List (VK τ)) (T A:List Nat) (nx nx':Nat):Bool:=
 r7 ((List.range nx).map (dJ vs T A))&&((List.range nx).all fun a=>lessB nx' (dJ vs T A a))&&((vs.zip (T.zip A)).all fun q=>eQ q.1||(Nat.beq (dJ vs T A q.2.1) q.2.2&&(mX q.1||Nat.beq q.2.1 q.2.2)))&&(iq vs).all fun a=>Nat.beq (dJ vs T A a) a
def keepP (vs:List (VK τ)) (T:List Nat) (nx:Nat) (a:Nat):Bool:=lessB nx a&& !hasN (movesV vs T) a
def DJ (D:TD τ dn) (fl:Nat) (vs:List (VK τ)) (I:VT dn vs->Prop) (ms:VT dn vs->Nat) (B:SS τ dn->(Ex->SS τ dn->Prop)->Prop) (st:SS τ dn) (K:Ex->SS τ dn->Prop) (T:List Nat) (x0:VT dn vs) (ft:List (Nat×SV τ dn)) (fm:List (Nat×Option (SB τ dn))):Prop:=
 bif okB vs T st (keepP vs T st.nx) ft fm&&(movesV vs T).all (Nat.ble fl) then I x0/\uQ vs fun x=>I x->B ⟨ft++st.rt,fm++st.rm,bS D vs T x,putM D vs T x,st.nx⟩ fun e aw=>match e with
  | .normal=>match l7 D aw vs with
   |some x'=>bif nextB vs T (vs.map (nmV aw)) st.nx aw.nx then I x'/\ms x'<ms x else False
   |none=>False
  |e=>K e ⟨st.rt,st.rm,aw.t++ft,aw.m++fm,aw.nx⟩
 else False
def y0 (D:TD τ dn) (fl:Nat) (vs:List (VK τ)) (I:VT dn vs->VT dn vs->Prop) (ms:VT dn vs->VT dn vs->Nat) (jr:List Nat) (B:SS τ dn->(Ex->SS τ dn->Prop)->Prop) (st:SS τ dn) (K:Ex->SS τ dn->Prop):Prop:=
 match l7 D st vs with
 |none=>False
 |some x0=>DJ D fl vs (I x0) (ms x0) B st K (vs.map (nmV st)) x0 (l6 (keepP vs (vs.map (nmV st)) st.nx) (ep vs++jr) st.t) (kL (keepP vs (vs.map (nmV st)) st.nx) (oy vs (vs.map (nmV st))) st.m)
def DK (C:b7 τ dn) (n:Nat) (c:Cn) (a b:AC) (st:SS τ dn):Option (List Prop×SS τ dn):=
 match a,b with
 | .skip, .bK os none=>u5 C n c true os st
 | .bK os none, .skip=>u5 C n c false os st
 |_,_=>none
def vd (C:b7 τ dn) (n:Nat) (an:Nat->Option (LA τ dn)):List (List az)->SS τ dn->(SS τ dn->Prop)->Prop
 |[],st,K=>K st
 |p::ps,st,K=>pL C.D (DC an (p.take 1)) (st.uY (yY an (p.take 1))) st fun st=>yB (LW an p) st fun st=>u9 C.D (DE an p) st fun st=>u7 (DF an p) st fun st=>kJ C.D (LX an p st) st fun st=>wpOps (C.wo (se an p)) n none true p [] st fun st=>vd C n an ps st K
def eR (C:b7 τ dn) (n:Nat) (an:Nat->Option (LA τ dn)):AC->Nat->SS τ dn->(Ex->SS τ dn->Prop)->Prop
 | .skip,_,st,K=>K .normal st
 | .ret,_,st,K=>K .ret st
 | .exit i,_,st,K=>K (.exit i) st
 | .seq a b,k,st,K=>eR C n an a k st fun e aw=>match e with
  | .normal=>eR C n an b (k+a.nl) aw K
  |e=>K e aw
 | .cond c a b,k,st,K=>match st.ev c with
  |some (.vt true)=>eR C n an a k st K
  |some (.vt false)=>eR C n an b (k+a.nl) st K
  |some (.vb c)=>match DK C n c a b st with
   |some (O,aw)=>fF O (K .normal aw)
   |none=>(c.tf true->eR C n an a k st K)/\(c.tf false->eR C n an b (k+a.nl) st K)
  |_=>False
 | .block i a,k,st,K=>eR C n an a k st fun e aw=>K (e.kF i) aw
 | .loop a,k,st,K=>match an k with
  |some (.LV m)=>yZ (eR C n an a (k+1)) m st K
  |some (.inv vs I ms)=>y0 C.D C.fl vs I ms a.jr (eR C n an a (k+1)) (pP C.D st vs) K
  |_=>False
 | .bK os none,_,st,K=>vd C n an (pieces an os) st (K .normal)
 | .bK os (some dep),_,st,K=>pL C.D (DC an os) (st.uY (yY an os)) st fun st=>u9 C.D (DE an os) st fun st=>u7 (DF an os) st fun st=>wpOps (C.wo (se an os)) n (some dep) (Lc (C.wo (se an os)) (some dep) os) os [] st (K .normal)
 | .gG _ _ _ _,_,_,_=>False
def Ends (C:b7 τ dn) (n k0:Nat) (ac:AC) (N:aC) (st:SS τ dn) (s:S3) (K:Ex->SS τ dn->Prop):Prop:=
 ∃e s' N' aw,ED C.P n k0 ac s e s'/\Rel C.D N' aw s'/\aw.rt=st.rt/\aw.rm=st.rm/\(N.agree C.fl N'/\C.fl<=aw.nx)/\K e aw
theorem ve {m:Nat} (h:N.agree m N') (hn:n<=m):N.agree n N':=⟨fun a ha=>h.1 a (O8 ha hn),h.2⟩
end
section
theorem aE.LZ (hm:aE E J base g) {B B':Bk} (hB:g q=some B) (hz:B.sz≠0) (hsz:B'.sz=B.sz) (hl:B.els.length=B'.els.length) (hc:∀(i:Nat) cs ds,B.els[i]? =some cs->B'.els[i]? =some ds->cs.length=ds.length/\∀(j:Nat) c d,cs[j]? =some c->ds[j]? =some d->∀v,aj E v c->aj E v d):aE E J base (aA g [(q,some B')]):=by
 have old:∀{id X},aA g [(q,some B')] id=some X->(id=q/\X=B')\/(id≠q/\g id=some X):=fun {id X} h=>by
  simp only [aA] at h
  by_cases e:id=q
  ·rw [OI e] at h;simp only [OG] at h;exact .inl ⟨e,h.symm⟩
  ·rw [OH e] at h;exact .inr ⟨e,h⟩
 have vf:∀{id X},aA g [(q,some B')] id=some X->∃Y,g id=some Y:=fun h=>by
  rcases old h with ⟨rfl,_⟩|⟨_,h⟩
  ·exact ⟨_,hB⟩
  ·exact ⟨_,h⟩
 refine ⟨fun id=> ?_,fun id X hg=> ?_,fun id b9 b B1 B2 h1 h2 h3 h4=> ?_,fun id b X hg hb=> ?_,hm.low,hm.size,fun id X hg cJ=> ?_,hm.fk,fun b hb=>⟨(hm.xo b hb).1,(hm.xo b hb).2.1,fun k B1 hk he=>(vf hk).elim fun B2 h2=>(hm.xo b hb).2.2 k B2 h2 he⟩⟩
 ·rw [hm.live id]
  simp only [aA]
  by_cases e:id=q
  ·subst e;rw [OI rfl,hB];exact ⟨fun _=>⟨_,rfl⟩,fun _=>⟨_,rfl⟩⟩
  ·rw [OH e]
 ·rcases old hg with ⟨rfl,rfl⟩|⟨_,h⟩
  ·have h0:=hm.at_ id B hB
   cases hloc:E.loc id with
   |none=>
    rw [hloc] at h0
    have mw:B.els=[]:=h0
    show X.els=[]
    rw [mw] at hl
    exact PU (by simpa using hl.symm)
   |some b=>
    rw [hloc] at h0
    obtain ⟨h1,⟨hz0,arr,t,h2,h3,h4⟩|⟨hz0,_⟩⟩:=h0
    ·refine .iT ⟨h1,arr,t,h2,by rw [<-hl,hsz];exact h3,fun i ds hi=> ?_⟩ (by rw [hsz];exact hz0)
     have cB:i<B.els.length:=by rw [hl];exact (OO.1 hi).1
     have hcs:=OV cB
     obtain ⟨e1,e2⟩:=hc i _ ds hcs hi
     refine ⟨by rw [<-e1,hsz];exact (h4 i _ hcs).1,fun j d hj=> ?_⟩
     have bj:j<B.els[i].length:=by rw [e1];exact (OO.1 hj).1
     obtain ⟨u,u1,u2,u3⟩:=(h4 i _ hcs).2 j _ (OV bj)
     exact ⟨u,by rw [hsz];exact u1,u2,e2 j _ d (OV bj) hj u u3⟩
    ·exact absurd hz0 hz
  ·exact hm.at_ id X h
 ·obtain ⟨Y1,y1⟩:=vf h1
  obtain ⟨Y2,y2⟩:=vf h2
  exact hm.apart id b9 b Y1 Y2 y1 y2 h3 h4
 ·obtain ⟨Y,y⟩:=vf hg
  exact hm.out id b Y y hb
 ·rcases old hg with ⟨rfl,rfl⟩|⟨_,h⟩
  ·rw [<-hl];exact hm.len id B hB hz
  ·exact hm.len id X h cJ
theorem S3.L1 {Q sz f:Nat} {cs:List AV} (hq:s.g q=some ⟨Q,[cs]⟩) (hk:q<s.k) (hf:cs[f]? =some .emp) (hQ:Q≠0) (hz:sz≠0):s.Le k0 n ⟨s.σ,aA (aA s.g [(s.k,some ⟨sz,[]⟩)]) [(q,some ⟨Q,[cs.set f (.own s.k sz 0 0)]⟩)],s.k+1⟩:=by
 intro E0 J base w0 a w hH hr
 obtain ⟨E,rfl,hle,hs,hm,ba,hmk⟩:=hr.ex
 obtain ⟨E',hw,hE,hM,k1,k2,k3,k4,k5⟩:=hm.sN (fresh:=s.k) (fun hh=>PW _ (ba _ hh)) sz
 have iz:aA s.g [(s.k,some ⟨sz,[]⟩)] q=some ⟨Q,[cs]⟩:=by simp only [aA];rw [OH (by omega)];exact hq
 have jO:f<cs.length:=(OO.1 hf).1
 have kB:=hM.LZ (B':=⟨Q,[cs.set f (.own s.k sz 0 0)]⟩) iz hQ rfl rfl (fun i c1 d1 h1 h2=>by
  cases i with
  |succ i=>simp at h1
  |zero=>
   simp only [Pg,OG] at h1 h2
   subst h1;subst h2
   refine ⟨by simp,fun j c d hc hd v hv=> ?_⟩
   rw [List.getElem?_set] at hd
   by_cases e:f=j
   ·subst e
    rw [OI rfl,OI jO,OG] at hd
    subst hd
    rw [hf,OG] at hc
    subst hc
    obtain ⟨A,hA⟩:=qS hv
    rw [hA]
    exact .bT k1 k2 k3 k5 hz
   ·rw [OH e,hc,OG] at hd
    subst hd;exact hv)
 refine ⟨⟨E',hw,hle.trans hE,fun j=>(hs j).step hE,kB,fun id hid=> ?_,hmk.step hE⟩,hr.size,hr.below,hr.gl⟩
 show id<s.k+1
 rcases k4 id hid with h|h
 ·have:=ba id h;omega
 ·omega
end
section
variable {τ:Type} {dn:τ->Type}
theorem DL {D:TD τ dn} {n k0:Nat}:∀{vs:List (VK τ)} {N:aC} {st:SS τ dn} {s:S3},Rel D N st s->∃s' N',s.Le k0 n s'/\Rel D N' (pP D st vs) s'/\(pP D st vs).rt=st.rt/\(pP D st vs).rm=st.rm/\N.agree st.nx N'/\st.nx<=(pP D st vs).nx
 |[],N,st,s,R=>⟨s,N,S3.Le.mV,R,rfl,rfl,N.dT _,OQ _⟩
 |v::r,N,st,s,R=>by
  have one:∃s' N',s.Le k0 n s'/\Rel D N' (j2 D st v) s'/\(j2 D st v).rt=st.rt/\(j2 D st v).rm=st.rm/\N.agree st.nx N'/\st.nx<=(j2 D st v).nx:=by
   have no:∃s' N',s.Le k0 n s'/\Rel D N' st s'/\st.rt=st.rt/\st.rm=st.rm/\N.agree st.nx N'/\st.nx<=st.nx:=⟨s,N,S3.Le.mV,R,rfl,rfl,N.dT _,OQ _⟩
   have DM:∀(q f:Nat) (t:τ) (cs:List (Nat×Nat)),∃s' N',s.Le k0 n s'/\Rel D N' (j2 D st (.so q f t cs)) s'/\(j2 D st (.so q f t cs)).rt=st.rt/\(j2 D st (.so q f t cs)).rm=st.rm/\N.agree st.nx N'/\st.nx<=(j2 D st (.so q f t cs)).nx:=by
    intro q f t cs
    simp only [j2]
    split
    ·rename_i Q vs hB
     split
     ·rename_i hf
      cases hb:(Nat.blt 0 (D.sz t)&&(Nat.blt 0 Q&&st.rw q)) with
      |false=>rw [O0];exact no
      |true=>
       rw [OL]
       rw [OJ,OJ] at hb
       have hz:D.sz t≠0:=Nat.ne_of_gt (Pn hb.1)
       have hQ:Q≠0:=Nat.ne_of_gt (Pn hb.2.1)
       obtain ⟨⟨B1,m1⟩,r1⟩:=jW hb.2.2
       have hB1:B1= .bc Q [vs]:=by have:=mQ m1;rw [this] at hB;simpa using hB
       subst hB1
       have pQ:=R.ml q _ m1
       obtain ⟨g1,g2⟩:=R.here.bl q _ m1
       have R1:=R.go (n:=0) (d:=none) (r:= .new [] (.own st.nx (D.sz t)) (.bl t [])) rfl rfl (val:= .own s.k (D.sz t) 0 0) (ups:=[(s.k,some ⟨D.sz t,[]⟩)]) (fun N' hN=>by
        simp only [SR.v,SV.av]
        have h1:=hN.1 st.nx (PO _)
        simp only [SR.up,aC.dc,OK] at h1
        rw [h1.1,h1.2];rfl) (fun N' hN=>rfl)
       have dN:=N.lQ st.nx s.k 0
       have L2:(N.dc st.nx s.k 0).ι q=N.ι q:=(dN.1 q pQ).1
       have L4:(N.dc st.nx s.k 0).ι st.nx=s.k/\(N.dc st.nx s.k 0).ln st.nx=0:=by simp [aC.dc]
       have hne:q≠st.nx:=Nat.ne_of_lt pQ
       have mr:(SR.put [] (.vo undef) q (.bc Q [vs.set f (.own st.nx (D.sz t))]):SR τ dn).may D (N.dc st.nx s.k 0) ((SR.new [] (.own st.nx (D.sz t)) (.bl t []):SR τ dn).st st none):=by
        refine ⟨⟨.bc Q [vs], ?_, ?_⟩,r1,rfl⟩
        ·show getS ((st.nx,some (.bl t []))::st.m) q=_
         rw [bk,OH hne];exact m1
        ·rw [(dN.1 q pQ).2,g2];rfl
       have L5:∀N':aC,(N.dc st.nx s.k 0).agree (st.nx+1) N'->(vs.map (SV.av D.toTE N'))=vs.map (SV.av D.toTE N):=fun N' hN=>by
        have A':=R.at_ N' (aC.eN dN hN (Nat.le_succ _))
        have e1:=(A'.bl q _ m1).1
        rw [((aC.eN dN hN (Nat.le_succ _)).1 q pQ).1,g1] at e1
        simpa [SB.av,SV.bU,SV.bA] using e1.symm
       have R2:=R1.go (n:=0) (d:=none) (r:= .put [] (.vo undef) q (.bc Q [vs.set f (.own st.nx (D.sz t))])) rfl mr (val:= .v undef) (ups:=[(N.ι q,some ⟨Q,[(vs.map (SV.av D.toTE N)).set f (.own s.k (D.sz t) 0 0)]⟩)]) (fun N' hN=>rfl) (fun N' hN=>by
        have y4:(N.dc st.nx s.k 0).agree (st.nx+1) N':=hN
        have h1:=y4.1 st.nx (PO _)
        have h2:=(y4.1 q (Ql pQ)).1
        simp only [SR.ups,SB.av,SV.bU,SV.bA,P5,SV.av,h1.1,h1.2,h2,L4,L2,L5 N' y4])
       refine ⟨_,N.dc st.nx s.k 0,S3.L1 (q:=N.ι q) (f:=f) (cs:=vs.map (SV.av D.toTE N)) (sz:=D.sz t) (by rw [g1];simp only [SB.av,SV.bU,SV.bA]) (R.lt q pQ) (by rw [O6,hf];rfl) hQ hz, ?_,rfl,rfl,dN,Nat.le_succ _⟩
       exact R2
     ·exact no
    ·exact no
   cases v with
   |ow i t=>
    simp only [j2]
    split
    ·rename_i hg
     cases hb:(Nat.blt 0 (D.sz t)&&(getS st.rt i).isNone) with
     |false=>rw [O0];exact no
     |true=>
      rw [OL]
      rw [OJ] at hb
      have hz:D.sz t≠0:=Nat.ne_of_gt (Pn hb.1)
      have hσ:s.σ i= .emp:=R.here.gt hg
      refine ⟨_,N.dc st.nx s.k 0,S3.Lq hσ hz, ?_,rfl,rfl,N.lQ _ _ _,Nat.le_succ _⟩
      have:=R.go (n:=i+1) (d:=some i) (r:= .new [] (.own st.nx (D.sz t)) (.bl t [])) (by simp only [dstS,OJ];exact ⟨Nat.ble_eq_true_of_le (OQ _),hb.2⟩) rfl (val:= .own s.k (D.sz t) 0 0) (ups:=[(s.k,some ⟨D.sz t,[]⟩)]) (fun N' hN=>by
       simp only [SR.v,SV.av]
       have h1:=hN.1 st.nx (PO _)
       simp only [SR.up,aC.dc,OK] at h1
       rw [h1.1,h1.2];rfl) (fun N' hN=>rfl)
      refine cast ?_ this
      congr 2
      funext j
      simp only [bG,OG]
      by_cases hj:j=i
      ·subst hj;rw [OI ⟨rfl,PO _⟩,OI rfl]
      ·rw [OH (fun hh=>hj hh.1.symm),OH hj]
    ·exact no
   |so q f t cs=>exact DM q f t cs
   |sg q f t S fx=>exact DM q f t []
   |_=>exact no
  obtain ⟨s1,N1,h1,h2,h3,h4,h5,h6⟩:=one
  obtain ⟨s2,N2,q1,q2,q3,q4,q5,q6⟩:=DL (vs:=r) h2
  exact ⟨s2,N2,h1.trans' q1,q2,q3.trans h3,q4.trans h4,aC.eN h5 q5 h6,Pe h6 q6⟩
mutual
theorem SV.oC {p q:Nat->Bool} (h:∀a,p a=true->q a=true):∀(v:SV τ dn),v.fr p=true->v.fr q=true
 | .own nm sz,hv| .part nm sz _ _,hv| .ref nm sz _ _,hv| .mp nm,hv=>by simp only [SV.fr] at hv ⊢; exact h nm hv
 | .agg cs,hv| .aK cs,hv| .fn _ cs,hv| .bf _ cs,hv| .pim cs _,hv=>by simp only [SV.fr] at hv ⊢; exact SV.y5 h cs hv
 | .vc _ els,hv=>by simp only [SV.fr] at hv ⊢; exact SV.vh h els hv
 | .vg p c v,hv=>by simp only [SV.fr] at hv ⊢; exact SV.oC h v hv
 | .rw _ _,_| .cU _ _ _ _,_| .vl _ _,_| .vi _,_| .vn _,_| .vy _,_| .vu _,_| .vw _ _,_| .vb _,_| .vt _,_| .vz _,_| .vo _,_| .emp,_| .dead,_=>by simp only [SV.fr]
theorem SV.y5 {p q:Nat->Bool} (h:∀a,p a=true->q a=true):∀(cs:List (SV τ dn)),SV.dS p cs=true->SV.dS q cs=true
 |[],_=>rfl
 |v::r,hv=>by simp only [SV.dS,OJ] at hv ⊢; exact ⟨SV.oC h v hv.1,SV.y5 h r hv.2⟩
theorem SV.vh {p q:Nat->Bool} (h:∀a,p a=true->q a=true):∀(els:List (List (SV τ dn))),SV.lH p els=true->SV.lH q els=true
 |[],_=>rfl
 |v::r,hv=>by simp only [SV.lH,OJ] at hv ⊢; exact ⟨SV.y5 h v hv.1,SV.vh h r hv.2⟩
end
theorem SB.oC {p q:Nat->Bool} (h:∀a,p a=true->q a=true) (B:SB τ dn) (hB:B.fr p=true):B.fr q=true:=by
 cases B with
 |bl t xs=>rfl
 |bc sz els=>simp only [SB.fr] at hB ⊢; exact SV.vh h els hB
 |mc els=>simp only [SB.fr] at hB ⊢; exact SV.vh h els hB
 |ar t A=>rfl
def j3 (D:TD τ dn) (st:SS τ dn):List kz->Option (List Prop×List (SV τ dn))
 |[]=>some ([],[])
 | .tmp i::r=>match st.gt i,j3 D st r with
  |some v,some (O,l)=>some (O,v::l)
  |_,_=>none
 | .cell i m::r=>match st.gt i,j3 D st r with
  |some a,some (O,l)=>match oa D st m a with
   |some (.val O' v)=>some (O'++O,v::l)
   |_=>none
  |_,_=>none
def kP (vs:List (SV τ dn)) (i:Nat):List (Nat×SV τ dn):=match vs with
 |[]=>[]
 |v::r=>(i,v)::kP r (i+1)
theorem y6 {i:Nat}:∀{vs:List (SV τ dn)} {k:Nat} {v:SV τ dn},getS (kP vs k) i=some v->k<=i/\vs[i - k]? =some v
 |[],k,v,h=>by simp [kP,getS] at h
 |w::r,k,v,h=>by
  simp only [kP,bk] at h
  by_cases hi:i=k
  ·rw [OI hi,OG] at h
   subst h;subst hi;exact ⟨OQ _,by simp⟩
  ·rw [OH hi] at h
   obtain ⟨h1,h2⟩:=y6 h
   refine ⟨by omega, ?_⟩
   rw [show i - k=(i - (k+1))+1 by omega,Py];exact h2
theorem L6 {D:TD τ dn} {st:SS τ dn} {σ:Nat->AV} (ok:bh D) (R:bm D N st σ g) {m:Option Nat} {a:SV τ dn} (hx:st.gt i=some a) {O:List Prop} {v:SV τ dn} (h:oa D st m a=some (.val O v)) (hO:∀p,p∈O->p):(qI m (σ i)).run g=some (v.av D.toTE N):=by
 have e:=Cm ok R (x:= .s i) hx h 0 hO trivial
 have hs:aG σ (.s i)=σ i:=rfl
 simp only [AO.au,hs] at e
 unfold qI
 cases hσ:σ i<;>rw [hσ] at e<;>simp only at e ⊢
 case pim cs o=>
  cases hg:getCells cs o m with
  |none=>rw [hg] at e;simp [RM.opt,RM.run] at e
  |some w=>rw [hg] at e;simp only [OS,RM.opt,RM.run,OG,Out.done.injEq] at e;simp only [RM.opt,RM.run,e.1];rfl
 case ref id sz j o=>
  simp only [RM.run] at e ⊢
  cases hg:g id with
  |none=>rw [hg] at e;simp at e
  |some B=>
   rw [hg] at e
   simp only at e ⊢
   split at e
   ·rename_i hz
    rw [OI hz]
    cases hq:(B.els[j]?.bind fun cs=>getCells cs o m) with
    |none=>rw [hq] at e;simp [RM.opt,RM.run] at e
    |some w=>rw [hq] at e;simp only [OS,RM.opt,RM.run,OG,Out.done.injEq] at e;simp only [RM.opt,RM.run,e.1];rfl
   ·simp [RM.run] at e
 all_goals simp [RM.run] at e
theorem vj {D:TD τ dn} {N:aC} {st:SS τ dn} {σ:Nat->AV} {g:Nat->Option Bk} (ok:bh D) (R:bm D N st σ g):∀{res:List kz} {O:List Prop} {l:List (SV τ dn)},j3 D st res=some (O,l)->(∀p,p∈O->p)->(kA σ res).run g=some (l.map (SV.av D.toTE N))
 |[],O,l,h,hO=>by simp only [j3,OG,OT] at h;obtain ⟨_,rfl⟩:=h;rfl
 | .tmp i::r,O,l,h,hO=>by
  simp only [j3] at h
  split at h
  ·rename_i v O' l' h1 h2
   simp only [OG,OT] at h;obtain ⟨rfl,rfl⟩:=h
   simp only [kA]
   rw [dw (vj ok R h2 hO)]
   simp only [RM.run,OX,R.gt h1]
  ·simp at h
 | .cell i m::r,O,l,h,hO=>by
  simp only [j3] at h
  split at h
  ·rename_i a O' l' h1 h2
   split at h
   ·rename_i O2 v h3
    simp only [OG,OT] at h;obtain ⟨rfl,rfl⟩:=h
    simp only [kA]
    rw [dw (L6 ok R h1 h3 fun p hp=>hO p (Pr _ hp)),dw (vj ok R h2 fun p hp=>hO p (Po _ hp))]
    rfl
   ·simp at h
  ·simp at h
theorem DN {D:TD τ dn} {st:SS τ dn}:∀{l l':List (SV τ dn)},jY D st l=some l'->l.length=l'.length
 |[],l',h=>by simp only [jY,OG] at h;subst h;rfl
 |v::r,l',h=>by
  simp only [jY] at h
  split at h
  ·rename_i x l2 h1 h2
   simp only [OG] at h;subst h;simp [DN h2]
  ·simp at h
theorem L7 {a a':AV} (h:(dy a).run g=some a'):(gH a).run g=some a':=by
 cases a<;>first
  |exact h
  |(simp [dy,snap1,AV.pu1,RM.run] at h)
theorem DO {D:TD τ dn} (ok:bh D) (t:τ) (x:dn t) (h:D.pu t=true):(D.en t x).av D.toTE N=(D.en t x).av D.toTE N':=by
 have e:(D.es t x).map (SV.av D.toTE N)=(D.es t x).map (SV.av D.toTE N'):=by rw [ok.dv,ok.dv,ok.ji _ N'.ρ t x h]
 cases ha:D.ag t with
 |true=>rw [uu ha,SV.av,SV.av,SV.bA,SV.bA,e]
 |false=>
  unfold TD.en
  rw [ha,O0]
  cases hs:D.es t x with
  |nil=>rfl
  |cons v r=>rw [hs] at e;simp only [OX,Qp] at e;exact e.1
theorem DP {D:TD τ dn} (ok:bh D) {N N':aC}:∀(rs:List τ) (x:RD dn rs),rs.all D.pu=true->(iP D rs x).map (SV.av D.toTE N)=(iP D rs x).map (SV.av D.toTE N')
 |[],_,_=>rfl
 |[t],x,h=>by simp only [Qi,List.all_nil,Bool.and_true] at h;simp only [iP,OX,Pw];rw [DO ok (N:=N) (N':=N') t x h]
 |t::s::r,x,h=>by
  rw [Qi,OJ] at h
  simp only [iP,OX];rw [DO ok (N:=N) (N':=N') t x.1 h.1,DP ok (N:=N) (N':=N') (s::r) x.2 h.2]
theorem DQ {f:Nat->Nat}:∀{n m:Nat},r7 ((List.range' m n).map f)=true->∀a b,m<=a->a<m+n->m<=b->b<m+n->f a=f b->a=b
 |0,m,h,a,b,h1,h2,h3,h4,he=>by omega
 |n+1,m,h,a,b,h1,h2,h3,h4,he=>by
  rw [List.range'_succ,OX] at h
  simp only [r7,OJ,O4] at h
  have eL:∀c,m+1<=c->c<m+1+n->f m≠f c:=fun c k1 k2 e=>by
   have:hasN ((List.range' (m+1) n).map f) (f m)=true:=l5.2 (Pc.2 ⟨c,List.mem_range'_1.2 ⟨k1,k2⟩,e.symm⟩)
   rw [this] at h;simp at h
  by_cases ha:a=m<;>by_cases hb:b=m
  ·omega
  ·subst ha;exact absurd he (eL b (by omega) (by omega))
  ·subst hb;exact absurd he.symm (eL a (by omega) (by omega))
  ·exact DQ h.2 a b (by omega) (by omega) (by omega) (by omega) he
theorem DR {C:b7 τ dn} {n k0:Nat} {a:AC} {B:SS τ dn->(Ex->SS τ dn->Prop)->Prop} (hB:∀{st:SS τ dn} {K:Ex->SS τ dn->Prop} {N:aC} {s:S3},Rel C.D N st s->C.fl<=st.nx->B st K->Ends C n k0 a N st s K):
  ∀(m:Nat) {st:SS τ dn} {K:Ex->SS τ dn->Prop} {N:aC} {s:S3},Rel C.D N st s->C.fl<=st.nx->yZ B m st K->∃e s' j N2 aw,Ch C.P n k0 a e s' j s/\Rel C.D N2 aw s'/\aw.rt=st.rt/\aw.rm=st.rm/\(N.agree C.fl N2/\C.fl<=aw.nx)/\K e aw
 |0,st,K,N,s,R,hl,h=>h.elim
 |m+1,st,K,N,s,R,hl,h=>by
  obtain ⟨e,s1,N1,st1,e1,R1,r1,r2,r3,hk⟩:=hB R hl h
  cases e with
  |normal=>
   obtain ⟨e,s2,j,N2,aY,c1,c2,c3,c4,c5,c6⟩:=DR hB m R1 r3.2 hk
   exact ⟨e,s2,j+1,N2,aY, .step e1 S3.Le.mV c1,c2,c3.trans r1,c4.trans r2,⟨aC.eN r3.1 c5.1 (OQ _),c5.2⟩,c6⟩
  |exit i=>exact ⟨_,s1,0,N1,st1, .last e1 (by simp),R1,r1,r2,r3,hk⟩
  |ret=>exact ⟨_,s1,0,N1,st1, .last e1 (by simp),R1,r1,r2,r3,hk⟩
variable [DecidableEq τ]
theorem S3.L8 (sz:Nat):s.Le k0 n ⟨s.σ,aA s.g [(s.k,some ⟨sz,[]⟩)],s.k+1⟩:=by
 intro E0 J base w0 a w hk hr
 obtain ⟨E,rfl,hle,hs,hm,ba,hmk⟩:=hr.ex
 obtain ⟨E',hw,hE,hM,k1,k2,k3,k4,k5⟩:=hm.sN (fresh:=s.k) (fun hh=>PW _ (ba _ hh)) sz
 refine ⟨⟨E',hw,hle.trans hE,fun j=>(hs j).step hE,hM,fun id hid=> ?_,hmk.step hE⟩,hr.size,hr.below,hr.gl⟩
 show id<s.k+1
 rcases k4 id hid with h|h
 ·have:=ba id h;omega
 ·omega
theorem DS {C:b7 τ dn} (hC:C.Ok) {a:AC} {B:SS τ dn->(Ex->SS τ dn->Prop)->Prop} (hB:∀{st:SS τ dn} {K:Ex->SS τ dn->Prop} {N:aC} {s:S3},Rel C.D N st s->C.fl<=st.nx->B st K->Ends C n k0 a N st s K) {vs:List (VK τ)} {I:VT dn vs->Prop} {ms:VT dn vs->Nat}
  {st:SS τ dn} {K:Ex->SS τ dn->Prop} {T:List Nat} {ft:List (Nat×SV τ dn)} {fm:List (Nat×Option (SB τ dn))} (hT:vs.map (nmV st)=T) (kO:T.length=vs.length) (kp:∀{a},keepP vs T st.nx a=true->a<st.nx/\¬a∈movesV vs T) (hle:∀a,keepP vs T st.nx a=true->lessB st.nx a=true)
  (aT:∀{i v},getS (ft++st.rt) i=some v->(getS ft i=some v\/getS st.rt i=some v)/\v.fr (keepP vs T st.nx)=true/\¬i∈ep vs) (aM:∀{i v},getS (fm++st.rm) i=some v->(getS fm i=some v\/getS st.rm i=some v)/\(∀B,v=some B->B.fr (keepP vs T st.nx)=true)/\keepP vs T st.nx i=true)
  (fT:∀{i v},getS ft i=some v->getS st.t i=some v/\v.fr (keepP vs T st.nx)=true/\¬i∈ep vs) (fM:∀{i v},getS fm i=some v->getS st.m i=some v/\(∃B,v=some B/\B.fr (keepP vs T st.nx)=true)/\keepP vs T st.nx i=true)
  (rT:∀{i v},getS st.rt i=some v->v.fr (keepP vs T st.nx)=true/\¬i∈ep vs/\getS ft i=none) (rM:∀{i v},getS st.rm i=some v->keepP vs T st.nx i=true/\(∀B,v=some B->B.fr (keepP vs T st.nx)=true)/\getS fm i=none) (o3:okT (lessB st.nx) vs T=true) (jO:C.fl<=st.nx) (vm:(movesV vs T).all (Nat.ble C.fl)=true)
  {x:VT dn vs} (h:B ⟨ft++st.rt,fm++st.rm,bS C.D vs T x,putM C.D vs T x,st.nx⟩ fun e aw=>match e with
   | .normal=>match l7 C.D aw vs with
    |some x'=>bif nextB vs T (vs.map (nmV aw)) st.nx aw.nx then I x'/\ms x'<ms x else False
    |none=>False
   |e=>K e ⟨st.rt,st.rm,aw.t++ft,aw.m++fm,aw.nx⟩) (R:Rel C.D N ⟨ft++st.rt,fm++st.rm,bS C.D vs T x,putM C.D vs T x,st.nx⟩ s)
  (next:∀x',ms x'<ms x->I x'->∀N2 s2,Rel C.D N2 ⟨ft++st.rt,fm++st.rm,bS C.D vs T x',putM C.D vs T x',st.nx⟩ s2->∃e s' j N3 aw,Ch C.P n k0 a e s' j s2/\Rel C.D N3 aw s'/\aw.rt=st.rt/\aw.rm=st.rm/\(N2.agree C.fl N3/\C.fl<=aw.nx)/\K e aw):
  ∃e s' j N2 aw,Ch C.P n k0 a e s' j s/\Rel C.D N2 aw s'/\aw.rt=st.rt/\aw.rm=st.rm/\(N.agree C.fl N2/\C.fl<=aw.nx)/\K e aw:=by
 obtain ⟨e,s1,N1,st1,e1,R1,eI,c8,DT,hk⟩:=hB R jO h
 have leave:e≠ .normal->K e ⟨st.rt,st.rm,st1.t++ft,st1.m++fm,st1.nx⟩->∃e s' j N2 aw,Ch C.P n k0 a e s' j s/\Rel C.D N2 aw s'/\aw.rt=st.rt/\aw.rm=st.rm/\(N.agree C.fl N2/\C.fl<=aw.nx)/\K e aw:=fun hne hk=>by
  have DU:∀i v,getS fm i=some v->getS st1.rm i=some v:=fun i v h=>by rw [c8];show getS (fm++st.rm) i=_;rw [gj,h];rfl
  have DV:∀i v,getS st.rm i=some v->getS st1.rm i=some v:=fun i v h=>by rw [c8];show getS (fm++st.rm) i=_;rw [gj,(rM h).2.2];exact h
  have cQ:∀a X,(⟨st.rt,st.rm,st1.t++ft,st1.m++fm,st1.nx⟩:SS τ dn).bB a X->st1.bB a X:=fun a X hX=>by
   rcases hX with hX|hX
   ·have lZ:getS (st1.m++fm) a=some (some X):=hX
    rw [gj] at lZ
    cases hq:getS st1.m a with
    |some w=>rw [hq] at lZ;simp only [Qm,OG] at lZ;subst lZ;exact .inl hq
    |none=>rw [hq] at lZ;simp only [P6] at lZ;exact .inr (DU a _ lZ)
   ·exact .inr (DV a _ hX)
  refine ⟨e,s1,0,N1,⟨st.rt,st.rm,st1.t++ft,st1.m++fm,st1.nx⟩, .last e1 hne,⟨fun N' hN=> ?_,R1.inj,R1.lt,fun nm B h=> ?_,fun nm B h=> ?_,fun t A h id hid=>⟨(R1.sp t A (cQ 0 _ h) id hid).1,fun nm B hB=>(R1.sp t A (cQ 0 _ h) id hid).2 nm B (cQ nm B hB)⟩⟩,rfl,rfl,DT,hk⟩
  ·have A:=R1.at_ N' hN
   have L9:∀i v,getS ft i=some v->getS st1.rt i=some v:=fun i v h=>by rw [eI];show getS (ft++st.rt) i=_;rw [gj,h];rfl
   have Ma:∀i v,getS st.rt i=some v->getS st1.rt i=some v:=fun i v h=>by rw [eI];show getS (ft++st.rt) i=_;rw [gj,(rT h).2.2];exact h
   refine ⟨fun i v h=> ?_,fun i v h=>A.rs i v (Ma i v h),fun nm B h=> ?_,fun nm B h=>A.rb nm B (DV nm _ h),fun t A' h id hid=>A.ar t A' (cQ 0 _ h) id hid⟩
   ·have h':getS (st1.t++ft) i=some v:=h
    rw [gj] at h'
    cases hq:getS st1.t i with
    |some w=>rw [hq] at h';simp only [Qm,OG] at h';subst h';exact A.sl i _ hq
    |none=>rw [hq] at h';simp only [P6] at h';exact A.rs i v (L9 i v h')
   ·have h':getS (st1.m++fm) nm=some (some B):=h
    rw [gj] at h'
    cases hq:getS st1.m nm with
    |some w=>rw [hq] at h';simp only [Qm,OG] at h';subst h';exact A.bl nm _ hq
    |none=>rw [hq] at h';simp only [P6] at h';exact A.rb nm B (DU nm _ h')
  ·have h':getS (st1.m++fm) nm=some B:=h
   rw [gj] at h'
   cases hq:getS st1.m nm with
   |some w=>exact R1.ml nm w hq
   |none=>rw [hq] at h';simp only [P6] at h';exact R1.rl nm B (by rw [c8];show getS (fm++st.rm) nm=_;rw [gj,h'];rfl)
  ·exact R1.rl nm B (by rw [c8];show getS (fm++st.rm) nm=_;rw [gj,(rM h).2.2];exact h)
 cases e with
 |exit i=>exact leave (by simp) hk
 |ret=>exact leave (by simp) hk
 |normal=>
  simp only at hk
  split at hk
  case h_2=>exact hk.elim
  rename_i x' cK
  generalize hA:vs.map (nmV st1)=A at hk
  cases hn:nextB vs T A st.nx st1.nx with
  |false=>rw [hn] at hk;exact hk.elim
  |true=>
   rw [hn,OL] at hk
   unfold nextB at hn
   simp only [OJ] at hn
   obtain ⟨⟨⟨n1,n2⟩,n3⟩,n4⟩:=hn
   have DX:∀a,a∈iq vs->dJ vs T A a=a:=fun a ha=>OR (ON.1 n4 a ha)
   have hV:=uT hC.ok R1.here cK
   rw [hA] at hV
   have Mb:A.length=vs.length:=by rw [<-hA,O7]
   have y7:∀c,c<st.nx->dJ vs T A c<st1.nx:=fun c hc=>r8 ((ON.1 n2) c (Pj.2 hc))
   have Mc:∀c d,c<st.nx->d<st.nx->dJ vs T A c=dJ vs T A d->c=d:=fun c d hc hd he=>by
    rw [List.range_eq_range'] at n1
    exact DQ n1 c d (Nat.zero_le _) (by omega) (Nat.zero_le _) (by omega) he
   obtain ⟨N2,js⟩:∃N2:aC,N2=⟨fun c=>N1.ι (dJ vs T A c),fun c=>N1.ln (dJ vs T A c),N1.ρ⟩:=⟨_,rfl⟩
   have sa:N1.same (keepP vs T st.nx) N2:=by
    refine ⟨fun c hc=> ?_,by rw [js]⟩
    rw [js];simp only [yN (kp hc).2,O5]
   have Md:j1 C.D N2 s1.σ s1.g vs T x':=by
    refine yO C.D (by rw [js]) hC.ok hV (by rw [kO,Mb]) (fun j v c m h0 h1 h2=> ?_) fun a ha=>by rw [js];simp only [DX a ha,O5]
    have hz:(v,c,m)∈vs.zip (T.zip A):=by
     refine Pd (i:=j) ?_
     rw [QH,QH]
     exact ⟨h0,h1,h2⟩
    have:=(ON.1 n3) _ hz
    simp only [O9,OJ] at this
    rcases this with h|⟨h,h'⟩
    ·exact .inl h
    ·have e:=OR h
     refine .inr ⟨by rw [js];simp only [e],by rw [js];simp only [e], ?_⟩
     rcases h' with h'|h'
     ·exact .inl h'
     ·exact .inr (OR h')
   obtain ⟨s2,w2,R2⟩:=Df (n:=n) (k0:=k0) hC.ok (rt:=ft++st.rt) (rm:=fm++st.rm) (nx:=st.nx) Md o3 kO (fun i v h=>by
     obtain ⟨_,h2,h3⟩:=aT h
     refine ⟨?_,SV.oC hle v h2,h3⟩
     rw [pJ sa v h2]
     exact R1.here.rs i v (by rw [eI];exact h)) (fun nm B h=>by
     obtain ⟨_,h2,h3⟩:=aM h
     refine ⟨(kp h3).1,fun B' aL=> ?_⟩
     subst aL
     obtain ⟨q1,q2⟩:=R1.here.rb nm B' (by rw [c8];exact h)
     obtain ⟨p1,p2⟩:=sa.1 nm h3
     exact ⟨by rw [p1,C8 sa B' (h2 B' rfl)];exact q1,by rw [p2];exact q2,SB.oC hle B' (h2 B' rfl)⟩)
    (fun c d hc hd he=>Mc c d hc hd (R1.inj _ _ (y7 c hc) (y7 d hd) (by rw [js] at he;exact he))) (fun c hc=>by rw [js];exact R1.lt _ (y7 c hc))
    (fun t Ar h id hid=>by
     have cQ:∀nm B,(⟨ft++st.rt,fm++st.rm,bS C.D vs T x',putM C.D vs T x',st.nx⟩:SS τ dn).bB nm B->(∃B',st1.bB (dJ vs T A nm) B')/\(∀t Ar,nm=0->B= .ar t Ar->st1.bB 0 (.ar t Ar)):=fun nm B hB=>by
      rcases hB with hB|hB
      ·rcases uU cK kO nm B (jq hB) with ⟨j,v,p1,p2,p3,⟨B',p4⟩,p5⟩|⟨hf,⟨B',p4⟩,p5⟩
       case inr=>exact ⟨⟨B',by rw [DX nm hf];exact gL p4⟩,fun t Ar h0 he=>absurd he (p5 t Ar)⟩
       have hj:A[j]? =some (nmV st1 v):=by rw [<-hA,O6,p1];rfl
       have hz:(v,nm,nmV st1 v)∈vs.zip (T.zip A):=by
        refine Pd (i:=j) ?_
        rw [QH,QH]
        exact ⟨p1,p2,hj⟩
       have:=(ON.1 n3) _ hz
       simp only [O9,OJ] at this
       have e:=OR (this.resolve_left (by rw [p3];simp)).1
       refine ⟨⟨B', ?_⟩,fun t Ar h0 he=> ?_⟩
       ·show st1.bB (dJ vs T A nm) B'
        rw [e];exact gL p4
       ·exact gL (p5 t Ar he).2
      ·have aL:getS (fm++st.rm) nm=some (some B):=hB
       obtain ⟨_,_,h3⟩:=aM aL
       refine ⟨⟨B, ?_⟩,fun t Ar h0 he=> ?_⟩
       ·rw [yN (kp h3).2];exact .inr (by rw [c8];exact aL)
       ·subst h0;subst he;exact .inr (by rw [c8];exact aL)
     have h1:=(cQ 0 _ h).2 t Ar rfl rfl
     obtain ⟨q1,q2⟩:=R1.sp t Ar h1 id hid
     have q3:=R1.here.ar t Ar h1 id hid
     refine ⟨by rw [js];exact q3,q1,fun nm B hB=> ?_⟩
     obtain ⟨⟨B',aL⟩,_⟩:=cQ nm B hB
     rw [js];exact q2 _ B' aL)
   obtain ⟨e,s',j,N3,aw,c1,c2,c3,c4,c5,c6⟩:=next x' hk.2 hk.1 N2 s2 R2
   have dN:N1.agree C.fl N2:=⟨fun c hc=>by
    have eL:¬c∈movesV vs T:=fun hm=>absurd (Pn (ON.1 vm c hm)) (by omega)
    rw [js];simp only [yN eL,O5],by rw [js]⟩
   exact ⟨e,s',j+1,N3,aw, .step e1 w2 c1,c2,c3,c4,⟨aC.eN (aC.eN DT.1 dN (OQ _)) c5.1 (OQ _),c5.2⟩,c6⟩
theorem Me {C:b7 τ dn} (hC:C.Ok) {a:AC} {B:SS τ dn->(Ex->SS τ dn->Prop)->Prop} (hB:∀{st:SS τ dn} {K:Ex->SS τ dn->Prop} {N:aC} {s:S3},Rel C.D N st s->C.fl<=st.nx->B st K->Ends C n k0 a N st s K) {vs:List (VK τ)} {I0:VT dn vs->VT dn vs->Prop} {DY:VT dn vs->VT dn vs->Nat} {jr:List Nat}
  {st:SS τ dn} {K:Ex->SS τ dn->Prop} (R:Rel C.D N st s) (jO:C.fl<=st.nx) (h:y0 C.D C.fl vs I0 DY jr B st K):Ends C n k0 (.loop a) N st s K:=by
 unfold y0 at h
 split at h
 case h_1=>exact h.elim
 rename_i x0 DZ
 generalize hI:I0 x0=I at h
 generalize wk:DY x0=ms at h
 generalize hT:vs.map (nmV st)=T at h
 generalize Mf:l6 (keepP vs T st.nx) (ep vs++jr) st.t=ft at h
 generalize Mg:kL (keepP vs T st.nx) (oy vs T) st.m=fm at h
 unfold DJ at h
 cases hok:okB vs T st (keepP vs T st.nx) ft fm&&(movesV vs T).all (Nat.ble C.fl) with
 |false=>rw [hok] at h;exact h.elim
 |true=>
 rw [hok,OL] at h
 rw [OJ] at hok
 obtain ⟨hok,vm⟩:=hok
 obtain ⟨qx,bM⟩:=h
 rw [uR] at bM
 unfold okB at hok
 simp only [OJ] at hok
 obtain ⟨⟨⟨⟨o1,o2⟩,o3⟩,o4⟩,o5⟩:=hok
 have kO:T.length=vs.length:=by rw [<-hT,O7]
 have kp:∀{a},keepP vs T st.nx a=true->a<st.nx/\¬a∈movesV vs T:=fun {a} h=>by
  unfold keepP at h
  rw [OJ] at h
  refine ⟨r8 h.1,fun hm=> ?_⟩
  have:=h.2
  rw [l5.2 hm] at this;simp at this
 have hle:∀a,keepP vs T st.nx a=true->lessB st.nx a=true:=fun a h=>by
  unfold keepP at h;rw [OJ] at h;exact h.1
 have fT:∀{i v},getS ft i=some v->getS st.t i=some v/\v.fr (keepP vs T st.nx)=true/\¬i∈ep vs:=fun {i v} h=>by
  rw [<-Mf] at h
  obtain ⟨h1,h2,h3⟩:=yJ h
  exact ⟨h1,h2,fun hh=>h3 (Pr _ hh)⟩
 have fM:∀{i v},getS fm i=some v->getS st.m i=some v/\(∃B,v=some B/\B.fr (keepP vs T st.nx)=true)/\keepP vs T st.nx i=true:=fun {i v} h=>by
  rw [<-Mg] at h
  obtain ⟨h1,h2,h3,_⟩:=yK h
  exact ⟨h1,h2,h3⟩
 have rT:∀{i v},getS st.rt i=some v->v.fr (keepP vs T st.nx)=true/\¬i∈ep vs/\getS ft i=none:=fun {i v} h=>by
  have:=(ON.1 o1) _ (jq h)
  simp only [OJ,O4,Option.isNone_iff_eq_none] at this
  exact ⟨this.1.1,fun hh=>by rw [l5.2 hh] at this;simp at this,this.2⟩
 have rM:∀{i v},getS st.rm i=some v->keepP vs T st.nx i=true/\(∀B,v=some B->B.fr (keepP vs T st.nx)=true)/\getS fm i=none:=fun {i v} h=>by
  have:=(ON.1 o2) _ (jq h)
  simp only [OJ,Option.isNone_iff_eq_none] at this
  exact ⟨this.1.1,fun B hB=>by subst hB;exact this.1.2,this.2⟩
 have aT:∀{i v},getS (ft++st.rt) i=some v->(getS ft i=some v\/getS st.rt i=some v)/\v.fr (keepP vs T st.nx)=true/\¬i∈ep vs:=fun {i v} h=>by
  rw [gj] at h
  cases hf:getS ft i with
  |some w=>rw [hf] at h;simp only [Qm,OG] at h;subst h;exact ⟨.inl rfl,(fT hf).2⟩
  |none=>rw [hf] at h;simp only [P6] at h;exact ⟨.inr h,(rT h).1,(rT h).2.1⟩
 have aM:∀{i v},getS (fm++st.rm) i=some v->(getS fm i=some v\/getS st.rm i=some v)/\(∀B,v=some B->B.fr (keepP vs T st.nx)=true)/\keepP vs T st.nx i=true:=fun {i v} h=>by
  rw [gj] at h
  cases hf:getS fm i with
  |some w=>
   rw [hf] at h;simp only [Qm,OG] at h;subst h
   obtain ⟨h1,⟨B,h2,h3⟩,h4⟩:=fM hf
   exact ⟨.inl rfl,fun B' aL=>by rw [h2,OG] at aL;subst aL;exact h3,h4⟩
  |none=>rw [hf] at h;simp only [P6] at h;exact ⟨.inr h,(rM h).2.1,(rM h).1⟩
 -- jK rounds
 have rounds:∀(m:Nat) (x:VT dn vs) (N':aC) (s0:S3),ms x<=m->I x->Rel C.D N' ⟨ft++st.rt,fm++st.rm,bS C.D vs T x,putM C.D vs T x,st.nx⟩ s0->
   ∃e s' j N2 aw,Ch C.P n k0 a e s' j s0/\Rel C.D N2 aw s'/\aw.rt=st.rt/\aw.rm=st.rm/\(N'.agree C.fl N2/\C.fl<=aw.nx)/\K e aw:=by
  intro m
  induction m with
  |zero=>
   intro x N' s0 hm hI R0
   exact DS hC hB hT kO kp hle aT aM fT fM rT rM o3 jO vm (bM x hI) R0 fun x' hlt=>absurd hlt (by omega)
  |succ m ih=>
   intro x N' s0 hm hI R0
   exact DS hC hB hT kO kp hle aT aM fT fM rT rM o3 jO vm (bM x hI) R0 fun x' hlt iF N2 s2 R2=>ih x' N2 s2 (by omega) iF R2
 have hV:=uT hC.ok R.here DZ
 rw [hT] at hV
 obtain ⟨s1,w1,R1⟩:=Df (n:=n) (k0:=k0) hC.ok (rt:=ft++st.rt) (rm:=fm++st.rm) hV o3 kO (fun i v h=>by
   obtain ⟨h1,h2,h3⟩:=aT h
   refine ⟨?_,SV.oC hle v h2,h3⟩
   rcases h1 with h1|h1
   ·exact R.here.sl i v (fT h1).1
   ·exact R.here.rs i v h1) (fun nm B h=>by
   obtain ⟨h1,h2,h3⟩:=aM h
   refine ⟨(kp h3).1,fun B' aL=> ?_⟩
   subst aL
   have:s.g (N.ι nm)=some (B'.av C.D.toTE N)/\N.ln nm=B'.len:=by
    rcases h1 with h1|h1
    ·exact R.here.bl nm B' (fM h1).1
    ·exact R.here.rb nm B' h1
   exact ⟨this.1,this.2,SB.oC hle B' (h2 B' rfl)⟩) R.inj R.lt
   (fun t Ar h id hid=>by
    have cQ:∀nm B,(⟨ft++st.rt,fm++st.rm,bS C.D vs T x0,putM C.D vs T x0,st.nx⟩:SS τ dn).bB nm B->(∃B',st.bB nm B')/\(∀t Ar,nm=0->B= .ar t Ar->st.bB 0 (.ar t Ar)):=fun nm B hB=>by
     rcases hB with hB|hB
     ·rcases uU DZ kO nm B (jq hB) with ⟨j,v,p1,p2,p3,⟨B',p4⟩,p5⟩|⟨hf,⟨B',p4⟩,p5⟩
      case inr=>exact ⟨⟨B',gL p4⟩,fun t Ar h0 he=>absurd he (p5 t Ar)⟩
      have hj:nmV st v=nm:=by
       have:T[j]? =some (nmV st v):=by rw [<-hT,O6,p1];rfl
       rw [p2] at this;simpa using this.symm
      exact ⟨⟨B',hj▸gL p4⟩,fun t Ar h0 he=>gL (p5 t Ar he).2⟩
     ·have aL:getS (fm++st.rm) nm=some (some B):=hB
      have:st.bB nm B:=by
       rcases (aM aL).1 with h1|h1
       ·exact .inl (fM h1).1
       ·exact .inr h1
      exact ⟨⟨B,this⟩,fun t Ar h0 he=>by subst h0;subst he;exact this⟩
    have h1:=(cQ 0 _ h).2 t Ar rfl rfl
    obtain ⟨q1,q2⟩:=R.sp t Ar h1 id hid
    exact ⟨R.here.ar t Ar h1 id hid,q1,fun nm B hB=>by obtain ⟨⟨B',aL⟩,_⟩:=cQ nm B hB;exact q2 nm B' aL⟩)
 obtain ⟨e,s',j,N2,aw,c1,c2,c3,c4,c5,c6⟩:=rounds (ms x0) x0 N s1 (OQ _) qx R1
 exact ⟨e,s',N2,aw,ED.fP w1 (ED.loop c1),c2,c3,c4,c5,c6⟩
theorem D0 {C:b7 τ dn} (hC:C.Ok) {n k0:Nat} {an:Nat->Option (LA τ dn)}:∀(ps:List (List az)) {st:SS τ dn} {K:SS τ dn->Prop} {N:aC} {s:S3},Rel C.D N st s->vd C n an ps st K->
  ∃s' N' aw,pO C.P n k0 ps s s'/\Rel C.D N' aw s'/\(aw.rt=st.rt/\aw.rm=st.rm)/\N.agree st.nx N'/\st.nx<=aw.nx/\K aw
 |[],st,K,N,s,R,h=>⟨s,N,st, .nil,R,⟨rfl,rfl⟩,N.dT _,OQ _,h⟩
 |p::ps,st,K,N,s,R,h=>by
  simp only [vd] at h
  obtain ⟨s1,st1,w1,R1,z1,z2,z3,h⟩:=yW (n:=n) (k0:=k0) hC.ok _ R h
  obtain ⟨Ou,Mh,Mi,Mj,Ml,h⟩:=Ld R1 h
  obtain ⟨Mm,Mn,y8,y9,za,h⟩:=DH hC.ok Mh h
  obtain ⟨Ov,Mo,Mp,Mq,Mr,h⟩:=DG Mn h
  obtain ⟨aY,R2,y1,y2,y3,h⟩:=uD hC.ok Mo h
  rw [Mp,y8,Mi] at y1;rw [Mq,y9,Mj] at y2;rw [Mr,za,Ml] at y3
  obtain ⟨s3,N3,mU,e3,R3,r1,r2,r3,h⟩:=uM (hC.wo (se an p)) (k0:=k0) R2 h
  obtain ⟨s4,N4,Ms,e4,R4,q1,q2,q3,h⟩:=D0 hC (k0:=k0) ps R3 h
  rw [y1,y2,z1,z2] at r1
  rw [y3,z3] at r2 r3
  exact ⟨s4,N4,Ms, .cons w1 e3 e4,R4,⟨q1.1.trans r1.1,q1.2.trans r1.2⟩,aC.eN r2 q2 r3,Pe r3 q3,h⟩
theorem j4 {C:b7 τ dn} (hC:C.Ok) {n k0:Nat} {an:Nat->Option (LA τ dn)}:∀(ac:AC) (k:Nat) {st:SS τ dn} {K:Ex->SS τ dn->Prop} {N:aC} {s:S3},Rel C.D N st s->C.fl<=st.nx->eR C n an ac k st K->Ends C n k0 ac N st s K
 | .skip,k,st,K,N,s,R,hl,h=>⟨_,s,N,st,ED.skip,R,rfl,rfl,⟨N.dT _,hl⟩,h⟩
 | .ret,k,st,K,N,s,R,hl,h=>⟨_,s,N,st,ED.ret,R,rfl,rfl,⟨N.dT _,hl⟩,h⟩
 | .exit i,k,st,K,N,s,R,hl,h=>⟨_,s,N,st,ED.exit,R,rfl,rfl,⟨N.dT _,hl⟩,h⟩
 | .seq a b,k,st,K,N,s,R,hl,h=>by
  simp only [eR] at h
  obtain ⟨e,s1,N1,st1,e1,R1,r1,r2,r3,hk⟩:=j4 hC a k R hl h
  cases e with
  |normal=>
   obtain ⟨e,s2,N2,aY,e2,R2,q1,q2,q3,hk2⟩:=j4 hC b _ R1 r3.2 hk
   exact ⟨e,s2,N2,aY,ED.seq e1 e2,R2,q1.trans r1,q2.trans r2,⟨aC.eN r3.1 q3.1 (OQ _),q3.2⟩,hk2⟩
  |exit i=>exact ⟨_,s1,N1,st1,ED.C7 e1 (by simp),R1,r1,r2,r3,hk⟩
  |ret=>exact ⟨_,s1,N1,st1,ED.C7 e1 (by simp),R1,r1,r2,r3,hk⟩
 | .cond c a b,k,st,K,N,s,R,hl,h=>by
  simp only [eR] at h
  have go:∀p:Bool,aG s.σ c= .v (.bool p)->(p=true->Ends C n k0 a N st s K)->(p=false->Ends C n k0 b N st s K)->Ends C n k0 (.cond c a b) N st s K:=fun p hp h1 h2=>by
   cases p with
   |true=>
    obtain ⟨e,s1,N1,st1,e1,R1,r1,r2,r3,hk⟩:=h1 rfl
    exact ⟨e,s1,N1,st1,ED.cond hp (by rw [OI rfl];exact e1),R1,r1,r2,r3,hk⟩
   |false=>
    obtain ⟨e,s1,N1,st1,e1,R1,r1,r2,r3,hk⟩:=h2 rfl
    exact ⟨e,s1,N1,st1,ED.cond hp (by rw [OH (by simp)];exact e1),R1,r1,r2,r3,hk⟩
  split at h
  ·rename_i hc
   exact go true (R.here.ev hc) (fun _=>j4 hC a k R hl h) (fun hh=>by simp at hh)
  ·rename_i hc
   exact go false (R.here.ev hc) (fun hh=>by simp at hh) (fun _=>j4 hC b _ R hl h)
  ·rename_i c' hc
   split at h
   ·rename_i O aw hm
    rw [jX] at h
    obtain ⟨hO,hk⟩:=h
    have D1:∀{x:AC},x= .skip->Rel C.D N aw s->aw.rt=st.rt/\aw.rm=st.rm/\aw.nx=st.nx->Ends C n k0 x N st s K:=fun {x} hx hR hs=>by
     subst hx
     exact ⟨_,s,N,aw,ED.skip,hR,hs.1,hs.2.1,⟨N.dT _,by rw [hs.2.2];exact hl⟩,hk⟩
    have run:∀{x:AC} {os:List az},x= .bK os none->(∃s' N',gB C.P n k0 os s.σ s.g s.k s'.σ s'.g s'.k/\Rel C.D N' aw s'/\N.agree st.nx N')->aw.rt=st.rt/\aw.rm=st.rm/\aw.nx=st.nx->Ends C n k0 x N st s K:=fun {x os} hx hR hs=>by
     subst hx
     obtain ⟨s',N',q1,q2,q3⟩:=hR
     exact ⟨_,s',N',aw,ED.bK q1,q2,hs.1,hs.2.1,⟨ve q3 hl,by rw [hs.2.2];exact hl⟩,hk⟩
    unfold DK at hm
    split at hm
    ·obtain ⟨q1,q2,q3⟩:=Dy (k0:=k0) hC hm hO R
     exact go c'.den (R.here.ev hc) (fun hh=>D1 rfl (q2 hh) q1) (fun hh=>run rfl (q3 hh) q1)
    ·obtain ⟨q1,q2,q3⟩:=Dy (k0:=k0) hC hm hO R
     exact go c'.den (R.here.ev hc) (fun hh=>run rfl (q3 hh) q1) (fun hh=>D1 rfl (q2 hh) q1)
    ·simp at hm
   exact go c'.den (R.here.ev hc) (fun hh=>j4 hC a k R hl (h.1 ((Cn.jg c' true).2 hh))) (fun hh=>j4 hC b _ R hl (h.2 ((Cn.jg c' false).2 hh)))
  ·exact h.elim
 | .block i a,k,st,K,N,s,R,hl,h=>by
  simp only [eR] at h
  obtain ⟨e,s1,N1,st1,e1,R1,r1,r2,r3,hk⟩:=j4 hC a k R hl h
  exact ⟨_,s1,N1,st1,ED.block e1,R1,r1,r2,r3,hk⟩
 | .loop a,k,st,K,N,s,R,hl,h=>by
  simp only [eR] at h
  split at h
  ·rename_i m hm
   obtain ⟨e,s2,j,N2,aY,c1,c2,c3,c4,c5,c6⟩:=DR (fun R hl h=>j4 hC a (k+1) R hl h) m R hl h
   exact ⟨e,s2,N2,aY,ED.loop c1,c2,c3,c4,c5,c6⟩
  ·rename_i vs I ms hm
   obtain ⟨s1,N1,w1,R1,r1,r2,r3,r4⟩:=DL (n:=n) (k0:=k0) (vs:=vs) R
   obtain ⟨e,s2,N2,aY,e2,R2,q1,q2,q3,hk⟩:=Me hC (fun R hl h=>j4 hC a (k+1) R hl h) R1 (Pe hl r4) h
   exact ⟨e,s2,N2,aY,ED.fP w1 e2,R2,q1.trans r1,q2.trans r2,⟨aC.eN (ve r3 hl) q3.1 (OQ _),q3.2⟩,hk⟩
  ·exact h.elim
 | .bK os none,k,st,K,N,s,R,hl,h=>by
  simp only [eR] at h
  obtain ⟨s',N',aw,e1,R1,r1,r2,r3,hk⟩:=D0 hC (k0:=k0) _ R h
  have e2:=ED.LU e1
  rw [DD] at e2
  exact ⟨_,s',N',aw,e2,R1,r1.1,r1.2,⟨ve r2 hl,Pe hl r3⟩,hk⟩
 | .bK os (some dep),k,st,K,N,s,R,hl,h=>by
  simp only [eR] at h
  obtain ⟨s1,st1,w1,R1,z1,z2,z3,h⟩:=yW (n:=n) (k0:=k0) hC.ok _ R h
  obtain ⟨Mm,Mt,y8,y9,za,h⟩:=DH hC.ok R1 h
  obtain ⟨aY,R1,y1,y2,y3,h⟩:=DG Mt h
  rw [y8] at y1;rw [y9] at y2;rw [za] at y3
  obtain ⟨jn,hj,s',N',aw,e1,R1,r1,r2,r3,hk⟩:=Lo (hC.wo (se an os)) R1 h
  rw [y1,y2,z1,z2] at r1
  rw [y3,z3] at r2 r3
  exact ⟨_,s',N',aw,ED.fP w1 (ED.draw hj e1),R1,r1.1,r1.2,⟨ve r2 hl,Pe hl r3⟩,hk⟩
 | .gG _ _ _ _,k,st,K,N,s,R,hl,h=>by simp only [eR] at h
def eP (D:TD τ dn) (vs:List (SV τ dn)):SS τ dn:=match D.ar with
 |none=>⟨[],[],kP vs 0,[],0⟩
 |some t=>⟨[],[],kP vs 0,[(0,some (.ar t []))],1⟩
def zb:List kz->List Nat
 |[]=>[]
 | .tmp i::r| .cell i _::r=>i::zb r
def zc (C:b7 τ dn) (F:cT) (an:Nat->Option (LA τ dn)) (vs:List (SV τ dn)) (rs:List τ) (r:RD dn rs):Prop:=
 bif Nat.ble vs.length F.n&&rs.all C.D.pu&&Nat.beq C.fl 0 then eR C F.n an F.code 0 (eP C.D vs) fun e st=>match e with
  | .exit _=>False
  |_=>pL C.D false (st.uY (zb F.res)) st fun st=>match j3 C.D st F.res with
   |some (O,l)=>match jY C.D st l with
    |some l'=>match kH C.D rs l' with
     |some y=>fF O (y=r)
     |none=>False
    |none=>False
   |none=>False
 else False
theorem Mu {C:b7 τ dn} (hC:C.Ok) (hF:cFunc C.P f=some F) {an:Nat->Option (LA τ dn)} {vs:List (SV τ dn)} {rs:List τ} {r:RD dn rs} (N:aC) (eC:SV.dS (fun _=>false) vs=true) (h:zc C F an vs rs r):Fn C.P f (vs.map (SV.av C.D.toTE N)) ((mS (iP C.D rs r)).av C.D.toTE N):=by
 unfold zc at h
 cases hb:(Nat.ble vs.length F.n&&rs.all C.D.pu&&Nat.beq C.fl 0) with
 |false=>rw [hb] at h;exact h.elim
 |true=>
 rw [hb,OL] at h
 rw [OJ,OJ] at hb
 obtain ⟨hb,hz⟩:=hb
 have hz:=OR hz
 have hl:vs.length<=F.n:=Pn hb.1
 have cu:∀(N':aC),N'.ρ=N.ρ->∀i v,getS (kP vs 0) i=some v->cj (vs.map (SV.av C.D.toTE N)) i=v.av C.D.toTE N':=fun N' fR i v hv=>by
  obtain ⟨_,h2⟩:=y6 hv
  rw [Nat.sub_zero] at h2
  have hs:N.same (fun _=>false) N':=⟨fun a ha=>by simp at ha,fR⟩
  have hm:∀(l:List (SV τ dn)) (j:Nat) w,SV.dS (fun _=>false) l=true->l[j]? =some w->w.fr (fun _=>false)=true:=by
   intro l
   induction l with
   |nil=>intro j w _ hw;simp at hw
   |cons a l ih=>
    intro j w hl hw
    simp only [SV.dS,OJ] at hl
    cases j with
    |zero=>simp only [Pg,OG] at hw;subst hw;exact hl.1
    |succ j=>exact ih j w hl.2 (by simpa using hw)
  unfold cj
  rw [O6,h2]
  exact (pJ hs v (hm vs i v eC h2)).symm
 have R0:∃s0 N0,S3.Le 0 F.n ⟨cj (vs.map (SV.av C.D.toTE N)),fun _=>none,0⟩ s0/\Rel C.D N0 (eP C.D vs) s0:=by
  unfold eP
  split
  ·refine ⟨_,N,S3.Le.mV,⟨fun N' hN=>⟨fun i v hv=>cu N' hN.2 i v hv,fun i v hv=>by simp [getS] at hv,fun nm B hB=>by simp [getS] at hB,fun nm B hB=>by simp [getS] at hB,fun t A h=>by rcases h with h|h<;>simp [getS] at h⟩,fun a b ha=>absurd ha (Nat.not_lt_zero _),fun a ha=>absurd ha (Nat.not_lt_zero _),fun nm B hB=>by simp [getS] at hB,fun nm B hB=>by simp [getS] at hB,fun t A h=>by rcases h with h|h<;>simp [getS] at h⟩⟩
  ·rename_i t _
   have D2:∀t' A,(⟨[],[],kP vs 0,[(0,some (.ar t []))],1⟩:SS τ dn).bB 0 (.ar t' A)->∀id,¬dA A id:=fun t' A h id=>by
    rcases h with h|h
    ·simp only [bk,OK,OG,SB.ar.injEq] at h
     obtain ⟨rfl,h⟩:=h
     have h:=eq_of_heq h
     subst h;exact B7
    ·simp [getS] at h
   refine ⟨_,⟨fun _=>0,fun _=>0,N.ρ⟩,S3.L8 (C.D.sz t),⟨fun N' hN=>⟨fun i v hv=>cu N' hN.2 i v hv,fun i v hv=>by simp [getS] at hv,fun nm B hB=> ?_,fun nm B hB=>by simp [getS] at hB,fun t' A h id hid=>absurd hid (D2 t' A h id)⟩,fun a b ha hb _=> ?_,fun a ha=> ?_,fun nm B hB=> ?_,fun nm B hB=>by simp [getS] at hB,fun t' A h id hid=>absurd hid (D2 t' A h id)⟩⟩
   ·have aL:getS [(0,some (SB.ar t ([]:List (Nat×List (dn t)))))] nm=some (some B):=hB
    rw [bk] at aL
    by_cases hn:nm=0
    ·subst hn
     simp only [OK,OG] at aL
     subst aL
     have e:=hN.1 0 (PO 0)
     refine ⟨?_,e.2⟩
     show aA _ _ (N'.ι 0)=_
     rw [e.1];rfl
    ·rw [OH hn] at aL;simp [getS] at aL
   ·have:a<1:=ha
    have:b<1:=hb
    omega
   ·exact PO 0
   ·have aL:getS [(0,some (SB.ar t ([]:List (Nat×List (dn t)))))] nm=some B:=hB
    rw [bk] at aL
    by_cases hn:nm=0
    ·subst hn;exact PO 0
    ·rw [OH hn] at aL;simp [getS] at aL
 obtain ⟨s0,N0,w0,R0⟩:=R0
 refine Bf hF (by rw [O7];exact hl) ?_
 obtain ⟨e,s',N',aw,e1,R1,_,_,_,hk⟩:=j4 hC (n:=F.n) (k0:=0) F.code 0 R0 (by rw [hz];exact Nat.zero_le _) h
 have e1:=ED.fP w0 e1
 have hk2:(e= .normal\/e= .ret)/\pL C.D false (aw.uY (zb F.res)) aw fun aw=>match j3 C.D aw F.res with
   |some (O,l)=>match jY C.D aw l with
    |some l'=>match kH C.D rs l' with
     |some y=>fF O (y=r)
     |none=>False
    |none=>False
   |none=>False:=by
  cases e with
  |normal=>exact ⟨.inl rfl,hk⟩
  |ret=>exact ⟨.inr rfl,hk⟩
  |exit i=>exact hk.elim
 clear hk
 obtain ⟨he,hk⟩:=hk2
 obtain ⟨s2,aY,w2,R2,_,_,_,hk2⟩:=yW (n:=F.n) (k0:=0) hC.ok _ R1 hk
 clear hk
 have e1:=ED.post e1 w2
 clear R1 w2
 revert hk2 R2
 generalize aY=aw
 intro R1 hk
 refine EW.cP e1 fun x t ht=> ?_
 obtain ⟨rfl,rfl⟩:=ht
 have fin:(match j3 C.D aw F.res with
   |some (O,l)=>match jY C.D aw l with
    |some l'=>match kH C.D rs l' with
     |some y=>fF O (y=r)
     |none=>False
    |none=>False
   |none=>False)->∃r',((resR t.σ F.res).bind gH).run t.g=some r'/\aQ r' ((mS (iP C.D rs r)).av C.D.toTE N):=fun hk=>by
  split at hk
  case h_2=>exact hk.elim
  rename_i O l hr
  split at hk
  case h_2=>exact hk.elim
  rename_i l' hs
  split at hk
  case h_2=>exact hk.elim
  rename_i y hy
  rw [jX] at hk
  obtain ⟨hO,rfl⟩:=hk
  have q1:=vj hC.ok R1.here hr hO
  have q2:=CE hC.ok R1.here hs
  have q3:(resR t.σ F.res).run t.g=some (lu (l.map (SV.av C.D.toTE N'))):=by
   unfold resR
   rw [dw q1];rfl
  have q4:(gH (lu (l.map (SV.av C.D.toTE N')))).run t.g=some (lu (l'.map (SV.av C.D.toTE N'))):=by
   have hlen:=DN hs
   match l,l',q2,hlen with
   |[],[],q2,_=>exact dw q2
   |[v],[v'],q2,_=>
    have:(dy (v.av C.D.toTE N')).run t.g=some (v'.av C.D.toTE N'):=by
     simp only [jY] at hs
     split at hs
     ·rename_i x l2 h1 h2
      simp only [OG] at h2;subst h2
      simp only [OG,Qp,and_true] at hs;subst hs
      exact yj hC.ok R1.here h1
     ·simp at hs
    exact L7 this
   |v::w::l2,v'::w'::Ow,q2,_=>
    show ((cS ((v::w::l2).map (SV.av C.D.toTE N'))).bind fun l=>RM.ret (AV.aK l)).run t.g=_
    rw [dw q2];rfl
  refine ⟨_,(dw q3).trans q4, ?_⟩
  refine aQ.trans (KM (CG (N:=N') hC.ok hy)) (aQ.of_eq ?_)
  rw [ux,DP hC.ok rs y hb.2]
 exact ⟨he,fin hk⟩
end
open Go.RowKit
section
variable {τ:Type} {dn:τ->Type} {D:TD τ dn}
theorem zd (ok:bh D) {p:Nat->Bool}:∀(cs:List (Bool×τ)) (x:CD dn cs),SV.dS p (lV D cs x)=true
 |[],_=>rfl
 |(false,t)::r,x=>by simp only [lV,SV.dS,yP ok,zd ok r x.2,Bool.and_self]
 |(true,t)::r,x=>by simp only [lV,SV.dS,SV.fr,ok.nf,zd ok r x.2,Bool.and_self]
theorem vp (ok:bh D) {p:Nat->Bool}:∀(ps:List (Pt τ)) (x:PD dn ps),SV.dS p (lX D ps x)=true
 |[],_=>rfl
 | .ty t::r,x=>by simp only [lX,Pt.enc,SV.dS,yP ok,vp ok r x.2,Bool.and_self]
 | .ptr t::r,x=>by simp only [lX,Pt.enc,SV.dS,SV.fr,ok.nf,vp ok r x.2,Bool.and_self]
 | .pv f cs::r,x=>by simp only [lX,Pt.enc,SV.dS,SV.fr,zd ok,vp ok r x.2,Bool.and_self]
inductive IK (τ:Type) (dn:τ->Type) where
 |fn (F:cT) (an:Nat->Option (LA τ dn))
 |del (t:τ) (by_:Nat) (zs:List AV)
structure IL (τ:Type) (dn:τ->Type) where
 f:FuncId
 k:IK τ dn
 cl:Option FuncId:=none
def vq (g:FuncId):List (SV τ dn)->Bool
 |[]=>false
 | .fn f _::r=>Nat.beq f g||vq g r
 |_::r=>vq g r
def sf:List (IL τ dn)->FuncId->List (SV τ dn)->Option (IL τ dn)
 |[],_,_=>none
 |i::r,f,vs=>bif Nat.beq i.f f&&(match i.cl with|none=>true|some g=>vq g vs) then some i else sf r f vs
def Cons (P:Program) (D:TD τ dn):List (dx τ dn)->Prop
 |[]=>True
 |c::r=>c.Ok P D/\Cons P D r
def vr (P:Program) (D:TD τ dn):List (jk τ dn)->Prop
 |[]=>True
 |c::r=>c.Ok P D/\vr P D r
def IK.Ok (P:Program) (D:TD τ dn) (f:FuncId):IK τ dn->Prop
 | .fn F _=>cFunc P f=some F/\bL P f=true
 | .del t by_ zs=>cFunc P f=some (xj (D.sz t) by_ zs)/\bL P f=true/\zs.length=D.sz t
def vA (P:Program) (D:TD τ dn):List (IL τ dn)->Prop
 |[]=>True
 |i::r=>i.k.Ok P D i.f/\vA P D r
theorem ze {P:Program}:∀{Δ:List (dx τ dn)},Cons P D Δ->∀c,c∈Δ->c.Ok P D
 |[],_,c,hc=>by simp at hc
 |d::r,h,c,hc=>by
  rcases OU.1 hc with rfl|hc
  ·exact h.1
  ·exact ze h.2 c hc
theorem zf {P:Program}:∀{Ω:List (jk τ dn)},vr P D Ω->∀c,c∈Ω->c.Ok P D
 |[],_,c,hc=>by simp at hc
 |d::r,h,c,hc=>by
  rcases OU.1 hc with rfl|hc
  ·exact h.1
  ·exact zf h.2 c hc
theorem zg {P:Program}:∀{il:List (IL τ dn)},vA P D il->∀{f vs i},sf il f vs=some i->i.k.Ok P D f
 |[],_,f,vs,i,h=>by simp [sf] at h
 |j::r,h,f,vs,i,hi=>by
  simp only [sf] at hi
  cases hb:(Nat.beq j.f f&&(match j.cl with|none=>true|some g=>vq g vs)) with
  |false=>rw [hb,O0] at hi;exact zg h.2 hi
  |true=>
   rw [hb,OL,OG] at hi
   subst hi
   rw [OJ] at hb
   rw [<-OR hb.1];exact h.1
theorem Mv {as_:List AV} {g':Nat->Option Bk} {k k':Nat} {r:AV} (h:∀m:List (Option Bk),m.length=k->look m=g->Fi P f as_ (look m) m.length r g' k'):Fi P f as_ g k r g' k':=by
 intro E J base vs hG hm ba bJ
 have hg:look ((List.range k).map g)=g:=by
  funext id
  unfold look
  rcases Ps id k with h1|h1
  ·simp [h1]
  ·rw [P9 (by simpa using h1)]
   cases hq:g id with
   |none=>rfl
   |some B=>exact absurd (ba id ((hm.live id).2 ⟨B,hq⟩).1) (by omega)
 have:=h _ (by simp) hg
 rw [hg,O7,List.length_range] at this
 exact this E J base vs hG hm ba bJ
variable [DecidableEq τ]
def zh (C:b7 τ dn) (F:cT) (an:Nat->Option (LA τ dn)) (vs:List (SV τ dn)) (st:SS τ dn) (K:SV τ dn->SS τ dn->Prop):Prop:=
 bif Nat.ble vs.length F.n then eR C F.n an F.code 0 ⟨[],st.rm,kP vs 0,st.m,st.nx⟩ fun e aw=>match e with
  | .exit _=>False
  |_=>match j3 C.D aw F.res with
   |some (O,l)=>fF O (K (mS l) aw)
   |none=>False
 else False
theorem Mw {C:b7 τ dn} (hC:C.Ok) (hF:cFunc C.P f=some F) (hc:bL C.P f=true) {an:Nat->Option (LA τ dn)} {vs:List (SV τ dn)} {st:SS τ dn} {K:SV τ dn->SS τ dn->Prop} (R:Rel C.D N st s) (jO:C.fl=st.nx)
  (ha:∀N',N.agree st.nx N'->vs.map (SV.av C.D.toTE N')=vs.map (SV.av C.D.toTE N)) (h:zh C F an vs st K):uE C.P C.D f vs st K N s:=by
 unfold zh at h
 cases hb:Nat.ble vs.length F.n with
 |false=>rw [hb] at h;exact h.elim
 |true=>
 rw [hb,OL] at h
 have R0:Rel C.D N ⟨[],st.rm,kP vs 0,st.m,st.nx⟩ ⟨cj (vs.map (SV.av C.D.toTE N)),s.g,s.k⟩:=by
  refine ⟨fun N' hN=>⟨fun i v hv=> ?_,fun i v hv=>by simp [getS] at hv,(R.at_ N' hN).bl,(R.at_ N' hN).rb,(R.at_ N' hN).ar⟩,R.inj,R.lt,R.ml,R.rl,R.sp⟩
  obtain ⟨_,h2⟩:=y6 hv
  rw [Nat.sub_zero] at h2
  show cj _ i=_
  unfold cj
  rw [<-ha N' hN,O6,h2];rfl
 obtain ⟨e,s',N',aw,e1,R1,_,r2,r3,hk⟩:=j4 hC (n:=F.n) (k0:=s.k) F.code 0 R0 (Nat.le_of_eq jO) h
 have fin:(match j3 C.D aw F.res with
   |some (O,l)=>fF O (K (mS l) aw)
   |none=>False)->∃v,(resR s'.σ F.res).run s'.g=some (v.av C.D.toTE N')/\(∀bW,N'.agree aw.nx bW->v.av C.D.toTE bW=v.av C.D.toTE N')/\K v aw:=fun hk=>by
  split at hk
  case h_2=>exact hk.elim
  rename_i O l hr
  rw [jX] at hk
  obtain ⟨hO,hk⟩:=hk
  have q:∀bW,N'.agree aw.nx bW->(resR s'.σ F.res).run s'.g=some ((mS l).av C.D.toTE bW):=fun bW hN=>by
   rw [ux]
   unfold resR
   rw [dw (vj hC.ok (R1.at_ bW hN) hr hO)];rfl
  refine ⟨_,q N' (N'.dT _),fun bW hN=> ?_,hk⟩
  have:=(q bW hN).symm.trans (q N' (N'.dT _))
  simpa using this
 have go:∀{x:Ex},(x= .normal\/x= .ret)->e=x->(∃v,(resR s'.σ F.res).run s'.g=some (v.av C.D.toTE N')/\(∀bW,N'.agree aw.nx bW->v.av C.D.toTE bW=v.av C.D.toTE N')/\K v aw)->uE C.P C.D f vs st K N s:=fun {x} hx he hv=>by
  obtain ⟨v,v1,v2,v3⟩:=hv
  refine ⟨hc,s'.g,s'.k,N',v,aw, ?_,v2, ?_, ?_, ?_,v3⟩
  ·refine Bg hF (by rw [O7];exact Pn hb) (EW.cP e1 fun y t ht=> ?_)
   obtain ⟨rfl,rfl⟩:=ht
   exact ⟨by rw [he];exact hx,t,S3.Le.mV,v1,rfl,rfl⟩
  ·rw [<-jO];exact r3.1
  ·rw [<-jO];exact r3.2
  ·have zj:aw.rm=st.rm:=r2
   have cQ:∀a X,(⟨[],st.rm,[],aw.m,aw.nx⟩:SS τ dn).bB a X->aw.bB a X:=fun a X hX=>hX.imp id fun h=>by rw [zj];exact h
   refine ⟨fun bW hN=>⟨fun i v hv=>by simp [getS] at hv,fun i v hv=>by simp [getS] at hv,(R1.at_ bW hN).bl,fun nm B hB=>(R1.at_ bW hN).rb nm B (by rw [zj];exact hB),fun t A h id hid=>(R1.at_ bW hN).ar t A (cQ 0 _ h) id hid⟩,R1.inj,R1.lt,R1.ml,fun nm B hB=>R1.rl nm B (by rw [zj];exact hB),fun t A h id hid=>⟨(R1.sp t A (cQ 0 _ h) id hid).1,fun nm B hB=>(R1.sp t A (cQ 0 _ h) id hid).2 nm B (cQ nm B hB)⟩⟩
 cases e with
 |normal=>exact go (.inl rfl) rfl (fin hk)
 |ret=>exact go (.inr rfl) rfl (fin hk)
 |exit i=>exact hk.elim
def zk (D:TD τ dn) (t:τ) (vs:List (SV τ dn)) (st:SS τ dn) (K:SV τ dn->SS τ dn->Prop):Prop:=
 match vs with
 |[.own nm sz,a,b]=>match st.gm nm,a.int,b.int with
  |some (.bl t' xs),some (x,_),some (y,_)=>if h:t'=t then (bif st.rw nm&&Nat.beq sz (D.sz t) then 0<=x/\x<xs.length/\y=x+1/\xs.length<=1000000/\K (.own st.nx sz) ⟨st.rt,st.rm,st.t,(st.nx,some (.bl t ((h▸xs:List (dn t)).eraseIdx x.toNat)))::(nm,none)::st.m,st.nx+1⟩ else False) else False
  |_,_,_=>False
 |_=>False
theorem Mx {t:τ} {by_:Nat} {zs:List AV} (hk:IK.Ok P D f (.del t by_ zs:IK τ dn)) {vs:List (SV τ dn)} {st:SS τ dn} {K:SV τ dn->SS τ dn->Prop} (R:Rel D N st s) (h:zk D t vs st K):uE P D f vs st K N s:=by
 obtain ⟨hF,hc,hz⟩:=hk
 unfold zk at h
 split at h
 case h_2=>exact h.elim
 rename_i nm sz a b
 split at h
 case h_2=>exact h.elim
 rename_i t' xs x bx y Ox h1 h2 h3
 split at h
 case isFalse=>exact h.elim
 rename_i ht
 subst ht
 cases hb:st.rw nm&&Nat.beq sz (D.sz t') with
 |false=>rw [hb] at h;exact h.elim
 |true=>
 rw [hb,OL] at h
 rw [OJ] at hb
 obtain ⟨zl,hs⟩:=hb
 have hs:=OR hs
 subst hs
 obtain ⟨q1,q2,q3,q4,hK⟩:=h
 unfold SS.rw at zl
 rw [OJ] at zl
 obtain ⟨w1,w2⟩:=zl
 have hm:getS st.m nm=some (some (.bl t' xs)):=by
  unfold SS.gm at h1
  cases hg:getS st.m nm with
  |none=>rw [hg] at w1;simp at w1
  |some B=>rw [hg] at h1;simp only at h1;rw [h1]
 have D3:=R.here.bl nm _ hm
 have R1:Rel D N st ⟨s.σ,s.g,s.k+1⟩:=⟨R.at_,R.inj,fun a ha=>Ql (R.lt a ha),R.ml,R.rl,fun t A h id hid=>⟨Ql (R.sp t A h id hid).1,(R.sp t A h id hid).2⟩⟩
 have fb:=R1.go (n:=0) (d:=none) (r:= .mov [] (.vo undef) nm (.bl t' (xs.eraseIdx x.toNat))) rfl ⟨⟨_,hm⟩,by simpa using w2,rfl⟩ (val:= .v undef) (ups:=[(N.ι nm,none),(s.k+1,some ⟨D.sz t',(xs.eraseIdx x.toNat).map (D.ea N.ρ t')⟩)]) (fun _ _=>rfl) (fun N' hN=>by
  have e:=hN.1 nm (Ql (R.ml nm _ hm))
  have e2:=hN.2
  simp only [SR.up,aC.dc] at e e2
  have hne:¬nm=st.nx:=fun e=>by have:=R.ml nm _ hm;omega
  rw [OH hne,OH hne] at e
  simp only [SR.ups,SB.av,e.1,e2])
 have hid:N.ι nm<s.k:=R.lt nm (R.ml nm _ hm)
 refine ⟨hc,aA s.g [(N.ι nm,none),(s.k+1,some ⟨D.sz t',(xs.eraseIdx x.toNat).map (D.ea N.ρ t')⟩)],s.k+2,N.dc st.nx (s.k+1) (xs.eraseIdx x.toNat).length, .own st.nx (D.sz t'),_, ?_,fun bW hN=> ?_,N.lQ _ _ _,Nat.le_succ _, ?_,hK⟩
 ·refine Mv fun m pb D4=> ?_
  have hB:look m (N.ι nm)=some ⟨D.sz t',xs.map (D.ea N.ρ t')⟩:=by rw [D4];exact D3.1
  have:=H8 (P:=P) (f:=f) (m:=m) hF hz hB q1 q2 q4
  rw [q3] at h3
  have bn:N.ln nm=xs.length:=D3.2
  have e1:[SV.own nm (D.sz t'),a,b].map (SV.av D.toTE N)=[.own (N.ι nm) (D.sz t') 0 xs.length,VI x,VI (x+1)]:=by
   simp only [OX,Pw,SV.av,bn,eG h2,eG h3]
  have e2:(SV.own st.nx (D.sz t'):SV τ dn).av D.toTE (N.dc st.nx (s.k+1) (xs.eraseIdx x.toNat).length)= .own (m.length+1) (D.sz t') 0 (xs.eraseIdx x.toNat).length:=by
   simp only [SV.av,aC.dc,OK,pb]
  rw [e1,e2]
  have e3:look (lC m (N.ι nm) ⟨D.sz t',(xs.eraseIdx x.toNat).map (D.ea N.ρ t')⟩)=aA s.g [(N.ι nm,none),(s.k+1,some ⟨D.sz t',(xs.eraseIdx x.toNat).map (D.ea N.ρ t')⟩)]:=by
   rw [<-D4, <-pb]
   rw [<-pb] at hid
   funext id
   unfold look lC
   simp only [aA]
   rcases Ps id m.length with hl|hl
   ·rw [PB (by simpa using hl)]
    rw [OH (by omega)]
    by_cases hi:id=N.ι nm
    ·subst hi;simp [hid]
    ·rw [OH hi,QE (fun e=>hi e.symm)]
   ·rw [PN (by simpa using hl),Qh]
    rcases Nat.lt_trichotomy id (m.length+1) with h5|h5|h5
    ·have:id=m.length:=by omega
     subst this
     rw [OH (by omega),OH (by omega)];simp
    ·subst h5
     rw [OI rfl];simp
    ·rw [OH (by omega),OH (by omega),P9 (by simp;omega),P9 (by omega)]
  have e4:(lC m (N.ι nm) ⟨D.sz t',(xs.eraseIdx x.toNat).map (D.ea N.ρ t')⟩).length=s.k+2:=by simp [lC,pb]
  rw [e3,e4] at this
  exact this
 ·have:=hN.1 st.nx (PO _)
  simp only [SV.av,this.1,this.2]
 ·exact ⟨fun bW hN=>⟨fun i v hv=>by simp [getS] at hv,fun i v hv=>by simp [getS] at hv,(fb.at_ bW hN).bl,(fb.at_ bW hN).rb,(fb.at_ bW hN).ar⟩,fb.inj,fb.lt,fb.ml,fb.rl,fb.sp⟩
def vB (P:Program) (D:TD τ dn) (Δ:List (dx τ dn)) (Ω:List (jk τ dn)) (il:List (IL τ dn)):Nat->JW τ dn
 |0,_,_,_,_=>False
 |d+1,f,vs,st,K=>match sf il f vs with
  |some ⟨_, .fn F an,_⟩=>zh ⟨P,D,Δ,Ω,st.nx,vB P D Δ Ω il d,false⟩ F an vs st K
  |some ⟨_, .del t _ _,_⟩=>zk D t vs st K
  |none=>False
theorem D5 {P:Program} (ok:bh D) {Δ:List (dx τ dn)} (sh:Cons P D Δ) {Ω:List (jk τ dn)} (si:vr P D Ω) {il:List (IL τ dn)} (cB:vA P D il):∀(d fl:Nat),(⟨P,D,Δ,Ω,fl,vB P D Δ Ω il d,false⟩:b7 τ dn).Ok
 |0,fl=>⟨ok,ze sh,zf si,fun _ _ h=>h.elim⟩
 |d+1,fl=>⟨ok,ze sh,zf si,fun {f vs st K N s} R ha h=>by
  simp only [vB] at h
  split at h
  ·rename_i F an hi
   obtain ⟨h1,h2⟩:=zg cB hi
   exact Mw (D5 ok sh si cB d st.nx) h1 h2 R rfl ha h
  ·rename_i hi
   exact Mx (zg cB hi) R h
  ·exact h.elim⟩
theorem pR (ok:bh D) {Δ:List (dx τ dn)} (sh:Cons P D Δ) {Ω:List (jk τ dn)} (si:vr P D Ω) (c:dx τ dn) (hF:cFunc P c.f=some F) (hc:bL P c.f=true) (il:PD dn c.ps->List (IL τ dn)) (cB:∀x,vA P D (il x)) (d:Nat) (an:PD dn c.ps->Nat->Option (LA τ dn)) (h:∀x,c.pre x->zc ⟨P,D,Δ,Ω,0,vB P D Δ Ω (il x) d,false⟩ F (an x) (lX D c.ps x) c.rs (c.res x)):c.Ok P D:=
 ⟨hc,fun x N hp=>Mu (D5 ok sh si (cB x) d 0) hF N (vp ok c.ps x) (h x hp)⟩
end
open Go.RowKit
structure LR (α:Type) where
 sz:Nat
 ea:(Nat->AV)->α->List AV
def LR.i64:LR Int:=⟨1,fun _ x=>[.v (.int .i64 x)]⟩
def LR.u8:LR UInt8:=⟨1,fun _ x=>[.v (.int .u8 x.toNat)]⟩
def LR.u64:LR eo:=⟨1,fun _ x=>[.v (.int .u64 (x.n:Int))]⟩
def LR.u16:LR Int:=⟨1,fun _ x=>[.v (.int .u16 x)]⟩
def LR.vC:LR Bool:=⟨1,fun _ x=>[.v (.bool x)]⟩
def LR.str:LR ByteArray:=⟨1,fun _ x=>[.v (.string x)]⟩
def LR.list (A:LR α):LR (List α):=⟨1,fun ρ xs=>[.aX A.sz (xs.map (A.ea ρ))]⟩
section
variable {τ:Type} {dn:τ->Type}
structure LY (E:TE τ dn) {α:Type} (R:LR α) where
 es:α->List (SV τ dn)
 ds:List (SV τ dn)->Option α
 df:α
 dv:∀(N:aC) (x:α),(es x).map (SV.av E N)=R.ea N.ρ x
 jh:∀(N:aC) (cs:List (SV τ dn)) (x:α),ds cs=some x->eg (cs.map (SV.av E N)) (R.ea N.ρ x)
 em:Bool
 pu:Bool
 fZ:∀(N:aC) (cs:List (SV τ dn)) (x:α),ds cs=some x->(em=true\/cs.all SV.ne=true)->cs.map (SV.av E N)=R.ea N.ρ x
 len:∀x,(es x).length=R.sz
 one:∀x,(es x).all SV.one=true
 nf:∀(p:Nat->Bool) x,SV.dS p (es x)=true
 ji:∀(ρ mJ:Nat->AV) (x:α),R.ea ρ x=R.ea mJ x
 pu1:∀(N:aC) (x:α),pu=true->(R.ea N.ρ x).all AV.pu1=true
 bt:Option ((α->UInt8)×(UInt8->α)):=none
 D6:∀(N:aC) (p:(α->UInt8)×(UInt8->α)),bt=some p->(∀x,R.ea N.ρ x=[.v (.int .u8 (p.1 x).toNat)])/\∀b,p.1 (p.2 b)=b:=by intro N p h;simp at h
variable {E:TE τ dn}
def zm:List (SV τ dn)->Option Int
 |[.vi x]=>some x
 |[.vn x]=>some x
 |_=>none
def zn:List (SV τ dn)->Option UInt8
 |[.vy x]=>some x
 |_=>none
def zp:List (SV τ dn)->Option eo
 |[.vu x]=>some x
 |_=>none
def zq:List (SV τ dn)->Option Int
 |[.vw .u16 x]=>some x
 |_=>none
def zr:List (SV τ dn)->Option Bool
 |[.vt x]=>some x
 |[.vb c]=>some c.den
 |_=>none
def zt:List (SV τ dn)->Option ByteArray
 |[.vz x]=>some x
 |_=>none
theorem D7 {cs:List (SV τ dn)} (h:zm cs=some x):cs.map (SV.av E N)=[.v (.int .i64 x)]:=by
 unfold zm at h;split at h<;>simp only [OG,reduceCtorEq] at h<;>subst h<;>rfl
theorem D8 {cs:List (SV τ dn)} {x:UInt8} (h:zn cs=some x):cs.map (SV.av E N)=[.v (.int .u8 x.toNat)]:=by
 unfold zn at h;split at h<;>simp only [OG,reduceCtorEq] at h;subst h;rfl
theorem D9 {cs:List (SV τ dn)} {x:eo} (h:zp cs=some x):cs.map (SV.av E N)=[.v (.int .u64 (x.n:Int))]:=by
 unfold zp at h;split at h<;>simp only [OG,reduceCtorEq] at h;subst h;rfl
theorem Ea {cs:List (SV τ dn)} (h:zq cs=some x):cs.map (SV.av E N)=[.v (.int .u16 x)]:=by
 unfold zq at h;split at h<;>simp only [OG,reduceCtorEq] at h;subst h;rfl
theorem Ec {cs:List (SV τ dn)} {x:Bool} (h:zr cs=some x):cs.map (SV.av E N)=[.v (.bool x)]:=by
 unfold zr at h;split at h<;>simp only [OG,reduceCtorEq] at h<;>subst h<;>rfl
theorem Ed {cs:List (SV τ dn)} {x:ByteArray} (h:zt cs=some x):cs.map (SV.av E N)=[.v (.string x)]:=by
 unfold zt at h;split at h<;>simp only [OG,reduceCtorEq] at h;subst h;rfl
theorem eg.of_eq {a b:List AV} (h:a=b):eg a b:=by
 subst h
 induction a with
 |nil=>exact .nil
 |cons x r ih=>exact .cons aQ.refl ih
def LY.i64:LY E LR.i64 where
 es x:=[.vi x]
 ds:=zm
 df:=0
 dv _ _:=rfl
 jh _ _ _ h:= .of_eq (D7 h)
 em:=true
 pu:=true
 fZ _ _ _ h _:=D7 h
 len _:=rfl
 one _:=rfl
 nf _ _:=rfl
 ji _ _ _:=rfl
 pu1 _ _ _:=rfl
def LY.u8:LY E LR.u8 where
 es x:=[.vy x]
 ds:=zn
 df:=0
 dv _ _:=rfl
 jh _ _ _ h:= .of_eq (D8 h)
 em:=true
 pu:=true
 fZ _ _ _ h _:=D8 h
 len _:=rfl
 one _:=rfl
 nf _ _:=rfl
 ji _ _ _:=rfl
 pu1 _ _ _:=rfl
 bt:=some (id,id)
 D6 N p h:=by simp only [OG] at h;subst h;exact ⟨fun _=>rfl,fun _=>rfl⟩
def LY.u64:LY E LR.u64 where
 es x:=[.vu x]
 ds:=zp
 df:=⟨0,by decide⟩
 dv _ _:=rfl
 jh _ _ _ h:= .of_eq (D9 h)
 em:=true
 pu:=true
 fZ _ _ _ h _:=D9 h
 len _:=rfl
 one _:=rfl
 nf _ _:=rfl
 ji _ _ _:=rfl
 pu1 _ _ _:=rfl
def LY.u16:LY E LR.u16 where
 es x:=[.vw .u16 x]
 ds:=zq
 df:=0
 dv _ _:=rfl
 jh _ _ _ h:= .of_eq (Ea h)
 em:=true
 pu:=true
 fZ _ _ _ h _:=Ea h
 len _:=rfl
 one _:=rfl
 nf _ _:=rfl
 ji _ _ _:=rfl
 pu1 _ _ _:=rfl
def LY.vC:LY E LR.vC where
 es x:=[.vb (.b x)]
 ds:=zr
 df:=false
 dv _ _:=rfl
 jh _ _ _ h:= .of_eq (Ec h)
 em:=true
 pu:=true
 fZ _ _ _ h _:=Ec h
 len _:=rfl
 one _:=rfl
 nf _ _:=rfl
 ji _ _ _:=rfl
 pu1 _ _ _:=rfl
def LY.str:LY E LR.str where
 es x:=[.vz x]
 ds:=zt
 df:=ByteArray.empty
 dv _ _:=rfl
 jh _ _ _ h:= .of_eq (Ed h)
 em:=true
 pu:=true
 fZ _ _ _ h _:=Ed h
 len _:=rfl
 one _:=rfl
 nf _ _:=rfl
 ji _ _ _:=rfl
 pu1 _ _ _:=rfl
def Oy {β:Type} (n:Nat) (a:List (SV τ dn)->Option α) (b:List (SV τ dn)->Option β) (cs:List (SV τ dn)):Option (α×β):=
 match a (cs.take n),b (cs.drop n) with
 |some x,some y=>some (x,y)
 |_,_=>none
def sj {α:Type} (em:Bool) (ds:List (SV τ dn)->Option α):List (List (SV τ dn))->Option (List α)
 |[]=>some []
 |cs::r=>if (em||cs.all SV.ne)=true then (match ds cs,sj em ds r with
  |some x,some l=>some (x::l)
  |_,_=>none) else none
theorem Ee {t:τ} {R:LR (dn t)} (A:LY E R) (N:aC):∀{els:List (List (SV τ dn))} {xs:List (dn t)},sj A.em A.ds els=some xs->SV.bU E N els=xs.map (R.ea N.ρ)
 |[],xs,h=>by simp only [sj,OG] at h;subst h;rfl
 |cs::r,xs,h=>by
  simp only [sj] at h
  split at h
  ·rename_i hn
   split at h
   ·rename_i x l h1 h2
    simp only [OG] at h;subst h
    simp only [SV.bU,OX,SV.bA,A.fZ N _ _ h1 (by rw [O9] at hn;exact hn),Ee A N h2]
   ·simp at h
  ·simp at h
section
variable [DecidableEq τ]
def zu (t:τ) (sz:Nat) (em:Bool) (ds:List (SV τ dn)->Option (dn t)):List (SV τ dn)->Option (List (dn t))
 |[.vl t' xs]=>if h:t'=t then some (h▸xs) else none
 |[.vc k els]=>if k=sz then sj em ds els else none
 |[.emp]=>some []
 |_=>none
theorem Ef {t:τ} {R:LR (dn t)} (A:LY E R) (hs:E.sz t=R.sz) (he:∀ρ,E.ea ρ t=R.ea ρ) (N:aC) {cs:List (SV τ dn)} {xs:List (dn t)} (h:zu t R.sz A.em A.ds cs=some xs):eg (cs.map (SV.av E N)) ((LR.list R).ea N.ρ xs)/\(cs.all SV.ne=true->cs.map (SV.av E N)=(LR.list R).ea N.ρ xs):=by
 unfold zu at h
 split at h
 ·rename_i t' ys
  split at h
  ·rename_i ht
   subst ht
   simp only [OG] at h;subst h
   have:[SV.vl t' ys].map (SV.av E N)=(LR.list R).ea N.ρ ys:=by
    simp only [OX,Pw,SV.av,hs,he];rfl
   exact ⟨.of_eq this,fun _=>this⟩
  ·simp at h
 ·rename_i k els
  split at h
  ·rename_i hk
   subst hk
   have:[SV.vc R.sz els].map (SV.av E N)=(LR.list R).ea N.ρ xs:=by
    simp only [OX,Pw,SV.av,Ee A N h];rfl
   exact ⟨.of_eq this,fun _=>this⟩
  ·simp at h
 ·simp only [OG] at h;subst h
  exact ⟨.cons aQ.emp .nil,fun hn=>by simp [SV.ne] at hn⟩
 ·simp at h
def LY.list {t:τ} {R:LR (dn t)} (A:LY E R) (hs:E.sz t=R.sz) (he:∀ρ,E.ea ρ t=R.ea ρ):LY E (LR.list R) where
 es x:=[.vl t x]
 ds:=zu t R.sz A.em A.ds
 df:=[]
 dv N x:=by simp only [OX,Pw,SV.av,hs,he];rfl
 jh N cs x h:=(Ef A hs he N h).1
 em:=false
 pu:=true
 fZ N cs x h hn:=(Ef A hs he N h).2 (hn.resolve_left (by simp))
 len _:=rfl
 one _:=rfl
 nf _ _:=rfl
 ji ρ mJ x:=by show [AV.aX R.sz (x.map (R.ea ρ))]=[AV.aX R.sz (x.map (R.ea mJ))];rw [funext fun y=>A.ji ρ mJ y]
 pu1 _ _ _:=rfl
end
def My (E:TE τ dn) (ta:τ) (A:List (Nat×List (dn ta))) {α β:Type} (R:LR α) (R':LR β) (f:α->β) (O:α->Prop):Prop:=
 R'.sz=R.sz/\∀(N:aC) (φ:AV->AV),(∀a,a.pu1=true->φ a=a)->(∀id n,dA A id->(fD A id).length=n->φ (.own id (E.sz ta) 0 n)= .aX (E.sz ta) ((fD A id).map (E.ea N.ρ ta)))->∀x,O x->(R.ea N.ρ x).map φ=R'.ea N.ρ (f x)
abbrev FZ (τ:Type) (dn:τ->Type):Type:=(t ta:τ)->(A:List (Nat×List (dn ta)))->Option ((t':τ)×(dn t->dn t')×(dn t->Prop))
def TE.m0 (lr:(t:τ)->LR (dn t)):TE τ dn:=⟨fun t=>(lr t).sz,fun ρ t=>(lr t).ea ρ⟩
def TD.m0 {lr:(t:τ)->LR (dn t)} (ly:(t:τ)->LY (TE.m0 lr) (lr t)) (ag:τ->Bool) (hint:Nat->Nat->Option τ) (neg:Bool) (ar:Option τ:=none) (hr:τ->Bool:=fun _=>false) (fz:FZ τ dn:=fun _ _ _=>none) (th:(t t':τ)->Option (dn t->dn t'):=fun _ _=>none):TD τ dn where
 toTE:=TE.m0 lr
 df t:=(ly t).df
 es t:=(ly t).es
 ds t:=(ly t).ds
 ag:=ag
 pu t:=(ly t).pu
 hint:=hint
 neg:=neg
 em t:=(ly t).em
 ar:=ar
 hr:=hr
 fz:=fz
 bt t:=(ly t).bt
 th:=th
theorem TD.Mz {lr:(t:τ)->LR (dn t)} {ly:(t:τ)->LY (TE.m0 lr) (lr t)} {ag:τ->Bool} {hint:Nat->Nat->Option τ} {neg:Bool} {ar:Option τ} {hr:τ->Bool} {fz:FZ τ dn} {th:(t t':τ)->Option (dn t->dn t')} (hfz:∀(t ta:τ) (A:List (Nat×List (dn ta))) (t':τ) (f:dn t->dn t') (O:dn t->Prop),fz t ta A=some ⟨t',f,O⟩->My (TE.m0 lr) ta A (lr t) (lr t') f O:=by intro t ta A t' f O h;simp at h) (MA:∀(ρ:Nat->AV) (t t':τ) (f:dn t->dn t'),th t t'=some f->(lr t').sz=(lr t).sz/\∀x,(lr t').ea ρ (f x)=(lr t).ea ρ x:=by intro ρ t t' f h;simp at h):bh (TD.m0 ly ag hint neg ar hr fz th) where
 dv N t x:=(ly t).dv N x
 jh N t cs x h:=(ly t).jh N cs x h
 fZ N t cs x h hn:=(ly t).fZ N cs x h (by unfold TD.n8 at hn;rw [O9] at hn;exact hn)
 len t x:=(ly t).len x
 one t x:=(ly t).one x
 nf p t x:=(ly t).nf p x
 ji ρ mJ t x _:=(ly t).ji ρ mJ x
 pu1 N t x h:=(ly t).pu1 N x h
 bt N t p h:=(ly t).D6 N p h
 th:=MA
 fz N φ t ta A t' f O h h1 h2:=⟨(hfz t ta A t' f O h).1,fun x hx=>(hfz t ta A t' f O h).2 N φ h1 h2 x hx⟩
end
open Go.RowKit
structure LG {α:Type} [aN α] (R:LR α) where
 sk:α->Prop
 sz:R.sz=aN.size α
 av:∀{w:World} {cs:List Value} {x:α},aN.rep w w.heap.size cs x->R2 (aj (E0 w fun b=>b<w.heap.size)) cs (R.ea (fun _=> .dead) x)
 one:∀{w:World} {cs:List Value} {x:α},aN.rep w w.heap.size cs x->∀v,v∈cs->v.oneCell'=true
 pu:∀(x:α) c,c∈R.ea (fun _=> .dead) x->Pu c
 bg:∀{w:World} {cs:List Value} {x:α},aN.rep w w.heap.size cs x->sk x
def LG.i64:LG LR.i64 where
 sk:=bp
 sz:=rfl
 av h:=by obtain ⟨rfl,_⟩:=h;exact .cons (.v rfl) .nil
 one h v hv:=by obtain ⟨rfl,_⟩:=h;simp at hv;subst hv;rfl
 pu x c hc:=by simp [LR.i64] at hc;subst hc;exact .v
 bg h:=h.2
def LG.str:LG LR.str where
 sk x:=x.size<=9223372036854775807
 sz:=rfl
 av h:=by obtain ⟨rfl,_⟩:=h;exact .cons (.v rfl) .nil
 one h v hv:=by obtain ⟨rfl,_⟩:=h;simp at hv;subst hv;rfl
 pu x c hc:=by simp [LR.str] at hc;subst hc;exact .v
 bg h:=h.2
def LG.list {α:Type} [aN α] {A:LR α} (a:LG A):LG (LR.list A) where
 sk xs:=xs.length<=9223372036854775807/\∀x,x∈xs->a.sk x
 sz:=rfl
 av {w cs xs} h:=by
  obtain ⟨A0,n,c,rfl,hn,hle,hc,h⟩:=h
  refine .cons ?_ .nil
  rcases h with rfl|⟨b,off,rfl,hb,hs⟩
  ·simp only [List.length_nil] at hn;subst hn;exact .dD hc
  ·have get:∀(i:Nat) (cs:List AV) (j:Nat) x,(xs.map (A.ea fun _=> .dead))[i]? =some cs->cs[j]? =some x->∃u,w.cell? ⟨b,off+i*A.sz+j,none⟩=some u/\u.oneCell'=true/\Pu x/\aj (E0 w fun b=>b<w.heap.size) u x:=by
    intro i cs j x hi hj
    rw [O6,OM] at hi
    obtain ⟨y,hy,rfl⟩:=hi
    obtain ⟨vs,h1,h2⟩:=hs i y hy
    have r:=a.av h1
    have bj:j<vs.length:=by rw [r.len];exact (OO.1 hj).1
    have hv:=OV bj
    refine ⟨vs[j],by rw [a.sz];exact h2 j _ hv,a.one h1 _ (Qt bj),a.pu y x (Pd hj),r.get j _ x hv hj⟩
   refine .ed (fun i j=>(w.cell? ⟨b,off+i*A.sz+j,none⟩).getD undef) (by simpa using hn) hle hc hb (fun i cs hi=> ?_) (fun i cs j x hi hj=> ?_) (fun i cs j x hi hj=> ?_) (fun i cs j x hi hj=> ?_)
   ·rw [O6,OM] at hi
    obtain ⟨y,hy,rfl⟩:=hi
    obtain ⟨vs,h1,_⟩:=hs i y hy
    rw [<-(a.av h1).len,aN.len h1,a.sz]
   all_goals
    obtain ⟨u,k1,k2,k3,k4⟩:=get i cs j x hi hj
   ·show w.cell? _=_;rw [k1];rfl
   ·simp only [k1,PA];exact ⟨k2,k3⟩
   ·simp only [k1,PA];exact k4
 one h v hv:=by obtain ⟨A0,n,c,rfl,_⟩:=h;simp at hv;subst hv;rfl
 pu xs c hc:=by simp [LR.list] at hc;subst hc;exact .aX
 bg {w cs xs} h:=by
  obtain ⟨A0,n,c,rfl,hn,hle,hc,h⟩:=h
  refine ⟨by omega,fun x hx=> ?_⟩
  rcases h with rfl|⟨b,off,rfl,hb,hs⟩
  ·simp at hx
  ·obtain ⟨i,hi⟩:=List.mem_iff_getElem?.1 hx
   obtain ⟨vs,h1,_⟩:=hs i x hi
   exact a.bg h1
def N0:aC:=⟨fun _=>0,fun _=>0,fun _=> .dead⟩
section
variable {τ:Type} {dn:τ->Type} {D:TD τ dn}
theorem Eg (ok:bh D) {t:τ} {x:dn t} {v:Value} (ha:D.ag t=false) (h:R2 (aj E) [v] (D.ea (fun _=> .dead) t x)):aj E v ((D.en t x).av D.toTE N0):=by
 have one:∀l:List AV,[v].length=l.length->∃b,l=[b]:=fun l hl=>by
  match l with
  |[b]=>exact ⟨b,rfl⟩
  |[]=>simp at hl
  |_::_::_=>simp at hl
 obtain ⟨b,hb⟩:=one _ h.len
 rw [yk (N:=N0) ok ha hb]
 have h2:R2 (aj E) [v] [b]:=by rw [<-hb];exact h
 cases h2 with|cons h _=>exact h
end
open Go.RowKit
inductive Tc where
 |eS
 |j5
 |cW
 |sm
 |m4
 |jt
 |m5
 |sn
def Tc.no:Tc->Nat
 | .eS=>0
 | .j5=>1
 | .cW=>2
 | .sm=>3
 | .m4=>4
 | .jt=>5
 | .m5=>6
 | .sn=>7
def Tc.of:Nat->Tc
 |0=> .eS
 |1=> .j5
 |2=> .cW
 |3=> .sm
 |4=> .m4
 |5=> .jt
 |6=> .m5
 |_=> .sn
theorem Tc.Eh (a:Tc):Tc.of a.no=a:=by cases a<;>rfl
instance:DecidableEq Tc:=fun a b=>match Nat.decEq a.no b.no with
 |isTrue h=>isTrue (by rw [<-Tc.Eh a,h,Tc.Eh])
 |isFalse h=>isFalse fun e=>h (by rw [e])
abbrev Tc.dn:Tc->Type
 | .eS=>Int
 | .j5=>UInt8
 | .cW=>Int
 | .sm=>eo
 | .m4=>Bool
 | .jt=>ByteArray
 | .m5=>(List Int)
 | .sn=>(List UInt8)
def Tc.lr:(t:Tc)->LR t.dn
 | .eS=>LR.i64
 | .j5=>LR.u8
 | .cW=>LR.u16
 | .sm=>LR.u64
 | .m4=>LR.vC
 | .jt=>LR.str
 | .m5=>(LR.list LR.i64)
 | .sn=>(LR.list LR.u8)
abbrev tE:TE Tc Tc.dn:=TE.m0 Tc.lr
def Tc.ly:(t:Tc)->LY tE t.lr
 | .eS=>LY.i64
 | .j5=>LY.u8
 | .cW=>LY.u16
 | .sm=>LY.u64
 | .m4=>LY.vC
 | .jt=>LY.str
 | .m5=>(LY.list (t:=Tc.eS) LY.i64 rfl fun _=>rfl)
 | .sn=>(LY.list (t:=Tc.j5) LY.u8 rfl fun _=>rfl)
def Tc.ag:Tc->Bool
 |_=>false
def MB (sz bytes:Nat):Option Tc:=bif Nat.beq sz 1&&Nat.beq bytes 1 then some .j5 else bif Nat.beq sz 1&&Nat.beq bytes 8 then some .eS else none
def tD:TD Tc Tc.dn:=TD.m0 Tc.ly Tc.ag MB false
theorem m6:bh tD:=TD.Mz
theorem MC:pk Try.prog 3 Int:=Jm Try.underlying3 (by kernel_rfl)
theorem MD:pk Try.prog 28 (List Int):=Jp Try.underlying28 (by kernel_rfl) MC (by decide)
open Go.RowKit
def kQ:Nat->Nat->Nat
 |0,_=>0
 |k+1,n=>n%2+kQ k (n / 2)
def oD:ByteArray:=⟨#[0,1,1,2,1,2,2,3,1,2,2,3,2,3,3,4,1,2,2,3,2,3,3,4,2,3,3,4,3,4,4,5,1,2,2,3,2,3,3,4,2,3,3,4,3,4,4,5,2,3,3,4,3,4,4,5,3,4,4,5,4,5,5,6,1,2,2,3,2,3,3,4,2,3,3,4,3,4,4,5,2,3,3,4,3,4,4,5,3,4,4,5,4,5,5,6,2,3,3,4,3,4,4,5,3,4,4,5,4,5,5,6,3,4,4,5,4,5,5,6,4,5,5,6,5,6,6,7,1,2,2,3,2,3,3,4,2,3,3,4,3,4,4,5,2,3,3,4,3,4,4,5,3,4,4,5,4,5,5,6,2,3,3,4,3,4,4,5,3,4,4,5,4,5,5,6,3,4,4,5,4,5,5,6,4,5,5,6,5,6,6,7,2,3,3,4,3,4,4,5,3,4,4,5,4,5,5,6,3,4,4,5,4,5,5,6,4,5,5,6,5,6,6,7,3,4,4,5,4,5,5,6,4,5,5,6,5,6,6,7,4,5,5,6,5,6,6,7,5,6,6,7,6,7,7,8]⟩
theorem ME:((List.range 256).all fun i=>Nat.beq (gb oD i).toNat (kQ 8 i))=true:=by decide+kernel
theorem Ei (h:i<256):(gb oD i).toNat=kQ 8 i:=OR (ON.1 ME i (Pj.2 h))
theorem zw:∀k n,kQ k n<=k
 |0,_=>OQ _
 |k+1,n=>by unfold kQ;have:=zw k (n / 2);omega
def mf (x:Nat):Nat:=kQ 8 (x / 256)+kQ 8 (x%256)
def odW (x:Int):Bool:=decide (mf x.toNat%2=1)
def gk (w:Nat):Nat->Nat
 |0=>0
 |p+1=>if w / 2^p%2=1 then gk w p^^^p else gk w p
theorem zx (w:Nat):∀p,p<=16->gk w p<16
 |0,_=>by unfold gk;omega
 |p+1,h=>by
  unfold gk
  have:=zx w p (by omega)
  split
  ·exact Nat.xor_lt_two_pow (n:=4) this (by omega)
  ·exact this
def synI (x:Int):Int:=(gk x.toNat 13:Int)
theorem zy (h:0<=x) (k:Nat):x.fdiv ((2:Int)^k)=((x.toNat / 2^k:Nat):Int):=by
 have e:((2:Int)^k)=((2^k:Nat):Int):=by simp
 rw [e,Int.fdiv_eq_ediv_of_nonneg _ (Int.natCast_nonneg _)]
 conv=>lhs;rw [<-Int.toNat_of_nonneg h]
 rfl
theorem Ej (h:n<65536):bits BinOp.and IntKind.u16 (n:Int) 1=((n%2:Nat):Int):=by
 rw [show (1:Int)=((1:Nat):Int) from rfl,u16_and_nat n 1 h (by decide),Nat.and_one_is_mod]
theorem MF (h:0<=x/\x<65536):bits BinOp.and IntKind.u16 x 255=((x.toNat%256:Nat):Int):=by
 rw [u16_and x 255 h.1 h.2 (by decide) (by decide)]
 have:=Nat.and_two_pow_sub_one_eq_mod x.toNat 8
 rw [show (255:Int).toNat=2^8 - 1 from rfl,this]
structure dX (w p o:Int):Prop where
 w0:0<=w/\w<65536
 lo:1<=p
 hi:p<=13
 eq:o=(gk w.toNat p.toNat:Int)
theorem dX.start {w:Int} (h:0<=w/\w<65536):dX w 1 0:=⟨h,by omega,by omega,by
 show (0:Int)=((if w.toNat / 2^0%2=1 then 0^^^0 else 0:Nat):Int)
 split<;>rfl⟩
theorem dX.bit {w p o:Int} (h:dX w p o):bits BinOp.and IntKind.u16 (w.fdiv ((2:Int)^min p.toNat IntKind.u16.bits)) 1=((w.toNat / 2^p.toNat%2:Nat):Int):=by
 have h1:=h.lo;have h2:=h.hi;have h0:=h.w0
 rw [show min p.toNat IntKind.u16.bits=p.toNat by show min p.toNat 16=_;omega,zy h0.1,Ej]
 exact Qz (Nat.div_le_self _ _) (by omega)
theorem dX.bd {w p o:Int} (h:dX w p o):0<=o/\o<16:=by
 have:=zx w.toNat p.toNat (by have:=h.hi;omega)
 rw [h.eq];omega
theorem dX.yes {w p o:Int} (h:dX w p o) (hp:p<13) (e:bits BinOp.and IntKind.u16 (w.fdiv ((2:Int)^min p.toNat IntKind.u16.bits)) 1=1):dX w (p+1) ((o.toNat^^^p.toNat:Nat):Int):=by
 have h1:=h.lo
 rw [h.bit] at e
 refine ⟨h.w0,by omega,by omega, ?_⟩
 rw [show (p+1).toNat=p.toNat+1 by omega,gk,OI (by omega),h.eq];rfl
theorem dX.no {w p o:Int} (h:dX w p o) (hp:p<13) (e:¬bits BinOp.and IntKind.u16 (w.fdiv ((2:Int)^min p.toNat IntKind.u16.bits)) 1=1):dX w (p+1) o:=by
 have h1:=h.lo
 rw [h.bit] at e
 refine ⟨h.w0,by omega,by omega, ?_⟩
 rw [show (p+1).toNat=p.toNat+1 by omega,gk,OH (by omega),h.eq]
theorem dX.fin {w p o:Int} (h:dX w p o) (hp:13<=p):o=synI w:=by
 have:=h.hi
 rw [h.eq,show p=13 by omega];rfl
def zA:dx Tc Tc.dn:=⟨17,[.ty .cW],fun x=>(fun (x:Int)=>0<=x/\x<65536) x.1,[.eS],fun x=>(fun (x:Int)=>(mf x.toNat:Int)) x.1⟩
abbrev sq:=(ByteArray.mk #[(0:UInt8),(1:UInt8),(1:UInt8),(2:UInt8),(1:UInt8),(2:UInt8),(2:UInt8),(3:UInt8),(1:UInt8),(2:UInt8),(2:UInt8),(3:UInt8),(2:UInt8),(3:UInt8),(3:UInt8),(4:UInt8),(1:UInt8),(2:UInt8),(2:UInt8),(3:UInt8),(2:UInt8),(3:UInt8),(3:UInt8),(4:UInt8),(2:UInt8),(3:UInt8),(3:UInt8),(4:UInt8),(3:UInt8),(4:UInt8),(4:UInt8),(5:UInt8),(1:UInt8),(2:UInt8),(2:UInt8),(3:UInt8),(2:UInt8),(3:UInt8),(3:UInt8),(4:UInt8),(2:UInt8),(3:UInt8),(3:UInt8),(4:UInt8),(3:UInt8),(4:UInt8),(4:UInt8),(5:UInt8),(2:UInt8),(3:UInt8),(3:UInt8),(4:UInt8),(3:UInt8),(4:UInt8),(4:UInt8),(5:UInt8),(3:UInt8),(4:UInt8),(4:UInt8),(5:UInt8),(4:UInt8),(5:UInt8),(5:UInt8),(6:UInt8),(1:UInt8),(2:UInt8),(2:UInt8),(3:UInt8),(2:UInt8),(3:UInt8),(3:UInt8),(4:UInt8),(2:UInt8),(3:UInt8),(3:UInt8),(4:UInt8),(3:UInt8),(4:UInt8),(4:UInt8),(5:UInt8),(2:UInt8),(3:UInt8),(3:UInt8),(4:UInt8),(3:UInt8),(4:UInt8),(4:UInt8),(5:UInt8),(3:UInt8),(4:UInt8),(4:UInt8),(5:UInt8),(4:UInt8),(5:UInt8),(5:UInt8),(6:UInt8),(2:UInt8),(3:UInt8),(3:UInt8),(4:UInt8),(3:UInt8),(4:UInt8),(4:UInt8),(5:UInt8),(3:UInt8),(4:UInt8),(4:UInt8),(5:UInt8),(4:UInt8),(5:UInt8),(5:UInt8),(6:UInt8),(3:UInt8),(4:UInt8),(4:UInt8),(5:UInt8),(4:UInt8),(5:UInt8),(5:UInt8),(6:UInt8),(4:UInt8),(5:UInt8),(5:UInt8),(6:UInt8),(5:UInt8),(6:UInt8),(6:UInt8),(7:UInt8),(1:UInt8),(2:UInt8),(2:UInt8),(3:UInt8),(2:UInt8),(3:UInt8),(3:UInt8),(4:UInt8),(2:UInt8),(3:UInt8),(3:UInt8),(4:UInt8),(3:UInt8),(4:UInt8),(4:UInt8),(5:UInt8),(2:UInt8),(3:UInt8),(3:UInt8),(4:UInt8),(3:UInt8),(4:UInt8),(4:UInt8),(5:UInt8),(3:UInt8),(4:UInt8),(4:UInt8),(5:UInt8),(4:UInt8),(5:UInt8),(5:UInt8),(6:UInt8),(2:UInt8),(3:UInt8),(3:UInt8),(4:UInt8),(3:UInt8),(4:UInt8),(4:UInt8),(5:UInt8),(3:UInt8),(4:UInt8),(4:UInt8),(5:UInt8),(4:UInt8),(5:UInt8),(5:UInt8),(6:UInt8),(3:UInt8),(4:UInt8),(4:UInt8),(5:UInt8),(4:UInt8),(5:UInt8),(5:UInt8),(6:UInt8),(4:UInt8),(5:UInt8),(5:UInt8),(6:UInt8),(5:UInt8),(6:UInt8),(6:UInt8),(7:UInt8),(2:UInt8),(3:UInt8),(3:UInt8),(4:UInt8),(3:UInt8),(4:UInt8),(4:UInt8),(5:UInt8),(3:UInt8),(4:UInt8),(4:UInt8),(5:UInt8),(4:UInt8),(5:UInt8),(5:UInt8),(6:UInt8),(3:UInt8),(4:UInt8),(4:UInt8),(5:UInt8),(4:UInt8),(5:UInt8),(5:UInt8),(6:UInt8),(4:UInt8),(5:UInt8),(5:UInt8),(6:UInt8),(5:UInt8),(6:UInt8),(6:UInt8),(7:UInt8),(3:UInt8),(4:UInt8),(4:UInt8),(5:UInt8),(4:UInt8),(5:UInt8),(5:UInt8),(6:UInt8),(4:UInt8),(5:UInt8),(5:UInt8),(6:UInt8),(5:UInt8),(6:UInt8),(6:UInt8),(7:UInt8),(4:UInt8),(5:UInt8),(5:UInt8),(6:UInt8),(5:UInt8),(6:UInt8),(6:UInt8),(7:UInt8),(5:UInt8),(6:UInt8),(6:UInt8),(7:UInt8),(6:UInt8),(7:UInt8),(7:UInt8),(8:UInt8)])
theorem MG (x:Int) (hp:0<=x/\x<65536):((0:Int)<=x.fdiv ((2:Int)^min (uN (Int.toNat (8:Int))).n IntKind.u16.bits)/\x.fdiv ((2:Int)^min (uN (Int.toNat (8:Int))).n IntKind.u16.bits)<(↑sq.size:Int))/\((0:Int)<=bits BinOp.and IntKind.u16 x (255:Int)/\bits BinOp.and IntKind.u16 x (255:Int)<(↑sq.size:Int))/\(↑(gb sq (x.fdiv ((2:Int)^min (uN (Int.toNat (8:Int))).n IntKind.u16.bits)).toNat+gb sq (bits BinOp.and IntKind.u16 x (255:Int)).toNat).toNat:Int)=(↑(mf x.toNat):Int):=by
 delta sq
 show (0<=x.fdiv ((2:Int)^min (uN (Int.toNat 8)).n IntKind.u16.bits)/\x.fdiv ((2:Int)^min (uN (Int.toNat 8)).n IntKind.u16.bits)<(oD.size:Int))/\(0<=bits BinOp.and IntKind.u16 x 255/\bits BinOp.and IntKind.u16 x 255<(oD.size:Int))/\((gb oD (x.fdiv ((2:Int)^min (uN (Int.toNat 8)).n IntKind.u16.bits)).toNat+gb oD (bits BinOp.and IntKind.u16 x 255).toNat).toNat:Int)=(mf x.toNat:Int)
 have e1:x.fdiv ((2:Int)^min (uN (Int.toNat 8)).n IntKind.u16.bits)=((x.toNat / 256:Nat):Int):=zy hp.1 8
 have e2:=MF hp
 have e3:oD.size=256:=rfl
 have e4:x.toNat / 256<256:=by omega
 have e5:x.toNat%256<256:=by omega
 have e6:=Ei e4
 have e7:=Ei e5
 have e8:=zw 8 (x.toNat / 256)
 have e9:=zw 8 (x.toNat%256)
 rw [e1,e2,e3]
 refine ⟨by omega,by omega, ?_⟩
 rw [PK,PK,UInt8.toNat_add,e6,e7]
 unfold mf
 rw [P1 (by omega)]
theorem MH:zA.Ok Try.prog tD:=pR m6 (Δ:=[]) trivial (Ω:=[]) trivial zA BN BO (fun _=>[]) (fun _=>trivial) 0 (fun x=>(fun (x:Int)=>(fun _=>none)) x.1) fun x hp=>Eq.mp (by kernel_rfl) (MG x.1 hp)
def Ek:dx Tc Tc.dn:=⟨13,[.ty .cW],fun x=>(fun (x:Int)=>0<=x/\x<65536) x.1,[.m4],fun x=>(fun (x:Int)=>odW x) x.1⟩
theorem MI (x:Int) (hp:0<=x/\x<65536):((0:Int)<=x/\x<(65536:Int))/\((0:Int)<=(↑(mf x.toNat):Int)/\(2:Int)≠(0:Int))/\((↑(mf x.toNat):Int)%(2:Int)==(1:Int))=odW x:=by
 refine ⟨hp,by omega, ?_⟩
 unfold odW
 rw [P4,beq_iff_eq,PG];omega
theorem MJ:Ek.Ok Try.prog tD:=pR m6 (Δ:=[zA]) ⟨MH,trivial⟩ (Ω:=[]) trivial Ek BJ ek (fun _=>[]) (fun _=>trivial) 0 (fun x=>(fun (x:Int)=>(fun _=>none)) x.1) fun x hp=>Eq.mp (by kernel_rfl) (MI x.1 hp)
def pS (w:Int) (p:Int) (o:Int):Prop:=dX w p o
def El:dx Tc Tc.dn:=⟨12,[.ty .cW],fun x=>(fun (w:Int)=>0<=w/\w<65536) x.1,[.eS],fun x=>(fun (w:Int)=>synI w) x.1⟩
theorem MK (w:Int) (hp:0<=w/\w<65536):pS w (1:Int) (0:Int)/\∀(x cX:Int),pS w x cX->(x<(13:Int)->(0:Int)<=x/\(bits BinOp.and IntKind.u16 (w.fdiv ((2:Int)^min x.toNat IntKind.u16.bits)) (1:Int)=(1:Int)->((0:Int)<=cX/\(0:Int)<=x/\bp cX/\bp x)/\bp (x+(1:Int))/\pS w (x+(1:Int)) (↑(cX.toNat^^^x.toNat):Int)/\((13:Int) - (x+(1:Int))).toNat<((13:Int) - x).toNat)/\(¬bits BinOp.and IntKind.u16 (w.fdiv ((2:Int)^min x.toNat IntKind.u16.bits)) (1:Int)=(1:Int)->bp (x+(1:Int))/\pS w (x+(1:Int)) cX/\((13:Int) - (x+(1:Int))).toNat<((13:Int) - x).toNat))/\((13:Int)<=x->cX=synI w):=by
 have h1:= @dX.start w hp
 have h2:= @dX.yes w
 have h3:= @dX.no w
 have h4:= @dX.fin w
 have h5:= @dX.bd w
 have h6:= @dX.lo w
 have h7:= @dX.hi w
 (repeat' (first|apply And.intro|intro _))<;>first|assumption|trivial|omega|(grind [pS,bp])|trace_state
theorem ML:El.Ok Try.prog tD:=pR m6 (Δ:=[]) trivial (Ω:=[]) trivial El BH tx (fun _=>[]) (fun _=>trivial) 0 (fun x=>(fun (w:Int)=>(fun k=>bif Nat.beq k 0 then some (.inv [.sl 3 .eS, .sl 2 .eS] (fun zo zv=>(fun (p:Int) (o:Int)=>pS w p o) zv.1 zv.2.1) (fun zo zv=>(fun (p:Int) (o:Int)=>(13 - p).toNat) zv.1 zv.2.1)) else none)) x.1) fun x hp=>Eq.mp (by kernel_rfl) (MK x.1 hp)
end Go.Proofs.Ytimomnfobfjggaa
