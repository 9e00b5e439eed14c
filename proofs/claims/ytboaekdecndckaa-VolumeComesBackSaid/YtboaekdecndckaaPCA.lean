/- What functions answer (contracts). No condition. -/
import Derived.Test.YtboaekdecndckaaPSxM
import Derived.Test.YtboaekdecndckaaPPolE
import Derived.Test.YtboaekdecndckaaPSxK
import Derived.Test.YtboaekdecndckaaRows
import Derived.WalkKit
import Derived.Handy
import Derived.ProofKit
import Derived.OpenShut
import Derived.ShutString
import Derived.ChangeOld
import Derived.Below
import Derived.Lib.Hide
import Derived.WalkLawsBesides
import Derived.WalkSpells
import Derived.Deep.QuietTactic
import Derived.BigQuiet
import Derived.Deep.OwnRows
import Derived.BigRegion
set_option linter.unusedSectionVars false
set_option linter.unusedSimpArgs false
set_option linter.unusedVariables false
set_option maxHeartbeats 4000000
set_option maxRecDepth 100000
namespace Go.Proofs.Ytboaekdecndckaa
variable {F:ba} {r:AV} {E:Env} {Q Q':Exit->Go.Act->World->Prop} {f:FuncId} {a:Go.Act} {ps:List (List aL)} {M:List (List UInt8)} {as_ b:List AV} {vs:List Value} {n m d c i k0 i0 base q sz by_:Nat} {g:Nat->Option Bk} {J:Nat->Prop} {N N':aK} {P:Program} {s s':S3} {α β:Type} {w:World}
open Go.RowKit
abbrev adE:=@Bool.not_true
abbrev adX:=@decide_eq_true
abbrev adY:=@Int.le_refl
abbrev ad9:=@Classical.not_not
abbrev aeh:=@List.ext_getElem
abbrev aeI:=@List.drop_eq_nil_of_le
abbrev aeM:=@List.mem_or_eq_of_mem_set
abbrev aeR:=@List.getElem?_zip_eq_some
abbrev aeS:=@Int.add_mul_emod_self_left
section
variable {F:Go.Fence} {m:Nat} {P:Program} {ops:Array Oper}
theorem wpIn_exit (hq:∀e a w,e≠ .normal->Q e a w->Q' e a w) {o:Oper} {K:Go.Act->World->Prop} (h:o.wpIn F m P a w K Q):o.wpIn F m P a w K Q':=by
 unfold Oper.wpIn at*
 refine ⟨h.1, ?_⟩
 have hh:=h.2
 generalize (o.semAt F.round a.eval).run P w=r at*
 cases r with
 |ok x w'=>
  cases x<;>simp only [Oper.uponIn] at hh ⊢ <;>
   first
    |exact hh
    |exact ⟨hh.1,CallsIn.mono hh.2 (fun e w'' he=>by cases e<;>first|exact he|exact hq _ _ _ (by simp) he|(obtain ⟨a1,w1,h1⟩:=he;exact ⟨a1,w1,hq _ _ _ (by simp) h1⟩))⟩
    |exact ⟨hh.1,RoundIn.mono hh.2 (fun e w'' he=>by cases e<;>first|exact he|exact hq _ _ _ (by simp) he|(obtain ⟨a1,w1,h1⟩:=he;exact ⟨a1,w1,hq _ _ _ (by simp) h1⟩))⟩
 |halt x w'=>cases x<;>simp only [Oper.uponIn] at hh ⊢ <;>first|exact hh|exact hq _ _ _ (by simp) hh
theorem WK (hq:∀e a w,e≠ .normal->Q e a w->Q' e a w) {K:Go.Act->World->Prop} (h:wpOpIn F m P ops Q i K a w):wpOpIn F m P ops Q' i K a w:=by
 unfold wpOpIn at*
 split
 ·rename_i ho;simpa [ho] using h
 ·rename_i o ho
  simp only [ho] at h
  split
  ·rename_i hw;simp only [hw,acP] at h;exact wpIn_exit hq h
  ·rename_i hw;simp only [hw] at h;exact h
theorem Kj {Q Q':Exit->Go.Act->World->Prop} (hq:∀e a w,e≠ .normal->Q e a w->Q' e a w) {l2:List Nat} (hn:∀a w,Q .normal a w->wpOpsIn F m P ops Q' l2 a w):∀{l1:List Nat} {a:Go.Act} {w:World},wpOpsIn F m P ops Q l1 a w->wpOpsIn F m P ops Q' (l1++l2) a w
 |[],a,w,h=>hn a w h
 |i::l1,a,w,h=>by
  rw [wpOpsIn_cons] at h
  rw [ad7,wpOpsIn_cons]
  exact WK hq (wpOpIn_mono (fun a w h=>Kj hq hn h) h)
inductive tM (P:Program) (n k0:Nat):List (List aL)->S3->S3->Prop
 |nil {s:S3}:tM P n k0 [] s s
 |cons {p:List aL} {ps:List (List aL)} {s t u s':S3} (hw:s.Le k0 n t) (h:jA P n k0 p t.σ t.g t.k u.σ u.g u.k) (r:tM P n k0 ps u s'):tM P n k0 (p::ps) s s'
theorem WL {rd:Option Nat} {E0:Env} (oy:∀id,E0.kn id->id<k0) {w0:World} (h:tM P n k0 ps s s'):
  ∀(i:Nat) (a:Go.Act) (w:World),(∀j,j<ps.flatten.length->∃op,ops[i+j]? =some op/\∃o,ps.flatten[j]? =some o/\iI P ops op=some o)->gS E0 J base w0 n s.σ s.g s.k a w->(∀a w,gS E0 J base w0 n s'.σ s'.g s'.k a w->Q .normal a w)->wpOpsIn (dx rd) 0 P ops Q (List.range' i ps.flatten.length) a w:=by
 induction h with
 |nil=>intro i a w _ hr hQ;exact hQ a w hr
 | @cons p ps s t u s' hw h r ih=>
  intro i a w fG hrel hQ
  rw [List.flatten_cons,adV, <-List.range'_append_1]
  rw [List.flatten_cons,adV] at fG
  refine Kj (Q:=fun e a w=>match e with| .normal=>wpOpsIn (dx rd) 0 P ops Q (List.range' (i+p.length) ps.flatten.length) a w|e=>Q e a w) (fun e a w he hh=>by cases e<;>first|exact hh|exact absurd rfl he) (fun a w hh=>hh) ?_
  refine G6 oy h i a w (fun j hj=> ?_) (hw E0 J base w0 a w oy hrel) fun a w hr=> ?_
  ·obtain ⟨op,q1,o,q2,q3⟩:=fG j (by omega)
   exact ⟨op,q1,o,by rwa [adB hj] at q2,q3⟩
  ·refine ih (i+p.length) a w (fun j hj=> ?_) hr hQ
   obtain ⟨op,q1,o,q2,q3⟩:=fG (p.length+j) (by omega)
   exact ⟨op,by rw [Nat.add_assoc];exact q1,o,by rwa [adJ (by omega),Nat.add_sub_cancel_left] at q2,q3⟩
theorem ED.WM (h:tM P n k0 ps s s'):ED P n k0 (.cy ps.flatten none) s .normal s':=by
 intro rd c E0 J base w0 a w cX hc hk hr
 obtain ⟨id,ops,draw,rfl,h1,h2⟩:=yi hc
 rcases h2 with ⟨rfl,_⟩|⟨_,d,hd,_⟩
 ·obtain ⟨k1,k2⟩:=uW h1
  refine wpIn_region ?_
  have br:ops.size=ps.flatten.length:=by rw [<-k1];simp
  rw [List.range_eq_range',br]
  refine WL (ops:=ops) hk h 0 a w (fun j hj=> ?_) hr fun a' w' hr'=>⟨.normal,s',⟨rfl,rfl⟩,rfl,hr'⟩
  have oC:j<ops.size:=by omega
  obtain ⟨o,m1,m2⟩:=k2 j ops[j] (by simp [oC])
  exact ⟨ops[j],by rw [ac2];exact ac1 oC,o,m1,m2⟩
 ·simp at hd
end
section
variable {τ:Type} {dn:τ->Type} [DecidableEq τ]
inductive LA (τ:Type) (dn:τ->Type) where
 |inv (vs:List (VK τ)) (I:VT dn vs->VT dn vs->Prop) (m:VT dn vs->VT dn vs->Nat)
 |WN (m:Nat)
 |ib (ss:List Nat)
 |Kk (i:Nat)
 |cut (vs:List (VK τ)) (I:VT dn vs->VT dn vs->Prop)
 |eq (i:Nat) (z:Int)
 |tr (i:Nat)
 |z7 (f:Nat)
def Ea (an:Nat->Option (LA τ dn)) (os:List aL):List Nat:=os.flatMap fun o=>match o.dst with
 |some d=>match an (1000+d) with
  |some (.ib ss)=>ss
  |_=>[]
 |none=>[]
def Kl (an:Nat->Option (LA τ dn)) (os:List aL):Bool:=(Ea an os).all fun i=>Nat.blt i 5000
def WO (an:Nat->Option (LA τ dn)) (os:List aL):Option Nat:=match os with
 |o::_=>match o.dst with
  |some d=>match an (3000+d) with
   |some (.Kk i)=>some i
   |_=>none
  |none=>none
 |[]=>none
def cutB (an:Nat->Option (LA τ dn)) (o:aL):Bool:=match o.dst with
 |some d=>(match an (11000+d) with|some (.z7 _)=>true|_=>false)||(match an (9000+d) with|some (.tr _)=>true|_=>false)||(match an (7000+d) with|some (.eq _ _)=>true|_=>false)||(match an (5000+d) with|some (.cut _ _)=>true|_=>false)||(match an (1000+d) with|some (.ib _)=>true|_=>false)||(match an (3000+d) with|some (.Kk _)=>true|_=>false)
 |none=>false
def pieces (an:Nat->Option (LA τ dn)):List aL->List (List aL)
 |[]=>[]
 |o::os=>match pieces an os with
  |[]=>[[o]]
  |[]::ps=>[o]::ps
  |(p::q)::ps=>bif cutB an p then [o]::(p::q)::ps else (o::p::q)::ps
omit [DecidableEq τ] in
theorem Km (an:Nat->Option (LA τ dn)):∀os:List aL,(pieces an os).flatten=os
 |[]=>rfl
 |o::os=>by
  have ih:=Km an os
  unfold pieces
  split
  ·rename_i h;rw [h] at ih;simp at ih;simp [ih]
  ·rename_i h;rw [h] at ih;simp at ih;simp [ih]
  ·rename_i h
   rw [h] at ih
   cases hb:cutB an _ with
   |true=>rw [acR,List.flatten_cons,ih];rfl
   |false=>rw [ac7,List.flatten_cons,ad7, <-List.flatten_cons,ih]
def Kn (an:Nat->Option (LA τ dn)) (os:List aL):Option ((vs:List (VK τ))×(VT dn vs->VT dn vs->Prop)):=match os with
 |o::_=>match o.dst with
  |some d=>match an (5000+d) with
   |some (.cut vs I)=>some ⟨vs,I⟩
   |_=>none
  |none=>none
 |[]=>none
def Ko (an:Nat->Option (LA τ dn)) (os:List aL):Option (Nat×Int):=match os with
 |o::_=>match o.dst with
  |some d=>match an (7000+d) with
   |some (.eq i z)=>some (i,z)
   |_=>none
  |none=>none
 |[]=>none
def z8 (o:Option (Nat×Int)) (st:SS τ dn) (K:SS τ dn->Prop):Prop:=match o with
 |none=>K st
 |some (i,z)=>match st.gt i with
  |some (.vi x)=>x=z/\K (st.ji i (.vn z))
  |_=>K st
omit [DecidableEq τ] in
theorem Kp {D:TD τ dn} {o:Option (Nat×Int)} {st:SS τ dn} {K:SS τ dn->Prop} (R:Rel D N st s) (h:z8 o st K):∃aw,Rel D N aw s/\aw.rt=st.rt/\aw.rm=st.rm/\aw.nx=st.nx/\K aw:=by
 unfold z8 at h
 split at h
 ·exact ⟨st,R,rfl,rfl,rfl,h⟩
 ·rename_i i z
  split at h
  ·rename_i x hx
   obtain ⟨hz,h⟩:=h
   refine ⟨st.ji i (.vn z),⟨fun N' hN=> ?_,R.inj,R.lt,R.ml,R.rl,R.sp⟩,rfl,rfl,rfl,h⟩
   have A:=R.at_ N' hN
   refine ⟨fun j v hv=> ?_,A.rs,A.bl,A.rb,A.ar⟩
   simp only [SS.ji,bE] at hv
   split at hv
   ·rename_i e
    simp only [acM] at hv
    subst hv;subst e
    rw [A.gt hx]
    simp only [SV.av,hz]
   ·exact A.sl j v hv
  ·exact ⟨st,R,rfl,rfl,rfl,h⟩
def WQ (an:Nat->Option (LA τ dn)) (os:List aL) (st:SS τ dn):List Nat:=match os with
 |o::_=>match o.dst with
  |some d=>match an (9000+d) with
   |some (.tr i)=>match st.gt i with
    |some (.own nm _)=>match st.gm nm with
     |some (.bc _ els)=>els.flatMap fun cs=>cs.filterMap DC
     |_=>[]
    |_=>[]
   |_=>[]
  |none=>[]
 |[]=>[]
def wy (an:Nat->Option (LA τ dn)) (os:List aL):Option Nat:=match os with
 |o::_=>match o.dst with
  |some d=>match an (11000+d) with
   |some (.z7 f)=>some f
   |_=>none
  |none=>none
 |[]=>none
def cO.wo (C:cO τ dn) (o:Option Nat):cO τ dn:=⟨C.P,C.D,(match o with
 |none=>C.Δ
 |some f=>C.Δ.filter fun c=> !Nat.beq c.f f),C.Ω,C.fl,C.J,o.isSome⟩
omit [DecidableEq τ] in
theorem cO.Ok.wo {C:cO τ dn} (h:C.Ok) (o:Option Nat):(C.wo o).Ok:=by
 refine ⟨h.ok,fun c hc=> ?_,h.Jx,h.inl⟩
 cases o with
 |none=>exact h.zC c hc
 |some f=>exact h.zC c (List.mem_filter.1 hc).1
def isBl:VK τ->Bool
 | .bl _ _=>true
 |_=>false
def Aa (D:TD τ dn) (c:Option ((vs:List (VK τ))×(VT dn vs->VT dn vs->Prop))) (st:SS τ dn) (K:SS τ dn->Prop):Prop:=match c with
 |none=>K st
 |some ⟨vs,I⟩=>match pj D st vs with
  |some x0=>bif vs.all isBl&&okT (lessB st.nx) vs (vs.map (nmV st)) then I x0 x0/\zO vs fun x=>I x0 x->K ⟨st.rt,st.rm,st.t,putM D vs (vs.map (nmV st)) x++st.m,st.nx⟩ else False
  |none=>False
theorem Kq {D:TD τ dn} (ok:bC D) {c:Option ((vs:List (VK τ))×(VT dn vs->VT dn vs->Prop))} {st:SS τ dn} {K:SS τ dn->Prop} (R:Rel D N st s) (h:Aa D c st K):∃aw,Rel D N aw s/\aw.rt=st.rt/\aw.rm=st.rm/\aw.nx=st.nx/\K aw:=by
 unfold Aa at h
 split at h
 ·exact ⟨st,R,rfl,rfl,rfl,h⟩
 ·rename_i vs I
  split at h
  case h_2=>exact h.elim
  rename_i x0 hx
  cases hb:(vs.all isBl&&okT (lessB st.nx) vs (vs.map (nmV st))) with
  |false=>rw [hb] at h;exact h.elim
  |true=>
  rw [hb,acR] at h
  rw [acO] at hb
  obtain ⟨cJ,hT⟩:=hb
  have hk:=(zP.1 h.2) x0 h.1
  have nK:(vs.map (nmV st)).length=vs.length:=ac4 ..
  have Kr:∀nm B,getS (putM D vs (vs.map (nmV st)) x0++st.m) nm=some (some B)->(nm,some B)∈putM D vs (vs.map (nmV st)) x0\/getS st.m nm=some (some B):=fun nm B hB=>by
   rw [jk] at hB
   cases hq:getS (putM D vs (vs.map (nmV st)) x0) nm with
   |some w=>rw [hq] at hB;simp only [aex,acM] at hB;subst hB;exact .inl (lY hq)
   |none=>rw [hq] at hB;simp only [aeg] at hB;exact .inr hB
  have aZ:∀nm B,(nm,some B)∈putM D vs (vs.map (nmV st)) x0->(∃B',st.bV nm B')/\∀t A,B≠ .ar t A:=fun nm B hB=>by
   rcases zS hx nK nm B hB with ⟨j,v,p1,p2,p3,⟨B',p4⟩,p5⟩|⟨_,⟨B',p4⟩,p5⟩
   case inr=>exact ⟨⟨B',jG p4⟩,p5⟩
   rw [ac5,p1] at p2
   simp only [acZ,acM] at p2
   refine ⟨⟨B',by rw [<-p2];exact jG p4⟩,fun t A e=> ?_⟩
   have:=acQ.1 cJ v (adm p1)
   rw [(p5 t A e).1] at this
   simp [isBl] at this
  have dR:∀nm B,(⟨st.rt,st.rm,st.t,putM D vs (vs.map (nmV st)) x0++st.m,st.nx⟩:SS τ dn).bV nm B->(∃B',st.bV nm B')/\∀t A,B= .ar t A->st.bV nm (.ar t A):=fun nm B hB=>by
   rcases hB with hB|hB
   ·rcases Kr nm B hB with h1|h1
    ·obtain ⟨q1,q2⟩:=aZ nm B h1
     exact ⟨q1,fun t A e=>absurd e (q2 t A)⟩
    ·exact ⟨⟨B, .inl h1⟩,fun t A e=>by subst e;exact .inl h1⟩
   ·exact ⟨⟨B, .inr hB⟩,fun t A e=>by subst e;exact .inr hB⟩
  refine ⟨⟨st.rt,st.rm,st.t,putM D vs (vs.map (nmV st)) x0++st.m,st.nx⟩,⟨fun N' hN=> ?_,R.inj,R.lt,fun nm B hB=> ?_,R.rl,fun t A hA id hid=> ?_⟩,rfl,rfl,rfl,hk⟩
  ·have A:=R.at_ N' hN
   refine ⟨A.sl,A.rs,fun nm B hB=> ?_,A.rb,fun t A' hA id hid=>A.ar t A' ((dR 0 _ hA).2 t A' rfl) id hid⟩
   rcases Kr nm B hB with h1|h1
   ·obtain ⟨B',e,q⟩:=nI ok (zR ok A hx) nm (some B) h1
    simp only [acM] at e;subst e
    exact q
   ·exact A.bl nm B h1
  ·show nm<st.nx
   have aX:getS (putM D vs (vs.map (nmV st)) x0++st.m) nm=some B:=hB
   rw [jk] at aX
   cases hq:getS (putM D vs (vs.map (nmV st)) x0) nm with
   |some w=>exact wm (r7 hT nm w (lY hq))
   |none=>rw [hq] at aX;simp only [aeg] at aX;exact R.ml nm B aX
  ·have h1:=(dR 0 _ hA).2 t A rfl
   obtain ⟨q1,q2⟩:=R.sp t A h1 id hid
   refine ⟨q1,fun nm B hB=> ?_⟩
   obtain ⟨⟨B',aX⟩,_⟩:=dR nm B hB
   exact q2 nm B' aX
def AC.nl:AC->Nat
 | .seq a b=>a.nl+b.nl
 | .cond _ a b=>a.nl+b.nl
 | .block _ a=>a.nl
 | .loop a=>a.nl+1
 |_=>0
def AC.lZ:AC->List Nat
 | .seq a b=>a.lZ++b.lZ
 | .cond _ a b=>a.lZ++b.lZ
 | .block _ a=>a.lZ
 | .loop a=>a.lZ
 | .cy os _=>os.filterMap aL.dst
 |_=>[]
def mQ (D:TD τ dn) (st:SS τ dn):VK τ->SS τ dn
 | .ow i t=>match st.gt i with
  |some .emp=>bif Nat.blt 0 (D.sz t)&&(getS st.rt i).isNone then ⟨st.rt,st.rm,(i, .own st.nx (D.sz t))::st.t,(st.nx,some (.bl t []))::st.m,st.nx+1⟩ else st
  |_=>st
 | .so q f t _| .sg q f t _ _=>match st.gm q with
  |some (.bc Q [vs])=>match vs[f]? with
   |some .emp=>bif Nat.blt 0 (D.sz t)&&(Nat.blt 0 Q&&st.rw q) then ⟨st.rt,st.rm,st.t,(q,some (.bc Q [vs.set f (.own st.nx (D.sz t))]))::(st.nx,some (.bl t []))::st.m,st.nx+1⟩ else st
   |_=>st
  |_=>st
 |_=>st
def tO (D:TD τ dn):SS τ dn->List (VK τ)->SS τ dn
 |st,[]=>st
 |st,v::r=>tO D (mQ D st v) r
def Eb (B:SS τ dn->(Ex->SS τ dn->Prop)->Prop):Nat->SS τ dn->(Ex->SS τ dn->Prop)->Prop
 |0,_,_=>False
 |m+1,st,K=>B st fun e aw=>match e with
  | .normal=>Eb B m aw K
  |e=>K e aw
def okB (vs:List (VK τ)) (T:List Nat) (st:SS τ dn) (p:Nat->Bool) (ft:List (Nat×SV τ dn)) (fm:List (Nat×Option (SB τ dn))):Bool:=
 (st.rt.all fun q=>q.2.fr p&& !hasN (gk vs) q.1&&(getS ft q.1).isNone)&&(st.rm.all fun q=>p q.1&&(match q.2 with|some B=>B.fr p|none=>true)&&(getS fm q.1).isNone)&&
 okT (lessB st.nx) vs T&&okT (fun a=> !hasN (movesV vs T) a) (vs.filter fun v=> !qz v) ((vs.zip T).filterMap fun q=>bif qz q.1 then none else some q.2)&&wk (movesV vs T)
def nextB (vs:List (VK τ)) (T A:List Nat) (nx nx':Nat):Bool:=
 wk ((List.range nx).map (fq vs T A))&&((List.range nx).all fun a=>lessB nx' (fq vs T A a))&&((vs.zip (T.zip A)).all fun q=>hH q.1||(Nat.beq (fq vs T A q.2.1) q.2.2&&(qz q.1||Nat.beq q.2.1 q.2.2)))&&(ku vs).all fun a=>Nat.beq (fq vs T A a) a
def keepP (vs:List (VK τ)) (T:List Nat) (nx:Nat) (a:Nat):Bool:=lessB nx a&& !hasN (movesV vs T) a
def Ks (D:TD τ dn) (fl:Nat) (vs:List (VK τ)) (I:VT dn vs->Prop) (ms:VT dn vs->Nat) (B:SS τ dn->(Ex->SS τ dn->Prop)->Prop) (st:SS τ dn) (K:Ex->SS τ dn->Prop) (T:List Nat) (x0:VT dn vs) (ft:List (Nat×SV τ dn)) (fm:List (Nat×Option (SB τ dn))):Prop:=
 bif okB vs T st (keepP vs T st.nx) ft fm&&(movesV vs T).all (Nat.ble fl) then I x0/\zO vs fun x=>I x->B ⟨ft++st.rt,fm++st.rm,cE D vs T x,putM D vs T x,st.nx⟩ fun e aw=>match e with
  | .normal=>match pj D aw vs with
   |some x'=>bif nextB vs T (vs.map (nmV aw)) st.nx aw.nx then I x'/\ms x'<ms x else False
   |none=>False
  |e=>K e ⟨st.rt,st.rm,aw.t++ft,aw.m++fm,aw.nx⟩
 else False
def Ec (D:TD τ dn) (fl:Nat) (vs:List (VK τ)) (I:VT dn vs->VT dn vs->Prop) (ms:VT dn vs->VT dn vs->Nat) (lZ:List Nat) (B:SS τ dn->(Ex->SS τ dn->Prop)->Prop) (st:SS τ dn) (K:Ex->SS τ dn->Prop):Prop:=
 match pj D st vs with
 |none=>False
 |some x0=>Ks D fl vs (I x0) (ms x0) B st K (vs.map (nmV st)) x0 (ph (keepP vs (vs.map (nmV st)) st.nx) (gk vs++lZ) st.t) (nH (keepP vs (vs.map (nmV st)) st.nx) (rZ vs (vs.map (nmV st))) st.m)
def Kt (C:cO τ dn) (n:Nat) (c:Cn) (a b:AC) (st:SS τ dn):Option (List Prop×SS τ dn):=
 match a,b with
 | .skip, .cy os none=>z6 C n c true os st
 | .cy os none, .skip=>z6 C n c false os st
 |_,_=>none
def Ab (C:cO τ dn) (n:Nat) (an:Nat->Option (LA τ dn)):List (List aL)->SS τ dn->(SS τ dn->Prop)->Prop
 |[],st,K=>K st
 |p::ps,st,K=>tJ C.D (Kl an (p.take 1)) (st.zW (Ea an (p.take 1))) st fun st=>DL (WO an p) st fun st=>Aa C.D (Kn an p) st fun st=>z8 (Ko an p) st fun st=>nE C.D (WQ an p st) st fun st=>wpOps (C.wo (wy an p)) n none true p [] st fun st=>Ab C n an ps st K
def gJ (C:cO τ dn) (n:Nat) (an:Nat->Option (LA τ dn)):AC->Nat->SS τ dn->(Ex->SS τ dn->Prop)->Prop
 | .skip,_,st,K=>K .normal st
 | .ret,_,st,K=>K .ret st
 | .exit i,_,st,K=>K (.exit i) st
 | .seq a b,k,st,K=>gJ C n an a k st fun e aw=>match e with
  | .normal=>gJ C n an b (k+a.nl) aw K
  |e=>K e aw
 | .cond c a b,k,st,K=>match st.ev c with
  |some (.vt true)=>gJ C n an a k st K
  |some (.vt false)=>gJ C n an b (k+a.nl) st K
  |some (.vb c)=>match Kt C n c a b st with
   |some (O,aw)=>gY O (K .normal aw)
   |none=>(c.tf true->gJ C n an a k st K)/\(c.tf false->gJ C n an b (k+a.nl) st K)
  |_=>False
 | .block i a,k,st,K=>gJ C n an a k st fun e aw=>K (e.nA i) aw
 | .loop a,k,st,K=>match an k with
  |some (.WN m)=>Eb (gJ C n an a (k+1)) m st K
  |some (.inv vs I ms)=>Ec C.D C.fl vs I ms a.lZ (gJ C n an a (k+1)) (tO C.D st vs) K
  |_=>False
 | .cy os none,_,st,K=>Ab C n an (pieces an os) st (K .normal)
 | .cy os (some dep),_,st,K=>tJ C.D (Kl an os) (st.zW (Ea an os)) st fun st=>Aa C.D (Kn an os) st fun st=>z8 (Ko an os) st fun st=>wpOps (C.wo (wy an os)) n (some dep) (Wc (C.wo (wy an os)) (some dep) os) os [] st (K .normal)
 | .yg _ _ _ _,_,_,_=>False
def Ends (C:cO τ dn) (n k0:Nat) (ac:AC) (N:aK) (st:SS τ dn) (s:S3) (K:Ex->SS τ dn->Prop):Prop:=
 ∃e s' N' aw,ED C.P n k0 ac s e s'/\Rel C.D N' aw s'/\aw.rt=st.rt/\aw.rm=st.rm/\(N.agree C.fl N'/\C.fl<=aw.nx)/\K e aw
theorem Ac (h:N.agree m N') (hn:n<=m):N.agree n N':=⟨fun a ha=>h.1 a (adf ha hn),h.2⟩
end
section
theorem aS.WR (hm:aS E J base g) {B B':Bk} (hB:g q=some B) (hz:B.sz≠0) (br:B'.sz=B.sz) (hl:B.els.length=B'.els.length) (hc:∀(i:Nat) cs ds,B.els[i]? =some cs->B'.els[i]? =some ds->cs.length=ds.length/\∀(j:Nat) c d,cs[j]? =some c->ds[j]? =some d->∀v,aj E v c->aj E v d):aS E J base (aH g [(q,some B')]):=by
 have aZ:∀{id X},aH g [(q,some B')] id=some X->(id=q/\X=B')\/(id≠q/\g id=some X):=fun {id X} h=>by
  simp only [aH] at h
  by_cases e:id=q
  ·rw [acN e] at h;simp only [acM] at h;exact .inl ⟨e,h.symm⟩
  ·rw [acL e] at h;exact .inr ⟨e,h⟩
 have Ad:∀{id X},aH g [(q,some B')] id=some X->∃Y,g id=some Y:=fun h=>by
  rcases aZ h with ⟨rfl,_⟩|⟨_,h⟩
  ·exact ⟨_,hB⟩
  ·exact ⟨_,h⟩
 refine ⟨fun id=> ?_,fun id X hg=> ?_,fun id dc b B1 B2 h1 h2 h3 h4=> ?_,fun id b X hg hb=> ?_,hm.low,hm.size,fun id X hg dH=> ?_,hm.jZ,fun b hb=>⟨(hm.xo b hb).1,(hm.xo b hb).2.1,fun k B1 hk he=>(Ad hk).elim fun B2 h2=>(hm.xo b hb).2.2 k B2 h2 he⟩⟩
 ·rw [hm.live id]
  simp only [aH]
  by_cases e:id=q
  ·subst e;rw [acN rfl,hB];exact ⟨fun _=>⟨_,rfl⟩,fun _=>⟨_,rfl⟩⟩
  ·rw [acL e]
 ·rcases aZ hg with ⟨rfl,rfl⟩|⟨_,h⟩
  ·have h0:=hm.at_ id B hB
   cases hloc:E.loc id with
   |none=>
    rw [hloc] at h0
    have pQ:B.els=[]:=h0
    show X.els=[]
    rw [pQ] at hl
    exact ad3 (by simpa using hl.symm)
   |some b=>
    rw [hloc] at h0
    obtain ⟨h1,⟨eO,arr,t,h2,h3,h4⟩|⟨eO,_⟩⟩:=h0
    ·refine .lx ⟨h1,arr,t,h2,by rw [<-hl,br];exact h3,fun i ds hi=> ?_⟩ (by rw [br];exact eO)
     have cQ:i<B.els.length:=by rw [hl];exact (acU.1 hi).1
     have hcs:=acT cQ
     obtain ⟨e1,e2⟩:=hc i _ ds hcs hi
     refine ⟨by rw [<-e1,br];exact (h4 i _ hcs).1,fun j d hj=> ?_⟩
     have bI:j<B.els[i].length:=by rw [e1];exact (acU.1 hj).1
     obtain ⟨u,u1,u2,u3⟩:=(h4 i _ hcs).2 j _ (acT bI)
     exact ⟨u,by rw [br];exact u1,u2,e2 j _ d (acT bI) hj u u3⟩
    ·exact absurd eO hz
  ·exact hm.at_ id X h
 ·obtain ⟨Y1,y1⟩:=Ad h1
  obtain ⟨Y2,y2⟩:=Ad h2
  exact hm.apart id dc b Y1 Y2 y1 y2 h3 h4
 ·obtain ⟨Y,y⟩:=Ad hg
  exact hm.out id b Y y hb
 ·rcases aZ hg with ⟨rfl,rfl⟩|⟨_,h⟩
  ·rw [<-hl];exact hm.len id B hB hz
  ·exact hm.len id X h dH
theorem S3.WS {Q f:Nat} {cs:List AV} (hq:s.g q=some ⟨Q,[cs]⟩) (hk:q<s.k) (hf:cs[f]? =some .emp) (hQ:Q≠0) (hz:sz≠0):s.Le k0 n ⟨s.σ,aH (aH s.g [(s.k,some ⟨sz,[]⟩)]) [(q,some ⟨Q,[cs.set f (.own s.k sz 0 0)]⟩)],s.k+1⟩:=by
 intro E0 J base w0 a w oy hr
 obtain ⟨E,rfl,hle,hs,hm,bH,hmk⟩:=hr.ex
 obtain ⟨E',hw,hE,hM,k1,k2,k3,k4,k5⟩:=hm.x1 (fresh:=s.k) (fun hh=>adS _ (bH _ hh)) sz
 have kK:aH s.g [(s.k,some ⟨sz,[]⟩)] q=some ⟨Q,[cs]⟩:=by simp only [aH];rw [acL (by omega)];exact hq
 have mA:f<cs.length:=(acU.1 hf).1
 have yp:=hM.WR (B':=⟨Q,[cs.set f (.own s.k sz 0 0)]⟩) kK hQ rfl rfl (fun i c1 d1 h1 h2=>by
  cases i with
  |succ i=>simp at h1
  |zero=>
   simp only [ado,acM] at h1 h2
   subst h1;subst h2
   refine ⟨by simp,fun j c d hc hd v hv=> ?_⟩
   rw [List.getElem?_set] at hd
   by_cases e:f=j
   ·subst e
    rw [acN rfl,acN mA,acM] at hd
    subst hd
    rw [hf,acM] at hc
    subst hc
    obtain ⟨A,hA⟩:=vd hv
    rw [hA]
    exact .cG k1 k2 k3 k5 hz
   ·rw [acL e,hc,acM] at hd
    subst hd;exact hv)
 refine ⟨⟨E',hw,hle.trans hE,fun j=>(hs j).step hE,yp,fun id hid=> ?_,hmk.step hE⟩,hr.size,hr.below,hr.gl⟩
 show id<s.k+1
 rcases k4 id hid with h|h
 ·have:=bH id h;omega
 ·omega
end
section
variable {τ:Type} {dn:τ->Type}
theorem Ku {D:TD τ dn} {n k0:Nat}:∀{vs:List (VK τ)} {N:aK} {st:SS τ dn} {s:S3},Rel D N st s->∃s' N',s.Le k0 n s'/\Rel D N' (tO D st vs) s'/\(tO D st vs).rt=st.rt/\(tO D st vs).rm=st.rm/\N.agree st.nx N'/\st.nx<=(tO D st vs).nx
 |[],N,st,s,R=>⟨s,N,S3.Le.nG,R,rfl,rfl,N.fQ _,acV _⟩
 |v::r,N,st,s,R=>by
  have one:∃s' N',s.Le k0 n s'/\Rel D N' (mQ D st v) s'/\(mQ D st v).rt=st.rt/\(mQ D st v).rm=st.rm/\N.agree st.nx N'/\st.nx<=(mQ D st v).nx:=by
   have no:∃s' N',s.Le k0 n s'/\Rel D N' st s'/\st.rt=st.rt/\st.rm=st.rm/\N.agree st.nx N'/\st.nx<=st.nx:=⟨s,N,S3.Le.nG,R,rfl,rfl,N.fQ _,acV _⟩
   have Kv:∀(q f:Nat) (t:τ) (cs:List (Nat×Nat)),∃s' N',s.Le k0 n s'/\Rel D N' (mQ D st (.so q f t cs)) s'/\(mQ D st (.so q f t cs)).rt=st.rt/\(mQ D st (.so q f t cs)).rm=st.rm/\N.agree st.nx N'/\st.nx<=(mQ D st (.so q f t cs)).nx:=by
    intro q f t cs
    simp only [mQ]
    split
    ·rename_i Q vs hB
     split
     ·rename_i hf
      cases hb:(Nat.blt 0 (D.sz t)&&(Nat.blt 0 Q&&st.rw q)) with
      |false=>rw [ac7];exact no
      |true=>
       rw [acR]
       rw [acO,acO] at hb
       have hz:D.sz t≠0:=Nat.ne_of_gt (adC hb.1)
       have hQ:Q≠0:=Nat.ne_of_gt (adC hb.2.1)
       obtain ⟨⟨B1,m1⟩,r1⟩:=mK hb.2.2
       have D1:B1= .bc Q [vs]:=by have:=qt m1;rw [this] at hB;simpa using hB
       subst D1
       have tP:=R.ml q _ m1
       obtain ⟨g1,g2⟩:=R.here.bl q _ m1
       have R1:=R.go (n:=0) (d:=none) (r:= .new [] (.own st.nx (D.sz t)) (.bl t [])) rfl rfl (val:= .own s.k (D.sz t) 0 0) (ups:=[(s.k,some ⟨D.sz t,[]⟩)]) (fun N' hN=>by
        simp only [SR.v,SV.av]
        have h1:=hN.1 st.nx (adL _)
        simp only [SR.up,aK.eB,acP] at h1
        rw [h1.1,h1.2];rfl) (fun N' hN=>rfl)
       have fF:=N.oX st.nx s.k 0
       have WT:(N.eB st.nx s.k 0).ι q=N.ι q:=(fF.1 q tP).1
       have WU:(N.eB st.nx s.k 0).ι st.nx=s.k/\(N.eB st.nx s.k 0).ln st.nx=0:=by simp [aK.eB]
       have aJ:q≠st.nx:=Nat.ne_of_lt tP
       have xX:(SR.put [] (.vo undef) q (.bc Q [vs.set f (.own st.nx (D.sz t))]):SR τ dn).may D (N.eB st.nx s.k 0) ((SR.new [] (.own st.nx (D.sz t)) (.bl t []):SR τ dn).st st none):=by
        refine ⟨⟨.bc Q [vs], ?_, ?_⟩,r1,rfl⟩
        ·show getS ((st.nx,some (.bl t []))::st.m) q=_
         rw [bE,acL aJ];exact m1
        ·rw [(fF.1 q tP).2,g2];rfl
       have WV:∀N':aK,(N.eB st.nx s.k 0).agree (st.nx+1) N'->(vs.map (SV.av D.toTE N'))=vs.map (SV.av D.toTE N):=fun N' hN=>by
        have A':=R.at_ N' (aK.gX fF hN (Nat.le_succ _))
        have e1:=(A'.bl q _ m1).1
        rw [((aK.gX fF hN (Nat.le_succ _)).1 q tP).1,g1] at e1
        simpa [SB.av,SV.cI,SV.bR] using e1.symm
       have R2:=R1.go (n:=0) (d:=none) (r:= .put [] (.vo undef) q (.bc Q [vs.set f (.own st.nx (D.sz t))])) rfl xX (val:= .v undef) (ups:=[(N.ι q,some ⟨Q,[(vs.map (SV.av D.toTE N)).set f (.own s.k (D.sz t) 0 0)]⟩)]) (fun N' hN=>rfl) (fun N' hN=>by
        have Ed:(N.eB st.nx s.k 0).agree (st.nx+1) N':=hN
        have h1:=Ed.1 st.nx (adL _)
        have h2:=(Ed.1 q (aew tP)).1
        simp only [SR.ups,SB.av,SV.cI,SV.bR,aef,SV.av,h1.1,h1.2,h2,WU,WT,WV N' Ed])
       refine ⟨_,N.eB st.nx s.k 0,S3.WS (q:=N.ι q) (f:=f) (cs:=vs.map (SV.av D.toTE N)) (sz:=D.sz t) (by rw [g1];simp only [SB.av,SV.cI,SV.bR]) (R.lt q tP) (by rw [ac5,hf];rfl) hQ hz, ?_,rfl,rfl,fF,Nat.le_succ _⟩
       exact R2
     ·exact no
    ·exact no
   cases v with
   |ow i t=>
    simp only [mQ]
    split
    ·rename_i hg
     cases hb:(Nat.blt 0 (D.sz t)&&(getS st.rt i).isNone) with
     |false=>rw [ac7];exact no
     |true=>
      rw [acR]
      rw [acO] at hb
      have hz:D.sz t≠0:=Nat.ne_of_gt (adC hb.1)
      have hσ:s.σ i= .emp:=R.here.gt hg
      refine ⟨_,N.eB st.nx s.k 0,S3.Wp hσ hz, ?_,rfl,rfl,N.oX _ _ _,Nat.le_succ _⟩
      have:=R.go (n:=i+1) (d:=some i) (r:= .new [] (.own st.nx (D.sz t)) (.bl t [])) (by simp only [dstS,acO];exact ⟨Nat.ble_eq_true_of_le (acV _),hb.2⟩) rfl (val:= .own s.k (D.sz t) 0 0) (ups:=[(s.k,some ⟨D.sz t,[]⟩)]) (fun N' hN=>by
       simp only [SR.v,SV.av]
       have h1:=hN.1 st.nx (adL _)
       simp only [SR.up,aK.eB,acP] at h1
       rw [h1.1,h1.2];rfl) (fun N' hN=>rfl)
      refine cast ?_ this
      congr 2
      funext j
      simp only [cu,acM]
      by_cases hj:j=i
      ·subst hj;rw [acN ⟨rfl,adL _⟩,acN rfl]
      ·rw [acL (fun hh=>hj hh.1.symm),acL hj]
    ·exact no
   |so q f t cs=>exact Kv q f t cs
   |sg q f t S fx=>exact Kv q f t []
   |_=>exact no
  obtain ⟨s1,N1,h1,h2,h3,h4,h5,h6⟩:=one
  obtain ⟨s2,N2,q1,q2,q3,q4,q5,q6⟩:=Ku (vs:=r) h2
  exact ⟨s2,N2,h1.trans' q1,q2,q3.trans h3,q4.trans h4,aK.gX h5 q5 h6,adk h6 q6⟩
mutual
theorem SV.sd {p q:Nat->Bool} (h:∀a,p a=true->q a=true):∀(v:SV τ dn),v.fr p=true->v.fr q=true
 | .own nm sz,hv| .part nm sz _ _,hv| .ref nm sz _ _,hv| .mp nm,hv=>by simp only [SV.fr] at hv ⊢; exact h nm hv
 | .agg cs,hv| .bn cs,hv| .fn _ cs,hv| .bf _ cs,hv| .pim cs _,hv=>by simp only [SV.fr] at hv ⊢; exact SV.Ee h cs hv
 | .vc _ els,hv=>by simp only [SV.fr] at hv ⊢; exact SV.Ae h els hv
 | .vg p c v,hv=>by simp only [SV.fr] at hv ⊢; exact SV.sd h v hv
 | .rw _ _,_| .dT _ _ _ _,_| .vl _ _,_| .vi _,_| .vn _,_| .vy _,_| .vu _,_| .vw _ _,_| .vb _,_| .vt _,_| .vz _,_| .vo _,_| .emp,_| .dead,_=>by simp only [SV.fr]
theorem SV.Ee {p q:Nat->Bool} (h:∀a,p a=true->q a=true):∀(cs:List (SV τ dn)),SV.cY p cs=true->SV.cY q cs=true
 |[],_=>rfl
 |v::r,hv=>by simp only [SV.cY,acO] at hv ⊢; exact ⟨SV.sd h v hv.1,SV.Ee h r hv.2⟩
theorem SV.Ae {p q:Nat->Bool} (h:∀a,p a=true->q a=true):∀(els:List (List (SV τ dn))),SV.oO p els=true->SV.oO q els=true
 |[],_=>rfl
 |v::r,hv=>by simp only [SV.oO,acO] at hv ⊢; exact ⟨SV.Ee h v hv.1,SV.Ae h r hv.2⟩
end
theorem SB.sd {p q:Nat->Bool} (h:∀a,p a=true->q a=true) (B:SB τ dn) (hB:B.fr p=true):B.fr q=true:=by
 cases B with
 |bl t xs=>rfl
 |bc sz els=>simp only [SB.fr] at hB ⊢; exact SV.Ae h els hB
 |mc els=>simp only [SB.fr] at hB ⊢; exact SV.Ae h els hB
 |ar t A=>rfl
def kW (D:TD τ dn) (st:SS τ dn):List mC->Option (List Prop×List (SV τ dn))
 |[]=>some ([],[])
 | .tmp i::r=>match st.gt i,kW D st r with
  |some v,some (O,l)=>some (O,v::l)
  |_,_=>none
 | .cell i m::r=>match st.gt i,kW D st r with
  |some a,some (O,l)=>match rK D st m a with
   |some (.val O' v)=>some (O'++O,v::l)
   |_=>none
  |_,_=>none
def l0 (vs:List (SV τ dn)) (i:Nat):List (Nat×SV τ dn):=match vs with
 |[]=>[]
 |v::r=>(i,v)::l0 r (i+1)
theorem Af {i:Nat}:∀{vs:List (SV τ dn)} {k:Nat} {v:SV τ dn},getS (l0 vs k) i=some v->k<=i/\vs[i - k]? =some v
 |[],k,v,h=>by simp [l0,getS] at h
 |w::r,k,v,h=>by
  simp only [l0,bE] at h
  by_cases hi:i=k
  ·rw [acN hi,acM] at h
   subst h;subst hi;exact ⟨acV _,by simp⟩
  ·rw [acL hi] at h
   obtain ⟨h1,h2⟩:=Af h
   refine ⟨by omega, ?_⟩
   rw [show i - k=(i - (k+1))+1 by omega,adA];exact h2
theorem WW {D:TD τ dn} {st:SS τ dn} {σ:Nat->AV} (ok:bC D) (R:bK D N st σ g) {m:Option Nat} {a:SV τ dn} (hx:st.gt i=some a) {O:List Prop} {v:SV τ dn} (h:rK D st m a=some (.val O v)) (hO:∀p,p∈O->p):(uX m (σ i)).run g=some (v.av D.toTE N):=by
 have e:=I7 ok R (x:= .s i) hx h 0 hO trivial
 have hs:aQ σ (.s i)=σ i:=rfl
 simp only [AO.aq,hs] at e
 unfold uX
 cases hσ:σ i<;>rw [hσ] at e<;>simp only at e ⊢
 case pim cs o=>
  cases hg:getCells cs o m with
  |none=>rw [hg] at e;simp [RM.opt,RM.run] at e
  |some w=>rw [hg] at e;simp only [acZ,RM.opt,RM.run,acM,Out.done.injEq] at e;simp only [RM.opt,RM.run,e.1];rfl
 case ref id sz j o=>
  simp only [RM.run] at e ⊢
  cases hg:g id with
  |none=>rw [hg] at e;simp at e
  |some B=>
   rw [hg] at e
   simp only at e ⊢
   split at e
   ·rename_i hz
    rw [acN hz]
    cases hq:(B.els[j]?.bind fun cs=>getCells cs o m) with
    |none=>rw [hq] at e;simp [RM.opt,RM.run] at e
    |some w=>rw [hq] at e;simp only [acZ,RM.opt,RM.run,acM,Out.done.injEq] at e;simp only [RM.opt,RM.run,e.1];rfl
   ·simp [RM.run] at e
 all_goals simp [RM.run] at e
theorem wz {D:TD τ dn} {N:aK} {st:SS τ dn} {σ:Nat->AV} {g:Nat->Option Bk} (ok:bC D) (R:bK D N st σ g):∀{res:List mC} {O:List Prop} {l:List (SV τ dn)},kW D st res=some (O,l)->(∀p,p∈O->p)->(ni σ res).run g=some (l.map (SV.av D.toTE N))
 |[],O,l,h,hO=>by simp only [kW,acM,ac3] at h;obtain ⟨_,rfl⟩:=h;rfl
 | .tmp i::r,O,l,h,hO=>by
  simp only [kW] at h
  split at h
  ·rename_i v O' l' h1 h2
   simp only [acM,ac3] at h;obtain ⟨rfl,rfl⟩:=h
   simp only [ni]
   rw [eM (wz ok R h2 hO)]
   simp only [RM.run,acY,R.gt h1]
  ·simp at h
 | .cell i m::r,O,l,h,hO=>by
  simp only [kW] at h
  split at h
  ·rename_i a O' l' h1 h2
   split at h
   ·rename_i O2 v h3
    simp only [acM,ac3] at h;obtain ⟨rfl,rfl⟩:=h
    simp only [ni]
    rw [eM (WW ok R h1 h3 fun p hp=>hO p (adt _ hp)),eM (wz ok R h2 fun p hp=>hO p (ads _ hp))]
    rfl
   ·simp at h
  ·simp at h
theorem Kw {D:TD τ dn} {st:SS τ dn}:∀{l l':List (SV τ dn)},mL D st l=some l'->l.length=l'.length
 |[],l',h=>by simp only [mL,acM] at h;subst h;rfl
 |v::r,l',h=>by
  simp only [mL] at h
  split at h
  ·rename_i x l2 h1 h2
   simp only [acM] at h;subst h;simp [Kw h2]
  ·simp at h
theorem WX {a a':AV} (h:(e8 a).run g=some a'):(oG a).run g=some a':=by
 cases a<;>first
  |exact h
  |(simp [e8,snap1,AV.pu1,RM.run] at h)
theorem Kx {D:TD τ dn} (ok:bC D) (t:τ) (x:dn t) (h:D.pu t=true):(D.en t x).av D.toTE N=(D.en t x).av D.toTE N':=by
 have e:(D.es t x).map (SV.av D.toTE N)=(D.es t x).map (SV.av D.toTE N'):=by rw [ok.dy,ok.dy,ok.gG _ N'.ρ t x h]
 cases ha:D.ag t with
 |true=>rw [v7 ha,SV.av,SV.av,SV.bR,SV.bR,e]
 |false=>
  unfold TD.en
  rw [ha,ac7]
  cases hs:D.es t x with
  |nil=>rfl
  |cons v r=>rw [hs] at e;simp only [acY,aeB] at e;exact e.1
theorem Ky {D:TD τ dn} (ok:bC D) {N N':aK}:∀(rs:List τ) (x:RD dn rs),rs.all D.pu=true->(iO D rs x).map (SV.av D.toTE N)=(iO D rs x).map (SV.av D.toTE N')
 |[],_,_=>rfl
 |[t],x,h=>by simp only [List.all_cons,List.all_nil,Bool.and_true] at h;simp only [iO,acY,adq];rw [Kx ok (N:=N) (N':=N') t x h]
 |t::s::r,x,h=>by
  rw [List.all_cons,acO] at h
  simp only [iO,acY];rw [Kx ok (N:=N) (N':=N') t x.1 h.1,Ky ok (N:=N) (N':=N') (s::r) x.2 h.2]
theorem Kz {f:Nat->Nat}:∀{n m:Nat},wk ((List.range' m n).map f)=true->∀a b,m<=a->a<m+n->m<=b->b<m+n->f a=f b->a=b
 |0,m,h,a,b,h1,h2,h3,h4,he=>by omega
 |n+1,m,h,a,b,h1,h2,h3,h4,he=>by
  rw [List.range'_succ,acY] at h
  simp only [wk,acO,ac8] at h
  have gU:∀c,m+1<=c->c<m+1+n->f m≠f c:=fun c k1 k2 e=>by
   have:hasN ((List.range' (m+1) n).map f) (f m)=true:=pg.2 (ade.2 ⟨c,List.mem_range'_1.2 ⟨k1,k2⟩,e.symm⟩)
   rw [this] at h;simp at h
  by_cases ha:a=m<;>by_cases hb:b=m
  ·omega
  ·subst ha;exact absurd he (gU b (by omega) (by omega))
  ·subst hb;exact absurd he.symm (gU a (by omega) (by omega))
  ·exact Kz h.2 a b (by omega) (by omega) (by omega) (by omega) he
theorem KA {C:cO τ dn} {n k0:Nat} {a:AC} {B:SS τ dn->(Ex->SS τ dn->Prop)->Prop} (hB:∀{st:SS τ dn} {K:Ex->SS τ dn->Prop} {N:aK} {s:S3},Rel C.D N st s->C.fl<=st.nx->B st K->Ends C n k0 a N st s K):
  ∀(m:Nat) {st:SS τ dn} {K:Ex->SS τ dn->Prop} {N:aK} {s:S3},Rel C.D N st s->C.fl<=st.nx->Eb B m st K->∃e s' j N2 aw,Ch C.P n k0 a e s' j s/\Rel C.D N2 aw s'/\aw.rt=st.rt/\aw.rm=st.rm/\(N.agree C.fl N2/\C.fl<=aw.nx)/\K e aw
 |0,st,K,N,s,R,hl,h=>h.elim
 |m+1,st,K,N,s,R,hl,h=>by
  obtain ⟨e,s1,N1,st1,e1,R1,r1,r2,r3,hk⟩:=hB R hl h
  cases e with
  |normal=>
   obtain ⟨e,s2,j,N2,bz,c1,c2,c3,c4,c5,c6⟩:=KA hB m R1 r3.2 hk
   exact ⟨e,s2,j+1,N2,bz, .step e1 S3.Le.nG c1,c2,c3.trans r1,c4.trans r2,⟨aK.gX r3.1 c5.1 (acV _),c5.2⟩,c6⟩
  |exit i=>exact ⟨_,s1,0,N1,st1, .last e1 (by simp),R1,r1,r2,r3,hk⟩
  |ret=>exact ⟨_,s1,0,N1,st1, .last e1 (by simp),R1,r1,r2,r3,hk⟩
variable [DecidableEq τ]
theorem S3.KB (sz:Nat):s.Le k0 n ⟨s.σ,aH s.g [(s.k,some ⟨sz,[]⟩)],s.k+1⟩:=by
 intro E0 J base w0 a w hk hr
 obtain ⟨E,rfl,hle,hs,hm,bH,hmk⟩:=hr.ex
 obtain ⟨E',hw,hE,hM,k1,k2,k3,k4,k5⟩:=hm.x1 (fresh:=s.k) (fun hh=>adS _ (bH _ hh)) sz
 refine ⟨⟨E',hw,hle.trans hE,fun j=>(hs j).step hE,hM,fun id hid=> ?_,hmk.step hE⟩,hr.size,hr.below,hr.gl⟩
 show id<s.k+1
 rcases k4 id hid with h|h
 ·have:=bH id h;omega
 ·omega
theorem KC {C:cO τ dn} (hC:C.Ok) {a:AC} {B:SS τ dn->(Ex->SS τ dn->Prop)->Prop} (hB:∀{st:SS τ dn} {K:Ex->SS τ dn->Prop} {N:aK} {s:S3},Rel C.D N st s->C.fl<=st.nx->B st K->Ends C n k0 a N st s K) {vs:List (VK τ)} {I:VT dn vs->Prop} {ms:VT dn vs->Nat}
  {st:SS τ dn} {K:Ex->SS τ dn->Prop} {T:List Nat} {ft:List (Nat×SV τ dn)} {fm:List (Nat×Option (SB τ dn))} (hT:vs.map (nmV st)=T) (nK:T.length=vs.length) (kp:∀{a},keepP vs T st.nx a=true->a<st.nx/\¬a∈movesV vs T) (hle:∀a,keepP vs T st.nx a=true->lessB st.nx a=true)
  (aT:∀{i v},getS (ft++st.rt) i=some v->(getS ft i=some v\/getS st.rt i=some v)/\v.fr (keepP vs T st.nx)=true/\¬i∈gk vs) (aM:∀{i v},getS (fm++st.rm) i=some v->(getS fm i=some v\/getS st.rm i=some v)/\(∀B,v=some B->B.fr (keepP vs T st.nx)=true)/\keepP vs T st.nx i=true)
  (fT:∀{i v},getS ft i=some v->getS st.t i=some v/\v.fr (keepP vs T st.nx)=true/\¬i∈gk vs) (fM:∀{i v},getS fm i=some v->getS st.m i=some v/\(∃B,v=some B/\B.fr (keepP vs T st.nx)=true)/\keepP vs T st.nx i=true)
  (rT:∀{i v},getS st.rt i=some v->v.fr (keepP vs T st.nx)=true/\¬i∈gk vs/\getS ft i=none) (rM:∀{i v},getS st.rm i=some v->keepP vs T st.nx i=true/\(∀B,v=some B->B.fr (keepP vs T st.nx)=true)/\getS fm i=none) (o3:okT (lessB st.nx) vs T=true) (mA:C.fl<=st.nx) (Ag:(movesV vs T).all (Nat.ble C.fl)=true)
  {x:VT dn vs} (h:B ⟨ft++st.rt,fm++st.rm,cE C.D vs T x,putM C.D vs T x,st.nx⟩ fun e aw=>match e with
   | .normal=>match pj C.D aw vs with
    |some x'=>bif nextB vs T (vs.map (nmV aw)) st.nx aw.nx then I x'/\ms x'<ms x else False
    |none=>False
   |e=>K e ⟨st.rt,st.rm,aw.t++ft,aw.m++fm,aw.nx⟩) (R:Rel C.D N ⟨ft++st.rt,fm++st.rm,cE C.D vs T x,putM C.D vs T x,st.nx⟩ s)
  (next:∀x',ms x'<ms x->I x'->∀N2 s2,Rel C.D N2 ⟨ft++st.rt,fm++st.rm,cE C.D vs T x',putM C.D vs T x',st.nx⟩ s2->∃e s' j N3 aw,Ch C.P n k0 a e s' j s2/\Rel C.D N3 aw s'/\aw.rt=st.rt/\aw.rm=st.rm/\(N2.agree C.fl N3/\C.fl<=aw.nx)/\K e aw):
  ∃e s' j N2 aw,Ch C.P n k0 a e s' j s/\Rel C.D N2 aw s'/\aw.rt=st.rt/\aw.rm=st.rm/\(N.agree C.fl N2/\C.fl<=aw.nx)/\K e aw:=by
 obtain ⟨e,s1,N1,st1,e1,R1,iD,eT,KD,hk⟩:=hB R mA h
 have leave:e≠ .normal->K e ⟨st.rt,st.rm,st1.t++ft,st1.m++fm,st1.nx⟩->∃e s' j N2 aw,Ch C.P n k0 a e s' j s/\Rel C.D N2 aw s'/\aw.rt=st.rt/\aw.rm=st.rm/\(N.agree C.fl N2/\C.fl<=aw.nx)/\K e aw:=fun aJ hk=>by
  have KE:∀i v,getS fm i=some v->getS st1.rm i=some v:=fun i v h=>by rw [eT];show getS (fm++st.rm) i=_;rw [jk,h];rfl
  have KF:∀i v,getS st.rm i=some v->getS st1.rm i=some v:=fun i v h=>by rw [eT];show getS (fm++st.rm) i=_;rw [jk,(rM h).2.2];exact h
  have dR:∀a X,(⟨st.rt,st.rm,st1.t++ft,st1.m++fm,st1.nx⟩:SS τ dn).bV a X->st1.bV a X:=fun a X hX=>by
   rcases hX with hX|hX
   ·have pb:getS (st1.m++fm) a=some (some X):=hX
    rw [jk] at pb
    cases hq:getS st1.m a with
    |some w=>rw [hq] at pb;simp only [aex,acM] at pb;subst pb;exact .inl hq
    |none=>rw [hq] at pb;simp only [aeg] at pb;exact .inr (KE a _ pb)
   ·exact .inr (KF a _ hX)
  refine ⟨e,s1,0,N1,⟨st.rt,st.rm,st1.t++ft,st1.m++fm,st1.nx⟩, .last e1 aJ,⟨fun N' hN=> ?_,R1.inj,R1.lt,fun nm B h=> ?_,fun nm B h=> ?_,fun t A h id hid=>⟨(R1.sp t A (dR 0 _ h) id hid).1,fun nm B hB=>(R1.sp t A (dR 0 _ h) id hid).2 nm B (dR nm B hB)⟩⟩,rfl,rfl,KD,hk⟩
  ·have A:=R1.at_ N' hN
   have WY:∀i v,getS ft i=some v->getS st1.rt i=some v:=fun i v h=>by rw [iD];show getS (ft++st.rt) i=_;rw [jk,h];rfl
   have WZ:∀i v,getS st.rt i=some v->getS st1.rt i=some v:=fun i v h=>by rw [iD];show getS (ft++st.rt) i=_;rw [jk,(rT h).2.2];exact h
   refine ⟨fun i v h=> ?_,fun i v h=>A.rs i v (WZ i v h),fun nm B h=> ?_,fun nm B h=>A.rb nm B (KF nm _ h),fun t A' h id hid=>A.ar t A' (dR 0 _ h) id hid⟩
   ·have h':getS (st1.t++ft) i=some v:=h
    rw [jk] at h'
    cases hq:getS st1.t i with
    |some w=>rw [hq] at h';simp only [aex,acM] at h';subst h';exact A.sl i _ hq
    |none=>rw [hq] at h';simp only [aeg] at h';exact A.rs i v (WY i v h')
   ·have h':getS (st1.m++fm) nm=some (some B):=h
    rw [jk] at h'
    cases hq:getS st1.m nm with
    |some w=>rw [hq] at h';simp only [aex,acM] at h';subst h';exact A.bl nm _ hq
    |none=>rw [hq] at h';simp only [aeg] at h';exact A.rb nm B (KE nm _ h')
  ·have h':getS (st1.m++fm) nm=some B:=h
   rw [jk] at h'
   cases hq:getS st1.m nm with
   |some w=>exact R1.ml nm w hq
   |none=>rw [hq] at h';simp only [aeg] at h';exact R1.rl nm B (by rw [eT];show getS (fm++st.rm) nm=_;rw [jk,h'];rfl)
  ·exact R1.rl nm B (by rw [eT];show getS (fm++st.rm) nm=_;rw [jk,(rM h).2.2];exact h)
 cases e with
 |exit i=>exact leave (by simp) hk
 |ret=>exact leave (by simp) hk
 |normal=>
  simp only at hk
  split at hk
  case h_2=>exact hk.elim
  rename_i x' eI
  generalize hA:vs.map (nmV st1)=A at hk
  cases hn:nextB vs T A st.nx st1.nx with
  |false=>rw [hn] at hk;exact hk.elim
  |true=>
   rw [hn,acR] at hk
   unfold nextB at hn
   simp only [acO] at hn
   obtain ⟨⟨⟨n1,n2⟩,n3⟩,n4⟩:=hn
   have KG:∀a,a∈ku vs->fq vs T A a=a:=fun a ha=>ac0 (acQ.1 n4 a ha)
   have hV:=zR hC.ok R1.here eI
   rw [hA] at hV
   have W0:A.length=vs.length:=by rw [<-hA,ac4]
   have Ef:∀c,c<st.nx->fq vs T A c<st1.nx:=fun c hc=>wm ((acQ.1 n2) c (adl.2 hc))
   have W1:∀c d,c<st.nx->d<st.nx->fq vs T A c=fq vs T A d->c=d:=fun c d hc hd he=>by
    rw [List.range_eq_range'] at n1
    exact Kz n1 c d (Nat.zero_le _) (by omega) (Nat.zero_le _) (by omega) he
   obtain ⟨N2,l4⟩:∃N2:aK,N2=⟨fun c=>N1.ι (fq vs T A c),fun c=>N1.ln (fq vs T A c),N1.ρ⟩:=⟨_,rfl⟩
   have wu:N1.same (keepP vs T st.nx) N2:=by
    refine ⟨fun c hc=> ?_,by rw [l4]⟩
    rw [l4];simp only [DY (kp hc).2,adb]
   have W2:mP C.D N2 s1.σ s1.g vs T x':=by
    refine DZ C.D (by rw [l4]) hC.ok hV (by rw [nK,W0]) (fun j v c m h0 h1 h2=> ?_) fun a ha=>by rw [l4];simp only [KG a ha,adb]
    have hz:(v,c,m)∈vs.zip (T.zip A):=by
     refine adm (i:=j) ?_
     rw [aeR,aeR]
     exact ⟨h0,h1,h2⟩
    have:=(acQ.1 n3) _ hz
    simp only [adg,acO] at this
    rcases this with h|⟨h,h'⟩
    ·exact .inl h
    ·have e:=ac0 h
     refine .inr ⟨by rw [l4];simp only [e],by rw [l4];simp only [e], ?_⟩
     rcases h' with h'|h'
     ·exact .inl h'
     ·exact .inr (ac0 h')
   obtain ⟨s2,w2,R2⟩:=J1 (n:=n) (k0:=k0) hC.ok (rt:=ft++st.rt) (rm:=fm++st.rm) (nx:=st.nx) W2 o3 nK (fun i v h=>by
     obtain ⟨_,h2,h3⟩:=aT h
     refine ⟨?_,SV.sd hle v h2,h3⟩
     rw [rX wu v h2]
     exact R1.here.rs i v (by rw [iD];exact h)) (fun nm B h=>by
     obtain ⟨_,h2,h3⟩:=aM h
     refine ⟨(kp h3).1,fun B' aX=> ?_⟩
     subst aX
     obtain ⟨q1,q2⟩:=R1.here.rb nm B' (by rw [eT];exact h)
     obtain ⟨p1,p2⟩:=wu.1 nm h3
     exact ⟨by rw [p1,JT wu B' (h2 B' rfl)];exact q1,by rw [p2];exact q2,SB.sd hle B' (h2 B' rfl)⟩)
    (fun c d hc hd he=>W1 c d hc hd (R1.inj _ _ (Ef c hc) (Ef d hd) (by rw [l4] at he;exact he))) (fun c hc=>by rw [l4];exact R1.lt _ (Ef c hc))
    (fun t Ar h id hid=>by
     have dR:∀nm B,(⟨ft++st.rt,fm++st.rm,cE C.D vs T x',putM C.D vs T x',st.nx⟩:SS τ dn).bV nm B->(∃B',st1.bV (fq vs T A nm) B')/\(∀t Ar,nm=0->B= .ar t Ar->st1.bV 0 (.ar t Ar)):=fun nm B hB=>by
      rcases hB with hB|hB
      ·rcases zS eI nK nm B (lY hB) with ⟨j,v,p1,p2,p3,⟨B',p4⟩,p5⟩|⟨hf,⟨B',p4⟩,p5⟩
       case inr=>exact ⟨⟨B',by rw [KG nm hf];exact jG p4⟩,fun t Ar h0 he=>absurd he (p5 t Ar)⟩
       have hj:A[j]? =some (nmV st1 v):=by rw [<-hA,ac5,p1];rfl
       have hz:(v,nm,nmV st1 v)∈vs.zip (T.zip A):=by
        refine adm (i:=j) ?_
        rw [aeR,aeR]
        exact ⟨p1,p2,hj⟩
       have:=(acQ.1 n3) _ hz
       simp only [adg,acO] at this
       have e:=ac0 (this.resolve_left (by rw [p3];simp)).1
       refine ⟨⟨B', ?_⟩,fun t Ar h0 he=> ?_⟩
       ·show st1.bV (fq vs T A nm) B'
        rw [e];exact jG p4
       ·exact jG (p5 t Ar he).2
      ·have aX:getS (fm++st.rm) nm=some (some B):=hB
       obtain ⟨_,_,h3⟩:=aM aX
       refine ⟨⟨B, ?_⟩,fun t Ar h0 he=> ?_⟩
       ·rw [DY (kp h3).2];exact .inr (by rw [eT];exact aX)
       ·subst h0;subst he;exact .inr (by rw [eT];exact aX)
     have h1:=(dR 0 _ h).2 t Ar rfl rfl
     obtain ⟨q1,q2⟩:=R1.sp t Ar h1 id hid
     have q3:=R1.here.ar t Ar h1 id hid
     refine ⟨by rw [l4];exact q3,q1,fun nm B hB=> ?_⟩
     obtain ⟨⟨B',aX⟩,_⟩:=dR nm B hB
     rw [l4];exact q2 _ B' aX)
   obtain ⟨e,s',j,N3,aw,c1,c2,c3,c4,c5,c6⟩:=next x' hk.2 hk.1 N2 s2 R2
   have fF:N1.agree C.fl N2:=⟨fun c hc=>by
    have gU:¬c∈movesV vs T:=fun hm=>absurd (adC (acQ.1 Ag c hm)) (by omega)
    rw [l4];simp only [DY gU,adb],by rw [l4]⟩
   exact ⟨e,s',j+1,N3,aw, .step e1 w2 c1,c2,c3,c4,⟨aK.gX (aK.gX KD.1 fF (acV _)) c5.1 (acV _),c5.2⟩,c6⟩
theorem W3 {C:cO τ dn} (hC:C.Ok) {a:AC} {B:SS τ dn->(Ex->SS τ dn->Prop)->Prop} (hB:∀{st:SS τ dn} {K:Ex->SS τ dn->Prop} {N:aK} {s:S3},Rel C.D N st s->C.fl<=st.nx->B st K->Ends C n k0 a N st s K) {vs:List (VK τ)} {I0:VT dn vs->VT dn vs->Prop} {KH:VT dn vs->VT dn vs->Nat} {lZ:List Nat}
  {st:SS τ dn} {K:Ex->SS τ dn->Prop} (R:Rel C.D N st s) (mA:C.fl<=st.nx) (h:Ec C.D C.fl vs I0 KH lZ B st K):Ends C n k0 (.loop a) N st s K:=by
 unfold Ec at h
 split at h
 case h_1=>exact h.elim
 rename_i x0 yM
 generalize hI:I0 x0=I at h
 generalize BB:KH x0=ms at h
 generalize hT:vs.map (nmV st)=T at h
 generalize W4:ph (keepP vs T st.nx) (gk vs++lZ) st.t=ft at h
 generalize W5:nH (keepP vs T st.nx) (rZ vs T) st.m=fm at h
 unfold Ks at h
 cases hok:okB vs T st (keepP vs T st.nx) ft fm&&(movesV vs T).all (Nat.ble C.fl) with
 |false=>rw [hok] at h;exact h.elim
 |true=>
 rw [hok,acR] at h
 rw [acO] at hok
 obtain ⟨hok,Ag⟩:=hok
 obtain ⟨uM,cw⟩:=h
 rw [zP] at cw
 unfold okB at hok
 simp only [acO] at hok
 obtain ⟨⟨⟨⟨o1,o2⟩,o3⟩,o4⟩,o5⟩:=hok
 have nK:T.length=vs.length:=by rw [<-hT,ac4]
 have kp:∀{a},keepP vs T st.nx a=true->a<st.nx/\¬a∈movesV vs T:=fun {a} h=>by
  unfold keepP at h
  rw [acO] at h
  refine ⟨wm h.1,fun hm=> ?_⟩
  have:=h.2
  rw [pg.2 hm] at this;simp at this
 have hle:∀a,keepP vs T st.nx a=true->lessB st.nx a=true:=fun a h=>by
  unfold keepP at h;rw [acO] at h;exact h.1
 have fT:∀{i v},getS ft i=some v->getS st.t i=some v/\v.fr (keepP vs T st.nx)=true/\¬i∈gk vs:=fun {i v} h=>by
  rw [<-W4] at h
  obtain ⟨h1,h2,h3⟩:=DT h
  exact ⟨h1,h2,fun hh=>h3 (adt _ hh)⟩
 have fM:∀{i v},getS fm i=some v->getS st.m i=some v/\(∃B,v=some B/\B.fr (keepP vs T st.nx)=true)/\keepP vs T st.nx i=true:=fun {i v} h=>by
  rw [<-W5] at h
  obtain ⟨h1,h2,h3,_⟩:=DU h
  exact ⟨h1,h2,h3⟩
 have rT:∀{i v},getS st.rt i=some v->v.fr (keepP vs T st.nx)=true/\¬i∈gk vs/\getS ft i=none:=fun {i v} h=>by
  have:=(acQ.1 o1) _ (lY h)
  simp only [acO,ac8,Option.isNone_iff_eq_none] at this
  exact ⟨this.1.1,fun hh=>by rw [pg.2 hh] at this;simp at this,this.2⟩
 have rM:∀{i v},getS st.rm i=some v->keepP vs T st.nx i=true/\(∀B,v=some B->B.fr (keepP vs T st.nx)=true)/\getS fm i=none:=fun {i v} h=>by
  have:=(acQ.1 o2) _ (lY h)
  simp only [acO,Option.isNone_iff_eq_none] at this
  exact ⟨this.1.1,fun B hB=>by subst hB;exact this.1.2,this.2⟩
 have aT:∀{i v},getS (ft++st.rt) i=some v->(getS ft i=some v\/getS st.rt i=some v)/\v.fr (keepP vs T st.nx)=true/\¬i∈gk vs:=fun {i v} h=>by
  rw [jk] at h
  cases hf:getS ft i with
  |some w=>rw [hf] at h;simp only [aex,acM] at h;subst h;exact ⟨.inl rfl,(fT hf).2⟩
  |none=>rw [hf] at h;simp only [aeg] at h;exact ⟨.inr h,(rT h).1,(rT h).2.1⟩
 have aM:∀{i v},getS (fm++st.rm) i=some v->(getS fm i=some v\/getS st.rm i=some v)/\(∀B,v=some B->B.fr (keepP vs T st.nx)=true)/\keepP vs T st.nx i=true:=fun {i v} h=>by
  rw [jk] at h
  cases hf:getS fm i with
  |some w=>
   rw [hf] at h;simp only [aex,acM] at h;subst h
   obtain ⟨h1,⟨B,h2,h3⟩,h4⟩:=fM hf
   exact ⟨.inl rfl,fun B' aX=>by rw [h2,acM] at aX;subst aX;exact h3,h4⟩
  |none=>rw [hf] at h;simp only [aeg] at h;exact ⟨.inr h,(rM h).2.1,(rM h).1⟩
 -- mu rounds
 have rounds:∀(m:Nat) (x:VT dn vs) (N':aK) (s0:S3),ms x<=m->I x->Rel C.D N' ⟨ft++st.rt,fm++st.rm,cE C.D vs T x,putM C.D vs T x,st.nx⟩ s0->
   ∃e s' j N2 aw,Ch C.P n k0 a e s' j s0/\Rel C.D N2 aw s'/\aw.rt=st.rt/\aw.rm=st.rm/\(N'.agree C.fl N2/\C.fl<=aw.nx)/\K e aw:=by
  intro m
  induction m with
  |zero=>
   intro x N' s0 hm hI R0
   exact KC hC hB hT nK kp hle aT aM fT fM rT rM o3 mA Ag (cw x hI) R0 fun x' hlt=>absurd hlt (by omega)
  |succ m ih=>
   intro x N' s0 hm hI R0
   exact KC hC hB hT nK kp hle aT aM fT fM rT rM o3 mA Ag (cw x hI) R0 fun x' hlt mB N2 s2 R2=>ih x' N2 s2 (by omega) mB R2
 have hV:=zR hC.ok R.here yM
 rw [hT] at hV
 obtain ⟨s1,w1,R1⟩:=J1 (n:=n) (k0:=k0) hC.ok (rt:=ft++st.rt) (rm:=fm++st.rm) hV o3 nK (fun i v h=>by
   obtain ⟨h1,h2,h3⟩:=aT h
   refine ⟨?_,SV.sd hle v h2,h3⟩
   rcases h1 with h1|h1
   ·exact R.here.sl i v (fT h1).1
   ·exact R.here.rs i v h1) (fun nm B h=>by
   obtain ⟨h1,h2,h3⟩:=aM h
   refine ⟨(kp h3).1,fun B' aX=> ?_⟩
   subst aX
   have:s.g (N.ι nm)=some (B'.av C.D.toTE N)/\N.ln nm=B'.len:=by
    rcases h1 with h1|h1
    ·exact R.here.bl nm B' (fM h1).1
    ·exact R.here.rb nm B' h1
   exact ⟨this.1,this.2,SB.sd hle B' (h2 B' rfl)⟩) R.inj R.lt
   (fun t Ar h id hid=>by
    have dR:∀nm B,(⟨ft++st.rt,fm++st.rm,cE C.D vs T x0,putM C.D vs T x0,st.nx⟩:SS τ dn).bV nm B->(∃B',st.bV nm B')/\(∀t Ar,nm=0->B= .ar t Ar->st.bV 0 (.ar t Ar)):=fun nm B hB=>by
     rcases hB with hB|hB
     ·rcases zS yM nK nm B (lY hB) with ⟨j,v,p1,p2,p3,⟨B',p4⟩,p5⟩|⟨hf,⟨B',p4⟩,p5⟩
      case inr=>exact ⟨⟨B',jG p4⟩,fun t Ar h0 he=>absurd he (p5 t Ar)⟩
      have hj:nmV st v=nm:=by
       have:T[j]? =some (nmV st v):=by rw [<-hT,ac5,p1];rfl
       rw [p2] at this;simpa using this.symm
      exact ⟨⟨B',hj▸jG p4⟩,fun t Ar h0 he=>jG (p5 t Ar he).2⟩
     ·have aX:getS (fm++st.rm) nm=some (some B):=hB
      have:st.bV nm B:=by
       rcases (aM aX).1 with h1|h1
       ·exact .inl (fM h1).1
       ·exact .inr h1
      exact ⟨⟨B,this⟩,fun t Ar h0 he=>by subst h0;subst he;exact this⟩
    have h1:=(dR 0 _ h).2 t Ar rfl rfl
    obtain ⟨q1,q2⟩:=R.sp t Ar h1 id hid
    exact ⟨R.here.ar t Ar h1 id hid,q1,fun nm B hB=>by obtain ⟨⟨B',aX⟩,_⟩:=dR nm B hB;exact q2 nm B' aX⟩)
 obtain ⟨e,s',j,N2,aw,c1,c2,c3,c4,c5,c6⟩:=rounds (ms x0) x0 N s1 (acV _) uM R1
 exact ⟨e,s',N2,aw,ED.kN w1 (ED.loop c1),c2,c3,c4,c5,c6⟩
theorem KJ {C:cO τ dn} (hC:C.Ok) {n k0:Nat} {an:Nat->Option (LA τ dn)}:∀(ps:List (List aL)) {st:SS τ dn} {K:SS τ dn->Prop} {N:aK} {s:S3},Rel C.D N st s->Ab C n an ps st K->
  ∃s' N' aw,tM C.P n k0 ps s s'/\Rel C.D N' aw s'/\(aw.rt=st.rt/\aw.rm=st.rm)/\N.agree st.nx N'/\st.nx<=aw.nx/\K aw
 |[],st,K,N,s,R,h=>⟨s,N,st, .nil,R,⟨rfl,rfl⟩,N.fQ _,acV _,h⟩
 |p::ps,st,K,N,s,R,h=>by
  simp only [Ab] at h
  obtain ⟨s1,st1,w1,R1,z1,z2,z3,h⟩:=D8 (n:=n) (k0:=k0) hC.ok _ R h
  obtain ⟨acm,W6,W7,W8,W9,h⟩:=Wd R1 h
  obtain ⟨Xa,Xb,Eg,Eh,Ei,h⟩:=Kq hC.ok W6 h
  obtain ⟨acn,Xc,Xd,Xe,Xf,h⟩:=Kp Xb h
  obtain ⟨bz,R2,y1,y2,y3,h⟩:=zA hC.ok Xc h
  rw [Xd,Eg,W7] at y1;rw [Xe,Eh,W8] at y2;rw [Xf,Ei,W9] at y3
  obtain ⟨s3,N3,qx,e3,R3,r1,r2,r3,h⟩:=zL (hC.wo (wy an p)) (k0:=k0) R2 h
  obtain ⟨s4,N4,Xg,e4,R4,q1,q2,q3,h⟩:=KJ hC (k0:=k0) ps R3 h
  rw [y1,y2,z1,z2] at r1
  rw [y3,z3] at r2 r3
  exact ⟨s4,N4,Xg, .cons w1 e3 e4,R4,⟨q1.1.trans r1.1,q1.2.trans r1.2⟩,aK.gX r2 q2 r3,adk r3 q3,h⟩
theorem l5 {C:cO τ dn} (hC:C.Ok) {n k0:Nat} {an:Nat->Option (LA τ dn)}:∀(ac:AC) (k:Nat) {st:SS τ dn} {K:Ex->SS τ dn->Prop} {N:aK} {s:S3},Rel C.D N st s->C.fl<=st.nx->gJ C n an ac k st K->Ends C n k0 ac N st s K
 | .skip,k,st,K,N,s,R,hl,h=>⟨_,s,N,st,ED.skip,R,rfl,rfl,⟨N.fQ _,hl⟩,h⟩
 | .ret,k,st,K,N,s,R,hl,h=>⟨_,s,N,st,ED.ret,R,rfl,rfl,⟨N.fQ _,hl⟩,h⟩
 | .exit i,k,st,K,N,s,R,hl,h=>⟨_,s,N,st,ED.exit,R,rfl,rfl,⟨N.fQ _,hl⟩,h⟩
 | .seq a b,k,st,K,N,s,R,hl,h=>by
  simp only [gJ] at h
  obtain ⟨e,s1,N1,st1,e1,R1,r1,r2,r3,hk⟩:=l5 hC a k R hl h
  cases e with
  |normal=>
   obtain ⟨e,s2,N2,bz,e2,R2,q1,q2,q3,l6⟩:=l5 hC b _ R1 r3.2 hk
   exact ⟨e,s2,N2,bz,ED.seq e1 e2,R2,q1.trans r1,q2.trans r2,⟨aK.gX r3.1 q3.1 (acV _),q3.2⟩,l6⟩
  |exit i=>exact ⟨_,s1,N1,st1,ED.JS e1 (by simp),R1,r1,r2,r3,hk⟩
  |ret=>exact ⟨_,s1,N1,st1,ED.JS e1 (by simp),R1,r1,r2,r3,hk⟩
 | .cond c a b,k,st,K,N,s,R,hl,h=>by
  simp only [gJ] at h
  have go:∀p:Bool,aQ s.σ c= .v (.bool p)->(p=true->Ends C n k0 a N st s K)->(p=false->Ends C n k0 b N st s K)->Ends C n k0 (.cond c a b) N st s K:=fun p hp h1 h2=>by
   cases p with
   |true=>
    obtain ⟨e,s1,N1,st1,e1,R1,r1,r2,r3,hk⟩:=h1 rfl
    exact ⟨e,s1,N1,st1,ED.cond hp (by rw [acN rfl];exact e1),R1,r1,r2,r3,hk⟩
   |false=>
    obtain ⟨e,s1,N1,st1,e1,R1,r1,r2,r3,hk⟩:=h2 rfl
    exact ⟨e,s1,N1,st1,ED.cond hp (by rw [acL (by simp)];exact e1),R1,r1,r2,r3,hk⟩
  split at h
  ·rename_i hc
   exact go true (R.here.ev hc) (fun _=>l5 hC a k R hl h) (fun hh=>by simp at hh)
  ·rename_i hc
   exact go false (R.here.ev hc) (fun hh=>by simp at hh) (fun _=>l5 hC b _ R hl h)
  ·rename_i c' hc
   split at h
   ·rename_i O aw hm
    rw [lT] at h
    obtain ⟨hO,hk⟩:=h
    have KK:∀{x:AC},x= .skip->Rel C.D N aw s->aw.rt=st.rt/\aw.rm=st.rm/\aw.nx=st.nx->Ends C n k0 x N st s K:=fun {x} hx hR hs=>by
     subst hx
     exact ⟨_,s,N,aw,ED.skip,hR,hs.1,hs.2.1,⟨N.fQ _,by rw [hs.2.2];exact hl⟩,hk⟩
    have run:∀{x:AC} {os:List aL},x= .cy os none->(∃s' N',jA C.P n k0 os s.σ s.g s.k s'.σ s'.g s'.k/\Rel C.D N' aw s'/\N.agree st.nx N')->aw.rt=st.rt/\aw.rm=st.rm/\aw.nx=st.nx->Ends C n k0 x N st s K:=fun {x os} hx hR hs=>by
     subst hx
     obtain ⟨s',N',q1,q2,q3⟩:=hR
     exact ⟨_,s',N',aw,ED.cy q1,q2,hs.1,hs.2.1,⟨Ac q3 hl,by rw [hs.2.2];exact hl⟩,hk⟩
    unfold Kt at hm
    split at hm
    ·obtain ⟨q1,q2,q3⟩:=Ki (k0:=k0) hC hm hO R
     exact go c'.den (R.here.ev hc) (fun hh=>KK rfl (q2 hh) q1) (fun hh=>run rfl (q3 hh) q1)
    ·obtain ⟨q1,q2,q3⟩:=Ki (k0:=k0) hC hm hO R
     exact go c'.den (R.here.ev hc) (fun hh=>run rfl (q3 hh) q1) (fun hh=>KK rfl (q2 hh) q1)
    ·simp at hm
   exact go c'.den (R.here.ev hc) (fun hh=>l5 hC a k R hl (h.1 ((Cn.lS c' true).2 hh))) (fun hh=>l5 hC b _ R hl (h.2 ((Cn.lS c' false).2 hh)))
  ·exact h.elim
 | .block i a,k,st,K,N,s,R,hl,h=>by
  simp only [gJ] at h
  obtain ⟨e,s1,N1,st1,e1,R1,r1,r2,r3,hk⟩:=l5 hC a k R hl h
  exact ⟨_,s1,N1,st1,ED.block e1,R1,r1,r2,r3,hk⟩
 | .loop a,k,st,K,N,s,R,hl,h=>by
  simp only [gJ] at h
  split at h
  ·rename_i m hm
   obtain ⟨e,s2,j,N2,bz,c1,c2,c3,c4,c5,c6⟩:=KA (fun R hl h=>l5 hC a (k+1) R hl h) m R hl h
   exact ⟨e,s2,N2,bz,ED.loop c1,c2,c3,c4,c5,c6⟩
  ·rename_i vs I ms hm
   obtain ⟨s1,N1,w1,R1,r1,r2,r3,r4⟩:=Ku (n:=n) (k0:=k0) (vs:=vs) R
   obtain ⟨e,s2,N2,bz,e2,R2,q1,q2,q3,hk⟩:=W3 hC (fun R hl h=>l5 hC a (k+1) R hl h) R1 (adk hl r4) h
   exact ⟨e,s2,N2,bz,ED.kN w1 e2,R2,q1.trans r1,q2.trans r2,⟨aK.gX (Ac r3 hl) q3.1 (acV _),q3.2⟩,hk⟩
  ·exact h.elim
 | .cy os none,k,st,K,N,s,R,hl,h=>by
  simp only [gJ] at h
  obtain ⟨s',N',aw,e1,R1,r1,r2,r3,hk⟩:=KJ hC (k0:=k0) _ R h
  have e2:=ED.WM e1
  rw [Km] at e2
  exact ⟨_,s',N',aw,e2,R1,r1.1,r1.2,⟨Ac r2 hl,adk hl r3⟩,hk⟩
 | .cy os (some dep),k,st,K,N,s,R,hl,h=>by
  simp only [gJ] at h
  obtain ⟨s1,st1,w1,R1,z1,z2,z3,h⟩:=D8 (n:=n) (k0:=k0) hC.ok _ R h
  obtain ⟨Xa,Xh,Eg,Eh,Ei,h⟩:=Kq hC.ok R1 h
  obtain ⟨bz,R1,y1,y2,y3,h⟩:=Kp Xh h
  rw [Eg] at y1;rw [Eh] at y2;rw [Ei] at y3
  obtain ⟨jn,hj,s',N',aw,e1,R1,r1,r2,r3,hk⟩:=Wn (hC.wo (wy an os)) R1 h
  rw [y1,y2,z1,z2] at r1
  rw [y3,z3] at r2 r3
  exact ⟨_,s',N',aw,ED.kN w1 (ED.draw hj e1),R1,r1.1,r1.2,⟨Ac r2 hl,adk hl r3⟩,hk⟩
 | .yg _ _ _ _,k,st,K,N,s,R,hl,h=>by simp only [gJ] at h
def fS (D:TD τ dn) (vs:List (SV τ dn)):SS τ dn:=match D.ar with
 |none=>⟨[],[],l0 vs 0,[],0⟩
 |some t=>⟨[],[],l0 vs 0,[(0,some (.ar t []))],1⟩
def Ej:List mC->List Nat
 |[]=>[]
 | .tmp i::r| .cell i _::r=>i::Ej r
def Ek (C:cO τ dn) (F:ba) (an:Nat->Option (LA τ dn)) (vs:List (SV τ dn)) (rs:List τ) (r:RD dn rs):Prop:=
 bif Nat.ble vs.length F.n&&rs.all C.D.pu&&Nat.beq C.fl 0 then gJ C F.n an F.code 0 (fS C.D vs) fun e st=>match e with
  | .exit _=>False
  |_=>tJ C.D false (st.zW (Ej F.res)) st fun st=>match kW C.D st F.res with
   |some (O,l)=>match mL C.D st l with
    |some l'=>match nC C.D rs l' with
     |some y=>gY O (y=r)
     |none=>False
    |none=>False
   |none=>False
 else False
theorem Xi {C:cO τ dn} (hC:C.Ok) (hF:cFunc C.P f=some F) {an:Nat->Option (LA τ dn)} {vs:List (SV τ dn)} {rs:List τ} {r:RD dn rs} (N:aK) (fO:SV.cY (fun _=>false) vs=true) (h:Ek C F an vs rs r):Fn C.P f (vs.map (SV.av C.D.toTE N)) ((qv (iO C.D rs r)).av C.D.toTE N):=by
 unfold Ek at h
 cases hb:(Nat.ble vs.length F.n&&rs.all C.D.pu&&Nat.beq C.fl 0) with
 |false=>rw [hb] at h;exact h.elim
 |true=>
 rw [hb,acR] at h
 rw [acO,acO] at hb
 obtain ⟨hb,hz⟩:=hb
 have hz:=ac0 hz
 have hl:vs.length<=F.n:=adC hb.1
 have cW:∀(N':aK),N'.ρ=N.ρ->∀i v,getS (l0 vs 0) i=some v->dD (vs.map (SV.av C.D.toTE N)) i=v.av C.D.toTE N':=fun N' gF i v hv=>by
  obtain ⟨_,h2⟩:=Af hv
  rw [Nat.sub_zero] at h2
  have hs:N.same (fun _=>false) N':=⟨fun a ha=>by simp at ha,gF⟩
  have hm:∀(l:List (SV τ dn)) (j:Nat) w,SV.cY (fun _=>false) l=true->l[j]? =some w->w.fr (fun _=>false)=true:=by
   intro l
   induction l with
   |nil=>intro j w _ hw;simp at hw
   |cons a l ih=>
    intro j w hl hw
    simp only [SV.cY,acO] at hl
    cases j with
    |zero=>simp only [ado,acM] at hw;subst hw;exact hl.1
    |succ j=>exact ih j w hl.2 (by simpa using hw)
  unfold dD
  rw [ac5,h2]
  exact (rX hs v (hm vs i v fO h2)).symm
 have R0:∃s0 N0,S3.Le 0 F.n ⟨dD (vs.map (SV.av C.D.toTE N)),fun _=>none,0⟩ s0/\Rel C.D N0 (fS C.D vs) s0:=by
  unfold fS
  split
  ·refine ⟨_,N,S3.Le.nG,⟨fun N' hN=>⟨fun i v hv=>cW N' hN.2 i v hv,fun i v hv=>by simp [getS] at hv,fun nm B hB=>by simp [getS] at hB,fun nm B hB=>by simp [getS] at hB,fun t A h=>by rcases h with h|h<;>simp [getS] at h⟩,fun a b ha=>absurd ha (Nat.not_lt_zero _),fun a ha=>absurd ha (Nat.not_lt_zero _),fun nm B hB=>by simp [getS] at hB,fun nm B hB=>by simp [getS] at hB,fun t A h=>by rcases h with h|h<;>simp [getS] at h⟩⟩
  ·rename_i t _
   have wA:∀t' A,(⟨[],[],l0 vs 0,[(0,some (.ar t []))],1⟩:SS τ dn).bV 0 (.ar t' A)->∀id,¬cv A id:=fun t' A h id=>by
    rcases h with h|h
    ·simp only [bE,acP,acM,SB.ar.injEq] at h
     obtain ⟨rfl,h⟩:=h
     have h:=eq_of_heq h
     subst h;exact C8
    ·simp [getS] at h
   refine ⟨_,⟨fun _=>0,fun _=>0,N.ρ⟩,S3.KB (C.D.sz t),⟨fun N' hN=>⟨fun i v hv=>cW N' hN.2 i v hv,fun i v hv=>by simp [getS] at hv,fun nm B hB=> ?_,fun nm B hB=>by simp [getS] at hB,fun t' A h id hid=>absurd hid (wA t' A h id)⟩,fun a b ha hb _=> ?_,fun a ha=> ?_,fun nm B hB=> ?_,fun nm B hB=>by simp [getS] at hB,fun t' A h id hid=>absurd hid (wA t' A h id)⟩⟩
   ·have aX:getS [(0,some (SB.ar t ([]:List (Nat×List (dn t)))))] nm=some (some B):=hB
    rw [bE] at aX
    by_cases hn:nm=0
    ·subst hn
     simp only [acP,acM] at aX
     subst aX
     have e:=hN.1 0 (adL 0)
     refine ⟨?_,e.2⟩
     show aH _ _ (N'.ι 0)=_
     rw [e.1];rfl
    ·rw [acL hn] at aX;simp [getS] at aX
   ·have:a<1:=ha
    have:b<1:=hb
    omega
   ·exact adL 0
   ·have aX:getS [(0,some (SB.ar t ([]:List (Nat×List (dn t)))))] nm=some B:=hB
    rw [bE] at aX
    by_cases hn:nm=0
    ·subst hn;exact adL 0
    ·rw [acL hn] at aX;simp [getS] at aX
 obtain ⟨s0,N0,w0,R0⟩:=R0
 refine HG hF (by rw [ac4];exact hl) ?_
 obtain ⟨e,s',N',aw,e1,R1,_,_,_,hk⟩:=l5 hC (n:=F.n) (k0:=0) F.code 0 R0 (by rw [hz];exact Nat.zero_le _) h
 have e1:=ED.kN w0 e1
 have l6:(e= .normal\/e= .ret)/\tJ C.D false (aw.zW (Ej F.res)) aw fun aw=>match kW C.D aw F.res with
   |some (O,l)=>match mL C.D aw l with
    |some l'=>match nC C.D rs l' with
     |some y=>gY O (y=r)
     |none=>False
    |none=>False
   |none=>False:=by
  cases e with
  |normal=>exact ⟨.inl rfl,hk⟩
  |ret=>exact ⟨.inr rfl,hk⟩
  |exit i=>exact hk.elim
 clear hk
 obtain ⟨he,hk⟩:=l6
 obtain ⟨s2,bz,w2,R2,_,_,_,l6⟩:=D8 (n:=F.n) (k0:=0) hC.ok _ R1 hk
 clear hk
 have e1:=ED.post e1 w2
 clear R1 w2
 revert l6 R2
 generalize bz=aw
 intro R1 hk
 refine EW.kg e1 fun x t ht=> ?_
 obtain ⟨rfl,rfl⟩:=ht
 have fin:(match kW C.D aw F.res with
   |some (O,l)=>match mL C.D aw l with
    |some l'=>match nC C.D rs l' with
     |some y=>gY O (y=r)
     |none=>False
    |none=>False
   |none=>False)->∃r',((gT t.σ F.res).bind oG).run t.g=some r'/\cD r' ((qv (iO C.D rs r)).av C.D.toTE N):=fun hk=>by
  split at hk
  case h_2=>exact hk.elim
  rename_i O l hr
  split at hk
  case h_2=>exact hk.elim
  rename_i l' hs
  split at hk
  case h_2=>exact hk.elim
  rename_i y hy
  rw [lT] at hk
  obtain ⟨hO,rfl⟩:=hk
  have q1:=wz hC.ok R1.here hr hO
  have q2:=Jm hC.ok R1.here hs
  have q3:(gT t.σ F.res).run t.g=some (oF (l.map (SV.av C.D.toTE N'))):=by
   unfold gT
   rw [eM q1];rfl
  have q4:(oG (oF (l.map (SV.av C.D.toTE N')))).run t.g=some (oF (l'.map (SV.av C.D.toTE N'))):=by
   have hlen:=Kw hs
   match l,l',q2,hlen with
   |[],[],q2,_=>exact eM q2
   |[v],[v'],q2,_=>
    have:(e8 (v.av C.D.toTE N')).run t.g=some (v'.av C.D.toTE N'):=by
     simp only [mL] at hs
     split at hs
     ·rename_i x l2 h1 h2
      simp only [acM] at h2;subst h2
      simp only [acM,aeB,and_true] at hs;subst hs
      exact Dv hC.ok R1.here h1
     ·simp at hs
    exact WX this
   |v::w::l2,v'::w'::l2',q2,_=>
    show ((fo ((v::w::l2).map (SV.av C.D.toTE N'))).bind fun l=>RM.ret (AV.bn l)).run t.g=_
    rw [eM q2];rfl
  refine ⟨_,(eM q3).trans q4, ?_⟩
  refine cD.trans (VP (Jo (N:=N') hC.ok hy)) (cD.of_eq ?_)
  rw [zp,Ky hC.ok rs y hb.2]
 exact ⟨he,fin hk⟩
end
open Go.RowKit
section
variable {τ:Type} {dn:τ->Type} {D:TD τ dn}
theorem El (ok:bC D) {p:Nat->Bool}:∀(cs:List (Bool×τ)) (x:CD dn cs),SV.cY p (kU D cs x)=true
 |[],_=>rfl
 |(false,t)::r,x=>by simp only [kU,SV.cY,D0 ok,El ok r x.2,Bool.and_self]
 |(true,t)::r,x=>by simp only [kU,SV.cY,SV.fr,ok.nf,El ok r x.2,Bool.and_self]
theorem wB (ok:bC D) {p:Nat->Bool}:∀(ps:List (Pt τ)) (x:PD dn ps),SV.cY p (kV D ps x)=true
 |[],_=>rfl
 | .ty t::r,x=>by simp only [kV,Pt.enc,SV.cY,D0 ok,wB ok r x.2,Bool.and_self]
 | .ptr t::r,x=>by simp only [kV,Pt.enc,SV.cY,SV.fr,ok.nf,wB ok r x.2,Bool.and_self]
 | .jh f cs::r,x=>by simp only [kV,Pt.enc,SV.cY,SV.fr,El ok,wB ok r x.2,Bool.and_self]
inductive IK (τ:Type) (dn:τ->Type) where
 |fn (F:ba) (an:Nat->Option (LA τ dn))
 |del (t:τ) (by_:Nat) (zs:List AV)
structure IL (τ:Type) (dn:τ->Type) where
 f:FuncId
 k:IK τ dn
 cl:Option FuncId:=none
def Ah (g:FuncId):List (SV τ dn)->Bool
 |[]=>false
 | .fn f _::r=>Nat.beq f g||Ah g r
 |_::r=>Ah g r
def wC:List (IL τ dn)->FuncId->List (SV τ dn)->Option (IL τ dn)
 |[],_,_=>none
 |i::r,f,vs=>bif Nat.beq i.f f&&(match i.cl with|none=>true|some g=>Ah g vs) then some i else wC r f vs
def Cons (P:Program) (D:TD τ dn):List (bk τ dn)->Prop
 |[]=>True
 |c::r=>c.Ok P D/\Cons P D r
def wD (P:Program) (D:TD τ dn):List (iP τ dn)->Prop
 |[]=>True
 |c::r=>c.Ok P D/\wD P D r
def IK.Ok (P:Program) (D:TD τ dn) (f:FuncId):IK τ dn->Prop
 | .fn F _=>cFunc P f=some F/\aY P f=true
 | .del t by_ zs=>cFunc P f=some (Cl (D.sz t) by_ zs)/\aY P f=true/\zs.length=D.sz t
def nL (P:Program) (D:TD τ dn):List (IL τ dn)->Prop
 |[]=>True
 |i::r=>i.k.Ok P D i.f/\nL P D r
theorem Em {P:Program}:∀{Δ:List (bk τ dn)},Cons P D Δ->∀c,c∈Δ->c.Ok P D
 |[],_,c,hc=>by simp at hc
 |d::r,h,c,hc=>by
  rcases acX.1 hc with rfl|hc
  ·exact h.1
  ·exact Em h.2 c hc
theorem En {P:Program}:∀{Ω:List (iP τ dn)},wD P D Ω->∀c,c∈Ω->c.Ok P D
 |[],_,c,hc=>by simp at hc
 |d::r,h,c,hc=>by
  rcases acX.1 hc with rfl|hc
  ·exact h.1
  ·exact En h.2 c hc
theorem Eo {P:Program}:∀{il:List (IL τ dn)},nL P D il->∀{f vs i},wC il f vs=some i->i.k.Ok P D f
 |[],_,f,vs,i,h=>by simp [wC] at h
 |j::r,h,f,vs,i,hi=>by
  simp only [wC] at hi
  cases hb:(Nat.beq j.f f&&(match j.cl with|none=>true|some g=>Ah g vs)) with
  |false=>rw [hb,ac7] at hi;exact Eo h.2 hi
  |true=>
   rw [hb,acR,acM] at hi
   subst hi
   rw [acO] at hb
   rw [<-ac0 hb.1];exact h.1
theorem Xj {g':Nat->Option Bk} {k k':Nat} (h:∀m:List (Option Bk),m.length=k->look m=g->Fi P f as_ (look m) m.length r g' k'):Fi P f as_ g k r g' k':=by
 intro E J base vs hG hm bH dd
 have hg:look ((List.range k).map g)=g:=by
  funext id
  unfold look
  rcases adx id k with h1|h1
  ·simp [h1]
  ·rw [adW (by simpa using h1)]
   cases hq:g id with
   |none=>rfl
   |some B=>exact absurd (bH id ((hm.live id).2 ⟨B,hq⟩).1) (by omega)
 have:=h _ (by simp) hg
 rw [hg,ac4,List.length_range] at this
 exact this E J base vs hG hm bH dd
variable [DecidableEq τ]
def Ep (C:cO τ dn) (F:ba) (an:Nat->Option (LA τ dn)) (vs:List (SV τ dn)) (st:SS τ dn) (K:SV τ dn->SS τ dn->Prop):Prop:=
 bif Nat.ble vs.length F.n then gJ C F.n an F.code 0 ⟨[],st.rm,l0 vs 0,st.m,st.nx⟩ fun e aw=>match e with
  | .exit _=>False
  |_=>match kW C.D aw F.res with
   |some (O,l)=>gY O (K (qv l) aw)
   |none=>False
 else False
theorem Xk {C:cO τ dn} (hC:C.Ok) (hF:cFunc C.P f=some F) (hc:aY C.P f=true) {an:Nat->Option (LA τ dn)} {vs:List (SV τ dn)} {st:SS τ dn} {K:SV τ dn->SS τ dn->Prop} (R:Rel C.D N st s) (mA:C.fl=st.nx)
  (ha:∀N',N.agree st.nx N'->vs.map (SV.av C.D.toTE N')=vs.map (SV.av C.D.toTE N)) (h:Ep C F an vs st K):zB C.P C.D f vs st K N s:=by
 unfold Ep at h
 cases hb:Nat.ble vs.length F.n with
 |false=>rw [hb] at h;exact h.elim
 |true=>
 rw [hb,acR] at h
 have R0:Rel C.D N ⟨[],st.rm,l0 vs 0,st.m,st.nx⟩ ⟨dD (vs.map (SV.av C.D.toTE N)),s.g,s.k⟩:=by
  refine ⟨fun N' hN=>⟨fun i v hv=> ?_,fun i v hv=>by simp [getS] at hv,(R.at_ N' hN).bl,(R.at_ N' hN).rb,(R.at_ N' hN).ar⟩,R.inj,R.lt,R.ml,R.rl,R.sp⟩
  obtain ⟨_,h2⟩:=Af hv
  rw [Nat.sub_zero] at h2
  show dD _ i=_
  unfold dD
  rw [<-ha N' hN,ac5,h2];rfl
 obtain ⟨e,s',N',aw,e1,R1,_,r2,r3,hk⟩:=l5 hC (n:=F.n) (k0:=s.k) F.code 0 R0 (Nat.le_of_eq mA) h
 have fin:(match kW C.D aw F.res with
   |some (O,l)=>gY O (K (qv l) aw)
   |none=>False)->∃v,(gT s'.σ F.res).run s'.g=some (v.av C.D.toTE N')/\(∀cN,N'.agree aw.nx cN->v.av C.D.toTE cN=v.av C.D.toTE N')/\K v aw:=fun hk=>by
  split at hk
  case h_2=>exact hk.elim
  rename_i O l hr
  rw [lT] at hk
  obtain ⟨hO,hk⟩:=hk
  have q:∀cN,N'.agree aw.nx cN->(gT s'.σ F.res).run s'.g=some ((qv l).av C.D.toTE cN):=fun cN hN=>by
   rw [zp]
   unfold gT
   rw [eM (wz hC.ok (R1.at_ cN hN) hr hO)];rfl
  refine ⟨_,q N' (N'.fQ _),fun cN hN=> ?_,hk⟩
  have:=(q cN hN).symm.trans (q N' (N'.fQ _))
  simpa using this
 have go:∀{x:Ex},(x= .normal\/x= .ret)->e=x->(∃v,(gT s'.σ F.res).run s'.g=some (v.av C.D.toTE N')/\(∀cN,N'.agree aw.nx cN->v.av C.D.toTE cN=v.av C.D.toTE N')/\K v aw)->zB C.P C.D f vs st K N s:=fun {x} hx he hv=>by
  obtain ⟨v,v1,v2,v3⟩:=hv
  refine ⟨hc,s'.g,s'.k,N',v,aw, ?_,v2, ?_, ?_, ?_,v3⟩
  ·refine Ck hF (by rw [ac4];exact adC hb) (EW.kg e1 fun y t ht=> ?_)
   obtain ⟨rfl,rfl⟩:=ht
   exact ⟨by rw [he];exact hx,t,S3.Le.nG,v1,rfl,rfl⟩
  ·rw [<-mA];exact r3.1
  ·rw [<-mA];exact r3.2
  ·have Er:aw.rm=st.rm:=r2
   have dR:∀a X,(⟨[],st.rm,[],aw.m,aw.nx⟩:SS τ dn).bV a X->aw.bV a X:=fun a X hX=>hX.imp id fun h=>by rw [Er];exact h
   refine ⟨fun cN hN=>⟨fun i v hv=>by simp [getS] at hv,fun i v hv=>by simp [getS] at hv,(R1.at_ cN hN).bl,fun nm B hB=>(R1.at_ cN hN).rb nm B (by rw [Er];exact hB),fun t A h id hid=>(R1.at_ cN hN).ar t A (dR 0 _ h) id hid⟩,R1.inj,R1.lt,R1.ml,fun nm B hB=>R1.rl nm B (by rw [Er];exact hB),fun t A h id hid=>⟨(R1.sp t A (dR 0 _ h) id hid).1,fun nm B hB=>(R1.sp t A (dR 0 _ h) id hid).2 nm B (dR nm B hB)⟩⟩
 cases e with
 |normal=>exact go (.inl rfl) rfl (fin hk)
 |ret=>exact go (.inr rfl) rfl (fin hk)
 |exit i=>exact hk.elim
def Es (D:TD τ dn) (t:τ) (vs:List (SV τ dn)) (st:SS τ dn) (K:SV τ dn->SS τ dn->Prop):Prop:=
 match vs with
 |[.own nm sz,a,b]=>match st.gm nm,a.int,b.int with
  |some (.bl t' xs),some (x,_),some (y,_)=>if h:t'=t then (bif st.rw nm&&Nat.beq sz (D.sz t) then 0<=x/\x<xs.length/\y=x+1/\xs.length<=1000000/\K (.own st.nx sz) ⟨st.rt,st.rm,st.t,(st.nx,some (.bl t ((h▸xs:List (dn t)).eraseIdx x.toNat)))::(nm,none)::st.m,st.nx+1⟩ else False) else False
  |_,_,_=>False
 |_=>False
theorem Xl {t:τ} {zs:List AV} (hk:IK.Ok P D f (.del t by_ zs:IK τ dn)) {vs:List (SV τ dn)} {st:SS τ dn} {K:SV τ dn->SS τ dn->Prop} (R:Rel D N st s) (h:Es D t vs st K):zB P D f vs st K N s:=by
 obtain ⟨hF,hc,hz⟩:=hk
 unfold Es at h
 split at h
 case h_2=>exact h.elim
 rename_i nm sz a b
 split at h
 case h_2=>exact h.elim
 rename_i t' xs x bx y by1 h1 h2 h3
 split at h
 case isFalse=>exact h.elim
 rename_i ht
 subst ht
 cases hb:st.rw nm&&Nat.beq sz (D.sz t') with
 |false=>rw [hb] at h;exact h.elim
 |true=>
 rw [hb,acR] at h
 rw [acO] at hb
 obtain ⟨Et,hs⟩:=hb
 have hs:=ac0 hs
 subst hs
 obtain ⟨q1,q2,q3,q4,hK⟩:=h
 unfold SS.rw at Et
 rw [acO] at Et
 obtain ⟨w1,w2⟩:=Et
 have hm:getS st.m nm=some (some (.bl t' xs)):=by
  unfold SS.gm at h1
  cases hg:getS st.m nm with
  |none=>rw [hg] at w1;simp at w1
  |some B=>rw [hg] at h1;simp only at h1;rw [h1]
 have hb0:=R.here.bl nm _ hm
 have R1:Rel D N st ⟨s.σ,s.g,s.k+1⟩:=⟨R.at_,R.inj,fun a ha=>aew (R.lt a ha),R.ml,R.rl,fun t A h id hid=>⟨aew (R.sp t A h id hid).1,(R.sp t A h id hid).2⟩⟩
 have jj:=R1.go (n:=0) (d:=none) (r:= .mov [] (.vo undef) nm (.bl t' (xs.eraseIdx x.toNat))) rfl ⟨⟨_,hm⟩,by simpa using w2,rfl⟩ (val:= .v undef) (ups:=[(N.ι nm,none),(s.k+1,some ⟨D.sz t',(xs.eraseIdx x.toNat).map (D.ea N.ρ t')⟩)]) (fun _ _=>rfl) (fun N' hN=>by
  have e:=hN.1 nm (aew (R.ml nm _ hm))
  have e2:=hN.2
  simp only [SR.up,aK.eB] at e e2
  have aJ:¬nm=st.nx:=fun e=>by have:=R.ml nm _ hm;omega
  rw [acL aJ,acL aJ] at e
  simp only [SR.ups,SB.av,e.1,e2])
 have hid:N.ι nm<s.k:=R.lt nm (R.ml nm _ hm)
 refine ⟨hc,aH s.g [(N.ι nm,none),(s.k+1,some ⟨D.sz t',(xs.eraseIdx x.toNat).map (D.ea N.ρ t')⟩)],s.k+2,N.eB st.nx (s.k+1) (xs.eraseIdx x.toNat).length, .own st.nx (D.sz t'),_, ?_,fun cN hN=> ?_,N.oX _ _ _,Nat.le_succ _, ?_,hK⟩
 ·refine Xj fun m s7 KL=> ?_
  have hB:look m (N.ι nm)=some ⟨D.sz t',xs.map (D.ea N.ρ t')⟩:=by rw [KL];exact hb0.1
  have:=P7 (P:=P) (f:=f) (m:=m) hF hz hB q1 q2 q4
  rw [q3] at h3
  have bG:N.ln nm=xs.length:=hb0.2
  have e1:[SV.own nm (D.sz t'),a,b].map (SV.av D.toTE N)=[.own (N.ι nm) (D.sz t') 0 xs.length,VI x,VI (x+1)]:=by
   simp only [acY,adq,SV.av,bG,gI h2,gI h3]
  have e2:(SV.own st.nx (D.sz t'):SV τ dn).av D.toTE (N.eB st.nx (s.k+1) (xs.eraseIdx x.toNat).length)= .own (m.length+1) (D.sz t') 0 (xs.eraseIdx x.toNat).length:=by
   simp only [SV.av,aK.eB,acP,s7]
  rw [e1,e2]
  have e3:look (oI m (N.ι nm) ⟨D.sz t',(xs.eraseIdx x.toNat).map (D.ea N.ρ t')⟩)=aH s.g [(N.ι nm,none),(s.k+1,some ⟨D.sz t',(xs.eraseIdx x.toNat).map (D.ea N.ρ t')⟩)]:=by
   rw [<-KL, <-s7]
   rw [<-s7] at hid
   funext id
   unfold look oI
   simp only [aH]
   rcases adx id m.length with hl|hl
   ·rw [adB (by simpa using hl)]
    rw [acL (by omega)]
    by_cases hi:id=N.ι nm
    ·subst hi;simp [hid]
    ·rw [acL hi,aeL (fun e=>hi e.symm)]
   ·rw [adJ (by simpa using hl),ada]
    rcases Nat.lt_trichotomy id (m.length+1) with h5|h5|h5
    ·have:id=m.length:=by omega
     subst this
     rw [acL (by omega),acL (by omega)];simp
    ·subst h5
     rw [acN rfl];simp
    ·rw [acL (by omega),acL (by omega),adW (by simp;omega),adW (by omega)]
  have e4:(oI m (N.ι nm) ⟨D.sz t',(xs.eraseIdx x.toNat).map (D.ea N.ρ t')⟩).length=s.k+2:=by simp [oI,s7]
  rw [e3,e4] at this
  exact this
 ·have:=hN.1 st.nx (adL _)
  simp only [SV.av,this.1,this.2]
 ·exact ⟨fun cN hN=>⟨fun i v hv=>by simp [getS] at hv,fun i v hv=>by simp [getS] at hv,(jj.at_ cN hN).bl,(jj.at_ cN hN).rb,(jj.at_ cN hN).ar⟩,jj.inj,jj.lt,jj.ml,jj.rl,jj.sp⟩
def wE (P:Program) (D:TD τ dn) (Δ:List (bk τ dn)) (Ω:List (iP τ dn)) (il:List (IL τ dn)):Nat->JW τ dn
 |0,_,_,_,_=>False
 |d+1,f,vs,st,K=>match wC il f vs with
  |some ⟨_, .fn F an,_⟩=>Ep ⟨P,D,Δ,Ω,st.nx,wE P D Δ Ω il d,false⟩ F an vs st K
  |some ⟨_, .del t _ _,_⟩=>Es D t vs st K
  |none=>False
theorem Eu {P:Program} (ok:bC D) {Δ:List (bk τ dn)} (se:Cons P D Δ) {Ω:List (iP τ dn)} (sf:wD P D Ω) {il:List (IL τ dn)} (cQ:nL P D il):∀(d fl:Nat),(⟨P,D,Δ,Ω,fl,wE P D Δ Ω il d,false⟩:cO τ dn).Ok
 |0,fl=>⟨ok,Em se,En sf,fun _ _ h=>h.elim⟩
 |d+1,fl=>⟨ok,Em se,En sf,fun {f vs st K N s} R ha h=>by
  simp only [wE] at h
  split at h
  ·rename_i F an hi
   obtain ⟨h1,h2⟩:=Eo cQ hi
   exact Xk (Eu ok se sf cQ d st.nx) h1 h2 R rfl ha h
  ·rename_i hi
   exact Xl (Eo cQ hi) R h
  ·exact h.elim⟩
theorem bO (ok:bC D) {Δ:List (bk τ dn)} (se:Cons P D Δ) {Ω:List (iP τ dn)} (sf:wD P D Ω) (c:bk τ dn) (hF:cFunc P c.f=some F) (hc:aY P c.f=true) (il:PD dn c.ps->List (IL τ dn)) (cQ:∀x,nL P D (il x)) (d:Nat) (an:PD dn c.ps->Nat->Option (LA τ dn)) (h:∀x,c.pre x->Ek ⟨P,D,Δ,Ω,0,wE P D Δ Ω (il x) d,false⟩ F (an x) (kV D c.ps x) c.rs (c.res x)):c.Ok P D:=
 ⟨hc,fun x N hp=>Xi (Eu ok se sf (cQ x) d 0) hF N (wB ok c.ps x) (h x hp)⟩
end
open Go.RowKit
structure LR (α:Type) where
 sz:Nat
 ea:(Nat->AV)->α->List AV
def LR.i64:LR Int:=⟨1,fun _ x=>[.v (.int .i64 x)]⟩
def LR.u8:LR UInt8:=⟨1,fun _ x=>[.v (.int .u8 x.toNat)]⟩
def LR.u64:LR bU:=⟨1,fun _ x=>[.v (.int .u64 (x.n:Int))]⟩
def LR.jL:LR Bool:=⟨1,fun _ x=>[.v (.bool x)]⟩
def LR.str:LR ByteArray:=⟨1,fun _ x=>[.v (.string x)]⟩
def LR.prod (A:LR α) (B:LR β):LR (α×β):=⟨A.sz+B.sz,fun ρ x=>A.ea ρ x.1++B.ea ρ x.2⟩
def LR.via (f:α->β) (B:LR β):LR α:=⟨B.sz,fun ρ x=>B.ea ρ (f x)⟩
def LR.row {α:Type} (A:LR α):LR (Row α):=⟨1,fun ρ r=>[match r.kd with
 | .nil=> .emp
 | .own=> .own r.id A.sz 0 r.n
 | .aV=> .aV A.sz (r.xs.map (A.ea ρ))]⟩
structure Ptr (α:Type) where
 get:α
def LR.ptr (A:LR α):LR (Ptr α):=⟨1,fun ρ x=>[.pim (A.ea ρ x.get) 0]⟩
def LR.list (A:LR α):LR (List α):=⟨1,fun ρ xs=>[.aV A.sz (xs.map (A.ea ρ))]⟩
section
variable {τ:Type} {dn:τ->Type}
theorem eF.app {a c d:List AV} (h:eF a b) (k:eF c d):eF (a++c) (b++d):=by
 induction h with
 |nil=>exact k
 |cons h t ih=>exact .cons h ih
theorem KM {p:Nat->Bool}:∀{a b:List (SV τ dn)},SV.cY p (a++b)=(SV.cY p a&&SV.cY p b)
 |[],b=>by simp [SV.cY]
 |v::a,b=>by simp only [ad7,SV.cY,KM,Bool.and_assoc]
structure LY (E:TE τ dn) {α:Type} (R:LR α) where
 es:α->List (SV τ dn)
 ds:List (SV τ dn)->Option α
 df:α
 dy:∀(N:aK) (x:α),(es x).map (SV.av E N)=R.ea N.ρ x
 iw:∀(N:aK) (cs:List (SV τ dn)) (x:α),ds cs=some x->eF (cs.map (SV.av E N)) (R.ea N.ρ x)
 em:Bool
 pu:Bool
 fJ:∀(N:aK) (cs:List (SV τ dn)) (x:α),ds cs=some x->(em=true\/cs.all SV.ne=true)->cs.map (SV.av E N)=R.ea N.ρ x
 len:∀x,(es x).length=R.sz
 one:∀x,(es x).all SV.one=true
 nf:∀(p:Nat->Bool) x,SV.cY p (es x)=true
 gG:∀(ρ ix:Nat->AV) (x:α),R.ea ρ x=R.ea ix x
 pu1:∀(N:aK) (x:α),pu=true->(R.ea N.ρ x).all AV.pu1=true
 bt:Option ((α->UInt8)×(UInt8->α)):=none
 KN:∀(N:aK) (p:(α->UInt8)×(UInt8->α)),bt=some p->(∀x,R.ea N.ρ x=[.v (.int .u8 (p.1 x).toNat)])/\∀b,p.1 (p.2 b)=b:=by intro N p h;simp at h
variable {E:TE τ dn}
def Ev:List (SV τ dn)->Option Int
 |[.vi x]=>some x
 |[.vn x]=>some x
 |_=>none
def Ew:List (SV τ dn)->Option UInt8
 |[.vy x]=>some x
 |_=>none
def Ey:List (SV τ dn)->Option bU
 |[.vu x]=>some x
 |_=>none
def Ez:List (SV τ dn)->Option Bool
 |[.vt x]=>some x
 |[.vb c]=>some c.den
 |_=>none
def EA:List (SV τ dn)->Option ByteArray
 |[.vz x]=>some x
 |_=>none
theorem KO {cs:List (SV τ dn)} {x:Int} (h:Ev cs=some x):cs.map (SV.av E N)=[.v (.int .i64 x)]:=by
 unfold Ev at h;split at h<;>simp only [acM,reduceCtorEq] at h<;>subst h<;>rfl
theorem KP {cs:List (SV τ dn)} {x:UInt8} (h:Ew cs=some x):cs.map (SV.av E N)=[.v (.int .u8 x.toNat)]:=by
 unfold Ew at h;split at h<;>simp only [acM,reduceCtorEq] at h;subst h;rfl
theorem KQ {cs:List (SV τ dn)} {x:bU} (h:Ey cs=some x):cs.map (SV.av E N)=[.v (.int .u64 (x.n:Int))]:=by
 unfold Ey at h;split at h<;>simp only [acM,reduceCtorEq] at h;subst h;rfl
theorem KR {cs:List (SV τ dn)} {x:Bool} (h:Ez cs=some x):cs.map (SV.av E N)=[.v (.bool x)]:=by
 unfold Ez at h;split at h<;>simp only [acM,reduceCtorEq] at h<;>subst h<;>rfl
theorem KS {cs:List (SV τ dn)} {x:ByteArray} (h:EA cs=some x):cs.map (SV.av E N)=[.v (.string x)]:=by
 unfold EA at h;split at h<;>simp only [acM,reduceCtorEq] at h;subst h;rfl
theorem eF.of_eq {a:List AV} (h:a=b):eF a b:=by
 subst h
 induction a with
 |nil=>exact .nil
 |cons x r ih=>exact .cons cD.refl ih
def LY.i64:LY E LR.i64 where
 es x:=[.vi x]
 ds:=Ev
 df:=0
 dy _ _:=rfl
 iw _ _ _ h:= .of_eq (KO h)
 em:=true
 pu:=true
 fJ _ _ _ h _:=KO h
 len _:=rfl
 one _:=rfl
 nf _ _:=rfl
 gG _ _ _:=rfl
 pu1 _ _ _:=rfl
def LY.u8:LY E LR.u8 where
 es x:=[.vy x]
 ds:=Ew
 df:=0
 dy _ _:=rfl
 iw _ _ _ h:= .of_eq (KP h)
 em:=true
 pu:=true
 fJ _ _ _ h _:=KP h
 len _:=rfl
 one _:=rfl
 nf _ _:=rfl
 gG _ _ _:=rfl
 pu1 _ _ _:=rfl
 bt:=some (id,id)
 KN N p h:=by simp only [acM] at h;subst h;exact ⟨fun _=>rfl,fun _=>rfl⟩
def LY.u64:LY E LR.u64 where
 es x:=[.vu x]
 ds:=Ey
 df:=⟨0,by decide⟩
 dy _ _:=rfl
 iw _ _ _ h:= .of_eq (KQ h)
 em:=true
 pu:=true
 fJ _ _ _ h _:=KQ h
 len _:=rfl
 one _:=rfl
 nf _ _:=rfl
 gG _ _ _:=rfl
 pu1 _ _ _:=rfl
def LY.jL:LY E LR.jL where
 es x:=[.vb (.b x)]
 ds:=Ez
 df:=false
 dy _ _:=rfl
 iw _ _ _ h:= .of_eq (KR h)
 em:=true
 pu:=true
 fJ _ _ _ h _:=KR h
 len _:=rfl
 one _:=rfl
 nf _ _:=rfl
 gG _ _ _:=rfl
 pu1 _ _ _:=rfl
def LY.str:LY E LR.str where
 es x:=[.vz x]
 ds:=EA
 df:=ByteArray.empty
 dy _ _:=rfl
 iw _ _ _ h:= .of_eq (KS h)
 em:=true
 pu:=true
 fJ _ _ _ h _:=KS h
 len _:=rfl
 one _:=rfl
 nf _ _:=rfl
 gG _ _ _:=rfl
 pu1 _ _ _:=rfl
def EB (n:Nat) (a:List (SV τ dn)->Option α) (b:List (SV τ dn)->Option β) (cs:List (SV τ dn)):Option (α×β):=
 match a (cs.take n),b (cs.drop n) with
 |some x,some y=>some (x,y)
 |_,_=>none
theorem KT {β:Type} {a:List (SV τ dn)->Option α} {b:List (SV τ dn)->Option β} {cs:List (SV τ dn)} {z:α×β} (h:EB n a b cs=some z):a (cs.take n)=some z.1/\b (cs.drop n)=some z.2:=by
 unfold EB at h
 split at h
 ·rename_i x y h1 h2
  simp only [acM] at h;subst h;exact ⟨h1,h2⟩
 ·simp at h
def LY.prod {α β:Type} {A:LR α} {B:LR β} (a:LY E A) (b:LY E B):LY E (A.prod B) where
 es x:=a.es x.1++b.es x.2
 ds:=EB A.sz a.ds b.ds
 df:=(a.df,b.df)
 dy N x:=by rw [adv,a.dy,b.dy];rfl
 iw N cs x h:=by
  obtain ⟨h1,h2⟩:=KT h
  have:=eF.app (a.iw N _ _ h1) (b.iw N _ _ h2)
  rw [<-adv,List.take_append_drop] at this
  exact this
 em:=a.em&&b.em
 pu:=a.pu&&b.pu
 fJ N cs x h hn:=by
  obtain ⟨h1,h2⟩:=KT h
  have xR:a.em=true\/(cs.take A.sz).all SV.ne=true:=hn.elim (fun h=> .inl (by rw [acO] at h;exact h.1)) fun hn=> .inr (acQ.2 fun v hv=>acQ.1 hn v (List.mem_of_mem_take hv))
  have sG:b.em=true\/(cs.drop A.sz).all SV.ne=true:=hn.elim (fun h=> .inl (by rw [acO] at h;exact h.2)) fun hn=> .inr (acQ.2 fun v hv=>acQ.1 hn v (List.mem_of_mem_drop hv))
  show _=A.ea N.ρ x.1++B.ea N.ρ x.2
  rw [<-a.fJ N _ _ h1 xR, <-b.fJ N _ _ h2 sG, <-adv,List.take_append_drop]
 len x:=by rw [adV,a.len,b.len];rfl
 one x:=by rw [List.all_append,a.one,b.one];rfl
 nf p x:=by rw [KM,a.nf,b.nf];rfl
 gG ρ ix x:=by show A.ea ρ x.1++B.ea ρ x.2=_;rw [a.gG ρ ix,b.gG ρ ix];rfl
 pu1 N x h:=by
  rw [acO] at h
  show (A.ea N.ρ x.1++B.ea N.ρ x.2).all _=true;rw [List.all_append,a.pu1 _ _ h.1,b.pu1 _ _ h.2];rfl
def LY.via {α β:Type} {f:α->β} {B:LR β} (g:β->α) (KU:∀y,f (g y)=y) (b:LY E B):LY E (LR.via f B) where
 es x:=b.es (f x)
 ds cs:=match b.ds cs with
  |some y=>some (g y)
  |none=>none
 df:=g b.df
 dy N x:=b.dy N (f x)
 iw N cs x h:=by
  split at h
  ·rename_i y hy
   simp only [acM] at h;subst h
   show eF _ (B.ea N.ρ (f (g y)))
   rw [KU];exact b.iw N _ _ hy
  ·simp at h
 em:=b.em
 pu:=b.pu
 fJ N cs x h hn:=by
  split at h
  ·rename_i y hy
   simp only [acM] at h;subst h
   show _=(B.ea N.ρ (f (g y)))
   rw [KU];exact b.fJ N _ _ hy hn
  ·simp at h
 len x:=b.len (f x)
 one x:=b.one (f x)
 nf p x:=b.nf p (f x)
 gG ρ ix x:=b.gG ρ ix (f x)
 pu1 N x h:=b.pu1 N (f x) h
def tQ {α:Type} (em:Bool) (ds:List (SV τ dn)->Option α):List (List (SV τ dn))->Option (List α)
 |[]=>some []
 |cs::r=>if (em||cs.all SV.ne)=true then (match ds cs,tQ em ds r with
  |some x,some l=>some (x::l)
  |_,_=>none) else none
theorem EC {t:τ} {R:LR (dn t)} (A:LY E R) (N:aK):∀{els:List (List (SV τ dn))} {xs:List (dn t)},tQ A.em A.ds els=some xs->SV.cI E N els=xs.map (R.ea N.ρ)
 |[],xs,h=>by simp only [tQ,acM] at h;subst h;rfl
 |cs::r,xs,h=>by
  simp only [tQ] at h
  split at h
  ·rename_i hn
   split at h
   ·rename_i x l h1 h2
    simp only [acM] at h;subst h
    simp only [SV.cI,acY,SV.bR,A.fJ N _ _ h1 (by rw [adg] at hn;exact hn),EC A N h2]
   ·simp at h
  ·simp at h
section
variable [DecidableEq τ]
def EE (t:τ) (sz:Nat) (em:Bool) (ds:List (SV τ dn)->Option (dn t)):List (SV τ dn)->Option (List (dn t))
 |[.vl t' xs]=>if h:t'=t then some (h▸xs) else none
 |[.vc k els]=>if k=sz then tQ em ds els else none
 |[.emp]=>some []
 |_=>none
theorem KV {t:τ} {R:LR (dn t)} (A:LY E R) (hs:E.sz t=R.sz) (he:∀ρ,E.ea ρ t=R.ea ρ) (N:aK) {cs:List (SV τ dn)} {xs:List (dn t)} (h:EE t R.sz A.em A.ds cs=some xs):eF (cs.map (SV.av E N)) ((LR.list R).ea N.ρ xs)/\(cs.all SV.ne=true->cs.map (SV.av E N)=(LR.list R).ea N.ρ xs):=by
 unfold EE at h
 split at h
 ·rename_i t' ys
  split at h
  ·rename_i ht
   subst ht
   simp only [acM] at h;subst h
   have:[SV.vl t' ys].map (SV.av E N)=(LR.list R).ea N.ρ ys:=by
    simp only [acY,adq,SV.av,hs,he];rfl
   exact ⟨.of_eq this,fun _=>this⟩
  ·simp at h
 ·rename_i k els
  split at h
  ·rename_i hk
   subst hk
   have:[SV.vc R.sz els].map (SV.av E N)=(LR.list R).ea N.ρ xs:=by
    simp only [acY,adq,SV.av,EC A N h];rfl
   exact ⟨.of_eq this,fun _=>this⟩
  ·simp at h
 ·simp only [acM] at h;subst h
  exact ⟨.cons cD.emp .nil,fun hn=>by simp [SV.ne] at hn⟩
 ·simp at h
def LY.list {t:τ} {R:LR (dn t)} (A:LY E R) (hs:E.sz t=R.sz) (he:∀ρ,E.ea ρ t=R.ea ρ):LY E (LR.list R) where
 es x:=[.vl t x]
 ds:=EE t R.sz A.em A.ds
 df:=[]
 dy N x:=by simp only [acY,adq,SV.av,hs,he];rfl
 iw N cs x h:=(KV A hs he N h).1
 em:=false
 pu:=true
 fJ N cs x h hn:=(KV A hs he N h).2 (hn.resolve_left (by simp))
 len _:=rfl
 one _:=rfl
 nf _ _:=rfl
 gG ρ ix x:=by show [AV.aV R.sz (x.map (R.ea ρ))]=[AV.aV R.sz (x.map (R.ea ix))];rw [funext fun y=>A.gG ρ ix y]
 pu1 _ _ _:=rfl
def EF (t:τ) (sz:Nat) (em:Bool) (ds:List (SV τ dn)->Option (dn t)):List (SV τ dn)->Option (Row (dn t))
 |[.rw t' r]=>if h:t'=t then some (h▸r) else none
 |[.vl t' xs]=>if h:t'=t then some (Row.fix _ (h▸xs)) else none
 |[.vc k els]=>if k=sz then (tQ em ds els).map fun xs=>Row.fix _ xs else none
 |[.emp]=>some (Row.no _)
 |_=>none
theorem KW {t:τ} {R:LR (dn t)} (hs:E.sz t=R.sz) (he:∀ρ,E.ea ρ t=R.ea ρ) (N:aK) (r:Row (dn t)):[(SV.rw t r:SV τ dn)].map (SV.av E N)=(LR.row R).ea N.ρ r:=by
 simp only [acY,adq,SV.av,LR.row]
 cases r.kd<;>simp only [hs,he]
theorem KX {t:τ} {R:LR (dn t)} (A:LY E R) (hs:E.sz t=R.sz) (he:∀ρ,E.ea ρ t=R.ea ρ) (N:aK) {cs:List (SV τ dn)} {r:Row (dn t)} (h:EF t R.sz A.em A.ds cs=some r):cs.map (SV.av E N)=(LR.row R).ea N.ρ r:=by
 unfold EF at h
 split at h
 ·rename_i t' q
  split at h
  ·rename_i ht
   subst ht
   simp only [acM] at h;subst h
   exact KW hs he N _
  ·simp at h
 ·rename_i t' ys
  split at h
  ·rename_i ht
   subst ht
   simp only [acM] at h;subst h
   simp only [acY,adq,SV.av,hs,he];rfl
  ·simp at h
 ·rename_i k els
  split at h
  ·rename_i hk
   subst hk
   simp only [acS] at h
   obtain ⟨xs,hx,rfl⟩:=h
   simp only [acY,adq,SV.av,EC A N hx];rfl
  ·simp at h
 ·simp only [acM] at h;subst h;rfl
 ·simp at h
def EG (ds:List (SV τ dn)->Option α):List (SV τ dn)->Option (Ptr α)
 |[.pim cs 0]=>bif cs.all SV.ne then (ds cs).map Ptr.mk else none
 |_=>none
theorem KY {α:Type} {R:LR α} (A:LY E R) (N:aK) {cs:List (SV τ dn)} {x:Ptr α} (h:EG A.ds cs=some x):cs.map (SV.av E N)=(LR.ptr R).ea N.ρ x:=by
 unfold EG at h
 split at h
 ·rename_i cs'
  cases hb:cs'.all SV.ne with
  |false=>rw [hb] at h;simp at h
  |true=>
   rw [hb,acR] at h
   simp only [acS] at h
   obtain ⟨y,hy,rfl⟩:=h
   have:=A.fJ N cs' y hy (.inr hb)
   simp only [acY,adq,SV.av,SV.bR,this,LR.ptr]
 ·simp at h
def LY.ptr {α:Type} {R:LR α} (A:LY E R):LY E (LR.ptr R) where
 es x:=[.pim (A.es x.get) 0]
 ds:=EG A.ds
 df:=⟨A.df⟩
 dy N x:=by simp only [acY,adq,SV.av,SV.bR,A.dy,LR.ptr]
 iw N cs x h:=eF.of_eq (KY A N h)
 em:=false
 pu:=true
 fJ N cs x h _:=KY A N h
 len _:=rfl
 one _:=rfl
 nf p x:=by simp only [SV.cY,SV.fr,A.nf,Bool.and_self]
 gG ρ ix x:=by show [AV.pim (R.ea ρ x.get) 0]=[AV.pim (R.ea ix x.get) 0];rw [A.gG ρ ix]
 pu1 _ _ _:=rfl
def LY.row {t:τ} {R:LR (dn t)} (A:LY E R) (hs:E.sz t=R.sz) (he:∀ρ,E.ea ρ t=R.ea ρ):LY E (LR.row R) where
 es r:=[.rw t r]
 ds:=EF t R.sz A.em A.ds
 df:=Row.no _
 dy N r:=KW hs he N r
 iw N cs x h:= .of_eq (KX A hs he N h)
 em:=true
 pu:=false
 fJ N cs x h _:=KX A hs he N h
 len _:=rfl
 one _:=rfl
 nf _ _:=rfl
 gG ρ ix x:=by
  simp only [LR.row]
  cases x.kd<;>first|rfl|(rw [funext fun y=>A.gG ρ ix y])
 pu1 _ _ h:=by simp at h
end
def gK (E:TE τ dn) (ta:τ) (A:List (Nat×List (dn ta))) {α β:Type} (R:LR α) (R':LR β) (f:α->β) (O:α->Prop):Prop:=
 R'.sz=R.sz/\∀(N:aK) (φ:AV->AV),(∀a,a.pu1=true->φ a=a)->(∀id n,cv A id->(bj A id).length=n->φ (.own id (E.sz ta) 0 n)= .aV (E.sz ta) ((bj A id).map (E.ea N.ρ ta)))->∀x,O x->(R.ea N.ρ x).map φ=R'.ea N.ρ (f x)
theorem gK.row {ta:τ} {A:List (Nat×List (dn ta))} {R:LR (dn ta)} (hs:E.sz ta=R.sz) (he:∀ρ,E.ea ρ ta=R.ea ρ):gK E ta A (LR.row R) (LR.list R) (fun r=>r.get A) (fun r=>r.ok A/\r.kd≠ .nil):=by
 refine ⟨rfl,fun N φ h1 h2 x hx=> ?_⟩
 simp only [LR.row,LR.list,acY,adq]
 obtain ⟨hx,hn⟩:=hx
 unfold Row.ok at hx
 cases hk:x.kd with
 |nil=>exact absurd hk hn
 |own=>
  rw [hk] at hx
  have:=h2 x.id x.n hx.1 hx.2
  rw [hs,he] at this
  simp only [this,Row.get,hk]
 |aV=>simp only [h1 (.aV R.sz (x.xs.map (R.ea N.ρ))) rfl,Row.get,hk]
theorem gK.id {ta:τ} {A:List (Nat×List (dn ta))} {α:Type} {R:LR α} (y:LY E R) (hp:y.pu=true):gK E ta A R R (fun x=>x) (fun _=>True):=by
 refine ⟨rfl,fun N φ h1 h2 x hx=> ?_⟩
 have hl:∀l:List AV,l.all AV.pu1=true->l.map φ=l:=by
  intro l
  induction l with
  |nil=>intro _;rfl
  |cons a l ih=>
   intro h
   rw [List.all_cons,acO] at h
   rw [acY,h1 a h.1,ih h.2]
 exact hl _ (y.pu1 N x hp)
theorem gK.prod {ta:τ} {A:List (Nat×List (dn ta))} {α β γ δ:Type} {R:LR α} {R':LR β} {S:LR γ} {S':LR δ} {f:α->β} {O:α->Prop} {g:γ->δ} {P:γ->Prop} (h:gK E ta A R R' f O) (k:gK E ta A S S' g P):gK E ta A (R.prod S) (R'.prod S') (fun x=>(f x.1,g x.2)) (fun x=>O x.1/\P x.2):=
 ⟨by show R'.sz+S'.sz=R.sz+S.sz;rw [h.1,k.1],fun N φ h1 h2 x hx=>by
  show (R.ea N.ρ x.1++S.ea N.ρ x.2).map φ=R'.ea N.ρ (f x.1)++S'.ea N.ρ (g x.2)
  rw [adv,h.2 N φ h1 h2 _ hx.1,k.2 N φ h1 h2 _ hx.2]⟩
theorem gK.via {ta:τ} {A:List (Nat×List (dn ta))} {α β γ δ:Type} {R:LR β} {R':LR δ} {u:α->β} {w:γ->δ} {f:β->δ} {O:β->Prop} {F:α->γ} (h:gK E ta A R R' f O) (hw:∀x,w (F x)=f (u x)):gK E ta A (LR.via u R) (LR.via w R') F (fun x=>O (u x)):=
 ⟨h.1,fun N φ h1 h2 x hx=>by
  show (R.ea N.ρ (u x)).map φ=R'.ea N.ρ (w (F x))
  rw [hw];exact h.2 N φ h1 h2 _ hx⟩
abbrev FZ (τ:Type) (dn:τ->Type):Type:=(t ta:τ)->(A:List (Nat×List (dn ta)))->Option ((t':τ)×(dn t->dn t')×(dn t->Prop))
def TE.px (lr:(t:τ)->LR (dn t)):TE τ dn:=⟨fun t=>(lr t).sz,fun ρ t=>(lr t).ea ρ⟩
def TD.px {lr:(t:τ)->LR (dn t)} (ly:(t:τ)->LY (TE.px lr) (lr t)) (ag:τ->Bool) (hint:Nat->Nat->Option τ) (neg:Bool) (ar:Option τ:=none) (hr:τ->Bool:=fun _=>false) (fz:FZ τ dn:=fun _ _ _=>none) (th:(t t':τ)->Option (dn t->dn t'):=fun _ _=>none):TD τ dn where
 toTE:=TE.px lr
 df t:=(ly t).df
 es t:=(ly t).es
 ds t:=(ly t).ds
 ag:=ag
 pu t:=(ly t).pu
 hint:=hint
 neg:=neg
 em t:=(ly t).em
 ar:=ar
 hr:=hr
 fz:=fz
 bt t:=(ly t).bt
 th:=th
theorem TD.KZ {lr:(t:τ)->LR (dn t)} {ly:(t:τ)->LY (TE.px lr) (lr t)} {ag:τ->Bool} {hint:Nat->Nat->Option τ} {neg:Bool} {ar:Option τ} {hr:τ->Bool} {fz:FZ τ dn} {th:(t t':τ)->Option (dn t->dn t')} (r9:∀(t ta:τ) (A:List (Nat×List (dn ta))) (t':τ) (f:dn t->dn t') (O:dn t->Prop),fz t ta A=some ⟨t',f,O⟩->gK (TE.px lr) ta A (lr t) (lr t') f O:=by intro t ta A t' f O h;simp at h) (Xm:∀(ρ:Nat->AV) (t t':τ) (f:dn t->dn t'),th t t'=some f->(lr t').sz=(lr t).sz/\∀x,(lr t').ea ρ (f x)=(lr t).ea ρ x:=by intro ρ t t' f h;simp at h):bC (TD.px ly ag hint neg ar hr fz th) where
 dy N t x:=(ly t).dy N x
 iw N t cs x h:=(ly t).iw N cs x h
 fJ N t cs x h hn:=(ly t).fJ N cs x h (by unfold TD.rI at hn;rw [adg] at hn;exact hn)
 len t x:=(ly t).len x
 one t x:=(ly t).one x
 nf p t x:=(ly t).nf p x
 gG ρ ix t x _:=(ly t).gG ρ ix x
 pu1 N t x h:=(ly t).pu1 N x h
 bt N t p h:=(ly t).KN N p h
 th:=Xm
 fz N φ t ta A t' f O h h1 h2:=⟨(r9 t ta A t' f O h).1,fun x hx=>(r9 t ta A t' f O h).2 N φ h1 h2 x hx⟩
end
open Go.RowKit
structure LG {α:Type} [aP α] (R:LR α) where
 nM:α->Prop
 sz:R.sz=aP.size α
 av:∀{w:World} {cs:List Value} {x:α},aP.rep w w.heap.size cs x->R2 (aj (E0 w fun b=>b<w.heap.size)) cs (R.ea (fun _=> .dead) x)
 one:∀{w:World} {cs:List Value} {x:α},aP.rep w w.heap.size cs x->∀v,v∈cs->v.oneCell'=true
 pu:∀(x:α) c,c∈R.ea (fun _=> .dead) x->Pu c
 bg:∀{w:World} {cs:List Value} {x:α},aP.rep w w.heap.size cs x->nM x
theorem R2.app {R:Value->AV->Prop} {zD:List Value} {cL:List AV} (h:R2 R vs as_) (k:R2 R zD cL):R2 R (vs++zD) (as_++cL):=by
 induction h with
 |nil=>exact k
 |cons h t ih=>exact .cons h ih
def LG.i64:LG LR.i64 where
 nM:=aE
 sz:=rfl
 av h:=by obtain ⟨rfl,_⟩:=h;exact .cons (.v rfl) .nil
 one h v hv:=by obtain ⟨rfl,_⟩:=h;simp at hv;subst hv;rfl
 pu x c hc:=by simp [LR.i64] at hc;subst hc;exact .v
 bg h:=h.2
def LG.jL:LG LR.jL where
 nM _:=True
 sz:=rfl
 av h:=by cases h;exact .cons (.v rfl) .nil
 one h v hv:=by cases h;simp at hv;subst hv;rfl
 pu x c hc:=by simp [LR.jL] at hc;subst hc;exact .v
 bg _:=trivial
def LG.str:LG LR.str where
 nM x:=x.size<=9223372036854775807
 sz:=rfl
 av h:=by obtain ⟨rfl,_⟩:=h;exact .cons (.v rfl) .nil
 one h v hv:=by obtain ⟨rfl,_⟩:=h;simp at hv;subst hv;rfl
 pu x c hc:=by simp [LR.str] at hc;subst hc;exact .v
 bg h:=h.2
def LG.prod {α β:Type} [aP α] [aP β] {A:LR α} {B:LR β} (a:LG A) (b:LG B):LG (A.prod B) where
 nM x:=a.nM x.1/\b.nM x.2
 sz:=by show A.sz+B.sz=aP.size α+aP.size β;rw [a.sz,b.sz]
 av h:=by obtain ⟨c0,c1,rfl,h0,h1⟩:=h;exact (a.av h0).app (b.av h1)
 one h v hv:=by
  obtain ⟨c0,c1,rfl,h0,h1⟩:=h
  rcases adp.1 hv with hv|hv
  ·exact a.one h0 v hv
  ·exact b.one h1 v hv
 pu x c hc:=by
  rcases adp.1 hc with hc|hc
  ·exact a.pu _ c hc
  ·exact b.pu _ c hc
 bg h:=by obtain ⟨c0,c1,rfl,h0,h1⟩:=h;exact ⟨a.bg h0,b.bg h1⟩
def LG.list {α:Type} [aP α] {A:LR α} (a:LG A):LG (LR.list A) where
 nM xs:=xs.length<=9223372036854775807/\∀x,x∈xs->a.nM x
 sz:=rfl
 av {w cs xs} h:=by
  obtain ⟨A0,n,c,rfl,hn,hle,hc,h⟩:=h
  refine .cons ?_ .nil
  rcases h with rfl|⟨b,off,rfl,hb,hs⟩
  ·simp only [List.length_nil] at hn;subst hn;exact .fg hc
  ·have get:∀(i:Nat) (cs:List AV) (j:Nat) x,(xs.map (A.ea fun _=> .dead))[i]? =some cs->cs[j]? =some x->∃u,w.cell? ⟨b,off+i*A.sz+j,none⟩=some u/\u.oneCell'=true/\Pu x/\aj (E0 w fun b=>b<w.heap.size) u x:=by
    intro i cs j x hi hj
    rw [ac5,acS] at hi
    obtain ⟨y,hy,rfl⟩:=hi
    obtain ⟨vs,h1,h2⟩:=hs i y hy
    have r:=a.av h1
    have bI:j<vs.length:=by rw [r.len];exact (acU.1 hj).1
    have hv:=acT bI
    refine ⟨vs[j],by rw [a.sz];exact h2 j _ hv,a.one h1 _ (aeJ bI),a.pu y x (adm hj),r.get j _ x hv hj⟩
   refine .gh (fun i j=>(w.cell? ⟨b,off+i*A.sz+j,none⟩).getD undef) (by simpa using hn) hle hc hb (fun i cs hi=> ?_) (fun i cs j x hi hj=> ?_) (fun i cs j x hi hj=> ?_) (fun i cs j x hi hj=> ?_)
   ·rw [ac5,acS] at hi
    obtain ⟨y,hy,rfl⟩:=hi
    obtain ⟨vs,h1,_⟩:=hs i y hy
    rw [<-(a.av h1).len,aP.len h1,a.sz]
   all_goals
    obtain ⟨u,k1,k2,k3,k4⟩:=get i cs j x hi hj
   ·show w.cell? _=_;rw [k1];rfl
   ·simp only [k1,adI];exact ⟨k2,k3⟩
   ·simp only [k1,adI];exact k4
 one h v hv:=by obtain ⟨A0,n,c,rfl,_⟩:=h;simp at hv;subst hv;rfl
 pu xs c hc:=by simp [LR.list] at hc;subst hc;exact .aV
 bg {w cs xs} h:=by
  obtain ⟨A0,n,c,rfl,hn,hle,hc,h⟩:=h
  refine ⟨by omega,fun x hx=> ?_⟩
  rcases h with rfl|⟨b,off,rfl,hb,hs⟩
  ·simp at hx
  ·obtain ⟨i,hi⟩:=List.mem_iff_getElem?.1 hx
   obtain ⟨vs,h1,_⟩:=hs i x hi
   exact a.bg h1
def LG.via {α β:Type} [aP β] {f:α->β} {B:LR β} (b:LG B): @LG α (aP.via f) (LR.via f B):=
 @LG.mk α (aP.via f) (LR.via f B) (fun x=>b.nM (f x)) b.sz (fun h=>b.av h) (fun h=>b.one h) (fun x=>b.pu (f x)) fun h=>b.bg h
def N0:aK:=⟨fun _=>0,fun _=>0,fun _=> .dead⟩
section
variable {τ:Type} {dn:τ->Type} {D:TD τ dn}
theorem Xn (ok:bC D) {t:τ} {x:dn t} {cs:List Value} (ha:D.ag t=true) (h:R2 (aj E) cs (D.ea (fun _=> .dead) t x)):aj E (.agg cs.toArray) ((D.en t x).av D.toTE N0):=by
 rw [v7 ha,SV.av,SV.bR,ok.dy];exact h.agg
theorem K1 (ok:bC D) {t:τ} {x:dn t} {v:Value} (ha:D.ag t=false) (h:R2 (aj E) [v] (D.ea (fun _=> .dead) t x)):aj E v ((D.en t x).av D.toTE N0):=by
 have one:∀l:List AV,[v].length=l.length->∃b,l=[b]:=fun l hl=>by
  match l with
  |[b]=>exact ⟨b,rfl⟩
  |[]=>simp at hl
  |_::_::_=>simp at hl
 obtain ⟨b,hb⟩:=one _ h.len
 rw [Dw (N:=N0) ok ha hb]
 have h2:R2 (aj E) [v] [b]:=by rw [<-hb];exact h
 cases h2 with|cons h _=>exact h
end
open Go.RowKit
@[ext] structure Piece where
 version:Int
 data:ByteArray
instance:aP Piece:=aP.via (fun x=>(x.version,x.data))
@[go_sem, simp] theorem Piece.eta (x : Piece) : (⟨x.version, x.data⟩ : Piece) = x := rfl
@[ext] structure Shelf where
 up:Bool
 pieces:(List Piece)
instance:aP Shelf:=aP.via (fun x=>(x.up,x.pieces))
@[go_sem, simp] theorem Shelf.eta (x : Shelf) : (⟨x.up, x.pieces⟩ : Shelf) = x := rfl
@[ext] structure ah where
 layout:aO
 size:Int
 versions:(List Int)
 nodes:(List Shelf)
variable {v:ah}
instance:aP ah:=aP.via (fun x=>(x.layout,x.size,x.versions,x.nodes))
@[go_sem, simp] theorem ah.eta (x : ah) : (⟨x.layout, x.size, x.versions, x.nodes⟩ : ah) = x := rfl
@[ext] structure ct where
 vol:ah
 no:Int
 nodes:(List Int)
instance:aP ct:=aP.via (fun x=>(x.vol,x.no,x.nodes))
@[go_sem, simp] theorem ct.eta (x : ct) : (⟨x.vol, x.no, x.nodes⟩ : ct) = x := rfl
structure az where
 up:Bool
 pieces:Row Piece
inductive Tc where
 |aA
 |cA
 |nN
 |ed
 |gL
 |jM
 |eU
 |kX
 |gM
 |eV
 |ky
 |sh
 |jN
 |mR
 |jl
 |wF
 |qC
 |si
 |wG
 |wH
 |iz
 |wI
 |wJ
 |fZ
 |qD
 |tS
def Tc.no:Tc->Nat
 | .aA=>0
 | .cA=>1
 | .nN=>2
 | .ed=>3
 | .gL=>4
 | .jM=>5
 | .eU=>6
 | .kX=>7
 | .gM=>8
 | .eV=>9
 | .ky=>10
 | .sh=>11
 | .jN=>12
 | .mR=>13
 | .jl=>14
 | .wF=>15
 | .qC=>16
 | .si=>17
 | .wG=>18
 | .wH=>19
 | .iz=>20
 | .wI=>21
 | .wJ=>22
 | .fZ=>23
 | .qD=>24
 | .tS=>25
def Tc.of:Nat->Tc
 |0=> .aA
 |1=> .cA
 |2=> .nN
 |3=> .ed
 |4=> .gL
 |5=> .jM
 |6=> .eU
 |7=> .kX
 |8=> .gM
 |9=> .eV
 |10=> .ky
 |11=> .sh
 |12=> .jN
 |13=> .mR
 |14=> .jl
 |15=> .wF
 |16=> .qC
 |17=> .si
 |18=> .wG
 |19=> .wH
 |20=> .iz
 |21=> .wI
 |22=> .wJ
 |23=> .fZ
 |24=> .qD
 |_=> .tS
theorem Tc.K6 (a:Tc):Tc.of a.no=a:=by cases a<;>rfl
instance:DecidableEq Tc:=fun a b=>match Nat.decEq a.no b.no with
 |isTrue h=>isTrue (by rw [<-Tc.K6 a,h,Tc.K6])
 |isFalse h=>isFalse fun e=>h (by rw [e])
abbrev Tc.dn:Tc->Type
 | .aA=>Int
 | .cA=>UInt8
 | .nN=>bU
 | .ed=>Bool
 | .gL=>ByteArray
 | .jM=>aO
 | .eU=>Piece
 | .kX=>Shelf
 | .gM=>az
 | .eV=>ah
 | .ky=>ct
 | .sh=>Act
 | .jN=>(List Int)
 | .mR=>(List UInt8)
 | .jl=>(List ByteArray)
 | .wF=>(List Bool)
 | .qC=>(List Piece)
 | .si=>(List Shelf)
 | .wG=>(List az)
 | .wH=>(List Act)
 | .iz=>(List (List UInt8))
 | .wI=>(List (List ByteArray))
 | .wJ=>(List (List (List UInt8)))
 | .fZ=>(Row UInt8)
 | .qD=>(Row Piece)
 | .tS=>(Ptr Piece)
def Ai:LR aO:= .via (fun x=>(x.nodes,x.data,x.more,x.turn)) (.prod LR.i64 (.prod LR.i64 (.prod LR.i64 LR.i64)))
def qE:LR Piece:= .via (fun x=>(x.version,x.data)) (.prod LR.i64 LR.str)
def wK:LR Shelf:= .via (fun x=>(x.up,x.pieces)) (.prod LR.jL (LR.list qE))
def EH:LR az:= .via (fun x=>(x.up,x.pieces)) (.prod LR.jL (LR.row qE))
def Aj:LR ah:= .via (fun x=>(x.layout,x.size,x.versions,x.nodes)) (.prod Ai (.prod LR.i64 (.prod (LR.list LR.i64) (LR.list wK))))
def K7:LR ct:= .via (fun x=>(x.vol,x.no,x.nodes)) (.prod Aj (.prod LR.i64 (LR.list LR.i64)))
def EI:LR Act:= .via (fun x=>(x.kind,x.n,x.data)) (.prod LR.i64 (.prod LR.i64 LR.str))
def Tc.lr:(t:Tc)->LR t.dn
 | .aA=>LR.i64
 | .cA=>LR.u8
 | .nN=>LR.u64
 | .ed=>LR.jL
 | .gL=>LR.str
 | .jM=>Ai
 | .eU=>qE
 | .kX=>wK
 | .gM=>EH
 | .eV=>Aj
 | .ky=>K7
 | .sh=>EI
 | .jN=>(LR.list LR.i64)
 | .mR=>(LR.list LR.u8)
 | .jl=>(LR.list LR.str)
 | .wF=>(LR.list LR.jL)
 | .qC=>(LR.list qE)
 | .si=>(LR.list wK)
 | .wG=>(LR.list EH)
 | .wH=>(LR.list EI)
 | .iz=>(LR.list (LR.list LR.u8))
 | .wI=>(LR.list (LR.list LR.str))
 | .wJ=>(LR.list (LR.list (LR.list LR.u8)))
 | .fZ=>(LR.row LR.u8)
 | .qD=>(LR.row qE)
 | .tS=>(LR.ptr qE)
abbrev tE:TE Tc Tc.dn:=TE.px Tc.lr
def K8:LY tE Ai:= .via (fun y=>⟨y.1,y.2.1,y.2.2.1,y.2.2.2⟩) (fun _=>rfl) (.prod LY.i64 (.prod LY.i64 (.prod LY.i64 LY.i64)))
def tT:LY tE qE:= .via (fun y=>⟨y.1,y.2⟩) (fun _=>rfl) (.prod LY.i64 LY.str)
def EJ:LY tE wK:= .via (fun y=>⟨y.1,y.2⟩) (fun _=>rfl) (.prod LY.jL (LY.list (t:=Tc.eU) tT rfl fun _=>rfl))
def K9:LY tE EH:= .via (fun y=>⟨y.1,y.2⟩) (fun _=>rfl) (.prod LY.jL (LY.row (t:=Tc.eU) tT rfl fun _=>rfl))
def Lc:LY tE Aj:= .via (fun y=>⟨y.1,y.2.1,y.2.2.1,y.2.2.2⟩) (fun _=>rfl) (.prod K8 (.prod LY.i64 (.prod (LY.list (t:=Tc.aA) LY.i64 rfl fun _=>rfl) (LY.list (t:=Tc.kX) EJ rfl fun _=>rfl))))
def Xo:LY tE K7:= .via (fun y=>⟨y.1,y.2.1,y.2.2⟩) (fun _=>rfl) (.prod Lc (.prod LY.i64 (LY.list (t:=Tc.aA) LY.i64 rfl fun _=>rfl)))
def Ld:LY tE EI:= .via (fun y=>⟨y.1,y.2.1,y.2.2⟩) (fun _=>rfl) (.prod LY.i64 (.prod LY.i64 LY.str))
def Tc.ly:(t:Tc)->LY tE t.lr
 | .aA=>LY.i64
 | .cA=>LY.u8
 | .nN=>LY.u64
 | .ed=>LY.jL
 | .gL=>LY.str
 | .jM=>K8
 | .eU=>tT
 | .kX=>EJ
 | .gM=>K9
 | .eV=>Lc
 | .ky=>Xo
 | .sh=>Ld
 | .jN=>(LY.list (t:=Tc.aA) LY.i64 rfl fun _=>rfl)
 | .mR=>(LY.list (t:=Tc.cA) LY.u8 rfl fun _=>rfl)
 | .jl=>(LY.list (t:=Tc.gL) LY.str rfl fun _=>rfl)
 | .wF=>(LY.list (t:=Tc.ed) LY.jL rfl fun _=>rfl)
 | .qC=>(LY.list (t:=Tc.eU) tT rfl fun _=>rfl)
 | .si=>(LY.list (t:=Tc.kX) EJ rfl fun _=>rfl)
 | .wG=>(LY.list (t:=Tc.gM) K9 rfl fun _=>rfl)
 | .wH=>(LY.list (t:=Tc.sh) Ld rfl fun _=>rfl)
 | .iz=>(LY.list (t:=Tc.mR) (LY.list (t:=Tc.cA) LY.u8 rfl fun _=>rfl) rfl fun _=>rfl)
 | .wI=>(LY.list (t:=Tc.jl) (LY.list (t:=Tc.gL) LY.str rfl fun _=>rfl) rfl fun _=>rfl)
 | .wJ=>(LY.list (t:=Tc.iz) (LY.list (t:=Tc.mR) (LY.list (t:=Tc.cA) LY.u8 rfl fun _=>rfl) rfl fun _=>rfl) rfl fun _=>rfl)
 | .fZ=>(LY.row (t:=Tc.cA) LY.u8 rfl fun _=>rfl)
 | .qD=>(LY.row (t:=Tc.eU) tT rfl fun _=>rfl)
 | .tS=>(LY.ptr tT)
def Tc.ag:Tc->Bool
 | .jM| .eU| .kX| .gM| .eV| .ky| .sh=>true
 |_=>false
def Xp (sz bytes:Nat):Option Tc:=bif Nat.beq sz 1&&Nat.beq bytes 8 then some .aA else bif Nat.beq sz 1&&Nat.beq bytes 1 then some .cA else bif Nat.beq sz 1&&Nat.beq bytes 1001 then some .ed else bif Nat.beq sz 1&&Nat.beq bytes 16 then some .gL else bif Nat.beq sz 2&&Nat.beq bytes 32 then some .gM else bif Nat.beq sz 2&&Nat.beq bytes 24 then some .eU else bif Nat.beq sz 2&&Nat.beq bytes 1032 then some .gM else none
def Xq:Tc->Bool
 | .gM| .qD=>true
 |_=>false
def EK:FZ Tc Tc.dn:=fun t ta=>match t,ta with
 | .qD, .eU=>fun A=>some ⟨.qC,fun x=>x.get A,fun x=>x.ok A/\x.kd≠ .nil⟩
 | .gM, .eU=>fun A=>some ⟨.kX,fun x=>⟨x.up,x.pieces.get A⟩,fun x=>(True/\(x.pieces.ok A/\x.pieces.kd≠ .nil))⟩
 |_,_=>fun _=>none
theorem Xr (t ta:Tc) (A:List (Nat×List ta.dn)) (t':Tc) (f:t.dn->t'.dn) (O:t.dn->Prop) (h:EK t ta A=some ⟨t',f,O⟩):gK tE ta A t.lr t'.lr f O:=by
 unfold EK at h
 split at h
 ·cases h;exact gK.row rfl fun _=>rfl
 ·cases h;exact gK.via (gK.prod (gK.id LY.jL rfl) (gK.row (ta:=Tc.eU) rfl fun _=>rfl)) (fun _=>rfl)
 ·simp at h
def EM (t t':Tc):Option (t.dn->t'.dn):=match t,t' with
 | .qC, .qD=>some fun x=>Row.fix _ x
 | .kX, .gM=>some fun x=>⟨x.up,Row.fix _ x.pieces⟩
 |_,_=>none
theorem Xs (ρ:Nat->AV) (t t':Tc) (f:t.dn->t'.dn) (h:EM t t'=some f):t'.lr.sz=t.lr.sz/\∀x,t'.lr.ea ρ (f x)=t.lr.ea ρ x:=by
 unfold EM at h
 split at h
 ·cases h;exact ⟨rfl,fun _=>rfl⟩
 ·cases h;exact ⟨rfl,fun _=>rfl⟩
 ·simp at h
def tD:TD Tc Tc.dn:=TD.px Tc.ly Tc.ag Xp true (some .eU) Xq EK EM
theorem cP:bC tD:=TD.KZ Xr Xs
def Xt (sz bytes:Nat):Option Tc:=bif Nat.beq sz 1&&Nat.beq bytes 1 then some .cA else bif Nat.beq sz 1&&Nat.beq bytes 8 then some .aA else bif Nat.beq sz 1&&Nat.beq bytes 1001 then some .ed else bif Nat.beq sz 1&&Nat.beq bytes 24 then some .fZ else bif Nat.beq sz 1&&Nat.beq bytes 16 then some .gL else none
def Xu:Tc->Bool
 | .fZ=>true
 |_=>false
def EN:FZ Tc Tc.dn:=fun t ta=>match t,ta with
 | .fZ, .cA=>fun A=>some ⟨.mR,fun x=>x.get A,fun x=>x.ok A/\x.kd≠ .nil⟩
 |_,_=>fun _=>none
theorem Xv (t ta:Tc) (A:List (Nat×List ta.dn)) (t':Tc) (f:t.dn->t'.dn) (O:t.dn->Prop) (h:EN t ta A=some ⟨t',f,O⟩):gK tE ta A t.lr t'.lr f O:=by
 unfold EN at h
 split at h
 ·cases h;exact gK.row rfl fun _=>rfl
 ·simp at h
def EO (t t':Tc):Option (t.dn->t'.dn):=match t,t' with
 | .mR, .fZ=>some fun x=>Row.fix _ x
 |_,_=>none
theorem Xw (ρ:Nat->AV) (t t':Tc) (f:t.dn->t'.dn) (h:EO t t'=some f):t'.lr.sz=t.lr.sz/\∀x,t'.lr.ea ρ (f x)=t.lr.ea ρ x:=by
 unfold EO at h
 split at h
 ·cases h;exact ⟨rfl,fun _=>rfl⟩
 ·simp at h
def tB:TD Tc Tc.dn:=TD.px Tc.ly Tc.ag Xt false (some .cA) Xu EN EO
theorem gn:bC tB:=TD.KZ Xv Xw
theorem sj:eL Try.prog 3 Int:=Up Try.underlying3 (by kernel_rfl)
theorem Xx:eL Try.prog 23 aO:=eL.via (yN Try.underlying23 rfl (by kernel_rfl) (qj sj rfl (qj sj rfl (qj sj rfl (yL sj rfl))))) _ (fun p=>⟨p.1,p.2.1,p.2.2.1,p.2.2.2⟩) (fun _=>rfl)
theorem Xy:eL Try.prog 24 (List Int):=C2 Try.underlying24 (by kernel_rfl) sj (by decide)
theorem Xz:eL Try.prog 4 Bool:=Uq Try.underlying4 (by kernel_rfl)
theorem XA:eL Try.prog 9 ByteArray:=Ur Try.underlying9 (by kernel_rfl)
theorem XB:eL Try.prog 61 Piece:=eL.via (yN Try.underlying61 rfl (by kernel_rfl) (qj sj rfl (yL XA rfl))) _ (fun p=>⟨p.1,p.2⟩) (fun _=>rfl)
theorem XC:eL Try.prog 41 (List Piece):=C2 Try.underlying41 (by kernel_rfl) XB (by decide)
theorem XD:eL Try.prog 43 Shelf:=eL.via (yN Try.underlying43 rfl (by kernel_rfl) (qj Xz rfl (yL XC rfl))) _ (fun p=>⟨p.1,p.2⟩) (fun _=>rfl)
theorem XE:eL Try.prog 25 (List Shelf):=C2 Try.underlying25 (by kernel_rfl) XD (by decide)
theorem XF:eL Try.prog 27 ah:=eL.via (yN Try.underlying27 rfl (by kernel_rfl) (qj Xx rfl (qj sj rfl (qj Xy rfl (yL XE rfl))))) _ (fun p=>⟨p.1,p.2.1,p.2.2.1,p.2.2.2⟩) (fun _=>rfl)
def fb (M:List (List UInt8)):Mx:=fun i j=>gd 0 (gd [] M i) j
def gp (n m:Nat) (M:List (List UInt8)):Prop:=M.length=n/\∀r,r∈M->r.length=m
theorem gp.row {n m:Nat} {M:List (List UInt8)} (h:gp n m M) {i:Nat} (hi:i<n):(gd [] M i).length=m/\gd [] M i∈M:=by
 have hm:=adm (kT (d:=([]:List UInt8)) (xs:=M) (i:=i) (by rw [h.1];exact hi))
 exact ⟨h.2 _ hm,hm⟩
theorem XG {f:UInt8->UInt8} (h0:f 0=0) (r:List UInt8) (j:Nat):gd 0 (r.map f) j=f (gd 0 r j):=by
 unfold gd;rw [ac5]
 cases r[j]? with
 |none=>exact h0.symm
 |some x=>rfl
def tU (r:List UInt8) (f:UInt8):List UInt8:=r.map fun x=>aW x f
def mS (r q:List UInt8) (f:UInt8):List UInt8:=List.zipWith (fun x y=>x^^^aW f y) r q
theorem XH {r q:List UInt8} (h:r.length=q.length) (f:UInt8) (j:Nat):gd 0 (mS r q f) j=gd 0 r j^^^aW f (gd 0 q j):=by
 unfold mS gd
 rw [List.getElem?_zipWith]
 rcases adx j r.length with hj|hj
 ·rw [acT hj,acT (show j<q.length by omega)];rfl
 ·rw [adW hj,adW (by omega)]
  show (0:UInt8)=0^^^aW f 0
  rw [kP];rfl
theorem Lf {r q:List UInt8} (h:r.length=q.length) (f:UInt8):(mS r q f).length=r.length:=by
 unfold mS;rw [List.length_zipWith];omega
def l7 (M:List (List UInt8)) (d i0:Nat):List (List UInt8):=(M.set d (gd [] M i0)).set i0 (gd [] M d)
theorem tV {α:Type} {z:α} {l:List α} {j:Nat} {x:α} (hi:i<l.length):gd z (l.set i x) j=if i=j then x else gd z l j:=by
 unfold gd
 by_cases h:i=j
 ·subst h;rw [List.getElem?_set_self hi,acN rfl];rfl
 ·rw [aeL h,acL h]
theorem EP (h:gp n m M) (hd:d<n) (hi:i0<n) (i:Nat):gd [] (l7 M d i0) i=if i=d then gd [] M i0 else if i=i0 then gd [] M d else gd [] M i:=by
 have hl:=h.1
 unfold l7
 rw [tV (by rw [ada];omega),tV (by omega)]
 by_cases h1:i0=i
 ·subst h1
  rw [acN rfl]
  by_cases h2:i0=d
  ·subst h2;rw [acN rfl]
  ·rw [acL h2,acN rfl]
 ·rw [acL h1]
  by_cases h2:d=i
  ·subst h2;rw [acN rfl,acN rfl]
  ·rw [acL h2,acL (fun hh=>h2 hh.symm),acL (fun hh=>h1 hh.symm)]
theorem Lg (h:gp n m M) (hd:d<n) (hi:i0<n):gp n m (l7 M d i0):=by
 refine ⟨by unfold l7;simp;exact h.1,fun r hr=> ?_⟩
 unfold l7 at hr
 rcases aeM hr with hr|rfl
 ·rcases aeM hr with hr|rfl
  ·exact h.2 r hr
  ·exact (h.row hi).1
 ·exact (h.row hd).1
def qF (M:List (List UInt8)) (c d:Nat):List (List UInt8):=M.set d (tU (gd [] M d) (iu (gd 0 (gd [] M d) c)))
theorem Lh (h:gp n m M) (hd:d<n):gp n m (qF M c d):=by
 refine ⟨by unfold qF;simp;exact h.1,fun r hr=> ?_⟩
 rcases aeM hr with hr|rfl
 ·exact h.2 r hr
 ·unfold tU;rw [ac4];exact (h.row hd).1
def nO (M:List (List UInt8)) (c d:Nat):List (List UInt8):=(List.range M.length).map fun i=>if i=d then gd [] M d else mS (gd [] M i) (gd [] M d) (gd 0 (gd [] M i) c)
theorem XI (h:gp n m M) (hi:i<n):gd [] (nO M c d) i=if i=d then gd [] M d else mS (gd [] M i) (gd [] M d) (gd 0 (gd [] M i) c):=by
 unfold nO
 show ((List.map _ _)[i]?).getD []=_
 rw [ac5,aeA (by rw [h.1];exact hi)];rfl
theorem XJ (h:gp n m M) (hd:d<n):gp n m (nO M c d):=by
 refine ⟨by unfold nO;simp;exact h.1,fun r hr=> ?_⟩
 unfold nO at hr
 obtain ⟨i,hi,rfl⟩:=ade.1 hr
 have bh:i<n:=by rw [<-h.1];simpa using hi
 split
 ·exact (h.row hd).1
 ·rw [Lf (by rw [(h.row bh).1,(h.row hd).1])];exact (h.row bh).1
def py (M:List (List UInt8)) (c d i0:Nat):List (List UInt8):=nO (qF (l7 M d i0) c d) c d
theorem XK (h:gp n m M) (hd:d<n) (hi:i0<n):gp n m (py M c d i0):=XJ (Lh (Lg h hd hi) hd) hd
theorem Li (h:gp n m M) (hd:d<n) (hi:i0<n) (i j:Nat):fb (l7 M d i0) i j=ew (fb M) d i0 i j:=by
 unfold fb ew
 rw [EP h hd hi]
 by_cases h1:i=d
 ·rw [acN h1,acN h1]
 ·rw [acL h1,acL h1]
  by_cases h2:i=i0
  ·rw [acN h2,acN h2]
  ·rw [acL h2,acL h2]
theorem XL (h:gp n m M) (hd:d<n) (i j:Nat):fb (qF M c d) i j=gW (fb M) d (iu (fb M d c)) i j:=by
 unfold fb qF gW
 rw [tV (by rw [h.1];exact hd)]
 by_cases h1:d=i
 ·subst h1;rw [acN rfl,acN rfl];unfold tU;exact XG (f:=fun x=>aW x (iu (gd 0 (gd [] M d) c))) (vj _) _ _
 ·rw [acL h1,acL (fun hh=>h1 hh.symm)]
theorem XM (h:gp n m M) (hd:d<n) (hi:i<n) (j:Nat):fb (nO M c d) i j=elimM (fun i=>fb M i c) d (fb M) i j:=by
 unfold fb elimM
 rw [XI h hi]
 by_cases h1:i=d
 ·rw [acN h1,acN h1]
 ·rw [acL h1,acL h1,XH (by rw [(h.row hi).1,(h.row hd).1])]
theorem XN (h:gp n m M) (hd:d<n) (h0:i0<n) (hi:i<n) (j:Nat):fb (py M c d i0) i j=oM (fb M) c d i0 i j:=by
 have hs:=Lg h hd h0
 have ho:=Lh (c:=c) hs hd
 have e1:∀i j,fb (qF (l7 M d i0) c d) i j=gW (ew (fb M) d i0) d (iu (ew (fb M) d i0 d c)) i j:=fun i j=>by
  rw [XL hs hd,Li h hd h0]
  unfold gW
  simp only [Li h hd h0]
 unfold py oM
 rw [XM ho hd hi]
 unfold elimM
 simp only [e1]
def findR (M:List (List UInt8)) (c d:Nat):Nat->Option Nat
 |0=>none
 |f+1=>if gd 0 (gd [] M d) c≠0 then some d else findR M c (d+1) f
theorem Lj {M:List (List UInt8)} {c:Nat}:∀{f d i:Nat},findR M c d f=some i->d<=i/\i<d+f/\fb M i c≠0
 |0,d,i,h=>by simp [findR] at h
 |f+1,d,i,h=>by
  unfold findR at h
  split at h
  ·rename_i h1;simp at h;subst h;exact ⟨acV _,by omega,h1⟩
  ·have:=Lj h;exact ⟨by omega,by omega,this.2.2⟩
theorem Lk {M:List (List UInt8)} {c:Nat}:∀{f d:Nat},findR M c d f=none->∀i,d<=i->i<d+f->fb M i c=0
 |0,d,_,i,h1,h2=>by omega
 |f+1,d,h,i,h1,h2=>by
  unfold findR at h
  split at h
  ·simp at h
  ·rename_i hz
   by_cases hi:i=d
   ·subst hi;exact ad9.1 hz
   ·exact Lk h i (by omega) (by omega)
def kA:Nat->List (List UInt8)->Nat->Nat->List (List UInt8)×Nat
 |0,M,_,d=>(M,d)
 |f+1,M,c,d=>match findR M c d (M.length - d) with
  |none=>kA f M (c+1) d
  |some i0=>if d+1=M.length then (py M c d i0,d+1) else kA f (py M c d i0) (c+1) (d+1)
theorem ER {n m:Nat} {A:Mx}:∀(f:Nat) (M:List (List UInt8)) (c d:Nat) (p:Nat->Nat),gp n m M->RE n A (fb M)->qi n (fb M) c d p->d<n->
  gp n m (kA f M c d).1/\RE n A (fb (kA f M c d).1)/\∃c' p',c'<=c+f/\qi n (fb (kA f M c d).1) c' (kA f M c d).2 p'/\(c'=c+f\/(kA f M c d).2=n)
 |0,M,c,d,p,h1,h2,h3,_=>⟨h1,h2,c,p,acV _,h3, .inl rfl⟩
 |f+1,M,c,d,p,h1,h2,h3,hd=>by
  have hl:=h1.1
  unfold kA
  cases hf:findR M c d (M.length - d) with
  |none=>
   have hz:=Lk hf
   simp only
   obtain ⟨k1,k2,c',p',k3,k4,k5⟩:=ER f M (c+1) d p h1 h2 (T9 h3 fun i hi dm=>hz i hi (by omega)) hd
   exact ⟨k1,k2,c',p',by omega,k4,by omega⟩
  |some i0=>
   obtain ⟨q1,q2,q3⟩:=Lj hf
   have lM:i0<n:=by omega
   have e:∀i j,i<n->fb (py M c d i0) i j=oM (fb M) c d i0 i j:=fun i j hi=>XN h1 hd lM hi j
   have r1:=XK (c:=c) h1 hd lM
   have r2:=(Ua (c:=c) h2 hd lM).congr e
   have s3:=Ub h3 q1 lM q3
   have r3:qi n (fb (py M c d i0)) (c+1) (d+1) fun t=>if t<d then p t else c:=
    ⟨s3.dn,s3.pc,s3.up,fun t i ht hi=>by rw [e i _ hi];exact s3.one t i ht hi,fun i j vh hi hj=>by rw [e i j hi];exact s3.zero i j vh hi hj⟩
   simp only
   by_cases hn:d+1=M.length
   ·rw [acN hn]
    exact ⟨r1,r2,c+1,_,by omega,r3, .inr (by omega)⟩
   ·rw [acL hn]
    obtain ⟨k1,k2,c',p',k3,k4,k5⟩:=ER f _ (c+1) (d+1) _ r1 r2 r3 (by omega)
    exact ⟨k1,k2,c',p',by omega,k4,by omega⟩
open Go.RowKit
theorem XO {α:Type} {d:α} {l:List α} {P:α->Prop} (h:∀j,j<l.length->P (gd d l j)):∀x,x∈l->P x:=fun x hx=>by
 obtain ⟨i,hi,rfl⟩:=ad5 hx
 have:=h i hi
 unfold gd at this
 rw [acT hi] at this
 exact this
theorem qG {i n:Int} (h:i<n):(n - (i+1)).toNat<(n - i).toNat:=by omega
def aO.e (l:aO):Int:=if ¬(1<=l.nodes/\l.nodes<=12)\/¬(1<=l.data/\l.data<=8)\/¬(1<=l.more/\l.more<=6) then 3 else if l.nodes<l.data+l.more then 8 else if ¬(0<=l.turn/\l.turn<=l.nodes - 1) then 3 else 0
structure aO.K (l:aO):Prop where
 n:1<=l.nodes/\l.nodes<=12
 d:1<=l.data/\l.data<=8
 m:1<=l.more/\l.more<=6
 s:l.data+l.more<=l.nodes
 t:0<=l.turn/\l.turn<l.nodes
theorem aO.pz {l:aO}:l.e=0↔l.K:=by
 unfold aO.e
 constructor
 ·intro h
  split at h;simp at h
  split at h;simp at h
  split at h;simp at h
  exact ⟨by omega,by omega,by omega,by omega,by omega⟩
 ·intro ⟨h1,h2,h3,h4,h5⟩
  rw [acL (by omega),acL (by omega),acL (by omega)]
def aO.node (l:aO) (s p:Int):Int:=(l.turn+s+p)%l.nodes
def aO.pc (l:aO) (s n:Int):Int:=(n - l.turn - s)%l.nodes
def aO.has (l:aO) (s n:Int):Bool:=decide (l.pc s n<l.data+l.more)
theorem aO.K.node {l:aO} (h:l.K) (s p:Int):0<=l.node s p/\l.node s p<l.nodes:=by
 have:=h.n
 exact ⟨Int.emod_nonneg _ (by omega),Int.emod_lt_of_pos _ (by omega)⟩
theorem aO.K.pc {l:aO} (h:l.K) (s n:Int):0<=l.pc s n/\l.pc s n<l.nodes:=by
 have:=h.n
 exact ⟨Int.emod_nonneg _ (by omega),Int.emod_lt_of_pos _ (by omega)⟩
theorem Ll {a n:Int} (hn:0<n):(a.tmod n<0->a.tmod n+n=a%n)/\(¬a.tmod n<0->a.tmod n=a%n):=by
 have h:=Int.tmod_add_mul_tdiv a n
 have h1:=Int.tmod_lt_of_pos a hn
 have h2:=Int.tmod_lt_of_pos (-a) hn
 rw [Int.neg_tmod] at h2
 constructor
 ·intro hl
  have e:a=(a.tmod n+n)+n*(a.tdiv n - 1):=by rw [Int.mul_sub];omega
  rw [e,aeS, <-e]
  exact (Int.emod_eq_of_lt (by omega) (by omega)).symm
 ·intro hl
  have e:a=a.tmod n+n*a.tdiv n:=by omega
  conv=>rhs;rw [e]
  rw [aeS]
  exact (Int.emod_eq_of_lt (by omega) (by omega)).symm
theorem Lm {a n:Int} (ha:0<=a) (hn:0<n):a.tmod n=a%n:=(Ll hn).2 (by have:=Int.tmod_nonneg n ha;omega)
theorem Ak {l:aO} (h:l.K) {s p n:Int} (hp:0<=p/\p<l.nodes) (hn:0<=n/\n<l.nodes):l.node s p=n↔l.pc s n=p:=by
 have h0:=h.n
 unfold aO.node aO.pc
 constructor
 ·intro e
  rw [<-e]
  have:((l.turn+s+p)%l.nodes - l.turn - s)=p+l.nodes*(-((l.turn+s+p) / l.nodes)):=by
   have:=Int.emod_add_mul_ediv (l.turn+s+p) l.nodes
   rw [Int.mul_neg];omega
  rw [this,aeS]
  exact Int.emod_eq_of_lt hp.1 hp.2
 ·intro e
  rw [<-e]
  have:(l.turn+s+(n - l.turn - s)%l.nodes)=n+l.nodes*(-((n - l.turn - s) / l.nodes)):=by
   have:=Int.emod_add_mul_ediv (n - l.turn - s) l.nodes
   rw [Int.mul_neg];omega
  rw [this,aeS]
  exact Int.emod_eq_of_lt hn.1 hn.2
def aO.piece (l:aO) (s n:Int):Int×Bool×Int:=
 if ¬l.e=0 then (0,false,l.e) else if ¬(0<=s/\s<=63/\0<=n/\n<l.nodes) then (0,false,3) else if l.data+l.more<=l.pc s n then (0,false,0) else (l.pc s n,true,0)
theorem aO.K.piece {l:aO} (h:l.K) {s n:Int} (hs:0<=s/\s<=63) (hn:0<=n/\n<l.nodes):l.piece s n=(if l.has s n=true then l.pc s n else 0,l.has s n,0):=by
 unfold aO.piece aO.has
 rw [acL (by rw [aO.pz.2 h];simp),acL (by omega)]
 by_cases e:l.data+l.more<=l.pc s n
 ·rw [acN e,adZ (by omega)];simp
 ·rw [acL e,adX (by omega)];simp
theorem XP {l:aO} {s n:Int} (h:¬l.e=0):l.piece s n=(0,false,l.e):=by unfold aO.piece;rw [acN h]
theorem XQ {l:aO} {s n:Int} (h:l.e=0) (h2:s<0\/63<s\/n<0\/l.nodes<=n):l.piece s n=(0,false,3):=by unfold aO.piece;rw [acL (by simp [h]),acN (by omega)]
open Go.RowKit
def gN {α:Type} (p:α->Bool):List α->Int->Int
 |[],_=> -1
 |a::r,k=>if p a=true then k else gN p r (k+1)
theorem Ln {α:Type} {p:α->Bool}:∀{l:List α} {k:Int},0<=k->(gN p l k<0↔∀a,a∈l->p a=false)
 |[],k,h=>by simp [gN]
 |a::r,k,h=>by
  unfold gN
  by_cases hp:p a=true
  ·rw [acN hp]
   exact ⟨fun hh=>by omega,fun hh=>by have:=hh a (adD ..);rw [hp] at this;simp at this⟩
  ·rw [acL hp,Ln (by omega)]
   exact ⟨fun hh b hb=>by rcases acX.1 hb with e|e;rw [e];simpa using hp;exact hh b e,fun hh b hb=>hh b (adw _ hb)⟩
theorem Lo {α:Type} {p:α->Bool} {l:List α}:decide (0<=gN p l 0)=l.any p:=by
 have h:=Ln (p:=p) (l:=l) (k:=0) (adY _)
 by_cases hh:gN p l 0<0
 ·rw [adZ (by omega)]
  have:=h.1 hh
  symm
  rw [List.any_eq_false]
  intro x hx;rw [this x hx];simp
 ·rw [adX (by omega)]
  symm
  rw [adr]
  exact aed fun hn=>hh (h.2 fun a ha=>by
   cases hq:p a with
   |false=>rfl
   |true=>exact absurd ⟨a,ha,hq⟩ hn)
structure fL {α:Type} (p:α->Bool) (xs:List α) (k:Int):Prop where
 lo:0<=k
 hi:k<=xs.length
 sk:xs.length<=1000000
 eq:gN p (xs.drop k.toNat) k=gN p xs 0
theorem fL.start {α:Type} {p:α->Bool} {xs:List α} (h:xs.length<=1000000):fL p xs 0:=⟨by omega,by omega,h,rfl⟩
theorem fL.no {α:Type} {p:α->Bool} {d:α} {xs:List α} {k:Int} (h:fL p xs k) (hk:k<xs.length) (hp:¬p (gd d xs k.toNat)=true):fL p xs (k+1):=by
 have h0:=h.lo
 refine ⟨by omega,by omega,h.sk, ?_⟩
 rw [<-h.eq,ql d (xs:=xs) (i:=k.toNat) (by omega),gN,acL hp,show (k+1).toNat=k.toNat+1 by omega]
theorem fL.yes {α:Type} {p:α->Bool} {d:α} {xs:List α} {k:Int} (h:fL p xs k) (hk:k<xs.length) (hp:p (gd d xs k.toNat)=true):k=gN p xs 0:=by
 have h0:=h.lo
 rw [<-h.eq,ql d (xs:=xs) (i:=k.toNat) (by omega),gN,acN hp]
theorem fL.fin {α:Type} {p:α->Bool} {xs:List α} {k:Int} (h:fL p xs k) (hk:xs.length<=k): -1=gN p xs 0:=by
 rw [<-h.eq,aeI (by omega)];rfl
abbrev L0:aO:=⟨0,0,0,0⟩
abbrev ah.at_ (v:ah) (n s:Int):Piece:=gd ⟨0,ByteArray.empty⟩ (gd ⟨false,[]⟩ v.nodes n.toNat).pieces s.toNat
def fc (v:ah) (n s:Int):Int:=
 if (v.layout.has s n=false/\¬((v.at_ n s).version=0/\(v.at_ n s).data=ByteArray.empty))\/(v.layout.has s n=true/\¬((v.at_ n s).data.size:Int)=v.size) then 1 else if ¬(0<=(v.at_ n s).version/\(v.at_ n s).version<=gd 0 v.versions s.toNat) then 3 else 0
def kY (f:Int->Int):Nat->Int->Int
 |0,_=>0
 |k+1,i=>if f i=0 then kY f k (i+1) else f i
structure kZ (f:Int->Int) (n i:Int):Prop where
 lo:0<=i
 hi:i<=n
 eq:kY f (n - i).toNat i=kY f n.toNat 0
theorem kZ.start {f:Int->Int} {n:Int} (h:0<=n):kZ f n 0:=⟨by omega,h,by rw [Int.sub_zero]⟩
theorem kZ.step {f:Int->Int} {n i:Int} (h:kZ f n i) (hi:i<n) (e:f i=0):kZ f n (i+1):=⟨by have:=h.lo;omega,by omega,by
 rw [<-h.eq,show (n - i).toNat=(n - (i+1)).toNat+1 by omega,kY,acN e]⟩
theorem kZ.bad {f:Int->Int} {n i:Int} (h:kZ f n i) (hi:i<n) (e:¬f i=0):f i=kY f n.toNat 0:=by
 rw [<-h.eq,show (n - i).toNat=(n - (i+1)).toNat+1 by omega,kY,acL e]
theorem kZ.fin {f:Int->Int} {n i:Int} (h:kZ f n i) (hi:n<=i):kY f n.toNat 0=0:=by
 rw [<-h.eq,show (n - i).toNat=0 by have:=h.hi;omega];rfl
theorem wL {f:Int->Int}:∀{k:Nat} {i:Int},kY f k i=0↔∀j,i<=j->j<i+k->f j=0
 |0,i=>⟨fun _ j h1 h2=>by omega,fun _=>rfl⟩
 |k+1,i=>by
  unfold kY
  by_cases e:f i=0
  ·rw [acN e,wL]
   constructor
   ·intro h j h1 h2
    by_cases ej:j=i
    ·rw [ej];exact e
    ·exact h j (by omega) (by omega)
   ·intro h j h1 h2;exact h j (by omega) (by omega)
  ·rw [acL e]
   exact ⟨fun h=>absurd h e,fun h=>h i (by omega) (by omega)⟩
def Al (v:ah) (n:Int):Int:=kY (fc v n) (v.versions.length:Int).toNat 0
def dz (n:Int):Bool:=decide (¬(1<=n/\n<=1000000))
def dv (k:Int) (s:Shelf):Bool:=decide (¬(s.pieces.length:Int)=k)
def bN (v:ah):Int:=
 if ¬v.layout.e=0 then v.layout.e else if ¬(1<=v.size/\v.size<=64)\/¬(1<=(v.versions.length:Int)/\(v.versions.length:Int)<=64)\/v.versions.any dz=true then 3 else if ¬(v.nodes.length:Int)=v.layout.nodes\/v.nodes.any (dv v.versions.length)=true then 1 else kY (Al v) (v.nodes.length:Int).toNat 0
structure ah.K (v:ah):Prop where
 lay:v.layout.K
 qH:1<=v.size/\v.size<=64
 str:1<=v.versions.length/\v.versions.length<=64
 ver:∀x,x∈v.versions->1<=x/\x<=1000000
 l8:(v.nodes.length:Int)=v.layout.nodes
 nP:∀x,x∈v.nodes->x.pieces.length=v.versions.length
 ok:∀n s:Int,0<=n->n<v.nodes.length->0<=s->s<v.versions.length->fc v n s=0
theorem nQ {v:ah}:bN v=0↔v.K:=by
 unfold bN
 constructor
 ·intro h
  by_cases h1:¬v.layout.e=0
  ·rw [acN h1] at h;exact absurd h h1
  ·rw [acL h1] at h
   by_cases h2:¬(1<=v.size/\v.size<=64)\/¬(1<=(v.versions.length:Int)/\(v.versions.length:Int)<=64)\/v.versions.any dz=true
   ·rw [acN h2] at h;simp at h
   ·rw [acL h2] at h
    by_cases h3:¬(v.nodes.length:Int)=v.layout.nodes\/v.nodes.any (dv v.versions.length)=true
    ·rw [acN h3] at h;simp at h
    ·rw [acL h3] at h
     have a1:∀x,x∈v.versions->1<=x/\x<=1000000:=fun x hx=>by
      have:¬dz x=true:=fun hh=>h2 (.inr (.inr (adr.2 ⟨x,hx,hh⟩)))
      unfold dz at this;simpa using this
     have a2:∀x,x∈v.nodes->x.pieces.length=v.versions.length:=fun x hx=>by
      have:¬dv v.versions.length x=true:=fun hh=>h3 (.inr (adr.2 ⟨x,hx,hh⟩))
      unfold dv at this;simp at this;omega
     refine ⟨aO.pz.1 (ad9.1 h1),by omega,by omega,a1,by omega,a2,fun n s h4 h5 h6 h7=> ?_⟩
     have:=wL.1 (wL.1 h n h4 (by omega)) s h6 (by omega)
     exact this
 ·intro h
  have h1:=aO.pz.2 h.lay;have h2:=h.qH;have h3:=h.str;have h4:=h.l8
  have b1:¬v.versions.any dz=true:=fun hh=>by
   obtain ⟨x,hx,hp⟩:=adr.1 hh
   have:=h.ver x hx
   unfold dz at hp;simp at hp;omega
  have b2:¬v.nodes.any (dv v.versions.length)=true:=fun hh=>by
   obtain ⟨x,hx,hp⟩:=adr.1 hh
   have:=h.nP x hx
   unfold dv at hp;simp at hp;omega
  rw [acL (by omega),acL (by rintro (hh|hh|hh);omega;omega;exact b1 hh),acL (by rintro (hh|hh);omega;exact b2 hh),wL]
  intro n xR sG
  unfold Al
  rw [wL]
  intro s s6 ES
  exact h.ok n s xR (by omega) s6 (by omega)
def wM:bk Tc Tc.dn:=⟨37,[.ty .aA, .ty .aA, .ty .aA],fun x=>(fun (n:Int) (low:Int) (high:Int)=>True) x.1 x.2.1 x.2.2.1,[.ed],fun x=>(fun (n:Int) (low:Int) (high:Int)=>decide (low<=n/\n<=high)) x.1 x.2.1 x.2.2.1⟩
theorem XR (n:Int) (low:Int) (high:Int):(low<=n->low<=n)/\(low<=n->low<=n)/\(low<=n->low<=n)/\(decide (low<=n)&&decide (n<=high))=decide (low<=n/\n<=high):=by
 (repeat' (first|apply And.intro|intro _))<;>first|assumption|trivial|omega|(grind [])|trace_state
theorem ET:wM.Ok Try.prog tD:=bO cP (Δ:=[]) trivial (Ω:=[]) trivial wM RT RU (fun _=>[]) (fun _=>trivial) 0 (fun x=>(fun (n:Int) (low:Int) (high:Int)=>(fun _=>none)) x.1 x.2.1 x.2.2.1) fun x hp=>Eq.mp (by kernel_rfl) (XR x.1 x.2.1 x.2.2.1)
def sn:bk Tc Tc.dn:=⟨38,[.ty .jM],fun x=>(fun (l:aO)=>l.K\/(1<=l.data/\l.data<=8/\1<=l.more/\l.more<=6)) x.1,[.aA],fun x=>(fun (l:aO)=>l.data+l.more) x.1⟩
theorem XS (l:aO) (hp:l.K\/(1<=l.data/\l.data<=8/\1<=l.more/\l.more<=6)):aE (l.data+l.more)/\l.data+l.more=l.data+l.more:=by
 have h:1<=l.data/\l.data<=8/\1<=l.more/\l.more<=6:=by rcases hp with h|h;exact ⟨h.d.1,h.d.2,h.m.1,h.m.2⟩;exact h
 (repeat' (first|apply And.intro|intro _))<;>first|assumption|trivial|omega|(grind [aE])|trace_state
theorem wN:sn.Ok Try.prog tD:=bO cP (Δ:=[]) trivial (Ω:=[]) trivial sn RW RX (fun _=>[]) (fun _=>trivial) 0 (fun x=>(fun (l:aO)=>(fun _=>none)) x.1) fun x hp=>Eq.mp (by kernel_rfl) (XS x.1 hp)
def wO:bk Tc Tc.dn:=⟨26,[.ty .jM],fun x=>(fun (l:aO)=>True) x.1,[.aA],fun x=>(fun (l:aO)=>l.e) x.1⟩
theorem XT (l:aO):True/\(decide ((1:Int)<=l.nodes/\l.nodes<=(12:Int))= !true->(decide ((1:Int)<=l.nodes/\l.nodes<=(12:Int))= !true->(3:Int)=l.e)/\(decide ((1:Int)<=l.nodes/\l.nodes<=(12:Int))= !false->(l.K\/(1:Int)<=l.data/\l.data<=(8:Int)/\(1:Int)<=l.more/\l.more<=(6:Int))/\(l.nodes<l.data+l.more->(8:Int)=l.e)/\(l.data+l.more<=l.nodes->aE (l.nodes - (1:Int))/\True/\(decide ((0:Int)<=l.turn/\l.turn<=l.nodes - (1:Int))= !true->(3:Int)=l.e)/\(decide ((0:Int)<=l.turn/\l.turn<=l.nodes - (1:Int))= !false->(0:Int)=l.e))))/\(decide ((1:Int)<=l.nodes/\l.nodes<=(12:Int))= !false->True/\(decide ((1:Int)<=l.data/\l.data<=(8:Int))= !!true->True)/\(decide ((1:Int)<=l.data/\l.data<=(8:Int))= !true/\decide ((1:Int)<=l.data/\l.data<=(8:Int))= !true\/decide ((1:Int)<=l.data/\l.data<=(8:Int))= !!true/\decide ((1:Int)<=l.more/\l.more<=(6:Int))= !true->(3:Int)=l.e)/\((decide ((1:Int)<=l.data/\l.data<=(8:Int))= !false\/decide ((1:Int)<=l.data/\l.data<=(8:Int))= !false)/\(decide ((1:Int)<=l.data/\l.data<=(8:Int))= !!false\/decide ((1:Int)<=l.more/\l.more<=(6:Int))= !false)->(l.K\/(1:Int)<=l.data/\l.data<=(8:Int)/\(1:Int)<=l.more/\l.more<=(6:Int))/\(l.nodes<l.data+l.more->(8:Int)=l.e)/\(l.data+l.more<=l.nodes->aE (l.nodes - (1:Int))/\True/\(decide ((0:Int)<=l.turn/\l.turn<=l.nodes - (1:Int))= !true->(3:Int)=l.e)/\(decide ((0:Int)<=l.turn/\l.turn<=l.nodes - (1:Int))= !false->(0:Int)=l.e)))):=by
 unfold aO.e
 (try simp only [ady,adE,adh,ac9])
 (repeat' (first|apply And.intro|intro _))<;>first|assumption|trivial|omega|(focus ((repeat (first|rw [acN (by omega)]|rw [acL (by omega)]));done))|(grind [aE])|trace_state
theorem EU:wO.Ok Try.prog tD:=bO cP (Δ:=[wM,sn]) ⟨ET,wN,trivial⟩ (Ω:=[]) trivial wO Rg Ri (fun _=>[]) (fun _=>trivial) 0 (fun x=>(fun (l:aO)=>(fun _=>none)) x.1) fun x hp=>Eq.mp (by kernel_rfl) (XT x.1)
def EV:bk Tc Tc.dn:=⟨36,[.ty .aA],fun x=>(fun (n:Int)=>True) x.1,[.ed],fun x=>(fun (n:Int)=>decide (0<=n/\n<=63)) x.1⟩
theorem XU (n:Int):True/\decide ((0:Int)<=n/\n<=(63:Int))=decide ((0:Int)<=n/\n<=(63:Int)):=by
 (repeat' (first|apply And.intro|intro _))<;>first|assumption|trivial|omega|(grind [])|trace_state
theorem XV:EV.Ok Try.prog tD:=bO cP (Δ:=[wM]) ⟨ET,trivial⟩ (Ω:=[]) trivial EV RQ RR (fun _=>[]) (fun _=>trivial) 0 (fun x=>(fun (n:Int)=>(fun _=>none)) x.1) fun x hp=>Eq.mp (by kernel_rfl) (XU x.1)
def wP:bk Tc Tc.dn:=⟨49,[.ty .jM, .ty .aA, .ty .aA],fun x=>(fun (l:aO) (k6:Int) (piece:Int)=>l.K/\0<=k6/\k6<=100/\0<=piece/\piece<=100) x.1 x.2.1 x.2.2.1,[.aA],fun x=>(fun (l:aO) (k6:Int) (piece:Int)=>l.node k6 piece) x.1 x.2.1 x.2.2.1⟩
theorem XW (l:aO) (k6:Int) (piece:Int) (hp:l.K/\0<=k6/\k6<=100/\0<=piece/\piece<=100):aE (l.turn+k6)/\aE (l.turn+k6+piece)/\l.nodes≠(0:Int)/\(l.turn+k6+piece).tmod l.nodes=l.node k6 piece:=by
 have h1:=hp.1.n
 have h2:=hp.1.t
 have h3:= @Lm (l.turn+k6+piece) l.nodes (by omega) (by omega)
 unfold aO.node
 (repeat' (first|apply And.intro|intro _))<;>first|assumption|trivial|omega|(grind [aE])|trace_state
theorem EX:wP.Ok Try.prog tD:=bO cP (Δ:=[]) trivial (Ω:=[]) trivial wP So Sp (fun _=>[]) (fun _=>trivial) 0 (fun x=>(fun (l:aO) (k6:Int) (piece:Int)=>(fun _=>none)) x.1 x.2.1 x.2.2.1) fun x hp=>Eq.mp (by kernel_rfl) (XW x.1 x.2.1 x.2.2.1 hp)
def EY:bk Tc Tc.dn:=⟨35,[.ptr .aA, .ptr .aA, .ptr .jM],fun x=>(fun (s:Int) (n:Int) (l:aO)=>l.K) x.1 x.2.1 x.2.2.1,[.ed],fun x=>(fun (s:Int) (n:Int) (l:aO)=>decide (0<=s/\s<=63/\0<=n/\n<l.nodes)) x.1 x.2.1 x.2.2.1⟩
theorem XX (s:Int) (n:Int) (l:aO) (hp:l.K):True/\(decide ((0:Int)<=s/\s<=(63:Int))=true->decide ((0:Int)<=s/\s<=(63:Int))=true)/\(decide ((0:Int)<=s/\s<=(63:Int))=true->decide ((0:Int)<=s/\s<=(63:Int))=true)/\(decide ((0:Int)<=s/\s<=(63:Int))=true->aE (l.nodes - (1:Int)))/\(decide ((0:Int)<=s/\s<=(63:Int))=true->decide ((0:Int)<=s/\s<=(63:Int))=true)/\(decide ((0:Int)<=s/\s<=(63:Int))=true->decide ((0:Int)<=s/\s<=(63:Int))=true)/\(decide ((0:Int)<=s/\s<=(63:Int))=true->True)/\(decide ((0:Int)<=s/\s<=(63:Int))=true->decide ((0:Int)<=s/\s<=(63:Int))=true)/\(decide ((0:Int)<=s/\s<=(63:Int))&&decide ((0:Int)<=n/\n<=l.nodes - (1:Int)))=decide ((0:Int)<=s/\s<=(63:Int)/\(0:Int)<=n/\n<l.nodes):=by
 have h1:=hp.n
 (repeat' (first|apply And.intro|intro _))<;>first|assumption|trivial|omega|(grind [aE])|trace_state
theorem XY:EY.Ok Try.prog tD:=bO cP (Δ:=[EV,wM]) ⟨XV,ET,trivial⟩ (Ω:=[]) trivial EY RN RO (fun _=>[]) (fun _=>trivial) 0 (fun x=>(fun (s:Int) (n:Int) (l:aO)=>(fun _=>none)) x.1 x.2.1 x.2.2.1) fun x hp=>Eq.mp (by kernel_rfl) (XX x.1 x.2.1 x.2.2.1 hp)
def EZ:bk Tc Tc.dn:=⟨34,[.ty .jM, .jh 35 [(true, .aA),(true, .aA),(true, .jM)]],fun x=>(fun (l:aO) (s:Int) (n:Int) (l2:aO)=>l2=l) x.1 x.2.1.1 x.2.1.2.1 x.2.1.2.2.1,[.aA],fun x=>(fun (l:aO) (s:Int) (n:Int) (l2:aO)=>if ¬l.e=0 then l.e else if ¬(0<=s/\s<=63/\0<=n/\n<l.nodes) then 3 else 0) x.1 x.2.1.1 x.2.1.2.1 x.2.1.2.2.1⟩
theorem XZ (l:aO) (s:Int) (n:Int) (l2:aO) (hp:l2=l):True/\(l.e=(0:Int)->l.e=(0:Int))/\(l.e=(0:Int)->l2.K)/\(l.e=(0:Int)->l.e=(0:Int))/\(l.e=(0:Int)->l.e=(0:Int))/\(l.e=(0:Int)/\decide ((0:Int)<=s/\s<=(63:Int)/\(0:Int)<=n/\n<l2.nodes)= !true->(3:Int)=if ¬l.e=(0:Int) then l.e else if ¬((0:Int)<=s/\s<=(63:Int)/\(0:Int)<=n/\n<l.nodes) then (3:Int) else (0:Int))/\(¬l.e=(0:Int)\/decide ((0:Int)<=s/\s<=(63:Int)/\(0:Int)<=n/\n<l2.nodes)= !false->l.e=if ¬l.e=(0:Int) then l.e else if ¬((0:Int)<=s/\s<=(63:Int)/\(0:Int)<=n/\n<l.nodes) then (3:Int) else (0:Int)):=by
 subst hp
 have h1:= @aO.pz l2
 (try simp only [ady,adE,adh,ac9])
 (repeat' (first|apply And.intro|intro _))<;>first|assumption|trivial|omega|(grind [])|trace_state
theorem X0:EZ.Ok Try.prog tD:=bO cP (Δ:=[wO,EY]) ⟨EU,XY,trivial⟩ (Ω:=[]) trivial EZ RI RJ (fun _=>[]) (fun _=>trivial) 0 (fun x=>(fun (l:aO) (s:Int) (n:Int) (l2:aO)=>(fun _=>none)) x.1 x.2.1.1 x.2.1.2.1 x.2.1.2.2.1) fun x hp=>Eq.mp (by kernel_rfl) (XZ x.1 x.2.1.1 x.2.1.2.1 x.2.1.2.2.1 hp)
def E5:bk Tc Tc.dn:=⟨12,[.ty .jM, .ty .aA, .ty .aA],fun x=>(fun (l:aO) (s:Int) (n:Int)=>True) x.1 x.2.1 x.2.2.1,[.aA, .ed, .aA],fun x=>(fun (l:aO) (s:Int) (n:Int)=>l.piece s n) x.1 x.2.1 x.2.2.1⟩
theorem X1 (l:aO) (s:Int) (n:Int):l=l/\(¬(if ¬l.e=(0:Int) then l.e else if ¬((0:Int)<=s/\s<=(63:Int)/\(0:Int)<=n/\n<l.nodes) then (3:Int) else (0:Int))=(0:Int)->((0:Int),false,if ¬l.e=(0:Int) then l.e else if ¬((0:Int)<=s/\s<=(63:Int)/\(0:Int)<=n/\n<l.nodes) then (3:Int) else (0:Int))=l.piece s n)/\((if ¬l.e=(0:Int) then l.e else if ¬((0:Int)<=s/\s<=(63:Int)/\(0:Int)<=n/\n<l.nodes) then (3:Int) else (0:Int))=(0:Int)->aE (n - l.turn)/\aE (n - l.turn - s)/\l.nodes≠(0:Int)/\((n - l.turn - s).tmod l.nodes<(0:Int)->aE ((n - l.turn - s).tmod l.nodes+l.nodes)/\(l.K\/(1:Int)<=l.data/\l.data<=(8:Int)/\(1:Int)<=l.more/\l.more<=(6:Int))/\(l.data+l.more<=(n - l.turn - s).tmod l.nodes+l.nodes->((0:Int),false,(0:Int))=l.piece s n)/\((n - l.turn - s).tmod l.nodes+l.nodes<l.data+l.more->((n - l.turn - s).tmod l.nodes+l.nodes,true,(0:Int))=l.piece s n))/\((0:Int)<=(n - l.turn - s).tmod l.nodes->(l.K\/(1:Int)<=l.data/\l.data<=(8:Int)/\(1:Int)<=l.more/\l.more<=(6:Int))/\(l.data+l.more<=(n - l.turn - s).tmod l.nodes->((0:Int),false,(0:Int))=l.piece s n)/\((n - l.turn - s).tmod l.nodes<l.data+l.more->((n - l.turn - s).tmod l.nodes,true,(0:Int))=l.piece s n))):=by
 have h1:= @aO.pz l
 have h2:= @XP l s n
 have h3:= @XQ l s n
 have h4:l.K->1<=l.nodes/\l.nodes<=12:=fun h=>h.n
 have h5:l.K->0<=l.turn/\l.turn<l.nodes:=fun h=>h.t
 have h6:= @Ll (n - l.turn - s) l.nodes
 have h7:= @aO.K.piece l
 have h8:l.pc s n=(n - l.turn - s)%l.nodes:=rfl
 have h9:l.K->0<=l.pc s n/\l.pc s n<l.nodes:=fun h=>h.pc s n
 have h10:l.has s n=decide (l.pc s n<l.data+l.more):=rfl
 (try simp only [ady,adE,adh,ac9])
 (repeat' (first|apply And.intro|intro _))<;>first|assumption|trivial|omega|(grind [aE])|trace_state
theorem X2:E5.Ok Try.prog tD:=bO cP (Δ:=[EZ,sn]) ⟨X0,wN,trivial⟩ (Ω:=[]) trivial E5 QQ QR (fun _=>[]) (fun _=>trivial) 0 (fun x=>(fun (l:aO) (s:Int) (n:Int)=>(fun _=>none)) x.1 x.2.1 x.2.2.1) fun x hp=>Eq.mp (by kernel_rfl) (X1 x.1 x.2.1 x.2.2.1)
open Go.RowKit
structure k7 (v:ah):Prop where
 lay:v.layout.K
 qH:1<=v.size/\v.size<=64
 str:1<=(v.versions.length:Int)/\(v.versions.length:Int)<=64
 ver:∀x,x∈v.versions->1<=x/\x<=1000000
 l8:(v.nodes.length:Int)=v.layout.nodes
 nP:∀x,x∈v.nodes->x.pieces.length=v.versions.length
theorem ah.K.pre (h:v.K):k7 v:=⟨h.lay,h.qH,by have:=h.str;omega,h.ver,h.l8,h.nP⟩
theorem k7.X3 (h1:v.layout.e=0) (h2:1<=v.size/\v.size<=64) (h3:1<=(v.versions.length:Int)/\(v.versions.length:Int)<=64) (h4:¬v.versions.any dz=true) (h5:(v.nodes.length:Int)=v.layout.nodes) (h6:¬v.nodes.any (dv v.versions.length)=true):k7 v:=
 ⟨aO.pz.1 h1,h2,h3,fun x hx=>by
  have:¬dz x=true:=fun hh=>h4 (adr.2 ⟨x,hx,hh⟩)
  unfold dz at this;simpa using this,h5,fun x hx=>by
  have:¬dv v.versions.length x=true:=fun hh=>h6 (adr.2 ⟨x,hx,hh⟩)
  unfold dv at this;simp at this;omega⟩
theorem k7.Lp (h:k7 v):bN v=kY (Al v) (v.nodes.length:Int).toNat 0:=by
 have h1:=aO.pz.2 h.lay;have h2:=h.qH;have h3:=h.str;have h4:=h.l8
 have b1:¬v.versions.any dz=true:=fun hh=>by
  obtain ⟨x,hx,hp⟩:=adr.1 hh
  have:=h.ver x hx
  unfold dz at hp;simp at hp;omega
 have b2:¬v.nodes.any (dv v.versions.length)=true:=fun hh=>by
  obtain ⟨x,hx,hp⟩:=adr.1 hh
  have:=h.nP x hx
  unfold dv at hp;simp at hp;omega
 unfold bN
 rw [acL (by omega),acL (by rintro (hh|hh|hh);omega;omega;exact b1 hh),acL (by rintro (hh|hh);omega;exact b2 hh)]
theorem k7.shl (h:k7 v) {n:Int} (h0:0<=n) (h1:n<v.nodes.length):(gd (⟨false,[]⟩:Shelf) v.nodes n.toNat).pieces.length=v.versions.length:=h.nP _ (iv (by omega))
theorem X4 {v:ah} (h:¬v.layout.e=0):bN v=v.layout.e:=by unfold bN;rw [acN h]
theorem X5 {v:ah} (h:v.layout.e=0) (h2:¬(1<=v.size/\v.size<=64)\/¬(1<=(v.versions.length:Int)/\(v.versions.length:Int)<=64)\/v.versions.any dz=true):bN v=3:=by unfold bN;rw [acL (by simp [h]),acN h2]
theorem X6 {v:ah} (h:v.layout.e=0) (h2:1<=v.size/\v.size<=64) (h3:1<=(v.versions.length:Int)/\(v.versions.length:Int)<=64) (h4:¬v.versions.any dz=true) (h5:¬(v.nodes.length:Int)=v.layout.nodes\/v.nodes.any (dv v.versions.length)=true):bN v=1:=by
 unfold bN
 rw [acL (by simp [h]),acL (by rintro (hh|hh|hh);omega;omega;exact h4 hh),acN h5]
structure jO (v:ah) (n:Int):Prop where
 p:k7 v
 e:kZ (Al v) (v.nodes.length:Int) n
structure iR (v:ah) (n s:Int):Prop where
 n0:0<=n
 n1:n<v.nodes.length
 e:kZ (fc v n) (v.versions.length:Int) s
theorem jO.start {v:ah} (h1:v.layout.e=0) (h2:1<=v.size/\v.size<=64) (h3:1<=(v.versions.length:Int)/\(v.versions.length:Int)<=64) (h4:¬v.versions.any dz=true) (h5:(v.nodes.length:Int)=v.layout.nodes) (h6:¬v.nodes.any (dv v.versions.length)=true):jO v 0:=⟨k7.X3 h1 h2 h3 h4 h5 h6,kZ.start (by omega)⟩
theorem iR.start {v:ah} {n:Int} (h:jO v n) (hn:n<v.nodes.length):iR v n 0:=⟨h.e.lo,hn,kZ.start (by omega)⟩
theorem iR.step {v:ah} {n s:Int} (h:iR v n s) (hs:s<v.versions.length) (e:fc v n s=0):iR v n (s+1):=⟨h.n0,h.n1,h.e.step hs e⟩
theorem iR.bad {v:ah} {n s:Int} (r:jO v n) (h:iR v n s) (hs:s<v.versions.length) (e:¬fc v n s=0):fc v n s=bN v:=by
 have:=h.e.bad hs e
 rw [this,r.p.Lp]
 exact r.e.bad h.n1 (by show ¬kY (fc v n) _ 0=0;rw [<-this];exact e)
theorem iR.fin {v:ah} {n s:Int} (r:jO v n) (h:iR v n s) (hs:v.versions.length<=s):jO v (n+1):=⟨r.p,r.e.step h.n1 (h.e.fin hs)⟩
theorem jO.fin {v:ah} {n:Int} (h:jO v n) (hn:v.nodes.length<=n):(0:Int)=bN v:=by rw [h.p.Lp,h.e.fin hn]
theorem jO.bd {v:ah} {n:Int} (h:jO v n):0<=n/\v.nodes.length<=12/\v.versions.length<=64:=by have h1:=h.p.l8;have h2:=h.p.lay.n;have h3:=h.p.str;exact ⟨h.e.lo,by omega,by omega⟩
theorem iR.bd {v:ah} {n s:Int} (h:iR v n s):0<=s/\0<=n/\n<v.nodes.length:=⟨h.e.lo,h.n0,h.n1⟩
def nR:bk Tc Tc.dn:=⟨27,[.ty .aA, .ty .aA, .ty .aA],fun x=>(fun (n:Int) (low:Int) (high:Int)=>True) x.1 x.2.1 x.2.2.1,[.ed],fun x=>(fun (n:Int) (low:Int) (high:Int)=>decide (low<=n/\n<=high)) x.1 x.2.1 x.2.2.1⟩
theorem X7 (n:Int) (low:Int) (high:Int):(low<=n->low<=n)/\(low<=n->low<=n)/\(low<=n->low<=n)/\(decide (low<=n)&&decide (n<=high))=decide (low<=n/\n<=high):=by
 (repeat' (first|apply And.intro|intro _))<;>first|assumption|trivial|omega|(grind [])|trace_state
theorem qI:nR.Ok Try.prog tD:=bO cP (Δ:=[]) trivial (Ω:=[]) trivial nR Rk Rl (fun _=>[]) (fun _=>trivial) 0 (fun x=>(fun (n:Int) (low:Int) (high:Int)=>(fun _=>none)) x.1 x.2.1 x.2.2.1) fun x hp=>Eq.mp (by kernel_rfl) (X7 x.1 x.2.1 x.2.2.1)
def E6:bk Tc Tc.dn:=⟨29,[.ty .aA],fun x=>(fun (n:Int)=>True) x.1,[.ed],fun x=>(fun (n:Int)=>dz n) x.1⟩
theorem X8 (n:Int):True/\(!decide ((1:Int)<=n/\n<=(1000000:Int)))=dz n:=by
 unfold dz
 (repeat' (first|apply And.intro|intro _))<;>first|assumption|trivial|omega|(grind [])|trace_state
theorem X9:E6.Ok Try.prog tD:=bO cP (Δ:=[nR]) ⟨qI,trivial⟩ (Ω:=[]) trivial E6 Rq Rr (fun _=>[]) (fun _=>trivial) 0 (fun x=>(fun (n:Int)=>(fun _=>none)) x.1) fun x hp=>Eq.mp (by kernel_rfl) (X8 x.1)
def E7:bk Tc Tc.dn:=⟨31,[.ty .kX, .ptr .aA],fun x=>(fun (s:Shelf) (k:Int)=>True) x.1 x.2.1,[.ed],fun x=>(fun (s:Shelf) (k:Int)=>dv k s) x.1 x.2.1⟩
theorem Ya (s:Shelf) (k:Int):(!(↑s.pieces.length:Int)==k)=dv k s:=by
 unfold dv
 (repeat' (first|apply And.intro|intro _))<;>first|assumption|trivial|omega|(grind [])|trace_state
theorem Yb:E7.Ok Try.prog tD:=bO cP (Δ:=[]) trivial (Ω:=[]) trivial E7 Rw Rx (fun _=>[]) (fun _=>trivial) 0 (fun x=>(fun (s:Shelf) (k:Int)=>(fun _=>none)) x.1 x.2.1) fun x hp=>Eq.mp (by kernel_rfl) (Ya x.1 x.2.1)
def wQ (xs:(List Int)) (j:Int):Prop:=fL (dz) xs j
def E8:bk Tc Tc.dn:=⟨53,[.ty .jN, .jh 29 []],fun x=>(fun (xs:(List Int))=>xs.length<=1000000) x.1,[.aA],fun x=>(fun (xs:(List Int))=>gN (dz) xs 0) x.1⟩
theorem Yc (xs:(List Int)) (hp:xs.length<=1000000):wQ xs (0:Int)/\∀(x:Int),wQ xs x->(x<(↑xs.length:Int)->((0:Int)<=x/\x<(↑xs.length:Int))/\True/\(dz (gd (0:Int) xs x.toNat)=true->x=gN dz xs (0:Int))/\(dz (gd (0:Int) xs x.toNat)=false->aE (x+(1:Int))/\wQ xs (x+(1:Int))/\((↑xs.length:Int) - (x+(1:Int))).toNat<((↑xs.length:Int) - x).toNat))/\((↑xs.length:Int)<=x->(-1:Int)=gN dz xs (0:Int)):=by
 have h1:= @fL.start Int (dz) xs
 have h2:= @fL.no Int (dz) 0 xs
 have h3:= @fL.yes Int (dz) 0 xs
 have h4:= @fL.fin Int (dz) xs
 have h5:= @fL.lo Int (dz) xs
 have h6:= @fL.sk Int (dz) xs
 (repeat' (first|apply And.intro|intro _))<;>first|assumption|trivial|omega|(grind [wQ,aE])|trace_state
theorem Ye:E8.Ok Try.prog tD:=bO cP (Δ:=[E6]) ⟨X9,trivial⟩ (Ω:=[]) trivial E8 Sx Sy (fun _=>[]) (fun _=>trivial) 0 (fun x=>(fun (xs:(List Int))=>(fun k=>bif Nat.beq k 0 then some (.inv [.sl 8 .aA] (fun zo zv=>(fun (j:Int)=>wQ xs j) zv.1) (fun zo zv=>(fun (j:Int)=>((xs.length:Int) - j).toNat) zv.1)) else none)) x.1) fun x hp=>Eq.mp (by kernel_rfl) (Yc x.1 hp)
def wR (xs:(List Shelf)) (w:Int) (j:Int):Prop:=fL (dv w) xs j
def E9:bk Tc Tc.dn:=⟨54,[.ty .si, .jh 31 [(true, .aA)]],fun x=>(fun (xs:(List Shelf)) (w:Int)=>xs.length<=1000000) x.1 x.2.1.1,[.aA],fun x=>(fun (xs:(List Shelf)) (w:Int)=>gN (dv w) xs 0) x.1 x.2.1.1⟩
theorem Yf (xs:(List Shelf)) (w:Int) (hp:xs.length<=1000000):wR xs w (0:Int)/\∀(x:Int),wR xs w x->(x<(↑xs.length:Int)->((0:Int)<=x/\x<(↑xs.length:Int))/\True/\(dv w (gd (Shelf.mk false []) xs x.toNat)=true->x=gN (dv w) xs (0:Int))/\(dv w (gd (Shelf.mk false []) xs x.toNat)=false->aE (x+(1:Int))/\wR xs w (x+(1:Int))/\((↑xs.length:Int) - (x+(1:Int))).toNat<((↑xs.length:Int) - x).toNat))/\((↑xs.length:Int)<=x->(-1:Int)=gN (dv w) xs (0:Int)):=by
 have h1:= @fL.start Shelf (dv w) xs
 have h2:= @fL.no Shelf (dv w) (⟨false,[]⟩:Shelf) xs
 have h3:= @fL.yes Shelf (dv w) (⟨false,[]⟩:Shelf) xs
 have h4:= @fL.fin Shelf (dv w) xs
 have h5:= @fL.lo Shelf (dv w) xs
 have h6:= @fL.sk Shelf (dv w) xs
 (repeat' (first|apply And.intro|intro _))<;>first|assumption|trivial|omega|(grind [wR,aE])|trace_state
theorem Yg:E9.Ok Try.prog tD:=bO cP (Δ:=[E7]) ⟨Yb,trivial⟩ (Ω:=[]) trivial E9 SA SC (fun _=>[]) (fun _=>trivial) 0 (fun x=>(fun (xs:(List Shelf)) (w:Int)=>(fun k=>bif Nat.beq k 0 then some (.inv [.sl 8 .aA] (fun zo zv=>(fun (j:Int)=>wR xs w j) zv.1) (fun zo zv=>(fun (j:Int)=>((xs.length:Int) - j).toNat) zv.1)) else none)) x.1 x.2.1.1) fun x hp=>Eq.mp (by kernel_rfl) (Yf x.1 x.2.1.1 hp)
def Fa:bk Tc Tc.dn:=⟨28,[.ty .jN, .jh 29 []],fun x=>(fun (xs:(List Int))=>xs.length<=1000000) x.1,[.ed],fun x=>(fun (xs:(List Int))=>xs.any dz) x.1⟩
theorem Yh (xs:(List Int)) (hp:xs.length<=1000000):xs.length<=(1000000:Nat)/\decide ((0:Int)<=gN dz xs (0:Int))=xs.any dz:=by
 have h1:= @Lo Int dz xs
 (repeat' (first|apply And.intro|intro _))<;>first|assumption|trivial|omega|(grind [])|trace_state
theorem Yi:Fa.Ok Try.prog tD:=bO cP (Δ:=[E8]) ⟨Ye,trivial⟩ (Ω:=[]) trivial Fa Rn Ro (fun _=>[]) (fun _=>trivial) 0 (fun x=>(fun (xs:(List Int))=>(fun _=>none)) x.1) fun x hp=>Eq.mp (by kernel_rfl) (Yh x.1 hp)
def Fb:bk Tc Tc.dn:=⟨30,[.ty .si, .jh 31 [(true, .aA)]],fun x=>(fun (xs:(List Shelf)) (w:Int)=>xs.length<=1000000) x.1 x.2.1.1,[.ed],fun x=>(fun (xs:(List Shelf)) (w:Int)=>xs.any (dv w)) x.1 x.2.1.1⟩
theorem Yj (xs:(List Shelf)) (w:Int) (hp:xs.length<=1000000):xs.length<=(1000000:Nat)/\decide ((0:Int)<=gN (dv w) xs (0:Int))=xs.any (dv w):=by
 have h1:= @Lo Shelf (dv w) xs
 (repeat' (first|apply And.intro|intro _))<;>first|assumption|trivial|omega|(grind [])|trace_state
theorem Yk:Fb.Ok Try.prog tD:=bO cP (Δ:=[E9]) ⟨Yg,trivial⟩ (Ω:=[]) trivial Fb Rt Ru (fun _=>[]) (fun _=>trivial) 0 (fun x=>(fun (xs:(List Shelf)) (w:Int)=>(fun _=>none)) x.1 x.2.1.1) fun x hp=>Eq.mp (by kernel_rfl) (Yj x.1 x.2.1.1 hp)
def Fc:bk Tc Tc.dn:=⟨32,[.ty .eV, .ty .aA, .ty .aA],fun x=>(fun (v:ah) (n:Int) (s:Int)=>k7 v/\0<=n/\n<v.nodes.length/\0<=s/\s<v.versions.length) x.1 x.2.1 x.2.2.1,[.aA],fun x=>(fun (v:ah) (n:Int) (s:Int)=>fc v n s) x.1 x.2.1 x.2.2.1⟩
abbrev dW (v:ah) (n:Int) (s:Int):=(gd (Piece.mk (0:Int) ByteArray.empty) (gd (Shelf.mk false []) v.nodes n.toNat).pieces s.toNat)
theorem Yl (v:ah) (n:Int) (s:Int) (hp:k7 v/\0<=n/\n<v.nodes.length/\0<=s/\s<v.versions.length):((0:Int)<=n/\n<(↑v.nodes.length:Int))/\((0:Int)<=s/\s<(↑(gd (Shelf.mk false []) v.nodes n.toNat).pieces.length:Int))/\True/\((v.layout.piece s n).snd.fst= !true->(v.layout.piece s n).snd.fst= !true)/\((v.layout.piece s n).snd.fst= !true->(v.layout.piece s n).snd.fst= !true)/\((v.layout.piece s n).snd.fst= !true->(v.layout.piece s n).snd.fst= !true)/\((v.layout.piece s n).snd.fst= !false\/(dW v n s).version=(0:Int)/\(dW v n s).data=ByteArray.mk #[]->(v.layout.piece s n).snd.fst=true->(v.layout.piece s n).snd.fst=true)/\((v.layout.piece s n).snd.fst= !false\/(dW v n s).version=(0:Int)/\(dW v n s).data=ByteArray.mk #[]->(v.layout.piece s n).snd.fst=true->(v.layout.piece s n).snd.fst=true)/\((v.layout.piece s n).snd.fst= !false\/(dW v n s).version=(0:Int)/\(dW v n s).data=ByteArray.mk #[]->(v.layout.piece s n).snd.fst=true->(v.layout.piece s n).snd.fst=true)/\((v.layout.piece s n).snd.fst= !false\/(dW v n s).version=(0:Int)/\(dW v n s).data=ByteArray.mk #[]->(v.layout.piece s n).snd.fst=true->(v.layout.piece s n).snd.fst=true)/\((v.layout.piece s n).snd.fst= !false\/(dW v n s).version=(0:Int)/\(dW v n s).data=ByteArray.mk #[]->(v.layout.piece s n).snd.fst=true->(v.layout.piece s n).snd.fst=true)/\((v.layout.piece s n).snd.fst= !false\/(dW v n s).version=(0:Int)/\(dW v n s).data=ByteArray.mk #[]->(v.layout.piece s n).snd.fst=true->(v.layout.piece s n).snd.fst=true)/\(((v.layout.piece s n).snd.fst= !true/\(¬(dW v n s).version=(0:Int)\/¬(dW v n s).data=ByteArray.mk #[]))/\(v.layout.piece s n).snd.fst= !true/\(¬(dW v n s).version=(0:Int)\/¬(dW v n s).data=ByteArray.mk #[])\/((v.layout.piece s n).snd.fst= !false\/(dW v n s).version=(0:Int)/\(dW v n s).data=ByteArray.mk #[])/\(v.layout.piece s n).snd.fst=true/\¬(↑(dW v n s).data.size:Int)=v.size->(1:Int)=fc v n s)/\((((v.layout.piece s n).snd.fst= !false\/(dW v n s).version=(0:Int)/\(dW v n s).data=ByteArray.mk #[])\/(v.layout.piece s n).snd.fst= !false\/(dW v n s).version=(0:Int)/\(dW v n s).data=ByteArray.mk #[])/\((v.layout.piece s n).snd.fst= !true/\(¬(dW v n s).version=(0:Int)\/¬(dW v n s).data=ByteArray.mk #[])\/(v.layout.piece s n).snd.fst=false\/(↑(dW v n s).data.size:Int)=v.size)->((0:Int)<=s/\s<(↑v.versions.length:Int))/\True/\(decide ((0:Int)<=(dW v n s).version/\(dW v n s).version<=gd (0:Int) v.versions s.toNat)= !true->(3:Int)=fc v n s)/\(decide ((0:Int)<=(dW v n s).version/\(dW v n s).version<=gd (0:Int) v.versions s.toNat)= !false->(0:Int)=fc v n s)):=by
 delta dW
 obtain ⟨hP,q1,q2,q3,q4⟩:=hp
 have h1:=hP.shl q1 q2
 have h2:=hP.l8
 have h3:=hP.str
 have h4:=hP.lay.piece (s:=s) (n:=n) ⟨q3,by omega⟩ ⟨q1,by omega⟩
 rw [h4]
 unfold fc
 have he:(ByteArray.mk #[])=ByteArray.empty:=rfl
 simp only [he,ah.at_]
 (try simp only [ady,adE,adh,ac9])
 (repeat' (first|apply And.intro|intro _))<;>first|assumption|trivial|omega|(grind [aE])|trace_state
theorem Ym:Fc.Ok Try.prog tD:=bO cP (Δ:=[E5,nR]) ⟨X2,qI,trivial⟩ (Ω:=[]) trivial Fc Rz RA (fun _=>[]) (fun _=>trivial) 0 (fun x=>(fun (v:ah) (n:Int) (s:Int)=>(fun _=>none)) x.1 x.2.1 x.2.2.1) fun x hp=>Eq.mp (by kernel_rfl) (Yl x.1 x.2.1 x.2.2.1 hp)
def qJ (v:ah) (s0:Int) (n0:Int) (m0:Int) (s:Int) (n:Int) (m:Int):Prop:=n=n0/\m=n0/\iR v n s
def qK (v:ah) (n:Int):Prop:=jO v n
def qL:bk Tc Tc.dn:=⟨10,[.ty .eV],fun x=>(fun (v:ah)=>True) x.1,[.aA],fun x=>(fun (v:ah)=>bN v) x.1⟩
abbrev qM (v:ah):=((1:Int)<=(↑v.versions.length:Int)/\(↑v.versions.length:Int)<=(64:Int))
theorem Yn (v:ah):True/\(¬v.layout.e=(0:Int)->v.layout.e=bN v)/\(v.layout.e=(0:Int)->True/\(decide ((1:Int)<=v.size/\v.size<=(64:Int))= !true->(decide ((1:Int)<=v.size/\v.size<=(64:Int))= !true->(3:Int)=bN v)/\(decide ((1:Int)<=v.size/\v.size<=(64:Int))= !false->((↑v.nodes.length:Int)=v.layout.nodes->v.nodes.length<=(1000000:Nat))/\(¬(↑v.nodes.length:Int)=v.layout.nodes/\¬(↑v.nodes.length:Int)=v.layout.nodes\/(↑v.nodes.length:Int)=v.layout.nodes/\v.nodes.any (dv (↑v.versions.length:Int))=true->(1:Int)=bN v)/\(((↑v.nodes.length:Int)=v.layout.nodes\/(↑v.nodes.length:Int)=v.layout.nodes)/\(¬(↑v.nodes.length:Int)=v.layout.nodes\/v.nodes.any (dv (↑v.versions.length:Int))=false)->qK v (0:Int)/\∀(x:Int),qK v x->(x<(↑v.nodes.length:Int)->qJ v (0:Int) x x (0:Int) x x/\∀(af aD ae:Int),qJ v (0:Int) x x af aD ae->(af<(↑v.versions.length:Int)->(k7 v/\(0:Int)<=ae/\ae<(↑v.nodes.length:Int)/\(0:Int)<=af/\af<(↑v.versions.length:Int))/\(¬fc v ae af=(0:Int)->fc v ae af=bN v)/\(fc v ae af=(0:Int)->aE (af+(1:Int))/\qJ v (0:Int) x x (af+(1:Int)) aD ae/\((↑v.versions.length:Int) - (af+(1:Int))).toNat<((↑v.versions.length:Int) - af).toNat))/\((↑v.versions.length:Int)<=af->aE (aD+(1:Int))/\qK v (aD+(1:Int))/\((↑v.nodes.length:Int) - (aD+(1:Int))).toNat<((↑v.nodes.length:Int) - x).toNat))/\((↑v.nodes.length:Int)<=x->(0:Int)=bN v))))/\(decide ((1:Int)<=v.size/\v.size<=(64:Int))= !false->True/\(decide (qM v)= !!true->v.versions.length<=(1000000:Nat))/\(decide (qM v)= !true/\decide (qM v)= !true\/decide (qM v)= !!true/\v.versions.any dz=true->(3:Int)=bN v)/\((decide (qM v)= !false\/decide (qM v)= !false)/\(decide (qM v)= !!false\/v.versions.any dz=false)->((↑v.nodes.length:Int)=v.layout.nodes->v.nodes.length<=(1000000:Nat))/\(¬(↑v.nodes.length:Int)=v.layout.nodes/\¬(↑v.nodes.length:Int)=v.layout.nodes\/(↑v.nodes.length:Int)=v.layout.nodes/\v.nodes.any (dv (↑v.versions.length:Int))=true->(1:Int)=bN v)/\(((↑v.nodes.length:Int)=v.layout.nodes\/(↑v.nodes.length:Int)=v.layout.nodes)/\(¬(↑v.nodes.length:Int)=v.layout.nodes\/v.nodes.any (dv (↑v.versions.length:Int))=false)->qK v (0:Int)/\∀(x:Int),qK v x->(x<(↑v.nodes.length:Int)->qJ v (0:Int) x x (0:Int) x x/\∀(af aD ae:Int),qJ v (0:Int) x x af aD ae->(af<(↑v.versions.length:Int)->(k7 v/\(0:Int)<=ae/\ae<(↑v.nodes.length:Int)/\(0:Int)<=af/\af<(↑v.versions.length:Int))/\(¬fc v ae af=(0:Int)->fc v ae af=bN v)/\(fc v ae af=(0:Int)->aE (af+(1:Int))/\qJ v (0:Int) x x (af+(1:Int)) aD ae/\((↑v.versions.length:Int) - (af+(1:Int))).toNat<((↑v.versions.length:Int) - af).toNat))/\((↑v.versions.length:Int)<=af->aE (aD+(1:Int))/\qK v (aD+(1:Int))/\((↑v.nodes.length:Int) - (aD+(1:Int))).toNat<((↑v.nodes.length:Int) - x).toNat))/\((↑v.nodes.length:Int)<=x->(0:Int)=bN v))))):=by
 delta qM
 have a1:= @X4 v
 have a2:= @X5 v
 have a3:= @X6 v
 have b1:= @jO.start v
 have b2:= @iR.start v
 have b3:= @iR.step v
 have b4:= @iR.bad v
 have b5:= @iR.fin v
 have b6:= @jO.fin v
 have b7:= @jO.bd v
 have b8:= @iR.bd v
 have b9:=fun n=> @jO.p v n
 have c1:= @qG
 have c2:v.layout.e=0->(v.nodes.length:Int)=v.layout.nodes->v.nodes.length<=12:=fun h h2=>by have:=(aO.pz.1 h).n;omega
 (try simp only [ady,adE,adh,ac9])
 (repeat' (first|apply And.intro|intro _))<;>first|assumption|trivial|omega|(grind [qJ,qK,aE])|trace_state
theorem tW:qL.Ok Try.prog tD:=bO cP (Δ:=[wO,nR,Fa,Fb,Fc]) ⟨EU,qI,Yi,Yk,Ym,trivial⟩ (Ω:=[]) trivial qL QK QL (fun _=>[]) (fun _=>trivial) 0 (fun x=>(fun (v:ah)=>(fun k=>bif Nat.beq k 0 then some (.inv [.sl 43 .aA] (fun zo zv=>(fun (n:Int)=>qK v n) zv.1) (fun zo zv=>(fun (n:Int)=>((v.nodes.length:Int) - n).toNat) zv.1)) else bif Nat.beq k 1 then some (.inv [.sl 47 .aA, .sl 43 .aA, .sl 5 .aA] (fun zo zv=>(fun (s0:Int) (n0:Int) (m0:Int) (s:Int) (n:Int) (m:Int)=>qJ v s0 n0 m0 s n m) zo.1 zo.2.1 zo.2.2.1 zv.1 zv.2.1 zv.2.2.1) (fun zo zv=>(fun (s0:Int) (n0:Int) (m0:Int) (s:Int) (n:Int) (m:Int)=>((v.versions.length:Int) - s).toNat) zo.1 zo.2.1 zo.2.2.1 zv.1 zv.2.1 zv.2.2.1)) else none)) x.1) fun x hp=>Eq.mp (by kernel_rfl) (Yn x.1)
open Go.ChangeShapes Go.WideShapes Go.ChangeAt Go.RowKit
open Go.ChangeMaps (open_string shut_string)
theorem Lq (a:UInt8):((a.toNat:Int)*(2:Int)%(256:Int))=((a<<<1).toNat:Int):=by
 have h:(a<<<1).toNat=a.toNat*2%256:=by
  have:=lR (fun a=>(a<<<1).toNat==a.toNat*2%256) (by decide+kernel) a
  simpa using this
 rw [h];omega
theorem Lr (a:UInt8):((a.toNat:Int) / (2:Int))=((a>>>1).toNat:Int):=by
 have h:(a>>>1).toNat=a.toNat / 2:=by
  have:=lR (fun a=>(a>>>1).toNat==a.toNat / 2) (by decide+kernel) a
  simpa using this
 rw [h];omega
theorem Ls (a:UInt8):bits .and .u8 (a.toNat:Int) 1=((a&&&1).toNat:Int):=Uk a 1
theorem Yo (a:UInt8):bits .xor .u8 (a.toNat:Int) 29=((a^^^29).toNat:Int):=IN a 29
theorem Yp (a:UInt8) (h:127<(a.toNat:Int)):bits .xor .u8 ((a.toNat:Int)*(2:Int)%(256:Int)) 29=((xt a).toNat:Int):=by
 rw [Lq,Yo,xt,acN (by rw [gt_iff_lt,UInt8.lt_iff_toNat_lt];show 127<_;omega)]
theorem Yq (a:UInt8) (h:(a.toNat:Int)<=127):((a.toNat:Int)*(2:Int)%(256:Int))=((xt a).toNat:Int):=by
 rw [Lq,xt,acL (by rw [gt_iff_lt,UInt8.lt_iff_toNat_lt];simp;omega)]
theorem Yr (n:Nat) (a b o:UInt8) (h:((b.toNat:Int) !=0)=false):gm n a b o=o:=by
 have:b=0:=by
  apply aeH.1
  simpa using h
 subst this;exact Ip n a o
theorem Ys (b:UInt8) (h:(bits BinOp.and IntKind.u8 (b.toNat:Int) 1 !=0)=true):¬b&&&1=0:=by
 intro h2;rw [Ls,h2] at h;exact absurd h (by decide)
theorem Yt (b:UInt8) (h:(bits BinOp.and IntKind.u8 (b.toNat:Int) 1 !=0)=false):b&&&1=0:=by
 rw [Ls] at h
 have h2:((b&&&1).toNat:Int)=0:=by simpa only [bne_eq_false_iff_eq] using h
 apply aeH.1
 show _=0
 omega
set_option maxRecDepth 100000 in
set_option maxHeartbeats 400000 in
theorem Yu (a b:UInt8) (w:World):
  Calls Try.prog 66 #[B a,B b] w fun e w'=>e= .returned (B (aW a b))/\w=w':=by
 go_enter Try.func66,Try.ntmps66
 go_wp2
 go_loop [0,1,5] (fun x y o=>∃(n:Nat) (a' b' o':UInt8),x=B a'/\y=B b'/\o=B o'/\b'.toNat<2^n/\gm n a' b' o'=aW a b) (fun _ y _=>(intOf y).toNat)
 case atStart=>exact ⟨8,a,b,0,rfl,rfl,rfl,b.toNat_lt,rfl⟩
 case round=>
  obtain ⟨n,a',b',o',rfl,rfl,rfl,hb,hg⟩:=hrel
  have Hg:=Lib.hid hg
  clear hg
  by_cases h0:b'=0
  ·subst h0
   go_wp2
   go_ret
   rw [Yr _ _ _ _ rfl] at Hg
   have hg:=Hg.out
   subst hg
   exact ⟨rfl,rfl⟩
  ·have hb0:0<b'.toNat:=by
    rcases aec b'.toNat with h|h
    ·exact absurd (aeH.1 h) h0
    ·exact h
   obtain ⟨m,rfl⟩:∃m,n=m+1:=by
    cases n with
    |zero=>simp at hb;omega
    |succ m=>exact ⟨m,rfl⟩
   have hs:(b'>>>1).toNat<2^m:=by
    have:=Lr b'
    have h2:2^(m+1)=2^m*2:=Nat.pow_succ ..
    omega
   have Hs:=Lib.hid hs
   clear hb
   have e1:=Lr b'
   have E1:=Lib.hid e1
   clear e1
   go_wp2
   all_goals
    go_round
    case rel=>
     refine ⟨m,xt a',b'>>>1,if b'&&&1=0 then o' else o'^^^a', ?_,by rw [E1.out], ?_,Hs.out,Hg.out⟩
     ·first|rw [Yp _ (by assumption)]|rw [Yq _ (by assumption)]
     ·first|rw [acL (Ys _ (by assumption)),IN]|rw [acN (Yt _ (by assumption))]
    case measure=>simp [intOf];omega
def nS:Array Value:=Array.replicate 510 (.int .u8 0)++Array.replicate 256 (.int .i64 0)
theorem Yv (w:World):(zeroValue 144).run Try.prog w= .ok (.agg nS) w:=by kernel_rfl
def jm (k i:Nat):Value:=
 if i<255 then (if i<k then B (pw i) else B 0) else if i<510 then (if i<k+255 then B (pw (i - 255)) else B 0) else .int .i64 (mG k (UInt8.ofNat (i - 510)))
theorem Yw (i:Nat) (h:i<766):nS[i]? =some (jm 0 i):=by
 unfold nS jm
 rw [Array.getElem?_append]
 simp only [Array.size_replicate,Array.getElem?_replicate,mG]
 by_cases h1:i<255
 ·simp [h1,show i<510 by omega]
 ·by_cases h2:i<510
  ·simp [h1,h2]
  ·simp [h1,h2];omega
theorem Yx (w:World):(w.alloc (.cells nS 144)).rowIs w.heap.size 144 766 (jm 0):=by
 have h:=World.rowIs_alloc w nS 144 (jm 0) (fun i hi=>Yw i (by rw [show nS.size=766 by simp [nS]] at hi;exact hi))
 rwa [show nS.size=766 by simp [nS]] at h
attribute [irreducible] nS
theorem Lt (p:UInt8):(127<p.toNat->(p.toNat*2)^^^285=(xt p).toNat)/\(p.toNat<=127->p.toNat*2=(xt p).toNat):=by
 have:=lR (fun p=>decide ((127<p.toNat->(p.toNat*2)^^^285=(xt p).toNat)/\(p.toNat<=127->p.toNat*2=(xt p).toNat))) (by decide+kernel) p
 exact ad8 this
theorem Yy (p:UInt8) (h:(255:Int)<(p.toNat:Int)*2):I (bits .xor .i64 ((p.toNat:Int)*2) 285)=I (xt p).toNat:=by
 have h1:=(Lt p).1 (by omega)
 have h2:=Um (p.toNat*2) 285 (by have:=p.toNat_lt;omega) (by omega)
 rw [h1] at h2
 rw [<-h2];rfl
theorem Yz (p:UInt8) (h:(p.toNat:Int)*2<=255):I ((p.toNat:Int)*2)=I (xt p).toNat:=by
 have h1:=(Lt p).2 (by omega)
 rw [<-h1];rfl
theorem YA (k:Nat) (hk:k<255) (w:World) (b:Nat) (h:w.rowIs b 144 766 (jm k)):
  (((w.setCell ⟨b,k,none⟩ (B (pw k))).setCell ⟨b,k+255,none⟩ (B (pw k))).setCell ⟨b,510+(pw k).toNat,none⟩ (I k)).rowIs b 144 766 (jm (k+1)):=by
 refine (((h.set k _).set (k+255) _).set _ _).congr fun i hi=> ?_
 have hp:=(pw k).toNat_lt
 unfold jm
 by_cases h1:i=510+(pw k).toNat
 ·subst h1
  rw [acN rfl,acL (by omega),acL (by omega),show 510+(pw k).toNat - 510=(pw k).toNat by omega,UInt8.ofNat_toNat,mG,acN rfl]
 ·rw [acL h1]
  by_cases h2:i=k+255
  ·subst h2
   rw [acN rfl,acL (by omega),acN (by omega),acN (by omega),show k+255 - 255=k by omega]
  ·rw [acL h2]
   by_cases h3:i=k
   ·subst h3
    rw [acN rfl,acN (by omega),acN (by omega)]
   ·rw [acL h3]
    by_cases h4:i<255
    ·rw [acN h4,acN h4]
     by_cases h5:i<k
     ·rw [acN h5,acN (by omega)]
     ·rw [acL h5,acL (by omega)]
    ·rw [acL h4,acL h4]
     by_cases h6:i<510
     ·rw [acN h6,acN h6]
      by_cases h5:i<k+255
      ·rw [acN h5,acN (by omega)]
      ·rw [acL h5,acL (by omega)]
     ·rw [acL h6,acL h6,mG,acL]
      intro he
      apply h1
      rw [he,UInt8.toNat_ofNat']
      omega
set_option maxRecDepth 10000 in
set_option maxHeartbeats 400000 in
theorem Lu (w:World):
  Calls Try.prog 92 #[] w fun e w'=>e= .returned (.pointer (some ⟨w.heap.size,0,none⟩))/\w'.rowIs w.heap.size 144 766 (jm 255)/\Below w.heap.size w w':=by
 have hnew:=Yv
 go_enter Try.func92,Try.ntmps92
 go_wp2
 go_loopw [2,5] (fun x i wr=>∃k:Nat,k<=255/\i=I k/\x=I (pw k).toNat/\wr.rowIs w.heap.size 144 766 (jm k)/\Below w.heap.size w wr) (fun _ i _=>(255 - intOf i).toNat)
 case atStart=>exact ⟨0,by omega,rfl,rfl,Yx w,(adG _ _).alloc (acV _) _⟩
 case round=>
  obtain ⟨k,hk,rfl,rfl,hrow,hb⟩:=hrel
  by_cases hlt:k<255
  ·have c1:=hrow.cell (i:=k) (by omega)
   have c2:=hrow.cell (i:=k+255) (by omega)
   have c3:=hrow.cell (i:=510+(pw k).toNat) (by have:=(pw k).toNat_lt;omega)
   have f1:=hrow.frozen k
   have f2:=hrow.frozen (k+255)
   have f3:=hrow.frozen (510+(pw k).toNat)
   have Hrow:=Lib.hid (YA k hlt _ _ hrow)
   have Hb:=Lib.hid hb
   clear hrow hb
   generalize jm k k=v1 at c1
   generalize jm k (k+255)=v2 at c2
   generalize jm k (510+(pw k).toNat)=v3 at c3
   obtain ⟨p,hp⟩:∃p,p=pw k:=⟨_,rfl⟩
   rw [<-hp] at c3 f3 Hrow ⊢
   have Hp:=Lib.hid hp
   have p1:=IP p
   clear hp
   have e1:((p.toNat:Int)%256)=(p.toNat:Int):=by omega
   go_wp2
   go_region
   go_wp2
   all_goals
    go_roundw
    case rel=>
     refine ⟨k+1,by omega,by go_num, ?_,Hrow.out,(((Hb.out.setCell (acV _) _).setCell (acV _) _).drew).setCell (acV _) _⟩
     rw [show pw (k+1)=xt (pw k) from rfl, <-Hp.out]
     first|exact Yy p (by assumption)|exact Yz p (by assumption)
    case measure=>simp [intOf];omega
  ·obtain rfl:k=255:=by omega
   have Hrow:=Lib.hid hrow
   have Hb:=Lib.hid hb
   clear hrow hb
   generalize (pw 255).toNat=q
   go_wp2
   go_ret
   exact ⟨rfl,Hrow.out,Hb.out⟩
theorem YB (n:Int): -254<=n.tmod 255/\n.tmod 255<=254:=by
 have h1:=Int.tmod_lt_of_pos n (show (0:Int)<255 by omega)
 have h2:=Int.tmod_lt_of_pos (-n) (show (0:Int)<255 by omega)
 rw [Int.neg_tmod] at h2
 omega
theorem YC (n:Int):n.tmod 255%255=n%255:=by
 have h:=Int.tmod_add_mul_tdiv n 255
 omega
set_option maxRecDepth 10000 in
set_option maxHeartbeats 400000 in
theorem YD (n:Int) (w:World):
  Calls Try.prog 81 #[I n] w fun e w'=>e= .returned (B (kQ n))/\Below w.heap.size w w':=by
 have h1:=YB n
 have h2:jm 255 (n.tmod 255%255).toNat=B (kQ n):=by
  have:=YC n
  rw [this,jm,acN (by omega),acN (by omega)];rfl
 have H2:=Lib.hid h2
 clear h2
 go_enter Try.func81,Try.ntmps81
 go_wp2_with (go_at_call 92;refine (Lu _).mono ?_;rintro e w' ⟨rfl,hrow,hb⟩;have hc:=hrow.cell (i:=(n.tmod 255%255).toNat) (by omega);rw [H2.out] at hc;have Hrow:=Lib.hid hrow;clear hrow)
 go_ret
 exact ⟨rfl,hb⟩
theorem YE (w:World):Calls Try.prog 80 #[B 0] w fun e w'=>e= .returned (.tuple #[I 0,I 5])/\Below w.heap.size w w':=by
 go_enter Try.func80,Try.ntmps80
 go_wp2
 go_ret2
 exact ⟨rfl,adG _ _⟩
set_option maxRecDepth 10000 in
set_option maxHeartbeats 400000 in
theorem YF (a:UInt8) (ha:a≠0) (w:World):
  Calls Try.prog 80 #[B a] w fun e w'=>e= .returned (.tuple #[I (lg a),I 0])/\Below w.heap.size w w':=by
 have hz:(((a.toNat:Int))==0)=false:=by rw [Ul];simpa using ha
 have p1:=IP a
 have h2:jm 255 (510+a.toNat)=I (lg a):=by
  rw [jm,acL (by omega),acL (by omega),show 510+a.toNat - 510=a.toNat by omega,UInt8.ofNat_toNat];rfl
 have H2:=Lib.hid h2
 clear h2
 go_enter Try.func80,Try.ntmps80
 go_wp2_with (go_at_call 92;refine (Lu _).mono ?_;rintro e w' ⟨rfl,hrow,hb⟩;have hc:=hrow.cell (i:=510+a.toNat) (by omega);rw [H2.out] at hc;have Hrow:=Lib.hid hrow;clear hrow)
 go_ret2
 exact ⟨rfl,hb⟩
theorem YG (w:World):Calls Try.prog 65 #[B 0] w fun e w'=>e= .returned (.tuple #[B 0,I 5])/\Below w.heap.size w w':=by
 go_enter Try.func65,Try.ntmps65
 go_wp2_with (go_at_call 80;refine (YE _).mono ?_;rintro e w' ⟨rfl,hb⟩)
 go_ret2
 exact ⟨rfl,hb⟩
theorem YH (a:UInt8) (ha:a≠0) (w:World):
  Calls Try.prog 65 #[B a] w fun e w'=>e= .returned (.tuple #[B (iu a),I 0])/\Below w.heap.size w w':=by
 have hl:=Iu a
 go_enter Try.func65,Try.ntmps65
 go_wp2_with (first|(go_at_call 80;refine (YF a ha _).mono ?_;rintro e w' ⟨rfl,hb⟩)|(go_at_call 81;refine (YD _ _).mono ?_;rintro e w'' ⟨rfl,hb2⟩))
 go_ret2
 exact ⟨rfl,hb.trans (hb2.mono hb.size)⟩
def Am (a:UInt8):Int:=if a=0 then 5 else 0
def gq (a:UInt8):UInt8:=if a=0 then 0 else iu a
theorem YI (a:UInt8) (w:World):Calls Try.prog 65 #[B a] w fun e w'=>e= .returned (.tuple #[B (gq a),I (Am a)])/\Below w.heap.size w w':=by
 unfold gq Am
 by_cases ha:a=0
 ·subst ha;exact YG w
 ·rw [acL ha,acL ha];exact YH a ha w
open Go.RowKit
def YJ (sz by_:Nat) (zs:List AV):ba:=⟨8,[.tmp 2],
 .seq (.cy [⟨some 2, .mov (.c .emp),none⟩] none)
 (.seq (.seq (.cy [⟨some 3, .mov (.s 0),none⟩,⟨some 4, .isn .sl false (.s 3),none⟩] none)
 (.cond (.s 4)
  (.seq (.cy [⟨some 2, .mov (.c .emp),none⟩] none)
  (.ret))
  (.skip)))
 (.seq (.cy [⟨some 5, .bsl sz 0 zs [],none⟩,⟨some 6, .mov (.s 0),none⟩,⟨some 7, .app sz by_ (.s 5) (.s 6),none⟩,⟨some 2, .mov (.s 7),none⟩] none)
 (.ret)))⟩
theorem Lv {zs:List AV} (hF:cFunc P f=some (YJ sz by_ zs)) (fe:α->List AV) (hp:∀y,(fe y).all AV.pu1=true) (hz:sz≠0) (yx:zs.length=sz) (xs:List α) (hx:((xs.length:Nat):Int)*by_<=140737488355328):Fo P f [.aV sz (xs.map fe)] sz (xs.map fe):=by
 refine PL ?_
 rw [ac4]
 refine fV (m:=[]) (m':=[some ⟨sz,(xs.map fe)⟩]) hF (ad8 (by kernel_rfl)) ?_
 refine CZ 1 [0] ⟨[(0, .aV sz (xs.map fe))],[]⟩ ?_
 refine EL.Pv [0] (fun y=>(y=⟨[(0, .aV sz (xs.map fe))],[]⟩/\((List.isEmpty xs=true)\/(List.isEmpty xs=false)))) ?_ ?_
 ·intro acr Lw
  refine C0 1 ⟨[(3, .aV sz (xs.map fe)),(0, .aV sz (xs.map fe))],[]⟩ ?_
  cases h2:(List.isEmpty xs)
  ·refine yJ ⟨[(4, .v (.bool false)),(3, .aV sz (xs.map fe)),(0, .aV sz (xs.map fe))],[]⟩ (Px fe xs (.s 3) sz false (by kernel_rfl) (by kernel_rfl) (.inl rfl) h2) ?_
   refine yI 0 [0,4] ⟨[(4, .v (.bool false)),(0, .aV sz (xs.map fe))],[]⟩ ?_
   refine Ue ?_
   refine EL.skip ?_
   exact tN (Lw.get ⟨by kernel_rfl,(Or.inr h2)⟩)
  ·refine yJ ⟨[(4, .dG),(3, .aV sz (xs.map fe)),(0, .aV sz (xs.map fe))],[]⟩ (Py fe xs (.s 3) sz false (by kernel_rfl) (by kernel_rfl) (.inl rfl) h2) ?_
   refine yI 0 [0,4] ⟨[(4, .dG),(0, .aV sz (xs.map fe))],[]⟩ ?_
   refine EL.BY (by kernel_rfl) ?_ ?_
   ·refine CZ 1 [2] ⟨[(2, .emp)],[]⟩ ?_
    refine Uf ?_
    refine ⟨.inr rfl,⟨[(2, .own 0 sz 0 (List.length xs))],[some ⟨sz,(xs.map fe)⟩]⟩,norm_le (live:=[2]) (src:=[.new sz]) (es:=[(2,0)]) (by rw [adP.1 h2];cases sz with|zero=>exact absurd rfl hz|succ n=>kernel_rfl) trivial,by kernel_rfl,rfl⟩
   ·refine EL.skip ?_
    exact tN (Lw.get ⟨by kernel_rfl,(Or.inl h2)⟩)
 rintro _ (⟨rfl,hD3⟩)
 refine C0 2 ⟨[(6, .aV sz (xs.map fe)),(5, .own 0 sz 0 0),(0, .aV sz (xs.map fe))],[some ⟨sz,[]⟩]⟩ ?_
 refine yJ ⟨(7, .own 1 sz 0 (List.length xs))::[(6, .aV sz (xs.map fe)),(5, .own 0 sz 0 0),(0, .aV sz (xs.map fe))],[none,some ⟨sz,(xs.map fe)⟩]⟩ (Uj fe ([]:List α) xs (.s 5) (.s 6) sz by_ 0 (.aV sz (xs.map fe)) .aV (by simp;omega)) ?_
 refine yI 1 [2] ⟨[(2, .own 1 sz 0 (List.length xs))],[none,some ⟨sz,(xs.map fe)⟩]⟩ ?_
 refine EL.ret ?_
 exact Ug [2] [ut 1] ⟨[(2, .own 0 sz 0 (List.length xs))],[some ⟨sz,(xs.map fe)⟩]⟩ ⟨pq sz fe xs (by kernel_rfl) hp,trivial⟩
open Go.RowKit
theorem YK:∀{vs:List Value} {ws:Array Value},RC E ws (vs.map AV.v)->ws=vs.toArray:=by
 intro vs ws h
 apply Array.ext
 ·simpa using h.1
 ·intro i h1 h2
  have h3:i<vs.length:=by simpa using h2
  have:=h.2 i ws[i] (.v vs[i]) (ac1 h1) (by rw [ac5,acT h3];rfl)
  generalize hq:ws[i]=q at this
  generalize hp:vs[i]=p at this
  have e:q=p:=by cases this with|v h=>rfl
  rw [e, <-hp];simp
theorem Fe {u:Value} (hr:∀E:Env,aj E u r) (h:∀w,Calls P f vs.toArray w fun e w'=>e= .returned u/\Below w.heap.size w w'):Fn P f (vs.map AV.v) r:=by
 intro w J ws hJ hG dd
 rw [YK dd]
 exact (h w).mono fun e w' ⟨h1,h2⟩=>⟨u,h1,hr _,h2⟩
theorem YL {a b:Value} (ha:plainV a=true) (hb:plainV b=true):aj E (.tuple #[a,b]) (.bn [.v a, .v b]):=by
 refine .bn rfl fun i v c hv hc=> ?_
 match i with
 |0=>simp at hv hc;subst hv;subst hc;exact .v ha
 |1=>simp at hv hc;subst hv;subst hc;exact .v hb
 |i+2=>simp at hc
def An:bk Tc Tc.dn:=⟨66,[.ty .cA, .ty .cA],fun _=>True,[.cA],fun x=>aW x.1 x.2.1⟩
theorem Ff:An.Ok Try.prog tB:=⟨S7,fun x N _=>Fe (vs:=[B x.1,B x.2.1]) (u:=B (aW x.1 x.2.1)) (fun _=> .v rfl) fun w=>(Yu x.1 x.2.1 w).mono fun e w' ⟨h1,h2⟩=>⟨h1,by subst h2;exact adG _ _⟩⟩
def Fg:bk Tc Tc.dn:=⟨65,[.ty .cA],fun _=>True,[.cA, .aA],fun x=>(gq x.1,Am x.1)⟩
theorem Lx:Fg.Ok Try.prog tB:=⟨S6,fun x N _=>Fe (vs:=[B x.1]) (u:= .tuple #[B (gq x.1),I (Am x.1)]) (fun _=>YL rfl rfl) fun w=>YI x.1 w⟩
open Go.RowKit
theorem YM {α:Type} (d:α) (xs:List α) (i:Int) (h0:0<=i) (h:i<xs.length):xs.drop i.toNat=gd d xs i.toNat::xs.drop (i+1).toNat:=by
 rw [show (i+1).toNat=i.toNat+1 by omega];exact ql d (by omega)
theorem YN {α:Type} (xs:List α) (i:Int) (h:xs.length<=i):xs.drop i.toNat=[]:=aeI (by omega)
def sq (n:Int):List (List UInt8)->Int
 |[]=>0
 |r::l=>if 16<(r.length:Int) then 2 else if r.length=0\/(r.length:Int)≠n then 1 else sq n l
def jP (a:List (List UInt8)):Int:=if 16<a.length then 2 else if a.length=0 then 1 else sq (gd [] a 0).length a
def dF (m n:Int) (f:Nat->Nat->UInt8):List (List UInt8):=(List.range m.toNat).map fun i=>(List.range n.toNat).map fun k=>f i k
def wS (a:(List (List UInt8))) (i:Int):Prop:=0<=i/\i<=a.length/\0<a.length/\a.length<=16/\sq (gd [] a 0).length (a.drop i.toNat)=sq (gd [] a 0).length a
def Fh:bk Tc Tc.dn:=⟨74,[.ty .iz],fun x=>(fun (a:(List (List UInt8)))=>True) x.1,[.aA],fun x=>(fun (a:(List (List UInt8)))=>jP a) x.1⟩
theorem YO (a:(List (List UInt8))):((16:Int)<(↑a.length:Int)->(2:Int)=jP a)/\((↑a.length:Int)<=(16:Int)->((↑a.length:Int)=(0:Int)->(1:Int)=jP a)/\(¬(↑a.length:Int)=(0:Int)->wS a (0:Int)/\∀(x:Int),wS a x->(x<(↑a.length:Int)->((0:Int)<=x/\x<(↑a.length:Int))/\((16:Int)<(↑(gd [] a x.toNat).length:Int)->(2:Int)=jP a)/\((↑(gd [] a x.toNat).length:Int)<=(16:Int)->(¬(↑(gd [] a x.toNat).length:Int)=(0:Int)->(0:Int)<=(0:Int)/\(0:Int)<(↑a.length:Int))/\((↑(gd [] a x.toNat).length:Int)=(0:Int)/\(↑(gd [] a x.toNat).length:Int)=(0:Int)\/¬(↑(gd [] a x.toNat).length:Int)=(0:Int)/\¬(↑(gd [] a x.toNat).length:Int)=(↑(gd [] a (Int.toNat (0:Int))).length:Int)->(1:Int)=jP a)/\((¬(↑(gd [] a x.toNat).length:Int)=(0:Int)\/¬(↑(gd [] a x.toNat).length:Int)=(0:Int))/\((↑(gd [] a x.toNat).length:Int)=(0:Int)\/(↑(gd [] a x.toNat).length:Int)=(↑(gd [] a (Int.toNat (0:Int))).length:Int))->aE (x+(1:Int))/\wS a (x+(1:Int))/\((↑a.length:Int) - (x+(1:Int))).toNat<((↑a.length:Int) - x).toNat)))/\((↑a.length:Int)<=x->(0:Int)=jP a))):=by
 (repeat' (first|apply And.intro|intro _))<;>first|assumption|trivial|omega|(grind [jP,sq,YM,YN,aE,wS])|trace_state
theorem YP:Fh.Ok Try.prog tB:=bO gn (Δ:=[]) trivial (Ω:=[]) trivial Fh Td Te (fun _=>[]) (fun _=>trivial) 0 (fun x=>(fun (a:(List (List UInt8)))=>(fun k=>bif Nat.beq k 0 then some (.inv [.sl 15 .aA] (fun zo zv=>(fun (i:Int)=>wS a i) zv.1) (fun zo zv=>(fun (i:Int)=>((a.length:Int) - i).toNat) zv.1)) else none)) x.1) fun x hp=>Eq.mp (by kernel_rfl) (YO x.1)
def Ao:bk Tc Tc.dn:=⟨62,[.ty .aA],fun x=>(fun (n:Int)=>True) x.1,[.ed],fun x=>(fun (n:Int)=>decide (1<=n/\n<=16)) x.1⟩
theorem YQ (n:Int):((1:Int)<=n->(1:Int)<=n)/\((1:Int)<=n->(1:Int)<=n)/\(decide ((1:Int)<=n)&&decide (n<=(16:Int)))=decide ((1:Int)<=n/\n<=(16:Int)):=by
 (repeat' (first|apply And.intro|intro _))<;>first|assumption|trivial|omega|(grind [])|trace_state
theorem Ly:Ao.Ok Try.prog tB:=bO gn (Δ:=[]) trivial (Ω:=[]) trivial Ao S0 S1 (fun _=>[]) (fun _=>trivial) 0 (fun x=>(fun (n:Int)=>(fun _=>none)) x.1) fun x hp=>Eq.mp (by kernel_rfl) (YQ x.1)
def Fj:bk Tc Tc.dn:=⟨95,[.ty .aA, .ty .aA],fun x=>(fun (i:Int) (k:Int)=>True) x.1 x.2.1,[.cA],fun x=>(fun (i:Int) (k:Int)=>if i=k then 1 else 0) x.1 x.2.1⟩
theorem YR (i:Int) (k:Int):(i=k->UInt8.ofNat (Int.toNat (1:Int))=if i=k then (1:RD Tc.dn [Tc.cA]) else (0:RD Tc.dn [Tc.cA]))/\(¬i=k->UInt8.ofNat (Int.toNat (0:Int))=if i=k then (1:RD Tc.dn [Tc.cA]) else (0:RD Tc.dn [Tc.cA])):=by
 (repeat' (first|apply And.intro|intro _))<;>first|assumption|trivial|omega|(grind [])|trace_state
theorem YS:Fj.Ok Try.prog tB:=bO gn (Δ:=[]) trivial (Ω:=[]) trivial Fj TG TH (fun _=>[]) (fun _=>trivial) 0 (fun x=>(fun (i:Int) (k:Int)=>(fun _=>none)) x.1 x.2.1) fun x hp=>Eq.mp (by kernel_rfl) (YR x.1 x.2.1)
open Go.RowKit
def pA (n:Nat) (f:Nat->UInt8):ByteArray:=⟨((List.range n).map f).toArray⟩
theorem YT {f:Nat->UInt8}:(pA n f).size=n:=by simp [pA,ByteArray.size]
theorem YU (l:List UInt8) (i:Nat):gb ⟨l.toArray⟩ i=gd 0 l i:=by
 unfold gb gd
 congr 1
 by_cases h:i<l.length
 ·rw [acT h]
  have h2:i<(⟨l.toArray⟩:ByteArray).size:=by simpa [ByteArray.size] using h
  rw [getElem?_pos (⟨l.toArray⟩:ByteArray) i h2];rfl
 ·rw [adW (by omega)]
  have h2:¬i<(⟨l.toArray⟩:ByteArray).size:=by simpa [ByteArray.size] using h
  rw [getElem?_neg (⟨l.toArray⟩:ByteArray) i h2]
theorem YV {f g:Nat->UInt8} (h:∀i,i<n->f i=g i):pA n f=pA n g:=by
 unfold pA
 rw [aej fun i hi=>h i (adl.1 hi)]
theorem Lz {l:List UInt8} {f:Nat->UInt8} (h:l.length=n) (hf:∀i,i<n->gd 0 l i=f i):(⟨l.toArray⟩:ByteArray)=pA n f:=by
 unfold pA
 congr 2
 refine aeh (by simp [h]) fun i h1 h2=> ?_
 have:=hf i (by omega)
 unfold gd at this
 rw [acT h1] at this
 simpa using this
theorem LB (s:ByteArray):s=pA s.size fun i=>gb s i:=by
 have e:s=⟨s.data.toList.toArray⟩:=by cases s;rfl
 have h:=Lz (l:=s.data.toList) (n:=s.size) (f:=fun i=>gb s i) rfl fun i hi=>by rw [<-YU, <-e]
 rwa [<-e] at h
theorem YW {s t:ByteArray} (h:s.size=t.size) (hf:∀i,i<s.size->gb s i=gb t i):s=t:=by
 rw [LB s,LB t, <-h];exact YV hf
def Ap (row:List UInt8) (pieces:List ByteArray):ByteArray:=pA (gd ByteArray.empty pieces 0).size fun j=>sg pieces.length fun k=>aW (gd 0 row k) (gb (gd ByteArray.empty pieces k) j)
def bP (by_:List (List UInt8)) (pieces:List ByteArray):List ByteArray:=by_.map fun row=>Ap row pieces
structure iA (by_:List (List UInt8)) (pieces:List ByteArray):Prop where
 p0:0<pieces.length
 p1:pieces.length<=100
 b1:by_.length<=100
 w:∀r,r∈by_->pieces.length<=r.length
 s:∀s,s∈pieces->(gd ByteArray.empty pieces 0).size<=s.size
 s0:(gd ByteArray.empty pieces 0).size<=1000000
structure gr (by_:List (List UInt8)) (pieces:List ByteArray) (i:Int) (out:List ByteArray):Prop where
 lo:0<=i
 hi:i<=by_.length
 len:out.length=by_.length
 pB:∀j,j<i.toNat->gd ByteArray.empty out j=Ap (gd [] by_ j) pieces
structure jQ (by_:List (List UInt8)) (pieces:List ByteArray) (i k:Int) (b:List UInt8):Prop where
 lo:0<=k
 hi:k<=pieces.length
 len:b.length=(gd ByteArray.empty pieces 0).size
 pB:∀j,j<b.length->gd 0 b j=sg k.toNat fun t=>aW (gd 0 (gd [] by_ i.toNat) t) (gb (gd ByteArray.empty pieces t) j)
structure gu (by_:List (List UInt8)) (pieces:List ByteArray) (i k j:Int) (b:List UInt8):Prop where
 LC:0<=k
 LD:k<pieces.length
 lo:0<=j
 hi:j<=b.length
 len:b.length=(gd ByteArray.empty pieces 0).size
 pB:∀t,t<b.length->gd 0 b t=sg (if t<j.toNat then k.toNat+1 else k.toNat) fun t'=>aW (gd 0 (gd [] by_ i.toNat) t') (gb (gd ByteArray.empty pieces t') t)
section
variable {by_:List (List UInt8)} {pieces:List ByteArray} {i k j:Int} {b:List UInt8} {out:List ByteArray}
theorem iA.row (h:iA by_ pieces) (h1:0<=i) (h2:i<by_.length):pieces.length<=(gd [] by_ i.toNat).length:=h.w _ (iv (by omega))
theorem iA.str (h:iA by_ pieces) (h1:0<=k) (h2:k<pieces.length):(gd ByteArray.empty pieces (Int.toNat 0)).size<=(gd ByteArray.empty pieces k.toNat).size:=h.s _ (iv (by omega))
theorem gr.start {z:ByteArray}:gr by_ pieces 0 (List.replicate (by_.length:Int).toNat z):=⟨by omega,by omega,by simp,fun j hj=>by simp at hj⟩
theorem jQ.start {n:Int} (h:n=((gd ByteArray.empty pieces (Int.toNat 0)).size:Int)):jQ by_ pieces i 0 (List.replicate n.toNat (UInt8.ofNat (Int.toNat 0))):=⟨by omega,by omega,by rw [adU,h];rfl,fun j hj=>by
 rw [adU] at hj
 unfold gd;rw [List.getElem?_replicate,acN hj];rfl⟩
theorem gu.start (h:jQ by_ pieces i k b) (hk:k<pieces.length):gu by_ pieces i k 0 b:=⟨h.lo,hk,by omega,by omega,h.len,fun t ht=>by rw [acL (by simp),h.pB t ht]⟩
theorem gu.step {x y:UInt8} (h:gu by_ pieces i k j b) (hj:j<b.length) (hx:x=gd 0 (gd [] by_ i.toNat) k.toNat) (hy:y=gb (gd ByteArray.empty pieces k.toNat) j.toNat):gu by_ pieces i k (j+1) (b.set j.toNat (gd 0 b j.toNat^^^aW x y)):=by
 have h0:=h.lo
 refine ⟨h.LC,h.LD,by omega,by rw [ada];omega,by rw [ada];exact h.len,fun t ht=> ?_⟩
 rw [ada] at ht
 rw [tV (by omega)]
 by_cases e:j.toNat=t
 ·rw [acN e,acN (by omega),h.pB _ (by omega),acL (by omega),hx,hy]
  subst e;rfl
 ·rw [acL e,h.pB t ht]
  congr 1
  by_cases e2:t<j.toNat
  ·rw [acN e2,acN (by omega)]
  ·rw [acL e2,acL (by omega)]
theorem gu.fin (h:gu by_ pieces i k j b) (hj:b.length<=j):jQ by_ pieces i (k+1) b:=by
 have h0:=h.LC
 have h1:=h.LD
 refine ⟨by omega,by omega,h.len,fun t ht=> ?_⟩
 rw [h.pB t ht,acN (by omega),show (k+1).toNat=k.toNat+1 by omega]
theorem gr.step (h:gr by_ pieces i out) (hi:i<by_.length) (hk:jQ by_ pieces i k b) (he:pieces.length<=k):gr by_ pieces (i+1) (out.set i.toNat ⟨(List.map id b).toArray⟩):=by
 have h0:=h.lo
 have hl:=h.len
 refine ⟨by omega,by omega,by rw [ada];exact hl,fun t ht=> ?_⟩
 rw [tV (by omega)]
 by_cases e:i.toNat=t
 ·rw [acN e,List.map_id]
  unfold Ap
  refine Lz hk.len fun q hq=> ?_
  rw [hk.pB q (by rw [hk.len];exact hq),show k.toNat=pieces.length by have:=hk.hi;omega,e]
 ·rw [acL e];exact h.pB t (by omega)
theorem gr.fin (h:gr by_ pieces i out) (he:by_.length<=i):out=bP by_ pieces:=by
 have hl:=h.len
 have hh:=h.hi
 unfold bP
 refine aeh (by simp [hl]) fun t h1 h2=> ?_
 have:=h.pB t (by omega)
 unfold gd at this
 rw [acT h1,acT (show t<by_.length by omega)] at this
 simpa using this
end
def wT (by_:(List (List UInt8))) (pieces:(List ByteArray)) (j0:Int) (k0:Int) (i0:Int) (b0:(List UInt8)) (j:Int) (k:Int) (i:Int) (b:(List UInt8)):Prop:=i=i0/\k=k0/\b.length=b0.length/\gu by_ pieces i k j b
def wU (by_:(List (List UInt8))) (pieces:(List ByteArray)) (k0:Int) (i0:Int) (b0:(List UInt8)) (k:Int) (i:Int) (b:(List UInt8)):Prop:=i=i0/\jQ by_ pieces i k b
def wV (by_:(List (List UInt8))) (pieces:(List ByteArray)) (i:Int) (out:(List ByteArray)):Prop:=gr by_ pieces i out
def Fk:bk Tc Tc.dn:=⟨48,[.ty .iz, .ty .jl],fun x=>(fun (by_:(List (List UInt8))) (pieces:(List ByteArray))=>iA by_ pieces) x.1 x.2.1,[.jl],fun x=>(fun (by_:(List (List UInt8))) (pieces:(List ByteArray))=>bP by_ pieces) x.1 x.2.1⟩
abbrev pC (pieces:(List ByteArray)):=(↑(gd ByteArray.empty pieces (Int.toNat (0:Int))).size:Int)
theorem YX (by_:(List (List UInt8))) (pieces:(List ByteArray)) (hp:iA by_ pieces):((0:Int)<=(↑by_.length:Int)/\(↑by_.length:Int)<=(↑by_.length:Int)/\(↑by_.length:Int)*(↑(16:Nat):Int)<=(140737488355328:Int))/\wV by_ pieces (0:Int) (List.replicate (↑by_.length:Int).toNat (ByteArray.mk #[]))/\∀(x:Int) (af:List ByteArray),wV by_ pieces x af->(x<(↑by_.length:Int)->((0:Int)<=x/\x<(↑by_.length:Int))/\((0:Int)<=(0:Int)/\(0:Int)<(↑pieces.length:Int))/\((0:Int)<=(pC pieces)/\(pC pieces)<=(pC pieces)/\(pC pieces)*(↑(1:Nat):Int)<=(140737488355328:Int))/\wU by_ pieces (0:Int) x (List.replicate (pC pieces).toNat (UInt8.ofNat (Int.toNat (0:Int)))) (0:Int) x (List.replicate (pC pieces).toNat (UInt8.ofNat (Int.toNat (0:Int))))/\∀(aD ae:Int) (aB:List UInt8),wU by_ pieces (0:Int) x (List.replicate (pC pieces).toNat (UInt8.ofNat (Int.toNat (0:Int)))) aD ae aB->(aD<(↑pieces.length:Int)->((0:Int)<=aD/\aD<(↑pieces.length:Int))/\wT by_ pieces (0:Int) aD ae aB (0:Int) aD ae aB/\∀(aF aU aC:Int) (bp:List UInt8),wT by_ pieces (0:Int) aD ae aB aF aU aC bp->(aF<(↑aB.length:Int)->((0:Int)<=aF/\aF<(↑bp.length:Int))/\aF.toNat<bp.length/\((0:Int)<=aD/\aD<(↑(gd [] by_ x.toNat).length:Int))/\((0:Int)<=aF/\aF<(↑(gd ByteArray.empty pieces aD.toNat).size:Int))/\True/\((0:Int)<=aF/\aF<(↑bp.length:Int))/\aF.toNat<bp.length/\aE (aF+(1:Int))/\wT by_ pieces (0:Int) aD ae aB (aF+(1:Int)) aU aC (bp.set aF.toNat (gd (0:UInt8) bp aF.toNat^^^aW (gd (0:UInt8) (gd [] by_ x.toNat) aD.toNat) (gb (gd ByteArray.empty pieces aD.toNat) aF.toNat)))/\((↑(bp.set aF.toNat (gd (0:UInt8) bp aF.toNat^^^aW (gd (0:UInt8) (gd [] by_ x.toNat) aD.toNat) (gb (gd ByteArray.empty pieces aD.toNat) aF.toNat))).length:Int) - (aF+(1:Int))).toNat<((↑bp.length:Int) - aF).toNat)/\((↑aB.length:Int)<=aF->aE (aU+(1:Int))/\wU by_ pieces (0:Int) x (List.replicate (pC pieces).toNat (UInt8.ofNat (Int.toNat (0:Int)))) (aU+(1:Int)) aC bp/\((↑pieces.length:Int) - (aU+(1:Int))).toNat<((↑pieces.length:Int) - aD).toNat))/\((↑pieces.length:Int)<=aD->((0:Int)<=x/\x<(↑af.length:Int))/\x.toNat<af.length/\aE (ae+(1:Int))/\wV by_ pieces (ae+(1:Int)) (af.set x.toNat (ByteArray.mk (List.map id aB).toArray))/\((↑by_.length:Int) - (ae+(1:Int))).toNat<((↑by_.length:Int) - x).toNat))/\((↑by_.length:Int)<=x->af=bP by_ pieces):=by
 delta pC
 have p0:=hp.p0
 have p1:=hp.p1
 have p2:=hp.b1
 have p3:=hp.s0
 have p4:=fun i=>iA.row (i:=i) hp
 have p5:=fun k=>iA.str (k:=k) hp
 have a1:= @gr.start by_ pieces ByteArray.empty
 have a2:= @jQ.start by_ pieces
 have a3:= @gu.start by_ pieces
 have a4:= @gu.step by_ pieces
 have a5:= @gu.fin by_ pieces
 have a6:= @gr.step by_ pieces
 have a7:= @gr.fin by_ pieces
 have b1:= @gr.lo by_ pieces
 have b2:= @gr.hi by_ pieces
 have b3:= @gr.len by_ pieces
 have c1:= @jQ.lo by_ pieces
 have c2:= @jQ.hi by_ pieces
 have c3:= @jQ.len by_ pieces
 have d1:= @gu.lo by_ pieces
 have d2:= @gu.hi by_ pieces
 have d3:= @gu.len by_ pieces
 (repeat' (first|apply And.intro|intro _))<;>first|assumption|trivial|omega|(grind [wT,wU,wV,aE])|trace_state
theorem YY:Fk.Ok Try.prog tB:=bO gn (Δ:=[An]) ⟨Ff,trivial⟩ (Ω:=[]) trivial Fk Ic Ie (fun _=>[]) (fun _=>trivial) 0 (fun x=>(fun (by_:(List (List UInt8))) (pieces:(List ByteArray))=>(fun k=>bif Nat.beq k 0 then some (.inv [.sl 17 .aA, .ow 5 .gL] (fun zo zv=>(fun (i:Int) (out:(List ByteArray))=>wV by_ pieces i out) zv.1 zv.2.1) (fun zo zv=>(fun (i:Int) (out:(List ByteArray))=>((by_.length:Int) - i).toNat) zv.1 zv.2.1)) else bif Nat.beq k 1 then some (.inv [.sl 29 .aA, .sl 17 .aA, .ow 8 .cA] (fun zo zv=>(fun (k0:Int) (i0:Int) (b0:(List UInt8)) (k:Int) (i:Int) (b:(List UInt8))=>wU by_ pieces k0 i0 b0 k i b) zo.1 zo.2.1 zo.2.2.1 zv.1 zv.2.1 zv.2.2.1) (fun zo zv=>(fun (k0:Int) (i0:Int) (b0:(List UInt8)) (k:Int) (i:Int) (b:(List UInt8))=>((pieces.length:Int) - k).toNat) zo.1 zo.2.1 zo.2.2.1 zv.1 zv.2.1 zv.2.2.1)) else bif Nat.beq k 2 then some (.inv [.sl 36 .aA, .sl 29 .aA, .sl 17 .aA, .ow 8 .cA] (fun zo zv=>(fun (j0:Int) (k0:Int) (i0:Int) (b0:(List UInt8)) (j:Int) (k:Int) (i:Int) (b:(List UInt8))=>wT by_ pieces j0 k0 i0 b0 j k i b) zo.1 zo.2.1 zo.2.2.1 zo.2.2.2.1 zv.1 zv.2.1 zv.2.2.1 zv.2.2.2.1) (fun zo zv=>(fun (j0:Int) (k0:Int) (i0:Int) (b0:(List UInt8)) (j:Int) (k:Int) (i:Int) (b:(List UInt8))=>((b.length:Int) - j).toNat) zo.1 zo.2.1 zo.2.2.1 zo.2.2.2.1 zv.1 zv.2.1 zv.2.2.1 zv.2.2.2.1)) else none)) x.1 x.2.1) fun x hp=>Eq.mp (by kernel_rfl) (YX x.1 x.2.1 hp)
end Go.Proofs.Ytboaekdecndckaa
