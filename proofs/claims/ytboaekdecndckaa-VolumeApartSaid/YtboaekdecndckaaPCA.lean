/- What functions answer (contracts). No condition. -/
import Derived.Test.YtboaekdecndckaaPSxM
import Derived.Test.YtboaekdecndckaaPPolE
import Derived.Test.YtboaekdecndckaaPSxK
import Derived.Test.YtboaekdecndckaaRows
import Derived.WalkKit
import Derived.Handy
import Derived.ProofKit
import Derived.OpenShut
import Derived.ShutString
import Derived.ChangeOld
import Derived.Below
import Derived.Lib.Hide
import Derived.WalkLawsBesides
import Derived.WalkSpells
import Derived.Deep.QuietTactic
import Derived.BigQuiet
import Derived.Deep.OwnRows
import Derived.BigRegion
set_option linter.unusedSectionVars false
set_option linter.unusedSimpArgs false
set_option linter.unusedVariables false
set_option maxHeartbeats 4000000
set_option maxRecDepth 100000
namespace Go.Proofs.Ytboaekdecndckaa
variable {F:ba} {r:AV} {E:Env} {Q Q':Exit->Go.Act->World->Prop} {f:FuncId} {a:Go.Act} {ps:List (List aN)} {M A:List (List UInt8)} {as_ b:List AV} {vs:List Value} {n m d i c k0 i0 base q sz by_:Nat} {g:Nat->Option Bk} {J:Nat->Prop} {N N':aL} {P:Program} {s s':S3} {α β:Type} {w:World}
open Go.RowKit
abbrev afC:=@Bool.not_true
abbrev afO:=@Int.le_refl
abbrev af2:=@Classical.not_not
abbrev af3:=@decide_eq_true
abbrev agb:=@List.ext_getElem
abbrev agB:=@List.drop_eq_nil_of_le
abbrev agF:=@List.mem_or_eq_of_mem_set
abbrev agL:=@List.getElem?_zip_eq_some
abbrev agM:=@Int.add_mul_emod_self_left
section
variable {F:Go.Fence} {m:Nat} {P:Program} {ops:Array Oper}
theorem wpIn_exit (hq:∀e a w,e≠ .normal->Q e a w->Q' e a w) {o:Oper} {K:Go.Act->World->Prop} (h:o.wpIn F m P a w K Q):o.wpIn F m P a w K Q':=by
 unfold Oper.wpIn at*
 refine ⟨h.1, ?_⟩
 have hh:=h.2
 generalize (o.semAt F.round a.eval).run P w=r at*
 cases r with
 |ok x w'=>
  cases x<;>simp only [Oper.uponIn] at hh ⊢ <;>
   first
    |exact hh
    |exact ⟨hh.1,CallsIn.mono hh.2 (fun e w'' he=>by cases e<;>first|exact he|exact hq _ _ _ (by simp) he|(obtain ⟨a1,w1,h1⟩:=he;exact ⟨a1,w1,hq _ _ _ (by simp) h1⟩))⟩
    |exact ⟨hh.1,RoundIn.mono hh.2 (fun e w'' he=>by cases e<;>first|exact he|exact hq _ _ _ (by simp) he|(obtain ⟨a1,w1,h1⟩:=he;exact ⟨a1,w1,hq _ _ _ (by simp) h1⟩))⟩
 |halt x w'=>cases x<;>simp only [Oper.uponIn] at hh ⊢ <;>first|exact hh|exact hq _ _ _ (by simp) hh
theorem Yn (hq:∀e a w,e≠ .normal->Q e a w->Q' e a w) {K:Go.Act->World->Prop} (h:wpOpIn F m P ops Q i K a w):wpOpIn F m P ops Q' i K a w:=by
 unfold wpOpIn at*
 split
 ·rename_i ho;simpa [ho] using h
 ·rename_i o ho
  simp only [ho] at h
  split
  ·rename_i hw;simp only [hw,aeI] at h;exact wpIn_exit hq h
  ·rename_i hw;simp only [hw] at h;exact h
theorem Lw {Q Q':Exit->Go.Act->World->Prop} (hq:∀e a w,e≠ .normal->Q e a w->Q' e a w) {l2:List Nat} (hn:∀a w,Q .normal a w->wpOpsIn F m P ops Q' l2 a w):∀{l1:List Nat} {a:Go.Act} {w:World},wpOpsIn F m P ops Q l1 a w->wpOpsIn F m P ops Q' (l1++l2) a w
 |[],a,w,h=>hn a w h
 |i::l1,a,w,h=>by
  rw [wpOpsIn_cons] at h
  rw [afZ,wpOpsIn_cons]
  exact Yn hq (wpOpIn_mono (fun a w h=>Lw hq hn h) h)
inductive ux (P:Program) (n k0:Nat):List (List aN)->S3->S3->Prop
 |nil {s:S3}:ux P n k0 [] s s
 |cons {p:List aN} {ps:List (List aN)} {s t u s':S3} (hw:s.Le k0 n t) (h:jP P n k0 p t.σ t.g t.k u.σ u.g u.k) (r:ux P n k0 ps u s'):ux P n k0 (p::ps) s s'
theorem Yo {rd:Option Nat} {E0:Env} (o7:∀id,E0.kn id->id<k0) {w0:World} (h:ux P n k0 ps s s'):
  ∀(i:Nat) (a:Go.Act) (w:World),(∀j,j<ps.flatten.length->∃op,ops[i+j]? =some op/\∃o,ps.flatten[j]? =some o/\iS P ops op=some o)->ic E0 J base w0 n s.σ s.g s.k a w->(∀a w,ic E0 J base w0 n s'.σ s'.g s'.k a w->Q .normal a w)->wpOpsIn (dB rd) 0 P ops Q (List.range' i ps.flatten.length) a w:=by
 induction h with
 |nil=>intro i a w _ hr hQ;exact hQ a w hr
 | @cons p ps s t u s' hw h r ih=>
  intro i a w fP hrel hQ
  rw [List.flatten_cons,afK, <-List.range'_append_1]
  rw [List.flatten_cons,afK] at fP
  refine Lw (Q:=fun e a w=>match e with| .normal=>wpOpsIn (dB rd) 0 P ops Q (List.range' (i+p.length) ps.flatten.length) a w|e=>Q e a w) (fun e a w he hh=>by cases e<;>first|exact hh|exact absurd rfl he) (fun a w hh=>hh) ?_
  refine Ik o7 h i a w (fun j hj=> ?_) (hw E0 J base w0 a w o7 hrel) fun a w hr=> ?_
  ·obtain ⟨op,q1,o,q2,q3⟩:=fP j (by omega)
   exact ⟨op,q1,o,by rwa [afk hj] at q2,q3⟩
  ·refine ih (i+p.length) a w (fun j hj=> ?_) hr hQ
   obtain ⟨op,q1,o,q2,q3⟩:=fP (p.length+j) (by omega)
   exact ⟨op,by rw [Nat.add_assoc];exact q1,o,by rwa [afr (by omega),Nat.add_sub_cancel_left] at q2,q3⟩
theorem ED.Yp (h:ux P n k0 ps s s'):ED P n k0 (.cC ps.flatten none) s .normal s':=by
 intro rd c E0 J base w0 a w da hc hk hr
 obtain ⟨id,ops,draw,rfl,h1,h2⟩:=yZ hc
 rcases h2 with ⟨rfl,_⟩|⟨_,d,hd,_⟩
 ·obtain ⟨k1,k2⟩:=vR h1
  refine wpIn_region ?_
  have aZ:ops.size=ps.flatten.length:=by rw [<-k1];simp
  rw [List.range_eq_range',aZ]
  refine Yo (ops:=ops) hk h 0 a w (fun j hj=> ?_) hr fun a' w' hr'=>⟨.normal,s',⟨rfl,rfl⟩,rfl,hr'⟩
  have pb:j<ops.size:=by omega
  obtain ⟨o,m1,m2⟩:=k2 j ops[j] (by simp [pb])
  exact ⟨ops[j],by rw [aeW];exact aeV pb,o,m1,m2⟩
 ·simp at hd
end
section
variable {τ:Type} {dn:τ->Type} [DecidableEq τ]
inductive LA (τ:Type) (dn:τ->Type) where
 |inv (vs:List (VK τ)) (I:VT dn vs->VT dn vs->Prop) (m:VT dn vs->VT dn vs->Nat)
 |Yq (m:Nat)
 |ix (ss:List Nat)
 |Lx (i:Nat)
 |cut (vs:List (VK τ)) (I:VT dn vs->VT dn vs->Prop)
 |eq (i:Nat) (z:Int)
 |uc (i:Nat)
 |AW (f:Nat)
def Fs (an:Nat->Option (LA τ dn)) (os:List aN):List Nat:=os.flatMap fun o=>match o.dst with
 |some d=>match an (1000+d) with
  |some (.ix ss)=>ss
  |_=>[]
 |none=>[]
def Ly (an:Nat->Option (LA τ dn)) (os:List aN):Bool:=(Fs an os).all fun i=>Nat.blt i 5000
def Yr (an:Nat->Option (LA τ dn)) (os:List aN):Option Nat:=match os with
 |o::_=>match o.dst with
  |some d=>match an (3000+d) with
   |some (.Lx i)=>some i
   |_=>none
  |none=>none
 |[]=>none
def cutB (an:Nat->Option (LA τ dn)) (o:aN):Bool:=match o.dst with
 |some d=>(match an (11000+d) with|some (.AW _)=>true|_=>false)||(match an (9000+d) with|some (.uc _)=>true|_=>false)||(match an (7000+d) with|some (.eq _ _)=>true|_=>false)||(match an (5000+d) with|some (.cut _ _)=>true|_=>false)||(match an (1000+d) with|some (.ix _)=>true|_=>false)||(match an (3000+d) with|some (.Lx _)=>true|_=>false)
 |none=>false
def pieces (an:Nat->Option (LA τ dn)):List aN->List (List aN)
 |[]=>[]
 |o::os=>match pieces an os with
  |[]=>[[o]]
  |[]::ps=>[o]::ps
  |(p::q)::ps=>bif cutB an p then [o]::(p::q)::ps else (o::p::q)::ps
omit [DecidableEq τ] in
theorem Lz (an:Nat->Option (LA τ dn)):∀os:List aN,(pieces an os).flatten=os
 |[]=>rfl
 |o::os=>by
  have ih:=Lz an os
  unfold pieces
  split
  ·rename_i h;rw [h] at ih;simp at ih;simp [ih]
  ·rename_i h;rw [h] at ih;simp at ih;simp [ih]
  ·rename_i h
   rw [h] at ih
   cases hb:cutB an _ with
   |true=>rw [aeK,List.flatten_cons,ih];rfl
   |false=>rw [ae0,List.flatten_cons,afZ, <-List.flatten_cons,ih]
def LB (an:Nat->Option (LA τ dn)) (os:List aN):Option ((vs:List (VK τ))×(VT dn vs->VT dn vs->Prop)):=match os with
 |o::_=>match o.dst with
  |some d=>match an (5000+d) with
   |some (.cut vs I)=>some ⟨vs,I⟩
   |_=>none
  |none=>none
 |[]=>none
def LC (an:Nat->Option (LA τ dn)) (os:List aN):Option (Nat×Int):=match os with
 |o::_=>match o.dst with
  |some d=>match an (7000+d) with
   |some (.eq i z)=>some (i,z)
   |_=>none
  |none=>none
 |[]=>none
def AX (o:Option (Nat×Int)) (st:SS τ dn) (K:SS τ dn->Prop):Prop:=match o with
 |none=>K st
 |some (i,z)=>match st.gt i with
  |some (.vi x)=>x=z/\K (st.jy i (.vn z))
  |_=>K st
omit [DecidableEq τ] in
theorem LD {D:TD τ dn} {o:Option (Nat×Int)} {st:SS τ dn} {K:SS τ dn->Prop} (R:Rel D N st s) (h:AX o st K):∃aw,Rel D N aw s/\aw.rt=st.rt/\aw.rm=st.rm/\aw.nx=st.nx/\K aw:=by
 unfold AX at h
 split at h
 ·exact ⟨st,R,rfl,rfl,rfl,h⟩
 ·rename_i i z
  split at h
  ·rename_i x hx
   obtain ⟨hz,h⟩:=h
   refine ⟨st.jy i (.vn z),⟨fun N' hN=> ?_,R.inj,R.lt,R.ml,R.rl,R.sp⟩,rfl,rfl,rfl,h⟩
   have A:=R.at_ N' hN
   refine ⟨fun j v hv=> ?_,A.rs,A.bl,A.rb,A.ar⟩
   simp only [SS.jy,bG] at hv
   split at hv
   ·rename_i e
    simp only [aeF] at hv
    subst hv;subst e
    rw [A.gt hx]
    simp only [SV.av,hz]
   ·exact A.sl j v hv
  ·exact ⟨st,R,rfl,rfl,rfl,h⟩
def Ys (an:Nat->Option (LA τ dn)) (os:List aN) (st:SS τ dn):List Nat:=match os with
 |o::_=>match o.dst with
  |some d=>match an (9000+d) with
   |some (.uc i)=>match st.gt i with
    |some (.own nm _)=>match st.gm nm with
     |some (.bc _ els)=>els.flatMap fun cs=>cs.filterMap EI
     |_=>[]
    |_=>[]
   |_=>[]
  |none=>[]
 |[]=>[]
def xi (an:Nat->Option (LA τ dn)) (os:List aN):Option Nat:=match os with
 |o::_=>match o.dst with
  |some d=>match an (11000+d) with
   |some (.AW f)=>some f
   |_=>none
  |none=>none
 |[]=>none
def cU.wo (C:cU τ dn) (o:Option Nat):cU τ dn:=⟨C.P,C.D,(match o with
 |none=>C.Δ
 |some f=>C.Δ.filter fun c=> !Nat.beq c.f f),C.Ω,C.fl,C.J,o.isSome⟩
omit [DecidableEq τ] in
theorem cU.Ok.wo {C:cU τ dn} (h:C.Ok) (o:Option Nat):(C.wo o).Ok:=by
 refine ⟨h.ok,fun c hc=> ?_,h.KC,h.inl⟩
 cases o with
 |none=>exact h.At c hc
 |some f=>exact h.At c (List.mem_filter.1 hc).1
def isBl:VK τ->Bool
 | .bl _ _=>true
 |_=>false
def AY (D:TD τ dn) (c:Option ((vs:List (VK τ))×(VT dn vs->VT dn vs->Prop))) (st:SS τ dn) (K:SS τ dn->Prop):Prop:=match c with
 |none=>K st
 |some ⟨vs,I⟩=>match pU D st vs with
  |some x0=>bif vs.all isBl&&okT (lessB st.nx) vs (vs.map (nmV st)) then I x0 x0/\AG vs fun x=>I x0 x->K ⟨st.rt,st.rm,st.t,putM D vs (vs.map (nmV st)) x++st.m,st.nx⟩ else False
  |none=>False
theorem LF {D:TD τ dn} (ok:bE D) {c:Option ((vs:List (VK τ))×(VT dn vs->VT dn vs->Prop))} {st:SS τ dn} {K:SS τ dn->Prop} (R:Rel D N st s) (h:AY D c st K):∃aw,Rel D N aw s/\aw.rt=st.rt/\aw.rm=st.rm/\aw.nx=st.nx/\K aw:=by
 unfold AY at h
 split at h
 ·exact ⟨st,R,rfl,rfl,rfl,h⟩
 ·rename_i vs I
  split at h
  case h_2=>exact h.elim
  rename_i x0 hx
  cases hb:(vs.all isBl&&okT (lessB st.nx) vs (vs.map (nmV st))) with
  |false=>rw [hb] at h;exact h.elim
  |true=>
  rw [hb,aeK] at h
  rw [aeH] at hb
  obtain ⟨cO,hT⟩:=hb
  have hk:=(AH.1 h.2) x0 h.1
  have oy:(vs.map (nmV st)).length=vs.length:=aeS ..
  have LH:∀nm B,getS (putM D vs (vs.map (nmV st)) x0++st.m) nm=some (some B)->(nm,some B)∈putM D vs (vs.map (nmV st)) x0\/getS st.m nm=some (some B):=fun nm B hB=>by
   rw [jA] at hB
   cases hq:getS (putM D vs (vs.map (nmV st)) x0) nm with
   |some w=>rw [hq] at hB;simp only [agt,aeF] at hB;subst hB;exact .inl (my hq)
   |none=>rw [hq] at hB;simp only [aga] at hB;exact .inr hB
  have bh:∀nm B,(nm,some B)∈putM D vs (vs.map (nmV st)) x0->(∃B',st.cg nm B')/\∀t A,B≠ .ar t A:=fun nm B hB=>by
   rcases AL hx oy nm B hB with ⟨j,v,p1,p2,p3,⟨B',p4⟩,p5⟩|⟨_,⟨B',p4⟩,p5⟩
   case inr=>exact ⟨⟨B',jX p4⟩,p5⟩
   rw [aeY,p1] at p2
   simp only [aeT,aeF] at p2
   refine ⟨⟨B',by rw [<-p2];exact jX p4⟩,fun t A e=> ?_⟩
   have:=aeJ.1 cO v (afd p1)
   rw [(p5 t A e).1] at this
   simp [isBl] at this
  have ed:∀nm B,(⟨st.rt,st.rm,st.t,putM D vs (vs.map (nmV st)) x0++st.m,st.nx⟩:SS τ dn).cg nm B->(∃B',st.cg nm B')/\∀t A,B= .ar t A->st.cg nm (.ar t A):=fun nm B hB=>by
   rcases hB with hB|hB
   ·rcases LH nm B hB with h1|h1
    ·obtain ⟨q1,q2⟩:=bh nm B h1
     exact ⟨q1,fun t A e=>absurd e (q2 t A)⟩
    ·exact ⟨⟨B, .inl h1⟩,fun t A e=>by subst e;exact .inl h1⟩
   ·exact ⟨⟨B, .inr hB⟩,fun t A e=>by subst e;exact .inr hB⟩
  refine ⟨⟨st.rt,st.rm,st.t,putM D vs (vs.map (nmV st)) x0++st.m,st.nx⟩,⟨fun N' hN=> ?_,R.inj,R.lt,fun nm B hB=> ?_,R.rl,fun t A hA id hid=> ?_⟩,rfl,rfl,rfl,hk⟩
  ·have A:=R.at_ N' hN
   refine ⟨A.sl,A.rs,fun nm B hB=> ?_,A.rb,fun t A' hA id hid=>A.ar t A' ((ed 0 _ hA).2 t A' rfl) id hid⟩
   rcases LH nm B hB with h1|h1
   ·obtain ⟨B',e,q⟩:=ov ok (AK ok A hx) nm (some B) h1
    simp only [aeF] at e;subst e
    exact q
   ·exact A.bl nm B h1
  ·show nm<st.nx
   have aW:getS (putM D vs (vs.map (nmV st)) x0++st.m) nm=some B:=hB
   rw [jA] at aW
   cases hq:getS (putM D vs (vs.map (nmV st)) x0) nm with
   |some w=>exact xd (sJ hT nm w (my hq))
   |none=>rw [hq] at aW;simp only [aga] at aW;exact R.ml nm B aW
  ·have h1:=(ed 0 _ hA).2 t A rfl
   obtain ⟨q1,q2⟩:=R.sp t A h1 id hid
   refine ⟨q1,fun nm B hB=> ?_⟩
   obtain ⟨⟨B',aW⟩,_⟩:=ed nm B hB
   exact q2 nm B' aW
def AC.nl:AC->Nat
 | .seq a b=>a.nl+b.nl
 | .cond _ a b=>a.nl+b.nl
 | .block _ a=>a.nl
 | .loop a=>a.nl+1
 |_=>0
def AC.mz:AC->List Nat
 | .seq a b=>a.mz++b.mz
 | .cond _ a b=>a.mz++b.mz
 | .block _ a=>a.mz
 | .loop a=>a.mz
 | .cC os _=>os.filterMap aN.dst
 |_=>[]
def nB (D:TD τ dn) (st:SS τ dn):VK τ->SS τ dn
 | .ow i t=>match st.gt i with
  |some .emp=>bif Nat.blt 0 (D.sz t)&&(getS st.rt i).isNone then ⟨st.rt,st.rm,(i, .own st.nx (D.sz t))::st.t,(st.nx,some (.bl t []))::st.m,st.nx+1⟩ else st
  |_=>st
 | .so q f t _| .sg q f t _ _=>match st.gm q with
  |some (.bc Q [vs])=>match vs[f]? with
   |some .emp=>bif Nat.blt 0 (D.sz t)&&(Nat.blt 0 Q&&st.rw q) then ⟨st.rt,st.rm,st.t,(q,some (.bc Q [vs.set f (.own st.nx (D.sz t))]))::(st.nx,some (.bl t []))::st.m,st.nx+1⟩ else st
   |_=>st
  |_=>st
 |_=>st
def uy (D:TD τ dn):SS τ dn->List (VK τ)->SS τ dn
 |st,[]=>st
 |st,v::r=>uy D (nB D st v) r
def Ft (B:SS τ dn->(Ex->SS τ dn->Prop)->Prop):Nat->SS τ dn->(Ex->SS τ dn->Prop)->Prop
 |0,_,_=>False
 |m+1,st,K=>B st fun e aw=>match e with
  | .normal=>Ft B m aw K
  |e=>K e aw
def okB (vs:List (VK τ)) (T:List Nat) (st:SS τ dn) (p:Nat->Bool) (ft:List (Nat×SV τ dn)) (fm:List (Nat×Option (SB τ dn))):Bool:=
 (st.rt.all fun q=>q.2.fr p&& !hasN (gD vs) q.1&&(getS ft q.1).isNone)&&(st.rm.all fun q=>p q.1&&(match q.2 with|some B=>B.fr p|none=>true)&&(getS fm q.1).isNone)&&
 okT (lessB st.nx) vs T&&okT (fun a=> !hasN (movesV vs T) a) (vs.filter fun v=> !qW v) ((vs.zip T).filterMap fun q=>bif qW q.1 then none else some q.2)&&xc (movesV vs T)
def nextB (vs:List (VK τ)) (T A:List Nat) (nx nx':Nat):Bool:=
 xc ((List.range nx).map (fH vs T A))&&((List.range nx).all fun a=>lessB nx' (fH vs T A a))&&((vs.zip (T.zip A)).all fun q=>iv q.1||(Nat.beq (fH vs T A q.2.1) q.2.2&&(qW q.1||Nat.beq q.2.1 q.2.2)))&&(kO vs).all fun a=>Nat.beq (fH vs T A a) a
def keepP (vs:List (VK τ)) (T:List Nat) (nx:Nat) (a:Nat):Bool:=lessB nx a&& !hasN (movesV vs T) a
def LI (D:TD τ dn) (fl:Nat) (vs:List (VK τ)) (I:VT dn vs->Prop) (ms:VT dn vs->Nat) (B:SS τ dn->(Ex->SS τ dn->Prop)->Prop) (st:SS τ dn) (K:Ex->SS τ dn->Prop) (T:List Nat) (x0:VT dn vs) (ft:List (Nat×SV τ dn)) (fm:List (Nat×Option (SB τ dn))):Prop:=
 bif okB vs T st (keepP vs T st.nx) ft fm&&(movesV vs T).all (Nat.ble fl) then I x0/\AG vs fun x=>I x->B ⟨ft++st.rt,fm++st.rm,cI D vs T x,putM D vs T x,st.nx⟩ fun e aw=>match e with
  | .normal=>match pU D aw vs with
   |some x'=>bif nextB vs T (vs.map (nmV aw)) st.nx aw.nx then I x'/\ms x'<ms x else False
   |none=>False
  |e=>K e ⟨st.rt,st.rm,aw.t++ft,aw.m++fm,aw.nx⟩
 else False
def Fu (D:TD τ dn) (fl:Nat) (vs:List (VK τ)) (I:VT dn vs->VT dn vs->Prop) (ms:VT dn vs->VT dn vs->Nat) (mz:List Nat) (B:SS τ dn->(Ex->SS τ dn->Prop)->Prop) (st:SS τ dn) (K:Ex->SS τ dn->Prop):Prop:=
 match pU D st vs with
 |none=>False
 |some x0=>LI D fl vs (I x0) (ms x0) B st K (vs.map (nmV st)) x0 (pT (keepP vs (vs.map (nmV st)) st.nx) (gD vs++mz) st.t) (ou (keepP vs (vs.map (nmV st)) st.nx) (sI vs (vs.map (nmV st))) st.m)
def LJ (C:cU τ dn) (n:Nat) (c:Cn) (a b:AC) (st:SS τ dn):Option (List Prop×SS τ dn):=
 match a,b with
 | .skip, .cC os none=>AU C n c true os st
 | .cC os none, .skip=>AU C n c false os st
 |_,_=>none
def AZ (C:cU τ dn) (n:Nat) (an:Nat->Option (LA τ dn)):List (List aN)->SS τ dn->(SS τ dn->Prop)->Prop
 |[],st,K=>K st
 |p::ps,st,K=>uu C.D (Ly an (p.take 1)) (st.AQ (Fs an (p.take 1))) st fun st=>ET (Yr an p) st fun st=>AY C.D (LB an p) st fun st=>AX (LC an p) st fun st=>oo C.D (Ys an p st) st fun st=>wpOps (C.wo (xi an p)) n none true p [] st fun st=>AZ C n an ps st K
def gV (C:cU τ dn) (n:Nat) (an:Nat->Option (LA τ dn)):AC->Nat->SS τ dn->(Ex->SS τ dn->Prop)->Prop
 | .skip,_,st,K=>K .normal st
 | .ret,_,st,K=>K .ret st
 | .exit i,_,st,K=>K (.exit i) st
 | .seq a b,k,st,K=>gV C n an a k st fun e aw=>match e with
  | .normal=>gV C n an b (k+a.nl) aw K
  |e=>K e aw
 | .cond c a b,k,st,K=>match st.ev c with
  |some (.vt true)=>gV C n an a k st K
  |some (.vt false)=>gV C n an b (k+a.nl) st K
  |some (.vb c)=>match LJ C n c a b st with
   |some (O,aw)=>ir O (K .normal aw)
   |none=>(c.tf true->gV C n an a k st K)/\(c.tf false->gV C n an b (k+a.nl) st K)
  |_=>False
 | .block i a,k,st,K=>gV C n an a k st fun e aw=>K (e.od i) aw
 | .loop a,k,st,K=>match an k with
  |some (.Yq m)=>Ft (gV C n an a (k+1)) m st K
  |some (.inv vs I ms)=>Fu C.D C.fl vs I ms a.mz (gV C n an a (k+1)) (uy C.D st vs) K
  |_=>False
 | .cC os none,_,st,K=>AZ C n an (pieces an os) st (K .normal)
 | .cC os (some dep),_,st,K=>uu C.D (Ly an os) (st.AQ (Fs an os)) st fun st=>AY C.D (LB an os) st fun st=>AX (LC an os) st fun st=>wpOps (C.wo (xi an os)) n (some dep) (XP (C.wo (xi an os)) (some dep) os) os [] st (K .normal)
 | .yX _ _ _ _,_,_,_=>False
def Ends (C:cU τ dn) (n k0:Nat) (ac:AC) (N:aL) (st:SS τ dn) (s:S3) (K:Ex->SS τ dn->Prop):Prop:=
 ∃e s' N' aw,ED C.P n k0 ac s e s'/\Rel C.D N' aw s'/\aw.rt=st.rt/\aw.rm=st.rm/\(N.agree C.fl N'/\C.fl<=aw.nx)/\K e aw
theorem A7 (h:N.agree m N') (hn:n<=m):N.agree n N':=⟨fun a ha=>h.1 a (ae7 ha hn),h.2⟩
end
section
theorem aS.Yt (hm:aS E J base g) {B B':Bk} (hB:g q=some B) (hz:B.sz≠0) (aZ:B'.sz=B.sz) (hl:B.els.length=B'.els.length) (hc:∀(i:Nat) cs ds,B.els[i]? =some cs->B'.els[i]? =some ds->cs.length=ds.length/\∀(j:Nat) c d,cs[j]? =some c->ds[j]? =some d->∀v,aj E v c->aj E v d):aS E J base (aJ g [(q,some B')]):=by
 have bh:∀{id X},aJ g [(q,some B')] id=some X->(id=q/\X=B')\/(id≠q/\g id=some X):=fun {id X} h=>by
  simp only [aJ] at h
  by_cases e:id=q
  ·rw [aeG e] at h;simp only [aeF] at h;exact .inl ⟨e,h.symm⟩
  ·rw [aeE e] at h;exact .inr ⟨e,h⟩
 have A8:∀{id X},aJ g [(q,some B')] id=some X->∃Y,g id=some Y:=fun h=>by
  rcases bh h with ⟨rfl,_⟩|⟨_,h⟩
  ·exact ⟨_,hB⟩
  ·exact ⟨_,h⟩
 refine ⟨fun id=> ?_,fun id X hg=> ?_,fun id dh b B1 B2 h1 h2 h3 h4=> ?_,fun id b X hg hb=> ?_,hm.low,hm.size,fun id X hg dQ=> ?_,hm.ku,fun b hb=>⟨(hm.xo b hb).1,(hm.xo b hb).2.1,fun k B1 hk he=>(A8 hk).elim fun B2 h2=>(hm.xo b hb).2.2 k B2 h2 he⟩⟩
 ·rw [hm.live id]
  simp only [aJ]
  by_cases e:id=q
  ·subst e;rw [aeG rfl,hB];exact ⟨fun _=>⟨_,rfl⟩,fun _=>⟨_,rfl⟩⟩
  ·rw [aeE e]
 ·rcases bh hg with ⟨rfl,rfl⟩|⟨_,h⟩
  ·have h0:=hm.at_ id B hB
   cases hloc:E.loc id with
   |none=>
    rw [hloc] at h0
    have qo:B.els=[]:=h0
    show X.els=[]
    rw [qo] at hl
    exact afQ (by simpa using hl.symm)
   |some b=>
    rw [hloc] at h0
    obtain ⟨h1,⟨eF,arr,t,h2,h3,h4⟩|⟨eF,_⟩⟩:=h0
    ·refine .lU ⟨h1,arr,t,h2,by rw [<-hl,aZ];exact h3,fun i ds hi=> ?_⟩ (by rw [aZ];exact eF)
     have cV:i<B.els.length:=by rw [hl];exact (aeN.1 hi).1
     have hcs:=aeL cV
     obtain ⟨e1,e2⟩:=hc i _ ds hcs hi
     refine ⟨by rw [<-e1,aZ];exact (h4 i _ hcs).1,fun j d hj=> ?_⟩
     have bL:j<B.els[i].length:=by rw [e1];exact (aeN.1 hj).1
     obtain ⟨u,u1,u2,u3⟩:=(h4 i _ hcs).2 j _ (aeL bL)
     exact ⟨u,by rw [aZ];exact u1,u2,e2 j _ d (aeL bL) hj u u3⟩
    ·exact absurd eF hz
  ·exact hm.at_ id X h
 ·obtain ⟨Y1,y1⟩:=A8 h1
  obtain ⟨Y2,y2⟩:=A8 h2
  exact hm.apart id dh b Y1 Y2 y1 y2 h3 h4
 ·obtain ⟨Y,y⟩:=A8 hg
  exact hm.out id b Y y hb
 ·rcases bh hg with ⟨rfl,rfl⟩|⟨_,h⟩
  ·rw [<-hl];exact hm.len id B hB hz
  ·exact hm.len id X h dQ
theorem S3.Yu {Q f:Nat} {cs:List AV} (hq:s.g q=some ⟨Q,[cs]⟩) (hk:q<s.k) (hf:cs[f]? =some .emp) (hQ:Q≠0) (hz:sz≠0):s.Le k0 n ⟨s.σ,aJ (aJ s.g [(s.k,some ⟨sz,[]⟩)]) [(q,some ⟨Q,[cs.set f (.own s.k sz 0 0)]⟩)],s.k+1⟩:=by
 intro E0 J base w0 a w o7 hr
 obtain ⟨E,rfl,hle,hs,hm,bK,hmk⟩:=hr.ex
 obtain ⟨E',hw,hE,hM,k1,k2,k3,k4,k5⟩:=hm.yN (fresh:=s.k) (fun hh=>afL _ (bK _ hh)) sz
 have lf:aJ s.g [(s.k,some ⟨sz,[]⟩)] q=some ⟨Q,[cs]⟩:=by simp only [aJ];rw [aeE (by omega)];exact hq
 have mZ:f<cs.length:=(aeN.1 hf).1
 have y9:=hM.Yt (B':=⟨Q,[cs.set f (.own s.k sz 0 0)]⟩) lf hQ rfl rfl (fun i c1 d1 h1 h2=>by
  cases i with
  |succ i=>simp at h1
  |zero=>
   simp only [afg,aeF] at h1 h2
   subst h1;subst h2
   refine ⟨by simp,fun j c d hc hd v hv=> ?_⟩
   rw [List.getElem?_set] at hd
   by_cases e:f=j
   ·subst e
    rw [aeG rfl,aeG mZ,aeF] at hd
    subst hd
    rw [hf,aeF] at hc
    subst hc
    obtain ⟨A,hA⟩:=vX hv
    rw [hA]
    exact .cK k1 k2 k3 k5 hz
   ·rw [aeE e,hc,aeF] at hd
    subst hd;exact hv)
 refine ⟨⟨E',hw,hle.trans hE,fun j=>(hs j).step hE,y9,fun id hid=> ?_,hmk.step hE⟩,hr.size,hr.below,hr.gl⟩
 show id<s.k+1
 rcases k4 id hid with h|h
 ·have:=bK id h;omega
 ·omega
end
section
variable {τ:Type} {dn:τ->Type}
theorem LL {D:TD τ dn} {n k0:Nat}:∀{vs:List (VK τ)} {N:aL} {st:SS τ dn} {s:S3},Rel D N st s->∃s' N',s.Le k0 n s'/\Rel D N' (uy D st vs) s'/\(uy D st vs).rt=st.rt/\(uy D st vs).rm=st.rm/\N.agree st.nx N'/\st.nx<=(uy D st vs).nx
 |[],N,st,s,R=>⟨s,N,S3.Le.ot,R,rfl,rfl,N.gn _,aeO _⟩
 |v::r,N,st,s,R=>by
  have one:∃s' N',s.Le k0 n s'/\Rel D N' (nB D st v) s'/\(nB D st v).rt=st.rt/\(nB D st v).rm=st.rm/\N.agree st.nx N'/\st.nx<=(nB D st v).nx:=by
   have no:∃s' N',s.Le k0 n s'/\Rel D N' st s'/\st.rt=st.rt/\st.rm=st.rm/\N.agree st.nx N'/\st.nx<=st.nx:=⟨s,N,S3.Le.ot,R,rfl,rfl,N.gn _,aeO _⟩
   have LM:∀(q f:Nat) (t:τ) (cs:List (Nat×Nat)),∃s' N',s.Le k0 n s'/\Rel D N' (nB D st (.so q f t cs)) s'/\(nB D st (.so q f t cs)).rt=st.rt/\(nB D st (.so q f t cs)).rm=st.rm/\N.agree st.nx N'/\st.nx<=(nB D st (.so q f t cs)).nx:=by
    intro q f t cs
    simp only [nB]
    split
    ·rename_i Q vs hB
     split
     ·rename_i hf
      cases hb:(Nat.blt 0 (D.sz t)&&(Nat.blt 0 Q&&st.rw q)) with
      |false=>rw [ae0];exact no
      |true=>
       rw [aeK]
       rw [aeH,aeH] at hb
       have hz:D.sz t≠0:=Nat.ne_of_gt (afv hb.1)
       have hQ:Q≠0:=Nat.ne_of_gt (afv hb.2.1)
       obtain ⟨⟨B1,m1⟩,r1⟩:=nq hb.2.2
       have Ff:B1= .bc Q [vs]:=by have:=qQ m1;rw [this] at hB;simpa using hB
       subst Ff
       have uz:=R.ml q _ m1
       obtain ⟨g1,g2⟩:=R.here.bl q _ m1
       have R1:=R.go (n:=0) (d:=none) (r:= .new [] (.own st.nx (D.sz t)) (.bl t [])) rfl rfl (val:= .own s.k (D.sz t) 0 0) (ups:=[(s.k,some ⟨D.sz t,[]⟩)]) (fun N' hN=>by
        simp only [SR.v,SV.av]
        have h1:=hN.1 st.nx (afB _)
        simp only [SR.up,aL.eN,aeI] at h1
        rw [h1.1,h1.2];rfl) (fun N' hN=>rfl)
       have fO:=N.pJ st.nx s.k 0
       have Yv:(N.eN st.nx s.k 0).ι q=N.ι q:=(fO.1 q uz).1
       have Yw:(N.eN st.nx s.k 0).ι st.nx=s.k/\(N.eN st.nx s.k 0).ln st.nx=0:=by simp [aL.eN]
       have aI:q≠st.nx:=Nat.ne_of_lt uz
       have yK:(SR.put [] (.vo undef) q (.bc Q [vs.set f (.own st.nx (D.sz t))]):SR τ dn).may D (N.eN st.nx s.k 0) ((SR.new [] (.own st.nx (D.sz t)) (.bl t []):SR τ dn).st st none):=by
        refine ⟨⟨.bc Q [vs], ?_, ?_⟩,r1,rfl⟩
        ·show getS ((st.nx,some (.bl t []))::st.m) q=_
         rw [bG,aeE aI];exact m1
        ·rw [(fO.1 q uz).2,g2];rfl
       have Yx:∀N':aL,(N.eN st.nx s.k 0).agree (st.nx+1) N'->(vs.map (SV.av D.toTE N'))=vs.map (SV.av D.toTE N):=fun N' hN=>by
        have A':=R.at_ N' (aL.iq fO hN (Nat.le_succ _))
        have e1:=(A'.bl q _ m1).1
        rw [((aL.iq fO hN (Nat.le_succ _)).1 q uz).1,g1] at e1
        simpa [SB.av,SV.cM,SV.bX] using e1.symm
       have R2:=R1.go (n:=0) (d:=none) (r:= .put [] (.vo undef) q (.bc Q [vs.set f (.own st.nx (D.sz t))])) rfl yK (val:= .v undef) (ups:=[(N.ι q,some ⟨Q,[(vs.map (SV.av D.toTE N)).set f (.own s.k (D.sz t) 0 0)]⟩)]) (fun N' hN=>rfl) (fun N' hN=>by
        have Fv:(N.eN st.nx s.k 0).agree (st.nx+1) N':=hN
        have h1:=Fv.1 st.nx (afB _)
        have h2:=(Fv.1 q (ags uz)).1
        simp only [SR.ups,SB.av,SV.cM,SV.bX,af9,SV.av,h1.1,h1.2,h2,Yw,Yv,Yx N' Fv])
       refine ⟨_,N.eN st.nx s.k 0,S3.Yu (q:=N.ι q) (f:=f) (cs:=vs.map (SV.av D.toTE N)) (sz:=D.sz t) (by rw [g1];simp only [SB.av,SV.cM,SV.bX]) (R.lt q uz) (by rw [aeY,hf];rfl) hQ hz, ?_,rfl,rfl,fO,Nat.le_succ _⟩
       exact R2
     ·exact no
    ·exact no
   cases v with
   |ow i t=>
    simp only [nB]
    split
    ·rename_i hg
     cases hb:(Nat.blt 0 (D.sz t)&&(getS st.rt i).isNone) with
     |false=>rw [ae0];exact no
     |true=>
      rw [aeK]
      rw [aeH] at hb
      have hz:D.sz t≠0:=Nat.ne_of_gt (afv hb.1)
      have hσ:s.σ i= .emp:=R.here.gt hg
      refine ⟨_,N.eN st.nx s.k 0,S3.X2 hσ hz, ?_,rfl,rfl,N.pJ _ _ _,Nat.le_succ _⟩
      have:=R.go (n:=i+1) (d:=some i) (r:= .new [] (.own st.nx (D.sz t)) (.bl t [])) (by simp only [dstS,aeH];exact ⟨Nat.ble_eq_true_of_le (aeO _),hb.2⟩) rfl (val:= .own s.k (D.sz t) 0 0) (ups:=[(s.k,some ⟨D.sz t,[]⟩)]) (fun N' hN=>by
       simp only [SR.v,SV.av]
       have h1:=hN.1 st.nx (afB _)
       simp only [SR.up,aL.eN,aeI] at h1
       rw [h1.1,h1.2];rfl) (fun N' hN=>rfl)
      refine cast ?_ this
      congr 2
      funext j
      simp only [cy,aeF]
      by_cases hj:j=i
      ·subst hj;rw [aeG ⟨rfl,afB _⟩,aeG rfl]
      ·rw [aeE (fun hh=>hj hh.1.symm),aeE hj]
    ·exact no
   |so q f t cs=>exact LM q f t cs
   |sg q f t S fx=>exact LM q f t []
   |_=>exact no
  obtain ⟨s1,N1,h1,h2,h3,h4,h5,h6⟩:=one
  obtain ⟨s2,N2,q1,q2,q3,q4,q5,q6⟩:=LL (vs:=r) h2
  exact ⟨s2,N2,h1.trans' q1,q2,q3.trans h3,q4.trans h4,aL.iq h5 q5 h6,afb h6 q6⟩
mutual
theorem SV.sN {p q:Nat->Bool} (h:∀a,p a=true->q a=true):∀(v:SV τ dn),v.fr p=true->v.fr q=true
 | .own nm sz,hv| .part nm sz _ _,hv| .ref nm sz _ _,hv| .mp nm,hv=>by simp only [SV.fr] at hv ⊢; exact h nm hv
 | .agg cs,hv| .bm cs,hv| .fn _ cs,hv| .bf _ cs,hv| .pim cs _,hv=>by simp only [SV.fr] at hv ⊢; exact SV.Fw h cs hv
 | .vc _ els,hv=>by simp only [SV.fr] at hv ⊢; exact SV.A9 h els hv
 | .vg p c v,hv=>by simp only [SV.fr] at hv ⊢; exact SV.sN h v hv
 | .rw _ _,_| .eg _ _ _ _,_| .vl _ _,_| .vi _,_| .vn _,_| .vy _,_| .vu _,_| .vw _ _,_| .vb _,_| .vt _,_| .vz _,_| .vo _,_| .emp,_| .dead,_=>by simp only [SV.fr]
theorem SV.Fw {p q:Nat->Bool} (h:∀a,p a=true->q a=true):∀(cs:List (SV τ dn)),SV.ck p cs=true->SV.ck q cs=true
 |[],_=>rfl
 |v::r,hv=>by simp only [SV.ck,aeH] at hv ⊢; exact ⟨SV.sN h v hv.1,SV.Fw h r hv.2⟩
theorem SV.A9 {p q:Nat->Bool} (h:∀a,p a=true->q a=true):∀(els:List (List (SV τ dn))),SV.pA p els=true->SV.pA q els=true
 |[],_=>rfl
 |v::r,hv=>by simp only [SV.pA,aeH] at hv ⊢; exact ⟨SV.Fw h v hv.1,SV.A9 h r hv.2⟩
end
theorem SB.sN {p q:Nat->Bool} (h:∀a,p a=true->q a=true) (B:SB τ dn) (hB:B.fr p=true):B.fr q=true:=by
 cases B with
 |bl t xs=>rfl
 |bc sz els=>simp only [SB.fr] at hB ⊢; exact SV.A9 h els hB
 |mc els=>simp only [SB.fr] at hB ⊢; exact SV.A9 h els hB
 |ar t A=>rfl
def lG (D:TD τ dn) (st:SS τ dn):List m5->Option (List Prop×List (SV τ dn))
 |[]=>some ([],[])
 | .tmp i::r=>match st.gt i,lG D st r with
  |some v,some (O,l)=>some (O,v::l)
  |_,_=>none
 | .cell i m::r=>match st.gt i,lG D st r with
  |some a,some (O,l)=>match sn D st m a with
   |some (.val O' v)=>some (O'++O,v::l)
   |_=>none
  |_,_=>none
def mA (vs:List (SV τ dn)) (i:Nat):List (Nat×SV τ dn):=match vs with
 |[]=>[]
 |v::r=>(i,v)::mA r (i+1)
theorem Ba {i:Nat}:∀{vs:List (SV τ dn)} {k:Nat} {v:SV τ dn},getS (mA vs k) i=some v->k<=i/\vs[i - k]? =some v
 |[],k,v,h=>by simp [mA,getS] at h
 |w::r,k,v,h=>by
  simp only [mA,bG] at h
  by_cases hi:i=k
  ·rw [aeG hi,aeF] at h
   subst h;subst hi;exact ⟨aeO _,by simp⟩
  ·rw [aeE hi] at h
   obtain ⟨h1,h2⟩:=Ba h
   refine ⟨by omega, ?_⟩
   rw [show i - k=(i - (k+1))+1 by omega,aft];exact h2
theorem Yy {D:TD τ dn} {st:SS τ dn} {σ:Nat->AV} (ok:bE D) (R:bN D N st σ g) {m:Option Nat} {a:SV τ dn} (hx:st.gt i=some a) {O:List Prop} {v:SV τ dn} (h:sn D st m a=some (.val O v)) (hO:∀p,p∈O->p):(vS m (σ i)).run g=some (v.av D.toTE N):=by
 have e:=Kc ok R (x:= .s i) hx h 0 hO trivial
 have hs:aR σ (.s i)=σ i:=rfl
 simp only [AO.aq,hs] at e
 unfold vS
 cases hσ:σ i<;>rw [hσ] at e<;>simp only at e ⊢
 case pim cs o=>
  cases hg:getCells cs o m with
  |none=>rw [hg] at e;simp [RM.opt,RM.run] at e
  |some w=>rw [hg] at e;simp only [aeT,RM.opt,RM.run,aeF,Out.done.injEq] at e;simp only [RM.opt,RM.run,e.1];rfl
 case ref id sz j o=>
  simp only [RM.run] at e ⊢
  cases hg:g id with
  |none=>rw [hg] at e;simp at e
  |some B=>
   rw [hg] at e
   simp only at e ⊢
   split at e
   ·rename_i hz
    rw [aeG hz]
    cases hq:(B.els[j]?.bind fun cs=>getCells cs o m) with
    |none=>rw [hq] at e;simp [RM.opt,RM.run] at e
    |some w=>rw [hq] at e;simp only [aeT,RM.opt,RM.run,aeF,Out.done.injEq] at e;simp only [RM.opt,RM.run,e.1];rfl
   ·simp [RM.run] at e
 all_goals simp [RM.run] at e
theorem xj {D:TD τ dn} {N:aL} {st:SS τ dn} {σ:Nat->AV} {g:Nat->Option Bk} (ok:bE D) (R:bN D N st σ g):∀{res:List m5} {O:List Prop} {l:List (SV τ dn)},lG D st res=some (O,l)->(∀p,p∈O->p)->(nX σ res).run g=some (l.map (SV.av D.toTE N))
 |[],O,l,h,hO=>by simp only [lG,aeF,aeX] at h;obtain ⟨_,rfl⟩:=h;rfl
 | .tmp i::r,O,l,h,hO=>by
  simp only [lG] at h
  split at h
  ·rename_i v O' l' h1 h2
   simp only [aeF,aeX] at h;obtain ⟨rfl,rfl⟩:=h
   simp only [nX]
   rw [eW (xj ok R h2 hO)]
   simp only [RM.run,aeR,R.gt h1]
  ·simp at h
 | .cell i m::r,O,l,h,hO=>by
  simp only [lG] at h
  split at h
  ·rename_i a O' l' h1 h2
   split at h
   ·rename_i O2 v h3
    simp only [aeF,aeX] at h;obtain ⟨rfl,rfl⟩:=h
    simp only [nX]
    rw [eW (Yy ok R h1 h3 fun p hp=>hO p (afm _ hp)),eW (xj ok R h2 fun p hp=>hO p (afl _ hp))]
    rfl
   ·simp at h
  ·simp at h
theorem LN {D:TD τ dn} {st:SS τ dn}:∀{l l':List (SV τ dn)},nt D st l=some l'->l.length=l'.length
 |[],l',h=>by simp only [nt,aeF] at h;subst h;rfl
 |v::r,l',h=>by
  simp only [nt] at h
  split at h
  ·rename_i x l2 h1 h2
   simp only [aeF] at h;subst h;simp [LN h2]
  ·simp at h
theorem Yz {a a':AV} (h:(fp a).run g=some a'):(ph a).run g=some a':=by
 cases a<;>first
  |exact h
  |(simp [fp,snap1,AV.pu1,RM.run] at h)
theorem LO {D:TD τ dn} (ok:bE D) (t:τ) (x:dn t) (h:D.pu t=true):(D.en t x).av D.toTE N=(D.en t x).av D.toTE N':=by
 have e:(D.es t x).map (SV.av D.toTE N)=(D.es t x).map (SV.av D.toTE N'):=by rw [ok.dD,ok.dD,ok.gS _ N'.ρ t x h]
 cases ha:D.ag t with
 |true=>rw [wT ha,SV.av,SV.av,SV.bX,SV.bX,e]
 |false=>
  unfold TD.en
  rw [ha,ae0]
  cases hs:D.es t x with
  |nil=>rfl
  |cons v r=>rw [hs] at e;simp only [aeR,agv] at e;exact e.1
theorem LP {D:TD τ dn} (ok:bE D) {N N':aL}:∀(rs:List τ) (x:RD dn rs),rs.all D.pu=true->(iZ D rs x).map (SV.av D.toTE N)=(iZ D rs x).map (SV.av D.toTE N')
 |[],_,_=>rfl
 |[t],x,h=>by simp only [List.all_cons,List.all_nil,Bool.and_true] at h;simp only [iZ,aeR,afh];rw [LO ok (N:=N) (N':=N') t x h]
 |t::s::r,x,h=>by
  rw [List.all_cons,aeH] at h
  simp only [iZ,aeR];rw [LO ok (N:=N) (N':=N') t x.1 h.1,LP ok (N:=N) (N':=N') (s::r) x.2 h.2]
theorem LQ {f:Nat->Nat}:∀{n m:Nat},xc ((List.range' m n).map f)=true->∀a b,m<=a->a<m+n->m<=b->b<m+n->f a=f b->a=b
 |0,m,h,a,b,h1,h2,h3,h4,he=>by omega
 |n+1,m,h,a,b,h1,h2,h3,h4,he=>by
  rw [List.range'_succ,aeR] at h
  simp only [xc,aeH,ae1] at h
  have ij:∀c,m+1<=c->c<m+1+n->f m≠f c:=fun c k1 k2 e=>by
   have:hasN ((List.range' (m+1) n).map f) (f m)=true:=pS.2 (ae2.2 ⟨c,List.mem_range'_1.2 ⟨k1,k2⟩,e.symm⟩)
   rw [this] at h;simp at h
  by_cases ha:a=m<;>by_cases hb:b=m
  ·omega
  ·subst ha;exact absurd he (ij b (by omega) (by omega))
  ·subst hb;exact absurd he.symm (ij a (by omega) (by omega))
  ·exact LQ h.2 a b (by omega) (by omega) (by omega) (by omega) he
theorem LU {C:cU τ dn} {n k0:Nat} {a:AC} {B:SS τ dn->(Ex->SS τ dn->Prop)->Prop} (hB:∀{st:SS τ dn} {K:Ex->SS τ dn->Prop} {N:aL} {s:S3},Rel C.D N st s->C.fl<=st.nx->B st K->Ends C n k0 a N st s K):
  ∀(m:Nat) {st:SS τ dn} {K:Ex->SS τ dn->Prop} {N:aL} {s:S3},Rel C.D N st s->C.fl<=st.nx->Ft B m st K->∃e s' j N2 aw,Ch C.P n k0 a e s' j s/\Rel C.D N2 aw s'/\aw.rt=st.rt/\aw.rm=st.rm/\(N.agree C.fl N2/\C.fl<=aw.nx)/\K e aw
 |0,st,K,N,s,R,hl,h=>h.elim
 |m+1,st,K,N,s,R,hl,h=>by
  obtain ⟨e,s1,N1,st1,e1,R1,r1,r2,r3,hk⟩:=hB R hl h
  cases e with
  |normal=>
   obtain ⟨e,s2,j,N2,bA,c1,c2,c3,c4,c5,c6⟩:=LU hB m R1 r3.2 hk
   exact ⟨e,s2,j+1,N2,bA, .step e1 S3.Le.ot c1,c2,c3.trans r1,c4.trans r2,⟨aL.iq r3.1 c5.1 (aeO _),c5.2⟩,c6⟩
  |exit i=>exact ⟨_,s1,0,N1,st1, .last e1 (by simp),R1,r1,r2,r3,hk⟩
  |ret=>exact ⟨_,s1,0,N1,st1, .last e1 (by simp),R1,r1,r2,r3,hk⟩
variable [DecidableEq τ]
theorem S3.LV (sz:Nat):s.Le k0 n ⟨s.σ,aJ s.g [(s.k,some ⟨sz,[]⟩)],s.k+1⟩:=by
 intro E0 J base w0 a w hk hr
 obtain ⟨E,rfl,hle,hs,hm,bK,hmk⟩:=hr.ex
 obtain ⟨E',hw,hE,hM,k1,k2,k3,k4,k5⟩:=hm.yN (fresh:=s.k) (fun hh=>afL _ (bK _ hh)) sz
 refine ⟨⟨E',hw,hle.trans hE,fun j=>(hs j).step hE,hM,fun id hid=> ?_,hmk.step hE⟩,hr.size,hr.below,hr.gl⟩
 show id<s.k+1
 rcases k4 id hid with h|h
 ·have:=bK id h;omega
 ·omega
theorem LW {C:cU τ dn} (hC:C.Ok) {a:AC} {B:SS τ dn->(Ex->SS τ dn->Prop)->Prop} (hB:∀{st:SS τ dn} {K:Ex->SS τ dn->Prop} {N:aL} {s:S3},Rel C.D N st s->C.fl<=st.nx->B st K->Ends C n k0 a N st s K) {vs:List (VK τ)} {I:VT dn vs->Prop} {ms:VT dn vs->Nat}
  {st:SS τ dn} {K:Ex->SS τ dn->Prop} {T:List Nat} {ft:List (Nat×SV τ dn)} {fm:List (Nat×Option (SB τ dn))} (hT:vs.map (nmV st)=T) (oy:T.length=vs.length) (kp:∀{a},keepP vs T st.nx a=true->a<st.nx/\¬a∈movesV vs T) (hle:∀a,keepP vs T st.nx a=true->lessB st.nx a=true)
  (aT:∀{i v},getS (ft++st.rt) i=some v->(getS ft i=some v\/getS st.rt i=some v)/\v.fr (keepP vs T st.nx)=true/\¬i∈gD vs) (aM:∀{i v},getS (fm++st.rm) i=some v->(getS fm i=some v\/getS st.rm i=some v)/\(∀B,v=some B->B.fr (keepP vs T st.nx)=true)/\keepP vs T st.nx i=true)
  (fT:∀{i v},getS ft i=some v->getS st.t i=some v/\v.fr (keepP vs T st.nx)=true/\¬i∈gD vs) (fM:∀{i v},getS fm i=some v->getS st.m i=some v/\(∃B,v=some B/\B.fr (keepP vs T st.nx)=true)/\keepP vs T st.nx i=true)
  (rT:∀{i v},getS st.rt i=some v->v.fr (keepP vs T st.nx)=true/\¬i∈gD vs/\getS ft i=none) (rM:∀{i v},getS st.rm i=some v->keepP vs T st.nx i=true/\(∀B,v=some B->B.fr (keepP vs T st.nx)=true)/\getS fm i=none) (o3:okT (lessB st.nx) vs T=true) (mZ:C.fl<=st.nx) (Bb:(movesV vs T).all (Nat.ble C.fl)=true)
  {x:VT dn vs} (h:B ⟨ft++st.rt,fm++st.rm,cI C.D vs T x,putM C.D vs T x,st.nx⟩ fun e aw=>match e with
   | .normal=>match pU C.D aw vs with
    |some x'=>bif nextB vs T (vs.map (nmV aw)) st.nx aw.nx then I x'/\ms x'<ms x else False
    |none=>False
   |e=>K e ⟨st.rt,st.rm,aw.t++ft,aw.m++fm,aw.nx⟩) (R:Rel C.D N ⟨ft++st.rt,fm++st.rm,cI C.D vs T x,putM C.D vs T x,st.nx⟩ s)
  (next:∀x',ms x'<ms x->I x'->∀N2 s2,Rel C.D N2 ⟨ft++st.rt,fm++st.rm,cI C.D vs T x',putM C.D vs T x',st.nx⟩ s2->∃e s' j N3 aw,Ch C.P n k0 a e s' j s2/\Rel C.D N3 aw s'/\aw.rt=st.rt/\aw.rm=st.rm/\(N2.agree C.fl N3/\C.fl<=aw.nx)/\K e aw):
  ∃e s' j N2 aw,Ch C.P n k0 a e s' j s/\Rel C.D N2 aw s'/\aw.rt=st.rt/\aw.rm=st.rm/\(N.agree C.fl N2/\C.fl<=aw.nx)/\K e aw:=by
 obtain ⟨e,s1,N1,st1,e1,R1,iN,eQ,LX,hk⟩:=hB R mZ h
 have leave:e≠ .normal->K e ⟨st.rt,st.rm,st1.t++ft,st1.m++fm,st1.nx⟩->∃e s' j N2 aw,Ch C.P n k0 a e s' j s/\Rel C.D N2 aw s'/\aw.rt=st.rt/\aw.rm=st.rm/\(N.agree C.fl N2/\C.fl<=aw.nx)/\K e aw:=fun aI hk=>by
  have LZ:∀i v,getS fm i=some v->getS st1.rm i=some v:=fun i v h=>by rw [eQ];show getS (fm++st.rm) i=_;rw [jA,h];rfl
  have L1:∀i v,getS st.rm i=some v->getS st1.rm i=some v:=fun i v h=>by rw [eQ];show getS (fm++st.rm) i=_;rw [jA,(rM h).2.2];exact h
  have ed:∀a X,(⟨st.rt,st.rm,st1.t++ft,st1.m++fm,st1.nx⟩:SS τ dn).cg a X->st1.cg a X:=fun a X hX=>by
   rcases hX with hX|hX
   ·have pP:getS (st1.m++fm) a=some (some X):=hX
    rw [jA] at pP
    cases hq:getS st1.m a with
    |some w=>rw [hq] at pP;simp only [agt,aeF] at pP;subst pP;exact .inl hq
    |none=>rw [hq] at pP;simp only [aga] at pP;exact .inr (LZ a _ pP)
   ·exact .inr (L1 a _ hX)
  refine ⟨e,s1,0,N1,⟨st.rt,st.rm,st1.t++ft,st1.m++fm,st1.nx⟩, .last e1 aI,⟨fun N' hN=> ?_,R1.inj,R1.lt,fun nm B h=> ?_,fun nm B h=> ?_,fun t A h id hid=>⟨(R1.sp t A (ed 0 _ h) id hid).1,fun nm B hB=>(R1.sp t A (ed 0 _ h) id hid).2 nm B (ed nm B hB)⟩⟩,rfl,rfl,LX,hk⟩
  ·have A:=R1.at_ N' hN
   have YA:∀i v,getS ft i=some v->getS st1.rt i=some v:=fun i v h=>by rw [iN];show getS (ft++st.rt) i=_;rw [jA,h];rfl
   have YB:∀i v,getS st.rt i=some v->getS st1.rt i=some v:=fun i v h=>by rw [iN];show getS (ft++st.rt) i=_;rw [jA,(rT h).2.2];exact h
   refine ⟨fun i v h=> ?_,fun i v h=>A.rs i v (YB i v h),fun nm B h=> ?_,fun nm B h=>A.rb nm B (L1 nm _ h),fun t A' h id hid=>A.ar t A' (ed 0 _ h) id hid⟩
   ·have h':getS (st1.t++ft) i=some v:=h
    rw [jA] at h'
    cases hq:getS st1.t i with
    |some w=>rw [hq] at h';simp only [agt,aeF] at h';subst h';exact A.sl i _ hq
    |none=>rw [hq] at h';simp only [aga] at h';exact A.rs i v (YA i v h')
   ·have h':getS (st1.m++fm) nm=some (some B):=h
    rw [jA] at h'
    cases hq:getS st1.m nm with
    |some w=>rw [hq] at h';simp only [agt,aeF] at h';subst h';exact A.bl nm _ hq
    |none=>rw [hq] at h';simp only [aga] at h';exact A.rb nm B (LZ nm _ h')
  ·have h':getS (st1.m++fm) nm=some B:=h
   rw [jA] at h'
   cases hq:getS st1.m nm with
   |some w=>exact R1.ml nm w hq
   |none=>rw [hq] at h';simp only [aga] at h';exact R1.rl nm B (by rw [eQ];show getS (fm++st.rm) nm=_;rw [jA,h'];rfl)
  ·exact R1.rl nm B (by rw [eQ];show getS (fm++st.rm) nm=_;rw [jA,(rM h).2.2];exact h)
 cases e with
 |exit i=>exact leave (by simp) hk
 |ret=>exact leave (by simp) hk
 |normal=>
  simp only at hk
  split at hk
  case h_2=>exact hk.elim
  rename_i x' eH
  generalize hA:vs.map (nmV st1)=A at hk
  cases hn:nextB vs T A st.nx st1.nx with
  |false=>rw [hn] at hk;exact hk.elim
  |true=>
   rw [hn,aeK] at hk
   unfold nextB at hn
   simp only [aeH] at hn
   obtain ⟨⟨⟨n1,n2⟩,n3⟩,n4⟩:=hn
   have L2:∀a,a∈kO vs->fH vs T A a=a:=fun a ha=>aeU (aeJ.1 n4 a ha)
   have hV:=AK hC.ok R1.here eH
   rw [hA] at hV
   have YC:A.length=vs.length:=by rw [<-hA,aeS]
   have Fx:∀c,c<st.nx->fH vs T A c<st1.nx:=fun c hc=>xd ((aeJ.1 n2) c (ae6.2 hc))
   have YD:∀c d,c<st.nx->d<st.nx->fH vs T A c=fH vs T A d->c=d:=fun c d hc hd he=>by
    rw [List.range_eq_range'] at n1
    exact LQ n1 c d (Nat.zero_le _) (by omega) (Nat.zero_le _) (by omega) he
   obtain ⟨N2,mB⟩:∃N2:aL,N2=⟨fun c=>N1.ι (fH vs T A c),fun c=>N1.ln (fH vs T A c),N1.ρ⟩:=⟨_,rfl⟩
   have xf:N1.same (keepP vs T st.nx) N2:=by
    refine ⟨fun c hc=> ?_,by rw [mB]⟩
    rw [mB];simp only [Fb (kp hc).2,ae5]
   have YE:nA C.D N2 s1.σ s1.g vs T x':=by
    refine Fc C.D (by rw [mB]) hC.ok hV (by rw [oy,YC]) (fun j v c m h0 h1 h2=> ?_) fun a ha=>by rw [mB];simp only [L2 a ha,ae5]
    have hz:(v,c,m)∈vs.zip (T.zip A):=by
     refine afd (i:=j) ?_
     rw [agL,agL]
     exact ⟨h0,h1,h2⟩
    have:=(aeJ.1 n3) _ hz
    simp only [ae8,aeH] at this
    rcases this with h|⟨h,h'⟩
    ·exact .inl h
    ·have e:=aeU h
     refine .inr ⟨by rw [mB];simp only [e],by rw [mB];simp only [e], ?_⟩
     rcases h' with h'|h'
     ·exact .inl h'
     ·exact .inr (aeU h')
   obtain ⟨s2,w2,R2⟩:=Ld (n:=n) (k0:=k0) hC.ok (rt:=ft++st.rt) (rm:=fm++st.rm) (nx:=st.nx) YE o3 oy (fun i v h=>by
     obtain ⟨_,h2,h3⟩:=aT h
     refine ⟨?_,SV.sN hle v h2,h3⟩
     rw [sG xf v h2]
     exact R1.here.rs i v (by rw [iN];exact h)) (fun nm B h=>by
     obtain ⟨_,h2,h3⟩:=aM h
     refine ⟨(kp h3).1,fun B' aW=> ?_⟩
     subst aW
     obtain ⟨q1,q2⟩:=R1.here.rb nm B' (by rw [eQ];exact h)
     obtain ⟨p1,p2⟩:=xf.1 nm h3
     exact ⟨by rw [p1,KZ xf B' (h2 B' rfl)];exact q1,by rw [p2];exact q2,SB.sN hle B' (h2 B' rfl)⟩)
    (fun c d hc hd he=>YD c d hc hd (R1.inj _ _ (Fx c hc) (Fx d hd) (by rw [mB] at he;exact he))) (fun c hc=>by rw [mB];exact R1.lt _ (Fx c hc))
    (fun t Ar h id hid=>by
     have ed:∀nm B,(⟨ft++st.rt,fm++st.rm,cI C.D vs T x',putM C.D vs T x',st.nx⟩:SS τ dn).cg nm B->(∃B',st1.cg (fH vs T A nm) B')/\(∀t Ar,nm=0->B= .ar t Ar->st1.cg 0 (.ar t Ar)):=fun nm B hB=>by
      rcases hB with hB|hB
      ·rcases AL eH oy nm B (my hB) with ⟨j,v,p1,p2,p3,⟨B',p4⟩,p5⟩|⟨hf,⟨B',p4⟩,p5⟩
       case inr=>exact ⟨⟨B',by rw [L2 nm hf];exact jX p4⟩,fun t Ar h0 he=>absurd he (p5 t Ar)⟩
       have hj:A[j]? =some (nmV st1 v):=by rw [<-hA,aeY,p1];rfl
       have hz:(v,nm,nmV st1 v)∈vs.zip (T.zip A):=by
        refine afd (i:=j) ?_
        rw [agL,agL]
        exact ⟨p1,p2,hj⟩
       have:=(aeJ.1 n3) _ hz
       simp only [ae8,aeH] at this
       have e:=aeU (this.resolve_left (by rw [p3];simp)).1
       refine ⟨⟨B', ?_⟩,fun t Ar h0 he=> ?_⟩
       ·show st1.cg (fH vs T A nm) B'
        rw [e];exact jX p4
       ·exact jX (p5 t Ar he).2
      ·have aW:getS (fm++st.rm) nm=some (some B):=hB
       obtain ⟨_,_,h3⟩:=aM aW
       refine ⟨⟨B, ?_⟩,fun t Ar h0 he=> ?_⟩
       ·rw [Fb (kp h3).2];exact .inr (by rw [eQ];exact aW)
       ·subst h0;subst he;exact .inr (by rw [eQ];exact aW)
     have h1:=(ed 0 _ h).2 t Ar rfl rfl
     obtain ⟨q1,q2⟩:=R1.sp t Ar h1 id hid
     have q3:=R1.here.ar t Ar h1 id hid
     refine ⟨by rw [mB];exact q3,q1,fun nm B hB=> ?_⟩
     obtain ⟨⟨B',aW⟩,_⟩:=ed nm B hB
     rw [mB];exact q2 _ B' aW)
   obtain ⟨e,s',j,N3,aw,c1,c2,c3,c4,c5,c6⟩:=next x' hk.2 hk.1 N2 s2 R2
   have fO:N1.agree C.fl N2:=⟨fun c hc=>by
    have ij:¬c∈movesV vs T:=fun hm=>absurd (afv (aeJ.1 Bb c hm)) (by omega)
    rw [mB];simp only [Fb ij,ae5],by rw [mB]⟩
   exact ⟨e,s',j+1,N3,aw, .step e1 w2 c1,c2,c3,c4,⟨aL.iq (aL.iq LX.1 fO (aeO _)) c5.1 (aeO _),c5.2⟩,c6⟩
theorem YF {C:cU τ dn} (hC:C.Ok) {a:AC} {B:SS τ dn->(Ex->SS τ dn->Prop)->Prop} (hB:∀{st:SS τ dn} {K:Ex->SS τ dn->Prop} {N:aL} {s:S3},Rel C.D N st s->C.fl<=st.nx->B st K->Ends C n k0 a N st s K) {vs:List (VK τ)} {I0:VT dn vs->VT dn vs->Prop} {L4:VT dn vs->VT dn vs->Nat} {mz:List Nat}
  {st:SS τ dn} {K:Ex->SS τ dn->Prop} (R:Rel C.D N st s) (mZ:C.fl<=st.nx) (h:Fu C.D C.fl vs I0 L4 mz B st K):Ends C n k0 (.loop a) N st s K:=by
 unfold Fu at h
 split at h
 case h_1=>exact h.elim
 rename_i x0 zE
 generalize hI:I0 x0=I at h
 generalize CG:L4 x0=ms at h
 generalize hT:vs.map (nmV st)=T at h
 generalize YG:pT (keepP vs T st.nx) (gD vs++mz) st.t=ft at h
 generalize YH:ou (keepP vs T st.nx) (sI vs T) st.m=fm at h
 unfold LI at h
 cases hok:okB vs T st (keepP vs T st.nx) ft fm&&(movesV vs T).all (Nat.ble C.fl) with
 |false=>rw [hok] at h;exact h.elim
 |true=>
 rw [hok,aeK] at h
 rw [aeH] at hok
 obtain ⟨hok,Bb⟩:=hok
 obtain ⟨vI,cA⟩:=h
 rw [AH] at cA
 unfold okB at hok
 simp only [aeH] at hok
 obtain ⟨⟨⟨⟨o1,o2⟩,o3⟩,o4⟩,o5⟩:=hok
 have oy:T.length=vs.length:=by rw [<-hT,aeS]
 have kp:∀{a},keepP vs T st.nx a=true->a<st.nx/\¬a∈movesV vs T:=fun {a} h=>by
  unfold keepP at h
  rw [aeH] at h
  refine ⟨xd h.1,fun hm=> ?_⟩
  have:=h.2
  rw [pS.2 hm] at this;simp at this
 have hle:∀a,keepP vs T st.nx a=true->lessB st.nx a=true:=fun a h=>by
  unfold keepP at h;rw [aeH] at h;exact h.1
 have fT:∀{i v},getS ft i=some v->getS st.t i=some v/\v.fr (keepP vs T st.nx)=true/\¬i∈gD vs:=fun {i v} h=>by
  rw [<-YG] at h
  obtain ⟨h1,h2,h3⟩:=E7 h
  exact ⟨h1,h2,fun hh=>h3 (afm _ hh)⟩
 have fM:∀{i v},getS fm i=some v->getS st.m i=some v/\(∃B,v=some B/\B.fr (keepP vs T st.nx)=true)/\keepP vs T st.nx i=true:=fun {i v} h=>by
  rw [<-YH] at h
  obtain ⟨h1,h2,h3,_⟩:=E8 h
  exact ⟨h1,h2,h3⟩
 have rT:∀{i v},getS st.rt i=some v->v.fr (keepP vs T st.nx)=true/\¬i∈gD vs/\getS ft i=none:=fun {i v} h=>by
  have:=(aeJ.1 o1) _ (my h)
  simp only [aeH,ae1,Option.isNone_iff_eq_none] at this
  exact ⟨this.1.1,fun hh=>by rw [pS.2 hh] at this;simp at this,this.2⟩
 have rM:∀{i v},getS st.rm i=some v->keepP vs T st.nx i=true/\(∀B,v=some B->B.fr (keepP vs T st.nx)=true)/\getS fm i=none:=fun {i v} h=>by
  have:=(aeJ.1 o2) _ (my h)
  simp only [aeH,Option.isNone_iff_eq_none] at this
  exact ⟨this.1.1,fun B hB=>by subst hB;exact this.1.2,this.2⟩
 have aT:∀{i v},getS (ft++st.rt) i=some v->(getS ft i=some v\/getS st.rt i=some v)/\v.fr (keepP vs T st.nx)=true/\¬i∈gD vs:=fun {i v} h=>by
  rw [jA] at h
  cases hf:getS ft i with
  |some w=>rw [hf] at h;simp only [agt,aeF] at h;subst h;exact ⟨.inl rfl,(fT hf).2⟩
  |none=>rw [hf] at h;simp only [aga] at h;exact ⟨.inr h,(rT h).1,(rT h).2.1⟩
 have aM:∀{i v},getS (fm++st.rm) i=some v->(getS fm i=some v\/getS st.rm i=some v)/\(∀B,v=some B->B.fr (keepP vs T st.nx)=true)/\keepP vs T st.nx i=true:=fun {i v} h=>by
  rw [jA] at h
  cases hf:getS fm i with
  |some w=>
   rw [hf] at h;simp only [agt,aeF] at h;subst h
   obtain ⟨h1,⟨B,h2,h3⟩,h4⟩:=fM hf
   exact ⟨.inl rfl,fun B' aW=>by rw [h2,aeF] at aW;subst aW;exact h3,h4⟩
  |none=>rw [hf] at h;simp only [aga] at h;exact ⟨.inr h,(rM h).2.1,(rM h).1⟩
 -- mT rounds
 have rounds:∀(m:Nat) (x:VT dn vs) (N':aL) (s0:S3),ms x<=m->I x->Rel C.D N' ⟨ft++st.rt,fm++st.rm,cI C.D vs T x,putM C.D vs T x,st.nx⟩ s0->
   ∃e s' j N2 aw,Ch C.P n k0 a e s' j s0/\Rel C.D N2 aw s'/\aw.rt=st.rt/\aw.rm=st.rm/\(N'.agree C.fl N2/\C.fl<=aw.nx)/\K e aw:=by
  intro m
  induction m with
  |zero=>
   intro x N' s0 hm hI R0
   exact LW hC hB hT oy kp hle aT aM fT fM rT rM o3 mZ Bb (cA x hI) R0 fun x' hlt=>absurd hlt (by omega)
  |succ m ih=>
   intro x N' s0 hm hI R0
   exact LW hC hB hT oy kp hle aT aM fT fM rT rM o3 mZ Bb (cA x hI) R0 fun x' hlt m4 N2 s2 R2=>ih x' N2 s2 (by omega) m4 R2
 have hV:=AK hC.ok R.here zE
 rw [hT] at hV
 obtain ⟨s1,w1,R1⟩:=Ld (n:=n) (k0:=k0) hC.ok (rt:=ft++st.rt) (rm:=fm++st.rm) hV o3 oy (fun i v h=>by
   obtain ⟨h1,h2,h3⟩:=aT h
   refine ⟨?_,SV.sN hle v h2,h3⟩
   rcases h1 with h1|h1
   ·exact R.here.sl i v (fT h1).1
   ·exact R.here.rs i v h1) (fun nm B h=>by
   obtain ⟨h1,h2,h3⟩:=aM h
   refine ⟨(kp h3).1,fun B' aW=> ?_⟩
   subst aW
   have:s.g (N.ι nm)=some (B'.av C.D.toTE N)/\N.ln nm=B'.len:=by
    rcases h1 with h1|h1
    ·exact R.here.bl nm B' (fM h1).1
    ·exact R.here.rb nm B' h1
   exact ⟨this.1,this.2,SB.sN hle B' (h2 B' rfl)⟩) R.inj R.lt
   (fun t Ar h id hid=>by
    have ed:∀nm B,(⟨ft++st.rt,fm++st.rm,cI C.D vs T x0,putM C.D vs T x0,st.nx⟩:SS τ dn).cg nm B->(∃B',st.cg nm B')/\(∀t Ar,nm=0->B= .ar t Ar->st.cg 0 (.ar t Ar)):=fun nm B hB=>by
     rcases hB with hB|hB
     ·rcases AL zE oy nm B (my hB) with ⟨j,v,p1,p2,p3,⟨B',p4⟩,p5⟩|⟨hf,⟨B',p4⟩,p5⟩
      case inr=>exact ⟨⟨B',jX p4⟩,fun t Ar h0 he=>absurd he (p5 t Ar)⟩
      have hj:nmV st v=nm:=by
       have:T[j]? =some (nmV st v):=by rw [<-hT,aeY,p1];rfl
       rw [p2] at this;simpa using this.symm
      exact ⟨⟨B',hj▸jX p4⟩,fun t Ar h0 he=>jX (p5 t Ar he).2⟩
     ·have aW:getS (fm++st.rm) nm=some (some B):=hB
      have:st.cg nm B:=by
       rcases (aM aW).1 with h1|h1
       ·exact .inl (fM h1).1
       ·exact .inr h1
      exact ⟨⟨B,this⟩,fun t Ar h0 he=>by subst h0;subst he;exact this⟩
    have h1:=(ed 0 _ h).2 t Ar rfl rfl
    obtain ⟨q1,q2⟩:=R.sp t Ar h1 id hid
    exact ⟨R.here.ar t Ar h1 id hid,q1,fun nm B hB=>by obtain ⟨⟨B',aW⟩,_⟩:=ed nm B hB;exact q2 nm B' aW⟩)
 obtain ⟨e,s',j,N2,aw,c1,c2,c3,c4,c5,c6⟩:=rounds (ms x0) x0 N s1 (aeO _) vI R1
 exact ⟨e,s',N2,aw,ED.lx w1 (ED.loop c1),c2,c3,c4,c5,c6⟩
theorem L5 {C:cU τ dn} (hC:C.Ok) {n k0:Nat} {an:Nat->Option (LA τ dn)}:∀(ps:List (List aN)) {st:SS τ dn} {K:SS τ dn->Prop} {N:aL} {s:S3},Rel C.D N st s->AZ C n an ps st K->
  ∃s' N' aw,ux C.P n k0 ps s s'/\Rel C.D N' aw s'/\(aw.rt=st.rt/\aw.rm=st.rm)/\N.agree st.nx N'/\st.nx<=aw.nx/\K aw
 |[],st,K,N,s,R,h=>⟨s,N,st, .nil,R,⟨rfl,rfl⟩,N.gn _,aeO _,h⟩
 |p::ps,st,K,N,s,R,h=>by
  simp only [AZ] at h
  obtain ⟨s1,st1,w1,R1,z1,z2,z3,h⟩:=Fp (n:=n) (k0:=k0) hC.ok _ R h
  obtain ⟨aec,YI,YJ,YK,YL,h⟩:=XQ R1 h
  obtain ⟨YM,YN,Fy,FA,FB,h⟩:=LF hC.ok YI h
  obtain ⟨aed,YO,YP,YQ,YR,h⟩:=LD YN h
  obtain ⟨bA,R2,y1,y2,y3,h⟩:=Aq hC.ok YO h
  rw [YP,Fy,YJ] at y1;rw [YQ,FA,YK] at y2;rw [YR,FB,YL] at y3
  obtain ⟨s3,N3,qU,e3,R3,r1,r2,r3,h⟩:=AD (hC.wo (xi an p)) (k0:=k0) R2 h
  obtain ⟨s4,N4,YS,e4,R4,q1,q2,q3,h⟩:=L5 hC (k0:=k0) ps R3 h
  rw [y1,y2,z1,z2] at r1
  rw [y3,z3] at r2 r3
  exact ⟨s4,N4,YS, .cons w1 e3 e4,R4,⟨q1.1.trans r1.1,q1.2.trans r1.2⟩,aL.iq r2 q2 r3,afb r3 q3,h⟩
theorem mC {C:cU τ dn} (hC:C.Ok) {n k0:Nat} {an:Nat->Option (LA τ dn)}:∀(ac:AC) (k:Nat) {st:SS τ dn} {K:Ex->SS τ dn->Prop} {N:aL} {s:S3},Rel C.D N st s->C.fl<=st.nx->gV C n an ac k st K->Ends C n k0 ac N st s K
 | .skip,k,st,K,N,s,R,hl,h=>⟨_,s,N,st,ED.skip,R,rfl,rfl,⟨N.gn _,hl⟩,h⟩
 | .ret,k,st,K,N,s,R,hl,h=>⟨_,s,N,st,ED.ret,R,rfl,rfl,⟨N.gn _,hl⟩,h⟩
 | .exit i,k,st,K,N,s,R,hl,h=>⟨_,s,N,st,ED.exit,R,rfl,rfl,⟨N.gn _,hl⟩,h⟩
 | .seq a b,k,st,K,N,s,R,hl,h=>by
  simp only [gV] at h
  obtain ⟨e,s1,N1,st1,e1,R1,r1,r2,r3,hk⟩:=mC hC a k R hl h
  cases e with
  |normal=>
   obtain ⟨e,s2,N2,bA,e2,R2,q1,q2,q3,mD⟩:=mC hC b _ R1 r3.2 hk
   exact ⟨e,s2,N2,bA,ED.seq e1 e2,R2,q1.trans r1,q2.trans r2,⟨aL.iq r3.1 q3.1 (aeO _),q3.2⟩,mD⟩
  |exit i=>exact ⟨_,s1,N1,st1,ED.KY e1 (by simp),R1,r1,r2,r3,hk⟩
  |ret=>exact ⟨_,s1,N1,st1,ED.KY e1 (by simp),R1,r1,r2,r3,hk⟩
 | .cond c a b,k,st,K,N,s,R,hl,h=>by
  simp only [gV] at h
  have go:∀p:Bool,aR s.σ c= .v (.bool p)->(p=true->Ends C n k0 a N st s K)->(p=false->Ends C n k0 b N st s K)->Ends C n k0 (.cond c a b) N st s K:=fun p hp h1 h2=>by
   cases p with
   |true=>
    obtain ⟨e,s1,N1,st1,e1,R1,r1,r2,r3,hk⟩:=h1 rfl
    exact ⟨e,s1,N1,st1,ED.cond hp (by rw [aeG rfl];exact e1),R1,r1,r2,r3,hk⟩
   |false=>
    obtain ⟨e,s1,N1,st1,e1,R1,r1,r2,r3,hk⟩:=h2 rfl
    exact ⟨e,s1,N1,st1,ED.cond hp (by rw [aeE (by simp)];exact e1),R1,r1,r2,r3,hk⟩
  split at h
  ·rename_i hc
   exact go true (R.here.ev hc) (fun _=>mC hC a k R hl h) (fun hh=>by simp at hh)
  ·rename_i hc
   exact go false (R.here.ev hc) (fun hh=>by simp at hh) (fun _=>mC hC b _ R hl h)
  ·rename_i c' hc
   split at h
   ·rename_i O aw hm
    rw [mq] at h
    obtain ⟨hO,hk⟩:=h
    have L6:∀{x:AC},x= .skip->Rel C.D N aw s->aw.rt=st.rt/\aw.rm=st.rm/\aw.nx=st.nx->Ends C n k0 x N st s K:=fun {x} hx hR hs=>by
     subst hx
     exact ⟨_,s,N,aw,ED.skip,hR,hs.1,hs.2.1,⟨N.gn _,by rw [hs.2.2];exact hl⟩,hk⟩
    have run:∀{x:AC} {os:List aN},x= .cC os none->(∃s' N',jP C.P n k0 os s.σ s.g s.k s'.σ s'.g s'.k/\Rel C.D N' aw s'/\N.agree st.nx N')->aw.rt=st.rt/\aw.rm=st.rm/\aw.nx=st.nx->Ends C n k0 x N st s K:=fun {x os} hx hR hs=>by
     subst hx
     obtain ⟨s',N',q1,q2,q3⟩:=hR
     exact ⟨_,s',N',aw,ED.cC q1,q2,hs.1,hs.2.1,⟨A7 q3 hl,by rw [hs.2.2];exact hl⟩,hk⟩
    unfold LJ at hm
    split at hm
    ·obtain ⟨q1,q2,q3⟩:=Lv (k0:=k0) hC hm hO R
     exact go c'.den (R.here.ev hc) (fun hh=>L6 rfl (q2 hh) q1) (fun hh=>run rfl (q3 hh) q1)
    ·obtain ⟨q1,q2,q3⟩:=Lv (k0:=k0) hC hm hO R
     exact go c'.den (R.here.ev hc) (fun hh=>run rfl (q3 hh) q1) (fun hh=>L6 rfl (q2 hh) q1)
    ·simp at hm
   exact go c'.den (R.here.ev hc) (fun hh=>mC hC a k R hl (h.1 ((Cn.mo c' true).2 hh))) (fun hh=>mC hC b _ R hl (h.2 ((Cn.mo c' false).2 hh)))
  ·exact h.elim
 | .block i a,k,st,K,N,s,R,hl,h=>by
  simp only [gV] at h
  obtain ⟨e,s1,N1,st1,e1,R1,r1,r2,r3,hk⟩:=mC hC a k R hl h
  exact ⟨_,s1,N1,st1,ED.block e1,R1,r1,r2,r3,hk⟩
 | .loop a,k,st,K,N,s,R,hl,h=>by
  simp only [gV] at h
  split at h
  ·rename_i m hm
   obtain ⟨e,s2,j,N2,bA,c1,c2,c3,c4,c5,c6⟩:=LU (fun R hl h=>mC hC a (k+1) R hl h) m R hl h
   exact ⟨e,s2,N2,bA,ED.loop c1,c2,c3,c4,c5,c6⟩
  ·rename_i vs I ms hm
   obtain ⟨s1,N1,w1,R1,r1,r2,r3,r4⟩:=LL (n:=n) (k0:=k0) (vs:=vs) R
   obtain ⟨e,s2,N2,bA,e2,R2,q1,q2,q3,hk⟩:=YF hC (fun R hl h=>mC hC a (k+1) R hl h) R1 (afb hl r4) h
   exact ⟨e,s2,N2,bA,ED.lx w1 e2,R2,q1.trans r1,q2.trans r2,⟨aL.iq (A7 r3 hl) q3.1 (aeO _),q3.2⟩,hk⟩
  ·exact h.elim
 | .cC os none,k,st,K,N,s,R,hl,h=>by
  simp only [gV] at h
  obtain ⟨s',N',aw,e1,R1,r1,r2,r3,hk⟩:=L5 hC (k0:=k0) _ R h
  have e2:=ED.Yp e1
  rw [Lz] at e2
  exact ⟨_,s',N',aw,e2,R1,r1.1,r1.2,⟨A7 r2 hl,afb hl r3⟩,hk⟩
 | .cC os (some dep),k,st,K,N,s,R,hl,h=>by
  simp only [gV] at h
  obtain ⟨s1,st1,w1,R1,z1,z2,z3,h⟩:=Fp (n:=n) (k0:=k0) hC.ok _ R h
  obtain ⟨YM,YT,Fy,FA,FB,h⟩:=LF hC.ok R1 h
  obtain ⟨bA,R1,y1,y2,y3,h⟩:=LD YT h
  rw [Fy] at y1;rw [FA] at y2;rw [FB] at y3
  obtain ⟨jn,hj,s',N',aw,e1,R1,r1,r2,r3,hk⟩:=X0 (hC.wo (xi an os)) R1 h
  rw [y1,y2,z1,z2] at r1
  rw [y3,z3] at r2 r3
  exact ⟨_,s',N',aw,ED.lx w1 (ED.draw hj e1),R1,r1.1,r1.2,⟨A7 r2 hl,afb hl r3⟩,hk⟩
 | .yX _ _ _ _,k,st,K,N,s,R,hl,h=>by simp only [gV] at h
def gq (D:TD τ dn) (vs:List (SV τ dn)):SS τ dn:=match D.ar with
 |none=>⟨[],[],mA vs 0,[],0⟩
 |some t=>⟨[],[],mA vs 0,[(0,some (.ar t []))],1⟩
def FC:List m5->List Nat
 |[]=>[]
 | .tmp i::r| .cell i _::r=>i::FC r
def FD (C:cU τ dn) (F:ba) (an:Nat->Option (LA τ dn)) (vs:List (SV τ dn)) (rs:List τ) (r:RD dn rs):Prop:=
 bif Nat.ble vs.length F.n&&rs.all C.D.pu&&Nat.beq C.fl 0 then gV C F.n an F.code 0 (gq C.D vs) fun e st=>match e with
  | .exit _=>False
  |_=>uu C.D false (st.AQ (FC F.res)) st fun st=>match lG C.D st F.res with
   |some (O,l)=>match nt C.D st l with
    |some l'=>match og C.D rs l' with
     |some y=>ir O (y=r)
     |none=>False
    |none=>False
   |none=>False
 else False
theorem YU {C:cU τ dn} (hC:C.Ok) (hF:cFunc C.P f=some F) {an:Nat->Option (LA τ dn)} {vs:List (SV τ dn)} {rs:List τ} {r:RD dn rs} (N:aL) (gj:SV.ck (fun _=>false) vs=true) (h:FD C F an vs rs r):Fn C.P f (vs.map (SV.av C.D.toTE N)) ((qS (iZ C.D rs r)).av C.D.toTE N):=by
 unfold FD at h
 cases hb:(Nat.ble vs.length F.n&&rs.all C.D.pu&&Nat.beq C.fl 0) with
 |false=>rw [hb] at h;exact h.elim
 |true=>
 rw [hb,aeK] at h
 rw [aeH,aeH] at hb
 obtain ⟨hb,hz⟩:=hb
 have hz:=aeU hz
 have hl:vs.length<=F.n:=afv hb.1
 have c8:∀(N':aL),N'.ρ=N.ρ->∀i v,getS (mA vs 0) i=some v->dL (vs.map (SV.av C.D.toTE N)) i=v.av C.D.toTE N':=fun N' gR i v hv=>by
  obtain ⟨_,h2⟩:=Ba hv
  rw [Nat.sub_zero] at h2
  have hs:N.same (fun _=>false) N':=⟨fun a ha=>by simp at ha,gR⟩
  have hm:∀(l:List (SV τ dn)) (j:Nat) w,SV.ck (fun _=>false) l=true->l[j]? =some w->w.fr (fun _=>false)=true:=by
   intro l
   induction l with
   |nil=>intro j w _ hw;simp at hw
   |cons a l ih=>
    intro j w hl hw
    simp only [SV.ck,aeH] at hl
    cases j with
    |zero=>simp only [afg,aeF] at hw;subst hw;exact hl.1
    |succ j=>exact ih j w hl.2 (by simpa using hw)
  unfold dL
  rw [aeY,h2]
  exact (sG hs v (hm vs i v gj h2)).symm
 have R0:∃s0 N0,S3.Le 0 F.n ⟨dL (vs.map (SV.av C.D.toTE N)),fun _=>none,0⟩ s0/\Rel C.D N0 (gq C.D vs) s0:=by
  unfold gq
  split
  ·refine ⟨_,N,S3.Le.ot,⟨fun N' hN=>⟨fun i v hv=>c8 N' hN.2 i v hv,fun i v hv=>by simp [getS] at hv,fun nm B hB=>by simp [getS] at hB,fun nm B hB=>by simp [getS] at hB,fun t A h=>by rcases h with h|h<;>simp [getS] at h⟩,fun a b ha=>absurd ha (Nat.not_lt_zero _),fun a ha=>absurd ha (Nat.not_lt_zero _),fun nm B hB=>by simp [getS] at hB,fun nm B hB=>by simp [getS] at hB,fun t A h=>by rcases h with h|h<;>simp [getS] at h⟩⟩
  ·rename_i t _
   have xk:∀t' A,(⟨[],[],mA vs 0,[(0,some (.ar t []))],1⟩:SS τ dn).cg 0 (.ar t' A)->∀id,¬cz A id:=fun t' A h id=>by
    rcases h with h|h
    ·simp only [bG,aeI,aeF,SB.ar.injEq] at h
     obtain ⟨rfl,h⟩:=h
     have h:=eq_of_heq h
     subst h;exact Ec
    ·simp [getS] at h
   refine ⟨_,⟨fun _=>0,fun _=>0,N.ρ⟩,S3.LV (C.D.sz t),⟨fun N' hN=>⟨fun i v hv=>c8 N' hN.2 i v hv,fun i v hv=>by simp [getS] at hv,fun nm B hB=> ?_,fun nm B hB=>by simp [getS] at hB,fun t' A h id hid=>absurd hid (xk t' A h id)⟩,fun a b ha hb _=> ?_,fun a ha=> ?_,fun nm B hB=> ?_,fun nm B hB=>by simp [getS] at hB,fun t' A h id hid=>absurd hid (xk t' A h id)⟩⟩
   ·have aW:getS [(0,some (SB.ar t ([]:List (Nat×List (dn t)))))] nm=some (some B):=hB
    rw [bG] at aW
    by_cases hn:nm=0
    ·subst hn
     simp only [aeI,aeF] at aW
     subst aW
     have e:=hN.1 0 (afB 0)
     refine ⟨?_,e.2⟩
     show aJ _ _ (N'.ι 0)=_
     rw [e.1];rfl
    ·rw [aeE hn] at aW;simp [getS] at aW
   ·have:a<1:=ha
    have:b<1:=hb
    omega
   ·exact afB 0
   ·have aW:getS [(0,some (SB.ar t ([]:List (Nat×List (dn t)))))] nm=some B:=hB
    rw [bG] at aW
    by_cases hn:nm=0
    ·subst hn;exact afB 0
    ·rw [aeE hn] at aW;simp [getS] at aW
 obtain ⟨s0,N0,w0,R0⟩:=R0
 refine IV hF (by rw [aeS];exact hl) ?_
 obtain ⟨e,s',N',aw,e1,R1,_,_,_,hk⟩:=mC hC (n:=F.n) (k0:=0) F.code 0 R0 (by rw [hz];exact Nat.zero_le _) h
 have e1:=ED.lx w0 e1
 have mD:(e= .normal\/e= .ret)/\uu C.D false (aw.AQ (FC F.res)) aw fun aw=>match lG C.D aw F.res with
   |some (O,l)=>match nt C.D aw l with
    |some l'=>match og C.D rs l' with
     |some y=>ir O (y=r)
     |none=>False
    |none=>False
   |none=>False:=by
  cases e with
  |normal=>exact ⟨.inl rfl,hk⟩
  |ret=>exact ⟨.inr rfl,hk⟩
  |exit i=>exact hk.elim
 clear hk
 obtain ⟨he,hk⟩:=mD
 obtain ⟨s2,bA,w2,R2,_,_,_,mD⟩:=Fp (n:=F.n) (k0:=0) hC.ok _ R1 hk
 clear hk
 have e1:=ED.post e1 w2
 clear R1 w2
 revert mD R2
 generalize bA=aw
 intro R1 hk
 refine EW.kJ e1 fun x t ht=> ?_
 obtain ⟨rfl,rfl⟩:=ht
 have fin:(match lG C.D aw F.res with
   |some (O,l)=>match nt C.D aw l with
    |some l'=>match og C.D rs l' with
     |some y=>ir O (y=r)
     |none=>False
    |none=>False
   |none=>False)->∃r',((ig t.σ F.res).bind ph).run t.g=some r'/\cH r' ((qS (iZ C.D rs r)).av C.D.toTE N):=fun hk=>by
  split at hk
  case h_2=>exact hk.elim
  rename_i O l hr
  split at hk
  case h_2=>exact hk.elim
  rename_i l' hs
  split at hk
  case h_2=>exact hk.elim
  rename_i y hy
  rw [mq] at hk
  obtain ⟨hO,rfl⟩:=hk
  have q1:=xj hC.ok R1.here hr hO
  have q2:=Kr hC.ok R1.here hs
  have q3:(ig t.σ F.res).run t.g=some (pg (l.map (SV.av C.D.toTE N'))):=by
   unfold ig
   rw [eW q1];rfl
  have q4:(ph (pg (l.map (SV.av C.D.toTE N')))).run t.g=some (pg (l'.map (SV.av C.D.toTE N'))):=by
   have hlen:=LN hs
   match l,l',q2,hlen with
   |[],[],q2,_=>exact eW q2
   |[v],[v'],q2,_=>
    have:(fp (v.av C.D.toTE N')).run t.g=some (v'.av C.D.toTE N'):=by
     simp only [nt] at hs
     split at hs
     ·rename_i x l2 h1 h2
      simp only [aeF] at h2;subst h2
      simp only [aeF,agv,and_true] at hs;subst hs
      exact EA hC.ok R1.here h1
     ·simp at hs
    exact Yz this
   |v::w::l2,v'::w'::l2',q2,_=>
    show ((fF ((v::w::l2).map (SV.av C.D.toTE N'))).bind fun l=>RM.ret (AV.bm l)).run t.g=_
    rw [eW q2];rfl
  refine ⟨_,(eW q3).trans q4, ?_⟩
  refine cH.trans (Xt (Kt (N:=N') hC.ok hy)) (cH.of_eq ?_)
  rw [Ai,LP hC.ok rs y hb.2]
 exact ⟨he,fin hk⟩
end
open Go.RowKit
section
variable {τ:Type} {dn:τ->Type} {D:TD τ dn}
theorem FE (ok:bE D) {p:Nat->Bool}:∀(cs:List (Bool×τ)) (x:CD dn cs),SV.ck p (lE D cs x)=true
 |[],_=>rfl
 |(false,t)::r,x=>by simp only [lE,SV.ck,Fe ok,FE ok r x.2,Bool.and_self]
 |(true,t)::r,x=>by simp only [lE,SV.ck,SV.fr,ok.nf,FE ok r x.2,Bool.and_self]
theorem xl (ok:bE D) {p:Nat->Bool}:∀(ps:List (Pt τ)) (x:PD dn ps),SV.ck p (lF D ps x)=true
 |[],_=>rfl
 | .ty t::r,x=>by simp only [lF,Pt.enc,SV.ck,Fe ok,xl ok r x.2,Bool.and_self]
 | .ptr t::r,x=>by simp only [lF,Pt.enc,SV.ck,SV.fr,ok.nf,xl ok r x.2,Bool.and_self]
 | .jx f cs::r,x=>by simp only [lF,Pt.enc,SV.ck,SV.fr,FE ok,xl ok r x.2,Bool.and_self]
inductive IK (τ:Type) (dn:τ->Type) where
 |fn (F:ba) (an:Nat->Option (LA τ dn))
 |del (t:τ) (by_:Nat) (zs:List AV)
structure IL (τ:Type) (dn:τ->Type) where
 f:FuncId
 k:IK τ dn
 cl:Option FuncId:=none
def Bc (g:FuncId):List (SV τ dn)->Bool
 |[]=>false
 | .fn f _::r=>Nat.beq f g||Bc g r
 |_::r=>Bc g r
def xn:List (IL τ dn)->FuncId->List (SV τ dn)->Option (IL τ dn)
 |[],_,_=>none
 |i::r,f,vs=>bif Nat.beq i.f f&&(match i.cl with|none=>true|some g=>Bc g vs) then some i else xn r f vs
def Cons (P:Program) (D:TD τ dn):List (bj τ dn)->Prop
 |[]=>True
 |c::r=>c.Ok P D/\Cons P D r
def xp (P:Program) (D:TD τ dn):List (ja τ dn)->Prop
 |[]=>True
 |c::r=>c.Ok P D/\xp P D r
def IK.Ok (P:Program) (D:TD τ dn) (f:FuncId):IK τ dn->Prop
 | .fn F _=>cFunc P f=some F/\aX P f=true
 | .del t by_ zs=>cFunc P f=some (Dl (D.sz t) by_ zs)/\aX P f=true/\zs.length=D.sz t
def oz (P:Program) (D:TD τ dn):List (IL τ dn)->Prop
 |[]=>True
 |i::r=>i.k.Ok P D i.f/\oz P D r
theorem FF {P:Program}:∀{Δ:List (bj τ dn)},Cons P D Δ->∀c,c∈Δ->c.Ok P D
 |[],_,c,hc=>by simp at hc
 |d::r,h,c,hc=>by
  rcases aeQ.1 hc with rfl|hc
  ·exact h.1
  ·exact FF h.2 c hc
theorem FG {P:Program}:∀{Ω:List (ja τ dn)},xp P D Ω->∀c,c∈Ω->c.Ok P D
 |[],_,c,hc=>by simp at hc
 |d::r,h,c,hc=>by
  rcases aeQ.1 hc with rfl|hc
  ·exact h.1
  ·exact FG h.2 c hc
theorem FH {P:Program}:∀{il:List (IL τ dn)},oz P D il->∀{f vs i},xn il f vs=some i->i.k.Ok P D f
 |[],_,f,vs,i,h=>by simp [xn] at h
 |j::r,h,f,vs,i,hi=>by
  simp only [xn] at hi
  cases hb:(Nat.beq j.f f&&(match j.cl with|none=>true|some g=>Bc g vs)) with
  |false=>rw [hb,ae0] at hi;exact FH h.2 hi
  |true=>
   rw [hb,aeK,aeF] at hi
   subst hi
   rw [aeH] at hb
   rw [<-aeU hb.1];exact h.1
theorem YV {g':Nat->Option Bk} {k k':Nat} (h:∀m:List (Option Bk),m.length=k->look m=g->Fi P f as_ (look m) m.length r g' k'):Fi P f as_ g k r g' k':=by
 intro E J base vs hG hm bK di
 have hg:look ((List.range k).map g)=g:=by
  funext id
  unfold look
  rcases afq id k with h1|h1
  ·simp [h1]
  ·rw [afM (by simpa using h1)]
   cases hq:g id with
   |none=>rfl
   |some B=>exact absurd (bK id ((hm.live id).2 ⟨B,hq⟩).1) (by omega)
 have:=h _ (by simp) hg
 rw [hg,aeS,List.length_range] at this
 exact this E J base vs hG hm bK di
variable [DecidableEq τ]
def FI (C:cU τ dn) (F:ba) (an:Nat->Option (LA τ dn)) (vs:List (SV τ dn)) (st:SS τ dn) (K:SV τ dn->SS τ dn->Prop):Prop:=
 bif Nat.ble vs.length F.n then gV C F.n an F.code 0 ⟨[],st.rm,mA vs 0,st.m,st.nx⟩ fun e aw=>match e with
  | .exit _=>False
  |_=>match lG C.D aw F.res with
   |some (O,l)=>ir O (K (qS l) aw)
   |none=>False
 else False
theorem YW {C:cU τ dn} (hC:C.Ok) (hF:cFunc C.P f=some F) (hc:aX C.P f=true) {an:Nat->Option (LA τ dn)} {vs:List (SV τ dn)} {st:SS τ dn} {K:SV τ dn->SS τ dn->Prop} (R:Rel C.D N st s) (mZ:C.fl=st.nx)
  (ha:∀N',N.agree st.nx N'->vs.map (SV.av C.D.toTE N')=vs.map (SV.av C.D.toTE N)) (h:FI C F an vs st K):As C.P C.D f vs st K N s:=by
 unfold FI at h
 cases hb:Nat.ble vs.length F.n with
 |false=>rw [hb] at h;exact h.elim
 |true=>
 rw [hb,aeK] at h
 have R0:Rel C.D N ⟨[],st.rm,mA vs 0,st.m,st.nx⟩ ⟨dL (vs.map (SV.av C.D.toTE N)),s.g,s.k⟩:=by
  refine ⟨fun N' hN=>⟨fun i v hv=> ?_,fun i v hv=>by simp [getS] at hv,(R.at_ N' hN).bl,(R.at_ N' hN).rb,(R.at_ N' hN).ar⟩,R.inj,R.lt,R.ml,R.rl,R.sp⟩
  obtain ⟨_,h2⟩:=Ba hv
  rw [Nat.sub_zero] at h2
  show dL _ i=_
  unfold dL
  rw [<-ha N' hN,aeY,h2];rfl
 obtain ⟨e,s',N',aw,e1,R1,_,r2,r3,hk⟩:=mC hC (n:=F.n) (k0:=s.k) F.code 0 R0 (Nat.le_of_eq mZ) h
 have fin:(match lG C.D aw F.res with
   |some (O,l)=>ir O (K (qS l) aw)
   |none=>False)->∃v,(ig s'.σ F.res).run s'.g=some (v.av C.D.toTE N')/\(∀cT,N'.agree aw.nx cT->v.av C.D.toTE cT=v.av C.D.toTE N')/\K v aw:=fun hk=>by
  split at hk
  case h_2=>exact hk.elim
  rename_i O l hr
  rw [mq] at hk
  obtain ⟨hO,hk⟩:=hk
  have q:∀cT,N'.agree aw.nx cT->(ig s'.σ F.res).run s'.g=some ((qS l).av C.D.toTE cT):=fun cT hN=>by
   rw [Ai]
   unfold ig
   rw [eW (xj hC.ok (R1.at_ cT hN) hr hO)];rfl
  refine ⟨_,q N' (N'.gn _),fun cT hN=> ?_,hk⟩
  have:=(q cT hN).symm.trans (q N' (N'.gn _))
  simpa using this
 have go:∀{x:Ex},(x= .normal\/x= .ret)->e=x->(∃v,(ig s'.σ F.res).run s'.g=some (v.av C.D.toTE N')/\(∀cT,N'.agree aw.nx cT->v.av C.D.toTE cT=v.av C.D.toTE N')/\K v aw)->As C.P C.D f vs st K N s:=fun {x} hx he hv=>by
  obtain ⟨v,v1,v2,v3⟩:=hv
  refine ⟨hc,s'.g,s'.k,N',v,aw, ?_,v2, ?_, ?_, ?_,v3⟩
  ·refine Dk hF (by rw [aeS];exact afv hb) (EW.kJ e1 fun y t ht=> ?_)
   obtain ⟨rfl,rfl⟩:=ht
   exact ⟨by rw [he];exact hx,t,S3.Le.ot,v1,rfl,rfl⟩
  ·rw [<-mZ];exact r3.1
  ·rw [<-mZ];exact r3.2
  ·have FJ:aw.rm=st.rm:=r2
   have ed:∀a X,(⟨[],st.rm,[],aw.m,aw.nx⟩:SS τ dn).cg a X->aw.cg a X:=fun a X hX=>hX.imp id fun h=>by rw [FJ];exact h
   refine ⟨fun cT hN=>⟨fun i v hv=>by simp [getS] at hv,fun i v hv=>by simp [getS] at hv,(R1.at_ cT hN).bl,fun nm B hB=>(R1.at_ cT hN).rb nm B (by rw [FJ];exact hB),fun t A h id hid=>(R1.at_ cT hN).ar t A (ed 0 _ h) id hid⟩,R1.inj,R1.lt,R1.ml,fun nm B hB=>R1.rl nm B (by rw [FJ];exact hB),fun t A h id hid=>⟨(R1.sp t A (ed 0 _ h) id hid).1,fun nm B hB=>(R1.sp t A (ed 0 _ h) id hid).2 nm B (ed nm B hB)⟩⟩
 cases e with
 |normal=>exact go (.inl rfl) rfl (fin hk)
 |ret=>exact go (.inr rfl) rfl (fin hk)
 |exit i=>exact hk.elim
def FK (D:TD τ dn) (t:τ) (vs:List (SV τ dn)) (st:SS τ dn) (K:SV τ dn->SS τ dn->Prop):Prop:=
 match vs with
 |[.own nm sz,a,b]=>match st.gm nm,a.int,b.int with
  |some (.bl t' xs),some (x,_),some (y,_)=>if h:t'=t then (bif st.rw nm&&Nat.beq sz (D.sz t) then 0<=x/\x<xs.length/\y=x+1/\xs.length<=1000000/\K (.own st.nx sz) ⟨st.rt,st.rm,st.t,(st.nx,some (.bl t ((h▸xs:List (dn t)).eraseIdx x.toNat)))::(nm,none)::st.m,st.nx+1⟩ else False) else False
  |_,_,_=>False
 |_=>False
theorem YX {t:τ} {zs:List AV} (hk:IK.Ok P D f (.del t by_ zs:IK τ dn)) {vs:List (SV τ dn)} {st:SS τ dn} {K:SV τ dn->SS τ dn->Prop} (R:Rel D N st s) (h:FK D t vs st K):As P D f vs st K N s:=by
 obtain ⟨hF,hc,hz⟩:=hk
 unfold FK at h
 split at h
 case h_2=>exact h.elim
 rename_i nm sz a b
 split at h
 case h_2=>exact h.elim
 rename_i t' xs x bx y by1 h1 h2 h3
 split at h
 case isFalse=>exact h.elim
 rename_i ht
 subst ht
 cases hb:st.rw nm&&Nat.beq sz (D.sz t') with
 |false=>rw [hb] at h;exact h.elim
 |true=>
 rw [hb,aeK] at h
 rw [aeH] at hb
 obtain ⟨FL,hs⟩:=hb
 have hs:=aeU hs
 subst hs
 obtain ⟨q1,q2,q3,q4,hK⟩:=h
 unfold SS.rw at FL
 rw [aeH] at FL
 obtain ⟨w1,w2⟩:=FL
 have hm:getS st.m nm=some (some (.bl t' xs)):=by
  unfold SS.gm at h1
  cases hg:getS st.m nm with
  |none=>rw [hg] at w1;simp at w1
  |some B=>rw [hg] at h1;simp only at h1;rw [h1]
 have hb0:=R.here.bl nm _ hm
 have R1:Rel D N st ⟨s.σ,s.g,s.k+1⟩:=⟨R.at_,R.inj,fun a ha=>ags (R.lt a ha),R.ml,R.rl,fun t A h id hid=>⟨ags (R.sp t A h id hid).1,(R.sp t A h id hid).2⟩⟩
 have jz:=R1.go (n:=0) (d:=none) (r:= .mov [] (.vo undef) nm (.bl t' (xs.eraseIdx x.toNat))) rfl ⟨⟨_,hm⟩,by simpa using w2,rfl⟩ (val:= .v undef) (ups:=[(N.ι nm,none),(s.k+1,some ⟨D.sz t',(xs.eraseIdx x.toNat).map (D.ea N.ρ t')⟩)]) (fun _ _=>rfl) (fun N' hN=>by
  have e:=hN.1 nm (ags (R.ml nm _ hm))
  have e2:=hN.2
  simp only [SR.up,aL.eN] at e e2
  have aI:¬nm=st.nx:=fun e=>by have:=R.ml nm _ hm;omega
  rw [aeE aI,aeE aI] at e
  simp only [SR.ups,SB.av,e.1,e2])
 have hid:N.ι nm<s.k:=R.lt nm (R.ml nm _ hm)
 refine ⟨hc,aJ s.g [(N.ι nm,none),(s.k+1,some ⟨D.sz t',(xs.eraseIdx x.toNat).map (D.ea N.ρ t')⟩)],s.k+2,N.eN st.nx (s.k+1) (xs.eraseIdx x.toNat).length, .own st.nx (D.sz t'),_, ?_,fun cT hN=> ?_,N.pJ _ _ _,Nat.le_succ _, ?_,hK⟩
 ·refine YV fun m sa L7=> ?_
  have hB:look m (N.ι nm)=some ⟨D.sz t',xs.map (D.ea N.ρ t')⟩:=by rw [L7];exact hb0.1
  have:=Ru (P:=P) (f:=f) (m:=m) hF hz hB q1 q2 q4
  rw [q3] at h3
  have bJ:N.ln nm=xs.length:=hb0.2
  have e1:[SV.own nm (D.sz t'),a,b].map (SV.av D.toTE N)=[.own (N.ι nm) (D.sz t') 0 xs.length,VI x,VI (x+1)]:=by
   simp only [aeR,afh,SV.av,bJ,gU h2,gU h3]
  have e2:(SV.own st.nx (D.sz t'):SV τ dn).av D.toTE (N.eN st.nx (s.k+1) (xs.eraseIdx x.toNat).length)= .own (m.length+1) (D.sz t') 0 (xs.eraseIdx x.toNat).length:=by
   simp only [SV.av,aL.eN,aeI,sa]
  rw [e1,e2]
  have e3:look (pk m (N.ι nm) ⟨D.sz t',(xs.eraseIdx x.toNat).map (D.ea N.ρ t')⟩)=aJ s.g [(N.ι nm,none),(s.k+1,some ⟨D.sz t',(xs.eraseIdx x.toNat).map (D.ea N.ρ t')⟩)]:=by
   rw [<-L7, <-sa]
   rw [<-sa] at hid
   funext id
   unfold look pk
   simp only [aJ]
   rcases afq id m.length with hl|hl
   ·rw [afk (by simpa using hl)]
    rw [aeE (by omega)]
    by_cases hi:id=N.ι nm
    ·subst hi;simp [hid]
    ·rw [aeE hi,agE (fun e=>hi e.symm)]
   ·rw [afr (by simpa using hl),ae4]
    rcases Nat.lt_trichotomy id (m.length+1) with h5|h5|h5
    ·have:id=m.length:=by omega
     subst this
     rw [aeE (by omega),aeE (by omega)];simp
    ·subst h5
     rw [aeG rfl];simp
    ·rw [aeE (by omega),aeE (by omega),afM (by simp;omega),afM (by omega)]
  have e4:(pk m (N.ι nm) ⟨D.sz t',(xs.eraseIdx x.toNat).map (D.ea N.ρ t')⟩).length=s.k+2:=by simp [pk,sa]
  rw [e3,e4] at this
  exact this
 ·have:=hN.1 st.nx (afB _)
  simp only [SV.av,this.1,this.2]
 ·exact ⟨fun cT hN=>⟨fun i v hv=>by simp [getS] at hv,fun i v hv=>by simp [getS] at hv,(jz.at_ cT hN).bl,(jz.at_ cT hN).rb,(jz.at_ cT hN).ar⟩,jz.inj,jz.lt,jz.ml,jz.rl,jz.sp⟩
def xq (P:Program) (D:TD τ dn) (Δ:List (bj τ dn)) (Ω:List (ja τ dn)) (il:List (IL τ dn)):Nat->JW τ dn
 |0,_,_,_,_=>False
 |d+1,f,vs,st,K=>match xn il f vs with
  |some ⟨_, .fn F an,_⟩=>FI ⟨P,D,Δ,Ω,st.nx,xq P D Δ Ω il d,false⟩ F an vs st K
  |some ⟨_, .del t _ _,_⟩=>FK D t vs st K
  |none=>False
theorem FM {P:Program} (ok:bE D) {Δ:List (bj τ dn)} (sO:Cons P D Δ) {Ω:List (ja τ dn)} (sP:xp P D Ω) {il:List (IL τ dn)} (cV:oz P D il):∀(d fl:Nat),(⟨P,D,Δ,Ω,fl,xq P D Δ Ω il d,false⟩:cU τ dn).Ok
 |0,fl=>⟨ok,FF sO,FG sP,fun _ _ h=>h.elim⟩
 |d+1,fl=>⟨ok,FF sO,FG sP,fun {f vs st K N s} R ha h=>by
  simp only [xq] at h
  split at h
  ·rename_i F an hi
   obtain ⟨h1,h2⟩:=FH cV hi
   exact YW (FM ok sO sP cV d st.nx) h1 h2 R rfl ha h
  ·rename_i hi
   exact YX (FH cV hi) R h
  ·exact h.elim⟩
theorem bV (ok:bE D) {Δ:List (bj τ dn)} (sO:Cons P D Δ) {Ω:List (ja τ dn)} (sP:xp P D Ω) (c:bj τ dn) (hF:cFunc P c.f=some F) (hc:aX P c.f=true) (il:PD dn c.ps->List (IL τ dn)) (cV:∀x,oz P D (il x)) (d:Nat) (an:PD dn c.ps->Nat->Option (LA τ dn)) (h:∀x,c.pre x->FD ⟨P,D,Δ,Ω,0,xq P D Δ Ω (il x) d,false⟩ F (an x) (lF D c.ps x) c.rs (c.res x)):c.Ok P D:=
 ⟨hc,fun x N hp=>YU (FM ok sO sP (cV x) d 0) hF N (xl ok c.ps x) (h x hp)⟩
end
open Go.RowKit
structure LR (α:Type) where
 sz:Nat
 ea:(Nat->AV)->α->List AV
def LR.i64:LR Int:=⟨1,fun _ x=>[.v (.int .i64 x)]⟩
def LR.u8:LR UInt8:=⟨1,fun _ x=>[.v (.int .u8 x.toNat)]⟩
def LR.u64:LR cY:=⟨1,fun _ x=>[.v (.int .u64 (x.n:Int))]⟩
def LR.j4:LR Bool:=⟨1,fun _ x=>[.v (.bool x)]⟩
def LR.str:LR ByteArray:=⟨1,fun _ x=>[.v (.string x)]⟩
def LR.prod (A:LR α) (B:LR β):LR (α×β):=⟨A.sz+B.sz,fun ρ x=>A.ea ρ x.1++B.ea ρ x.2⟩
def LR.via (f:α->β) (B:LR β):LR α:=⟨B.sz,fun ρ x=>B.ea ρ (f x)⟩
def LR.row {α:Type} (A:LR α):LR (Row α):=⟨1,fun ρ r=>[match r.kd with
 | .nil=> .emp
 | .own=> .own r.id A.sz 0 r.n
 | .aV=> .aV A.sz (r.xs.map (A.ea ρ))]⟩
structure Ptr (α:Type) where
 get:α
def LR.ptr (A:LR α):LR (Ptr α):=⟨1,fun ρ x=>[.pim (A.ea ρ x.get) 0]⟩
def LR.list (A:LR α):LR (List α):=⟨1,fun ρ xs=>[.aV A.sz (xs.map (A.ea ρ))]⟩
section
variable {τ:Type} {dn:τ->Type}
theorem eP.app {a c d:List AV} (h:eP a b) (k:eP c d):eP (a++c) (b++d):=by
 induction h with
 |nil=>exact k
 |cons h t ih=>exact .cons h ih
theorem L8 {p:Nat->Bool}:∀{a b:List (SV τ dn)},SV.ck p (a++b)=(SV.ck p a&&SV.ck p b)
 |[],b=>by simp [SV.ck]
 |v::a,b=>by simp only [afZ,SV.ck,L8,Bool.and_assoc]
structure LY (E:TE τ dn) {α:Type} (R:LR α) where
 es:α->List (SV τ dn)
 ds:List (SV τ dn)->Option α
 df:α
 dD:∀(N:aL) (x:α),(es x).map (SV.av E N)=R.ea N.ρ x
 iF:∀(N:aL) (cs:List (SV τ dn)) (x:α),ds cs=some x->eP (cs.map (SV.av E N)) (R.ea N.ρ x)
 em:Bool
 pu:Bool
 fX:∀(N:aL) (cs:List (SV τ dn)) (x:α),ds cs=some x->(em=true\/cs.all SV.ne=true)->cs.map (SV.av E N)=R.ea N.ρ x
 len:∀x,(es x).length=R.sz
 one:∀x,(es x).all SV.one=true
 nf:∀(p:Nat->Bool) x,SV.ck p (es x)=true
 gS:∀(ρ iG:Nat->AV) (x:α),R.ea ρ x=R.ea iG x
 pu1:∀(N:aL) (x:α),pu=true->(R.ea N.ρ x).all AV.pu1=true
 bt:Option ((α->UInt8)×(UInt8->α)):=none
 L9:∀(N:aL) (p:(α->UInt8)×(UInt8->α)),bt=some p->(∀x,R.ea N.ρ x=[.v (.int .u8 (p.1 x).toNat)])/\∀b,p.1 (p.2 b)=b:=by intro N p h;simp at h
variable {E:TE τ dn}
def FN:List (SV τ dn)->Option Int
 |[.vi x]=>some x
 |[.vn x]=>some x
 |_=>none
def FO:List (SV τ dn)->Option UInt8
 |[.vy x]=>some x
 |_=>none
def FP:List (SV τ dn)->Option cY
 |[.vu x]=>some x
 |_=>none
def FQ:List (SV τ dn)->Option Bool
 |[.vt x]=>some x
 |[.vb c]=>some c.den
 |_=>none
def FR:List (SV τ dn)->Option ByteArray
 |[.vz x]=>some x
 |_=>none
theorem Ma {cs:List (SV τ dn)} {x:Int} (h:FN cs=some x):cs.map (SV.av E N)=[.v (.int .i64 x)]:=by
 unfold FN at h;split at h<;>simp only [aeF,reduceCtorEq] at h<;>subst h<;>rfl
theorem Mb {cs:List (SV τ dn)} {x:UInt8} (h:FO cs=some x):cs.map (SV.av E N)=[.v (.int .u8 x.toNat)]:=by
 unfold FO at h;split at h<;>simp only [aeF,reduceCtorEq] at h;subst h;rfl
theorem Mc {cs:List (SV τ dn)} {x:cY} (h:FP cs=some x):cs.map (SV.av E N)=[.v (.int .u64 (x.n:Int))]:=by
 unfold FP at h;split at h<;>simp only [aeF,reduceCtorEq] at h;subst h;rfl
theorem Md {cs:List (SV τ dn)} {x:Bool} (h:FQ cs=some x):cs.map (SV.av E N)=[.v (.bool x)]:=by
 unfold FQ at h;split at h<;>simp only [aeF,reduceCtorEq] at h<;>subst h<;>rfl
theorem Me {cs:List (SV τ dn)} {x:ByteArray} (h:FR cs=some x):cs.map (SV.av E N)=[.v (.string x)]:=by
 unfold FR at h;split at h<;>simp only [aeF,reduceCtorEq] at h;subst h;rfl
theorem eP.of_eq {a:List AV} (h:a=b):eP a b:=by
 subst h
 induction a with
 |nil=>exact .nil
 |cons x r ih=>exact .cons cH.refl ih
def LY.i64:LY E LR.i64 where
 es x:=[.vi x]
 ds:=FN
 df:=0
 dD _ _:=rfl
 iF _ _ _ h:= .of_eq (Ma h)
 em:=true
 pu:=true
 fX _ _ _ h _:=Ma h
 len _:=rfl
 one _:=rfl
 nf _ _:=rfl
 gS _ _ _:=rfl
 pu1 _ _ _:=rfl
def LY.u8:LY E LR.u8 where
 es x:=[.vy x]
 ds:=FO
 df:=0
 dD _ _:=rfl
 iF _ _ _ h:= .of_eq (Mb h)
 em:=true
 pu:=true
 fX _ _ _ h _:=Mb h
 len _:=rfl
 one _:=rfl
 nf _ _:=rfl
 gS _ _ _:=rfl
 pu1 _ _ _:=rfl
 bt:=some (id,id)
 L9 N p h:=by simp only [aeF] at h;subst h;exact ⟨fun _=>rfl,fun _=>rfl⟩
def LY.u64:LY E LR.u64 where
 es x:=[.vu x]
 ds:=FP
 df:=⟨0,by decide⟩
 dD _ _:=rfl
 iF _ _ _ h:= .of_eq (Mc h)
 em:=true
 pu:=true
 fX _ _ _ h _:=Mc h
 len _:=rfl
 one _:=rfl
 nf _ _:=rfl
 gS _ _ _:=rfl
 pu1 _ _ _:=rfl
def LY.j4:LY E LR.j4 where
 es x:=[.vb (.b x)]
 ds:=FQ
 df:=false
 dD _ _:=rfl
 iF _ _ _ h:= .of_eq (Md h)
 em:=true
 pu:=true
 fX _ _ _ h _:=Md h
 len _:=rfl
 one _:=rfl
 nf _ _:=rfl
 gS _ _ _:=rfl
 pu1 _ _ _:=rfl
def LY.str:LY E LR.str where
 es x:=[.vz x]
 ds:=FR
 df:=ByteArray.empty
 dD _ _:=rfl
 iF _ _ _ h:= .of_eq (Me h)
 em:=true
 pu:=true
 fX _ _ _ h _:=Me h
 len _:=rfl
 one _:=rfl
 nf _ _:=rfl
 gS _ _ _:=rfl
 pu1 _ _ _:=rfl
def FT (n:Nat) (a:List (SV τ dn)->Option α) (b:List (SV τ dn)->Option β) (cs:List (SV τ dn)):Option (α×β):=
 match a (cs.take n),b (cs.drop n) with
 |some x,some y=>some (x,y)
 |_,_=>none
theorem Mf {β:Type} {a:List (SV τ dn)->Option α} {b:List (SV τ dn)->Option β} {cs:List (SV τ dn)} {z:α×β} (h:FT n a b cs=some z):a (cs.take n)=some z.1/\b (cs.drop n)=some z.2:=by
 unfold FT at h
 split at h
 ·rename_i x y h1 h2
  simp only [aeF] at h;subst h;exact ⟨h1,h2⟩
 ·simp at h
def LY.prod {α β:Type} {A:LR α} {B:LR β} (a:LY E A) (b:LY E B):LY E (A.prod B) where
 es x:=a.es x.1++b.es x.2
 ds:=FT A.sz a.ds b.ds
 df:=(a.df,b.df)
 dD N x:=by rw [afp,a.dD,b.dD];rfl
 iF N cs x h:=by
  obtain ⟨h1,h2⟩:=Mf h
  have:=eP.app (a.iF N _ _ h1) (b.iF N _ _ h2)
  rw [<-afp,List.take_append_drop] at this
  exact this
 em:=a.em&&b.em
 pu:=a.pu&&b.pu
 fX N cs x h hn:=by
  obtain ⟨h1,h2⟩:=Mf h
  have yE:a.em=true\/(cs.take A.sz).all SV.ne=true:=hn.elim (fun h=> .inl (by rw [aeH] at h;exact h.1)) fun hn=> .inr (aeJ.2 fun v hv=>aeJ.1 hn v (List.mem_of_mem_take hv))
  have te:b.em=true\/(cs.drop A.sz).all SV.ne=true:=hn.elim (fun h=> .inl (by rw [aeH] at h;exact h.2)) fun hn=> .inr (aeJ.2 fun v hv=>aeJ.1 hn v (List.mem_of_mem_drop hv))
  show _=A.ea N.ρ x.1++B.ea N.ρ x.2
  rw [<-a.fX N _ _ h1 yE, <-b.fX N _ _ h2 te, <-afp,List.take_append_drop]
 len x:=by rw [afK,a.len,b.len];rfl
 one x:=by rw [List.all_append,a.one,b.one];rfl
 nf p x:=by rw [L8,a.nf,b.nf];rfl
 gS ρ iG x:=by show A.ea ρ x.1++B.ea ρ x.2=_;rw [a.gS ρ iG,b.gS ρ iG];rfl
 pu1 N x h:=by
  rw [aeH] at h
  show (A.ea N.ρ x.1++B.ea N.ρ x.2).all _=true;rw [List.all_append,a.pu1 _ _ h.1,b.pu1 _ _ h.2];rfl
def LY.via {α β:Type} {f:α->β} {B:LR β} (g:β->α) (Mg:∀y,f (g y)=y) (b:LY E B):LY E (LR.via f B) where
 es x:=b.es (f x)
 ds cs:=match b.ds cs with
  |some y=>some (g y)
  |none=>none
 df:=g b.df
 dD N x:=b.dD N (f x)
 iF N cs x h:=by
  split at h
  ·rename_i y hy
   simp only [aeF] at h;subst h
   show eP _ (B.ea N.ρ (f (g y)))
   rw [Mg];exact b.iF N _ _ hy
  ·simp at h
 em:=b.em
 pu:=b.pu
 fX N cs x h hn:=by
  split at h
  ·rename_i y hy
   simp only [aeF] at h;subst h
   show _=(B.ea N.ρ (f (g y)))
   rw [Mg];exact b.fX N _ _ hy hn
  ·simp at h
 len x:=b.len (f x)
 one x:=b.one (f x)
 nf p x:=b.nf p (f x)
 gS ρ iG x:=b.gS ρ iG (f x)
 pu1 N x h:=b.pu1 N (f x) h
def uA {α:Type} (em:Bool) (ds:List (SV τ dn)->Option α):List (List (SV τ dn))->Option (List α)
 |[]=>some []
 |cs::r=>if (em||cs.all SV.ne)=true then (match ds cs,uA em ds r with
  |some x,some l=>some (x::l)
  |_,_=>none) else none
theorem FU {t:τ} {R:LR (dn t)} (A:LY E R) (N:aL):∀{els:List (List (SV τ dn))} {xs:List (dn t)},uA A.em A.ds els=some xs->SV.cM E N els=xs.map (R.ea N.ρ)
 |[],xs,h=>by simp only [uA,aeF] at h;subst h;rfl
 |cs::r,xs,h=>by
  simp only [uA] at h
  split at h
  ·rename_i hn
   split at h
   ·rename_i x l h1 h2
    simp only [aeF] at h;subst h
    simp only [SV.cM,aeR,SV.bX,A.fX N _ _ h1 (by rw [ae8] at hn;exact hn),FU A N h2]
   ·simp at h
  ·simp at h
section
variable [DecidableEq τ]
def FV (t:τ) (sz:Nat) (em:Bool) (ds:List (SV τ dn)->Option (dn t)):List (SV τ dn)->Option (List (dn t))
 |[.vl t' xs]=>if h:t'=t then some (h▸xs) else none
 |[.vc k els]=>if k=sz then uA em ds els else none
 |[.emp]=>some []
 |_=>none
theorem Mh {t:τ} {R:LR (dn t)} (A:LY E R) (hs:E.sz t=R.sz) (he:∀ρ,E.ea ρ t=R.ea ρ) (N:aL) {cs:List (SV τ dn)} {xs:List (dn t)} (h:FV t R.sz A.em A.ds cs=some xs):eP (cs.map (SV.av E N)) ((LR.list R).ea N.ρ xs)/\(cs.all SV.ne=true->cs.map (SV.av E N)=(LR.list R).ea N.ρ xs):=by
 unfold FV at h
 split at h
 ·rename_i t' ys
  split at h
  ·rename_i ht
   subst ht
   simp only [aeF] at h;subst h
   have:[SV.vl t' ys].map (SV.av E N)=(LR.list R).ea N.ρ ys:=by
    simp only [aeR,afh,SV.av,hs,he];rfl
   exact ⟨.of_eq this,fun _=>this⟩
  ·simp at h
 ·rename_i k els
  split at h
  ·rename_i hk
   subst hk
   have:[SV.vc R.sz els].map (SV.av E N)=(LR.list R).ea N.ρ xs:=by
    simp only [aeR,afh,SV.av,FU A N h];rfl
   exact ⟨.of_eq this,fun _=>this⟩
  ·simp at h
 ·simp only [aeF] at h;subst h
  exact ⟨.cons cH.emp .nil,fun hn=>by simp [SV.ne] at hn⟩
 ·simp at h
def LY.list {t:τ} {R:LR (dn t)} (A:LY E R) (hs:E.sz t=R.sz) (he:∀ρ,E.ea ρ t=R.ea ρ):LY E (LR.list R) where
 es x:=[.vl t x]
 ds:=FV t R.sz A.em A.ds
 df:=[]
 dD N x:=by simp only [aeR,afh,SV.av,hs,he];rfl
 iF N cs x h:=(Mh A hs he N h).1
 em:=false
 pu:=true
 fX N cs x h hn:=(Mh A hs he N h).2 (hn.resolve_left (by simp))
 len _:=rfl
 one _:=rfl
 nf _ _:=rfl
 gS ρ iG x:=by show [AV.aV R.sz (x.map (R.ea ρ))]=[AV.aV R.sz (x.map (R.ea iG))];rw [funext fun y=>A.gS ρ iG y]
 pu1 _ _ _:=rfl
def FW (t:τ) (sz:Nat) (em:Bool) (ds:List (SV τ dn)->Option (dn t)):List (SV τ dn)->Option (Row (dn t))
 |[.rw t' r]=>if h:t'=t then some (h▸r) else none
 |[.vl t' xs]=>if h:t'=t then some (Row.fix _ (h▸xs)) else none
 |[.vc k els]=>if k=sz then (uA em ds els).map fun xs=>Row.fix _ xs else none
 |[.emp]=>some (Row.no _)
 |_=>none
theorem Mi {t:τ} {R:LR (dn t)} (hs:E.sz t=R.sz) (he:∀ρ,E.ea ρ t=R.ea ρ) (N:aL) (r:Row (dn t)):[(SV.rw t r:SV τ dn)].map (SV.av E N)=(LR.row R).ea N.ρ r:=by
 simp only [aeR,afh,SV.av,LR.row]
 cases r.kd<;>simp only [hs,he]
theorem Mj {t:τ} {R:LR (dn t)} (A:LY E R) (hs:E.sz t=R.sz) (he:∀ρ,E.ea ρ t=R.ea ρ) (N:aL) {cs:List (SV τ dn)} {r:Row (dn t)} (h:FW t R.sz A.em A.ds cs=some r):cs.map (SV.av E N)=(LR.row R).ea N.ρ r:=by
 unfold FW at h
 split at h
 ·rename_i t' q
  split at h
  ·rename_i ht
   subst ht
   simp only [aeF] at h;subst h
   exact Mi hs he N _
  ·simp at h
 ·rename_i t' ys
  split at h
  ·rename_i ht
   subst ht
   simp only [aeF] at h;subst h
   simp only [aeR,afh,SV.av,hs,he];rfl
  ·simp at h
 ·rename_i k els
  split at h
  ·rename_i hk
   subst hk
   simp only [aeM] at h
   obtain ⟨xs,hx,rfl⟩:=h
   simp only [aeR,afh,SV.av,FU A N hx];rfl
  ·simp at h
 ·simp only [aeF] at h;subst h;rfl
 ·simp at h
def FX (ds:List (SV τ dn)->Option α):List (SV τ dn)->Option (Ptr α)
 |[.pim cs 0]=>bif cs.all SV.ne then (ds cs).map Ptr.mk else none
 |_=>none
theorem Ml {α:Type} {R:LR α} (A:LY E R) (N:aL) {cs:List (SV τ dn)} {x:Ptr α} (h:FX A.ds cs=some x):cs.map (SV.av E N)=(LR.ptr R).ea N.ρ x:=by
 unfold FX at h
 split at h
 ·rename_i cs'
  cases hb:cs'.all SV.ne with
  |false=>rw [hb] at h;simp at h
  |true=>
   rw [hb,aeK] at h
   simp only [aeM] at h
   obtain ⟨y,hy,rfl⟩:=h
   have:=A.fX N cs' y hy (.inr hb)
   simp only [aeR,afh,SV.av,SV.bX,this,LR.ptr]
 ·simp at h
def LY.ptr {α:Type} {R:LR α} (A:LY E R):LY E (LR.ptr R) where
 es x:=[.pim (A.es x.get) 0]
 ds:=FX A.ds
 df:=⟨A.df⟩
 dD N x:=by simp only [aeR,afh,SV.av,SV.bX,A.dD,LR.ptr]
 iF N cs x h:=eP.of_eq (Ml A N h)
 em:=false
 pu:=true
 fX N cs x h _:=Ml A N h
 len _:=rfl
 one _:=rfl
 nf p x:=by simp only [SV.ck,SV.fr,A.nf,Bool.and_self]
 gS ρ iG x:=by show [AV.pim (R.ea ρ x.get) 0]=[AV.pim (R.ea iG x.get) 0];rw [A.gS ρ iG]
 pu1 _ _ _:=rfl
def LY.row {t:τ} {R:LR (dn t)} (A:LY E R) (hs:E.sz t=R.sz) (he:∀ρ,E.ea ρ t=R.ea ρ):LY E (LR.row R) where
 es r:=[.rw t r]
 ds:=FW t R.sz A.em A.ds
 df:=Row.no _
 dD N r:=Mi hs he N r
 iF N cs x h:= .of_eq (Mj A hs he N h)
 em:=true
 pu:=false
 fX N cs x h _:=Mj A hs he N h
 len _:=rfl
 one _:=rfl
 nf _ _:=rfl
 gS ρ iG x:=by
  simp only [LR.row]
  cases x.kd<;>first|rfl|(rw [funext fun y=>A.gS ρ iG y])
 pu1 _ _ h:=by simp at h
end
def gW (E:TE τ dn) (ta:τ) (A:List (Nat×List (dn ta))) {α β:Type} (R:LR α) (R':LR β) (f:α->β) (O:α->Prop):Prop:=
 R'.sz=R.sz/\∀(N:aL) (φ:AV->AV),(∀a,a.pu1=true->φ a=a)->(∀id n,cz A id->(bk A id).length=n->φ (.own id (E.sz ta) 0 n)= .aV (E.sz ta) ((bk A id).map (E.ea N.ρ ta)))->∀x,O x->(R.ea N.ρ x).map φ=R'.ea N.ρ (f x)
theorem gW.row {ta:τ} {A:List (Nat×List (dn ta))} {R:LR (dn ta)} (hs:E.sz ta=R.sz) (he:∀ρ,E.ea ρ ta=R.ea ρ):gW E ta A (LR.row R) (LR.list R) (fun r=>r.get A) (fun r=>r.ok A/\r.kd≠ .nil):=by
 refine ⟨rfl,fun N φ h1 h2 x hx=> ?_⟩
 simp only [LR.row,LR.list,aeR,afh]
 obtain ⟨hx,hn⟩:=hx
 unfold Row.ok at hx
 cases hk:x.kd with
 |nil=>exact absurd hk hn
 |own=>
  rw [hk] at hx
  have:=h2 x.id x.n hx.1 hx.2
  rw [hs,he] at this
  simp only [this,Row.get,hk]
 |aV=>simp only [h1 (.aV R.sz (x.xs.map (R.ea N.ρ))) rfl,Row.get,hk]
theorem gW.id {ta:τ} {A:List (Nat×List (dn ta))} {α:Type} {R:LR α} (y:LY E R) (hp:y.pu=true):gW E ta A R R (fun x=>x) (fun _=>True):=by
 refine ⟨rfl,fun N φ h1 h2 x hx=> ?_⟩
 have hl:∀l:List AV,l.all AV.pu1=true->l.map φ=l:=by
  intro l
  induction l with
  |nil=>intro _;rfl
  |cons a l ih=>
   intro h
   rw [List.all_cons,aeH] at h
   rw [aeR,h1 a h.1,ih h.2]
 exact hl _ (y.pu1 N x hp)
theorem gW.prod {ta:τ} {A:List (Nat×List (dn ta))} {α β γ δ:Type} {R:LR α} {R':LR β} {S:LR γ} {S':LR δ} {f:α->β} {O:α->Prop} {g:γ->δ} {P:γ->Prop} (h:gW E ta A R R' f O) (k:gW E ta A S S' g P):gW E ta A (R.prod S) (R'.prod S') (fun x=>(f x.1,g x.2)) (fun x=>O x.1/\P x.2):=
 ⟨by show R'.sz+S'.sz=R.sz+S.sz;rw [h.1,k.1],fun N φ h1 h2 x hx=>by
  show (R.ea N.ρ x.1++S.ea N.ρ x.2).map φ=R'.ea N.ρ (f x.1)++S'.ea N.ρ (g x.2)
  rw [afp,h.2 N φ h1 h2 _ hx.1,k.2 N φ h1 h2 _ hx.2]⟩
theorem gW.via {ta:τ} {A:List (Nat×List (dn ta))} {α β γ δ:Type} {R:LR β} {R':LR δ} {u:α->β} {w:γ->δ} {f:β->δ} {O:β->Prop} {F:α->γ} (h:gW E ta A R R' f O) (hw:∀x,w (F x)=f (u x)):gW E ta A (LR.via u R) (LR.via w R') F (fun x=>O (u x)):=
 ⟨h.1,fun N φ h1 h2 x hx=>by
  show (R.ea N.ρ (u x)).map φ=R'.ea N.ρ (w (F x))
  rw [hw];exact h.2 N φ h1 h2 _ hx⟩
abbrev FZ (τ:Type) (dn:τ->Type):Type:=(t ta:τ)->(A:List (Nat×List (dn ta)))->Option ((t':τ)×(dn t->dn t')×(dn t->Prop))
def TE.pZ (lr:(t:τ)->LR (dn t)):TE τ dn:=⟨fun t=>(lr t).sz,fun ρ t=>(lr t).ea ρ⟩
def TD.pZ {lr:(t:τ)->LR (dn t)} (ly:(t:τ)->LY (TE.pZ lr) (lr t)) (ag:τ->Bool) (hint:Nat->Nat->Option τ) (neg:Bool) (ar:Option τ:=none) (hr:τ->Bool:=fun _=>false) (fz:FZ τ dn:=fun _ _ _=>none) (th:(t t':τ)->Option (dn t->dn t'):=fun _ _=>none):TD τ dn where
 toTE:=TE.pZ lr
 df t:=(ly t).df
 es t:=(ly t).es
 ds t:=(ly t).ds
 ag:=ag
 pu t:=(ly t).pu
 hint:=hint
 neg:=neg
 em t:=(ly t).em
 ar:=ar
 hr:=hr
 fz:=fz
 bt t:=(ly t).bt
 th:=th
theorem TD.Mm {lr:(t:τ)->LR (dn t)} {ly:(t:τ)->LY (TE.pZ lr) (lr t)} {ag:τ->Bool} {hint:Nat->Nat->Option τ} {neg:Bool} {ar:Option τ} {hr:τ->Bool} {fz:FZ τ dn} {th:(t t':τ)->Option (dn t->dn t')} (sL:∀(t ta:τ) (A:List (Nat×List (dn ta))) (t':τ) (f:dn t->dn t') (O:dn t->Prop),fz t ta A=some ⟨t',f,O⟩->gW (TE.pZ lr) ta A (lr t) (lr t') f O:=by intro t ta A t' f O h;simp at h) (YY:∀(ρ:Nat->AV) (t t':τ) (f:dn t->dn t'),th t t'=some f->(lr t').sz=(lr t).sz/\∀x,(lr t').ea ρ (f x)=(lr t).ea ρ x:=by intro ρ t t' f h;simp at h):bE (TD.pZ ly ag hint neg ar hr fz th) where
 dD N t x:=(ly t).dD N x
 iF N t cs x h:=(ly t).iF N cs x h
 fX N t cs x h hn:=(ly t).fX N cs x h (by unfold TD.sj at hn;rw [ae8] at hn;exact hn)
 len t x:=(ly t).len x
 one t x:=(ly t).one x
 nf p t x:=(ly t).nf p x
 gS ρ iG t x _:=(ly t).gS ρ iG x
 pu1 N t x h:=(ly t).pu1 N x h
 bt N t p h:=(ly t).L9 N p h
 th:=YY
 fz N φ t ta A t' f O h h1 h2:=⟨(sL t ta A t' f O h).1,fun x hx=>(sL t ta A t' f O h).2 N φ h1 h2 x hx⟩
end
open Go.RowKit
structure LG {α:Type} [aQ α] (R:LR α) where
 oA:α->Prop
 sz:R.sz=aQ.size α
 av:∀{w:World} {cs:List Value} {x:α},aQ.rep w w.heap.size cs x->R2 (aj (E0 w fun b=>b<w.heap.size)) cs (R.ea (fun _=> .dead) x)
 one:∀{w:World} {cs:List Value} {x:α},aQ.rep w w.heap.size cs x->∀v,v∈cs->v.oneCell'=true
 pu:∀(x:α) c,c∈R.ea (fun _=> .dead) x->Pu c
 bg:∀{w:World} {cs:List Value} {x:α},aQ.rep w w.heap.size cs x->oA x
theorem R2.app {R:Value->AV->Prop} {Au:List Value} {cR:List AV} (h:R2 R vs as_) (k:R2 R Au cR):R2 R (vs++Au) (as_++cR):=by
 induction h with
 |nil=>exact k
 |cons h t ih=>exact .cons h ih
def LG.i64:LG LR.i64 where
 oA:=aB
 sz:=rfl
 av h:=by obtain ⟨rfl,_⟩:=h;exact .cons (.v rfl) .nil
 one h v hv:=by obtain ⟨rfl,_⟩:=h;simp at hv;subst hv;rfl
 pu x c hc:=by simp [LR.i64] at hc;subst hc;exact .v
 bg h:=h.2
def LG.j4:LG LR.j4 where
 oA _:=True
 sz:=rfl
 av h:=by cases h;exact .cons (.v rfl) .nil
 one h v hv:=by cases h;simp at hv;subst hv;rfl
 pu x c hc:=by simp [LR.j4] at hc;subst hc;exact .v
 bg _:=trivial
def LG.str:LG LR.str where
 oA x:=x.size<=9223372036854775807
 sz:=rfl
 av h:=by obtain ⟨rfl,_⟩:=h;exact .cons (.v rfl) .nil
 one h v hv:=by obtain ⟨rfl,_⟩:=h;simp at hv;subst hv;rfl
 pu x c hc:=by simp [LR.str] at hc;subst hc;exact .v
 bg h:=h.2
def LG.prod {α β:Type} [aQ α] [aQ β] {A:LR α} {B:LR β} (a:LG A) (b:LG B):LG (A.prod B) where
 oA x:=a.oA x.1/\b.oA x.2
 sz:=by show A.sz+B.sz=aQ.size α+aQ.size β;rw [a.sz,b.sz]
 av h:=by obtain ⟨c0,c1,rfl,h0,h1⟩:=h;exact (a.av h0).app (b.av h1)
 one h v hv:=by
  obtain ⟨c0,c1,rfl,h0,h1⟩:=h
  rcases afc.1 hv with hv|hv
  ·exact a.one h0 v hv
  ·exact b.one h1 v hv
 pu x c hc:=by
  rcases afc.1 hc with hc|hc
  ·exact a.pu _ c hc
  ·exact b.pu _ c hc
 bg h:=by obtain ⟨c0,c1,rfl,h0,h1⟩:=h;exact ⟨a.bg h0,b.bg h1⟩
def LG.list {α:Type} [aQ α] {A:LR α} (a:LG A):LG (LR.list A) where
 oA xs:=xs.length<=9223372036854775807/\∀x,x∈xs->a.oA x
 sz:=rfl
 av {w cs xs} h:=by
  obtain ⟨A0,n,c,rfl,hn,hle,hc,h⟩:=h
  refine .cons ?_ .nil
  rcases h with rfl|⟨b,off,rfl,hb,hs⟩
  ·simp only [List.length_nil] at hn;subst hn;exact .fy hc
  ·have get:∀(i:Nat) (cs:List AV) (j:Nat) x,(xs.map (A.ea fun _=> .dead))[i]? =some cs->cs[j]? =some x->∃u,w.cell? ⟨b,off+i*A.sz+j,none⟩=some u/\u.oneCell'=true/\Pu x/\aj (E0 w fun b=>b<w.heap.size) u x:=by
    intro i cs j x hi hj
    rw [aeY,aeM] at hi
    obtain ⟨y,hy,rfl⟩:=hi
    obtain ⟨vs,h1,h2⟩:=hs i y hy
    have r:=a.av h1
    have bL:j<vs.length:=by rw [r.len];exact (aeN.1 hj).1
    have hv:=aeL bL
    refine ⟨vs[j],by rw [a.sz];exact h2 j _ hv,a.one h1 _ (agC bL),a.pu y x (afd hj),r.get j _ x hv hj⟩
   refine .gA (fun i j=>(w.cell? ⟨b,off+i*A.sz+j,none⟩).getD undef) (by simpa using hn) hle hc hb (fun i cs hi=> ?_) (fun i cs j x hi hj=> ?_) (fun i cs j x hi hj=> ?_) (fun i cs j x hi hj=> ?_)
   ·rw [aeY,aeM] at hi
    obtain ⟨y,hy,rfl⟩:=hi
    obtain ⟨vs,h1,_⟩:=hs i y hy
    rw [<-(a.av h1).len,aQ.len h1,a.sz]
   all_goals
    obtain ⟨u,k1,k2,k3,k4⟩:=get i cs j x hi hj
   ·show w.cell? _=_;rw [k1];rfl
   ·simp only [k1,afz];exact ⟨k2,k3⟩
   ·simp only [k1,afz];exact k4
 one h v hv:=by obtain ⟨A0,n,c,rfl,_⟩:=h;simp at hv;subst hv;rfl
 pu xs c hc:=by simp [LR.list] at hc;subst hc;exact .aV
 bg {w cs xs} h:=by
  obtain ⟨A0,n,c,rfl,hn,hle,hc,h⟩:=h
  refine ⟨by omega,fun x hx=> ?_⟩
  rcases h with rfl|⟨b,off,rfl,hb,hs⟩
  ·simp at hx
  ·obtain ⟨i,hi⟩:=List.mem_iff_getElem?.1 hx
   obtain ⟨vs,h1,_⟩:=hs i x hi
   exact a.bg h1
def LG.via {α β:Type} [aQ β] {f:α->β} {B:LR β} (b:LG B): @LG α (aQ.via f) (LR.via f B):=
 @LG.mk α (aQ.via f) (LR.via f B) (fun x=>b.oA (f x)) b.sz (fun h=>b.av h) (fun h=>b.one h) (fun x=>b.pu (f x)) fun h=>b.bg h
def N0:aL:=⟨fun _=>0,fun _=>0,fun _=> .dead⟩
section
variable {τ:Type} {dn:τ->Type} {D:TD τ dn}
theorem YZ (ok:bE D) {t:τ} {x:dn t} {cs:List Value} (ha:D.ag t=true) (h:R2 (aj E) cs (D.ea (fun _=> .dead) t x)):aj E (.agg cs.toArray) ((D.en t x).av D.toTE N0):=by
 rw [wT ha,SV.av,SV.bX,ok.dD];exact h.agg
theorem FY (ok:bE D) {t:τ} {x:dn t} {v:Value} (ha:D.ag t=false) (h:R2 (aj E) [v] (D.ea (fun _=> .dead) t x)):aj E v ((D.en t x).av D.toTE N0):=by
 have one:∀l:List AV,[v].length=l.length->∃b,l=[b]:=fun l hl=>by
  match l with
  |[b]=>exact ⟨b,rfl⟩
  |[]=>simp at hl
  |_::_::_=>simp at hl
 obtain ⟨b,hb⟩:=one _ h.len
 rw [EB (N:=N0) ok ha hb]
 have h2:R2 (aj E) [v] [b]:=by rw [<-hb];exact h
 cases h2 with|cons h _=>exact h
end
open Go.RowKit
@[ext] structure Piece where
 version:Int
 data:ByteArray
instance:aQ Piece:=aQ.via (fun x=>(x.version,x.data))
@[go_sem, simp] theorem Piece.eta (x : Piece) : (⟨x.version, x.data⟩ : Piece) = x := rfl
@[ext] structure Shelf where
 up:Bool
 pieces:(List Piece)
instance:aQ Shelf:=aQ.via (fun x=>(x.up,x.pieces))
@[go_sem, simp] theorem Shelf.eta (x : Shelf) : (⟨x.up, x.pieces⟩ : Shelf) = x := rfl
@[ext] structure ah where
 layout:aO
 size:Int
 versions:(List Int)
 nodes:(List Shelf)
variable {v:ah}
instance:aQ ah:=aQ.via (fun x=>(x.layout,x.size,x.versions,x.nodes))
@[go_sem, simp] theorem ah.eta (x : ah) : (⟨x.layout, x.size, x.versions, x.nodes⟩ : ah) = x := rfl
@[ext] structure cx where
 vol:ah
 no:Int
 nodes:(List Int)
instance:aQ cx:=aQ.via (fun x=>(x.vol,x.no,x.nodes))
@[go_sem, simp] theorem cx.eta (x : cx) : (⟨x.vol, x.no, x.nodes⟩ : cx) = x := rfl
structure az where
 up:Bool
 pieces:Row Piece
inductive Tc where
 |aA
 |cE
 |nC
 |eC
 |fZ
 |j5
 |fc
 |lH
 |gX
 |ff
 |kQ
 |sQ
 |j6
 |nD
 |jB
 |xr
 |qZ
 |sR
 |xu
 |xv
 |iI
 |xw
 |xx
 |gv
 |q8
 |uB
def Tc.no:Tc->Nat
 | .aA=>0
 | .cE=>1
 | .nC=>2
 | .eC=>3
 | .fZ=>4
 | .j5=>5
 | .fc=>6
 | .lH=>7
 | .gX=>8
 | .ff=>9
 | .kQ=>10
 | .sQ=>11
 | .j6=>12
 | .nD=>13
 | .jB=>14
 | .xr=>15
 | .qZ=>16
 | .sR=>17
 | .xu=>18
 | .xv=>19
 | .iI=>20
 | .xw=>21
 | .xx=>22
 | .gv=>23
 | .q8=>24
 | .uB=>25
def Tc.of:Nat->Tc
 |0=> .aA
 |1=> .cE
 |2=> .nC
 |3=> .eC
 |4=> .fZ
 |5=> .j5
 |6=> .fc
 |7=> .lH
 |8=> .gX
 |9=> .ff
 |10=> .kQ
 |11=> .sQ
 |12=> .j6
 |13=> .nD
 |14=> .jB
 |15=> .xr
 |16=> .qZ
 |17=> .sR
 |18=> .xu
 |19=> .xv
 |20=> .iI
 |21=> .xw
 |22=> .xx
 |23=> .gv
 |24=> .q8
 |_=> .uB
theorem Tc.Mn (a:Tc):Tc.of a.no=a:=by cases a<;>rfl
instance:DecidableEq Tc:=fun a b=>match Nat.decEq a.no b.no with
 |isTrue h=>isTrue (by rw [<-Tc.Mn a,h,Tc.Mn])
 |isFalse h=>isFalse fun e=>h (by rw [e])
abbrev Tc.dn:Tc->Type
 | .aA=>Int
 | .cE=>UInt8
 | .nC=>cY
 | .eC=>Bool
 | .fZ=>ByteArray
 | .j5=>aO
 | .fc=>Piece
 | .lH=>Shelf
 | .gX=>az
 | .ff=>ah
 | .kQ=>cx
 | .sQ=>Act
 | .j6=>(List Int)
 | .nD=>(List UInt8)
 | .jB=>(List ByteArray)
 | .xr=>(List Bool)
 | .qZ=>(List Piece)
 | .sR=>(List Shelf)
 | .xu=>(List az)
 | .xv=>(List Act)
 | .iI=>(List (List UInt8))
 | .xw=>(List (List ByteArray))
 | .xx=>(List (List (List UInt8)))
 | .gv=>(Row UInt8)
 | .q8=>(Row Piece)
 | .uB=>(Ptr Piece)
def Bd:LR aO:= .via (fun x=>(x.nodes,x.data,x.more,x.bU)) (.prod LR.i64 (.prod LR.i64 (.prod LR.i64 LR.i64)))
def q9:LR Piece:= .via (fun x=>(x.version,x.data)) (.prod LR.i64 LR.str)
def xy:LR Shelf:= .via (fun x=>(x.up,x.pieces)) (.prod LR.j4 (LR.list q9))
def F0:LR az:= .via (fun x=>(x.up,x.pieces)) (.prod LR.j4 (LR.row q9))
def Be:LR ah:= .via (fun x=>(x.layout,x.size,x.versions,x.nodes)) (.prod Bd (.prod LR.i64 (.prod (LR.list LR.i64) (LR.list xy))))
def Mo:LR cx:= .via (fun x=>(x.vol,x.no,x.nodes)) (.prod Be (.prod LR.i64 (LR.list LR.i64)))
def F1:LR Act:= .via (fun x=>(x.kind,x.n,x.data)) (.prod LR.i64 (.prod LR.i64 LR.str))
def Tc.lr:(t:Tc)->LR t.dn
 | .aA=>LR.i64
 | .cE=>LR.u8
 | .nC=>LR.u64
 | .eC=>LR.j4
 | .fZ=>LR.str
 | .j5=>Bd
 | .fc=>q9
 | .lH=>xy
 | .gX=>F0
 | .ff=>Be
 | .kQ=>Mo
 | .sQ=>F1
 | .j6=>(LR.list LR.i64)
 | .nD=>(LR.list LR.u8)
 | .jB=>(LR.list LR.str)
 | .xr=>(LR.list LR.j4)
 | .qZ=>(LR.list q9)
 | .sR=>(LR.list xy)
 | .xu=>(LR.list F0)
 | .xv=>(LR.list F1)
 | .iI=>(LR.list (LR.list LR.u8))
 | .xw=>(LR.list (LR.list LR.str))
 | .xx=>(LR.list (LR.list (LR.list LR.u8)))
 | .gv=>(LR.row LR.u8)
 | .q8=>(LR.row q9)
 | .uB=>(LR.ptr q9)
abbrev tE:TE Tc Tc.dn:=TE.pZ Tc.lr
def Mp:LY tE Bd:= .via (fun y=>⟨y.1,y.2.1,y.2.2.1,y.2.2.2⟩) (fun _=>rfl) (.prod LY.i64 (.prod LY.i64 (.prod LY.i64 LY.i64)))
def uC:LY tE q9:= .via (fun y=>⟨y.1,y.2⟩) (fun _=>rfl) (.prod LY.i64 LY.str)
def F2:LY tE xy:= .via (fun y=>⟨y.1,y.2⟩) (fun _=>rfl) (.prod LY.j4 (LY.list (t:=Tc.fc) uC rfl fun _=>rfl))
def Mq:LY tE F0:= .via (fun y=>⟨y.1,y.2⟩) (fun _=>rfl) (.prod LY.j4 (LY.row (t:=Tc.fc) uC rfl fun _=>rfl))
def Mr:LY tE Be:= .via (fun y=>⟨y.1,y.2.1,y.2.2.1,y.2.2.2⟩) (fun _=>rfl) (.prod Mp (.prod LY.i64 (.prod (LY.list (t:=Tc.aA) LY.i64 rfl fun _=>rfl) (LY.list (t:=Tc.lH) F2 rfl fun _=>rfl))))
def Y0:LY tE Mo:= .via (fun y=>⟨y.1,y.2.1,y.2.2⟩) (fun _=>rfl) (.prod Mr (.prod LY.i64 (LY.list (t:=Tc.aA) LY.i64 rfl fun _=>rfl)))
def Ms:LY tE F1:= .via (fun y=>⟨y.1,y.2.1,y.2.2⟩) (fun _=>rfl) (.prod LY.i64 (.prod LY.i64 LY.str))
def Tc.ly:(t:Tc)->LY tE t.lr
 | .aA=>LY.i64
 | .cE=>LY.u8
 | .nC=>LY.u64
 | .eC=>LY.j4
 | .fZ=>LY.str
 | .j5=>Mp
 | .fc=>uC
 | .lH=>F2
 | .gX=>Mq
 | .ff=>Mr
 | .kQ=>Y0
 | .sQ=>Ms
 | .j6=>(LY.list (t:=Tc.aA) LY.i64 rfl fun _=>rfl)
 | .nD=>(LY.list (t:=Tc.cE) LY.u8 rfl fun _=>rfl)
 | .jB=>(LY.list (t:=Tc.fZ) LY.str rfl fun _=>rfl)
 | .xr=>(LY.list (t:=Tc.eC) LY.j4 rfl fun _=>rfl)
 | .qZ=>(LY.list (t:=Tc.fc) uC rfl fun _=>rfl)
 | .sR=>(LY.list (t:=Tc.lH) F2 rfl fun _=>rfl)
 | .xu=>(LY.list (t:=Tc.gX) Mq rfl fun _=>rfl)
 | .xv=>(LY.list (t:=Tc.sQ) Ms rfl fun _=>rfl)
 | .iI=>(LY.list (t:=Tc.nD) (LY.list (t:=Tc.cE) LY.u8 rfl fun _=>rfl) rfl fun _=>rfl)
 | .xw=>(LY.list (t:=Tc.jB) (LY.list (t:=Tc.fZ) LY.str rfl fun _=>rfl) rfl fun _=>rfl)
 | .xx=>(LY.list (t:=Tc.iI) (LY.list (t:=Tc.nD) (LY.list (t:=Tc.cE) LY.u8 rfl fun _=>rfl) rfl fun _=>rfl) rfl fun _=>rfl)
 | .gv=>(LY.row (t:=Tc.cE) LY.u8 rfl fun _=>rfl)
 | .q8=>(LY.row (t:=Tc.fc) uC rfl fun _=>rfl)
 | .uB=>(LY.ptr uC)
def Tc.ag:Tc->Bool
 | .j5| .fc| .lH| .gX| .ff| .kQ| .sQ=>true
 |_=>false
def Y3 (sz bytes:Nat):Option Tc:=bif Nat.beq sz 1&&Nat.beq bytes 8 then some .aA else bif Nat.beq sz 1&&Nat.beq bytes 1 then some .cE else bif Nat.beq sz 1&&Nat.beq bytes 1001 then some .eC else bif Nat.beq sz 1&&Nat.beq bytes 16 then some .fZ else bif Nat.beq sz 2&&Nat.beq bytes 32 then some .gX else bif Nat.beq sz 2&&Nat.beq bytes 24 then some .fc else bif Nat.beq sz 2&&Nat.beq bytes 1032 then some .gX else none
def Y4:Tc->Bool
 | .gX| .q8=>true
 |_=>false
def F4:FZ Tc Tc.dn:=fun t ta=>match t,ta with
 | .q8, .fc=>fun A=>some ⟨.qZ,fun x=>x.get A,fun x=>x.ok A/\x.kd≠ .nil⟩
 | .gX, .fc=>fun A=>some ⟨.lH,fun x=>⟨x.up,x.pieces.get A⟩,fun x=>(True/\(x.pieces.ok A/\x.pieces.kd≠ .nil))⟩
 |_,_=>fun _=>none
theorem Y5 (t ta:Tc) (A:List (Nat×List ta.dn)) (t':Tc) (f:t.dn->t'.dn) (O:t.dn->Prop) (h:F4 t ta A=some ⟨t',f,O⟩):gW tE ta A t.lr t'.lr f O:=by
 unfold F4 at h
 split at h
 ·cases h;exact gW.row rfl fun _=>rfl
 ·cases h;exact gW.via (gW.prod (gW.id LY.j4 rfl) (gW.row (ta:=Tc.fc) rfl fun _=>rfl)) (fun _=>rfl)
 ·simp at h
def F5 (t t':Tc):Option (t.dn->t'.dn):=match t,t' with
 | .qZ, .q8=>some fun x=>Row.fix _ x
 | .lH, .gX=>some fun x=>⟨x.up,Row.fix _ x.pieces⟩
 |_,_=>none
theorem Y6 (ρ:Nat->AV) (t t':Tc) (f:t.dn->t'.dn) (h:F5 t t'=some f):t'.lr.sz=t.lr.sz/\∀x,t'.lr.ea ρ (f x)=t.lr.ea ρ x:=by
 unfold F5 at h
 split at h
 ·cases h;exact ⟨rfl,fun _=>rfl⟩
 ·cases h;exact ⟨rfl,fun _=>rfl⟩
 ·simp at h
def tD:TD Tc Tc.dn:=TD.pZ Tc.ly Tc.ag Y3 true (some .fc) Y4 F4 F5
theorem cQ:bE tD:=TD.Mm Y5 Y6
def Y7 (sz bytes:Nat):Option Tc:=bif Nat.beq sz 1&&Nat.beq bytes 1 then some .cE else bif Nat.beq sz 1&&Nat.beq bytes 8 then some .aA else bif Nat.beq sz 1&&Nat.beq bytes 1001 then some .eC else bif Nat.beq sz 1&&Nat.beq bytes 24 then some .gv else bif Nat.beq sz 1&&Nat.beq bytes 16 then some .fZ else none
def Y8:Tc->Bool
 | .gv=>true
 |_=>false
def Ga:FZ Tc Tc.dn:=fun t ta=>match t,ta with
 | .gv, .cE=>fun A=>some ⟨.nD,fun x=>x.get A,fun x=>x.ok A/\x.kd≠ .nil⟩
 |_,_=>fun _=>none
theorem Y9 (t ta:Tc) (A:List (Nat×List ta.dn)) (t':Tc) (f:t.dn->t'.dn) (O:t.dn->Prop) (h:Ga t ta A=some ⟨t',f,O⟩):gW tE ta A t.lr t'.lr f O:=by
 unfold Ga at h
 split at h
 ·cases h;exact gW.row rfl fun _=>rfl
 ·simp at h
def Gb (t t':Tc):Option (t.dn->t'.dn):=match t,t' with
 | .nD, .gv=>some fun x=>Row.fix _ x
 |_,_=>none
theorem Za (ρ:Nat->AV) (t t':Tc) (f:t.dn->t'.dn) (h:Gb t t'=some f):t'.lr.sz=t.lr.sz/\∀x,t'.lr.ea ρ (f x)=t.lr.ea ρ x:=by
 unfold Gb at h
 split at h
 ·cases h;exact ⟨rfl,fun _=>rfl⟩
 ·simp at h
def tB:TD Tc Tc.dn:=TD.pZ Tc.ly Tc.ag Y7 false (some .cE) Y8 Ga Gb
theorem gE:bE tB:=TD.Mm Y9 Za
theorem sS:eU Try.prog 3 Int:=V4 Try.underlying3 (by kernel_rfl)
theorem Zb:eU Try.prog 23 aO:=eU.via (zF Try.underlying23 rfl (by kernel_rfl) (qI sS rfl (qI sS rfl (qI sS rfl (zD sS rfl))))) _ (fun p=>⟨p.1,p.2.1,p.2.2.1,p.2.2.2⟩) (fun _=>rfl)
theorem Zc:eU Try.prog 24 (List Int):=D6 Try.underlying24 (by kernel_rfl) sS (by decide)
theorem Zd:eU Try.prog 4 Bool:=V5 Try.underlying4 (by kernel_rfl)
theorem Ze:eU Try.prog 9 ByteArray:=V6 Try.underlying9 (by kernel_rfl)
theorem Zf:eU Try.prog 61 Piece:=eU.via (zF Try.underlying61 rfl (by kernel_rfl) (qI sS rfl (zD Ze rfl))) _ (fun p=>⟨p.1,p.2⟩) (fun _=>rfl)
theorem Zg:eU Try.prog 41 (List Piece):=D6 Try.underlying41 (by kernel_rfl) Zf (by decide)
theorem Zh:eU Try.prog 43 Shelf:=eU.via (zF Try.underlying43 rfl (by kernel_rfl) (qI Zd rfl (zD Zg rfl))) _ (fun p=>⟨p.1,p.2⟩) (fun _=>rfl)
theorem Zi:eU Try.prog 25 (List Shelf):=D6 Try.underlying25 (by kernel_rfl) Zh (by decide)
theorem Zj:eU Try.prog 27 ah:=eU.via (zF Try.underlying27 rfl (by kernel_rfl) (qI Zb rfl (qI sS rfl (qI Zc rfl (zD Zi rfl))))) _ (fun p=>⟨p.1,p.2.1,p.2.2.1,p.2.2.2⟩) (fun _=>rfl)
def bS (M:List (List UInt8)):Mx:=fun i j=>gd 0 (gd [] M i) j
def fg (n m:Nat) (M:List (List UInt8)):Prop:=M.length=n/\∀r,r∈M->r.length=m
theorem fg.row {n m:Nat} {M:List (List UInt8)} (h:fg n m M) {i:Nat} (hi:i<n):(gd [] M i).length=m/\gd [] M i∈M:=by
 have hm:=afd (jW (d:=([]:List UInt8)) (xs:=M) (i:=i) (by rw [h.1];exact hi))
 exact ⟨h.2 _ hm,hm⟩
theorem Zk {f:UInt8->UInt8} (h0:f 0=0) (r:List UInt8) (j:Nat):gd 0 (r.map f) j=f (gd 0 r j):=by
 unfold gd;rw [aeY]
 cases r[j]? with
 |none=>exact h0.symm
 |some x=>rfl
def uD (r:List UInt8) (f:UInt8):List UInt8:=r.map fun x=>aH x f
def nE (r q:List UInt8) (f:UInt8):List UInt8:=List.zipWith (fun x y=>x^^^aH f y) r q
theorem Zl {r q:List UInt8} (h:r.length=q.length) (f:UInt8) (j:Nat):gd 0 (nE r q f) j=gd 0 r j^^^aH f (gd 0 q j):=by
 unfold nE gd
 rw [List.getElem?_zipWith]
 rcases afq j r.length with hj|hj
 ·rw [aeL hj,aeL (show j<q.length by omega)];rfl
 ·rw [afM hj,afM (by omega)]
  show (0:UInt8)=0^^^aH f 0
  rw [fS];rfl
theorem Mu {r q:List UInt8} (h:r.length=q.length) (f:UInt8):(nE r q f).length=r.length:=by
 unfold nE;rw [List.length_zipWith];omega
def mE (M:List (List UInt8)) (d i0:Nat):List (List UInt8):=(M.set d (gd [] M i0)).set i0 (gd [] M d)
theorem uE {α:Type} {z:α} {l:List α} {j:Nat} {x:α} (hi:i<l.length):gd z (l.set i x) j=if i=j then x else gd z l j:=by
 unfold gd
 by_cases h:i=j
 ·subst h;rw [List.getElem?_set_self hi,aeG rfl];rfl
 ·rw [agE h,aeE h]
theorem Gc (h:fg n m M) (hd:d<n) (hi:i0<n) (i:Nat):gd [] (mE M d i0) i=if i=d then gd [] M i0 else if i=i0 then gd [] M d else gd [] M i:=by
 have hl:=h.1
 unfold mE
 rw [uE (by rw [ae4];omega),uE (by omega)]
 by_cases h1:i0=i
 ·subst h1
  rw [aeG rfl]
  by_cases h2:i0=d
  ·subst h2;rw [aeG rfl]
  ·rw [aeE h2,aeG rfl]
 ·rw [aeE h1]
  by_cases h2:d=i
  ·subst h2;rw [aeG rfl,aeG rfl]
  ·rw [aeE h2,aeE (fun hh=>h2 hh.symm),aeE (fun hh=>h1 hh.symm)]
theorem Mv (h:fg n m M) (hd:d<n) (hi:i0<n):fg n m (mE M d i0):=by
 refine ⟨by unfold mE;simp;exact h.1,fun r hr=> ?_⟩
 unfold mE at hr
 rcases agF hr with hr|rfl
 ·rcases agF hr with hr|rfl
  ·exact h.2 r hr
  ·exact (h.row hi).1
 ·exact (h.row hd).1
def re (M:List (List UInt8)) (c d:Nat):List (List UInt8):=M.set d (uD (gd [] M d) (dN (gd 0 (gd [] M d) c)))
theorem Mw (h:fg n m M) (hd:d<n):fg n m (re M c d):=by
 refine ⟨by unfold re;simp;exact h.1,fun r hr=> ?_⟩
 rcases agF hr with hr|rfl
 ·exact h.2 r hr
 ·unfold uD;rw [aeS];exact (h.row hd).1
def oB (M:List (List UInt8)) (c d:Nat):List (List UInt8):=(List.range M.length).map fun i=>if i=d then gd [] M d else nE (gd [] M i) (gd [] M d) (gd 0 (gd [] M i) c)
theorem Zm (h:fg n m M) (hi:i<n):gd [] (oB M c d) i=if i=d then gd [] M d else nE (gd [] M i) (gd [] M d) (gd 0 (gd [] M i) c):=by
 unfold oB
 show ((List.map _ _)[i]?).getD []=_
 rw [aeY,afW (by rw [h.1];exact hi)];rfl
theorem Zn (h:fg n m M) (hd:d<n):fg n m (oB M c d):=by
 refine ⟨by unfold oB;simp;exact h.1,fun r hr=> ?_⟩
 unfold oB at hr
 obtain ⟨i,hi,rfl⟩:=ae2.1 hr
 have aY:i<n:=by rw [<-h.1];simpa using hi
 split
 ·exact (h.row hd).1
 ·rw [Mu (by rw [(h.row aY).1,(h.row hd).1])];exact (h.row aY).1
def p8 (M:List (List UInt8)) (c d i0:Nat):List (List UInt8):=oB (re (mE M d i0) c d) c d
theorem Zo (h:fg n m M) (hd:d<n) (hi:i0<n):fg n m (p8 M c d i0):=Zn (Mw (Mv h hd hi) hd) hd
theorem My (h:fg n m M) (hd:d<n) (hi:i0<n) (i j:Nat):bS (mE M d i0) i j=eM (bS M) d i0 i j:=by
 unfold bS eM
 rw [Gc h hd hi]
 by_cases h1:i=d
 ·rw [aeG h1,aeG h1]
 ·rw [aeE h1,aeE h1]
  by_cases h2:i=i0
  ·rw [aeG h2,aeG h2]
  ·rw [aeE h2,aeE h2]
theorem Zp (h:fg n m M) (hd:d<n) (i j:Nat):bS (re M c d) i j=im (bS M) d (dN (bS M d c)) i j:=by
 unfold bS re im
 rw [uE (by rw [h.1];exact hd)]
 by_cases h1:d=i
 ·subst h1;rw [aeG rfl,aeG rfl];unfold uD;exact Zk (f:=fun x=>aH x (dN (gd 0 (gd [] M d) c))) (qD _) _ _
 ·rw [aeE h1,aeE (fun hh=>h1 hh.symm)]
theorem Zq (h:fg n m M) (hd:d<n) (hi:i<n) (j:Nat):bS (oB M c d) i j=elimM (fun i=>bS M i c) d (bS M) i j:=by
 unfold bS elimM
 rw [Zm h hi]
 by_cases h1:i=d
 ·rw [aeG h1,aeG h1]
 ·rw [aeE h1,aeE h1,Zl (by rw [(h.row hi).1,(h.row hd).1])]
theorem Zr (h:fg n m M) (hd:d<n) (h0:i0<n) (hi:i<n) (j:Nat):bS (p8 M c d i0) i j=px (bS M) c d i0 i j:=by
 have hs:=Mv h hd h0
 have ho:=Mw (c:=c) hs hd
 have e1:∀i j,bS (re (mE M d i0) c d) i j=im (eM (bS M) d i0) d (dN (eM (bS M) d i0 d c)) i j:=fun i j=>by
  rw [Zp hs hd,My h hd h0]
  unfold im
  simp only [My h hd h0]
 unfold p8 px
 rw [Zq ho hd hi]
 unfold elimM
 simp only [e1]
def findR (M:List (List UInt8)) (c d:Nat):Nat->Option Nat
 |0=>none
 |f+1=>if gd 0 (gd [] M d) c≠0 then some d else findR M c (d+1) f
theorem Mz {M:List (List UInt8)} {c:Nat}:∀{f d i:Nat},findR M c d f=some i->d<=i/\i<d+f/\bS M i c≠0
 |0,d,i,h=>by simp [findR] at h
 |f+1,d,i,h=>by
  unfold findR at h
  split at h
  ·rename_i h1;simp at h;subst h;exact ⟨aeO _,by omega,h1⟩
  ·have:=Mz h;exact ⟨by omega,by omega,this.2.2⟩
theorem MA {M:List (List UInt8)} {c:Nat}:∀{f d:Nat},findR M c d f=none->∀i,d<=i->i<d+f->bS M i c=0
 |0,d,_,i,h1,h2=>by omega
 |f+1,d,h,i,h1,h2=>by
  unfold findR at h
  split at h
  ·simp at h
  ·rename_i hz
   by_cases hi:i=d
   ·subst hi;exact af2.1 hz
   ·exact MA h i (by omega) (by omega)
def fu:Nat->List (List UInt8)->Nat->Nat->List (List UInt8)×Nat
 |0,M,_,d=>(M,d)
 |f+1,M,c,d=>match findR M c d (M.length - d) with
  |none=>fu f M (c+1) d
  |some i0=>if d+1=M.length then (p8 M c d i0,d+1) else fu f (p8 M c d i0) (c+1) (d+1)
theorem Bf {n m:Nat} {A:Mx}:∀(f:Nat) (M:List (List UInt8)) (c d:Nat) (p:Nat->Nat),fg n m M->RE n A (bS M)->n9 n (bS M) c d p->d<n->
  fg n m (fu f M c d).1/\RE n A (bS (fu f M c d).1)/\∃c' p',c'<=c+f/\n9 n (bS (fu f M c d).1) c' (fu f M c d).2 p'/\(c'=c+f\/(fu f M c d).2=n)
 |0,M,c,d,p,h1,h2,h3,_=>⟨h1,h2,c,p,aeO _,h3, .inl rfl⟩
 |f+1,M,c,d,p,h1,h2,h3,hd=>by
  have hl:=h1.1
  unfold fu
  cases hf:findR M c d (M.length - d) with
  |none=>
   have hz:=MA hf
   simp only
   obtain ⟨k1,k2,c',p',k3,k4,k5⟩:=Bf f M (c+1) d p h1 h2 (Vy h3 fun i hi c9=>hz i hi (by omega)) hd
   exact ⟨k1,k2,c',p',by omega,k4,by omega⟩
  |some i0=>
   obtain ⟨q1,q2,q3⟩:=Mz hf
   have ma:i0<n:=by omega
   have e:∀i j,i<n->bS (p8 M c d i0) i j=px (bS M) c d i0 i j:=fun i j hi=>Zr h1 hd ma hi j
   have r1:=Zo (c:=c) h1 hd ma
   have r2:=(Vz (c:=c) h2 hd ma).congr e
   have s3:=VA h3 q1 ma q3
   have r3:n9 n (bS (p8 M c d i0)) (c+1) (d+1) fun t=>if t<d then p t else c:=
    ⟨s3.dn,s3.pc,s3.up,fun t i ht hi=>by rw [e i _ hi];exact s3.one t i ht hi,fun i j v7 hi hj=>by rw [e i j hi];exact s3.zero i j v7 hi hj⟩
   simp only
   by_cases hn:d+1=M.length
   ·rw [aeG hn]
    exact ⟨r1,r2,c+1,_,by omega,r3, .inr (by omega)⟩
   ·rw [aeE hn]
    obtain ⟨k1,k2,c',p',k3,k4,k5⟩:=Bf f _ (c+1) (d+1) _ r1 r2 r3 (by omega)
    exact ⟨k1,k2,c',p',by omega,k4,by omega⟩
def gY (A:List (List UInt8)) (n:Nat):List (List UInt8):=(List.range n).map fun i=>gd [] A i++(List.range n).map fun k=>if i=k then 1 else 0
theorem Zs (A:List (List UInt8)) (hi:i<n):gd [] (gY A n) i=gd [] A i++(List.range n).map fun k=>if i=k then (1:UInt8) else 0:=by
 unfold gY
 show ((List.map _ _)[i]?).getD []=_
 rw [aeY,afW hi];rfl
theorem MB (h:fg n n A):fg n (n+n) (gY A n):=by
 refine ⟨by simp [gY],fun r hr=> ?_⟩
 unfold gY at hr
 obtain ⟨i,hi,rfl⟩:=ae2.1 hr
 rw [afK,(h.row (by simpa using hi)).1];simp
theorem MC (h:fg n n A) (hi:i<n) (j:Nat):bS (gY A n) i j=oa n (bS A) i j:=by
 have hl:=(h.row hi).1
 unfold bS oa
 rw [Zs A hi]
 by_cases hj:j<n
 ·rw [aeG hj]
  show gd 0 (gd [] A i++_) j=gd 0 (gd [] A i) j
  generalize gd [] A i=r at hl ⊢
  unfold gd;rw [afk (by omega)]
 ·rw [aeE hj]
  generalize gd [] A i=r at hl ⊢
  unfold gd dO
  rw [afr (by omega),aeY,hl]
  by_cases hk:j - n<n
  ·rw [afW hk];rfl
  ·rw [afM (by simp;omega),aeE (by omega)];rfl
theorem Zt (h:fg n n A) (hn:0<n):
  ((fu n (gY A n) 0 0).2=n->(∀i j,i<n->j<n->mm n (fun i j=>bS (fu n (gY A n) 0 0).1 i (n+j)) (bS A) i j=dO i j)/\∀i j,i<n->j<n->mm n (bS A) (fun i j=>bS (fu n (gY A n) 0 0).1 i (n+j)) i j=dO i j)/\
  qF n n (bS A) (fu n (gY A n) 0 0).2/\fg n (n+n) (fu n (gY A n) 0 0).1:=by
 have Zu:RE n (oa n (bS A)) (bS (gY A n)):=(RE.refl n _).congr fun i j hi=>MC h hi j
 obtain ⟨k1,k2,c',p',k3,k4,k5⟩:=Bf n (gY A n) 0 0 _ (MB h) Zu (JJ n _) hn
 refine ⟨fun hr=> ?_, ?_,k1⟩
 ·rw [hr] at k4
  exact VF k2 k4 (by omega)
 ·have hk:=VC (m:=n) k2 k4 (by omega) (by omega)
  have e:∀i j,i<n->j<n->bS A i j=oa n (bS A) i j:=fun i j _ hj=>(aeG hj).symm
  exact ⟨hk.DX.congr e,fun k ht=>hk.min k (ht.congr fun i j hi hj=>(e i j hi hj).symm)⟩
open Go.RowKit
theorem Zv {α:Type} {d:α} {l:List α} {P:α->Prop} (h:∀j,j<l.length->P (gd d l j)):∀x,x∈l->P x:=fun x hx=>by
 obtain ⟨i,hi,rfl⟩:=afJ hx
 have:=h i hi
 unfold gd at this
 rw [aeL hi] at this
 exact this
theorem rf {i n:Int} (h:i<n):(n - (i+1)).toNat<(n - i).toNat:=by omega
def aO.e (l:aO):Int:=if ¬(1<=l.nodes/\l.nodes<=12)\/¬(1<=l.data/\l.data<=8)\/¬(1<=l.more/\l.more<=6) then 3 else if l.nodes<l.data+l.more then 8 else if ¬(0<=l.bU/\l.bU<=l.nodes - 1) then 3 else 0
structure aO.K (l:aO):Prop where
 n:1<=l.nodes/\l.nodes<=12
 d:1<=l.data/\l.data<=8
 m:1<=l.more/\l.more<=6
 s:l.data+l.more<=l.nodes
 t:0<=l.bU/\l.bU<l.nodes
theorem aO.p9 {l:aO}:l.e=0↔l.K:=by
 unfold aO.e
 constructor
 ·intro h
  split at h;simp at h
  split at h;simp at h
  split at h;simp at h
  exact ⟨by omega,by omega,by omega,by omega,by omega⟩
 ·intro ⟨h1,h2,h3,h4,h5⟩
  rw [aeE (by omega),aeE (by omega),aeE (by omega)]
def aO.node (l:aO) (s p:Int):Int:=(l.bU+s+p)%l.nodes
def aO.pc (l:aO) (s n:Int):Int:=(n - l.bU - s)%l.nodes
def aO.has (l:aO) (s n:Int):Bool:=decide (l.pc s n<l.data+l.more)
theorem aO.K.node {l:aO} (h:l.K) (s p:Int):0<=l.node s p/\l.node s p<l.nodes:=by
 have:=h.n
 exact ⟨Int.emod_nonneg _ (by omega),Int.emod_lt_of_pos _ (by omega)⟩
theorem aO.K.pc {l:aO} (h:l.K) (s n:Int):0<=l.pc s n/\l.pc s n<l.nodes:=by
 have:=h.n
 exact ⟨Int.emod_nonneg _ (by omega),Int.emod_lt_of_pos _ (by omega)⟩
theorem MD {a n:Int} (hn:0<n):(a.tmod n<0->a.tmod n+n=a%n)/\(¬a.tmod n<0->a.tmod n=a%n):=by
 have h:=Int.tmod_add_mul_tdiv a n
 have h1:=Int.tmod_lt_of_pos a hn
 have h2:=Int.tmod_lt_of_pos (-a) hn
 rw [Int.neg_tmod] at h2
 constructor
 ·intro hl
  have e:a=(a.tmod n+n)+n*(a.tdiv n - 1):=by rw [Int.mul_sub];omega
  rw [e,agM, <-e]
  exact (Int.emod_eq_of_lt (by omega) (by omega)).symm
 ·intro hl
  have e:a=a.tmod n+n*a.tdiv n:=by omega
  conv=>rhs;rw [e]
  rw [agM]
  exact (Int.emod_eq_of_lt (by omega) (by omega)).symm
theorem ME {a n:Int} (ha:0<=a) (hn:0<n):a.tmod n=a%n:=(MD hn).2 (by have:=Int.tmod_nonneg n ha;omega)
theorem sT {l:aO} (h:l.K) {s p n:Int} (hp:0<=p/\p<l.nodes) (hn:0<=n/\n<l.nodes):l.node s p=n↔l.pc s n=p:=by
 have h0:=h.n
 unfold aO.node aO.pc
 constructor
 ·intro e
  rw [<-e]
  have:((l.bU+s+p)%l.nodes - l.bU - s)=p+l.nodes*(-((l.bU+s+p) / l.nodes)):=by
   have:=Int.emod_add_mul_ediv (l.bU+s+p) l.nodes
   rw [Int.mul_neg];omega
  rw [this,agM]
  exact Int.emod_eq_of_lt hp.1 hp.2
 ·intro e
  rw [<-e]
  have:(l.bU+s+(n - l.bU - s)%l.nodes)=n+l.nodes*(-((n - l.bU - s) / l.nodes)):=by
   have:=Int.emod_add_mul_ediv (n - l.bU - s) l.nodes
   rw [Int.mul_neg];omega
  rw [this,agM]
  exact Int.emod_eq_of_lt hn.1 hn.2
def aO.piece (l:aO) (s n:Int):Int×Bool×Int:=
 if ¬l.e=0 then (0,false,l.e) else if ¬(0<=s/\s<=63/\0<=n/\n<l.nodes) then (0,false,3) else if l.data+l.more<=l.pc s n then (0,false,0) else (l.pc s n,true,0)
theorem aO.K.piece {l:aO} (h:l.K) {s n:Int} (hs:0<=s/\s<=63) (hn:0<=n/\n<l.nodes):l.piece s n=(if l.has s n=true then l.pc s n else 0,l.has s n,0):=by
 unfold aO.piece aO.has
 rw [aeE (by rw [aO.p9.2 h];simp),aeE (by omega)]
 by_cases e:l.data+l.more<=l.pc s n
 ·rw [aeG e,agu (by omega)];simp
 ·rw [aeE e,af3 (by omega)];simp
theorem Zw {l:aO} {s n:Int} (h:¬l.e=0):l.piece s n=(0,false,l.e):=by unfold aO.piece;rw [aeG h]
theorem Zx {l:aO} {s n:Int} (h:l.e=0) (h2:s<0\/63<s\/n<0\/l.nodes<=n):l.piece s n=(0,false,3):=by unfold aO.piece;rw [aeE (by simp [h]),aeG (by omega)]
open Go.RowKit
def gZ {α:Type} (p:α->Bool):List α->Int->Int
 |[],_=> -1
 |a::r,k=>if p a=true then k else gZ p r (k+1)
theorem MF {α:Type} {p:α->Bool}:∀{l:List α} {k:Int},0<=k->(gZ p l k<0↔∀a,a∈l->p a=false)
 |[],k,h=>by simp [gZ]
 |a::r,k,h=>by
  unfold gZ
  by_cases hp:p a=true
  ·rw [aeG hp]
   exact ⟨fun hh=>by omega,fun hh=>by have:=hh a (afo ..);rw [hp] at this;simp at this⟩
  ·rw [aeE hp,MF (by omega)]
   exact ⟨fun hh b hb=>by rcases aeQ.1 hb with e|e;rw [e];simpa using hp;exact hh b e,fun hh b hb=>hh b (afi _ hb)⟩
theorem MG {α:Type} {p:α->Bool} {l:List α}:decide (0<=gZ p l 0)=l.any p:=by
 have h:=MF (p:=p) (l:=l) (k:=0) (afO _)
 by_cases hh:gZ p l 0<0
 ·rw [agu (by omega)]
  have:=h.1 hh
  symm
  rw [List.any_eq_false]
  intro x hx;rw [this x hx];simp
 ·rw [af3 (by omega)]
  symm
  rw [afj]
  exact af7 fun hn=>hh (h.2 fun a ha=>by
   cases hq:p a with
   |false=>rfl
   |true=>exact absurd ⟨a,ha,hq⟩ hn)
structure ga {α:Type} (p:α->Bool) (xs:List α) (k:Int):Prop where
 lo:0<=k
 hi:k<=xs.length
 rh:xs.length<=1000000
 eq:gZ p (xs.drop k.toNat) k=gZ p xs 0
theorem ga.start {α:Type} {p:α->Bool} {xs:List α} (h:xs.length<=1000000):ga p xs 0:=⟨by omega,by omega,h,rfl⟩
theorem ga.no {α:Type} {p:α->Bool} {d:α} {xs:List α} {k:Int} (h:ga p xs k) (hk:k<xs.length) (hp:¬p (gd d xs k.toNat)=true):ga p xs (k+1):=by
 have h0:=h.lo
 refine ⟨by omega,by omega,h.rh, ?_⟩
 rw [<-h.eq,qJ d (xs:=xs) (i:=k.toNat) (by omega),gZ,aeE hp,show (k+1).toNat=k.toNat+1 by omega]
theorem ga.yes {α:Type} {p:α->Bool} {d:α} {xs:List α} {k:Int} (h:ga p xs k) (hk:k<xs.length) (hp:p (gd d xs k.toNat)=true):k=gZ p xs 0:=by
 have h0:=h.lo
 rw [<-h.eq,qJ d (xs:=xs) (i:=k.toNat) (by omega),gZ,aeG hp]
theorem ga.fin {α:Type} {p:α->Bool} {xs:List α} {k:Int} (h:ga p xs k) (hk:xs.length<=k): -1=gZ p xs 0:=by
 rw [<-h.eq,agB (by omega)];rfl
abbrev L0:aO:=⟨0,0,0,0⟩
abbrev ah.at_ (v:ah) (n s:Int):Piece:=gd ⟨0,ByteArray.empty⟩ (gd ⟨false,[]⟩ v.nodes n.toNat).pieces s.toNat
def gw (v:ah) (n s:Int):Int:=
 if (v.layout.has s n=false/\¬((v.at_ n s).version=0/\(v.at_ n s).data=ByteArray.empty))\/(v.layout.has s n=true/\¬((v.at_ n s).data.size:Int)=v.size) then 1 else if ¬(0<=(v.at_ n s).version/\(v.at_ n s).version<=gd 0 v.versions s.toNat) then 3 else 0
def lI (f:Int->Int):Nat->Int->Int
 |0,_=>0
 |k+1,i=>if f i=0 then lI f k (i+1) else f i
structure lJ (f:Int->Int) (n i:Int):Prop where
 lo:0<=i
 hi:i<=n
 eq:lI f (n - i).toNat i=lI f n.toNat 0
theorem lJ.start {f:Int->Int} {n:Int} (h:0<=n):lJ f n 0:=⟨by omega,h,by rw [Int.sub_zero]⟩
theorem lJ.step {f:Int->Int} {n i:Int} (h:lJ f n i) (hi:i<n) (e:f i=0):lJ f n (i+1):=⟨by have:=h.lo;omega,by omega,by
 rw [<-h.eq,show (n - i).toNat=(n - (i+1)).toNat+1 by omega,lI,aeG e]⟩
theorem lJ.bad {f:Int->Int} {n i:Int} (h:lJ f n i) (hi:i<n) (e:¬f i=0):f i=lI f n.toNat 0:=by
 rw [<-h.eq,show (n - i).toNat=(n - (i+1)).toNat+1 by omega,lI,aeE e]
theorem lJ.fin {f:Int->Int} {n i:Int} (h:lJ f n i) (hi:n<=i):lI f n.toNat 0=0:=by
 rw [<-h.eq,show (n - i).toNat=0 by have:=h.hi;omega];rfl
theorem xz {f:Int->Int}:∀{k:Nat} {i:Int},lI f k i=0↔∀j,i<=j->j<i+k->f j=0
 |0,i=>⟨fun _ j h1 h2=>by omega,fun _=>rfl⟩
 |k+1,i=>by
  unfold lI
  by_cases e:f i=0
  ·rw [aeG e,xz]
   constructor
   ·intro h j h1 h2
    by_cases ej:j=i
    ·rw [ej];exact e
    ·exact h j (by omega) (by omega)
   ·intro h j h1 h2;exact h j (by omega) (by omega)
  ·rw [aeE e]
   exact ⟨fun h=>absurd h e,fun h=>h i (by omega) (by omega)⟩
def Bg (v:ah) (n:Int):Int:=lI (gw v n) (v.versions.length:Int).toNat 0
def dE (n:Int):Bool:=decide (¬(1<=n/\n<=1000000))
def dz (k:Int) (s:Shelf):Bool:=decide (¬(s.pieces.length:Int)=k)
def bT (v:ah):Int:=
 if ¬v.layout.e=0 then v.layout.e else if ¬(1<=v.size/\v.size<=64)\/¬(1<=(v.versions.length:Int)/\(v.versions.length:Int)<=64)\/v.versions.any dE=true then 3 else if ¬(v.nodes.length:Int)=v.layout.nodes\/v.nodes.any (dz v.versions.length)=true then 1 else lI (Bg v) (v.nodes.length:Int).toNat 0
structure ah.K (v:ah):Prop where
 lay:v.layout.K
 mF:1<=v.size/\v.size<=64
 str:1<=v.versions.length/\v.versions.length<=64
 ver:∀x,x∈v.versions->1<=x/\x<=1000000
 jc:(v.nodes.length:Int)=v.layout.nodes
 uF:∀x,x∈v.nodes->x.pieces.length=v.versions.length
 ok:∀n s:Int,0<=n->n<v.nodes.length->0<=s->s<v.versions.length->gw v n s=0
theorem rk {v:ah}:bT v=0↔v.K:=by
 unfold bT
 constructor
 ·intro h
  by_cases h1:¬v.layout.e=0
  ·rw [aeG h1] at h;exact absurd h h1
  ·rw [aeE h1] at h
   by_cases h2:¬(1<=v.size/\v.size<=64)\/¬(1<=(v.versions.length:Int)/\(v.versions.length:Int)<=64)\/v.versions.any dE=true
   ·rw [aeG h2] at h;simp at h
   ·rw [aeE h2] at h
    by_cases h3:¬(v.nodes.length:Int)=v.layout.nodes\/v.nodes.any (dz v.versions.length)=true
    ·rw [aeG h3] at h;simp at h
    ·rw [aeE h3] at h
     have a1:∀x,x∈v.versions->1<=x/\x<=1000000:=fun x hx=>by
      have:¬dE x=true:=fun hh=>h2 (.inr (.inr (afj.2 ⟨x,hx,hh⟩)))
      unfold dE at this;simpa using this
     have a2:∀x,x∈v.nodes->x.pieces.length=v.versions.length:=fun x hx=>by
      have:¬dz v.versions.length x=true:=fun hh=>h3 (.inr (afj.2 ⟨x,hx,hh⟩))
      unfold dz at this;simp at this;omega
     refine ⟨aO.p9.1 (af2.1 h1),by omega,by omega,a1,by omega,a2,fun n s h4 h5 h6 h7=> ?_⟩
     have:=xz.1 (xz.1 h n h4 (by omega)) s h6 (by omega)
     exact this
 ·intro h
  have h1:=aO.p9.2 h.lay;have h2:=h.mF;have h3:=h.str;have h4:=h.jc
  have b1:¬v.versions.any dE=true:=fun hh=>by
   obtain ⟨x,hx,hp⟩:=afj.1 hh
   have:=h.ver x hx
   unfold dE at hp;simp at hp;omega
  have b2:¬v.nodes.any (dz v.versions.length)=true:=fun hh=>by
   obtain ⟨x,hx,hp⟩:=afj.1 hh
   have:=h.uF x hx
   unfold dz at hp;simp at hp;omega
  rw [aeE (by omega),aeE (by rintro (hh|hh|hh);omega;omega;exact b1 hh),aeE (by rintro (hh|hh);omega;exact b2 hh),xz]
  intro n yE te
  unfold Bg
  rw [xz]
  intro s tH Ge
  exact h.ok n s yE (by omega) tH (by omega)
def xA:bj Tc Tc.dn:=⟨37,[.ty .aA, .ty .aA, .ty .aA],fun x=>(fun (n:Int) (low:Int) (high:Int)=>True) x.1 x.2.1 x.2.2.1,[.eC],fun x=>(fun (n:Int) (low:Int) (high:Int)=>decide (low<=n/\n<=high)) x.1 x.2.1 x.2.2.1⟩
theorem Zy (n:Int) (low:Int) (high:Int):(low<=n->low<=n)/\(low<=n->low<=n)/\(low<=n->low<=n)/\(decide (low<=n)&&decide (n<=high))=decide (low<=n/\n<=high):=by
 (repeat' (first|apply And.intro|intro _))<;>first|assumption|trivial|omega|(grind [])|trace_state
theorem Gf:xA.Ok Try.prog tD:=bV cQ (Δ:=[]) trivial (Ω:=[]) trivial xA Tu Tv (fun _=>[]) (fun _=>trivial) 0 (fun x=>(fun (n:Int) (low:Int) (high:Int)=>(fun _=>none)) x.1 x.2.1 x.2.2.1) fun x hp=>Eq.mp (by kernel_rfl) (Zy x.1 x.2.1 x.2.2.1)
def sU:bj Tc Tc.dn:=⟨38,[.ty .j5],fun x=>(fun (l:aO)=>l.K\/(1<=l.data/\l.data<=8/\1<=l.more/\l.more<=6)) x.1,[.aA],fun x=>(fun (l:aO)=>l.data+l.more) x.1⟩
theorem Zz (l:aO) (hp:l.K\/(1<=l.data/\l.data<=8/\1<=l.more/\l.more<=6)):aB (l.data+l.more)/\l.data+l.more=l.data+l.more:=by
 have h:1<=l.data/\l.data<=8/\1<=l.more/\l.more<=6:=by rcases hp with h|h;exact ⟨h.d.1,h.d.2,h.m.1,h.m.2⟩;exact h
 (repeat' (first|apply And.intro|intro _))<;>first|assumption|trivial|omega|(grind [aB])|trace_state
theorem xB:sU.Ok Try.prog tD:=bV cQ (Δ:=[]) trivial (Ω:=[]) trivial sU Tx Ty (fun _=>[]) (fun _=>trivial) 0 (fun x=>(fun (l:aO)=>(fun _=>none)) x.1) fun x hp=>Eq.mp (by kernel_rfl) (Zz x.1 hp)
def xC:bj Tc Tc.dn:=⟨26,[.ty .j5],fun x=>(fun (l:aO)=>True) x.1,[.aA],fun x=>(fun (l:aO)=>l.e) x.1⟩
theorem ZA (l:aO):True/\(decide ((1:Int)<=l.nodes/\l.nodes<=(12:Int))= !true->(decide ((1:Int)<=l.nodes/\l.nodes<=(12:Int))= !true->(3:Int)=l.e)/\(decide ((1:Int)<=l.nodes/\l.nodes<=(12:Int))= !false->(l.K\/(1:Int)<=l.data/\l.data<=(8:Int)/\(1:Int)<=l.more/\l.more<=(6:Int))/\(l.nodes<l.data+l.more->(8:Int)=l.e)/\(l.data+l.more<=l.nodes->aB (l.nodes - (1:Int))/\True/\(decide ((0:Int)<=l.bU/\l.bU<=l.nodes - (1:Int))= !true->(3:Int)=l.e)/\(decide ((0:Int)<=l.bU/\l.bU<=l.nodes - (1:Int))= !false->(0:Int)=l.e))))/\(decide ((1:Int)<=l.nodes/\l.nodes<=(12:Int))= !false->True/\(decide ((1:Int)<=l.data/\l.data<=(8:Int))= !!true->True)/\(decide ((1:Int)<=l.data/\l.data<=(8:Int))= !true/\decide ((1:Int)<=l.data/\l.data<=(8:Int))= !true\/decide ((1:Int)<=l.data/\l.data<=(8:Int))= !!true/\decide ((1:Int)<=l.more/\l.more<=(6:Int))= !true->(3:Int)=l.e)/\((decide ((1:Int)<=l.data/\l.data<=(8:Int))= !false\/decide ((1:Int)<=l.data/\l.data<=(8:Int))= !false)/\(decide ((1:Int)<=l.data/\l.data<=(8:Int))= !!false\/decide ((1:Int)<=l.more/\l.more<=(6:Int))= !false)->(l.K\/(1:Int)<=l.data/\l.data<=(8:Int)/\(1:Int)<=l.more/\l.more<=(6:Int))/\(l.nodes<l.data+l.more->(8:Int)=l.e)/\(l.data+l.more<=l.nodes->aB (l.nodes - (1:Int))/\True/\(decide ((0:Int)<=l.bU/\l.bU<=l.nodes - (1:Int))= !true->(3:Int)=l.e)/\(decide ((0:Int)<=l.bU/\l.bU<=l.nodes - (1:Int))= !false->(0:Int)=l.e)))):=by
 unfold aO.e
 (try simp only [afw,afC,aff,ae3])
 (repeat' (first|apply And.intro|intro _))<;>first|assumption|trivial|omega|(focus ((repeat (first|rw [aeG (by omega)]|rw [aeE (by omega)]));done))|(grind [aB])|trace_state
theorem Gg:xC.Ok Try.prog tD:=bV cQ (Δ:=[xA,sU]) ⟨Gf,xB,trivial⟩ (Ω:=[]) trivial xC SU SW (fun _=>[]) (fun _=>trivial) 0 (fun x=>(fun (l:aO)=>(fun _=>none)) x.1) fun x hp=>Eq.mp (by kernel_rfl) (ZA x.1)
def Gh:bj Tc Tc.dn:=⟨36,[.ty .aA],fun x=>(fun (n:Int)=>True) x.1,[.eC],fun x=>(fun (n:Int)=>decide (0<=n/\n<=63)) x.1⟩
theorem ZB (n:Int):True/\decide ((0:Int)<=n/\n<=(63:Int))=decide ((0:Int)<=n/\n<=(63:Int)):=by
 (repeat' (first|apply And.intro|intro _))<;>first|assumption|trivial|omega|(grind [])|trace_state
theorem ZC:Gh.Ok Try.prog tD:=bV cQ (Δ:=[xA]) ⟨Gf,trivial⟩ (Ω:=[]) trivial Gh Tr Ts (fun _=>[]) (fun _=>trivial) 0 (fun x=>(fun (n:Int)=>(fun _=>none)) x.1) fun x hp=>Eq.mp (by kernel_rfl) (ZB x.1)
def xD:bj Tc Tc.dn:=⟨49,[.ty .j5, .ty .aA, .ty .aA],fun x=>(fun (l:aO) (lK:Int) (piece:Int)=>l.K/\0<=lK/\lK<=100/\0<=piece/\piece<=100) x.1 x.2.1 x.2.2.1,[.aA],fun x=>(fun (l:aO) (lK:Int) (piece:Int)=>l.node lK piece) x.1 x.2.1 x.2.2.1⟩
theorem ZD (l:aO) (lK:Int) (piece:Int) (hp:l.K/\0<=lK/\lK<=100/\0<=piece/\piece<=100):aB (l.bU+lK)/\aB (l.bU+lK+piece)/\l.nodes≠(0:Int)/\(l.bU+lK+piece).tmod l.nodes=l.node lK piece:=by
 have h1:=hp.1.n
 have h2:=hp.1.t
 have h3:= @ME (l.bU+lK+piece) l.nodes (by omega) (by omega)
 unfold aO.node
 (repeat' (first|apply And.intro|intro _))<;>first|assumption|trivial|omega|(grind [aB])|trace_state
theorem Gi:xD.Ok Try.prog tD:=bV cQ (Δ:=[]) trivial (Ω:=[]) trivial xD TW TX (fun _=>[]) (fun _=>trivial) 0 (fun x=>(fun (l:aO) (lK:Int) (piece:Int)=>(fun _=>none)) x.1 x.2.1 x.2.2.1) fun x hp=>Eq.mp (by kernel_rfl) (ZD x.1 x.2.1 x.2.2.1 hp)
def Gj:bj Tc Tc.dn:=⟨35,[.ptr .aA, .ptr .aA, .ptr .j5],fun x=>(fun (s:Int) (n:Int) (l:aO)=>l.K) x.1 x.2.1 x.2.2.1,[.eC],fun x=>(fun (s:Int) (n:Int) (l:aO)=>decide (0<=s/\s<=63/\0<=n/\n<l.nodes)) x.1 x.2.1 x.2.2.1⟩
theorem ZE (s:Int) (n:Int) (l:aO) (hp:l.K):True/\(decide ((0:Int)<=s/\s<=(63:Int))=true->decide ((0:Int)<=s/\s<=(63:Int))=true)/\(decide ((0:Int)<=s/\s<=(63:Int))=true->decide ((0:Int)<=s/\s<=(63:Int))=true)/\(decide ((0:Int)<=s/\s<=(63:Int))=true->aB (l.nodes - (1:Int)))/\(decide ((0:Int)<=s/\s<=(63:Int))=true->decide ((0:Int)<=s/\s<=(63:Int))=true)/\(decide ((0:Int)<=s/\s<=(63:Int))=true->decide ((0:Int)<=s/\s<=(63:Int))=true)/\(decide ((0:Int)<=s/\s<=(63:Int))=true->True)/\(decide ((0:Int)<=s/\s<=(63:Int))=true->decide ((0:Int)<=s/\s<=(63:Int))=true)/\(decide ((0:Int)<=s/\s<=(63:Int))&&decide ((0:Int)<=n/\n<=l.nodes - (1:Int)))=decide ((0:Int)<=s/\s<=(63:Int)/\(0:Int)<=n/\n<l.nodes):=by
 have h1:=hp.n
 (repeat' (first|apply And.intro|intro _))<;>first|assumption|trivial|omega|(grind [aB])|trace_state
theorem ZF:Gj.Ok Try.prog tD:=bV cQ (Δ:=[Gh,xA]) ⟨ZC,Gf,trivial⟩ (Ω:=[]) trivial Gj To Tp (fun _=>[]) (fun _=>trivial) 0 (fun x=>(fun (s:Int) (n:Int) (l:aO)=>(fun _=>none)) x.1 x.2.1 x.2.2.1) fun x hp=>Eq.mp (by kernel_rfl) (ZE x.1 x.2.1 x.2.2.1 hp)
def Gk:bj Tc Tc.dn:=⟨34,[.ty .j5, .jx 35 [(true, .aA),(true, .aA),(true, .j5)]],fun x=>(fun (l:aO) (s:Int) (n:Int) (l2:aO)=>l2=l) x.1 x.2.1.1 x.2.1.2.1 x.2.1.2.2.1,[.aA],fun x=>(fun (l:aO) (s:Int) (n:Int) (l2:aO)=>if ¬l.e=0 then l.e else if ¬(0<=s/\s<=63/\0<=n/\n<l.nodes) then 3 else 0) x.1 x.2.1.1 x.2.1.2.1 x.2.1.2.2.1⟩
theorem ZG (l:aO) (s:Int) (n:Int) (l2:aO) (hp:l2=l):True/\(l.e=(0:Int)->l.e=(0:Int))/\(l.e=(0:Int)->l2.K)/\(l.e=(0:Int)->l.e=(0:Int))/\(l.e=(0:Int)->l.e=(0:Int))/\(l.e=(0:Int)/\decide ((0:Int)<=s/\s<=(63:Int)/\(0:Int)<=n/\n<l2.nodes)= !true->(3:Int)=if ¬l.e=(0:Int) then l.e else if ¬((0:Int)<=s/\s<=(63:Int)/\(0:Int)<=n/\n<l.nodes) then (3:Int) else (0:Int))/\(¬l.e=(0:Int)\/decide ((0:Int)<=s/\s<=(63:Int)/\(0:Int)<=n/\n<l2.nodes)= !false->l.e=if ¬l.e=(0:Int) then l.e else if ¬((0:Int)<=s/\s<=(63:Int)/\(0:Int)<=n/\n<l.nodes) then (3:Int) else (0:Int)):=by
 subst hp
 have h1:= @aO.p9 l2
 (try simp only [afw,afC,aff,ae3])
 (repeat' (first|apply And.intro|intro _))<;>first|assumption|trivial|omega|(grind [])|trace_state
theorem ZH:Gk.Ok Try.prog tD:=bV cQ (Δ:=[xC,Gj]) ⟨Gg,ZF,trivial⟩ (Ω:=[]) trivial Gk Tl Tm (fun _=>[]) (fun _=>trivial) 0 (fun x=>(fun (l:aO) (s:Int) (n:Int) (l2:aO)=>(fun _=>none)) x.1 x.2.1.1 x.2.1.2.1 x.2.1.2.2.1) fun x hp=>Eq.mp (by kernel_rfl) (ZG x.1 x.2.1.1 x.2.1.2.1 x.2.1.2.2.1 hp)
def Bh:bj Tc Tc.dn:=⟨12,[.ty .j5, .ty .aA, .ty .aA],fun x=>(fun (l:aO) (s:Int) (n:Int)=>True) x.1 x.2.1 x.2.2.1,[.aA, .eC, .aA],fun x=>(fun (l:aO) (s:Int) (n:Int)=>l.piece s n) x.1 x.2.1 x.2.2.1⟩
theorem ZI (l:aO) (s:Int) (n:Int):l=l/\(¬(if ¬l.e=(0:Int) then l.e else if ¬((0:Int)<=s/\s<=(63:Int)/\(0:Int)<=n/\n<l.nodes) then (3:Int) else (0:Int))=(0:Int)->((0:Int),false,if ¬l.e=(0:Int) then l.e else if ¬((0:Int)<=s/\s<=(63:Int)/\(0:Int)<=n/\n<l.nodes) then (3:Int) else (0:Int))=l.piece s n)/\((if ¬l.e=(0:Int) then l.e else if ¬((0:Int)<=s/\s<=(63:Int)/\(0:Int)<=n/\n<l.nodes) then (3:Int) else (0:Int))=(0:Int)->aB (n - l.bU)/\aB (n - l.bU - s)/\l.nodes≠(0:Int)/\((n - l.bU - s).tmod l.nodes<(0:Int)->aB ((n - l.bU - s).tmod l.nodes+l.nodes)/\(l.K\/(1:Int)<=l.data/\l.data<=(8:Int)/\(1:Int)<=l.more/\l.more<=(6:Int))/\(l.data+l.more<=(n - l.bU - s).tmod l.nodes+l.nodes->((0:Int),false,(0:Int))=l.piece s n)/\((n - l.bU - s).tmod l.nodes+l.nodes<l.data+l.more->((n - l.bU - s).tmod l.nodes+l.nodes,true,(0:Int))=l.piece s n))/\((0:Int)<=(n - l.bU - s).tmod l.nodes->(l.K\/(1:Int)<=l.data/\l.data<=(8:Int)/\(1:Int)<=l.more/\l.more<=(6:Int))/\(l.data+l.more<=(n - l.bU - s).tmod l.nodes->((0:Int),false,(0:Int))=l.piece s n)/\((n - l.bU - s).tmod l.nodes<l.data+l.more->((n - l.bU - s).tmod l.nodes,true,(0:Int))=l.piece s n))):=by
 have h1:= @aO.p9 l
 have h2:= @Zw l s n
 have h3:= @Zx l s n
 have h4:l.K->1<=l.nodes/\l.nodes<=12:=fun h=>h.n
 have h5:l.K->0<=l.bU/\l.bU<l.nodes:=fun h=>h.t
 have h6:= @MD (n - l.bU - s) l.nodes
 have h7:= @aO.K.piece l
 have h8:l.pc s n=(n - l.bU - s)%l.nodes:=rfl
 have h9:l.K->0<=l.pc s n/\l.pc s n<l.nodes:=fun h=>h.pc s n
 have h10:l.has s n=decide (l.pc s n<l.data+l.more):=rfl
 (try simp only [afw,afC,aff,ae3])
 (repeat' (first|apply And.intro|intro _))<;>first|assumption|trivial|omega|(grind [aB])|trace_state
theorem MH:Bh.Ok Try.prog tD:=bV cQ (Δ:=[Gk,sU]) ⟨ZH,xB,trivial⟩ (Ω:=[]) trivial Bh Sn So (fun _=>[]) (fun _=>trivial) 0 (fun x=>(fun (l:aO) (s:Int) (n:Int)=>(fun _=>none)) x.1 x.2.1 x.2.2.1) fun x hp=>Eq.mp (by kernel_rfl) (ZI x.1 x.2.1 x.2.2.1)
open Go.RowKit
structure lL (v:ah):Prop where
 lay:v.layout.K
 mF:1<=v.size/\v.size<=64
 str:1<=(v.versions.length:Int)/\(v.versions.length:Int)<=64
 ver:∀x,x∈v.versions->1<=x/\x<=1000000
 jc:(v.nodes.length:Int)=v.layout.nodes
 uF:∀x,x∈v.nodes->x.pieces.length=v.versions.length
theorem ah.K.pre (h:v.K):lL v:=⟨h.lay,h.mF,by have:=h.str;omega,h.ver,h.jc,h.uF⟩
theorem lL.ZJ (h1:v.layout.e=0) (h2:1<=v.size/\v.size<=64) (h3:1<=(v.versions.length:Int)/\(v.versions.length:Int)<=64) (h4:¬v.versions.any dE=true) (h5:(v.nodes.length:Int)=v.layout.nodes) (h6:¬v.nodes.any (dz v.versions.length)=true):lL v:=
 ⟨aO.p9.1 h1,h2,h3,fun x hx=>by
  have:¬dE x=true:=fun hh=>h4 (afj.2 ⟨x,hx,hh⟩)
  unfold dE at this;simpa using this,h5,fun x hx=>by
  have:¬dz v.versions.length x=true:=fun hh=>h6 (afj.2 ⟨x,hx,hh⟩)
  unfold dz at this;simp at this;omega⟩
theorem lL.Bi (h:lL v):bT v=lI (Bg v) (v.nodes.length:Int).toNat 0:=by
 have h1:=aO.p9.2 h.lay;have h2:=h.mF;have h3:=h.str;have h4:=h.jc
 have b1:¬v.versions.any dE=true:=fun hh=>by
  obtain ⟨x,hx,hp⟩:=afj.1 hh
  have:=h.ver x hx
  unfold dE at hp;simp at hp;omega
 have b2:¬v.nodes.any (dz v.versions.length)=true:=fun hh=>by
  obtain ⟨x,hx,hp⟩:=afj.1 hh
  have:=h.uF x hx
  unfold dz at hp;simp at hp;omega
 unfold bT
 rw [aeE (by omega),aeE (by rintro (hh|hh|hh);omega;omega;exact b1 hh),aeE (by rintro (hh|hh);omega;exact b2 hh)]
theorem lL.shl (h:lL v) {n:Int} (h0:0<=n) (h1:n<v.nodes.length):(gd (⟨false,[]⟩:Shelf) v.nodes n.toNat).pieces.length=v.versions.length:=h.uF _ (eV (by omega))
theorem ZK {v:ah} (h:¬v.layout.e=0):bT v=v.layout.e:=by unfold bT;rw [aeG h]
theorem ZL {v:ah} (h:v.layout.e=0) (h2:¬(1<=v.size/\v.size<=64)\/¬(1<=(v.versions.length:Int)/\(v.versions.length:Int)<=64)\/v.versions.any dE=true):bT v=3:=by unfold bT;rw [aeE (by simp [h]),aeG h2]
theorem ZM {v:ah} (h:v.layout.e=0) (h2:1<=v.size/\v.size<=64) (h3:1<=(v.versions.length:Int)/\(v.versions.length:Int)<=64) (h4:¬v.versions.any dE=true) (h5:¬(v.nodes.length:Int)=v.layout.nodes\/v.nodes.any (dz v.versions.length)=true):bT v=1:=by
 unfold bT
 rw [aeE (by simp [h]),aeE (by rintro (hh|hh|hh);omega;omega;exact h4 hh),aeG h5]
structure j7 (v:ah) (n:Int):Prop where
 p:lL v
 e:lJ (Bg v) (v.nodes.length:Int) n
structure jd (v:ah) (n s:Int):Prop where
 n0:0<=n
 n1:n<v.nodes.length
 e:lJ (gw v n) (v.versions.length:Int) s
theorem j7.start {v:ah} (h1:v.layout.e=0) (h2:1<=v.size/\v.size<=64) (h3:1<=(v.versions.length:Int)/\(v.versions.length:Int)<=64) (h4:¬v.versions.any dE=true) (h5:(v.nodes.length:Int)=v.layout.nodes) (h6:¬v.nodes.any (dz v.versions.length)=true):j7 v 0:=⟨lL.ZJ h1 h2 h3 h4 h5 h6,lJ.start (by omega)⟩
theorem jd.start {v:ah} {n:Int} (h:j7 v n) (hn:n<v.nodes.length):jd v n 0:=⟨h.e.lo,hn,lJ.start (by omega)⟩
theorem jd.step {v:ah} {n s:Int} (h:jd v n s) (hs:s<v.versions.length) (e:gw v n s=0):jd v n (s+1):=⟨h.n0,h.n1,h.e.step hs e⟩
theorem jd.bad {v:ah} {n s:Int} (r:j7 v n) (h:jd v n s) (hs:s<v.versions.length) (e:¬gw v n s=0):gw v n s=bT v:=by
 have:=h.e.bad hs e
 rw [this,r.p.Bi]
 exact r.e.bad h.n1 (by show ¬lI (gw v n) _ 0=0;rw [<-this];exact e)
theorem jd.fin {v:ah} {n s:Int} (r:j7 v n) (h:jd v n s) (hs:v.versions.length<=s):j7 v (n+1):=⟨r.p,r.e.step h.n1 (h.e.fin hs)⟩
theorem j7.fin {v:ah} {n:Int} (h:j7 v n) (hn:v.nodes.length<=n):(0:Int)=bT v:=by rw [h.p.Bi,h.e.fin hn]
theorem j7.bd {v:ah} {n:Int} (h:j7 v n):0<=n/\v.nodes.length<=12/\v.versions.length<=64:=by have h1:=h.p.jc;have h2:=h.p.lay.n;have h3:=h.p.str;exact ⟨h.e.lo,by omega,by omega⟩
theorem jd.bd {v:ah} {n s:Int} (h:jd v n s):0<=s/\0<=n/\n<v.nodes.length:=⟨h.e.lo,h.n0,h.n1⟩
def oC:bj Tc Tc.dn:=⟨27,[.ty .aA, .ty .aA, .ty .aA],fun x=>(fun (n:Int) (low:Int) (high:Int)=>True) x.1 x.2.1 x.2.2.1,[.eC],fun x=>(fun (n:Int) (low:Int) (high:Int)=>decide (low<=n/\n<=high)) x.1 x.2.1 x.2.2.1⟩
theorem ZN (n:Int) (low:Int) (high:Int):(low<=n->low<=n)/\(low<=n->low<=n)/\(low<=n->low<=n)/\(decide (low<=n)&&decide (n<=high))=decide (low<=n/\n<=high):=by
 (repeat' (first|apply And.intro|intro _))<;>first|assumption|trivial|omega|(grind [])|trace_state
theorem rn:oC.Ok Try.prog tD:=bV cQ (Δ:=[]) trivial (Ω:=[]) trivial oC SY SZ (fun _=>[]) (fun _=>trivial) 0 (fun x=>(fun (n:Int) (low:Int) (high:Int)=>(fun _=>none)) x.1 x.2.1 x.2.2.1) fun x hp=>Eq.mp (by kernel_rfl) (ZN x.1 x.2.1 x.2.2.1)
def Gl:bj Tc Tc.dn:=⟨29,[.ty .aA],fun x=>(fun (n:Int)=>True) x.1,[.eC],fun x=>(fun (n:Int)=>dE n) x.1⟩
theorem ZO (n:Int):True/\(!decide ((1:Int)<=n/\n<=(1000000:Int)))=dE n:=by
 unfold dE
 (repeat' (first|apply And.intro|intro _))<;>first|assumption|trivial|omega|(grind [])|trace_state
theorem ZP:Gl.Ok Try.prog tD:=bV cQ (Δ:=[oC]) ⟨rn,trivial⟩ (Ω:=[]) trivial Gl S5 S6 (fun _=>[]) (fun _=>trivial) 0 (fun x=>(fun (n:Int)=>(fun _=>none)) x.1) fun x hp=>Eq.mp (by kernel_rfl) (ZO x.1)
def Gm:bj Tc Tc.dn:=⟨31,[.ty .lH, .ptr .aA],fun x=>(fun (s:Shelf) (k:Int)=>True) x.1 x.2.1,[.eC],fun x=>(fun (s:Shelf) (k:Int)=>dz k s) x.1 x.2.1⟩
theorem ZQ (s:Shelf) (k:Int):(!(↑s.pieces.length:Int)==k)=dz k s:=by
 unfold dz
 (repeat' (first|apply And.intro|intro _))<;>first|assumption|trivial|omega|(grind [])|trace_state
theorem ZR:Gm.Ok Try.prog tD:=bV cQ (Δ:=[]) trivial (Ω:=[]) trivial Gm Tb Td (fun _=>[]) (fun _=>trivial) 0 (fun x=>(fun (s:Shelf) (k:Int)=>(fun _=>none)) x.1 x.2.1) fun x hp=>Eq.mp (by kernel_rfl) (ZQ x.1 x.2.1)
def xE (xs:(List Int)) (j:Int):Prop:=ga (dE) xs j
def Gn:bj Tc Tc.dn:=⟨53,[.ty .j6, .jx 29 []],fun x=>(fun (xs:(List Int))=>xs.length<=1000000) x.1,[.aA],fun x=>(fun (xs:(List Int))=>gZ (dE) xs 0) x.1⟩
theorem ZS (xs:(List Int)) (hp:xs.length<=1000000):xE xs (0:Int)/\∀(x:Int),xE xs x->(x<(↑xs.length:Int)->((0:Int)<=x/\x<(↑xs.length:Int))/\True/\(dE (gd (0:Int) xs x.toNat)=true->x=gZ dE xs (0:Int))/\(dE (gd (0:Int) xs x.toNat)=false->aB (x+(1:Int))/\xE xs (x+(1:Int))/\((↑xs.length:Int) - (x+(1:Int))).toNat<((↑xs.length:Int) - x).toNat))/\((↑xs.length:Int)<=x->(-1:Int)=gZ dE xs (0:Int)):=by
 have h1:= @ga.start Int (dE) xs
 have h2:= @ga.no Int (dE) 0 xs
 have h3:= @ga.yes Int (dE) 0 xs
 have h4:= @ga.fin Int (dE) xs
 have h5:= @ga.lo Int (dE) xs
 have h6:= @ga.rh Int (dE) xs
 (repeat' (first|apply And.intro|intro _))<;>first|assumption|trivial|omega|(grind [xE,aB])|trace_state
theorem ZT:Gn.Ok Try.prog tD:=bV cQ (Δ:=[Gl]) ⟨ZP,trivial⟩ (Ω:=[]) trivial Gn T5 T6 (fun _=>[]) (fun _=>trivial) 0 (fun x=>(fun (xs:(List Int))=>(fun k=>bif Nat.beq k 0 then some (.inv [.sl 8 .aA] (fun zo zv=>(fun (j:Int)=>xE xs j) zv.1) (fun zo zv=>(fun (j:Int)=>((xs.length:Int) - j).toNat) zv.1)) else none)) x.1) fun x hp=>Eq.mp (by kernel_rfl) (ZS x.1 hp)
def xF (xs:(List Shelf)) (w:Int) (j:Int):Prop:=ga (dz w) xs j
def Gp:bj Tc Tc.dn:=⟨54,[.ty .sR, .jx 31 [(true, .aA)]],fun x=>(fun (xs:(List Shelf)) (w:Int)=>xs.length<=1000000) x.1 x.2.1.1,[.aA],fun x=>(fun (xs:(List Shelf)) (w:Int)=>gZ (dz w) xs 0) x.1 x.2.1.1⟩
theorem ZU (xs:(List Shelf)) (w:Int) (hp:xs.length<=1000000):xF xs w (0:Int)/\∀(x:Int),xF xs w x->(x<(↑xs.length:Int)->((0:Int)<=x/\x<(↑xs.length:Int))/\True/\(dz w (gd (Shelf.mk false []) xs x.toNat)=true->x=gZ (dz w) xs (0:Int))/\(dz w (gd (Shelf.mk false []) xs x.toNat)=false->aB (x+(1:Int))/\xF xs w (x+(1:Int))/\((↑xs.length:Int) - (x+(1:Int))).toNat<((↑xs.length:Int) - x).toNat))/\((↑xs.length:Int)<=x->(-1:Int)=gZ (dz w) xs (0:Int)):=by
 have h1:= @ga.start Shelf (dz w) xs
 have h2:= @ga.no Shelf (dz w) (⟨false,[]⟩:Shelf) xs
 have h3:= @ga.yes Shelf (dz w) (⟨false,[]⟩:Shelf) xs
 have h4:= @ga.fin Shelf (dz w) xs
 have h5:= @ga.lo Shelf (dz w) xs
 have h6:= @ga.rh Shelf (dz w) xs
 (repeat' (first|apply And.intro|intro _))<;>first|assumption|trivial|omega|(grind [xF,aB])|trace_state
theorem ZV:Gp.Ok Try.prog tD:=bV cQ (Δ:=[Gm]) ⟨ZR,trivial⟩ (Ω:=[]) trivial Gp T8 T9 (fun _=>[]) (fun _=>trivial) 0 (fun x=>(fun (xs:(List Shelf)) (w:Int)=>(fun k=>bif Nat.beq k 0 then some (.inv [.sl 8 .aA] (fun zo zv=>(fun (j:Int)=>xF xs w j) zv.1) (fun zo zv=>(fun (j:Int)=>((xs.length:Int) - j).toNat) zv.1)) else none)) x.1 x.2.1.1) fun x hp=>Eq.mp (by kernel_rfl) (ZU x.1 x.2.1.1 hp)
def Gq:bj Tc Tc.dn:=⟨28,[.ty .j6, .jx 29 []],fun x=>(fun (xs:(List Int))=>xs.length<=1000000) x.1,[.eC],fun x=>(fun (xs:(List Int))=>xs.any dE) x.1⟩
theorem ZW (xs:(List Int)) (hp:xs.length<=1000000):xs.length<=(1000000:Nat)/\decide ((0:Int)<=gZ dE xs (0:Int))=xs.any dE:=by
 have h1:= @MG Int dE xs
 (repeat' (first|apply And.intro|intro _))<;>first|assumption|trivial|omega|(grind [])|trace_state
theorem ZX:Gq.Ok Try.prog tD:=bV cQ (Δ:=[Gn]) ⟨ZT,trivial⟩ (Ω:=[]) trivial Gq S1 S2 (fun _=>[]) (fun _=>trivial) 0 (fun x=>(fun (xs:(List Int))=>(fun _=>none)) x.1) fun x hp=>Eq.mp (by kernel_rfl) (ZW x.1 hp)
def Gr:bj Tc Tc.dn:=⟨30,[.ty .sR, .jx 31 [(true, .aA)]],fun x=>(fun (xs:(List Shelf)) (w:Int)=>xs.length<=1000000) x.1 x.2.1.1,[.eC],fun x=>(fun (xs:(List Shelf)) (w:Int)=>xs.any (dz w)) x.1 x.2.1.1⟩
theorem ZY (xs:(List Shelf)) (w:Int) (hp:xs.length<=1000000):xs.length<=(1000000:Nat)/\decide ((0:Int)<=gZ (dz w) xs (0:Int))=xs.any (dz w):=by
 have h1:= @MG Shelf (dz w) xs
 (repeat' (first|apply And.intro|intro _))<;>first|assumption|trivial|omega|(grind [])|trace_state
theorem ZZ:Gr.Ok Try.prog tD:=bV cQ (Δ:=[Gp]) ⟨ZV,trivial⟩ (Ω:=[]) trivial Gr S8 S9 (fun _=>[]) (fun _=>trivial) 0 (fun x=>(fun (xs:(List Shelf)) (w:Int)=>(fun _=>none)) x.1 x.2.1.1) fun x hp=>Eq.mp (by kernel_rfl) (ZY x.1 x.2.1.1 hp)
def Gs:bj Tc Tc.dn:=⟨32,[.ty .ff, .ty .aA, .ty .aA],fun x=>(fun (v:ah) (n:Int) (s:Int)=>lL v/\0<=n/\n<v.nodes.length/\0<=s/\s<v.versions.length) x.1 x.2.1 x.2.2.1,[.aA],fun x=>(fun (v:ah) (n:Int) (s:Int)=>gw v n s) x.1 x.2.1 x.2.2.1⟩
abbrev ep (v:ah) (n:Int) (s:Int):=(gd (Piece.mk (0:Int) ByteArray.empty) (gd (Shelf.mk false []) v.nodes n.toNat).pieces s.toNat)
theorem Z0 (v:ah) (n:Int) (s:Int) (hp:lL v/\0<=n/\n<v.nodes.length/\0<=s/\s<v.versions.length):((0:Int)<=n/\n<(↑v.nodes.length:Int))/\((0:Int)<=s/\s<(↑(gd (Shelf.mk false []) v.nodes n.toNat).pieces.length:Int))/\True/\((v.layout.piece s n).snd.fst= !true->(v.layout.piece s n).snd.fst= !true)/\((v.layout.piece s n).snd.fst= !true->(v.layout.piece s n).snd.fst= !true)/\((v.layout.piece s n).snd.fst= !true->(v.layout.piece s n).snd.fst= !true)/\((v.layout.piece s n).snd.fst= !false\/(ep v n s).version=(0:Int)/\(ep v n s).data=ByteArray.mk #[]->(v.layout.piece s n).snd.fst=true->(v.layout.piece s n).snd.fst=true)/\((v.layout.piece s n).snd.fst= !false\/(ep v n s).version=(0:Int)/\(ep v n s).data=ByteArray.mk #[]->(v.layout.piece s n).snd.fst=true->(v.layout.piece s n).snd.fst=true)/\((v.layout.piece s n).snd.fst= !false\/(ep v n s).version=(0:Int)/\(ep v n s).data=ByteArray.mk #[]->(v.layout.piece s n).snd.fst=true->(v.layout.piece s n).snd.fst=true)/\((v.layout.piece s n).snd.fst= !false\/(ep v n s).version=(0:Int)/\(ep v n s).data=ByteArray.mk #[]->(v.layout.piece s n).snd.fst=true->(v.layout.piece s n).snd.fst=true)/\((v.layout.piece s n).snd.fst= !false\/(ep v n s).version=(0:Int)/\(ep v n s).data=ByteArray.mk #[]->(v.layout.piece s n).snd.fst=true->(v.layout.piece s n).snd.fst=true)/\((v.layout.piece s n).snd.fst= !false\/(ep v n s).version=(0:Int)/\(ep v n s).data=ByteArray.mk #[]->(v.layout.piece s n).snd.fst=true->(v.layout.piece s n).snd.fst=true)/\(((v.layout.piece s n).snd.fst= !true/\(¬(ep v n s).version=(0:Int)\/¬(ep v n s).data=ByteArray.mk #[]))/\(v.layout.piece s n).snd.fst= !true/\(¬(ep v n s).version=(0:Int)\/¬(ep v n s).data=ByteArray.mk #[])\/((v.layout.piece s n).snd.fst= !false\/(ep v n s).version=(0:Int)/\(ep v n s).data=ByteArray.mk #[])/\(v.layout.piece s n).snd.fst=true/\¬(↑(ep v n s).data.size:Int)=v.size->(1:Int)=gw v n s)/\((((v.layout.piece s n).snd.fst= !false\/(ep v n s).version=(0:Int)/\(ep v n s).data=ByteArray.mk #[])\/(v.layout.piece s n).snd.fst= !false\/(ep v n s).version=(0:Int)/\(ep v n s).data=ByteArray.mk #[])/\((v.layout.piece s n).snd.fst= !true/\(¬(ep v n s).version=(0:Int)\/¬(ep v n s).data=ByteArray.mk #[])\/(v.layout.piece s n).snd.fst=false\/(↑(ep v n s).data.size:Int)=v.size)->((0:Int)<=s/\s<(↑v.versions.length:Int))/\True/\(decide ((0:Int)<=(ep v n s).version/\(ep v n s).version<=gd (0:Int) v.versions s.toNat)= !true->(3:Int)=gw v n s)/\(decide ((0:Int)<=(ep v n s).version/\(ep v n s).version<=gd (0:Int) v.versions s.toNat)= !false->(0:Int)=gw v n s)):=by
 delta ep
 obtain ⟨hP,q1,q2,q3,q4⟩:=hp
 have h1:=hP.shl q1 q2
 have h2:=hP.jc
 have h3:=hP.str
 have h4:=hP.lay.piece (s:=s) (n:=n) ⟨q3,by omega⟩ ⟨q1,by omega⟩
 rw [h4]
 unfold gw
 have he:(ByteArray.mk #[])=ByteArray.empty:=rfl
 simp only [he,ah.at_]
 (try simp only [afw,afC,aff,ae3])
 (repeat' (first|apply And.intro|intro _))<;>first|assumption|trivial|omega|(grind [aB])|trace_state
theorem Z1:Gs.Ok Try.prog tD:=bV cQ (Δ:=[Bh,oC]) ⟨MH,rn,trivial⟩ (Ω:=[]) trivial Gs Tf Tg (fun _=>[]) (fun _=>trivial) 0 (fun x=>(fun (v:ah) (n:Int) (s:Int)=>(fun _=>none)) x.1 x.2.1 x.2.2.1) fun x hp=>Eq.mp (by kernel_rfl) (Z0 x.1 x.2.1 x.2.2.1 hp)
def rp (v:ah) (s0:Int) (n0:Int) (m0:Int) (s:Int) (n:Int) (m:Int):Prop:=n=n0/\m=n0/\jd v n s
def rq (v:ah) (n:Int):Prop:=j7 v n
def rr:bj Tc Tc.dn:=⟨10,[.ty .ff],fun x=>(fun (v:ah)=>True) x.1,[.aA],fun x=>(fun (v:ah)=>bT v) x.1⟩
abbrev ru (v:ah):=((1:Int)<=(↑v.versions.length:Int)/\(↑v.versions.length:Int)<=(64:Int))
theorem Z2 (v:ah):True/\(¬v.layout.e=(0:Int)->v.layout.e=bT v)/\(v.layout.e=(0:Int)->True/\(decide ((1:Int)<=v.size/\v.size<=(64:Int))= !true->(decide ((1:Int)<=v.size/\v.size<=(64:Int))= !true->(3:Int)=bT v)/\(decide ((1:Int)<=v.size/\v.size<=(64:Int))= !false->((↑v.nodes.length:Int)=v.layout.nodes->v.nodes.length<=(1000000:Nat))/\(¬(↑v.nodes.length:Int)=v.layout.nodes/\¬(↑v.nodes.length:Int)=v.layout.nodes\/(↑v.nodes.length:Int)=v.layout.nodes/\v.nodes.any (dz (↑v.versions.length:Int))=true->(1:Int)=bT v)/\(((↑v.nodes.length:Int)=v.layout.nodes\/(↑v.nodes.length:Int)=v.layout.nodes)/\(¬(↑v.nodes.length:Int)=v.layout.nodes\/v.nodes.any (dz (↑v.versions.length:Int))=false)->rq v (0:Int)/\∀(x:Int),rq v x->(x<(↑v.nodes.length:Int)->rp v (0:Int) x x (0:Int) x x/\∀(af aC ae:Int),rp v (0:Int) x x af aC ae->(af<(↑v.versions.length:Int)->(lL v/\(0:Int)<=ae/\ae<(↑v.nodes.length:Int)/\(0:Int)<=af/\af<(↑v.versions.length:Int))/\(¬gw v ae af=(0:Int)->gw v ae af=bT v)/\(gw v ae af=(0:Int)->aB (af+(1:Int))/\rp v (0:Int) x x (af+(1:Int)) aC ae/\((↑v.versions.length:Int) - (af+(1:Int))).toNat<((↑v.versions.length:Int) - af).toNat))/\((↑v.versions.length:Int)<=af->aB (aC+(1:Int))/\rq v (aC+(1:Int))/\((↑v.nodes.length:Int) - (aC+(1:Int))).toNat<((↑v.nodes.length:Int) - x).toNat))/\((↑v.nodes.length:Int)<=x->(0:Int)=bT v))))/\(decide ((1:Int)<=v.size/\v.size<=(64:Int))= !false->True/\(decide (ru v)= !!true->v.versions.length<=(1000000:Nat))/\(decide (ru v)= !true/\decide (ru v)= !true\/decide (ru v)= !!true/\v.versions.any dE=true->(3:Int)=bT v)/\((decide (ru v)= !false\/decide (ru v)= !false)/\(decide (ru v)= !!false\/v.versions.any dE=false)->((↑v.nodes.length:Int)=v.layout.nodes->v.nodes.length<=(1000000:Nat))/\(¬(↑v.nodes.length:Int)=v.layout.nodes/\¬(↑v.nodes.length:Int)=v.layout.nodes\/(↑v.nodes.length:Int)=v.layout.nodes/\v.nodes.any (dz (↑v.versions.length:Int))=true->(1:Int)=bT v)/\(((↑v.nodes.length:Int)=v.layout.nodes\/(↑v.nodes.length:Int)=v.layout.nodes)/\(¬(↑v.nodes.length:Int)=v.layout.nodes\/v.nodes.any (dz (↑v.versions.length:Int))=false)->rq v (0:Int)/\∀(x:Int),rq v x->(x<(↑v.nodes.length:Int)->rp v (0:Int) x x (0:Int) x x/\∀(af aC ae:Int),rp v (0:Int) x x af aC ae->(af<(↑v.versions.length:Int)->(lL v/\(0:Int)<=ae/\ae<(↑v.nodes.length:Int)/\(0:Int)<=af/\af<(↑v.versions.length:Int))/\(¬gw v ae af=(0:Int)->gw v ae af=bT v)/\(gw v ae af=(0:Int)->aB (af+(1:Int))/\rp v (0:Int) x x (af+(1:Int)) aC ae/\((↑v.versions.length:Int) - (af+(1:Int))).toNat<((↑v.versions.length:Int) - af).toNat))/\((↑v.versions.length:Int)<=af->aB (aC+(1:Int))/\rq v (aC+(1:Int))/\((↑v.nodes.length:Int) - (aC+(1:Int))).toNat<((↑v.nodes.length:Int) - x).toNat))/\((↑v.nodes.length:Int)<=x->(0:Int)=bT v))))):=by
 delta ru
 have a1:= @ZK v
 have a2:= @ZL v
 have a3:= @ZM v
 have b1:= @j7.start v
 have b2:= @jd.start v
 have b3:= @jd.step v
 have b4:= @jd.bad v
 have b5:= @jd.fin v
 have b6:= @j7.fin v
 have b7:= @j7.bd v
 have b8:= @jd.bd v
 have b9:=fun n=> @j7.p v n
 have c1:= @rf
 have c2:v.layout.e=0->(v.nodes.length:Int)=v.layout.nodes->v.nodes.length<=12:=fun h h2=>by have:=(aO.p9.1 h).n;omega
 (try simp only [afw,afC,aff,ae3])
 (repeat' (first|apply And.intro|intro _))<;>first|assumption|trivial|omega|(grind [rp,rq,aB])|trace_state
theorem uG:rr.Ok Try.prog tD:=bV cQ (Δ:=[xC,oC,Gq,Gr,Gs]) ⟨Gg,rn,ZX,ZZ,Z1,trivial⟩ (Ω:=[]) trivial rr Sh Si (fun _=>[]) (fun _=>trivial) 0 (fun x=>(fun (v:ah)=>(fun k=>bif Nat.beq k 0 then some (.inv [.sl 43 .aA] (fun zo zv=>(fun (n:Int)=>rq v n) zv.1) (fun zo zv=>(fun (n:Int)=>((v.nodes.length:Int) - n).toNat) zv.1)) else bif Nat.beq k 1 then some (.inv [.sl 47 .aA, .sl 43 .aA, .sl 5 .aA] (fun zo zv=>(fun (s0:Int) (n0:Int) (m0:Int) (s:Int) (n:Int) (m:Int)=>rp v s0 n0 m0 s n m) zo.1 zo.2.1 zo.2.2.1 zv.1 zv.2.1 zv.2.2.1) (fun zo zv=>(fun (s0:Int) (n0:Int) (m0:Int) (s:Int) (n:Int) (m:Int)=>((v.versions.length:Int) - s).toNat) zo.1 zo.2.1 zo.2.2.1 zv.1 zv.2.1 zv.2.2.1)) else none)) x.1) fun x hp=>Eq.mp (by kernel_rfl) (Z2 x.1)
open Go.ChangeShapes Go.WideShapes Go.ChangeAt Go.RowKit
open Go.ChangeMaps (open_string shut_string)
theorem MI (a:UInt8):((a.toNat:Int)*(2:Int)%(256:Int))=((a<<<1).toNat:Int):=by
 have h:(a<<<1).toNat=a.toNat*2%256:=by
  have:=mi (fun a=>(a<<<1).toNat==a.toNat*2%256) (by decide+kernel) a
  simpa using this
 rw [h];omega
theorem MJ (a:UInt8):((a.toNat:Int) / (2:Int))=((a>>>1).toNat:Int):=by
 have h:(a>>>1).toNat=a.toNat / 2:=by
  have:=mi (fun a=>(a>>>1).toNat==a.toNat / 2) (by decide+kernel) a
  simpa using this
 rw [h];omega
theorem MK (a:UInt8):bits .and .u8 (a.toNat:Int) 1=((a&&&1).toNat:Int):=VZ a 1
theorem Z3 (a:UInt8):bits .xor .u8 (a.toNat:Int) 29=((a^^^29).toNat:Int):=JT a 29
theorem Z4 (a:UInt8) (h:127<(a.toNat:Int)):bits .xor .u8 ((a.toNat:Int)*(2:Int)%(256:Int)) 29=((xt a).toNat:Int):=by
 rw [MI,Z3,xt,aeG (by rw [gt_iff_lt,UInt8.lt_iff_toNat_lt];show 127<_;omega)]
theorem Z5 (a:UInt8) (h:(a.toNat:Int)<=127):((a.toNat:Int)*(2:Int)%(256:Int))=((xt a).toNat:Int):=by
 rw [MI,xt,aeE (by rw [gt_iff_lt,UInt8.lt_iff_toNat_lt];simp;omega)]
theorem Z6 (n:Nat) (a b o:UInt8) (h:((b.toNat:Int) !=0)=false):gm n a b o=o:=by
 have:b=0:=by
  apply agA.1
  simpa using h
 subst this;exact JA n a o
theorem Z7 (b:UInt8) (h:(bits BinOp.and IntKind.u8 (b.toNat:Int) 1 !=0)=true):¬b&&&1=0:=by
 intro h2;rw [MK,h2] at h;exact absurd h (by decide)
theorem Z8 (b:UInt8) (h:(bits BinOp.and IntKind.u8 (b.toNat:Int) 1 !=0)=false):b&&&1=0:=by
 rw [MK] at h
 have h2:((b&&&1).toNat:Int)=0:=by simpa only [bne_eq_false_iff_eq] using h
 apply agA.1
 show _=0
 omega
set_option maxRecDepth 100000 in
set_option maxHeartbeats 400000 in
theorem Z9 (a b:UInt8) (w:World):
  Calls Try.prog 66 #[B a,B b] w fun e w'=>e= .returned (B (aH a b))/\w=w':=by
 go_enter Try.func66,Try.ntmps66
 go_wp2
 go_loop [0,1,5] (fun x y o=>∃(n:Nat) (a' b' o':UInt8),x=B a'/\y=B b'/\o=B o'/\b'.toNat<2^n/\gm n a' b' o'=aH a b) (fun _ y _=>(intOf y).toNat)
 case atStart=>exact ⟨8,a,b,0,rfl,rfl,rfl,b.toNat_lt,rfl⟩
 case round=>
  obtain ⟨n,a',b',o',rfl,rfl,rfl,hb,hg⟩:=hrel
  have Hg:=Lib.hid hg
  clear hg
  by_cases h0:b'=0
  ·subst h0
   go_wp2
   go_ret
   rw [Z6 _ _ _ _ rfl] at Hg
   have hg:=Hg.out
   subst hg
   exact ⟨rfl,rfl⟩
  ·have hb0:0<b'.toNat:=by
    rcases af5 b'.toNat with h|h
    ·exact absurd (agA.1 h) h0
    ·exact h
   obtain ⟨m,rfl⟩:∃m,n=m+1:=by
    cases n with
    |zero=>simp at hb;omega
    |succ m=>exact ⟨m,rfl⟩
   have hs:(b'>>>1).toNat<2^m:=by
    have:=MJ b'
    have h2:2^(m+1)=2^m*2:=Nat.pow_succ ..
    omega
   have Hs:=Lib.hid hs
   clear hb
   have e1:=MJ b'
   have E1:=Lib.hid e1
   clear e1
   go_wp2
   all_goals
    go_round
    case rel=>
     refine ⟨m,xt a',b'>>>1,if b'&&&1=0 then o' else o'^^^a', ?_,by rw [E1.out], ?_,Hs.out,Hg.out⟩
     ·first|rw [Z4 _ (by assumption)]|rw [Z5 _ (by assumption)]
     ·first|rw [aeE (Z7 _ (by assumption)),JT]|rw [aeG (Z8 _ (by assumption))]
    case measure=>simp [intOf];omega
def oD:Array Value:=Array.replicate 510 (.int .u8 0)++Array.replicate 256 (.int .i64 0)
theorem aaa (w:World):(zeroValue 144).run Try.prog w= .ok (.agg oD) w:=by kernel_rfl
def jC (k i:Nat):Value:=
 if i<255 then (if i<k then B (pw i) else B 0) else if i<510 then (if i<k+255 then B (pw (i - 255)) else B 0) else .int .i64 (nc k (UInt8.ofNat (i - 510)))
theorem aab (i:Nat) (h:i<766):oD[i]? =some (jC 0 i):=by
 unfold oD jC
 rw [Array.getElem?_append]
 simp only [Array.size_replicate,Array.getElem?_replicate,nc]
 by_cases h1:i<255
 ·simp [h1,show i<510 by omega]
 ·by_cases h2:i<510
  ·simp [h1,h2]
  ·simp [h1,h2];omega
theorem aac (w:World):(w.alloc (.cells oD 144)).rowIs w.heap.size 144 766 (jC 0):=by
 have h:=World.rowIs_alloc w oD 144 (jC 0) (fun i hi=>aab i (by rw [show oD.size=766 by simp [oD]] at hi;exact hi))
 rwa [show oD.size=766 by simp [oD]] at h
attribute [irreducible] oD
theorem ML (p:UInt8):(127<p.toNat->(p.toNat*2)^^^285=(xt p).toNat)/\(p.toNat<=127->p.toNat*2=(xt p).toNat):=by
 have:=mi (fun p=>decide ((127<p.toNat->(p.toNat*2)^^^285=(xt p).toNat)/\(p.toNat<=127->p.toNat*2=(xt p).toNat))) (by decide+kernel) p
 exact af1 this
theorem aad (p:UInt8) (h:(255:Int)<(p.toNat:Int)*2):I (bits .xor .i64 ((p.toNat:Int)*2) 285)=I (xt p).toNat:=by
 have h1:=(ML p).1 (by omega)
 have h2:=V1 (p.toNat*2) 285 (by have:=p.toNat_lt;omega) (by omega)
 rw [h1] at h2
 rw [<-h2];rfl
theorem aae (p:UInt8) (h:(p.toNat:Int)*2<=255):I ((p.toNat:Int)*2)=I (xt p).toNat:=by
 have h1:=(ML p).2 (by omega)
 rw [<-h1];rfl
theorem aaf (k:Nat) (hk:k<255) (w:World) (b:Nat) (h:w.rowIs b 144 766 (jC k)):
  (((w.setCell ⟨b,k,none⟩ (B (pw k))).setCell ⟨b,k+255,none⟩ (B (pw k))).setCell ⟨b,510+(pw k).toNat,none⟩ (I k)).rowIs b 144 766 (jC (k+1)):=by
 refine (((h.set k _).set (k+255) _).set _ _).congr fun i hi=> ?_
 have hp:=(pw k).toNat_lt
 unfold jC
 by_cases h1:i=510+(pw k).toNat
 ·subst h1
  rw [aeG rfl,aeE (by omega),aeE (by omega),show 510+(pw k).toNat - 510=(pw k).toNat by omega,UInt8.ofNat_toNat,nc,aeG rfl]
 ·rw [aeE h1]
  by_cases h2:i=k+255
  ·subst h2
   rw [aeG rfl,aeE (by omega),aeG (by omega),aeG (by omega),show k+255 - 255=k by omega]
  ·rw [aeE h2]
   by_cases h3:i=k
   ·subst h3
    rw [aeG rfl,aeG (by omega),aeG (by omega)]
   ·rw [aeE h3]
    by_cases h4:i<255
    ·rw [aeG h4,aeG h4]
     by_cases h5:i<k
     ·rw [aeG h5,aeG (by omega)]
     ·rw [aeE h5,aeE (by omega)]
    ·rw [aeE h4,aeE h4]
     by_cases h6:i<510
     ·rw [aeG h6,aeG h6]
      by_cases h5:i<k+255
      ·rw [aeG h5,aeG (by omega)]
      ·rw [aeE h5,aeE (by omega)]
     ·rw [aeE h6,aeE h6,nc,aeE]
      intro he
      apply h1
      rw [he,UInt8.toNat_ofNat']
      omega
set_option maxRecDepth 10000 in
set_option maxHeartbeats 400000 in
theorem MM (w:World):
  Calls Try.prog 92 #[] w fun e w'=>e= .returned (.pointer (some ⟨w.heap.size,0,none⟩))/\w'.rowIs w.heap.size 144 766 (jC 255)/\Below w.heap.size w w':=by
 have hnew:=aaa
 go_enter Try.func92,Try.ntmps92
 go_wp2
 go_loopw [2,5] (fun x i wr=>∃k:Nat,k<=255/\i=I k/\x=I (pw k).toNat/\wr.rowIs w.heap.size 144 766 (jC k)/\Below w.heap.size w wr) (fun _ i _=>(255 - intOf i).toNat)
 case atStart=>exact ⟨0,by omega,rfl,rfl,aac w,(afy _ _).alloc (aeO _) _⟩
 case round=>
  obtain ⟨k,hk,rfl,rfl,hrow,hb⟩:=hrel
  by_cases hlt:k<255
  ·have c1:=hrow.cell (i:=k) (by omega)
   have c2:=hrow.cell (i:=k+255) (by omega)
   have c3:=hrow.cell (i:=510+(pw k).toNat) (by have:=(pw k).toNat_lt;omega)
   have f1:=hrow.frozen k
   have f2:=hrow.frozen (k+255)
   have f3:=hrow.frozen (510+(pw k).toNat)
   have Hrow:=Lib.hid (aaf k hlt _ _ hrow)
   have Hb:=Lib.hid hb
   clear hrow hb
   generalize jC k k=v1 at c1
   generalize jC k (k+255)=v2 at c2
   generalize jC k (510+(pw k).toNat)=v3 at c3
   obtain ⟨p,hp⟩:∃p,p=pw k:=⟨_,rfl⟩
   rw [<-hp] at c3 f3 Hrow ⊢
   have Hp:=Lib.hid hp
   have p1:=JU p
   clear hp
   have e1:((p.toNat:Int)%256)=(p.toNat:Int):=by omega
   go_wp2
   go_region
   go_wp2
   all_goals
    go_roundw
    case rel=>
     refine ⟨k+1,by omega,by go_num, ?_,Hrow.out,(((Hb.out.setCell (aeO _) _).setCell (aeO _) _).drew).setCell (aeO _) _⟩
     rw [show pw (k+1)=xt (pw k) from rfl, <-Hp.out]
     first|exact aad p (by assumption)|exact aae p (by assumption)
    case measure=>simp [intOf];omega
  ·obtain rfl:k=255:=by omega
   have Hrow:=Lib.hid hrow
   have Hb:=Lib.hid hb
   clear hrow hb
   generalize (pw 255).toNat=q
   go_wp2
   go_ret
   exact ⟨rfl,Hrow.out,Hb.out⟩
theorem aag (n:Int): -254<=n.tmod 255/\n.tmod 255<=254:=by
 have h1:=Int.tmod_lt_of_pos n (show (0:Int)<255 by omega)
 have h2:=Int.tmod_lt_of_pos (-n) (show (0:Int)<255 by omega)
 rw [Int.neg_tmod] at h2
 omega
theorem aah (n:Int):n.tmod 255%255=n%255:=by
 have h:=Int.tmod_add_mul_tdiv n 255
 omega
set_option maxRecDepth 10000 in
set_option maxHeartbeats 400000 in
theorem aai (n:Int) (w:World):
  Calls Try.prog 81 #[I n] w fun e w'=>e= .returned (B (lB n))/\Below w.heap.size w w':=by
 have h1:=aag n
 have h2:jC 255 (n.tmod 255%255).toNat=B (lB n):=by
  have:=aah n
  rw [this,jC,aeG (by omega),aeG (by omega)];rfl
 have H2:=Lib.hid h2
 clear h2
 go_enter Try.func81,Try.ntmps81
 go_wp2_with (go_at_call 92;refine (MM _).mono ?_;rintro e w' ⟨rfl,hrow,hb⟩;have hc:=hrow.cell (i:=(n.tmod 255%255).toNat) (by omega);rw [H2.out] at hc;have Hrow:=Lib.hid hrow;clear hrow)
 go_ret
 exact ⟨rfl,hb⟩
theorem aaj (w:World):Calls Try.prog 80 #[B 0] w fun e w'=>e= .returned (.tuple #[I 0,I 5])/\Below w.heap.size w w':=by
 go_enter Try.func80,Try.ntmps80
 go_wp2
 go_ret2
 exact ⟨rfl,afy _ _⟩
set_option maxRecDepth 10000 in
set_option maxHeartbeats 400000 in
theorem aak (a:UInt8) (ha:a≠0) (w:World):
  Calls Try.prog 80 #[B a] w fun e w'=>e= .returned (.tuple #[I (lg a),I 0])/\Below w.heap.size w w':=by
 have hz:(((a.toNat:Int))==0)=false:=by rw [V0];simpa using ha
 have p1:=JU a
 have h2:jC 255 (510+a.toNat)=I (lg a):=by
  rw [jC,aeE (by omega),aeE (by omega),show 510+a.toNat - 510=a.toNat by omega,UInt8.ofNat_toNat];rfl
 have H2:=Lib.hid h2
 clear h2
 go_enter Try.func80,Try.ntmps80
 go_wp2_with (go_at_call 92;refine (MM _).mono ?_;rintro e w' ⟨rfl,hrow,hb⟩;have hc:=hrow.cell (i:=510+a.toNat) (by omega);rw [H2.out] at hc;have Hrow:=Lib.hid hrow;clear hrow)
 go_ret2
 exact ⟨rfl,hb⟩
theorem aal (w:World):Calls Try.prog 65 #[B 0] w fun e w'=>e= .returned (.tuple #[B 0,I 5])/\Below w.heap.size w w':=by
 go_enter Try.func65,Try.ntmps65
 go_wp2_with (go_at_call 80;refine (aaj _).mono ?_;rintro e w' ⟨rfl,hb⟩)
 go_ret2
 exact ⟨rfl,hb⟩
theorem aam (a:UInt8) (ha:a≠0) (w:World):
  Calls Try.prog 65 #[B a] w fun e w'=>e= .returned (.tuple #[B (dN a),I 0])/\Below w.heap.size w w':=by
 have hl:=JE a
 go_enter Try.func65,Try.ntmps65
 go_wp2_with (first|(go_at_call 80;refine (aak a ha _).mono ?_;rintro e w' ⟨rfl,hb⟩)|(go_at_call 81;refine (aai _ _).mono ?_;rintro e w'' ⟨rfl,hb2⟩))
 go_ret2
 exact ⟨rfl,hb.trans (hb2.mono hb.size)⟩
def Bj (a:UInt8):Int:=if a=0 then 5 else 0
def gx (a:UInt8):UInt8:=if a=0 then 0 else dN a
theorem aan (a:UInt8) (w:World):Calls Try.prog 65 #[B a] w fun e w'=>e= .returned (.tuple #[B (gx a),I (Bj a)])/\Below w.heap.size w w':=by
 unfold gx Bj
 by_cases ha:a=0
 ·subst ha;exact aal w
 ·rw [aeE ha,aeE ha];exact aam a ha w
open Go.RowKit
def aao (sz by_:Nat) (zs:List AV):ba:=⟨8,[.tmp 2],
 .seq (.cC [⟨some 2, .mov (.c .emp),none⟩] none)
 (.seq (.seq (.cC [⟨some 3, .mov (.s 0),none⟩,⟨some 4, .isn .sl false (.s 3),none⟩] none)
 (.cond (.s 4)
  (.seq (.cC [⟨some 2, .mov (.c .emp),none⟩] none)
  (.ret))
  (.skip)))
 (.seq (.cC [⟨some 5, .bsl sz 0 zs [],none⟩,⟨some 6, .mov (.s 0),none⟩,⟨some 7, .app sz by_ (.s 5) (.s 6),none⟩,⟨some 2, .mov (.s 7),none⟩] none)
 (.ret)))⟩
theorem MN {zs:List AV} (hF:cFunc P f=some (aao sz by_ zs)) (fe:α->List AV) (hp:∀y,(fe y).all AV.pu1=true) (hz:sz≠0) (zf:zs.length=sz) (xs:List α) (hx:((xs.length:Nat):Int)*by_<=140737488355328):Fo P f [.aV sz (xs.map fe)] sz (xs.map fe):=by
 refine Q9 ?_
 rw [aeS]
 refine fV (m:=[]) (m':=[some ⟨sz,(xs.map fe)⟩]) hF (af1 (by kernel_rfl)) ?_
 refine DY 1 [0] ⟨[(0, .aV sz (xs.map fe))],[]⟩ ?_
 refine EL.QU [0] (fun y=>(y=⟨[(0, .aV sz (xs.map fe))],[]⟩/\((List.isEmpty xs=true)\/(List.isEmpty xs=false)))) ?_ ?_
 ·intro aeh MO
  refine DZ 1 ⟨[(3, .aV sz (xs.map fe)),(0, .aV sz (xs.map fe))],[]⟩ ?_
  cases h2:(List.isEmpty xs)
  ·refine zx ⟨[(4, .v (.bool false)),(3, .aV sz (xs.map fe)),(0, .aV sz (xs.map fe))],[]⟩ (QW fe xs (.s 3) sz false (by kernel_rfl) (by kernel_rfl) (.inl rfl) h2) ?_
   refine zw 0 [0,4] ⟨[(4, .v (.bool false)),(0, .aV sz (xs.map fe))],[]⟩ ?_
   refine VH ?_
   refine EL.skip ?_
   exact tN (MO.get ⟨by kernel_rfl,(Or.inr h2)⟩)
  ·refine zx ⟨[(4, .dP),(3, .aV sz (xs.map fe)),(0, .aV sz (xs.map fe))],[]⟩ (QX fe xs (.s 3) sz false (by kernel_rfl) (by kernel_rfl) (.inl rfl) h2) ?_
   refine zw 0 [0,4] ⟨[(4, .dP),(0, .aV sz (xs.map fe))],[]⟩ ?_
   refine EL.C4 (by kernel_rfl) ?_ ?_
   ·refine DY 1 [2] ⟨[(2, .emp)],[]⟩ ?_
    refine VJ ?_
    refine ⟨.inr rfl,⟨[(2, .own 0 sz 0 (List.length xs))],[some ⟨sz,(xs.map fe)⟩]⟩,norm_le (live:=[2]) (src:=[.new sz]) (es:=[(2,0)]) (by rw [afI.1 h2];cases sz with|zero=>exact absurd rfl hz|succ n=>kernel_rfl) trivial,by kernel_rfl,rfl⟩
   ·refine EL.skip ?_
    exact tN (MO.get ⟨by kernel_rfl,(Or.inl h2)⟩)
 rintro _ (⟨rfl,hD3⟩)
 refine DZ 2 ⟨[(6, .aV sz (xs.map fe)),(5, .own 0 sz 0 0),(0, .aV sz (xs.map fe))],[some ⟨sz,[]⟩]⟩ ?_
 refine zx ⟨(7, .own 1 sz 0 (List.length xs))::[(6, .aV sz (xs.map fe)),(5, .own 0 sz 0 0),(0, .aV sz (xs.map fe))],[none,some ⟨sz,(xs.map fe)⟩]⟩ (VO fe ([]:List α) xs (.s 5) (.s 6) sz by_ 0 (.aV sz (xs.map fe)) .aV (by simp;omega)) ?_
 refine zw 1 [2] ⟨[(2, .own 1 sz 0 (List.length xs))],[none,some ⟨sz,(xs.map fe)⟩]⟩ ?_
 refine EL.ret ?_
 exact VL [2] [ut 1] ⟨[(2, .own 0 sz 0 (List.length xs))],[some ⟨sz,(xs.map fe)⟩]⟩ ⟨pq sz fe xs (by kernel_rfl) hp,trivial⟩
open Go.RowKit
theorem aap:∀{vs:List Value} {ws:Array Value},RC E ws (vs.map AV.v)->ws=vs.toArray:=by
 intro vs ws h
 apply Array.ext
 ·simpa using h.1
 ·intro i h1 h2
  have h3:i<vs.length:=by simpa using h2
  have:=h.2 i ws[i] (.v vs[i]) (aeV h1) (by rw [aeY,aeL h3];rfl)
  generalize hq:ws[i]=q at this
  generalize hp:vs[i]=p at this
  have e:q=p:=by cases this with|v h=>rfl
  rw [e, <-hp];simp
theorem Gt {u:Value} (hr:∀E:Env,aj E u r) (h:∀w,Calls P f vs.toArray w fun e w'=>e= .returned u/\Below w.heap.size w w'):Fn P f (vs.map AV.v) r:=by
 intro w J ws hJ hG di
 rw [aap di]
 exact (h w).mono fun e w' ⟨h1,h2⟩=>⟨u,h1,hr _,h2⟩
theorem aaq {a b:Value} (ha:plainV a=true) (hb:plainV b=true):aj E (.tuple #[a,b]) (.bm [.v a, .v b]):=by
 refine .bm rfl fun i v c hv hc=> ?_
 match i with
 |0=>simp at hv hc;subst hv;subst hc;exact .v ha
 |1=>simp at hv hc;subst hv;subst hc;exact .v hb
 |i+2=>simp at hc
def Bl:bj Tc Tc.dn:=⟨66,[.ty .cE, .ty .cE],fun _=>True,[.cE],fun x=>aH x.1 x.2.1⟩
theorem Gu:Bl.Ok Try.prog tB:=⟨Uz,fun x N _=>Gt (vs:=[B x.1,B x.2.1]) (u:=B (aH x.1 x.2.1)) (fun _=> .v rfl) fun w=>(Z9 x.1 x.2.1 w).mono fun e w' ⟨h1,h2⟩=>⟨h1,by subst h2;exact afy _ _⟩⟩
def Gv:bj Tc Tc.dn:=⟨65,[.ty .cE],fun _=>True,[.cE, .aA],fun x=>(gx x.1,Bj x.1)⟩
theorem MP:Gv.Ok Try.prog tB:=⟨Uy,fun x N _=>Gt (vs:=[B x.1]) (u:= .tuple #[B (gx x.1),I (Bj x.1)]) (fun _=>aaq rfl rfl) fun w=>aan x.1 w⟩
open Go.RowKit
theorem aar {α:Type} (d:α) (xs:List α) (i:Int) (h0:0<=i) (h:i<xs.length):xs.drop i.toNat=gd d xs i.toNat::xs.drop (i+1).toNat:=by
 rw [show (i+1).toNat=i.toNat+1 by omega];exact qJ d (by omega)
theorem aas {α:Type} (xs:List α) (i:Int) (h:xs.length<=i):xs.drop i.toNat=[]:=agB (by omega)
def qc (n:Int):List (List UInt8)->Int
 |[]=>0
 |r::l=>if 16<(r.length:Int) then 2 else if r.length=0\/(r.length:Int)≠n then 1 else qc n l
def iJ (a:List (List UInt8)):Int:=if 16<a.length then 2 else if a.length=0 then 1 else qc (gd [] a 0).length a
def xG:List UInt8->List UInt8->UInt8->UInt8
 |[],_,o=>o
 |x::l,b,o=>xG l (b.drop 1) (o^^^aH x (gd 0 b 0))
def bM (m n:Int) (f:Nat->Nat->UInt8):List (List UInt8):=(List.range m.toNat).map fun i=>(List.range n.toNat).map fun k=>f i k
def xH (a:(List (List UInt8))) (i:Int):Prop:=0<=i/\i<=a.length/\0<a.length/\a.length<=16/\qc (gd [] a 0).length (a.drop i.toNat)=qc (gd [] a 0).length a
def Gw:bj Tc Tc.dn:=⟨74,[.ty .iI],fun x=>(fun (a:(List (List UInt8)))=>True) x.1,[.aA],fun x=>(fun (a:(List (List UInt8)))=>iJ a) x.1⟩
theorem aat (a:(List (List UInt8))):((16:Int)<(↑a.length:Int)->(2:Int)=iJ a)/\((↑a.length:Int)<=(16:Int)->((↑a.length:Int)=(0:Int)->(1:Int)=iJ a)/\(¬(↑a.length:Int)=(0:Int)->xH a (0:Int)/\∀(x:Int),xH a x->(x<(↑a.length:Int)->((0:Int)<=x/\x<(↑a.length:Int))/\((16:Int)<(↑(gd [] a x.toNat).length:Int)->(2:Int)=iJ a)/\((↑(gd [] a x.toNat).length:Int)<=(16:Int)->(¬(↑(gd [] a x.toNat).length:Int)=(0:Int)->(0:Int)<=(0:Int)/\(0:Int)<(↑a.length:Int))/\((↑(gd [] a x.toNat).length:Int)=(0:Int)/\(↑(gd [] a x.toNat).length:Int)=(0:Int)\/¬(↑(gd [] a x.toNat).length:Int)=(0:Int)/\¬(↑(gd [] a x.toNat).length:Int)=(↑(gd [] a (Int.toNat (0:Int))).length:Int)->(1:Int)=iJ a)/\((¬(↑(gd [] a x.toNat).length:Int)=(0:Int)\/¬(↑(gd [] a x.toNat).length:Int)=(0:Int))/\((↑(gd [] a x.toNat).length:Int)=(0:Int)\/(↑(gd [] a x.toNat).length:Int)=(↑(gd [] a (Int.toNat (0:Int))).length:Int))->aB (x+(1:Int))/\xH a (x+(1:Int))/\((↑a.length:Int) - (x+(1:Int))).toNat<((↑a.length:Int) - x).toNat)))/\((↑a.length:Int)<=x->(0:Int)=iJ a))):=by
 (repeat' (first|apply And.intro|intro _))<;>first|assumption|trivial|omega|(grind [iJ,qc,aar,aas,aB,xH])|trace_state
theorem aau:Gw.Ok Try.prog tB:=bV gE (Δ:=[]) trivial (Ω:=[]) trivial Gw UE UF (fun _=>[]) (fun _=>trivial) 0 (fun x=>(fun (a:(List (List UInt8)))=>(fun k=>bif Nat.beq k 0 then some (.inv [.sl 15 .aA] (fun zo zv=>(fun (i:Int)=>xH a i) zv.1) (fun zo zv=>(fun (i:Int)=>((a.length:Int) - i).toNat) zv.1)) else none)) x.1) fun x hp=>Eq.mp (by kernel_rfl) (aat x.1)
def Bm:bj Tc Tc.dn:=⟨62,[.ty .aA],fun x=>(fun (n:Int)=>True) x.1,[.eC],fun x=>(fun (n:Int)=>decide (1<=n/\n<=16)) x.1⟩
theorem aav (n:Int):((1:Int)<=n->(1:Int)<=n)/\((1:Int)<=n->(1:Int)<=n)/\(decide ((1:Int)<=n)&&decide (n<=(16:Int)))=decide ((1:Int)<=n/\n<=(16:Int)):=by
 (repeat' (first|apply And.intro|intro _))<;>first|assumption|trivial|omega|(grind [])|trace_state
theorem MQ:Bm.Ok Try.prog tB:=bV gE (Δ:=[]) trivial (Ω:=[]) trivial Bm Ut Uu (fun _=>[]) (fun _=>trivial) 0 (fun x=>(fun (n:Int)=>(fun _=>none)) x.1) fun x hp=>Eq.mp (by kernel_rfl) (aav x.1)
def Gx:bj Tc Tc.dn:=⟨95,[.ty .aA, .ty .aA],fun x=>(fun (i:Int) (k:Int)=>True) x.1 x.2.1,[.cE],fun x=>(fun (i:Int) (k:Int)=>if i=k then 1 else 0) x.1 x.2.1⟩
theorem aaw (i:Int) (k:Int):(i=k->UInt8.ofNat (Int.toNat (1:Int))=if i=k then (1:RD Tc.dn [Tc.cE]) else (0:RD Tc.dn [Tc.cE]))/\(¬i=k->UInt8.ofNat (Int.toNat (0:Int))=if i=k then (1:RD Tc.dn [Tc.cE]) else (0:RD Tc.dn [Tc.cE])):=by
 (repeat' (first|apply And.intro|intro _))<;>first|assumption|trivial|omega|(grind [])|trace_state
theorem aax:Gx.Ok Try.prog tB:=bV gE (Δ:=[]) trivial (Ω:=[]) trivial Gx U6 U7 (fun _=>[]) (fun _=>trivial) 0 (fun x=>(fun (i:Int) (k:Int)=>(fun _=>none)) x.1 x.2.1) fun x hp=>Eq.mp (by kernel_rfl) (aaw x.1 x.2.1)
open Go.RowKit
def nF (n:Nat) (f:Nat->UInt8):ByteArray:=⟨((List.range n).map f).toArray⟩
theorem Bn {f:Nat->UInt8}:(nF n f).size=n:=by simp [nF,ByteArray.size]
theorem MR (l:List UInt8) (i:Nat):gb ⟨l.toArray⟩ i=gd 0 l i:=by
 unfold gb gd
 congr 1
 by_cases h:i<l.length
 ·rw [aeL h]
  have h2:i<(⟨l.toArray⟩:ByteArray).size:=by simpa [ByteArray.size] using h
  rw [getElem?_pos (⟨l.toArray⟩:ByteArray) i h2];rfl
 ·rw [afM (by omega)]
  have h2:¬i<(⟨l.toArray⟩:ByteArray).size:=by simpa [ByteArray.size] using h
  rw [getElem?_neg (⟨l.toArray⟩:ByteArray) i h2]
theorem aay {f:Nat->UInt8} (h:i<n):gb (nF n f) i=f i:=by
 unfold nF
 rw [MR]
 unfold gd
 rw [aeY,afW h];rfl
theorem aaz {f g:Nat->UInt8} (h:∀i,i<n->f i=g i):nF n f=nF n g:=by
 unfold nF
 rw [afR fun i hi=>h i (ae6.1 hi)]
theorem MS {l:List UInt8} {f:Nat->UInt8} (h:l.length=n) (hf:∀i,i<n->gd 0 l i=f i):(⟨l.toArray⟩:ByteArray)=nF n f:=by
 unfold nF
 congr 2
 refine agb (by simp [h]) fun i h1 h2=> ?_
 have:=hf i (by omega)
 unfold gd at this
 rw [aeL h1] at this
 simpa using this
theorem MT (s:ByteArray):s=nF s.size fun i=>gb s i:=by
 have e:s=⟨s.data.toList.toArray⟩:=by cases s;rfl
 have h:=MS (l:=s.data.toList) (n:=s.size) (f:=fun i=>gb s i) rfl fun i hi=>by rw [<-MR, <-e]
 rwa [<-e] at h
theorem aaA {s t:ByteArray} (h:s.size=t.size) (hf:∀i,i<s.size->gb s i=gb t i):s=t:=by
 rw [MT s,MT t, <-h];exact aaz hf
def oE (row:List UInt8) (pieces:List ByteArray):ByteArray:=nF (gd ByteArray.empty pieces 0).size fun j=>sg pieces.length fun k=>aH (gd 0 row k) (gb (gd ByteArray.empty pieces k) j)
def bH (by_:List (List UInt8)) (pieces:List ByteArray):List ByteArray:=by_.map fun row=>oE row pieces
structure iK (by_:List (List UInt8)) (pieces:List ByteArray):Prop where
 p0:0<pieces.length
 p1:pieces.length<=100
 b1:by_.length<=100
 w:∀r,r∈by_->pieces.length<=r.length
 s:∀s,s∈pieces->(gd ByteArray.empty pieces 0).size<=s.size
 s0:(gd ByteArray.empty pieces 0).size<=1000000
structure gF (by_:List (List UInt8)) (pieces:List ByteArray) (i:Int) (out:List ByteArray):Prop where
 lo:0<=i
 hi:i<=by_.length
 len:out.length=by_.length
 qd:∀j,j<i.toNat->gd ByteArray.empty out j=oE (gd [] by_ j) pieces
structure j8 (by_:List (List UInt8)) (pieces:List ByteArray) (i k:Int) (b:List UInt8):Prop where
 lo:0<=k
 hi:k<=pieces.length
 len:b.length=(gd ByteArray.empty pieces 0).size
 qd:∀j,j<b.length->gd 0 b j=sg k.toNat fun t=>aH (gd 0 (gd [] by_ i.toNat) t) (gb (gd ByteArray.empty pieces t) j)
structure gG (by_:List (List UInt8)) (pieces:List ByteArray) (i k j:Int) (b:List UInt8):Prop where
 MU:0<=k
 MV:k<pieces.length
 lo:0<=j
 hi:j<=b.length
 len:b.length=(gd ByteArray.empty pieces 0).size
 qd:∀t,t<b.length->gd 0 b t=sg (if t<j.toNat then k.toNat+1 else k.toNat) fun t'=>aH (gd 0 (gd [] by_ i.toNat) t') (gb (gd ByteArray.empty pieces t') t)
section
variable {by_:List (List UInt8)} {pieces:List ByteArray} {i k j:Int} {b:List UInt8} {out:List ByteArray}
theorem iK.row (h:iK by_ pieces) (h1:0<=i) (h2:i<by_.length):pieces.length<=(gd [] by_ i.toNat).length:=h.w _ (eV (by omega))
theorem iK.str (h:iK by_ pieces) (h1:0<=k) (h2:k<pieces.length):(gd ByteArray.empty pieces (Int.toNat 0)).size<=(gd ByteArray.empty pieces k.toNat).size:=h.s _ (eV (by omega))
theorem gF.start {z:ByteArray}:gF by_ pieces 0 (List.replicate (by_.length:Int).toNat z):=⟨by omega,by omega,by simp,fun j hj=>by simp at hj⟩
theorem j8.start {n:Int} (h:n=((gd ByteArray.empty pieces (Int.toNat 0)).size:Int)):j8 by_ pieces i 0 (List.replicate n.toNat (UInt8.ofNat (Int.toNat 0))):=⟨by omega,by omega,by rw [afP,h];rfl,fun j hj=>by
 rw [afP] at hj
 unfold gd;rw [List.getElem?_replicate,aeG hj];rfl⟩
theorem gG.start (h:j8 by_ pieces i k b) (hk:k<pieces.length):gG by_ pieces i k 0 b:=⟨h.lo,hk,by omega,by omega,h.len,fun t ht=>by rw [aeE (by simp),h.qd t ht]⟩
theorem gG.step {x y:UInt8} (h:gG by_ pieces i k j b) (hj:j<b.length) (hx:x=gd 0 (gd [] by_ i.toNat) k.toNat) (hy:y=gb (gd ByteArray.empty pieces k.toNat) j.toNat):gG by_ pieces i k (j+1) (b.set j.toNat (gd 0 b j.toNat^^^aH x y)):=by
 have h0:=h.lo
 refine ⟨h.MU,h.MV,by omega,by rw [ae4];omega,by rw [ae4];exact h.len,fun t ht=> ?_⟩
 rw [ae4] at ht
 rw [uE (by omega)]
 by_cases e:j.toNat=t
 ·rw [aeG e,aeG (by omega),h.qd _ (by omega),aeE (by omega),hx,hy]
  subst e;rfl
 ·rw [aeE e,h.qd t ht]
  congr 1
  by_cases e2:t<j.toNat
  ·rw [aeG e2,aeG (by omega)]
  ·rw [aeE e2,aeE (by omega)]
theorem gG.fin (h:gG by_ pieces i k j b) (hj:b.length<=j):j8 by_ pieces i (k+1) b:=by
 have h0:=h.MU
 have h1:=h.MV
 refine ⟨by omega,by omega,h.len,fun t ht=> ?_⟩
 rw [h.qd t ht,aeG (by omega),show (k+1).toNat=k.toNat+1 by omega]
theorem gF.step (h:gF by_ pieces i out) (hi:i<by_.length) (hk:j8 by_ pieces i k b) (he:pieces.length<=k):gF by_ pieces (i+1) (out.set i.toNat ⟨(List.map id b).toArray⟩):=by
 have h0:=h.lo
 have hl:=h.len
 refine ⟨by omega,by omega,by rw [ae4];exact hl,fun t ht=> ?_⟩
 rw [uE (by omega)]
 by_cases e:i.toNat=t
 ·rw [aeG e,List.map_id]
  unfold oE
  refine MS hk.len fun q hq=> ?_
  rw [hk.qd q (by rw [hk.len];exact hq),show k.toNat=pieces.length by have:=hk.hi;omega,e]
 ·rw [aeE e];exact h.qd t (by omega)
theorem gF.fin (h:gF by_ pieces i out) (he:by_.length<=i):out=bH by_ pieces:=by
 have hl:=h.len
 have hh:=h.hi
 unfold bH
 refine agb (by simp [hl]) fun t h1 h2=> ?_
 have:=h.qd t (by omega)
 unfold gd at this
 rw [aeL h1,aeL (show t<by_.length by omega)] at this
 simpa using this
end
def xI (by_:(List (List UInt8))) (pieces:(List ByteArray)) (j0:Int) (k0:Int) (i0:Int) (b0:(List UInt8)) (j:Int) (k:Int) (i:Int) (b:(List UInt8)):Prop:=i=i0/\k=k0/\b.length=b0.length/\gG by_ pieces i k j b
def xJ (by_:(List (List UInt8))) (pieces:(List ByteArray)) (k0:Int) (i0:Int) (b0:(List UInt8)) (k:Int) (i:Int) (b:(List UInt8)):Prop:=i=i0/\j8 by_ pieces i k b
def xK (by_:(List (List UInt8))) (pieces:(List ByteArray)) (i:Int) (out:(List ByteArray)):Prop:=gF by_ pieces i out
def Gy:bj Tc Tc.dn:=⟨48,[.ty .iI, .ty .jB],fun x=>(fun (by_:(List (List UInt8))) (pieces:(List ByteArray))=>iK by_ pieces) x.1 x.2.1,[.jB],fun x=>(fun (by_:(List (List UInt8))) (pieces:(List ByteArray))=>bH by_ pieces) x.1 x.2.1⟩
abbrev qe (pieces:(List ByteArray)):=(↑(gd ByteArray.empty pieces (Int.toNat (0:Int))).size:Int)
theorem aaB (by_:(List (List UInt8))) (pieces:(List ByteArray)) (hp:iK by_ pieces):((0:Int)<=(↑by_.length:Int)/\(↑by_.length:Int)<=(↑by_.length:Int)/\(↑by_.length:Int)*(↑(16:Nat):Int)<=(140737488355328:Int))/\xK by_ pieces (0:Int) (List.replicate (↑by_.length:Int).toNat (ByteArray.mk #[]))/\∀(x:Int) (af:List ByteArray),xK by_ pieces x af->(x<(↑by_.length:Int)->((0:Int)<=x/\x<(↑by_.length:Int))/\((0:Int)<=(0:Int)/\(0:Int)<(↑pieces.length:Int))/\((0:Int)<=(qe pieces)/\(qe pieces)<=(qe pieces)/\(qe pieces)*(↑(1:Nat):Int)<=(140737488355328:Int))/\xJ by_ pieces (0:Int) x (List.replicate (qe pieces).toNat (UInt8.ofNat (Int.toNat (0:Int)))) (0:Int) x (List.replicate (qe pieces).toNat (UInt8.ofNat (Int.toNat (0:Int))))/\∀(aC ae:Int) (aD:List UInt8),xJ by_ pieces (0:Int) x (List.replicate (qe pieces).toNat (UInt8.ofNat (Int.toNat (0:Int)))) aC ae aD->(aC<(↑pieces.length:Int)->((0:Int)<=aC/\aC<(↑pieces.length:Int))/\xI by_ pieces (0:Int) aC ae aD (0:Int) aC ae aD/\∀(aF aU aE:Int) (bq:List UInt8),xI by_ pieces (0:Int) aC ae aD aF aU aE bq->(aF<(↑aD.length:Int)->((0:Int)<=aF/\aF<(↑bq.length:Int))/\aF.toNat<bq.length/\((0:Int)<=aC/\aC<(↑(gd [] by_ x.toNat).length:Int))/\((0:Int)<=aF/\aF<(↑(gd ByteArray.empty pieces aC.toNat).size:Int))/\True/\((0:Int)<=aF/\aF<(↑bq.length:Int))/\aF.toNat<bq.length/\aB (aF+(1:Int))/\xI by_ pieces (0:Int) aC ae aD (aF+(1:Int)) aU aE (bq.set aF.toNat (gd (0:UInt8) bq aF.toNat^^^aH (gd (0:UInt8) (gd [] by_ x.toNat) aC.toNat) (gb (gd ByteArray.empty pieces aC.toNat) aF.toNat)))/\((↑(bq.set aF.toNat (gd (0:UInt8) bq aF.toNat^^^aH (gd (0:UInt8) (gd [] by_ x.toNat) aC.toNat) (gb (gd ByteArray.empty pieces aC.toNat) aF.toNat))).length:Int) - (aF+(1:Int))).toNat<((↑bq.length:Int) - aF).toNat)/\((↑aD.length:Int)<=aF->aB (aU+(1:Int))/\xJ by_ pieces (0:Int) x (List.replicate (qe pieces).toNat (UInt8.ofNat (Int.toNat (0:Int)))) (aU+(1:Int)) aE bq/\((↑pieces.length:Int) - (aU+(1:Int))).toNat<((↑pieces.length:Int) - aC).toNat))/\((↑pieces.length:Int)<=aC->((0:Int)<=x/\x<(↑af.length:Int))/\x.toNat<af.length/\aB (ae+(1:Int))/\xK by_ pieces (ae+(1:Int)) (af.set x.toNat (ByteArray.mk (List.map id aD).toArray))/\((↑by_.length:Int) - (ae+(1:Int))).toNat<((↑by_.length:Int) - x).toNat))/\((↑by_.length:Int)<=x->af=bH by_ pieces):=by
 delta qe
 have p0:=hp.p0
 have p1:=hp.p1
 have p2:=hp.b1
 have p3:=hp.s0
 have p4:=fun i=>iK.row (i:=i) hp
 have p5:=fun k=>iK.str (k:=k) hp
 have a1:= @gF.start by_ pieces ByteArray.empty
 have a2:= @j8.start by_ pieces
 have a3:= @gG.start by_ pieces
 have a4:= @gG.step by_ pieces
 have a5:= @gG.fin by_ pieces
 have a6:= @gF.step by_ pieces
 have a7:= @gF.fin by_ pieces
 have b1:= @gF.lo by_ pieces
 have b2:= @gF.hi by_ pieces
 have b3:= @gF.len by_ pieces
 have c1:= @j8.lo by_ pieces
 have c2:= @j8.hi by_ pieces
 have c3:= @j8.len by_ pieces
 have d1:= @gG.lo by_ pieces
 have d2:= @gG.hi by_ pieces
 have d3:= @gG.len by_ pieces
 (repeat' (first|apply And.intro|intro _))<;>first|assumption|trivial|omega|(grind [xI,xJ,xK,aB])|trace_state
theorem aaC:Gy.Ok Try.prog tB:=bV gE (Δ:=[Bl]) ⟨Gu,trivial⟩ (Ω:=[]) trivial Gy Jq Jr (fun _=>[]) (fun _=>trivial) 0 (fun x=>(fun (by_:(List (List UInt8))) (pieces:(List ByteArray))=>(fun k=>bif Nat.beq k 0 then some (.inv [.sl 17 .aA, .ow 5 .fZ] (fun zo zv=>(fun (i:Int) (out:(List ByteArray))=>xK by_ pieces i out) zv.1 zv.2.1) (fun zo zv=>(fun (i:Int) (out:(List ByteArray))=>((by_.length:Int) - i).toNat) zv.1 zv.2.1)) else bif Nat.beq k 1 then some (.inv [.sl 29 .aA, .sl 17 .aA, .ow 8 .cE] (fun zo zv=>(fun (k0:Int) (i0:Int) (b0:(List UInt8)) (k:Int) (i:Int) (b:(List UInt8))=>xJ by_ pieces k0 i0 b0 k i b) zo.1 zo.2.1 zo.2.2.1 zv.1 zv.2.1 zv.2.2.1) (fun zo zv=>(fun (k0:Int) (i0:Int) (b0:(List UInt8)) (k:Int) (i:Int) (b:(List UInt8))=>((pieces.length:Int) - k).toNat) zo.1 zo.2.1 zo.2.2.1 zv.1 zv.2.1 zv.2.2.1)) else bif Nat.beq k 2 then some (.inv [.sl 36 .aA, .sl 29 .aA, .sl 17 .aA, .ow 8 .cE] (fun zo zv=>(fun (j0:Int) (k0:Int) (i0:Int) (b0:(List UInt8)) (j:Int) (k:Int) (i:Int) (b:(List UInt8))=>xI by_ pieces j0 k0 i0 b0 j k i b) zo.1 zo.2.1 zo.2.2.1 zo.2.2.2.1 zv.1 zv.2.1 zv.2.2.1 zv.2.2.2.1) (fun zo zv=>(fun (j0:Int) (k0:Int) (i0:Int) (b0:(List UInt8)) (j:Int) (k:Int) (i:Int) (b:(List UInt8))=>((b.length:Int) - j).toNat) zo.1 zo.2.1 zo.2.2.1 zo.2.2.2.1 zv.1 zv.2.1 zv.2.2.1 zv.2.2.2.1)) else none)) x.1 x.2.1) fun x hp=>Eq.mp (by kernel_rfl) (aaB x.1 x.2.1 hp)
end Go.Proofs.Ytboaekdecndckaa
