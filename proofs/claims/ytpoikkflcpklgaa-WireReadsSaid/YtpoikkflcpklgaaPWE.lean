/- What functions answer (contracts). No condition. -/
import Derived.Test.YtpoikkflcpklgaaPSxM
import Derived.Test.YtpoikkflcpklgaaPAc
import Derived.Test.YtpoikkflcpklgaaPSxX
import Derived.WalkKit
import Derived.Handy
import Derived.ProofKit
import Derived.OpenShut
import Derived.ShutString
import Derived.ChangeOld
import Derived.Below
import Derived.Lib.Hide
import Derived.WalkLawsBesides
import Derived.WalkSpells
import Derived.Deep.QuietTactic
import Derived.BigQuiet
import Derived.Defers
import Derived.Recover
import Derived.Laws.Pointers
import Derived.BigCall
import Derived.RegionTactic
import Derived.Lib.FrozenHead
import Derived.Lib.FrozenHead2
set_option linter.unusedSectionVars false
set_option linter.unusedSimpArgs false
set_option linter.unusedVariables false
set_option maxHeartbeats 4000000
set_option maxRecDepth 100000
namespace Go.Proofs.Ytpoikkflcpklgaa
variable {F:da} {x y:AV} {s:ByteArray} {E:Env} {Q Q':Exit->Go.Act->World->Prop} {a:Go.Act} {K:Go.Act->World->Prop} {ps:List (List az)} {out:List aF} {m:aF} {b n u k0 i base q W0 R M:Nat} {g:Nat->Option Bk} {J:Nat->Prop} {N N':aw} {P:Program} {s':S3} {α β:Type} {v:Value} {w w':World}
open Go.RowKit
abbrev LZ:=@Bool.not_true
abbrev Mc:=@Below.heap_setCell
abbrev Mz:=@Array.getElem?_modify
abbrev MJ:=@World.alloc_heap_new
abbrev M3:=@List.getElem?_zip_eq_some
section
variable {F:Go.Fence} {m:Nat} {P:Program} {ops:Array Oper}
theorem wpIn_exit (hq:∀e a w,e≠ .normal->Q e a w->Q' e a w) {o:Oper} (h:o.wpIn F m P a w K Q):o.wpIn F m P a w K Q':=by
 unfold Oper.wpIn at*
 refine ⟨h.1, ?_⟩
 have hh:=h.2
 generalize (o.semAt F.round a.eval).run P w=r at*
 cases r with
 |ok x w'=>
  cases x<;>simp only [Oper.uponIn] at hh ⊢ <;>
   first
    |exact hh
    |exact ⟨hh.1,CallsIn.mono hh.2 (fun e w'' he=>by cases e<;>first|exact he|exact hq _ _ _ (by simp) he|(obtain ⟨a1,w1,h1⟩:=he;exact ⟨a1,w1,hq _ _ _ (by simp) h1⟩))⟩
    |exact ⟨hh.1,RoundIn.mono hh.2 (fun e w'' he=>by cases e<;>first|exact he|exact hq _ _ _ (by simp) he|(obtain ⟨a1,w1,h1⟩:=he;exact ⟨a1,w1,hq _ _ _ (by simp) h1⟩))⟩
 |halt x w'=>cases x<;>simp only [Oper.uponIn] at hh ⊢ <;>first|exact hh|exact hq _ _ _ (by simp) hh
theorem Iu (hq:∀e a w,e≠ .normal->Q e a w->Q' e a w) (h:wpOpIn F m P ops Q i K a w):wpOpIn F m P ops Q' i K a w:=by
 unfold wpOpIn at*
 split
 ·rename_i ho;simpa [ho] using h
 ·rename_i o ho
  simp only [ho] at h
  split
  ·rename_i hw;simp only [hw,K3] at h;exact wpIn_exit hq h
  ·rename_i hw;simp only [hw] at h;exact h
theorem Ag {Q Q':Exit->Go.Act->World->Prop} (hq:∀e a w,e≠ .normal->Q e a w->Q' e a w) {l2:List Nat} (hn:∀a w,Q .normal a w->wpOpsIn F m P ops Q' l2 a w):∀{l1:List Nat} {a:Go.Act} {w:World},wpOpsIn F m P ops Q l1 a w->wpOpsIn F m P ops Q' (l1++l2) a w
 |[],a,w,h=>hn a w h
 |i::l1,a,w,h=>by
  rw [wpOpsIn_cons] at h
  rw [Mj,wpOpsIn_cons]
  exact Iu hq (wpOpIn_mono (fun a w h=>Ag hq hn h) h)
inductive nv (P:Program) (n k0:Nat):List (List az)->S3->S3->Prop
 |nil {s:S3}:nv P n k0 [] s s
 |cons {p:List az} {ps:List (List az)} {s t u s':S3} (hw:s.Le k0 n t) (h:fC P n k0 p t.σ t.g t.k u.σ u.g u.k) (r:nv P n k0 ps u s'):nv P n k0 (p::ps) s s'
theorem Iv {rd:Option Nat} {E0:Env} (hk0:∀id,E0.kn id->id<k0) {w0:World} {s:S3} (h:nv P n k0 ps s s'):
  ∀(i:Nat) (a:Go.Act) (w:World),(∀j,j<ps.flatten.length->∃op,ops[i+j]? =some op/\∃o,ps.flatten[j]? =some o/\eP P ops op=some o)->eg E0 J base w0 n s.σ s.g s.k a w->(∀a w,eg E0 J base w0 n s'.σ s'.g s'.k a w->Q .normal a w)->wpOpsIn (cp rd) 0 P ops Q (List.range' i ps.flatten.length) a w:=by
 induction h with
 |nil=>intro i a w _ hr hQ;exact hQ a w hr
 | @cons p ps s t u s' hw h r ih=>
  intro i a w dG hrel hQ
  rw [List.flatten_cons,Ms, <-List.range'_append_1]
  rw [List.flatten_cons,Ms] at dG
  refine Ag (Q:=fun e a w=>match e with| .normal=>wpOpsIn (cp rd) 0 P ops Q (List.range' (i+p.length) ps.flatten.length) a w|e=>Q e a w) (fun e a w he hh=>by cases e<;>first|exact hh|exact absurd rfl he) (fun a w hh=>hh) ?_
  refine xQ hk0 h i a w (fun j hj=> ?_) (hw E0 J base w0 a w hk0 hrel) fun a w hr=> ?_
  ·obtain ⟨op,q1,o,q2,q3⟩:=dG j (by omega)
   exact ⟨op,q1,o,by rwa [L5 hj] at q2,q3⟩
  ·refine ih (i+p.length) a w (fun j hj=> ?_) hr hQ
   obtain ⟨op,q1,o,q2,q3⟩:=dG (p.length+j) (by omega)
   exact ⟨op,by rw [Nat.add_assoc];exact q1,o,by rwa [Mg (by omega),Nat.add_sub_cancel_left] at q2,q3⟩
theorem ED.Iw {s:S3} (h:nv P n k0 ps s s'):ED P n k0 (.bM ps.flatten none) s .normal s':=by
 intro rd c E0 J base w0 a w bX hc hk hr
 obtain ⟨id,ops,draw,rfl,h1,h2⟩:=qp hc
 rcases h2 with ⟨rfl,_⟩|⟨_,d,hd,_⟩
 ·obtain ⟨k1,k2⟩:=og h1
  refine wpIn_region ?_
  have hsz:ops.size=ps.flatten.length:=by rw [<-k1];simp
  rw [List.range_eq_range',hsz]
  refine Iv (ops:=ops) hk h 0 a w (fun j hj=> ?_) hr fun a' w' hr'=>⟨.normal,s',⟨rfl,rfl⟩,rfl,hr'⟩
  have jz:j<ops.size:=by omega
  obtain ⟨o,m1,m2⟩:=k2 j ops[j] (by simp [jz])
  exact ⟨ops[j],by rw [Lh];exact Lg jz,o,m1,m2⟩
 ·simp at hd
end
section
variable {τ:Type} {dn:τ->Type} [DecidableEq τ]
inductive LA (τ:Type) (dn:τ->Type) where
 |inv (vs:List (VK τ)) (I:VT dn vs->VT dn vs->Prop) (m:VT dn vs->VT dn vs->Nat)
 |Ix (m:Nat)
 |gI (ss:List Nat)
 |Ah (i:Nat)
 |cut (vs:List (VK τ)) (I:VT dn vs->VT dn vs->Prop)
 |eq (i:Nat) (z:Int)
 |mY (i:Nat)
 |Ai (f:Nat)
def vG (an:Nat->Option (LA τ dn)) (os:List az):List Nat:=os.flatMap fun o=>match o.dst with
 |some d=>match an (1000+d) with
  |some (.gI ss)=>ss
  |_=>[]
 |none=>[]
def Aj (an:Nat->Option (LA τ dn)) (os:List az):Bool:=(vG an os).all fun i=>Nat.blt i 5000
def Iy (an:Nat->Option (LA τ dn)) (os:List az):Option Nat:=match os with
 |o::_=>match o.dst with
  |some d=>match an (3000+d) with
   |some (.Ah i)=>some i
   |_=>none
  |none=>none
 |[]=>none
def cutB (an:Nat->Option (LA τ dn)) (o:az):Bool:=match o.dst with
 |some d=>(match an (11000+d) with|some (.Ai _)=>true|_=>false)||(match an (9000+d) with|some (.mY _)=>true|_=>false)||(match an (7000+d) with|some (.eq _ _)=>true|_=>false)||(match an (5000+d) with|some (.cut _ _)=>true|_=>false)||(match an (1000+d) with|some (.gI _)=>true|_=>false)||(match an (3000+d) with|some (.Ah _)=>true|_=>false)
 |none=>false
def pieces (an:Nat->Option (LA τ dn)):List az->List (List az)
 |[]=>[]
 |o::os=>match pieces an os with
  |[]=>[[o]]
  |[]::ps=>[o]::ps
  |(p::q)::ps=>bif cutB an p then [o]::(p::q)::ps else (o::p::q)::ps
omit [DecidableEq τ] in
theorem Ak (an:Nat->Option (LA τ dn)):∀os:List az,(pieces an os).flatten=os
 |[]=>rfl
 |o::os=>by
  have ih:=Ak an os
  unfold pieces
  split
  ·rename_i h;rw [h] at ih;simp at ih;simp [ih]
  ·rename_i h;rw [h] at ih;simp at ih;simp [ih]
  ·rename_i h
   rw [h] at ih
   cases hb:cutB an _ with
   |true=>rw [K5,List.flatten_cons,ih];rfl
   |false=>rw [Ln,List.flatten_cons,Mj, <-List.flatten_cons,ih]
def Al (an:Nat->Option (LA τ dn)) (os:List az):Option ((vs:List (VK τ))×(VT dn vs->VT dn vs->Prop)):=match os with
 |o::_=>match o.dst with
  |some d=>match an (5000+d) with
   |some (.cut vs I)=>some ⟨vs,I⟩
   |_=>none
  |none=>none
 |[]=>none
def Am (an:Nat->Option (LA τ dn)) (os:List az):Option (Nat×Int):=match os with
 |o::_=>match o.dst with
  |some d=>match an (7000+d) with
   |some (.eq i z)=>some (i,z)
   |_=>none
  |none=>none
 |[]=>none
def r8 (o:Option (Nat×Int)) (st:SS τ dn) (K:SS τ dn->Prop):Prop:=match o with
 |none=>K st
 |some (i,z)=>match st.gt i with
  |some (.vi x)=>x=z/\K (st.fj i (.vn z))
  |_=>K st
omit [DecidableEq τ] in
theorem An {D:TD τ dn} {o:Option (Nat×Int)} {st:SS τ dn} {s:S3} {K:SS τ dn->Prop} (R:Rel D N st s) (h:r8 o st K):∃ah,Rel D N ah s/\ah.rt=st.rt/\ah.rm=st.rm/\ah.nx=st.nx/\K ah:=by
 unfold r8 at h
 split at h
 ·exact ⟨st,R,rfl,rfl,rfl,h⟩
 ·rename_i i z
  split at h
  ·rename_i x hx
   obtain ⟨hz,h⟩:=h
   refine ⟨st.fj i (.vn z),⟨fun N' hN=> ?_,R.inj,R.lt,R.ml,R.rl,R.sp⟩,rfl,rfl,rfl,h⟩
   have A:=R.at_ N' hN
   refine ⟨fun j v hv=> ?_,A.rs,A.bl,A.rb,A.ar⟩
   simp only [SS.fj,aV] at hv
   split at hv
   ·rename_i e
    simp only [KZ] at hv
    subst hv;subst e
    rw [A.gt hx]
    simp only [SV.av,hz]
   ·exact A.sl j v hv
  ·exact ⟨st,R,rfl,rfl,rfl,h⟩
def Iz (an:Nat->Option (LA τ dn)) (os:List az) (st:SS τ dn):List Nat:=match os with
 |o::_=>match o.dst with
  |some d=>match an (9000+d) with
   |some (.mY i)=>match st.gt i with
    |some (.own nm _)=>match st.gm nm with
     |some (.bc _ els)=>els.flatMap fun cs=>cs.filterMap uP
     |_=>[]
    |_=>[]
   |_=>[]
  |none=>[]
 |[]=>[]
def pv (an:Nat->Option (LA τ dn)) (os:List az):Option Nat:=match os with
 |o::_=>match o.dst with
  |some d=>match an (11000+d) with
   |some (.Ai f)=>some f
   |_=>none
  |none=>none
 |[]=>none
def bU.wo (C:bU τ dn) (o:Option Nat):bU τ dn:=⟨C.P,C.D,(match o with
 |none=>C.Δ
 |some f=>C.Δ.filter fun c=> !Nat.beq c.f f),C.Ω,C.fl,C.J,o.isSome⟩
omit [DecidableEq τ] in
theorem bU.Ok.wo {C:bU τ dn} (h:C.Ok) (o:Option Nat):(C.wo o).Ok:=by
 refine ⟨h.ok,fun c hc=> ?_,h.zn,h.inl⟩
 cases o with
 |none=>exact h.rB c hc
 |some f=>exact h.rB c (List.mem_filter.1 hc).1
def isBl:VK τ->Bool
 | .bl _ _=>true
 |_=>false
def r9 (D:TD τ dn) (c:Option ((vs:List (VK τ))×(VT dn vs->VT dn vs->Prop))) (st:SS τ dn) (K:SS τ dn->Prop):Prop:=match c with
 |none=>K st
 |some ⟨vs,I⟩=>match j6 D st vs with
  |some x0=>bif vs.all isBl&&okT (lessB st.nx) vs (vs.map (nmV st)) then I x0 x0/\rN vs fun x=>I x0 x->K ⟨st.rt,st.rm,st.t,putM D vs (vs.map (nmV st)) x++st.m,st.nx⟩ else False
  |none=>False
theorem Ao {D:TD τ dn} (ok:aU D) {c:Option ((vs:List (VK τ))×(VT dn vs->VT dn vs->Prop))} {st:SS τ dn} {s:S3} {K:SS τ dn->Prop} (R:Rel D N st s) (h:r9 D c st K):∃ah,Rel D N ah s/\ah.rt=st.rt/\ah.rm=st.rm/\ah.nx=st.nx/\K ah:=by
 unfold r9 at h
 split at h
 ·exact ⟨st,R,rfl,rfl,rfl,h⟩
 ·rename_i vs I
  split at h
  case h_2=>exact h.elim
  rename_i x0 hx
  cases hb:(vs.all isBl&&okT (lessB st.nx) vs (vs.map (nmV st))) with
  |false=>rw [hb] at h;exact h.elim
  |true=>
  rw [hb,K5] at h
  rw [K2] at hb
  obtain ⟨hbl,hT⟩:=hb
  have hk:=(rO.1 h.2) x0 h.1
  have jk:(vs.map (nmV st)).length=vs.length:=Lq ..
  have Ap:∀nm B,getS (putM D vs (vs.map (nmV st)) x0++st.m) nm=some (some B)->(nm,some B)∈putM D vs (vs.map (nmV st)) x0\/getS st.m nm=some (some B):=fun nm B hB=>by
   rw [fo] at hB
   cases hq:getS (putM D vs (vs.map (nmV st)) x0) nm with
   |some w=>rw [hq] at hB;simp only [MI,KZ] at hB;subst hB;exact .inl (g6 hq)
   |none=>rw [hq] at hB;simp only [Mu] at hB;exact .inr hB
  have aL:∀nm B,(nm,some B)∈putM D vs (vs.map (nmV st)) x0->(∃B',st.bm nm B')/\∀t A,B≠ .ar t A:=fun nm B hB=>by
   rcases rR hx jk nm B hB with ⟨j,v,p1,p2,p3,⟨B',p4⟩,p5⟩|⟨_,⟨B',p4⟩,p5⟩
   case inr=>exact ⟨⟨B',fI p4⟩,p5⟩
   rw [Lu,p1] at p2
   simp only [Ld,KZ] at p2
   refine ⟨⟨B',by rw [<-p2];exact fI p4⟩,fun t A e=> ?_⟩
   have:=K6.1 hbl v (LJ p1)
   rw [(p5 t A e).1] at this
   simp [isBl] at this
  have cE:∀nm B,(⟨st.rt,st.rm,st.t,putM D vs (vs.map (nmV st)) x0++st.m,st.nx⟩:SS τ dn).bm nm B->(∃B',st.bm nm B')/\∀t A,B= .ar t A->st.bm nm (.ar t A):=fun nm B hB=>by
   rcases hB with hB|hB
   ·rcases Ap nm B hB with h1|h1
    ·obtain ⟨q1,q2⟩:=aL nm B h1
     exact ⟨q1,fun t A e=>absurd e (q2 t A)⟩
    ·exact ⟨⟨B, .inl h1⟩,fun t A e=>by subst e;exact .inl h1⟩
   ·exact ⟨⟨B, .inr hB⟩,fun t A e=>by subst e;exact .inr hB⟩
  refine ⟨⟨st.rt,st.rm,st.t,putM D vs (vs.map (nmV st)) x0++st.m,st.nx⟩,⟨fun N' hN=> ?_,R.inj,R.lt,fun nm B hB=> ?_,R.rl,fun t A hA id hid=> ?_⟩,rfl,rfl,rfl,hk⟩
  ·have A:=R.at_ N' hN
   refine ⟨A.sl,A.rs,fun nm B hB=> ?_,A.rb,fun t A' hA id hid=>A.ar t A' ((cE 0 _ hA).2 t A' rfl) id hid⟩
   rcases Ap nm B hB with h1|h1
   ·obtain ⟨B',e,q⟩:=ji ok (rQ ok A hx) nm (some B) h1
    simp only [KZ] at e;subst e
    exact q
   ·exact A.bl nm B h1
  ·show nm<st.nx
   have aR:getS (putM D vs (vs.map (nmV st)) x0++st.m) nm=some B:=hB
   rw [fo] at aR
   cases hq:getS (putM D vs (vs.map (nmV st)) x0) nm with
   |some w=>exact pk (ma hT nm w (g6 hq))
   |none=>rw [hq] at aR;simp only [Mu] at aR;exact R.ml nm B aR
  ·have h1:=(cE 0 _ hA).2 t A rfl
   obtain ⟨q1,q2⟩:=R.sp t A h1 id hid
   refine ⟨q1,fun nm B hB=> ?_⟩
   obtain ⟨⟨B',aR⟩,_⟩:=cE nm B hB
   exact q2 nm B' aR
def AC.nl:AC->Nat
 | .seq a b=>a.nl+b.nl
 | .cond _ a b=>a.nl+b.nl
 | .block _ a=>a.nl
 | .loop a=>a.nl+1
 |_=>0
def AC.g7:AC->List Nat
 | .seq a b=>a.g7++b.g7
 | .cond _ a b=>a.g7++b.g7
 | .block _ a=>a.g7
 | .loop a=>a.g7
 | .bM os _=>os.filterMap az.dst
 |_=>[]
def iF (D:TD τ dn) (st:SS τ dn):VK τ->SS τ dn
 | .ow i t=>match st.gt i with
  |some .emp=>bif Nat.blt 0 (D.sz t)&&(getS st.rt i).isNone then ⟨st.rt,st.rm,(i, .own st.nx (D.sz t))::st.t,(st.nx,some (.bl t []))::st.m,st.nx+1⟩ else st
  |_=>st
 | .so q f t _| .sg q f t _ _=>match st.gm q with
  |some (.bc Q [vs])=>match vs[f]? with
   |some .emp=>bif Nat.blt 0 (D.sz t)&&(Nat.blt 0 Q&&st.rw q) then ⟨st.rt,st.rm,st.t,(q,some (.bc Q [vs.set f (.own st.nx (D.sz t))]))::(st.nx,some (.bl t []))::st.m,st.nx+1⟩ else st
   |_=>st
  |_=>st
 |_=>st
def nz (D:TD τ dn):SS τ dn->List (VK τ)->SS τ dn
 |st,[]=>st
 |st,v::r=>nz D (iF D st v) r
def vH (B:SS τ dn->(Ex->SS τ dn->Prop)->Prop):Nat->SS τ dn->(Ex->SS τ dn->Prop)->Prop
 |0,_,_=>False
 |m+1,st,K=>B st fun e ah=>match e with
  | .normal=>vH B m ah K
  |e=>K e ah
def okB (vs:List (VK τ)) (T:List Nat) (st:SS τ dn) (p:Nat->Bool) (ft:List (Nat×SV τ dn)) (fm:List (Nat×Option (SB τ dn))):Bool:=
 (st.rt.all fun q=>q.2.fr p&& !hasN (dQ vs) q.1&&(getS ft q.1).isNone)&&(st.rm.all fun q=>p q.1&&(match q.2 with|some B=>B.fr p|none=>true)&&(getS fm q.1).isNone)&&
 okT (lessB st.nx) vs T&&okT (fun a=> !hasN (movesV vs T) a) (vs.filter fun v=> !kY v) ((vs.zip T).filterMap fun q=>bif kY q.1 then none else some q.2)&&pj (movesV vs T)
def nextB (vs:List (VK τ)) (T A:List Nat) (nx nx':Nat):Bool:=
 pj ((List.range nx).map (dz vs T A))&&((List.range nx).all fun a=>lessB nx' (dz vs T A a))&&((vs.zip (T.zip A)).all fun q=>ew q.1||(Nat.beq (dz vs T A q.2.1) q.2.2&&(kY q.1||Nat.beq q.2.1 q.2.2)))&&(gk vs).all fun a=>Nat.beq (dz vs T A a) a
def keepP (vs:List (VK τ)) (T:List Nat) (nx:Nat) (a:Nat):Bool:=lessB nx a&& !hasN (movesV vs T) a
def Aq (D:TD τ dn) (fl:Nat) (vs:List (VK τ)) (I:VT dn vs->Prop) (ms:VT dn vs->Nat) (B:SS τ dn->(Ex->SS τ dn->Prop)->Prop) (st:SS τ dn) (K:Ex->SS τ dn->Prop) (T:List Nat) (x0:VT dn vs) (ft:List (Nat×SV τ dn)) (fm:List (Nat×Option (SB τ dn))):Prop:=
 bif okB vs T st (keepP vs T st.nx) ft fm&&(movesV vs T).all (Nat.ble fl) then I x0/\rN vs fun x=>I x->B ⟨ft++st.rt,fm++st.rm,bC D vs T x,putM D vs T x,st.nx⟩ fun e ah=>match e with
  | .normal=>match j6 D ah vs with
   |some x'=>bif nextB vs T (vs.map (nmV ah)) st.nx ah.nx then I x'/\ms x'<ms x else False
   |none=>False
  |e=>K e ⟨st.rt,st.rm,ah.t++ft,ah.m++fm,ah.nx⟩
 else False
def vI (D:TD τ dn) (fl:Nat) (vs:List (VK τ)) (I:VT dn vs->VT dn vs->Prop) (ms:VT dn vs->VT dn vs->Nat) (g7:List Nat) (B:SS τ dn->(Ex->SS τ dn->Prop)->Prop) (st:SS τ dn) (K:Ex->SS τ dn->Prop):Prop:=
 match j6 D st vs with
 |none=>False
 |some x0=>Aq D fl vs (I x0) (ms x0) B st K (vs.map (nmV st)) x0 (j5 (keepP vs (vs.map (nmV st)) st.nx) (dQ vs++g7) st.t) (jg (keepP vs (vs.map (nmV st)) st.nx) (l9 vs (vs.map (nmV st))) st.m)
def As (C:bU τ dn) (n:Nat) (c:Cn) (a b:AC) (st:SS τ dn):Option (List Prop×SS τ dn):=
 match a,b with
 | .skip, .bM os none=>r7 C n c true os st
 | .bM os none, .skip=>r7 C n c false os st
 |_,_=>none
def sa (C:bU τ dn) (n:Nat) (an:Nat->Option (LA τ dn)):List (List az)->SS τ dn->(SS τ dn->Prop)->Prop
 |[],st,K=>K st
 |p::ps,st,K=>nq C.D (Aj an (p.take 1)) (st.rW (vG an (p.take 1))) st fun st=>uY (Iy an p) st fun st=>r9 C.D (Al an p) st fun st=>r8 (Am an p) st fun st=>je C.D (Iz an p st) st fun st=>wpOps (C.wo (pv an p)) n none true p [] st fun st=>sa C n an ps st K
def eA (C:bU τ dn) (n:Nat) (an:Nat->Option (LA τ dn)):AC->Nat->SS τ dn->(Ex->SS τ dn->Prop)->Prop
 | .skip,_,st,K=>K .normal st
 | .ret,_,st,K=>K .ret st
 | .exit i,_,st,K=>K (.exit i) st
 | .seq a b,k,st,K=>eA C n an a k st fun e ah=>match e with
  | .normal=>eA C n an b (k+a.nl) ah K
  |e=>K e ah
 | .cond c a b,k,st,K=>match st.ev c with
  |some (.vt true)=>eA C n an a k st K
  |some (.vt false)=>eA C n an b (k+a.nl) st K
  |some (.vb c)=>match As C n c a b st with
   |some (O,ah)=>eW O (K .normal ah)
   |none=>(c.tf true->eA C n an a k st K)/\(c.tf false->eA C n an b (k+a.nl) st K)
  |_=>False
 | .block i a,k,st,K=>eA C n an a k st fun e ah=>K (e.ja i) ah
 | .loop a,k,st,K=>match an k with
  |some (.Ix m)=>vH (eA C n an a (k+1)) m st K
  |some (.inv vs I ms)=>vI C.D C.fl vs I ms a.g7 (eA C n an a (k+1)) (nz C.D st vs) K
  |_=>False
 | .bM os none,_,st,K=>sa C n an (pieces an os) st (K .normal)
 | .bM os (some dep),_,st,K=>nq C.D (Aj an os) (st.rW (vG an os)) st fun st=>r9 C.D (Al an os) st fun st=>r8 (Am an os) st fun st=>wpOps (C.wo (pv an os)) n (some dep) (HS (C.wo (pv an os)) (some dep) os) os [] st (K .normal)
 | .qo _ _ _ _,_,_,_=>False
def Ends (C:bU τ dn) (n k0:Nat) (ac:AC) (N:aw) (st:SS τ dn) (s:S3) (K:Ex->SS τ dn->Prop):Prop:=
 ∃e s' N' ah,ED C.P n k0 ac s e s'/\Rel C.D N' ah s'/\ah.rt=st.rt/\ah.rm=st.rm/\(N.aZ C.fl N'/\C.fl<=ah.nx)/\K e ah
theorem sc {m:Nat} (h:N.aZ m N') (hn:n<=m):N.aZ n N':=⟨fun a ha=>h.1 a (Lr ha hn),h.2⟩
end
section
theorem aD.IA (hm:aD E J base g) {B B':Bk} (hB:g q=some B) (hz:B.sz≠0) (hsz:B'.sz=B.sz) (hl:B.els.length=B'.els.length) (hc:∀(i:Nat) cs ds,B.els[i]? =some cs->B'.els[i]? =some ds->cs.length=ds.length/\∀(j:Nat) c d,cs[j]? =some c->ds[j]? =some d->∀v,af E v c->af E v d):aD E J base (au g [(q,some B')]):=by
 have aL:∀{id X},au g [(q,some B')] id=some X->(id=q/\X=B')\/(id≠q/\g id=some X):=fun {id X} h=>by
  simp only [au] at h
  by_cases e:id=q
  ·rw [K1 e] at h;simp only [KZ] at h;exact .inl ⟨e,h.symm⟩
  ·rw [K0 e] at h;exact .inr ⟨e,h⟩
 have sd:∀{id X},au g [(q,some B')] id=some X->∃Y,g id=some Y:=fun h=>by
  rcases aL h with ⟨rfl,_⟩|⟨_,h⟩
  ·exact ⟨_,hB⟩
  ·exact ⟨_,h⟩
 refine ⟨fun id=> ?_,fun id X hg=> ?_,fun id ct b B1 B2 h1 h2 h3 h4=> ?_,fun id b X hg hb=> ?_,hm.low,hm.size,fun id X hg cG=> ?_,hm.gq,fun b hb=>⟨(hm.xo b hb).1,(hm.xo b hb).2.1,fun k B1 hk he=>(sd hk).elim fun B2 h2=>(hm.xo b hb).2.2 k B2 h2 he⟩⟩
 ·rw [hm.live id]
  simp only [au]
  by_cases e:id=q
  ·subst e;rw [K1 rfl,hB];exact ⟨fun _=>⟨_,rfl⟩,fun _=>⟨_,rfl⟩⟩
  ·rw [K0 e]
 ·rcases aL hg with ⟨rfl,rfl⟩|⟨_,h⟩
  ·have h0:=hm.at_ id B hB
   cases hloc:E.loc id with
   |none=>
    rw [hloc] at h0
    have kz:B.els=[]:=h0
    show X.els=[]
    rw [kz] at hl
    exact Mr (by simpa using hl.symm)
   |some b=>
    rw [hloc] at h0
    obtain ⟨h1,⟨hz0,arr,t,h2,h3,h4⟩|⟨hz0,_⟩⟩:=h0
    ·refine .iI ⟨h1,arr,t,h2,by rw [<-hl,hsz];exact h3,fun i ds hi=> ?_⟩ (by rw [hsz];exact hz0)
     have cm:i<B.els.length:=by rw [hl];exact (K8.1 hi).1
     have hcs:=Lj cm
     obtain ⟨e1,e2⟩:=hc i _ ds hcs hi
     refine ⟨by rw [<-e1,hsz];exact (h4 i _ hcs).1,fun j d hj=> ?_⟩
     have aX:j<B.els[i].length:=by rw [e1];exact (K8.1 hj).1
     obtain ⟨u,u1,u2,u3⟩:=(h4 i _ hcs).2 j _ (Lj aX)
     exact ⟨u,by rw [hsz];exact u1,u2,e2 j _ d (Lj aX) hj u u3⟩
    ·exact absurd hz0 hz
  ·exact hm.at_ id X h
 ·obtain ⟨Y1,y1⟩:=sd h1
  obtain ⟨Y2,y2⟩:=sd h2
  exact hm.apart id ct b Y1 Y2 y1 y2 h3 h4
 ·obtain ⟨Y,y⟩:=sd hg
  exact hm.out id b Y y hb
 ·rcases aL hg with ⟨rfl,rfl⟩|⟨_,h⟩
  ·rw [<-hl];exact hm.len id B hB hz
  ·exact hm.len id X h cG
theorem S3.IB {s:S3} {Q sz f:Nat} {cs:List AV} (hq:s.g q=some ⟨Q,[cs]⟩) (hk:q<s.k) (hf:cs[f]? =some .emp) (hQ:Q≠0) (hz:sz≠0):s.Le k0 n ⟨s.σ,au (au s.g [(s.k,some ⟨sz,[]⟩)]) [(q,some ⟨Q,[cs.set f (.own s.k sz 0 0)]⟩)],s.k+1⟩:=by
 intro E0 J base w0 a w hk0 hr
 obtain ⟨E,rfl,hle,hs,hm,ba,hmk⟩:=hr.ex
 obtain ⟨E',hw,hE,hM,k1,k2,k3,k4,k5⟩:=hm.p9 (fresh:=s.k) (fun hh=>Mh _ (ba _ hh)) sz
 have gw:au s.g [(s.k,some ⟨sz,[]⟩)] q=some ⟨Q,[cs]⟩:=by simp only [au];rw [K0 (by omega)];exact hq
 have iq:f<cs.length:=(K8.1 hf).1
 have hM2:=hM.IA (B':=⟨Q,[cs.set f (.own s.k sz 0 0)]⟩) gw hQ rfl rfl (fun i c1 d1 h1 h2=>by
  cases i with
  |succ i=>simp at h1
  |zero=>
   simp only [LB,KZ] at h1 h2
   subst h1;subst h2
   refine ⟨by simp,fun j c d hc hd v hv=> ?_⟩
   rw [List.getElem?_set] at hd
   by_cases e:f=j
   ·subst e
    rw [K1 rfl,K1 iq,KZ] at hd
    subst hd
    rw [hf,KZ] at hc
    subst hc
    obtain ⟨A,hA⟩:=tG hv
    rw [hA]
    exact .bP k1 k2 k3 k5 hz
   ·rw [K0 e,hc,KZ] at hd
    subst hd;exact hv)
 refine ⟨⟨E',hw,hle.trans hE,fun j=>(hs j).step hE,hM2,fun id hid=> ?_,hmk.step hE⟩,hr.size,hr.below,hr.gl⟩
 show id<s.k+1
 rcases k4 id hid with h|h
 ·have:=ba id h;omega
 ·omega
end
section
variable {τ:Type} {dn:τ->Type}
theorem At {D:TD τ dn} {n k0:Nat}:∀{vs:List (VK τ)} {N:aw} {st:SS τ dn} {s:S3},Rel D N st s->∃s' N',s.Le k0 n s'/\Rel D N' (nz D st vs) s'/\(nz D st vs).rt=st.rt/\(nz D st vs).rm=st.rm/\N.aZ st.nx N'/\st.nx<=(nz D st vs).nx
 |[],N,st,s,R=>⟨s,N,S3.Le.kW,R,rfl,rfl,N.dJ _,K4 _⟩
 |v::r,N,st,s,R=>by
  have one:∃s' N',s.Le k0 n s'/\Rel D N' (iF D st v) s'/\(iF D st v).rt=st.rt/\(iF D st v).rm=st.rm/\N.aZ st.nx N'/\st.nx<=(iF D st v).nx:=by
   have no:∃s' N',s.Le k0 n s'/\Rel D N' st s'/\st.rt=st.rt/\st.rm=st.rm/\N.aZ st.nx N'/\st.nx<=st.nx:=⟨s,N,S3.Le.kW,R,rfl,rfl,N.dJ _,K4 _⟩
   have Au:∀(q f:Nat) (t:τ) (cs:List (Nat×Nat)),∃s' N',s.Le k0 n s'/\Rel D N' (iF D st (.so q f t cs)) s'/\(iF D st (.so q f t cs)).rt=st.rt/\(iF D st (.so q f t cs)).rm=st.rm/\N.aZ st.nx N'/\st.nx<=(iF D st (.so q f t cs)).nx:=by
    intro q f t cs
    simp only [iF]
    split
    ·rename_i Q vs hB
     split
     ·rename_i hf
      cases hb:(Nat.blt 0 (D.sz t)&&(Nat.blt 0 Q&&st.rw q)) with
      |false=>rw [Ln];exact no
      |true=>
       rw [K5]
       rw [K2,K2] at hb
       have hz:D.sz t≠0:=Nat.ne_of_gt (LV hb.1)
       have hQ:Q≠0:=Nat.ne_of_gt (LV hb.2.1)
       obtain ⟨⟨B1,m1⟩,r1⟩:=iz hb.2.2
       have hB1:B1= .bc Q [vs]:=by have:=kR m1;rw [this] at hB;simpa using hB
       subst hB1
       have nA:=R.ml q _ m1
       obtain ⟨g1,g2⟩:=R.here.bl q _ m1
       have R1:=R.go (n:=0) (d:=none) (r:= .new [] (.own st.nx (D.sz t)) (.bl t [])) rfl rfl (val:= .own s.k (D.sz t) 0 0) (ups:=[(s.k,some ⟨D.sz t,[]⟩)]) (fun N' hN=>by
        simp only [SR.v,SV.av]
        have h1:=hN.1 st.nx (Mb _)
        simp only [SR.up,aw.cS,K3] at h1
        rw [h1.1,h1.2];rfl) (fun N' hN=>rfl)
       have dF:=N.jS st.nx s.k 0
       have IC:(N.cS st.nx s.k 0).ι q=N.ι q:=(dF.1 q nA).1
       have ID:(N.cS st.nx s.k 0).ι st.nx=s.k/\(N.cS st.nx s.k 0).ln st.nx=0:=by simp [aw.cS]
       have aC:q≠st.nx:=Nat.ne_of_lt nA
       have pZ:(SR.put [] (.vo undef) q (.bc Q [vs.set f (.own st.nx (D.sz t))]):SR τ dn).may D (N.cS st.nx s.k 0) ((SR.new [] (.own st.nx (D.sz t)) (.bl t []):SR τ dn).st st none):=by
        refine ⟨⟨.bc Q [vs], ?_, ?_⟩,r1,rfl⟩
        ·show getS ((st.nx,some (.bl t []))::st.m) q=_
         rw [aV,K0 aC];exact m1
        ·rw [(dF.1 q nA).2,g2];rfl
       have IE:∀N':aw,(N.cS st.nx s.k 0).aZ (st.nx+1) N'->(vs.map (SV.av D.toTE N'))=vs.map (SV.av D.toTE N):=fun N' hN=>by
        have A':=R.at_ N' (aw.ep dF hN (Nat.le_succ _))
        have e1:=(A'.bl q _ m1).1
        rw [((aw.ep dF hN (Nat.le_succ _)).1 q nA).1,g1] at e1
        simpa [SB.av,SV.bE,SV.bk] using e1.symm
       have R2:=R1.go (n:=0) (d:=none) (r:= .put [] (.vo undef) q (.bc Q [vs.set f (.own st.nx (D.sz t))])) rfl pZ (val:= .v undef) (ups:=[(N.ι q,some ⟨Q,[(vs.map (SV.av D.toTE N)).set f (.own s.k (D.sz t) 0 0)]⟩)]) (fun N' hN=>rfl) (fun N' hN=>by
        have vJ:(N.cS st.nx s.k 0).aZ (st.nx+1) N':=hN
        have h1:=vJ.1 st.nx (Mb _)
        have h2:=(vJ.1 q (MH nA)).1
        simp only [SR.ups,SB.av,SV.bE,SV.bk,Mt,SV.av,h1.1,h1.2,h2,ID,IC,IE N' vJ])
       refine ⟨_,N.cS st.nx s.k 0,S3.IB (q:=N.ι q) (f:=f) (cs:=vs.map (SV.av D.toTE N)) (sz:=D.sz t) (by rw [g1];simp only [SB.av,SV.bE,SV.bk]) (R.lt q nA) (by rw [Lu,hf];rfl) hQ hz, ?_,rfl,rfl,dF,Nat.le_succ _⟩
       exact R2
     ·exact no
    ·exact no
   cases v with
   |ow i t=>
    simp only [iF]
    split
    ·rename_i hg
     cases hb:(Nat.blt 0 (D.sz t)&&(getS st.rt i).isNone) with
     |false=>rw [Ln];exact no
     |true=>
      rw [K5]
      rw [K2] at hb
      have hz:D.sz t≠0:=Nat.ne_of_gt (LV hb.1)
      have hσ:s.σ i= .emp:=R.here.gt hg
      refine ⟨_,N.cS st.nx s.k 0,S3.H6 hσ hz, ?_,rfl,rfl,N.jS _ _ _,Nat.le_succ _⟩
      have:=R.go (n:=i+1) (d:=some i) (r:= .new [] (.own st.nx (D.sz t)) (.bl t [])) (by simp only [dstS,K2];exact ⟨Nat.ble_eq_true_of_le (K4 _),hb.2⟩) rfl (val:= .own s.k (D.sz t) 0 0) (ups:=[(s.k,some ⟨D.sz t,[]⟩)]) (fun N' hN=>by
       simp only [SR.v,SV.av]
       have h1:=hN.1 st.nx (Mb _)
       simp only [SR.up,aw.cS,K3] at h1
       rw [h1.1,h1.2];rfl) (fun N' hN=>rfl)
      refine cast ?_ this
      congr 2
      funext j
      simp only [bw,KZ]
      by_cases hj:j=i
      ·subst hj;rw [K1 ⟨rfl,Mb _⟩,K1 rfl]
      ·rw [K0 (fun hh=>hj hh.1.symm),K0 hj]
    ·exact no
   |so q f t cs=>exact Au q f t cs
   |sg q f t S fx=>exact Au q f t []
   |_=>exact no
  obtain ⟨s1,N1,h1,h2,h3,h4,h5,h6⟩:=one
  obtain ⟨s2,N2,q1,q2,q3,q4,q5,q6⟩:=At (vs:=r) h2
  exact ⟨s2,N2,h1.trans' q1,q2,q3.trans h3,q4.trans h4,aw.ep h5 q5 h6,Lw h6 q6⟩
mutual
theorem SV.mh {p q:Nat->Bool} (h:∀a,p a=true->q a=true):∀(v:SV τ dn),v.fr p=true->v.fr q=true
 | .own nm sz,hv| .part nm sz _ _,hv| .ref nm sz _ _,hv| .mp nm,hv=>by simp only [SV.fr] at hv ⊢; exact h nm hv
 | .agg cs,hv| .aJ cs,hv| .fn _ cs,hv| .bf _ cs,hv| .pim cs _,hv=>by simp only [SV.fr] at hv ⊢; exact SV.vK h cs hv
 | .vc _ els,hv=>by simp only [SV.fr] at hv ⊢; exact SV.se h els hv
 | .vg p c v,hv=>by simp only [SV.fr] at hv ⊢; exact SV.mh h v hv
 | .rw _ _,_| .cK _ _ _ _,_| .vl _ _,_| .vi _,_| .vn _,_| .vy _,_| .vu _,_| .vw _ _,_| .vb _,_| .vt _,_| .vz _,_| .vo _,_| .emp,_| .dead,_=>by simp only [SV.fr]
theorem SV.vK {p q:Nat->Bool} (h:∀a,p a=true->q a=true):∀(cs:List (SV τ dn)),SV.db p cs=true->SV.db q cs=true
 |[],_=>rfl
 |v::r,hv=>by simp only [SV.db,K2] at hv ⊢; exact ⟨SV.mh h v hv.1,SV.vK h r hv.2⟩
theorem SV.se {p q:Nat->Bool} (h:∀a,p a=true->q a=true):∀(els:List (List (SV τ dn))),SV.jJ p els=true->SV.jJ q els=true
 |[],_=>rfl
 |v::r,hv=>by simp only [SV.jJ,K2] at hv ⊢; exact ⟨SV.vK h v hv.1,SV.se h r hv.2⟩
end
theorem SB.mh {p q:Nat->Bool} (h:∀a,p a=true->q a=true) (B:SB τ dn) (hB:B.fr p=true):B.fr q=true:=by
 cases B with
 |bl t xs=>rfl
 |bc sz els=>simp only [SB.fr] at hB ⊢; exact SV.se h els hB
 |mc els=>simp only [SB.fr] at hB ⊢; exact SV.se h els hB
 |ar t A=>rfl
def iG (D:TD τ dn) (st:SS τ dn):List jD->Option (List Prop×List (SV τ dn))
 |[]=>some ([],[])
 | .tmp i::r=>match st.gt i,iG D st r with
  |some v,some (O,l)=>some (O,v::l)
  |_,_=>none
 | .cell i m::r=>match st.gt i,iG D st r with
  |some a,some (O,l)=>match lU D st m a with
   |some (.val O' v)=>some (O'++O,v::l)
   |_=>none
  |_,_=>none
def jl (vs:List (SV τ dn)) (i:Nat):List (Nat×SV τ dn):=match vs with
 |[]=>[]
 |v::r=>(i,v)::jl r (i+1)
theorem vL {i:Nat}:∀{vs:List (SV τ dn)} {k:Nat} {v:SV τ dn},getS (jl vs k) i=some v->k<=i/\vs[i - k]? =some v
 |[],k,v,h=>by simp [jl,getS] at h
 |w::r,k,v,h=>by
  simp only [jl,aV] at h
  by_cases hi:i=k
  ·rw [K1 hi,KZ] at h
   subst h;subst hi;exact ⟨K4 _,by simp⟩
  ·rw [K0 hi] at h
   obtain ⟨h1,h2⟩:=vL h
   refine ⟨by omega, ?_⟩
   rw [show i - k=(i - (k+1))+1 by omega,L2];exact h2
theorem IF {D:TD τ dn} {st:SS τ dn} {σ:Nat->AV} (ok:aU D) (R:aW D N st σ g) {m:Option Nat} {a:SV τ dn} (hx:st.gt i=some a) {O:List Prop} {v:SV τ dn} (h:lU D st m a=some (.val O v)) (hO:∀p,p∈O->p):(oi m (σ i)).run g=some (v.av D.toTE N):=by
 have e:=yP ok R (x:= .s i) hx h 0 hO trivial
 have hs:aE σ (.s i)=σ i:=rfl
 simp only [AO.ae,hs] at e
 unfold oi
 cases hσ:σ i<;>rw [hσ] at e<;>simp only at e ⊢
 case pim cs o=>
  cases hg:getCells cs o m with
  |none=>rw [hg] at e;simp [RM.opt,RM.run] at e
  |some w=>rw [hg] at e;simp only [Ld,RM.opt,RM.run,KZ,Out.done.injEq] at e;simp only [RM.opt,RM.run,e.1];rfl
 case ref id sz j o=>
  simp only [RM.run] at e ⊢
  cases hg:g id with
  |none=>rw [hg] at e;simp at e
  |some B=>
   rw [hg] at e
   simp only at e ⊢
   split at e
   ·rename_i hz
    rw [K1 hz]
    cases hq:(B.els[j]?.bind fun cs=>getCells cs o m) with
    |none=>rw [hq] at e;simp [RM.opt,RM.run] at e
    |some w=>rw [hq] at e;simp only [Ld,RM.opt,RM.run,KZ,Out.done.injEq] at e;simp only [RM.opt,RM.run,e.1];rfl
   ·simp [RM.run] at e
 all_goals simp [RM.run] at e
theorem sf {D:TD τ dn} {N:aw} {st:SS τ dn} {σ:Nat->AV} {g:Nat->Option Bk} (ok:aU D) (R:aW D N st σ g):∀{res:List jD} {O:List Prop} {l:List (SV τ dn)},iG D st res=some (O,l)->(∀p,p∈O->p)->(iX σ res).run g=some (l.map (SV.av D.toTE N))
 |[],O,l,h,hO=>by simp only [iG,KZ,Li] at h;obtain ⟨_,rfl⟩:=h;rfl
 | .tmp i::r,O,l,h,hO=>by
  simp only [iG] at h
  split at h
  ·rename_i v O' l' h1 h2
   simp only [KZ,Li] at h;obtain ⟨rfl,rfl⟩:=h
   simp only [iX]
   rw [di (sf ok R h2 hO)]
   simp only [RM.run,Lf,R.gt h1]
  ·simp at h
 | .cell i m::r,O,l,h,hO=>by
  simp only [iG] at h
  split at h
  ·rename_i a O' l' h1 h2
   split at h
   ·rename_i O2 v h3
    simp only [KZ,Li] at h;obtain ⟨rfl,rfl⟩:=h
    simp only [iX]
    rw [di (IF ok R h1 h3 fun p hp=>hO p (LL _ hp)),di (sf ok R h2 fun p hp=>hO p (LF _ hp))]
    rfl
   ·simp at h
  ·simp at h
theorem Av {D:TD τ dn} {st:SS τ dn}:∀{l l':List (SV τ dn)},iB D st l=some l'->l.length=l'.length
 |[],l',h=>by simp only [iB,KZ] at h;subst h;rfl
 |v::r,l',h=>by
  simp only [iB] at h
  split at h
  ·rename_i x l2 h1 h2
   simp only [KZ] at h;subst h;simp [Av h2]
  ·simp at h
theorem IG {a a':AV} (h:(dk a).run g=some a'):(oo a).run g=some a':=by
 cases a<;>first
  |exact h
  |(simp [dk,snap1,AV.pu1,RM.run] at h)
theorem Aw {D:TD τ dn} (ok:aU D) (t:τ) (x:dn t) (h:D.pu t=true):(D.en t x).av D.toTE N=(D.en t x).av D.toTE N':=by
 have e:(D.es t x).map (SV.av D.toTE N)=(D.es t x).map (SV.av D.toTE N'):=by rw [ok.cO,ok.cO,ok.fc _ N'.ρ t x h]
 cases ha:D.ag t with
 |true=>rw [rh ha,SV.av,SV.av,SV.bk,SV.bk,e]
 |false=>
  unfold TD.en
  rw [ha,Ln]
  cases hs:D.es t x with
  |nil=>rfl
  |cons v r=>rw [hs] at e;simp only [Lf,MN] at e;exact e.1
theorem Ax {D:TD τ dn} (ok:aU D) {N N':aw}:∀(rs:List τ) (x:RD dn rs),rs.all D.pu=true->(gE D rs x).map (SV.av D.toTE N)=(gE D rs x).map (SV.av D.toTE N')
 |[],_,_=>rfl
 |[t],x,h=>by simp only [List.all_cons,List.all_nil,Bool.and_true] at h;simp only [gE,Lf,LP];rw [Aw ok (N:=N) (N':=N') t x h]
 |t::s::r,x,h=>by
  rw [List.all_cons,K2] at h
  simp only [gE,Lf];rw [Aw ok (N:=N) (N':=N') t x.1 h.1,Ax ok (N:=N) (N':=N') (s::r) x.2 h.2]
theorem Ay {f:Nat->Nat}:∀{n m:Nat},pj ((List.range' m n).map f)=true->∀a b,m<=a->a<m+n->m<=b->b<m+n->f a=f b->a=b
 |0,m,h,a,b,h1,h2,h3,h4,he=>by omega
 |n+1,m,h,a,b,h1,h2,h3,h4,he=>by
  rw [List.range'_succ,Lf] at h
  simp only [pj,K2,Lm] at h
  have ek:∀c,m+1<=c->c<m+1+n->f m≠f c:=fun c k1 k2 e=>by
   have:hasN ((List.range' (m+1) n).map f) (f m)=true:=j4.2 (Lz.2 ⟨c,List.mem_range'_1.2 ⟨k1,k2⟩,e.symm⟩)
   rw [this] at h;simp at h
  by_cases ha:a=m<;>by_cases hb:b=m
  ·omega
  ·subst ha;exact absurd he (ek b (by omega) (by omega))
  ·subst hb;exact absurd he.symm (ek a (by omega) (by omega))
  ·exact Ay h.2 a b (by omega) (by omega) (by omega) (by omega) he
theorem Az {C:bU τ dn} {n k0:Nat} {a:AC} {B:SS τ dn->(Ex->SS τ dn->Prop)->Prop} (hB:∀{st:SS τ dn} {K:Ex->SS τ dn->Prop} {N:aw} {s:S3},Rel C.D N st s->C.fl<=st.nx->B st K->Ends C n k0 a N st s K):
  ∀(m:Nat) {st:SS τ dn} {K:Ex->SS τ dn->Prop} {N:aw} {s:S3},Rel C.D N st s->C.fl<=st.nx->vH B m st K->∃e s' j N2 ah,Ch C.P n k0 a e s' j s/\Rel C.D N2 ah s'/\ah.rt=st.rt/\ah.rm=st.rm/\(N.aZ C.fl N2/\C.fl<=ah.nx)/\K e ah
 |0,st,K,N,s,R,hl,h=>h.elim
 |m+1,st,K,N,s,R,hl,h=>by
  obtain ⟨e,s1,N1,st1,e1,R1,r1,r2,r3,hk⟩:=hB R hl h
  cases e with
  |normal=>
   obtain ⟨e,s2,j,N2,aO,c1,c2,c3,c4,c5,c6⟩:=Az hB m R1 r3.2 hk
   exact ⟨e,s2,j+1,N2,aO, .step e1 S3.Le.kW c1,c2,c3.trans r1,c4.trans r2,⟨aw.ep r3.1 c5.1 (K4 _),c5.2⟩,c6⟩
  |exit i=>exact ⟨_,s1,0,N1,st1, .last e1 (by simp),R1,r1,r2,r3,hk⟩
  |ret=>exact ⟨_,s1,0,N1,st1, .last e1 (by simp),R1,r1,r2,r3,hk⟩
variable [DecidableEq τ]
theorem S3.IH {s:S3} (sz:Nat):s.Le k0 n ⟨s.σ,au s.g [(s.k,some ⟨sz,[]⟩)],s.k+1⟩:=by
 intro E0 J base w0 a w hk hr
 obtain ⟨E,rfl,hle,hs,hm,ba,hmk⟩:=hr.ex
 obtain ⟨E',hw,hE,hM,k1,k2,k3,k4,k5⟩:=hm.p9 (fresh:=s.k) (fun hh=>Mh _ (ba _ hh)) sz
 refine ⟨⟨E',hw,hle.trans hE,fun j=>(hs j).step hE,hM,fun id hid=> ?_,hmk.step hE⟩,hr.size,hr.below,hr.gl⟩
 show id<s.k+1
 rcases k4 id hid with h|h
 ·have:=ba id h;omega
 ·omega
theorem AA {C:bU τ dn} (hC:C.Ok) {a:AC} {B:SS τ dn->(Ex->SS τ dn->Prop)->Prop} (hB:∀{st:SS τ dn} {K:Ex->SS τ dn->Prop} {N:aw} {s:S3},Rel C.D N st s->C.fl<=st.nx->B st K->Ends C n k0 a N st s K) {vs:List (VK τ)} {I:VT dn vs->Prop} {ms:VT dn vs->Nat}
  {st:SS τ dn} {K:Ex->SS τ dn->Prop} {T:List Nat} {ft:List (Nat×SV τ dn)} {fm:List (Nat×Option (SB τ dn))} (hT:vs.map (nmV st)=T) (jk:T.length=vs.length) (kp:∀{a},keepP vs T st.nx a=true->a<st.nx/\¬a∈movesV vs T) (hle:∀a,keepP vs T st.nx a=true->lessB st.nx a=true)
  (aT:∀{i v},getS (ft++st.rt) i=some v->(getS ft i=some v\/getS st.rt i=some v)/\v.fr (keepP vs T st.nx)=true/\¬i∈dQ vs) (aM:∀{i v},getS (fm++st.rm) i=some v->(getS fm i=some v\/getS st.rm i=some v)/\(∀B,v=some B->B.fr (keepP vs T st.nx)=true)/\keepP vs T st.nx i=true)
  (fT:∀{i v},getS ft i=some v->getS st.t i=some v/\v.fr (keepP vs T st.nx)=true/\¬i∈dQ vs) (fM:∀{i v},getS fm i=some v->getS st.m i=some v/\(∃B,v=some B/\B.fr (keepP vs T st.nx)=true)/\keepP vs T st.nx i=true)
  (rT:∀{i v},getS st.rt i=some v->v.fr (keepP vs T st.nx)=true/\¬i∈dQ vs/\getS ft i=none) (rM:∀{i v},getS st.rm i=some v->keepP vs T st.nx i=true/\(∀B,v=some B->B.fr (keepP vs T st.nx)=true)/\getS fm i=none) (o3:okT (lessB st.nx) vs T=true) (iq:C.fl<=st.nx) (sh:(movesV vs T).all (Nat.ble C.fl)=true)
  {x:VT dn vs} {s:S3} (h:B ⟨ft++st.rt,fm++st.rm,bC C.D vs T x,putM C.D vs T x,st.nx⟩ fun e ah=>match e with
   | .normal=>match j6 C.D ah vs with
    |some x'=>bif nextB vs T (vs.map (nmV ah)) st.nx ah.nx then I x'/\ms x'<ms x else False
    |none=>False
   |e=>K e ⟨st.rt,st.rm,ah.t++ft,ah.m++fm,ah.nx⟩) (R:Rel C.D N ⟨ft++st.rt,fm++st.rm,bC C.D vs T x,putM C.D vs T x,st.nx⟩ s)
  (next:∀x',ms x'<ms x->I x'->∀N2 s2,Rel C.D N2 ⟨ft++st.rt,fm++st.rm,bC C.D vs T x',putM C.D vs T x',st.nx⟩ s2->∃e s' j N3 ah,Ch C.P n k0 a e s' j s2/\Rel C.D N3 ah s'/\ah.rt=st.rt/\ah.rm=st.rm/\(N2.aZ C.fl N3/\C.fl<=ah.nx)/\K e ah):
  ∃e s' j N2 ah,Ch C.P n k0 a e s' j s/\Rel C.D N2 ah s'/\ah.rt=st.rt/\ah.rm=st.rm/\(N.aZ C.fl N2/\C.fl<=ah.nx)/\K e ah:=by
 obtain ⟨e,s1,N1,st1,e1,R1,eK,dh,AB,hk⟩:=hB R iq h
 have leave:e≠ .normal->K e ⟨st.rt,st.rm,st1.t++ft,st1.m++fm,st1.nx⟩->∃e s' j N2 ah,Ch C.P n k0 a e s' j s/\Rel C.D N2 ah s'/\ah.rt=st.rt/\ah.rm=st.rm/\(N.aZ C.fl N2/\C.fl<=ah.nx)/\K e ah:=fun aC hk=>by
  have AD:∀i v,getS fm i=some v->getS st1.rm i=some v:=fun i v h=>by rw [dh];show getS (fm++st.rm) i=_;rw [fo,h];rfl
  have AE:∀i v,getS st.rm i=some v->getS st1.rm i=some v:=fun i v h=>by rw [dh];show getS (fm++st.rm) i=_;rw [fo,(rM h).2.2];exact h
  have cE:∀a X,(⟨st.rt,st.rm,st1.t++ft,st1.m++fm,st1.nx⟩:SS τ dn).bm a X->st1.bm a X:=fun a X hX=>by
   rcases hX with hX|hX
   ·have j1:getS (st1.m++fm) a=some (some X):=hX
    rw [fo] at j1
    cases hq:getS st1.m a with
    |some w=>rw [hq] at j1;simp only [MI,KZ] at j1;subst j1;exact .inl hq
    |none=>rw [hq] at j1;simp only [Mu] at j1;exact .inr (AD a _ j1)
   ·exact .inr (AE a _ hX)
  refine ⟨e,s1,0,N1,⟨st.rt,st.rm,st1.t++ft,st1.m++fm,st1.nx⟩, .last e1 aC,⟨fun N' hN=> ?_,R1.inj,R1.lt,fun nm B h=> ?_,fun nm B h=> ?_,fun t A h id hid=>⟨(R1.sp t A (cE 0 _ h) id hid).1,fun nm B hB=>(R1.sp t A (cE 0 _ h) id hid).2 nm B (cE nm B hB)⟩⟩,rfl,rfl,AB,hk⟩
  ·have A:=R1.at_ N' hN
   have II:∀i v,getS ft i=some v->getS st1.rt i=some v:=fun i v h=>by rw [eK];show getS (ft++st.rt) i=_;rw [fo,h];rfl
   have IJ:∀i v,getS st.rt i=some v->getS st1.rt i=some v:=fun i v h=>by rw [eK];show getS (ft++st.rt) i=_;rw [fo,(rT h).2.2];exact h
   refine ⟨fun i v h=> ?_,fun i v h=>A.rs i v (IJ i v h),fun nm B h=> ?_,fun nm B h=>A.rb nm B (AE nm _ h),fun t A' h id hid=>A.ar t A' (cE 0 _ h) id hid⟩
   ·have h':getS (st1.t++ft) i=some v:=h
    rw [fo] at h'
    cases hq:getS st1.t i with
    |some w=>rw [hq] at h';simp only [MI,KZ] at h';subst h';exact A.sl i _ hq
    |none=>rw [hq] at h';simp only [Mu] at h';exact A.rs i v (II i v h')
   ·have h':getS (st1.m++fm) nm=some (some B):=h
    rw [fo] at h'
    cases hq:getS st1.m nm with
    |some w=>rw [hq] at h';simp only [MI,KZ] at h';subst h';exact A.bl nm _ hq
    |none=>rw [hq] at h';simp only [Mu] at h';exact A.rb nm B (AD nm _ h')
  ·have h':getS (st1.m++fm) nm=some B:=h
   rw [fo] at h'
   cases hq:getS st1.m nm with
   |some w=>exact R1.ml nm w hq
   |none=>rw [hq] at h';simp only [Mu] at h';exact R1.rl nm B (by rw [dh];show getS (fm++st.rm) nm=_;rw [fo,h'];rfl)
  ·exact R1.rl nm B (by rw [dh];show getS (fm++st.rm) nm=_;rw [fo,(rM h).2.2];exact h)
 cases e with
 |exit i=>exact leave (by simp) hk
 |ret=>exact leave (by simp) hk
 |normal=>
  simp only at hk
  split at hk
  case h_2=>exact hk.elim
  rename_i x' cZ
  generalize hA:vs.map (nmV st1)=A at hk
  cases hn:nextB vs T A st.nx st1.nx with
  |false=>rw [hn] at hk;exact hk.elim
  |true=>
   rw [hn,K5] at hk
   unfold nextB at hn
   simp only [K2] at hn
   obtain ⟨⟨⟨n1,n2⟩,n3⟩,n4⟩:=hn
   have AF:∀a,a∈gk vs->dz vs T A a=a:=fun a ha=>Lk (K6.1 n4 a ha)
   have hV:=rQ hC.ok R1.here cZ
   rw [hA] at hV
   have IM:A.length=vs.length:=by rw [<-hA,Lq]
   have vM:∀c,c<st.nx->dz vs T A c<st1.nx:=fun c hc=>pk ((K6.1 n2) c (LH.2 hc))
   have IN:∀c d,c<st.nx->d<st.nx->dz vs T A c=dz vs T A d->c=d:=fun c d hc hd he=>by
    rw [List.range_eq_range'] at n1
    exact Ay n1 c d (Nat.zero_le _) (by omega) (Nat.zero_le _) (by omega) he
   obtain ⟨N2,g8⟩:∃N2:aw,N2=⟨fun c=>N1.ι (dz vs T A c),fun c=>N1.ln (dz vs T A c),N1.ρ⟩:=⟨_,rfl⟩
   have po:N1.same (keepP vs T st.nx) N2:=by
    refine ⟨fun c hc=> ?_,by rw [g8]⟩
    rw [g8];simp only [vj (kp hc).2,Lp]
   have IP:iE C.D N2 s1.σ s1.g vs T x':=by
    refine vm C.D (by rw [g8]) hC.ok hV (by rw [jk,IM]) (fun j v c m h0 h1 h2=> ?_) fun a ha=>by rw [g8];simp only [AF a ha,Lp]
    have hz:(v,c,m)∈vs.zip (T.zip A):=by
     refine LJ (i:=j) ?_
     rw [M3,M3]
     exact ⟨h0,h1,h2⟩
    have:=(K6.1 n3) _ hz
    simp only [Ls,K2] at this
    rcases this with h|⟨h,h'⟩
    ·exact .inl h
    ·have e:=Lk h
     refine .inr ⟨by rw [g8];simp only [e],by rw [g8];simp only [e], ?_⟩
     rcases h' with h'|h'
     ·exact .inl h'
     ·exact .inr (Lk h')
   obtain ⟨s2,w2,R2⟩:=zU (n:=n) (k0:=k0) hC.ok (rt:=ft++st.rt) (rm:=fm++st.rm) (nx:=st.nx) IP o3 jk (fun i v h=>by
     obtain ⟨_,h2,h3⟩:=aT h
     refine ⟨?_,SV.mh hle v h2,h3⟩
     rw [nj po v h2]
     exact R1.here.rs i v (by rw [eK];exact h)) (fun nm B h=>by
     obtain ⟨_,h2,h3⟩:=aM h
     refine ⟨(kp h3).1,fun B' aR=> ?_⟩
     subst aR
     obtain ⟨q1,q2⟩:=R1.here.rb nm B' (by rw [dh];exact h)
     obtain ⟨p1,p2⟩:=po.1 nm h3
     exact ⟨by rw [p1,zN po B' (h2 B' rfl)];exact q1,by rw [p2];exact q2,SB.mh hle B' (h2 B' rfl)⟩)
    (fun c d hc hd he=>IN c d hc hd (R1.inj _ _ (vM c hc) (vM d hd) (by rw [g8] at he;exact he))) (fun c hc=>by rw [g8];exact R1.lt _ (vM c hc))
    (fun t Ar h id hid=>by
     have cE:∀nm B,(⟨ft++st.rt,fm++st.rm,bC C.D vs T x',putM C.D vs T x',st.nx⟩:SS τ dn).bm nm B->(∃B',st1.bm (dz vs T A nm) B')/\(∀t Ar,nm=0->B= .ar t Ar->st1.bm 0 (.ar t Ar)):=fun nm B hB=>by
      rcases hB with hB|hB
      ·rcases rR cZ jk nm B (g6 hB) with ⟨j,v,p1,p2,p3,⟨B',p4⟩,p5⟩|⟨hf,⟨B',p4⟩,p5⟩
       case inr=>exact ⟨⟨B',by rw [AF nm hf];exact fI p4⟩,fun t Ar h0 he=>absurd he (p5 t Ar)⟩
       have hj:A[j]? =some (nmV st1 v):=by rw [<-hA,Lu,p1];rfl
       have hz:(v,nm,nmV st1 v)∈vs.zip (T.zip A):=by
        refine LJ (i:=j) ?_
        rw [M3,M3]
        exact ⟨p1,p2,hj⟩
       have:=(K6.1 n3) _ hz
       simp only [Ls,K2] at this
       have e:=Lk (this.resolve_left (by rw [p3];simp)).1
       refine ⟨⟨B', ?_⟩,fun t Ar h0 he=> ?_⟩
       ·show st1.bm (dz vs T A nm) B'
        rw [e];exact fI p4
       ·exact fI (p5 t Ar he).2
      ·have aR:getS (fm++st.rm) nm=some (some B):=hB
       obtain ⟨_,_,h3⟩:=aM aR
       refine ⟨⟨B, ?_⟩,fun t Ar h0 he=> ?_⟩
       ·rw [vj (kp h3).2];exact .inr (by rw [dh];exact aR)
       ·subst h0;subst he;exact .inr (by rw [dh];exact aR)
     have h1:=(cE 0 _ h).2 t Ar rfl rfl
     obtain ⟨q1,q2⟩:=R1.sp t Ar h1 id hid
     have q3:=R1.here.ar t Ar h1 id hid
     refine ⟨by rw [g8];exact q3,q1,fun nm B hB=> ?_⟩
     obtain ⟨⟨B',aR⟩,_⟩:=cE nm B hB
     rw [g8];exact q2 _ B' aR)
   obtain ⟨e,s',j,N3,ah,c1,c2,c3,c4,c5,c6⟩:=next x' hk.2 hk.1 N2 s2 R2
   have dF:N1.aZ C.fl N2:=⟨fun c hc=>by
    have ek:¬c∈movesV vs T:=fun hm=>absurd (LV (K6.1 sh c hm)) (by omega)
    rw [g8];simp only [vj ek,Lp],by rw [g8]⟩
   exact ⟨e,s',j+1,N3,ah, .step e1 w2 c1,c2,c3,c4,⟨aw.ep (aw.ep AB.1 dF (K4 _)) c5.1 (K4 _),c5.2⟩,c6⟩
theorem IQ {C:bU τ dn} (hC:C.Ok) {a:AC} {B:SS τ dn->(Ex->SS τ dn->Prop)->Prop} (hB:∀{st:SS τ dn} {K:Ex->SS τ dn->Prop} {N:aw} {s:S3},Rel C.D N st s->C.fl<=st.nx->B st K->Ends C n k0 a N st s K) {vs:List (VK τ)} {I0:VT dn vs->VT dn vs->Prop} {AG:VT dn vs->VT dn vs->Nat} {g7:List Nat}
  {st:SS τ dn} {K:Ex->SS τ dn->Prop} {s:S3} (R:Rel C.D N st s) (iq:C.fl<=st.nx) (h:vI C.D C.fl vs I0 AG g7 B st K):Ends C n k0 (.loop a) N st s K:=by
 unfold vI at h
 split at h
 case h_1=>exact h.elim
 rename_i x0 AH
 generalize hI:I0 x0=I at h
 generalize sT:AG x0=ms at h
 generalize hT:vs.map (nmV st)=T at h
 generalize IS:j5 (keepP vs T st.nx) (dQ vs++g7) st.t=ft at h
 generalize IT:jg (keepP vs T st.nx) (l9 vs T) st.m=fm at h
 unfold Aq at h
 cases hok:okB vs T st (keepP vs T st.nx) ft fm&&(movesV vs T).all (Nat.ble C.fl) with
 |false=>rw [hok] at h;exact h.elim
 |true=>
 rw [hok,K5] at h
 rw [K2] at hok
 obtain ⟨hok,sh⟩:=hok
 obtain ⟨nZ,bz⟩:=h
 rw [rO] at bz
 unfold okB at hok
 simp only [K2] at hok
 obtain ⟨⟨⟨⟨o1,o2⟩,o3⟩,o4⟩,o5⟩:=hok
 have jk:T.length=vs.length:=by rw [<-hT,Lq]
 have kp:∀{a},keepP vs T st.nx a=true->a<st.nx/\¬a∈movesV vs T:=fun {a} h=>by
  unfold keepP at h
  rw [K2] at h
  refine ⟨pk h.1,fun hm=> ?_⟩
  have:=h.2
  rw [j4.2 hm] at this;simp at this
 have hle:∀a,keepP vs T st.nx a=true->lessB st.nx a=true:=fun a h=>by
  unfold keepP at h;rw [K2] at h;exact h.1
 have fT:∀{i v},getS ft i=some v->getS st.t i=some v/\v.fr (keepP vs T st.nx)=true/\¬i∈dQ vs:=fun {i v} h=>by
  rw [<-IS] at h
  obtain ⟨h1,h2,h3⟩:=vd h
  exact ⟨h1,h2,fun hh=>h3 (LL _ hh)⟩
 have fM:∀{i v},getS fm i=some v->getS st.m i=some v/\(∃B,v=some B/\B.fr (keepP vs T st.nx)=true)/\keepP vs T st.nx i=true:=fun {i v} h=>by
  rw [<-IT] at h
  obtain ⟨h1,h2,h3,_⟩:=ve h
  exact ⟨h1,h2,h3⟩
 have rT:∀{i v},getS st.rt i=some v->v.fr (keepP vs T st.nx)=true/\¬i∈dQ vs/\getS ft i=none:=fun {i v} h=>by
  have:=(K6.1 o1) _ (g6 h)
  simp only [K2,Lm,Option.isNone_iff_eq_none] at this
  exact ⟨this.1.1,fun hh=>by rw [j4.2 hh] at this;simp at this,this.2⟩
 have rM:∀{i v},getS st.rm i=some v->keepP vs T st.nx i=true/\(∀B,v=some B->B.fr (keepP vs T st.nx)=true)/\getS fm i=none:=fun {i v} h=>by
  have:=(K6.1 o2) _ (g6 h)
  simp only [K2,Option.isNone_iff_eq_none] at this
  exact ⟨this.1.1,fun B hB=>by subst hB;exact this.1.2,this.2⟩
 have aT:∀{i v},getS (ft++st.rt) i=some v->(getS ft i=some v\/getS st.rt i=some v)/\v.fr (keepP vs T st.nx)=true/\¬i∈dQ vs:=fun {i v} h=>by
  rw [fo] at h
  cases hf:getS ft i with
  |some w=>rw [hf] at h;simp only [MI,KZ] at h;subst h;exact ⟨.inl rfl,(fT hf).2⟩
  |none=>rw [hf] at h;simp only [Mu] at h;exact ⟨.inr h,(rT h).1,(rT h).2.1⟩
 have aM:∀{i v},getS (fm++st.rm) i=some v->(getS fm i=some v\/getS st.rm i=some v)/\(∀B,v=some B->B.fr (keepP vs T st.nx)=true)/\keepP vs T st.nx i=true:=fun {i v} h=>by
  rw [fo] at h
  cases hf:getS fm i with
  |some w=>
   rw [hf] at h;simp only [MI,KZ] at h;subst h
   obtain ⟨h1,⟨B,h2,h3⟩,h4⟩:=fM hf
   exact ⟨.inl rfl,fun B' aR=>by rw [h2,KZ] at aR;subst aR;exact h3,h4⟩
  |none=>rw [hf] at h;simp only [Mu] at h;exact ⟨.inr h,(rM h).2.1,(rM h).1⟩
 -- ig rounds
 have rounds:∀(m:Nat) (x:VT dn vs) (N':aw) (s0:S3),ms x<=m->I x->Rel C.D N' ⟨ft++st.rt,fm++st.rm,bC C.D vs T x,putM C.D vs T x,st.nx⟩ s0->
   ∃e s' j N2 ah,Ch C.P n k0 a e s' j s0/\Rel C.D N2 ah s'/\ah.rt=st.rt/\ah.rm=st.rm/\(N'.aZ C.fl N2/\C.fl<=ah.nx)/\K e ah:=by
  intro m
  induction m with
  |zero=>
   intro x N' s0 hm hI R0
   exact AA hC hB hT jk kp hle aT aM fT fM rT rM o3 iq sh (bz x hI) R0 fun x' hlt=>absurd hlt (by omega)
  |succ m ih=>
   intro x N' s0 hm hI R0
   exact AA hC hB hT jk kp hle aT aM fT fM rT rM o3 iq sh (bz x hI) R0 fun x' hlt ir N2 s2 R2=>ih x' N2 s2 (by omega) ir R2
 have hV:=rQ hC.ok R.here AH
 rw [hT] at hV
 obtain ⟨s1,w1,R1⟩:=zU (n:=n) (k0:=k0) hC.ok (rt:=ft++st.rt) (rm:=fm++st.rm) hV o3 jk (fun i v h=>by
   obtain ⟨h1,h2,h3⟩:=aT h
   refine ⟨?_,SV.mh hle v h2,h3⟩
   rcases h1 with h1|h1
   ·exact R.here.sl i v (fT h1).1
   ·exact R.here.rs i v h1) (fun nm B h=>by
   obtain ⟨h1,h2,h3⟩:=aM h
   refine ⟨(kp h3).1,fun B' aR=> ?_⟩
   subst aR
   have:s.g (N.ι nm)=some (B'.av C.D.toTE N)/\N.ln nm=B'.len:=by
    rcases h1 with h1|h1
    ·exact R.here.bl nm B' (fM h1).1
    ·exact R.here.rb nm B' h1
   exact ⟨this.1,this.2,SB.mh hle B' (h2 B' rfl)⟩) R.inj R.lt
   (fun t Ar h id hid=>by
    have cE:∀nm B,(⟨ft++st.rt,fm++st.rm,bC C.D vs T x0,putM C.D vs T x0,st.nx⟩:SS τ dn).bm nm B->(∃B',st.bm nm B')/\(∀t Ar,nm=0->B= .ar t Ar->st.bm 0 (.ar t Ar)):=fun nm B hB=>by
     rcases hB with hB|hB
     ·rcases rR AH jk nm B (g6 hB) with ⟨j,v,p1,p2,p3,⟨B',p4⟩,p5⟩|⟨hf,⟨B',p4⟩,p5⟩
      case inr=>exact ⟨⟨B',fI p4⟩,fun t Ar h0 he=>absurd he (p5 t Ar)⟩
      have hj:nmV st v=nm:=by
       have:T[j]? =some (nmV st v):=by rw [<-hT,Lu,p1];rfl
       rw [p2] at this;simpa using this.symm
      exact ⟨⟨B',hj▸fI p4⟩,fun t Ar h0 he=>fI (p5 t Ar he).2⟩
     ·have aR:getS (fm++st.rm) nm=some (some B):=hB
      have:st.bm nm B:=by
       rcases (aM aR).1 with h1|h1
       ·exact .inl (fM h1).1
       ·exact .inr h1
      exact ⟨⟨B,this⟩,fun t Ar h0 he=>by subst h0;subst he;exact this⟩
    have h1:=(cE 0 _ h).2 t Ar rfl rfl
    obtain ⟨q1,q2⟩:=R.sp t Ar h1 id hid
    exact ⟨R.here.ar t Ar h1 id hid,q1,fun nm B hB=>by obtain ⟨⟨B',aR⟩,_⟩:=cE nm B hB;exact q2 nm B' aR⟩)
 obtain ⟨e,s',j,N2,ah,c1,c2,c3,c4,c5,c6⟩:=rounds (ms x0) x0 N s1 (K4 _) nZ R1
 exact ⟨e,s',N2,ah,ED.iW w1 (ED.loop c1),c2,c3,c4,c5,c6⟩
theorem AI {C:bU τ dn} (hC:C.Ok) {n k0:Nat} {an:Nat->Option (LA τ dn)}:∀(ps:List (List az)) {st:SS τ dn} {K:SS τ dn->Prop} {N:aw} {s:S3},Rel C.D N st s->sa C n an ps st K->
  ∃s' N' ah,nv C.P n k0 ps s s'/\Rel C.D N' ah s'/\(ah.rt=st.rt/\ah.rm=st.rm)/\N.aZ st.nx N'/\st.nx<=ah.nx/\K ah
 |[],st,K,N,s,R,h=>⟨s,N,st, .nil,R,⟨rfl,rfl⟩,N.dJ _,K4 _,h⟩
 |p::ps,st,K,N,s,R,h=>by
  simp only [sa] at h
  obtain ⟨s1,st1,w1,R1,z1,z2,z3,h⟩:=vE (n:=n) (k0:=k0) hC.ok _ R h
  obtain ⟨KP,IU,IV,IW,IX,h⟩:=HT R1 h
  obtain ⟨IY,IZ,vN,vO,vP,h⟩:=Ao hC.ok IU h
  obtain ⟨KQ,I1,I2,I3,I4,h⟩:=An IZ h
  obtain ⟨aO,R2,y1,y2,y3,h⟩:=rz hC.ok I1 h
  rw [I2,vN,IV] at y1;rw [I3,vO,IW] at y2;rw [I4,vP,IX] at y3
  obtain ⟨s3,N3,kV,e3,R3,r1,r2,r3,h⟩:=rJ (hC.wo (pv an p)) (k0:=k0) R2 h
  obtain ⟨s4,N4,I5,e4,R4,q1,q2,q3,h⟩:=AI hC (k0:=k0) ps R3 h
  rw [y1,y2,z1,z2] at r1
  rw [y3,z3] at r2 r3
  exact ⟨s4,N4,I5, .cons w1 e3 e4,R4,⟨q1.1.trans r1.1,q1.2.trans r1.2⟩,aw.ep r2 q2 r3,Lw r3 q3,h⟩
theorem iH {C:bU τ dn} (hC:C.Ok) {n k0:Nat} {an:Nat->Option (LA τ dn)}:∀(ac:AC) (k:Nat) {st:SS τ dn} {K:Ex->SS τ dn->Prop} {N:aw} {s:S3},Rel C.D N st s->C.fl<=st.nx->eA C n an ac k st K->Ends C n k0 ac N st s K
 | .skip,k,st,K,N,s,R,hl,h=>⟨_,s,N,st,ED.skip,R,rfl,rfl,⟨N.dJ _,hl⟩,h⟩
 | .ret,k,st,K,N,s,R,hl,h=>⟨_,s,N,st,ED.ret,R,rfl,rfl,⟨N.dJ _,hl⟩,h⟩
 | .exit i,k,st,K,N,s,R,hl,h=>⟨_,s,N,st,ED.exit,R,rfl,rfl,⟨N.dJ _,hl⟩,h⟩
 | .seq a b,k,st,K,N,s,R,hl,h=>by
  simp only [eA] at h
  obtain ⟨e,s1,N1,st1,e1,R1,r1,r2,r3,hk⟩:=iH hC a k R hl h
  cases e with
  |normal=>
   obtain ⟨e,s2,N2,aO,e2,R2,q1,q2,q3,hk2⟩:=iH hC b _ R1 r3.2 hk
   exact ⟨e,s2,N2,aO,ED.seq e1 e2,R2,q1.trans r1,q2.trans r2,⟨aw.ep r3.1 q3.1 (K4 _),q3.2⟩,hk2⟩
  |exit i=>exact ⟨_,s1,N1,st1,ED.zM e1 (by simp),R1,r1,r2,r3,hk⟩
  |ret=>exact ⟨_,s1,N1,st1,ED.zM e1 (by simp),R1,r1,r2,r3,hk⟩
 | .cond c a b,k,st,K,N,s,R,hl,h=>by
  simp only [eA] at h
  have go:∀p:Bool,aE s.σ c= .v (.bool p)->(p=true->Ends C n k0 a N st s K)->(p=false->Ends C n k0 b N st s K)->Ends C n k0 (.cond c a b) N st s K:=fun p hp h1 h2=>by
   cases p with
   |true=>
    obtain ⟨e,s1,N1,st1,e1,R1,r1,r2,r3,hk⟩:=h1 rfl
    exact ⟨e,s1,N1,st1,ED.cond hp (by rw [K1 rfl];exact e1),R1,r1,r2,r3,hk⟩
   |false=>
    obtain ⟨e,s1,N1,st1,e1,R1,r1,r2,r3,hk⟩:=h2 rfl
    exact ⟨e,s1,N1,st1,ED.cond hp (by rw [K0 (by simp)];exact e1),R1,r1,r2,r3,hk⟩
  split at h
  ·rename_i hc
   exact go true (R.here.ev hc) (fun _=>iH hC a k R hl h) (fun hh=>by simp at hh)
  ·rename_i hc
   exact go false (R.here.ev hc) (fun hh=>by simp at hh) (fun _=>iH hC b _ R hl h)
  ·rename_i c' hc
   split at h
   ·rename_i O ah hm
    rw [iA] at h
    obtain ⟨hO,hk⟩:=h
    have AJ:∀{x:AC},x= .skip->Rel C.D N ah s->ah.rt=st.rt/\ah.rm=st.rm/\ah.nx=st.nx->Ends C n k0 x N st s K:=fun {x} hx hR hs=>by
     subst hx
     exact ⟨_,s,N,ah,ED.skip,hR,hs.1,hs.2.1,⟨N.dJ _,by rw [hs.2.2];exact hl⟩,hk⟩
    have run:∀{x:AC} {os:List az},x= .bM os none->(∃s' N',fC C.P n k0 os s.σ s.g s.k s'.σ s'.g s'.k/\Rel C.D N' ah s'/\N.aZ st.nx N')->ah.rt=st.rt/\ah.rm=st.rm/\ah.nx=st.nx->Ends C n k0 x N st s K:=fun {x os} hx hR hs=>by
     subst hx
     obtain ⟨s',N',q1,q2,q3⟩:=hR
     exact ⟨_,s',N',ah,ED.bM q1,q2,hs.1,hs.2.1,⟨sc q3 hl,by rw [hs.2.2];exact hl⟩,hk⟩
    unfold As at hm
    split at hm
    ·obtain ⟨q1,q2,q3⟩:=Af (k0:=k0) hC hm hO R
     exact go c'.den (R.here.ev hc) (fun hh=>AJ rfl (q2 hh) q1) (fun hh=>run rfl (q3 hh) q1)
    ·obtain ⟨q1,q2,q3⟩:=Af (k0:=k0) hC hm hO R
     exact go c'.den (R.here.ev hc) (fun hh=>run rfl (q3 hh) q1) (fun hh=>AJ rfl (q2 hh) q1)
    ·simp at hm
   exact go c'.den (R.here.ev hc) (fun hh=>iH hC a k R hl (h.1 ((Cn.gW c' true).2 hh))) (fun hh=>iH hC b _ R hl (h.2 ((Cn.gW c' false).2 hh)))
  ·exact h.elim
 | .block i a,k,st,K,N,s,R,hl,h=>by
  simp only [eA] at h
  obtain ⟨e,s1,N1,st1,e1,R1,r1,r2,r3,hk⟩:=iH hC a k R hl h
  exact ⟨_,s1,N1,st1,ED.block e1,R1,r1,r2,r3,hk⟩
 | .loop a,k,st,K,N,s,R,hl,h=>by
  simp only [eA] at h
  split at h
  ·rename_i m hm
   obtain ⟨e,s2,j,N2,aO,c1,c2,c3,c4,c5,c6⟩:=Az (fun R hl h=>iH hC a (k+1) R hl h) m R hl h
   exact ⟨e,s2,N2,aO,ED.loop c1,c2,c3,c4,c5,c6⟩
  ·rename_i vs I ms hm
   obtain ⟨s1,N1,w1,R1,r1,r2,r3,r4⟩:=At (n:=n) (k0:=k0) (vs:=vs) R
   obtain ⟨e,s2,N2,aO,e2,R2,q1,q2,q3,hk⟩:=IQ hC (fun R hl h=>iH hC a (k+1) R hl h) R1 (Lw hl r4) h
   exact ⟨e,s2,N2,aO,ED.iW w1 e2,R2,q1.trans r1,q2.trans r2,⟨aw.ep (sc r3 hl) q3.1 (K4 _),q3.2⟩,hk⟩
  ·exact h.elim
 | .bM os none,k,st,K,N,s,R,hl,h=>by
  simp only [eA] at h
  obtain ⟨s',N',ah,e1,R1,r1,r2,r3,hk⟩:=AI hC (k0:=k0) _ R h
  have e2:=ED.Iw e1
  rw [Ak] at e2
  exact ⟨_,s',N',ah,e2,R1,r1.1,r1.2,⟨sc r2 hl,Lw hl r3⟩,hk⟩
 | .bM os (some dep),k,st,K,N,s,R,hl,h=>by
  simp only [eA] at h
  obtain ⟨s1,st1,w1,R1,z1,z2,z3,h⟩:=vE (n:=n) (k0:=k0) hC.ok _ R h
  obtain ⟨IY,I6,vN,vO,vP,h⟩:=Ao hC.ok R1 h
  obtain ⟨aO,R1,y1,y2,y3,h⟩:=An I6 h
  rw [vN] at y1;rw [vO] at y2;rw [vP] at y3
  obtain ⟨jn,hj,s',N',ah,e1,R1,r1,r2,r3,hk⟩:=H4 (hC.wo (pv an os)) R1 h
  rw [y1,y2,z1,z2] at r1
  rw [y3,z3] at r2 r3
  exact ⟨_,s',N',ah,ED.iW w1 (ED.draw hj e1),R1,r1.1,r1.2,⟨sc r2 hl,Lw hl r3⟩,hk⟩
 | .qo _ _ _ _,k,st,K,N,s,R,hl,h=>by simp only [eA] at h
def eu (D:TD τ dn) (vs:List (SV τ dn)):SS τ dn:=match D.ar with
 |none=>⟨[],[],jl vs 0,[],0⟩
 |some t=>⟨[],[],jl vs 0,[(0,some (.ar t []))],1⟩
def vQ:List jD->List Nat
 |[]=>[]
 | .tmp i::r| .cell i _::r=>i::vQ r
def vR (C:bU τ dn) (F:da) (an:Nat->Option (LA τ dn)) (vs:List (SV τ dn)) (rs:List τ) (r:RD dn rs):Prop:=
 bif Nat.ble vs.length F.n&&rs.all C.D.pu&&Nat.beq C.fl 0 then eA C F.n an F.code 0 (eu C.D vs) fun e st=>match e with
  | .exit _=>False
  |_=>nq C.D false (st.rW (vQ F.res)) st fun st=>match iG C.D st F.res with
   |some (O,l)=>match iB C.D st l with
    |some l'=>match jc C.D rs l' with
     |some y=>eW O (y=r)
     |none=>False
    |none=>False
   |none=>False
 else False
theorem I7 {C:bU τ dn} (hC:C.Ok) {f:FuncId} (hF:cFunc C.P f=some F) {an:Nat->Option (LA τ dn)} {vs:List (SV τ dn)} {rs:List τ} {r:RD dn rs} (N:aw) (dW:SV.db (fun _=>false) vs=true) (h:vR C F an vs rs r):Fn C.P f (vs.map (SV.av C.D.toTE N)) ((kT (gE C.D rs r)).av C.D.toTE N):=by
 unfold vR at h
 cases hb:(Nat.ble vs.length F.n&&rs.all C.D.pu&&Nat.beq C.fl 0) with
 |false=>rw [hb] at h;exact h.elim
 |true=>
 rw [hb,K5] at h
 rw [K2,K2] at hb
 obtain ⟨hb,hz⟩:=hb
 have hz:=Lk hz
 have hl:vs.length<=F.n:=LV hb.1
 have cd:∀(N':aw),N'.ρ=N.ρ->∀i v,getS (jl vs 0) i=some v->cJ (vs.map (SV.av C.D.toTE N)) i=v.av C.D.toTE N':=fun N' jh i v hv=>by
  obtain ⟨_,h2⟩:=vL hv
  rw [Nat.sub_zero] at h2
  have hs:N.same (fun _=>false) N':=⟨fun a ha=>by simp at ha,jh⟩
  have hm:∀(l:List (SV τ dn)) (j:Nat) w,SV.db (fun _=>false) l=true->l[j]? =some w->w.fr (fun _=>false)=true:=by
   intro l
   induction l with
   |nil=>intro j w _ hw;simp at hw
   |cons a l ih=>
    intro j w hl hw
    simp only [SV.db,K2] at hl
    cases j with
    |zero=>simp only [LB,KZ] at hw;subst hw;exact hl.1
    |succ j=>exact ih j w hl.2 (by simpa using hw)
  unfold cJ
  rw [Lu,h2]
  exact (nj hs v (hm vs i v dW h2)).symm
 have R0:∃s0 N0,S3.Le 0 F.n ⟨cJ (vs.map (SV.av C.D.toTE N)),fun _=>none,0⟩ s0/\Rel C.D N0 (eu C.D vs) s0:=by
  unfold eu
  split
  ·refine ⟨_,N,S3.Le.kW,⟨fun N' hN=>⟨fun i v hv=>cd N' hN.2 i v hv,fun i v hv=>by simp [getS] at hv,fun nm B hB=>by simp [getS] at hB,fun nm B hB=>by simp [getS] at hB,fun t A h=>by rcases h with h|h<;>simp [getS] at h⟩,fun a b ha=>absurd ha (Nat.not_lt_zero _),fun a ha=>absurd ha (Nat.not_lt_zero _),fun nm B hB=>by simp [getS] at hB,fun nm B hB=>by simp [getS] at hB,fun t A h=>by rcases h with h|h<;>simp [getS] at h⟩⟩
  ·rename_i t _
   have AK:∀t' A,(⟨[],[],jl vs 0,[(0,some (.ar t []))],1⟩:SS τ dn).bm 0 (.ar t' A)->∀id,¬dp A id:=fun t' A h id=>by
    rcases h with h|h
    ·simp only [aV,K3,KZ,SB.ar.injEq] at h
     obtain ⟨rfl,h⟩:=h
     have h:=eq_of_heq h
     subst h;exact yB
    ·simp [getS] at h
   refine ⟨_,⟨fun _=>0,fun _=>0,N.ρ⟩,S3.IH (C.D.sz t),⟨fun N' hN=>⟨fun i v hv=>cd N' hN.2 i v hv,fun i v hv=>by simp [getS] at hv,fun nm B hB=> ?_,fun nm B hB=>by simp [getS] at hB,fun t' A h id hid=>absurd hid (AK t' A h id)⟩,fun a b ha hb _=> ?_,fun a ha=> ?_,fun nm B hB=> ?_,fun nm B hB=>by simp [getS] at hB,fun t' A h id hid=>absurd hid (AK t' A h id)⟩⟩
   ·have aR:getS [(0,some (SB.ar t ([]:List (Nat×List (dn t)))))] nm=some (some B):=hB
    rw [aV] at aR
    by_cases hn:nm=0
    ·subst hn
     simp only [K3,KZ] at aR
     subst aR
     have e:=hN.1 0 (Mb 0)
     refine ⟨?_,e.2⟩
     show au _ _ (N'.ι 0)=_
     rw [e.1];rfl
    ·rw [K0 hn] at aR;simp [getS] at aR
   ·have:a<1:=ha
    have:b<1:=hb
    omega
   ·exact Mb 0
   ·have aR:getS [(0,some (SB.ar t ([]:List (Nat×List (dn t)))))] nm=some B:=hB
    rw [aV] at aR
    by_cases hn:nm=0
    ·subst hn;exact Mb 0
    ·rw [K0 hn] at aR;simp [getS] at aR
 obtain ⟨s0,N0,w0,R0⟩:=R0
 refine D8 hF (by rw [Lq];exact hl) ?_
 obtain ⟨e,s',N',ah,e1,R1,_,_,_,hk⟩:=iH hC (n:=F.n) (k0:=0) F.code 0 R0 (by rw [hz];exact Nat.zero_le _) h
 have e1:=ED.iW w0 e1
 have hk2:(e= .normal\/e= .ret)/\nq C.D false (ah.rW (vQ F.res)) ah fun ah=>match iG C.D ah F.res with
   |some (O,l)=>match iB C.D ah l with
    |some l'=>match jc C.D rs l' with
     |some y=>eW O (y=r)
     |none=>False
    |none=>False
   |none=>False:=by
  cases e with
  |normal=>exact ⟨.inl rfl,hk⟩
  |ret=>exact ⟨.inr rfl,hk⟩
  |exit i=>exact hk.elim
 clear hk
 obtain ⟨he,hk⟩:=hk2
 obtain ⟨s2,aO,w2,R2,_,_,_,hk2⟩:=vE (n:=F.n) (k0:=0) hC.ok _ R1 hk
 clear hk
 have e1:=ED.post e1 w2
 clear R1 w2
 revert hk2 R2
 generalize aO=ah
 intro R1 hk
 refine EW.jC e1 fun x t ht=> ?_
 obtain ⟨rfl,rfl⟩:=ht
 have fin:(match iG C.D ah F.res with
   |some (O,l)=>match iB C.D ah l with
    |some l'=>match jc C.D rs l' with
     |some y=>eW O (y=r)
     |none=>False
    |none=>False
   |none=>False)->∃r',((iu t.σ F.res).bind oo).run t.g=some r'/\bN r' ((kT (gE C.D rs r)).av C.D.toTE N):=fun hk=>by
  split at hk
  case h_2=>exact hk.elim
  rename_i O l hr
  split at hk
  case h_2=>exact hk.elim
  rename_i l' hs
  split at hk
  case h_2=>exact hk.elim
  rename_i y hy
  rw [iA] at hk
  obtain ⟨hO,rfl⟩:=hk
  have q1:=sf hC.ok R1.here hr hO
  have q2:=ze hC.ok R1.here hs
  have q3:(iu t.σ F.res).run t.g=some (jE (l.map (SV.av C.D.toTE N'))):=by
   unfold iu
   rw [di q1];rfl
  have q4:(oo (jE (l.map (SV.av C.D.toTE N')))).run t.g=some (jE (l'.map (SV.av C.D.toTE N'))):=by
   have hlen:=Av hs
   match l,l',q2,hlen with
   |[],[],q2,_=>exact di q2
   |[v],[v'],q2,_=>
    have:(dk (v.av C.D.toTE N')).run t.g=some (v'.av C.D.toTE N'):=by
     simp only [iB] at hs
     split at hs
     ·rename_i x l2 h1 h2
      simp only [KZ] at h2;subst h2
      simp only [KZ,MN,and_true] at hs;subst hs
      exact uH hC.ok R1.here h1
     ·simp at hs
    exact IG this
   |v::w::l2,v'::w'::KR,q2,_=>
    show ((dw ((v::w::l2).map (SV.av C.D.toTE N'))).bind fun l=>RM.ret (AV.aJ l)).run t.g=_
    rw [di q2];rfl
  refine ⟨_,(di q3).trans q4, ?_⟩
  refine bN.trans (Hu (zg (N:=N') hC.ok hy)) (bN.of_eq ?_)
  rw [rp,Ax hC.ok rs y hb.2]
 exact ⟨he,fin hk⟩
end
open Go.RowKit
section
variable {τ:Type} {dn:τ->Type} {D:TD τ dn}
theorem vS (ok:aU D) {p:Nat->Bool}:∀(cs:List (Bool×τ)) (x:CD dn cs),SV.db p (jX D cs x)=true
 |[],_=>rfl
 |(false,t)::r,x=>by simp only [jX,SV.db,vp ok,vS ok r x.2,Bool.and_self]
 |(true,t)::r,x=>by simp only [jX,SV.db,SV.fr,ok.nf,vS ok r x.2,Bool.and_self]
theorem si (ok:aU D) {p:Nat->Bool}:∀(ps:List (Pt τ)) (x:PD dn ps),SV.db p (jZ D ps x)=true
 |[],_=>rfl
 | .ty t::r,x=>by simp only [jZ,Pt.enc,SV.db,vp ok,si ok r x.2,Bool.and_self]
 | .ptr t::r,x=>by simp only [jZ,Pt.enc,SV.db,SV.fr,ok.nf,si ok r x.2,Bool.and_self]
 | .mV f cs::r,x=>by simp only [jZ,Pt.enc,SV.db,SV.fr,vS ok,si ok r x.2,Bool.and_self]
inductive IK (τ:Type) (dn:τ->Type) where
 |fn (F:da) (an:Nat->Option (LA τ dn))
 |del (t:τ) (by_:Nat) (zs:List AV)
structure IL (τ:Type) (dn:τ->Type) where
 f:FuncId
 k:IK τ dn
 cl:Option FuncId:=none
def sj (g:FuncId):List (SV τ dn)->Bool
 |[]=>false
 | .fn f _::r=>Nat.beq f g||sj g r
 |_::r=>sj g r
def pw:List (IL τ dn)->FuncId->List (SV τ dn)->Option (IL τ dn)
 |[],_,_=>none
 |i::r,f,vs=>bif Nat.beq i.f f&&(match i.cl with|none=>true|some g=>sj g vs) then some i else pw r f vs
def Cons (P:Program) (D:TD τ dn):List (bZ τ dn)->Prop
 |[]=>True
 |c::r=>c.Ok P D/\Cons P D r
def sk (P:Program) (D:TD τ dn):List (gY τ dn)->Prop
 |[]=>True
 |c::r=>c.Ok P D/\sk P D r
def IK.Ok (P:Program) (D:TD τ dn) (f:FuncId):IK τ dn->Prop
 | .fn F _=>cFunc P f=some F/\bW P f=true
 | .del t by_ zs=>cFunc P f=some (tI (D.sz t) by_ zs)/\bW P f=true/\zs.length=D.sz t
def sm (P:Program) (D:TD τ dn):List (IL τ dn)->Prop
 |[]=>True
 |i::r=>i.k.Ok P D i.f/\sm P D r
theorem vT {P:Program}:∀{Δ:List (bZ τ dn)},Cons P D Δ->∀c,c∈Δ->c.Ok P D
 |[],_,c,hc=>by simp at hc
 |d::r,h,c,hc=>by
  rcases Lc.1 hc with rfl|hc
  ·exact h.1
  ·exact vT h.2 c hc
theorem vU {P:Program}:∀{Ω:List (gY τ dn)},sk P D Ω->∀c,c∈Ω->c.Ok P D
 |[],_,c,hc=>by simp at hc
 |d::r,h,c,hc=>by
  rcases Lc.1 hc with rfl|hc
  ·exact h.1
  ·exact vU h.2 c hc
theorem vV {P:Program}:∀{il:List (IL τ dn)},sm P D il->∀{f vs i},pw il f vs=some i->i.k.Ok P D f
 |[],_,f,vs,i,h=>by simp [pw] at h
 |j::r,h,f,vs,i,hi=>by
  simp only [pw] at hi
  cases hb:(Nat.beq j.f f&&(match j.cl with|none=>true|some g=>sj g vs)) with
  |false=>rw [hb,Ln] at hi;exact vV h.2 hi
  |true=>
   rw [hb,K5,KZ] at hi
   subst hi
   rw [K2] at hb
   rw [<-Lk hb.1];exact h.1
theorem I8 {f:FuncId} {as_:List AV} {g':Nat->Option Bk} {k k':Nat} {r:AV} (h:∀m:List (Option Bk),m.length=k->look m=g->Fi P f as_ (look m) m.length r g' k'):Fi P f as_ g k r g' k':=by
 intro E J base vs hG hm ba b6
 have hg:look ((List.range k).map g)=g:=by
  funext id
  unfold look
  rcases LM id k with h1|h1
  ·simp [h1]
  ·rw [MC (by simpa using h1)]
   cases hq:g id with
   |none=>rfl
   |some B=>exact absurd (ba id ((hm.live id).2 ⟨B,hq⟩).1) (by omega)
 have:=h _ (by simp) hg
 rw [hg,Lq,List.length_range] at this
 exact this E J base vs hG hm ba b6
variable [DecidableEq τ]
def vW (C:bU τ dn) (F:da) (an:Nat->Option (LA τ dn)) (vs:List (SV τ dn)) (st:SS τ dn) (K:SV τ dn->SS τ dn->Prop):Prop:=
 bif Nat.ble vs.length F.n then eA C F.n an F.code 0 ⟨[],st.rm,jl vs 0,st.m,st.nx⟩ fun e ah=>match e with
  | .exit _=>False
  |_=>match iG C.D ah F.res with
   |some (O,l)=>eW O (K (kT l) ah)
   |none=>False
 else False
theorem I9 {C:bU τ dn} (hC:C.Ok) {f:FuncId} (hF:cFunc C.P f=some F) (hc:bW C.P f=true) {an:Nat->Option (LA τ dn)} {vs:List (SV τ dn)} {st:SS τ dn} {K:SV τ dn->SS τ dn->Prop} {s:S3} (R:Rel C.D N st s) (iq:C.fl=st.nx)
  (ha:∀N',N.aZ st.nx N'->vs.map (SV.av C.D.toTE N')=vs.map (SV.av C.D.toTE N)) (h:vW C F an vs st K):rA C.P C.D f vs st K N s:=by
 unfold vW at h
 cases hb:Nat.ble vs.length F.n with
 |false=>rw [hb] at h;exact h.elim
 |true=>
 rw [hb,K5] at h
 have R0:Rel C.D N ⟨[],st.rm,jl vs 0,st.m,st.nx⟩ ⟨cJ (vs.map (SV.av C.D.toTE N)),s.g,s.k⟩:=by
  refine ⟨fun N' hN=>⟨fun i v hv=> ?_,fun i v hv=>by simp [getS] at hv,(R.at_ N' hN).bl,(R.at_ N' hN).rb,(R.at_ N' hN).ar⟩,R.inj,R.lt,R.ml,R.rl,R.sp⟩
  obtain ⟨_,h2⟩:=vL hv
  rw [Nat.sub_zero] at h2
  show cJ _ i=_
  unfold cJ
  rw [<-ha N' hN,Lu,h2];rfl
 obtain ⟨e,s',N',ah,e1,R1,_,r2,r3,hk⟩:=iH hC (n:=F.n) (k0:=s.k) F.code 0 R0 (Nat.le_of_eq iq) h
 have fin:(match iG C.D ah F.res with
   |some (O,l)=>eW O (K (kT l) ah)
   |none=>False)->∃v,(iu s'.σ F.res).run s'.g=some (v.av C.D.toTE N')/\(∀bJ,N'.aZ ah.nx bJ->v.av C.D.toTE bJ=v.av C.D.toTE N')/\K v ah:=fun hk=>by
  split at hk
  case h_2=>exact hk.elim
  rename_i O l hr
  rw [iA] at hk
  obtain ⟨hO,hk⟩:=hk
  have q:∀bJ,N'.aZ ah.nx bJ->(iu s'.σ F.res).run s'.g=some ((kT l).av C.D.toTE bJ):=fun bJ hN=>by
   rw [rp]
   unfold iu
   rw [di (sf hC.ok (R1.at_ bJ hN) hr hO)];rfl
  refine ⟨_,q N' (N'.dJ _),fun bJ hN=> ?_,hk⟩
  have:=(q bJ hN).symm.trans (q N' (N'.dJ _))
  simpa using this
 have go:∀{x:Ex},(x= .normal\/x= .ret)->e=x->(∃v,(iu s'.σ F.res).run s'.g=some (v.av C.D.toTE N')/\(∀bJ,N'.aZ ah.nx bJ->v.av C.D.toTE bJ=v.av C.D.toTE N')/\K v ah)->rA C.P C.D f vs st K N s:=fun {x} hx he hv=>by
  obtain ⟨v,v1,v2,v3⟩:=hv
  refine ⟨hc,s'.g,s'.k,N',v,ah, ?_,v2, ?_, ?_, ?_,v3⟩
  ·refine yj hF (by rw [Lq];exact LV hb) (EW.jC e1 fun y t ht=> ?_)
   obtain ⟨rfl,rfl⟩:=ht
   exact ⟨by rw [he];exact hx,t,S3.Le.kW,v1,rfl,rfl⟩
  ·rw [<-iq];exact r3.1
  ·rw [<-iq];exact r3.2
  ·have vX:ah.rm=st.rm:=r2
   have cE:∀a X,(⟨[],st.rm,[],ah.m,ah.nx⟩:SS τ dn).bm a X->ah.bm a X:=fun a X hX=>hX.imp id fun h=>by rw [vX];exact h
   refine ⟨fun bJ hN=>⟨fun i v hv=>by simp [getS] at hv,fun i v hv=>by simp [getS] at hv,(R1.at_ bJ hN).bl,fun nm B hB=>(R1.at_ bJ hN).rb nm B (by rw [vX];exact hB),fun t A h id hid=>(R1.at_ bJ hN).ar t A (cE 0 _ h) id hid⟩,R1.inj,R1.lt,R1.ml,fun nm B hB=>R1.rl nm B (by rw [vX];exact hB),fun t A h id hid=>⟨(R1.sp t A (cE 0 _ h) id hid).1,fun nm B hB=>(R1.sp t A (cE 0 _ h) id hid).2 nm B (cE nm B hB)⟩⟩
 cases e with
 |normal=>exact go (.inl rfl) rfl (fin hk)
 |ret=>exact go (.inr rfl) rfl (fin hk)
 |exit i=>exact hk.elim
def vY (D:TD τ dn) (t:τ) (vs:List (SV τ dn)) (st:SS τ dn) (K:SV τ dn->SS τ dn->Prop):Prop:=
 match vs with
 |[.own nm sz,a,b]=>match st.gm nm,a.int,b.int with
  |some (.bl t' xs),some (x,_),some (y,_)=>if h:t'=t then (bif st.rw nm&&Nat.beq sz (D.sz t) then 0<=x/\x<xs.length/\y=x+1/\xs.length<=1000000/\K (.own st.nx sz) ⟨st.rt,st.rm,st.t,(st.nx,some (.bl t ((h▸xs:List (dn t)).eraseIdx x.toNat)))::(nm,none)::st.m,st.nx+1⟩ else False) else False
  |_,_,_=>False
 |_=>False
theorem Ja {f:FuncId} {t:τ} {by_:Nat} {zs:List AV} (hk:IK.Ok P D f (.del t by_ zs:IK τ dn)) {vs:List (SV τ dn)} {st:SS τ dn} {K:SV τ dn->SS τ dn->Prop} {s:S3} (R:Rel D N st s) (h:vY D t vs st K):rA P D f vs st K N s:=by
 obtain ⟨hF,hc,hz⟩:=hk
 unfold vY at h
 split at h
 case h_2=>exact h.elim
 rename_i nm sz a b
 split at h
 case h_2=>exact h.elim
 rename_i t' xs x bx y KS h1 h2 h3
 split at h
 case isFalse=>exact h.elim
 rename_i ht
 subst ht
 cases hb:st.rw nm&&Nat.beq sz (D.sz t') with
 |false=>rw [hb] at h;exact h.elim
 |true=>
 rw [hb,K5] at h
 rw [K2] at hb
 obtain ⟨vZ,hs⟩:=hb
 have hs:=Lk hs
 subst hs
 obtain ⟨q1,q2,q3,q4,hK⟩:=h
 unfold SS.rw at vZ
 rw [K2] at vZ
 obtain ⟨w1,w2⟩:=vZ
 have hm:getS st.m nm=some (some (.bl t' xs)):=by
  unfold SS.gm at h1
  cases hg:getS st.m nm with
  |none=>rw [hg] at w1;simp at w1
  |some B=>rw [hg] at h1;simp only at h1;rw [h1]
 have hb0:=R.here.bl nm _ hm
 have R1:Rel D N st ⟨s.σ,s.g,s.k+1⟩:=⟨R.at_,R.inj,fun a ha=>MH (R.lt a ha),R.ml,R.rl,fun t A h id hid=>⟨MH (R.sp t A h id hid).1,(R.sp t A h id hid).2⟩⟩
 have fk:=R1.go (n:=0) (d:=none) (r:= .mov [] (.vo undef) nm (.bl t' (xs.eraseIdx x.toNat))) rfl ⟨⟨_,hm⟩,by simpa using w2,rfl⟩ (val:= .v undef) (ups:=[(N.ι nm,none),(s.k+1,some ⟨D.sz t',(xs.eraseIdx x.toNat).map (D.ea N.ρ t')⟩)]) (fun _ _=>rfl) (fun N' hN=>by
  have e:=hN.1 nm (MH (R.ml nm _ hm))
  have e2:=hN.2
  simp only [SR.up,aw.cS] at e e2
  have aC:¬nm=st.nx:=fun e=>by have:=R.ml nm _ hm;omega
  rw [K0 aC,K0 aC] at e
  simp only [SR.ups,SB.av,e.1,e2])
 have hid:N.ι nm<s.k:=R.lt nm (R.ml nm _ hm)
 refine ⟨hc,au s.g [(N.ι nm,none),(s.k+1,some ⟨D.sz t',(xs.eraseIdx x.toNat).map (D.ea N.ρ t')⟩)],s.k+2,N.cS st.nx (s.k+1) (xs.eraseIdx x.toNat).length, .own st.nx (D.sz t'),_, ?_,fun bJ hN=> ?_,N.jS _ _ _,Nat.le_succ _, ?_,hK⟩
 ·refine I8 fun m mM AL=> ?_
  have hB:look m (N.ι nm)=some ⟨D.sz t',xs.map (D.ea N.ρ t')⟩:=by rw [AL];exact hb0.1
  have:=Eu (P:=P) (f:=f) (m:=m) hF hz hB q1 q2 q4
  rw [q3] at h3
  have bh:N.ln nm=xs.length:=hb0.2
  have e1:[SV.own nm (D.sz t'),a,b].map (SV.av D.toTE N)=[.own (N.ι nm) (D.sz t') 0 xs.length,VI x,VI (x+1)]:=by
   simp only [Lf,LP,SV.av,bh,ec h2,ec h3]
  have e2:(SV.own st.nx (D.sz t'):SV τ dn).av D.toTE (N.cS st.nx (s.k+1) (xs.eraseIdx x.toNat).length)= .own (m.length+1) (D.sz t') 0 (xs.eraseIdx x.toNat).length:=by
   simp only [SV.av,aw.cS,K3,mM]
  rw [e1,e2]
  have e3:look (jG m (N.ι nm) ⟨D.sz t',(xs.eraseIdx x.toNat).map (D.ea N.ρ t')⟩)=au s.g [(N.ι nm,none),(s.k+1,some ⟨D.sz t',(xs.eraseIdx x.toNat).map (D.ea N.ρ t')⟩)]:=by
   rw [<-AL, <-mM]
   rw [<-mM] at hid
   funext id
   unfold look jG
   simp only [au]
   rcases LM id m.length with hl|hl
   ·rw [L5 (by simpa using hl)]
    rw [K0 (by omega)]
    by_cases hi:id=N.ι nm
    ·subst hi;simp [hid]
    ·rw [K0 hi,MZ (fun e=>hi e.symm)]
   ·rw [Mg (by simpa using hl),List.length_set]
    rcases Nat.lt_trichotomy id (m.length+1) with h5|h5|h5
    ·have:id=m.length:=by omega
     subst this
     rw [K0 (by omega),K0 (by omega)];simp
    ·subst h5
     rw [K1 rfl];simp
    ·rw [K0 (by omega),K0 (by omega),MC (by simp;omega),MC (by omega)]
  have e4:(jG m (N.ι nm) ⟨D.sz t',(xs.eraseIdx x.toNat).map (D.ea N.ρ t')⟩).length=s.k+2:=by simp [jG,mM]
  rw [e3,e4] at this
  exact this
 ·have:=hN.1 st.nx (Mb _)
  simp only [SV.av,this.1,this.2]
 ·exact ⟨fun bJ hN=>⟨fun i v hv=>by simp [getS] at hv,fun i v hv=>by simp [getS] at hv,(fk.at_ bJ hN).bl,(fk.at_ bJ hN).rb,(fk.at_ bJ hN).ar⟩,fk.inj,fk.lt,fk.ml,fk.rl,fk.sp⟩
def sn (P:Program) (D:TD τ dn) (Δ:List (bZ τ dn)) (Ω:List (gY τ dn)) (il:List (IL τ dn)):Nat->JW τ dn
 |0,_,_,_,_=>False
 |d+1,f,vs,st,K=>match pw il f vs with
  |some ⟨_, .fn F an,_⟩=>vW ⟨P,D,Δ,Ω,st.nx,sn P D Δ Ω il d,false⟩ F an vs st K
  |some ⟨_, .del t _ _,_⟩=>vY D t vs st K
  |none=>False
theorem AM {P:Program} (ok:aU D) {Δ:List (bZ τ dn)} (px:Cons P D Δ) {Ω:List (gY τ dn)} (py:sk P D Ω) {il:List (IL τ dn)} (cm:sm P D il):∀(d fl:Nat),(⟨P,D,Δ,Ω,fl,sn P D Δ Ω il d,false⟩:bU τ dn).Ok
 |0,fl=>⟨ok,vT px,vU py,fun _ _ h=>h.elim⟩
 |d+1,fl=>⟨ok,vT px,vU py,fun {f vs st K N s} R ha h=>by
  simp only [sn] at h
  split at h
  ·rename_i F an hi
   obtain ⟨h1,h2⟩:=vV cm hi
   exact I9 (AM ok px py cm d st.nx) h1 h2 R rfl ha h
  ·rename_i hi
   exact Ja (vV cm hi) R h
  ·exact h.elim⟩
theorem eI (ok:aU D) {Δ:List (bZ τ dn)} (px:Cons P D Δ) {Ω:List (gY τ dn)} (py:sk P D Ω) (c:bZ τ dn) (hF:cFunc P c.f=some F) (hc:bW P c.f=true) (il:PD dn c.ps->List (IL τ dn)) (cm:∀x,sm P D (il x)) (d:Nat) (an:PD dn c.ps->Nat->Option (LA τ dn)) (h:∀x,c.pre x->vR ⟨P,D,Δ,Ω,0,sn P D Δ Ω (il x) d,false⟩ F (an x) (jZ D c.ps x) c.rs (c.res x)):c.Ok P D:=
 ⟨hc,fun x N hp=>I7 (AM ok px py (cm x) d 0) hF N (si ok c.ps x) (h x hp)⟩
end
open Go.RowKit
structure LR (α:Type) where
 sz:Nat
 ea:(Nat->AV)->α->List AV
def LR.i64:LR Int:=⟨1,fun _ x=>[.v (.int .i64 x)]⟩
def LR.u8:LR UInt8:=⟨1,fun _ x=>[.v (.int .u8 x.toNat)]⟩
def LR.u64:LR dP:=⟨1,fun _ x=>[.v (.int .u64 (x.n:Int))]⟩
def LR.sq:LR Bool:=⟨1,fun _ x=>[.v (.bool x)]⟩
def LR.str:LR ByteArray:=⟨1,fun _ x=>[.v (.string x)]⟩
def LR.prod (A:LR α) (B:LR β):LR (α×β):=⟨A.sz+B.sz,fun ρ x=>A.ea ρ x.1++B.ea ρ x.2⟩
def LR.via (f:α->β) (B:LR β):LR α:=⟨B.sz,fun ρ x=>B.ea ρ (f x)⟩
def LR.list (A:LR α):LR (List α):=⟨1,fun ρ xs=>[.aP A.sz (xs.map (A.ea ρ))]⟩
section
variable {τ:Type} {dn:τ->Type}
theorem dy.app {a b c d:List AV} (h:dy a b) (k:dy c d):dy (a++c) (b++d):=by
 induction h with
 |nil=>exact k
 |cons h t ih=>exact .cons h ih
theorem AN {p:Nat->Bool}:∀{a b:List (SV τ dn)},SV.db p (a++b)=(SV.db p a&&SV.db p b)
 |[],b=>by simp [SV.db]
 |v::a,b=>by simp only [Mj,SV.db,AN,Bool.and_assoc]
structure LY (E:TE τ dn) {α:Type} (R:LR α) where
 es:α->List (SV τ dn)
 ds:List (SV τ dn)->Option α
 df:α
 cO:∀(N:aw) (x:α),(es x).map (SV.av E N)=R.ea N.ρ x
 fb:∀(N:aw) (cs:List (SV τ dn)) (x:α),ds cs=some x->dy (cs.map (SV.av E N)) (R.ea N.ρ x)
 em:Bool
 pu:Bool
 dY:∀(N:aw) (cs:List (SV τ dn)) (x:α),ds cs=some x->(em=true\/cs.all SV.ne=true)->cs.map (SV.av E N)=R.ea N.ρ x
 len:∀x,(es x).length=R.sz
 one:∀x,(es x).all SV.one=true
 nf:∀(p:Nat->Bool) x,SV.db p (es x)=true
 fc:∀(ρ gD:Nat->AV) (x:α),R.ea ρ x=R.ea gD x
 pu1:∀(N:aw) (x:α),pu=true->(R.ea N.ρ x).all AV.pu1=true
 bt:Option ((α->UInt8)×(UInt8->α)):=none
 AP:∀(N:aw) (p:(α->UInt8)×(UInt8->α)),bt=some p->(∀x,R.ea N.ρ x=[.v (.int .u8 (p.1 x).toNat)])/\∀b,p.1 (p.2 b)=b:=by intro N p h;simp at h
variable {E:TE τ dn}
def v5:List (SV τ dn)->Option Int
 |[.vi x]=>some x
 |[.vn x]=>some x
 |_=>none
def v7:List (SV τ dn)->Option UInt8
 |[.vy x]=>some x
 |_=>none
def v8:List (SV τ dn)->Option dP
 |[.vu x]=>some x
 |_=>none
def v9:List (SV τ dn)->Option Bool
 |[.vt x]=>some x
 |[.vb c]=>some c.den
 |_=>none
def wa:List (SV τ dn)->Option ByteArray
 |[.vz x]=>some x
 |_=>none
theorem AQ {cs:List (SV τ dn)} {x:Int} (h:v5 cs=some x):cs.map (SV.av E N)=[.v (.int .i64 x)]:=by
 unfold v5 at h;split at h<;>simp only [KZ,reduceCtorEq] at h<;>subst h<;>rfl
theorem AR {cs:List (SV τ dn)} {x:UInt8} (h:v7 cs=some x):cs.map (SV.av E N)=[.v (.int .u8 x.toNat)]:=by
 unfold v7 at h;split at h<;>simp only [KZ,reduceCtorEq] at h;subst h;rfl
theorem AS {cs:List (SV τ dn)} {x:dP} (h:v8 cs=some x):cs.map (SV.av E N)=[.v (.int .u64 (x.n:Int))]:=by
 unfold v8 at h;split at h<;>simp only [KZ,reduceCtorEq] at h;subst h;rfl
theorem AT {cs:List (SV τ dn)} {x:Bool} (h:v9 cs=some x):cs.map (SV.av E N)=[.v (.bool x)]:=by
 unfold v9 at h;split at h<;>simp only [KZ,reduceCtorEq] at h<;>subst h<;>rfl
theorem AU {cs:List (SV τ dn)} {x:ByteArray} (h:wa cs=some x):cs.map (SV.av E N)=[.v (.string x)]:=by
 unfold wa at h;split at h<;>simp only [KZ,reduceCtorEq] at h;subst h;rfl
theorem dy.of_eq {a b:List AV} (h:a=b):dy a b:=by
 subst h
 induction a with
 |nil=>exact .nil
 |cons x r ih=>exact .cons bN.refl ih
def LY.i64:LY E LR.i64 where
 es x:=[.vi x]
 ds:=v5
 df:=0
 cO _ _:=rfl
 fb _ _ _ h:= .of_eq (AQ h)
 em:=true
 pu:=true
 dY _ _ _ h _:=AQ h
 len _:=rfl
 one _:=rfl
 nf _ _:=rfl
 fc _ _ _:=rfl
 pu1 _ _ _:=rfl
def LY.u8:LY E LR.u8 where
 es x:=[.vy x]
 ds:=v7
 df:=0
 cO _ _:=rfl
 fb _ _ _ h:= .of_eq (AR h)
 em:=true
 pu:=true
 dY _ _ _ h _:=AR h
 len _:=rfl
 one _:=rfl
 nf _ _:=rfl
 fc _ _ _:=rfl
 pu1 _ _ _:=rfl
 bt:=some (id,id)
 AP N p h:=by simp only [KZ] at h;subst h;exact ⟨fun _=>rfl,fun _=>rfl⟩
def LY.u64:LY E LR.u64 where
 es x:=[.vu x]
 ds:=v8
 df:=⟨0,by decide⟩
 cO _ _:=rfl
 fb _ _ _ h:= .of_eq (AS h)
 em:=true
 pu:=true
 dY _ _ _ h _:=AS h
 len _:=rfl
 one _:=rfl
 nf _ _:=rfl
 fc _ _ _:=rfl
 pu1 _ _ _:=rfl
def LY.sq:LY E LR.sq where
 es x:=[.vb (.b x)]
 ds:=v9
 df:=false
 cO _ _:=rfl
 fb _ _ _ h:= .of_eq (AT h)
 em:=true
 pu:=true
 dY _ _ _ h _:=AT h
 len _:=rfl
 one _:=rfl
 nf _ _:=rfl
 fc _ _ _:=rfl
 pu1 _ _ _:=rfl
def LY.str:LY E LR.str where
 es x:=[.vz x]
 ds:=wa
 df:=ByteArray.empty
 cO _ _:=rfl
 fb _ _ _ h:= .of_eq (AU h)
 em:=true
 pu:=true
 dY _ _ _ h _:=AU h
 len _:=rfl
 one _:=rfl
 nf _ _:=rfl
 fc _ _ _:=rfl
 pu1 _ _ _:=rfl
def wb (n:Nat) (a:List (SV τ dn)->Option α) (b:List (SV τ dn)->Option β) (cs:List (SV τ dn)):Option (α×β):=
 match a (cs.take n),b (cs.drop n) with
 |some x,some y=>some (x,y)
 |_,_=>none
theorem AW {β:Type} {a:List (SV τ dn)->Option α} {b:List (SV τ dn)->Option β} {cs:List (SV τ dn)} {z:α×β} (h:wb n a b cs=some z):a (cs.take n)=some z.1/\b (cs.drop n)=some z.2:=by
 unfold wb at h
 split at h
 ·rename_i x y h1 h2
  simp only [KZ] at h;subst h;exact ⟨h1,h2⟩
 ·simp at h
def LY.prod {α β:Type} {A:LR α} {B:LR β} (a:LY E A) (b:LY E B):LY E (A.prod B) where
 es x:=a.es x.1++b.es x.2
 ds:=wb A.sz a.ds b.ds
 df:=(a.df,b.df)
 cO N x:=by rw [LW,a.cO,b.cO];rfl
 fb N cs x h:=by
  obtain ⟨h1,h2⟩:=AW h
  have:=dy.app (a.fb N _ _ h1) (b.fb N _ _ h2)
  rw [<-LW,List.take_append_drop] at this
  exact this
 em:=a.em&&b.em
 pu:=a.pu&&b.pu
 dY N cs x h hn:=by
  obtain ⟨h1,h2⟩:=AW h
  have wT:a.em=true\/(cs.take A.sz).all SV.ne=true:=hn.elim (fun h=> .inl (by rw [K2] at h;exact h.1)) fun hn=> .inr (K6.2 fun v hv=>K6.1 hn v (List.mem_of_mem_take hv))
  have nG:b.em=true\/(cs.drop A.sz).all SV.ne=true:=hn.elim (fun h=> .inl (by rw [K2] at h;exact h.2)) fun hn=> .inr (K6.2 fun v hv=>K6.1 hn v (List.mem_of_mem_drop hv))
  show _=A.ea N.ρ x.1++B.ea N.ρ x.2
  rw [<-a.dY N _ _ h1 wT, <-b.dY N _ _ h2 nG, <-LW,List.take_append_drop]
 len x:=by rw [Ms,a.len,b.len];rfl
 one x:=by rw [List.all_append,a.one,b.one];rfl
 nf p x:=by rw [AN,a.nf,b.nf];rfl
 fc ρ gD x:=by show A.ea ρ x.1++B.ea ρ x.2=_;rw [a.fc ρ gD,b.fc ρ gD];rfl
 pu1 N x h:=by
  rw [K2] at h
  show (A.ea N.ρ x.1++B.ea N.ρ x.2).all _=true;rw [List.all_append,a.pu1 _ _ h.1,b.pu1 _ _ h.2];rfl
def LY.via {α β:Type} {f:α->β} {B:LR β} (g:β->α) (AX:∀y,f (g y)=y) (b:LY E B):LY E (LR.via f B) where
 es x:=b.es (f x)
 ds cs:=match b.ds cs with
  |some y=>some (g y)
  |none=>none
 df:=g b.df
 cO N x:=b.cO N (f x)
 fb N cs x h:=by
  split at h
  ·rename_i y hy
   simp only [KZ] at h;subst h
   show dy _ (B.ea N.ρ (f (g y)))
   rw [AX];exact b.fb N _ _ hy
  ·simp at h
 em:=b.em
 pu:=b.pu
 dY N cs x h hn:=by
  split at h
  ·rename_i y hy
   simp only [KZ] at h;subst h
   show _=(B.ea N.ρ (f (g y)))
   rw [AX];exact b.dY N _ _ hy hn
  ·simp at h
 len x:=b.len (f x)
 one x:=b.one (f x)
 nf p x:=b.nf p (f x)
 fc ρ gD x:=b.fc ρ gD (f x)
 pu1 N x h:=b.pu1 N (f x) h
def pz {α:Type} (em:Bool) (ds:List (SV τ dn)->Option α):List (List (SV τ dn))->Option (List α)
 |[]=>some []
 |cs::r=>if (em||cs.all SV.ne)=true then (match ds cs,pz em ds r with
  |some x,some l=>some (x::l)
  |_,_=>none) else none
theorem AY {t:τ} {R:LR (dn t)} (A:LY E R) (N:aw):∀{els:List (List (SV τ dn))} {xs:List (dn t)},pz A.em A.ds els=some xs->SV.bE E N els=xs.map (R.ea N.ρ)
 |[],xs,h=>by simp only [pz,KZ] at h;subst h;rfl
 |cs::r,xs,h=>by
  simp only [pz] at h
  split at h
  ·rename_i hn
   split at h
   ·rename_i x l h1 h2
    simp only [KZ] at h;subst h
    simp only [SV.bE,Lf,SV.bk,A.dY N _ _ h1 (by rw [Ls] at hn;exact hn),AY A N h2]
   ·simp at h
  ·simp at h
section
variable [DecidableEq τ]
def wc (t:τ) (sz:Nat) (em:Bool) (ds:List (SV τ dn)->Option (dn t)):List (SV τ dn)->Option (List (dn t))
 |[.vl t' xs]=>if h:t'=t then some (h▸xs) else none
 |[.vc k els]=>if k=sz then pz em ds els else none
 |[.emp]=>some []
 |_=>none
theorem AZ {t:τ} {R:LR (dn t)} (A:LY E R) (hs:E.sz t=R.sz) (he:∀ρ,E.ea ρ t=R.ea ρ) (N:aw) {cs:List (SV τ dn)} {xs:List (dn t)} (h:wc t R.sz A.em A.ds cs=some xs):dy (cs.map (SV.av E N)) ((LR.list R).ea N.ρ xs)/\(cs.all SV.ne=true->cs.map (SV.av E N)=(LR.list R).ea N.ρ xs):=by
 unfold wc at h
 split at h
 ·rename_i t' ys
  split at h
  ·rename_i ht
   subst ht
   simp only [KZ] at h;subst h
   have:[SV.vl t' ys].map (SV.av E N)=(LR.list R).ea N.ρ ys:=by
    simp only [Lf,LP,SV.av,hs,he];rfl
   exact ⟨.of_eq this,fun _=>this⟩
  ·simp at h
 ·rename_i k els
  split at h
  ·rename_i hk
   subst hk
   have:[SV.vc R.sz els].map (SV.av E N)=(LR.list R).ea N.ρ xs:=by
    simp only [Lf,LP,SV.av,AY A N h];rfl
   exact ⟨.of_eq this,fun _=>this⟩
  ·simp at h
 ·simp only [KZ] at h;subst h
  exact ⟨.cons bN.emp .nil,fun hn=>by simp [SV.ne] at hn⟩
 ·simp at h
def LY.list {t:τ} {R:LR (dn t)} (A:LY E R) (hs:E.sz t=R.sz) (he:∀ρ,E.ea ρ t=R.ea ρ):LY E (LR.list R) where
 es x:=[.vl t x]
 ds:=wc t R.sz A.em A.ds
 df:=[]
 cO N x:=by simp only [Lf,LP,SV.av,hs,he];rfl
 fb N cs x h:=(AZ A hs he N h).1
 em:=false
 pu:=true
 dY N cs x h hn:=(AZ A hs he N h).2 (hn.resolve_left (by simp))
 len _:=rfl
 one _:=rfl
 nf _ _:=rfl
 fc ρ gD x:=by show [AV.aP R.sz (x.map (R.ea ρ))]=[AV.aP R.sz (x.map (R.ea gD))];rw [funext fun y=>A.fc ρ gD y]
 pu1 _ _ _:=rfl
end
def Jb (E:TE τ dn) (ta:τ) (A:List (Nat×List (dn ta))) {α β:Type} (R:LR α) (R':LR β) (f:α->β) (O:α->Prop):Prop:=
 R'.sz=R.sz/\∀(N:aw) (φ:AV->AV),(∀a,a.pu1=true->φ a=a)->(∀id n,dp A id->(eU A id).length=n->φ (.own id (E.sz ta) 0 n)= .aP (E.sz ta) ((eU A id).map (E.ea N.ρ ta)))->∀x,O x->(R.ea N.ρ x).map φ=R'.ea N.ρ (f x)
abbrev FZ (τ:Type) (dn:τ->Type):Type:=(t ta:τ)->(A:List (Nat×List (dn ta)))->Option ((t':τ)×(dn t->dn t')×(dn t->Prop))
def TE.ld (lr:(t:τ)->LR (dn t)):TE τ dn:=⟨fun t=>(lr t).sz,fun ρ t=>(lr t).ea ρ⟩
def TD.ld {lr:(t:τ)->LR (dn t)} (ly:(t:τ)->LY (TE.ld lr) (lr t)) (ag:τ->Bool) (hint:Nat->Nat->Option τ) (neg:Bool) (ar:Option τ:=none) (hr:τ->Bool:=fun _=>false) (fz:FZ τ dn:=fun _ _ _=>none) (th:(t t':τ)->Option (dn t->dn t'):=fun _ _=>none):TD τ dn where
 toTE:=TE.ld lr
 df t:=(ly t).df
 es t:=(ly t).es
 ds t:=(ly t).ds
 ag:=ag
 pu t:=(ly t).pu
 hint:=hint
 neg:=neg
 em t:=(ly t).em
 ar:=ar
 hr:=hr
 fz:=fz
 bt t:=(ly t).bt
 th:=th
theorem TD.Jc {lr:(t:τ)->LR (dn t)} {ly:(t:τ)->LY (TE.ld lr) (lr t)} {ag:τ->Bool} {hint:Nat->Nat->Option τ} {neg:Bool} {ar:Option τ} {hr:τ->Bool} {fz:FZ τ dn} {th:(t t':τ)->Option (dn t->dn t')} (mf:∀(t ta:τ) (A:List (Nat×List (dn ta))) (t':τ) (f:dn t->dn t') (O:dn t->Prop),fz t ta A=some ⟨t',f,O⟩->Jb (TE.ld lr) ta A (lr t) (lr t') f O:=by intro t ta A t' f O h;simp at h) (Jd:∀(ρ:Nat->AV) (t t':τ) (f:dn t->dn t'),th t t'=some f->(lr t').sz=(lr t).sz/\∀x,(lr t').ea ρ (f x)=(lr t).ea ρ x:=by intro ρ t t' f h;simp at h):aU (TD.ld ly ag hint neg ar hr fz th) where
 cO N t x:=(ly t).cO N x
 fb N t cs x h:=(ly t).fb N cs x h
 dY N t cs x h hn:=(ly t).dY N cs x h (by unfold TD.lS at hn;rw [Ls] at hn;exact hn)
 len t x:=(ly t).len x
 one t x:=(ly t).one x
 nf p t x:=(ly t).nf p x
 fc ρ gD t x _:=(ly t).fc ρ gD x
 pu1 N t x h:=(ly t).pu1 N x h
 bt N t p h:=(ly t).AP N p h
 th:=Jd
 fz N φ t ta A t' f O h h1 h2:=⟨(mf t ta A t' f O h).1,fun x hx=>(mf t ta A t' f O h).2 N φ h1 h2 x hx⟩
end
open Go.RowKit
structure LG {α:Type} [aN α] (R:LR α) where
 nB:α->Prop
 sz:R.sz=aN.size α
 av:∀{w:World} {cs:List Value} {x:α},aN.rep w w.heap.size cs x->R2 (af (E0 w fun b=>b<w.heap.size)) cs (R.ea (fun _=> .dead) x)
 one:∀{w:World} {cs:List Value} {x:α},aN.rep w w.heap.size cs x->∀v,v∈cs->v.oneCell'=true
 pu:∀(x:α) c,c∈R.ea (fun _=> .dead) x->Pu c
 bg:∀{w:World} {cs:List Value} {x:α},aN.rep w w.heap.size cs x->nB x
def LG.str:LG LR.str where
 nB x:=x.size<=9223372036854775807
 sz:=rfl
 av h:=by obtain ⟨rfl,_⟩:=h;exact .cons (.v rfl) .nil
 one h v hv:=by obtain ⟨rfl,_⟩:=h;simp at hv;subst hv;rfl
 pu x c hc:=by simp [LR.str] at hc;subst hc;exact .v
 bg h:=h.2
def N0:aw:=⟨fun _=>0,fun _=>0,fun _=> .dead⟩
section
variable {τ:Type} {dn:τ->Type} {D:TD τ dn}
theorem Je (ok:aU D) {t:τ} {x:dn t} (ha:D.ag t=false) (h:R2 (af E) [v] (D.ea (fun _=> .dead) t x)):af E v ((D.en t x).av D.toTE N0):=by
 have one:∀l:List AV,[v].length=l.length->∃b,l=[b]:=fun l hl=>by
  match l with
  |[b]=>exact ⟨b,rfl⟩
  |[]=>simp at hl
  |_::_::_=>simp at hl
 obtain ⟨b,hb⟩:=one _ h.len
 rw [uI (N:=N0) ok ha hb]
 have h2:R2 (af E) [v] [b]:=by rw [<-hb];exact h
 cases h2 with|cons h _=>exact h
end
open Go.RowKit
inductive Tc where
 |cT
 |mi
 |pA
 |g9
 |fp
 |ke
 |kf
 |gp
 |pB
 |kg
 |pC
def Tc.no:Tc->Nat
 | .cT=>0
 | .mi=>1
 | .pA=>2
 | .g9=>3
 | .fp=>4
 | .ke=>5
 | .kf=>6
 | .gp=>7
 | .pB=>8
 | .kg=>9
 | .pC=>10
def Tc.of:Nat->Tc
 |0=> .cT
 |1=> .mi
 |2=> .pA
 |3=> .g9
 |4=> .fp
 |5=> .ke
 |6=> .kf
 |7=> .gp
 |8=> .pB
 |9=> .kg
 |_=> .pC
theorem Tc.A3 (a:Tc):Tc.of a.no=a:=by cases a<;>rfl
instance:DecidableEq Tc:=fun a b=>match Nat.decEq a.no b.no with
 |isTrue h=>isTrue (by rw [<-Tc.A3 a,h,Tc.A3])
 |isFalse h=>isFalse fun e=>h (by rw [e])
abbrev Tc.dn:Tc->Type
 | .cT=>Int
 | .mi=>UInt8
 | .pA=>dP
 | .g9=>Bool
 | .fp=>ByteArray
 | .ke=>bI
 | .kf=>cq
 | .gp=>aF
 | .pB=>(List Int)
 | .kg=>(List aF)
 | .pC=>(List UInt8)
def we:LR bI:= .via (fun x=>(x.time,x.who)) (.prod LR.i64 LR.i64)
def wh:LR cq:= .via (fun x=>(x.at_,x.data)) (.prod we LR.str)
def wi:LR aF:= .via (fun x=>(x.kind,x.op,x.node,x.copy)) (.prod LR.i64 (.prod LR.i64 (.prod LR.i64 wh)))
def Tc.lr:(t:Tc)->LR t.dn
 | .cT=>LR.i64
 | .mi=>LR.u8
 | .pA=>LR.u64
 | .g9=>LR.sq
 | .fp=>LR.str
 | .ke=>we
 | .kf=>wh
 | .gp=>wi
 | .pB=>(LR.list LR.i64)
 | .kg=>(LR.list wi)
 | .pC=>(LR.list LR.u8)
abbrev tE:TE Tc Tc.dn:=TE.ld Tc.lr
def A4:LY tE we:= .via (fun y=>⟨y.1,y.2⟩) (fun _=>rfl) (.prod LY.i64 LY.i64)
def A5:LY tE wh:= .via (fun y=>⟨y.1,y.2⟩) (fun _=>rfl) (.prod A4 LY.str)
def A6:LY tE wi:= .via (fun y=>⟨y.1,y.2.1,y.2.2.1,y.2.2.2⟩) (fun _=>rfl) (.prod LY.i64 (.prod LY.i64 (.prod LY.i64 A5)))
def Tc.ly:(t:Tc)->LY tE t.lr
 | .cT=>LY.i64
 | .mi=>LY.u8
 | .pA=>LY.u64
 | .g9=>LY.sq
 | .fp=>LY.str
 | .ke=>A4
 | .kf=>A5
 | .gp=>A6
 | .pB=>(LY.list (t:=Tc.cT) LY.i64 rfl fun _=>rfl)
 | .kg=>(LY.list (t:=Tc.gp) A6 rfl fun _=>rfl)
 | .pC=>(LY.list (t:=Tc.mi) LY.u8 rfl fun _=>rfl)
def Tc.ag:Tc->Bool
 | .ke| .kf| .gp=>true
 |_=>false
def Jf (sz bytes:Nat):Option Tc:=bif Nat.beq sz 1&&Nat.beq bytes 8 then some .cT else bif Nat.beq sz 1&&Nat.beq bytes 1 then some .mi else none
def tD:TD Tc Tc.dn:=TD.ld Tc.ly Tc.ag Jf false
theorem eB:aU tD:=TD.Jc
open Go.RowKit
instance:DecidableEq ByteArray:=fun a b=>decidable_of_iff (gr a b=true) mR
def bI.ki (s:bI):Prop:=0<=s.time/\s.time<=1000000/\0<=s.who/\s.who<=31
instance (s:bI):Decidable s.ki:=by unfold bI.ki;infer_instance
def bI.aj (s:bI):Int:=if s.ki then 0 else 3
def cq.aj (c:cq):Int:=if c.at_.ki then (if c.data.size>64 then 2 else 0) else 3
abbrev cq.isNil (c:cq):Prop:=c.at_.time=0/\c.at_.who=0/\c.data=⟨#[]⟩
abbrev aS (k:Int):Prop:=k=2\/k=3
abbrev jm (k:Int):Prop:=1<=k/\k<=4
def aF.aj (m:aF):Int:=
 if jm m.kind then
  if 0<=m.op/\m.op<=30/\0<=m.node/\m.node<=11 then
   if m.copy.aj=0 then (if ¬aS m.kind/\¬m.copy.isNil then 1 else 0) else m.copy.aj
  else 3
 else 7
def wj:bZ Tc Tc.dn:=⟨33,[.ty .cT],fun x=>(fun (s:Int)=>True) x.1,[.g9],fun x=>(fun (s:Int)=>decide (0<=s/\s<=31)) x.1⟩
theorem Jg (s:Int):((0:Int)<=s->(0:Int)<=s)/\((0:Int)<=s->(0:Int)<=s)/\(decide ((0:Int)<=s)&&decide (s<=(31:Int)))=decide ((0:Int)<=s/\s<=(31:Int)):=by
 (try simp only [LU,LZ,Ly,Lo])
 (repeat' (first|apply And.intro|intro _))<;>first|assumption|trivial|omega|(grind [bI.aj])|trace_state
theorem Jh:wj.Ok Try.prog tD:=eI eB (Δ:=[]) trivial (Ω:=[]) trivial wj F2 F3 (fun _=>[]) (fun _=>trivial) 0 (fun x=>(fun (s:Int)=>(fun _=>none)) x.1) fun x hp=>Eq.mp (by kernel_rfl) (Jg x.1)
def wk:bZ Tc Tc.dn:=⟨28,[.ty .ke],fun x=>(fun (s:bI)=>True) x.1,[.cT],fun x=>(fun (s:bI)=>s.aj) x.1⟩
theorem Ji (s:bI):((0:Int)<=s.time->(0:Int)<=s.time)/\((0:Int)<=s.time->(0:Int)<=s.time)/\((0:Int)<=s.time->(0:Int)<=s.time)/\((0:Int)<=s.time/\s.time<=(1000000:Int)->(0:Int)<=s.time/\s.time<=(1000000:Int))/\((0:Int)<=s.time/\s.time<=(1000000:Int)->(0:Int)<=s.time/\s.time<=(1000000:Int))/\((0:Int)<=s.time/\s.time<=(1000000:Int)->True)/\((0:Int)<=s.time/\s.time<=(1000000:Int)->(0:Int)<=s.time/\s.time<=(1000000:Int))/\((0:Int)<=s.time/\s.time<=(1000000:Int)->(0:Int)<=s.time/\s.time<=(1000000:Int))/\((s.time<(0:Int)\/(1000000:Int)<s.time)\/decide ((0:Int)<=s.who/\s.who<=(31:Int))= !true->(3:Int)=s.aj)/\(((0:Int)<=s.time/\s.time<=(1000000:Int))/\decide ((0:Int)<=s.who/\s.who<=(31:Int))= !false->(0:Int)=s.aj):=by
 (try simp only [LU,LZ,Ly,Lo])
 (repeat' (first|apply And.intro|intro _))<;>first|assumption|trivial|omega|(grind [bI.aj,bI.ki])|trace_state
theorem Jj:wk.Ok Try.prog tD:=eI eB (Δ:=[wj]) ⟨Jh,trivial⟩ (Ω:=[]) trivial wk FV FW (fun _=>[]) (fun _=>trivial) 0 (fun x=>(fun (s:bI)=>(fun _=>none)) x.1) fun x hp=>Eq.mp (by kernel_rfl) (Ji x.1)
def wm:bZ Tc Tc.dn:=⟨22,[.ty .kf],fun x=>(fun (c:cq)=>True) x.1,[.cT],fun x=>(fun (c:cq)=>c.aj) x.1⟩
theorem Jk (c:cq):True/\(c.at_.aj=(0:Int)->c.at_.aj=(0:Int))/\(c.at_.aj=(0:Int)->c.at_.aj=(0:Int))/\(c.at_.aj=(0:Int)->c.at_.aj=(0:Int))/\(c.at_.aj=(0:Int)->c.at_.aj=(0:Int))/\(c.at_.aj=(0:Int)/\(64:Int)<(↑c.data.size:Int)->(2:Int)=c.aj)/\(¬c.at_.aj=(0:Int)\/(↑c.data.size:Int)<=(64:Int)->c.at_.aj=c.aj):=by
 (try simp only [LU,LZ,Ly,Lo])
 (repeat' (first|apply And.intro|intro _))<;>first|assumption|trivial|omega|(grind [cq.aj,bI.aj,bI.ki])|trace_state
theorem Jl:wm.Ok Try.prog tD:=eI eB (Δ:=[wk]) ⟨Jj,trivial⟩ (Ω:=[]) trivial wm FL FM (fun _=>[]) (fun _=>trivial) 0 (fun x=>(fun (c:cq)=>(fun _=>none)) x.1) fun x hp=>Eq.mp (by kernel_rfl) (Jk x.1)
def wq:bZ Tc Tc.dn:=⟨17,[.ty .cT],fun x=>(fun (k:Int)=>True) x.1,[.g9],fun x=>(fun (k:Int)=>decide (aS k)) x.1⟩
theorem Jm (k:Int):(¬k=(2:Int)->¬k=(2:Int))/\(¬k=(2:Int)->¬k=(2:Int))/\(k==(2:Int)||k==(3:Int))=decide (aS k):=by
 (try simp only [LU,LZ,Ly,Lo])
 (repeat' (first|apply And.intro|intro _))<;>first|assumption|trivial|omega|(grind [])|trace_state
theorem A7:wq.Ok Try.prog tD:=eI eB (Δ:=[]) trivial (Ω:=[]) trivial wq Fy FA (fun _=>[]) (fun _=>trivial) 0 (fun x=>(fun (k:Int)=>(fun _=>none)) x.1) fun x hp=>Eq.mp (by kernel_rfl) (Jm x.1)
def wu:bZ Tc Tc.dn:=⟨21,[.ty .cT],fun x=>(fun (k:Int)=>True) x.1,[.g9],fun x=>(fun (k:Int)=>decide (jm k)) x.1⟩
theorem Jn (k:Int):((1:Int)<=k->(1:Int)<=k)/\((1:Int)<=k->(1:Int)<=k)/\(decide ((1:Int)<=k)&&decide (k<=(4:Int)))=decide (jm k):=by
 (try simp only [LU,LZ,Ly,Lo])
 (repeat' (first|apply And.intro|intro _))<;>first|assumption|trivial|omega|(grind [])|trace_state
theorem A8:wu.Ok Try.prog tD:=eI eB (Δ:=[]) trivial (Ω:=[]) trivial wu FI FJ (fun _=>[]) (fun _=>trivial) 0 (fun x=>(fun (k:Int)=>(fun _=>none)) x.1) fun x hp=>Eq.mp (by kernel_rfl) (Jn x.1)
def wv:bZ Tc Tc.dn:=⟨10,[.ty .gp],fun x=>(fun (m:aF)=>True) x.1,[.cT],fun x=>(fun (m:aF)=>m.aj) x.1⟩
theorem Jo (m:aF):True/\(decide (jm m.kind)= !true->(7:Int)=m.aj)/\(decide (jm m.kind)= !false->((0:Int)<=m.op->(0:Int)<=m.op)/\((0:Int)<=m.op->(0:Int)<=m.op)/\((0:Int)<=m.op->(0:Int)<=m.op)/\((0:Int)<=m.op/\m.op<(31:Int)->(0:Int)<=m.node->(0:Int)<=m.node)/\((0:Int)<=m.op/\m.op<(31:Int)->(0:Int)<=m.node->(0:Int)<=m.node)/\((0:Int)<=m.op/\m.op<(31:Int)->(0:Int)<=m.node->(0:Int)<=m.node)/\((m.op<(0:Int)\/(31:Int)<=m.op)/\(m.op<(0:Int)\/(31:Int)<=m.op)\/((0:Int)<=m.op/\m.op<(31:Int))/\(m.node<(0:Int)\/(12:Int)<=m.node)->(3:Int)=m.aj)/\(((0:Int)<=m.op/\m.op<(31:Int)\/(0:Int)<=m.op/\m.op<(31:Int))/\((m.op<(0:Int)\/(31:Int)<=m.op)\/(0:Int)<=m.node/\m.node<(12:Int))->True/\(m.copy.aj=(0:Int)->m.copy.aj=(0:Int))/\(m.copy.aj=(0:Int)->m.copy.aj=(0:Int))/\(m.copy.aj=(0:Int)->True)/\(m.copy.aj=(0:Int)->m.copy.aj=(0:Int))/\(m.copy.aj=(0:Int)->m.copy.aj=(0:Int))/\(m.copy.aj=(0:Int)/\decide (aS m.kind)= !true->m.copy.aj=(0:Int)/\decide (aS m.kind)= !true)/\(m.copy.aj=(0:Int)/\decide (aS m.kind)= !true->m.copy.aj=(0:Int)/\decide (aS m.kind)= !true)/\(m.copy.aj=(0:Int)/\decide (aS m.kind)= !true->m.copy.aj=(0:Int)/\decide (aS m.kind)= !true)/\(m.copy.aj=(0:Int)/\decide (aS m.kind)= !true->m.copy.aj=(0:Int)/\decide (aS m.kind)= !true)/\((m.copy.aj=(0:Int)/\decide (aS m.kind)= !true)/\(¬m.copy.at_.time=(0:Int)\/¬m.copy.at_.who=(0:Int)\/¬m.copy.data=ByteArray.mk #[])->(1:Int)=m.aj)/\((¬m.copy.aj=(0:Int)\/decide (aS m.kind)= !false)\/m.copy.at_.time=(0:Int)/\m.copy.at_.who=(0:Int)/\m.copy.data=ByteArray.mk #[]->m.copy.aj=m.aj))):=by
 (try simp only [LU,LZ,Ly,Lo])
 (repeat' (first|apply And.intro|intro _))<;>first|assumption|trivial|omega|(grind [aF.aj])|trace_state
theorem A9:wv.Ok Try.prog tD:=eI eB (Δ:=[wq,wu,wm]) ⟨A7,A8,Jl,trivial⟩ (Ω:=[]) trivial wv Fb Fc (fun _=>[]) (fun _=>trivial) 0 (fun x=>(fun (m:aF)=>(fun _=>none)) x.1) fun x hp=>Eq.mp (by kernel_rfl) (Jo x.1)
def wx:bZ Tc Tc.dn:=⟨29,[.ty .ke],fun x=>(fun (s:bI)=>True) x.1,[.cT],fun x=>(fun (s:bI)=>s.aj) x.1⟩
theorem Jp (s:bI):((0:Int)<=s.time->(0:Int)<=s.time)/\((0:Int)<=s.time->(0:Int)<=s.time)/\((0:Int)<=s.time->(0:Int)<=s.time)/\((0:Int)<=s.time/\s.time<=(1000000:Int)->(0:Int)<=s.time/\s.time<=(1000000:Int))/\((0:Int)<=s.time/\s.time<=(1000000:Int)->(0:Int)<=s.time/\s.time<=(1000000:Int))/\((0:Int)<=s.time/\s.time<=(1000000:Int)->(0:Int)<=s.time/\s.time<=(1000000:Int))/\(((0:Int)<=s.time/\s.time<=(1000000:Int))/\(0:Int)<=s.who->((0:Int)<=s.time/\s.time<=(1000000:Int))/\(0:Int)<=s.who)/\(((0:Int)<=s.time/\s.time<=(1000000:Int))/\(0:Int)<=s.who->((0:Int)<=s.time/\s.time<=(1000000:Int))/\(0:Int)<=s.who)/\(((0:Int)<=s.time/\s.time<=(1000000:Int))/\(0:Int)<=s.who->((0:Int)<=s.time/\s.time<=(1000000:Int))/\(0:Int)<=s.who)/\(((s.time<(0:Int)\/(1000000:Int)<s.time)\/s.who<(0:Int))\/(31:Int)<s.who->(3:Int)=s.aj)/\((((0:Int)<=s.time/\s.time<=(1000000:Int))/\(0:Int)<=s.who)/\s.who<=(31:Int)->(0:Int)=s.aj):=by
 (try simp only [LU,LZ,Ly,Lo])
 (repeat' (first|apply And.intro|intro _))<;>first|assumption|trivial|omega|(grind [bI.aj,bI.ki])|trace_state
theorem Jq:wx.Ok Try.prog tD:=eI eB (Δ:=[]) trivial (Ω:=[]) trivial wx FY F0 (fun _=>[]) (fun _=>trivial) 0 (fun x=>(fun (s:bI)=>(fun _=>none)) x.1) fun x hp=>Eq.mp (by kernel_rfl) (Jp x.1)
def wy:bZ Tc Tc.dn:=⟨23,[.ty .kf],fun x=>(fun (c:cq)=>True) x.1,[.cT],fun x=>(fun (c:cq)=>c.aj) x.1⟩
theorem Jr (c:cq):True/\(c.at_.aj=(0:Int)->c.at_.aj=(0:Int))/\(c.at_.aj=(0:Int)->c.at_.aj=(0:Int))/\(c.at_.aj=(0:Int)->c.at_.aj=(0:Int))/\(c.at_.aj=(0:Int)->c.at_.aj=(0:Int))/\(c.at_.aj=(0:Int)/\(64:Int)<(↑c.data.size:Int)->(2:Int)=c.aj)/\(¬c.at_.aj=(0:Int)\/(↑c.data.size:Int)<=(64:Int)->c.at_.aj=c.aj):=by
 (try simp only [LU,LZ,Ly,Lo])
 (repeat' (first|apply And.intro|intro _))<;>first|assumption|trivial|omega|(grind [cq.aj,bI.aj,bI.ki])|trace_state
theorem Js:wy.Ok Try.prog tD:=eI eB (Δ:=[wx]) ⟨Jq,trivial⟩ (Ω:=[]) trivial wy FO FP (fun _=>[]) (fun _=>trivial) 0 (fun x=>(fun (c:cq)=>(fun _=>none)) x.1) fun x hp=>Eq.mp (by kernel_rfl) (Jr x.1)
def sr:bZ Tc Tc.dn:=⟨19,[.ty .cT],fun x=>(fun (k:Int)=>True) x.1,[.g9],fun x=>(fun (k:Int)=>decide (aS k)) x.1⟩
theorem Jt (k:Int):(¬k=(2:Int)->¬k=(2:Int))/\(¬k=(2:Int)->¬k=(2:Int))/\(k==(2:Int)||k==(3:Int))=decide (aS k):=by
 (try simp only [LU,LZ,Ly,Lo])
 (repeat' (first|apply And.intro|intro _))<;>first|assumption|trivial|omega|(grind [])|trace_state
theorem Ba:sr.Ok Try.prog tD:=eI eB (Δ:=[]) trivial (Ω:=[]) trivial sr FC FD (fun _=>[]) (fun _=>trivial) 0 (fun x=>(fun (k:Int)=>(fun _=>none)) x.1) fun x hp=>Eq.mp (by kernel_rfl) (Jt x.1)
def wz:bZ Tc Tc.dn:=⟨11,[.ty .gp],fun x=>(fun (m:aF)=>True) x.1,[.cT],fun x=>(fun (m:aF)=>m.aj) x.1⟩
theorem Ju (m:aF):((1:Int)<=m.kind->(1:Int)<=m.kind)/\((1:Int)<=m.kind->(1:Int)<=m.kind)/\((1:Int)<=m.kind->(1:Int)<=m.kind)/\(m.kind<(1:Int)\/(4:Int)<m.kind->(7:Int)=m.aj)/\((1:Int)<=m.kind/\m.kind<=(4:Int)->((0:Int)<=m.op->(0:Int)<=m.op)/\((0:Int)<=m.op->(0:Int)<=m.op)/\((0:Int)<=m.op->(0:Int)<=m.op)/\((0:Int)<=m.op/\m.op<=(30:Int)->(0:Int)<=m.op/\m.op<=(30:Int))/\((0:Int)<=m.op/\m.op<=(30:Int)->(0:Int)<=m.op/\m.op<=(30:Int))/\((0:Int)<=m.op/\m.op<=(30:Int)->(0:Int)<=m.op/\m.op<=(30:Int))/\(((0:Int)<=m.op/\m.op<=(30:Int))/\(0:Int)<=m.node->((0:Int)<=m.op/\m.op<=(30:Int))/\(0:Int)<=m.node)/\(((0:Int)<=m.op/\m.op<=(30:Int))/\(0:Int)<=m.node->((0:Int)<=m.op/\m.op<=(30:Int))/\(0:Int)<=m.node)/\(((0:Int)<=m.op/\m.op<=(30:Int))/\(0:Int)<=m.node->((0:Int)<=m.op/\m.op<=(30:Int))/\(0:Int)<=m.node)/\(((m.op<(0:Int)\/(30:Int)<m.op)\/m.node<(0:Int))\/(11:Int)<m.node->(3:Int)=m.aj)/\((((0:Int)<=m.op/\m.op<=(30:Int))/\(0:Int)<=m.node)/\m.node<=(11:Int)->True/\(¬m.copy.aj=(0:Int)->m.copy.aj=m.aj)/\(m.copy.aj=(0:Int)->True/\(decide (aS m.kind)= !true->decide (aS m.kind)= !true)/\(decide (aS m.kind)= !true->decide (aS m.kind)= !true)/\(decide (aS m.kind)= !true->decide (aS m.kind)= !true)/\(decide (aS m.kind)= !true->decide (aS m.kind)= !true)/\(decide (aS m.kind)= !true/\(¬m.copy.at_.time=(0:Int)\/¬m.copy.at_.who=(0:Int)\/¬m.copy.data=ByteArray.mk #[])->(1:Int)=m.aj)/\(decide (aS m.kind)= !false\/m.copy.at_.time=(0:Int)/\m.copy.at_.who=(0:Int)/\m.copy.data=ByteArray.mk #[]->(0:Int)=m.aj)))):=by
 (try simp only [LU,LZ,Ly,Lo])
 (repeat' (first|apply And.intro|intro _))<;>first|assumption|trivial|omega|(grind [aF.aj])|trace_state
theorem Jv:wz.Ok Try.prog tD:=eI eB (Δ:=[sr,wy]) ⟨Ba,Js,trivial⟩ (Ω:=[]) trivial wz Ff Fg (fun _=>[]) (fun _=>trivial) 0 (fun x=>(fun (m:aF)=>(fun _=>none)) x.1) fun x hp=>Eq.mp (by kernel_rfl) (Ju x.1)
def wA:bZ Tc Tc.dn:=⟨27,[.ty .cT, .ty .cT],fun x=>(fun (t:Int) (w:Int)=>True) x.1 x.2.1,[.ke],fun x=>(fun (t:Int) (w:Int)=>⟨t,w⟩) x.1 x.2.1⟩
theorem Jw (t:Int) (w:Int):bI.mk t w=bI.mk t w:=by
 rfl
theorem Jx:wA.Ok Try.prog tD:=eI eB (Δ:=[]) trivial (Ω:=[]) trivial wA FR FT (fun _=>[]) (fun _=>trivial) 0 (fun x=>(fun (t:Int) (w:Int)=>(fun _=>none)) x.1 x.2.1) fun x hp=>Eq.mp (by kernel_rfl) (Jw x.1 x.2.1)
def wB:bZ Tc Tc.dn:=⟨20,[.ty .cT, .ty .cT, .ty .fp],fun x=>(fun (t:Int) (w:Int) (d:ByteArray)=>True) x.1 x.2.1 x.2.2.1,[.kf],fun x=>(fun (t:Int) (w:Int) (d:ByteArray)=>⟨⟨t,w⟩,d⟩) x.1 x.2.1 x.2.2.1⟩
theorem Jy (t:Int) (w:Int) (d:ByteArray):True/\cq.mk (bI.mk t w) d=cq.mk (bI.mk t w) d:=by
 exact ⟨trivial,rfl⟩
theorem Jz:wB.Ok Try.prog tD:=eI eB (Δ:=[wA]) ⟨Jx,trivial⟩ (Ω:=[]) trivial wB FF FG (fun _=>[]) (fun _=>trivial) 0 (fun x=>(fun (t:Int) (w:Int) (d:ByteArray)=>(fun _=>none)) x.1 x.2.1 x.2.2.1) fun x hp=>Eq.mp (by kernel_rfl) (Jy x.1 x.2.1 x.2.2.1)
open Go.ChangeShapes Go.WideShapes Go.ChangeAt Go.RowKit
open Go.ChangeMaps (open_string shut_string)
def Rd (b:Nat) (s:ByteArray) (u:Nat) (w:World):Prop:=w.heap[b]? =some (.cells #[.string s, .int .i64 (u:Int)] 51 (0,0))/\u<=s.size/\s.size<=9223372036854775807
structure Kq (b:Nat) (w w':World):Prop where
 below:Below b w w'
 aL:∀k,k<w.heap.size->k≠b->w'.heap[k]? =w.heap[k]?
theorem Kq.refl (b:Nat) (w:World):Kq b w w:=⟨LN _ _,fun _ _ _=>rfl⟩
theorem Kq.trans {b:Nat} {w w' w'':World} (h:Kq b w w') (k:Kq b w' w''):Kq b w w'':=⟨h.below.trans k.below,fun q h1 h2=>(k.aL q (Lr h1 h.below.size) h2).trans (h.aL q h1 h2)⟩
theorem Kq.drewN {b:Nat} {w w':World} (h:Kq b w w') (n:Nat):Kq b w (w'.drewN n):=⟨below_drewN h.below n,h.aL⟩
theorem Kq.setCell {b:Nat} {w w':World} (h:Kq b w w') (o:Nat) (v:Value):Kq b w (w'.setCell ⟨b,o,none⟩ v):=⟨h.below.setCell (p:=⟨b,o,none⟩) (K4 _) v,fun k h1 h2=>(Mc _ _ _ _ h2).trans (h.aL k h1 h2)⟩
theorem Kq.new (h:Kq b w w') (hb:b<=w'.heap.size) (o:Obj):Kq b w (w'.alloc o):=⟨h.below.alloc hb _,fun k h1 h2=>(LC _ _ _ (Lr h1 h.below.size)).trans (h.aL k h1 h2)⟩
def mj (e:Int):Ending:= .panicked [{ v:= .iface 57 (.agg #[.int .i64 e]),recovered:=false }]
theorem Bb (h:Rd b s u w) (hn:u+n<=s.size):Calls Try.prog 32 #[.pointer (some ⟨b,0,none⟩), .int .i64 (n:Int)] w fun e w'=>e= .returned (.string (s.extract u (u+n)))/\Rd b s (u+n) w'/\Kq b w w':=by
 obtain ⟨hb,hu,hs⟩:=h
 have c0:w.cell? ⟨b,0,none⟩=some (.string s):=by simp [World.cell?,hb]
 have c1:w.cell? ⟨b,1,none⟩=some (.int .i64 (u:Int)):=by simp [World.cell?,hb]
 have f1:w.frozen? ⟨b,1,none⟩=false:=by simp [World.frozen?,hb]
 have h1:¬((s.size:Int) - (u:Int)<(n:Int)):=by omega
 go_enter Try.func32,Try.ntmps32
 go_wp2
 go_quiet (fail)
 go_wp2
 go_quiet (fail)
 go_wp2
 go_ret
 refine ⟨rfl,⟨?_,hn,hs⟩, ?_⟩
 ·simp [World.setCell,Mz,hb]
 ·exact (((Kq.refl b w).drewN _).setCell 1 _).drewN _
theorem Bc (h:Rd b s u w) (hn:¬u+n<=s.size):Calls Try.prog 32 #[.pointer (some ⟨b,0,none⟩), .int .i64 (n:Int)] w fun e w'=>e=mj 5/\Kq b w w':=by
 obtain ⟨hb,hu,hs⟩:=h
 have c0:w.cell? ⟨b,0,none⟩=some (.string s):=by simp [World.cell?,hb]
 have c1:w.cell? ⟨b,1,none⟩=some (.int .i64 (u:Int)):=by simp [World.cell?,hb]
 have f1:w.frozen? ⟨b,1,none⟩=false:=by simp [World.frozen?,hb]
 have h1:(s.size:Int) - (u:Int)<(n:Int):=by omega
 go_enter Try.func32,Try.ntmps32
 go_wp2
 go_quiet (fail)
 go_wp2
 exact ⟨rfl,rfl,(Kq.refl b w).drewN _⟩
def fO (s:ByteArray) (u:Nat):Nat->Nat
 |0=>0
 |k+1=>fO s u k*256+(gb s (u+k)).toNat
theorem Bd (s:ByteArray) (u:Nat):∀k,fO s u k<256^k
 |0=>by simp [fO]
 |k+1=>by
  have h1:=Bd s u k
  have h2:(gb s (u+k)).toNat<256:=(gb s (u+k)).toNat_lt
  rw [fO,Nat.pow_succ]
  omega
theorem JA (m:Nat) (y:UInt8) (h:m<65536):bits .or .i64 (wrap64 ((m:Int)*256)) (wrap64 (y.toNat:Int))=((m*256+y.toNat:Nat):Int):=by
 have hy:y.toNat<256:=y.toNat_lt
 have e1:wrap64 ((m:Int)*256)=((m*256:Nat):Int):=by unfold wrap64;omega
 have e2:wrap64 (y.toNat:Int)=((y.toNat:Nat):Int):=by unfold wrap64;omega
 rw [e1,e2,F5 _ _ (by omega) (by omega)]
 have:=Nat.shiftLeft_add_eq_or_of_lt (i:=8) (b:=y.toNat) hy m
 rw [Nat.shiftLeft_eq] at this
 rw [<-this]
theorem Be (h:Rd b s u w) (hn:u+n<=s.size) (h3:n<=3) (hbw:b<w.heap.size):Calls Try.prog 31 #[.pointer (some ⟨b,0,none⟩), .int .i64 (n:Int)] w fun e w'=>e= .returned (.int .i64 (fO s u n:Int))/\Rd b s (u+n) w'/\Kq b w w':=by
 have hcv2:=fun w s=>run_bytes_of_string (P:=Try.prog) w 9 43 5 s Try.underlying9 Try.underlying43 Try.underlying5
 go_enter Try.func31,Try.ntmps31
 go_wp2_with (go_at_call 32;refine (Bb h hn).mono ?_)
 rintro e w1 ⟨rfl,hR,hk⟩
 go_wp2
 have hsz:=hk.below.size
 have hrow:∀j (hj:j<n),(bytesRow (s.extract u (u+n)) (grownCap w1 n 0 5))[j]? =some (.int .u8 ((gb s (u+j)).toNat:Int)):=fun j hj=>by
  rw [bytesRow_at (s.extract u (u+n)) _ j (by show j<(s.extract u (u+n)).size;simp;omega)]
  have e:(s.extract u (u+n)).data[j]'(by show j<(s.extract u (u+n)).size;simp;omega)=gb s (u+j):=by
   simp [gb]
   rw [getElem?_pos s (u+j) (by omega)]
   rfl
  rw [e]
 generalize grownCap w1 n 0 5=cap at hrow ⊢
 have hc0:∀j (hj:j<n),((w1.alloc (Obj.cells (bytesRow (s.extract u (u+n)) cap) 5 ((bytesRow (s.extract u (u+n)) cap).size,(bytesRow (s.extract u (u+n)) cap).size+1))).drew).cell? ⟨w1.heap.size,j,none⟩=some (.int .u8 ((gb s (u+j)).toNat:Int)):=fun j hj=>by
  rw [<-hrow j hj]
  exact World.cell?_alloc_mark _ _ _ _ _
 have hK:Kq b w ((w1.alloc (Obj.cells (bytesRow (s.extract u (u+n)) cap) 5 ((bytesRow (s.extract u (u+n)) cap).size,(bytesRow (s.extract u (u+n)) cap).size+1))).drew):=((hk.new (by omega) _).drewN 1)
 have hR2:Rd b s (u+n) ((w1.alloc (Obj.cells (bytesRow (s.extract u (u+n)) cap) 5 ((bytesRow (s.extract u (u+n)) cap).size,(bytesRow (s.extract u (u+n)) cap).size+1))).drew):=⟨(LC _ _ _ (by omega)).trans hR.1,hR.2⟩
 generalize ((w1.alloc (Obj.cells (bytesRow (s.extract u (u+n)) cap) 5 ((bytesRow (s.extract u (u+n)) cap).size,(bytesRow (s.extract u (u+n)) cap).size+1))).drew)=w2 at hc0 hK hR2 ⊢
 go_loopw [12,4] (fun i x wr=>wr=w2/\∃k:Nat,i= .int .i64 (k:Int)/\k<=n/\x= .int .i64 (fO s u k:Int)) (fun i x wr=>n - (intOf i).toNat)
 case atStart=>
  exact ⟨rfl,0,rfl,Nat.zero_le _,rfl⟩
 case round=>
  obtain ⟨rfl,k,rfl,hk2,rfl⟩:=hrel
  have hb:=Bd s u k
  by_cases hks:k<n
  ·have hck:=hc0 k hks
   have hlt:(k:Int)<n:=by omega
   go_wp2
   go_roundw
   case rel=>
    refine ⟨trivial,k+1,by first|rfl|simp|omega,by omega, ?_⟩
    have h6:256^k<=256^2:=Nat.pow_le_pow_right (by omega) (by omega)
    rw [JA _ _ (by omega)]
    rfl
   case measure=>simp only [intOf];omega
  ·have hlt:¬(k:Int)<n:=by omega
   go_wp2
   have e:k=n:=by omega
   subst e
   go_ret
   exact ⟨rfl,hR2,hK⟩
theorem Bf (h:Rd b s u w) (hn:¬u+n<=s.size):Calls Try.prog 31 #[.pointer (some ⟨b,0,none⟩), .int .i64 (n:Int)] w fun e w'=>e=mj 5/\Kq b w w':=by
 go_enter Try.func31,Try.ntmps31
 go_wp2_with (go_at_call 32;refine (Bc h hn).mono ?_)
 rintro e w1 ⟨rfl,hk⟩
 exact ⟨rfl,rfl,hk⟩
theorem Bg (vs:List Value) (h:∀v∈vs,plainV v=true):af E (.agg vs.toArray) (.agg (vs.map AV.v)):= .agg (by simp) fun i v c hv hc=>by
 rw [Lu] at hc
 have:vs[i]? =some v:=by simpa using hv
 rw [this] at hc
 simp at hc
 subst hc
 exact .v (h v (LJ this))
theorem wC (m:aF) (w:World):Calls Try.prog 10 #[m.v] w fun e w'=>e= .returned (I m.aj)/\Below w.heap.size w w':=
 (A9.2 (m,()) ⟨fun _=>0,fun _=>0,fun _=> .dead⟩ trivial w (fun _=>False) #[m.v] (fun _ h=>h.elim) trivial ⟨rfl,fun i v c hv hc=>by
  cases i with
  |zero=>simp at hv;subst hv;cases hc;exact Bg [I m.kind,I m.op,I m.node,I m.copy.at_.time,I m.copy.at_.who, .string m.copy.data] (by simp [plainV])
  |succ i=>simp at hv⟩).mono fun e w' ⟨v,he,hr,hb⟩=>⟨he.trans (by rw [hr.fy];rfl),hb⟩
theorem Bh (k:Int) (w:World):Calls Try.prog 17 #[I k] w fun e w'=>e= .returned (.bool (decide (aS k)))/\Below w.heap.size w w':=
 (A7.2 (k,()) ⟨fun _=>0,fun _=>0,fun _=> .dead⟩ trivial w (fun _=>False) #[I k] (fun _ h=>h.elim) trivial ⟨rfl,fun i v c hv hc=>by
  cases i with
  |zero=>simp at hv;subst hv;cases hc;exact .v rfl
  |succ i=>simp at hv⟩).mono fun e w' ⟨v,he,hr,hb⟩=>⟨he.trans (by rw [hr.fy];rfl),hb⟩
theorem Bi (k:Int) (w:World):Calls Try.prog 21 #[I k] w fun e w'=>e= .returned (.bool (decide (jm k)))/\Below w.heap.size w w':=
 (A8.2 (k,()) ⟨fun _=>0,fun _=>0,fun _=> .dead⟩ trivial w (fun _=>False) #[I k] (fun _ h=>h.elim) trivial ⟨rfl,fun i v c hv hc=>by
  cases i with
  |zero=>simp at hv;subst hv;cases hc;exact .v rfl
  |succ i=>simp at hv⟩).mono fun e w' ⟨v,he,hr,hb⟩=>⟨he.trans (by rw [hr.fy];rfl),hb⟩
def bO (s:ByteArray):aF:=
 ⟨(gb s 0).toNat,(gb s 1).toNat,(gb s 2).toNat,if aS ((gb s 0).toNat:Int) then ⟨⟨(fO s 3 3:Int),(gb s 6).toNat⟩,s.extract 8 (8+(gb s 7).toNat)⟩ else ⟨⟨0,0⟩,⟨#[]⟩⟩⟩
def cP (s:ByteArray):Nat:=if aS ((gb s 0).toNat:Int) then 8+(gb s 7).toNat else 3
def aB (s:ByteArray):Int:=
 if s.size=0 then 5
 else if ¬jm ((gb s 0).toNat:Int) then 7
 else if s.size<3\/aS ((gb s 0).toNat:Int)/\(s.size<8\/s.size<8+(gb s 7).toNat) then 5
 else (bO s).aj
theorem JB (s:ByteArray) (u:Nat):fO s u 1=(gb s u).toNat:=by simp [fO]
theorem pD (h:Rd b s u w) (hn:u+1<=s.size) (hbw:b<w.heap.size):Calls Try.prog 31 #[.pointer (some ⟨b,0,none⟩), .int .i64 1] w fun e w'=>e= .returned (.int .i64 (((gb s u).toNat:Nat):Int))/\Rd b s (u+1) w'/\Kq b w w':=by
 have:=Be (n:=1) h hn (by omega) hbw
 rw [JB] at this
 exact this
theorem pE (h:Rd b s u w) (hn:¬u+1<=s.size):Calls Try.prog 31 #[.pointer (some ⟨b,0,none⟩), .int .i64 1] w fun e w'=>e=mj 5/\Kq b w w':=Bf (n:=1) h hn
def bo (b:Nat) (m:aF) (w:World):Prop:=w.heap[b]? =some (.cells #[I m.kind,I m.op,I m.node,I m.copy.at_.time,I m.copy.at_.who, .string m.copy.data] 27 (0,0))
def kj (b:Nat) (s:ByteArray) (w:World) (e:Ending) (w':World):Prop:=(if aB s=0 then e= .returned (bO s).v/\Rd b s (cP s) w' else e=mj (aB s))/\Kq b w w'
theorem kj.bad {n:Int} (h:aB s=n) (hn:n≠0) (hk:Kq b w w'):kj b s w (mj n) w':=by
 unfold kj
 rw [h,K0 hn]
 exact ⟨rfl,hk⟩
theorem bo.aL {B b:Nat} {m:aF} {w w':World} (h:bo B m w) (hk:Kq b w w') (hB:B≠b) (hl:B<w.heap.size):bo B m w':=(hk.aL B hl hB).trans h
theorem Kq.bG {B:Nat} (h:Kq b w w') (hB:b<B) (hl:w.heap.size<=B) (o:Nat) (v:Value):Kq b w (w'.setCell ⟨B,o,none⟩ v):=⟨h.below.setCell (p:=⟨B,o,none⟩) (by show b<=B;omega) v,fun k h1 h2=>(Mc _ _ _ _ (by show k≠B;omega)).trans (h.aL k h1 h2)⟩
theorem Rd.bG {B:Nat} (h:Rd b s u w) (hB:b≠B) (o:Nat) (v:Value):Rd b s u (w.setCell ⟨B,o,none⟩ v):=⟨(Mc _ _ _ _ hB).trans h.1,h.2⟩
def mid (s:ByteArray) (k:Nat):aF:=⟨(gb s 0).toNat,if k=0 then 0 else (gb s 1).toNat,if k<=1 then 0 else (gb s 2).toNat,⟨⟨0,0⟩,⟨#[]⟩⟩⟩
theorem bo.c {B:Nat} (h:bo B m w):w.cell? ⟨B,0,none⟩=some (I m.kind)/\w.cell? ⟨B,1,none⟩=some (I m.op)/\w.cell? ⟨B,2,none⟩=some (I m.node)/\w.cell? ⟨B,3,none⟩=some (I m.copy.at_.time)/\w.cell? ⟨B,4,none⟩=some (I m.copy.at_.who)/\w.cell? ⟨B,5,none⟩=some (.string m.copy.data):=by
 unfold bo at h
 simp [World.cell?,h]
theorem bo.f {B:Nat} (h:bo B m w) (o:Nat):w.frozen? ⟨B,o,none⟩=false:=by
 unfold bo at h
 simp [World.frozen?,h]
theorem bo.s0 {B:Nat} (h:bo B m w) (v:Int):bo B ⟨v,m.op,m.node,m.copy⟩ (w.setCell ⟨B,0,none⟩ (I v)):=by
 unfold bo at h ⊢
 simp [World.setCell,Mz,h]
theorem bo.s1 {B:Nat} (h:bo B m w) (v:Int):bo B ⟨m.kind,v,m.node,m.copy⟩ (w.setCell ⟨B,1,none⟩ (I v)):=by
 unfold bo at h ⊢
 simp [World.setCell,Mz,h]
theorem bo.s2 {B:Nat} (h:bo B m w) (v:Int):bo B ⟨m.kind,m.op,v,m.copy⟩ (w.setCell ⟨B,2,none⟩ (I v)):=by
 unfold bo at h ⊢
 simp [World.setCell,Mz,h]
theorem bo.s3 {B:Nat} (h:bo B m w) (v:Int):bo B ⟨m.kind,m.op,m.node,⟨⟨v,m.copy.at_.who⟩,m.copy.data⟩⟩ (w.setCell ⟨B,3,none⟩ (I v)):=by
 unfold bo at h ⊢
 simp [World.setCell,Mz,h]
theorem bo.s4 {B:Nat} (h:bo B m w) (v:Int):bo B ⟨m.kind,m.op,m.node,⟨⟨m.copy.at_.time,v⟩,m.copy.data⟩⟩ (w.setCell ⟨B,4,none⟩ (I v)):=by
 unfold bo at h ⊢
 simp [World.setCell,Mz,h]
theorem bo.s5 {B:Nat} (h:bo B m w) (v:ByteArray):bo B ⟨m.kind,m.op,m.node,⟨m.copy.at_,v⟩⟩ (w.setCell ⟨B,5,none⟩ (.string v)):=by
 unfold bo at h ⊢
 simp [World.setCell,Mz,h]
theorem pF (h:Below w.heap.size w w') (hb:b<w.heap.size):Kq b w w':=⟨h.mono (by omega),fun k hk _=>h.block k hk⟩
theorem pG (h:Below w.heap.size w w') (hb:b<w.heap.size) (hR:Rd b s u w):Rd b s u w':=⟨(h.block b hb).trans hR.1,hR.2⟩
theorem mn {B:Nat} (h:Below w.heap.size w w') (hb:B<w.heap.size) (hR:bo B m w):bo B m w':=(h.block B hb).trans hR
theorem Bj (x y:Value) (hx:x.oneCell'=true) (hy:y.oneCell'=true) (i:Nat) (hi:i<2) (w:World):(Instr.index 60 (.agg #[x,y]) (.int .i64 (i:Int))).run Try.prog w= .ok (if i=0 then x else y) w:=by
 rcases (show i=0\/i=1 by omega) with rfl|rfl<;>simp [Instr.index,asIntOf,run_underlying Try.underlying60,go_sem]
theorem kj.Bl (h:aB s=0) (hk:Kq b w w') (hR:Rd b s (cP s) w'):kj b s w (.returned (bO s).v) w':=by
 unfold kj
 rw [K1 h]
 exact ⟨⟨rfl,hR⟩,hk⟩
theorem Bm (h:¬aS ((gb s 0).toNat:Int)):1+2=cP s:=by unfold cP;rw [K0 h]
theorem Bn (h:aS ((gb s 0).toNat:Int)):1+2+3+1+1+(gb s 7).toNat=cP s:=by unfold cP;rw [K1 h]
theorem Bo {B:Nat} (hM:bo B (bO s) w') (hd:a.defers=[]) (h2:a.tmps[2]?.getD undef= .pointer (some ⟨B,0,none⟩)) (hP:kj b s w (.returned (bO s).v) w'):bodyPost Try.prog Try.f26 (kj b s w) .ret a w':=by
 obtain ⟨m0,m1,m2,m3,m4,m5⟩:=hM.c
 refine ⟨hd,(bO s).v, ?_,hP⟩
 simp [results,Try.results26,go_sem,h2,m0,m1,m2,m3,m4,m5]
theorem JC (h:Rd b s 0 w) (hbw:b<w.heap.size):Calls Try.prog 26 #[.pointer (some ⟨b,0,none⟩)] w (kj b s w):=by
 have hi0:∀w':World,(Instr.index 60 (.agg #[.pointer (some ⟨w.heap.size,1,none⟩), .pointer (some ⟨w.heap.size,2,none⟩)]) (.int .i64 0)).run Try.prog w'= .ok (.pointer (some ⟨w.heap.size,1,none⟩)) w':=fun w'=>Bj _ _ rfl rfl 0 (by omega) w'
 have hi1:∀w':World,(Instr.index 60 (.agg #[.pointer (some ⟨w.heap.size,1,none⟩), .pointer (some ⟨w.heap.size,2,none⟩)]) (.int .i64 1)).run Try.prog w'= .ok (.pointer (some ⟨w.heap.size,2,none⟩)) w':=fun w'=>Bj _ _ rfl rfl 1 (by omega) w'
 go_enter Try.func26,Try.ntmps26
 have hR0:Rd b s 0 (w.alloc (.cells #[.int .i64 0, .int .i64 0, .int .i64 0, .int .i64 0, .int .i64 0, .string ⟨#[]⟩] 27)):=⟨(LC _ _ _ hbw).trans h.1,h.2⟩
 have hk0:Kq b w (w.alloc (.cells #[.int .i64 0, .int .i64 0, .int .i64 0, .int .i64 0, .int .i64 0, .string ⟨#[]⟩] 27)):=(Kq.refl b w).new (by omega) _
 have hM0:bo w.heap.size ⟨0,0,0,⟨⟨0,0⟩,⟨#[]⟩⟩⟩ (w.alloc (.cells #[.int .i64 0, .int .i64 0, .int .i64 0, .int .i64 0, .int .i64 0, .string ⟨#[]⟩] 27)):=MJ w _
 have hs0:(w.alloc (.cells #[.int .i64 0, .int .i64 0, .int .i64 0, .int .i64 0, .int .i64 0, .string ⟨#[]⟩] 27)).heap.size=w.heap.size+1:=by simp
 by_cases h0:1<=s.size
 ·go_wp2_with (go_at_call 31;refine (pD hR0 (by omega) (by omega)).mono ?_)
  rintro e w1 ⟨rfl,hR1,hk1⟩
  have hM1:=hM0.aL hk1 (by omega) (by omega)
  have hs1:=hk1.below.size
  have k1:=hk0.trans hk1
  have d0:=hM1.c.1
  have f0:=hM1.f 0
  have hM1':=hM1.s0 (gb s 0).toNat
  have k1':=k1.bG hbw (K4 _) 0 (I (gb s 0).toNat)
  have hR1':=hR1.bG (by omega) 0 (I (gb s 0).toNat) (B:=w.heap.size)
  have d0':=hM1'.c.1
  by_cases hk:jm ((gb s 0).toNat:Int)
  ·have hkd:decide (jm ((gb s 0).toNat:Int))=true:=decide_eq_true hk
   go_wp2_with (go_at_call 21;refine (Bi _ _).mono ?_)
   rintro e w2 ⟨he,b2⟩
   rw [hkd] at he
   subst he
   have hs1':=k1'.below.size
   have hR2:=pG b2 (by simp;omega) hR1'
   have hM2:=mn b2 (by simp;omega) hM1'
   have k2:=k1'.trans (pF b2 (by simp;omega))
   have hs2:=b2.size
   simp only [World.size_setCell] at hs2
   have hE:s.size<3->aB s=5:=fun h3=>by unfold aB;rw [K0 (by omega),K0 (by simpa using hk),K1 (.inl h3)]
   go_wp2
   go_loopw [18] (fun i wr=>∃k:Nat,i= .int .i64 (k:Int)/\k<=2/\Rd b s (1+k) wr/\bo w.heap.size (mid s k) wr/\Kq b w wr/\w.heap.size<wr.heap.size) (fun i wr=>2 - (intOf i).toNat)
   case atStart=>exact ⟨0,rfl,by omega,hR2,hM2,k2,by omega⟩
   case round=>
    obtain ⟨k,rfl,hk2,hR,hM,kw,hsz⟩:=hrel
    rcases LM k 2 with hlt|hge
    ·rcases (show k=0\/k=1 by omega) with rfl|rfl
     ·by_cases h2:2<=s.size
      ·go_wp2_with (go_at_call 31;refine (pD hR (by omega) (by omega)).mono ?_)
       rintro e w3 ⟨rfl,hR3,hk3⟩
       have hM3:=hM.aL hk3 (by omega) (by omega)
       have hs3:=hk3.below.size
       have k3:=kw.trans hk3
       have d1:=hM3.c.2.1
       have f1:=hM3.f 1
       go_wp2
       go_roundw
       case rel=>
        refine ⟨1,rfl,by omega,hR3.bG (by omega) 1 _,hM3.s1 _,k3.bG hbw (K4 _) 1 _,by simp;omega⟩
       case measure=>simp [intOf]
      ·go_wp2_with (go_at_call 31;refine (pE hR (by omega)).mono ?_)
       rintro e w3 ⟨rfl,hk3⟩
       exact ⟨rfl, .bad (hE (by omega)) (by decide) (kw.trans hk3)⟩
     ·by_cases h2:3<=s.size
      ·go_wp2_with (go_at_call 31;refine (pD hR (by omega) (by omega)).mono ?_)
       rintro e w3 ⟨rfl,hR3,hk3⟩
       have hM3:=hM.aL hk3 (by omega) (by omega)
       have hs3:=hk3.below.size
       have k3:=kw.trans hk3
       have d1:=hM3.c.2.2.1
       have f1:=hM3.f 2
       go_wp2
       go_roundw
       case rel=>
        refine ⟨2,rfl,by omega,hR3.bG (by omega) 2 _,hM3.s2 _,k3.bG hbw (K4 _) 2 _,by simp;omega⟩
       case measure=>simp [intOf]
      ·go_wp2_with (go_at_call 31;refine (pE hR (by omega)).mono ?_)
       rintro e w3 ⟨rfl,hk3⟩
       exact ⟨rfl, .bad (hE (by omega)) (by decide) (kw.trans hk3)⟩
    ·obtain rfl:k=2:=by omega
     have hlen:3<=s.size:=by have:=hR.2.1;omega
     have d0:wr.cell? ⟨w.heap.size,0,none⟩=some (.int .i64 ((gb s 0).toNat:Int)):=hM.c.1
     go_wp2_with (go_at_call 17;refine (Bh ((gb s 0).toNat:Int) _).mono ?_)
     rintro e w3 ⟨he,b3⟩
     have hR3:=pG b3 (by omega) hR
     have hM3:=mn b3 (by omega) hM
     have k3:=kw.trans (pF b3 (by omega))
     have hs3:=b3.size
     have hF:¬(aS ((gb s 0).toNat:Int)/\(s.size<8\/s.size<8+(gb s 7).toNat))->aB s=(bO s).aj:=fun h9=>by unfold aB;rw [K0 (by omega),K0 (by simpa using hk),K0 (by rintro (h8|h8);omega;exact h9 h8)]
     by_cases hC:aS ((gb s 0).toNat:Int)
     ·have hCd:decide (aS ((gb s 0).toNat:Int))=true:=decide_eq_true hC
      have hG:(s.size<8\/s.size<8+(gb s 7).toNat)->aB s=5:=fun h9=>by unfold aB;rw [K0 (by omega),K0 (by simpa using hk),K1 (.inr ⟨hC,h9⟩)]
      rw [hCd] at he
      subst he
      by_cases h6:6<=s.size
      ·go_wp2_with (go_at_call 31;refine (Be (n:=3) hR3 (by omega) (by omega) (by omega)).mono ?_)
       rintro e w4 ⟨rfl,hR4,hk4⟩
       have hM4:=hM3.aL hk4 (by omega) (by omega)
       have hs4:=hk4.below.size
       have k4:=k3.trans hk4
       by_cases h7:7<=s.size
       ·go_wp2_with (go_at_call 31;refine (pD hR4 (by omega) (by omega)).mono ?_)
        rintro e w5 ⟨rfl,hR5,hk5⟩
        have hM5:=hM4.aL hk5 (by omega) (by omega)
        have hs5:=hk5.below.size
        have k5:=k4.trans hk5
        have mf3:=hM5.f 3
        have mf4:=hM5.f 4
        have m3:=hM5.c.2.2.2.1
        have m4:=hM5.c.2.2.2.2.1
        have hM6:=(hM5.s3 (fO s (1+2) 3)).s4 (gb s (1+2+3)).toNat
        have hR6:=(hR5.bG (by omega) 3 (I (fO s (1+2) 3)) (B:=w.heap.size)).bG (by omega) 4 (I (gb s (1+2+3)).toNat) (B:=w.heap.size)
        have k6:=(k5.bG hbw (K4 _) 3 (I (fO s (1+2) 3))).bG hbw (K4 _) 4 (I (gb s (1+2+3)).toNat)
        have hs6:=k6.below.size
        by_cases h8:8<=s.size
        ·go_wp2_with (go_at_call 31;refine (pD hR6 (by omega) (by (try simp);omega)).mono ?_)
         rintro e w7 ⟨rfl,hR7,hk7⟩
         have hM7:=hM6.aL hk7 (by omega) (by (try simp);omega)
         have hs7:=hk7.below.size
         simp only [World.size_setCell] at hs7
         have k7:=k6.trans hk7
         by_cases h9:8+(gb s 7).toNat<=s.size
         ·go_wp2_with (go_at_call 32;refine (Bb hR7 (by show 1+2+3+1+1+(gb s 7).toNat<=s.size;omega)).mono ?_)
          rintro e w8 ⟨rfl,hR8,hk8⟩
          have hF':=hF fun h9'=>by have:=h9'.2;omega
          have hs8:=hk8.below.size
          have mf5:=(hM7.aL hk8 (by omega) (by (try simp);omega)).f 5
          have m5:=(hM7.aL hk8 (by omega) (by (try simp);omega)).c.2.2.2.2.2
          have hM8:=(hM7.aL hk8 (by omega) (by (try simp);omega)).s5 (s.extract (1+2+3+1+1) (1+2+3+1+1+(gb s 7).toNat))
          have k8:=(k7.trans hk8).bG hbw (K4 _) 5 (.string (s.extract (1+2+3+1+1) (1+2+3+1+1+(gb s 7).toNat)))
          have hR8':=hR8.bG (by omega) 5 (.string (s.extract (1+2+3+1+1) (1+2+3+1+1+(gb s 7).toNat))) (B:=w.heap.size)
          have hm:(⟨(mid s 2).kind,(mid s 2).op,(mid s 2).node,⟨⟨(fO s (1+2) 3:Int),((gb s (1+2+3)).toNat:Int)⟩,s.extract (1+2+3+1+1) (1+2+3+1+1+(gb s 7).toNat)⟩⟩:aF)=bO s:=by unfold mid bO;rw [K1 hC];rfl
          have hM9':bo w.heap.size (bO s) _:=hm▸hM8
          have m0:=hM9'.c.1
          have m1:=hM9'.c.2.1
          have m2:=hM9'.c.2.2.1
          have m3:=hM9'.c.2.2.2.1
          have m4:=hM9'.c.2.2.2.2.1
          have m5:=hM9'.c.2.2.2.2.2
          have mf0:=hM9'.f 0
          have mf1:=hM9'.f 1
          have mf2:=hM9'.f 2
          have mf3:=hM9'.f 3
          have mf4:=hM9'.f 4
          have mf5:=hM9'.f 5
          go_wp2_with (go_at_call 10;refine (wC (bO s) _).mono ?_)
          rintro e w9 ⟨he,b9⟩
          have hM9:=mn b9 (by (try simp);omega) hM9'
          have hR9:=pG b9 (by (try simp);omega) hR8'
          have k9:=k8.trans (pF b9 (by (try simp);omega))
          clear m0 m1 m2 m3 m4 m5 mf0 mf1 mf2 mf3 mf4 mf5
          have m0:=hM9.c.1
          have m1:=hM9.c.2.1
          have m2:=hM9.c.2.2.1
          have m3:=hM9.c.2.2.2.1
          have m4:=hM9.c.2.2.2.2.1
          have m5:=hM9.c.2.2.2.2.2
          have mf0:=hM9.f 0
          have mf1:=hM9.f 1
          have mf2:=hM9.f 2
          have mf3:=hM9.f 3
          have mf4:=hM9.f 4
          have mf5:=hM9.f 5
          subst he
          by_cases hz:(bO s).aj=0
          ·go_wp2
           exact Bo ((((((hM9.s0 _).s1 _).s2 _).s3 _).s4 _).s5 _) rfl rfl (.Bl (hF'.trans hz) ((((((k9.bG hbw (K4 _) 0 _).bG hbw (K4 _) 1 _).bG hbw (K4 _) 2 _).bG hbw (K4 _) 3 _).bG hbw (K4 _) 4 _).bG hbw (K4 _) 5 _) (by rw [<-Bn hC];exact ((((((hR9.bG (by omega) 0 _).bG (by omega) 1 _).bG (by omega) 2 _).bG (by omega) 3 _).bG (by omega) 4 _).bG (by omega) 5 _)))
          ·go_wp2
           exact ⟨rfl, .bad hF' hz k9⟩
         ·go_wp2_with (go_at_call 32;refine (Bc hR7 (by show ¬1+2+3+1+1+(gb s 7).toNat<=s.size;omega)).mono ?_)
          rintro e w8 ⟨rfl,hk8⟩
          exact ⟨rfl, .bad (hG (.inr (by omega))) (by decide) (k7.trans hk8)⟩
        ·go_wp2_with (go_at_call 31;refine (pE hR6 (by omega)).mono ?_)
         rintro e w7 ⟨rfl,hk7⟩
         exact ⟨rfl, .bad (hG (.inl (by omega))) (by decide) (k6.trans hk7)⟩
       ·go_wp2_with (go_at_call 31;refine (pE hR4 (by omega)).mono ?_)
        rintro e w5 ⟨rfl,hk5⟩
        exact ⟨rfl, .bad (hG (.inl (by omega))) (by decide) (k4.trans hk5)⟩
      ·go_wp2_with (go_at_call 31;refine (Bf (n:=3) hR3 (by omega)).mono ?_)
       rintro e w4 ⟨rfl,hk4⟩
       exact ⟨rfl, .bad (hG (.inl (by omega))) (by decide) (k3.trans hk4)⟩
     ·have hCd:decide (aS ((gb s 0).toNat:Int))=false:=decide_eq_false hC
      rw [hCd] at he
      subst he
      have hF':=hF fun h9=>hC h9.1
      have hm:mid s 2=bO s:=by unfold mid bO;rw [K0 hC];rfl
      rw [hm] at hM3
      have m0:=hM3.c.1
      have m1:=hM3.c.2.1
      have m2:=hM3.c.2.2.1
      have m3:=hM3.c.2.2.2.1
      have m4:=hM3.c.2.2.2.2.1
      have m5:=hM3.c.2.2.2.2.2
      have mf0:=hM3.f 0
      have mf1:=hM3.f 1
      have mf2:=hM3.f 2
      have mf3:=hM3.f 3
      have mf4:=hM3.f 4
      have mf5:=hM3.f 5
      go_wp2_with (go_at_call 10;refine (wC (bO s) _).mono ?_)
      rintro e w9 ⟨he,b9⟩
      have hM9:=mn b9 (by (try simp);omega) hM3
      have hR9:=pG b9 (by (try simp);omega) hR3
      have k9:=k3.trans (pF b9 (by (try simp);omega))
      clear m0 m1 m2 m3 m4 m5 mf0 mf1 mf2 mf3 mf4 mf5
      have m0:=hM9.c.1
      have m1:=hM9.c.2.1
      have m2:=hM9.c.2.2.1
      have m3:=hM9.c.2.2.2.1
      have m4:=hM9.c.2.2.2.2.1
      have m5:=hM9.c.2.2.2.2.2
      have mf0:=hM9.f 0
      have mf1:=hM9.f 1
      have mf2:=hM9.f 2
      have mf3:=hM9.f 3
      have mf4:=hM9.f 4
      have mf5:=hM9.f 5
      subst he
      by_cases hz:(bO s).aj=0
      ·go_wp2
       exact Bo ((((((hM9.s0 _).s1 _).s2 _).s3 _).s4 _).s5 _) rfl rfl (.Bl (hF'.trans hz) ((((((k9.bG hbw (K4 _) 0 _).bG hbw (K4 _) 1 _).bG hbw (K4 _) 2 _).bG hbw (K4 _) 3 _).bG hbw (K4 _) 4 _).bG hbw (K4 _) 5 _) (by rw [<-Bm hC];exact ((((((hR9.bG (by omega) 0 _).bG (by omega) 1 _).bG (by omega) 2 _).bG (by omega) 3 _).bG (by omega) 4 _).bG (by omega) 5 _)))
      ·go_wp2
       exact ⟨rfl, .bad hF' hz k9⟩
  ·have h2:aB s=7:=by unfold aB;rw [K0 (by omega),K1 hk]
   have hkd:decide (jm ((gb s 0).toNat:Int))=false:=decide_eq_false hk
   go_wp2_with (go_at_call 21;refine (Bi _ _).mono ?_)
   rintro e w2 ⟨he,b2⟩
   rw [hkd] at he
   subst he
   have hs1':=k1'.below.size
   have hR2:=pG b2 (by simp;omega) hR1'
   have hM2:=mn b2 (by simp;omega) hM1'
   have k2:=k1'.trans (pF b2 (by simp;omega))
   have hs2:=b2.size
   simp only [World.size_setCell] at hs2
   go_wp2
   exact ⟨rfl, .bad h2 (by decide) k2⟩
 ·go_wp2_with (go_at_call 31;refine (pE hR0 (by omega)).mono ?_)
  rintro e w1 ⟨rfl,hk1⟩
  exact ⟨rfl, .bad (by unfold aB;rw [K1 (by omega)]) (by decide) (hk0.trans hk1)⟩
open Go.ChangeShapes Go.WideShapes Go.ChangeAt Go.RowKit
open Go.ChangeMaps (open_string shut_string)
theorem JD (v:Value) (w:World):(Instr.typeAssert (.iface 57 v) 20 57 true).run Try.prog w= .ok (.tuple #[v, .bool true]) w:=by
 simp [Instr.typeAssert,run_underlying Try.underlying57,go_sem,Result.andThen]
theorem JE (p:Addr) (x y:Int) (older:List PanicEntry) (w:World) (hc:w.cell? p=some (.int .i64 y)) (hz:w.frozen? p=false) (hp:p.block<w.heap.size):
  CallsD Try.prog 30 #[.pointer (some p)] (.panicking ({ v:= .iface 57 (.agg #[.int .i64 x]),recovered:=false }::older)) w fun e u' w'=>
   e= .returned (.tuple #[])/\u'= .panicking ({ v:= .iface 57 (.agg #[.int .i64 x]),recovered:=true }::older)/\w'=(w.alloc (.cells #[.int .i64 x] 57)).setCell p (.int .i64 x):=by
 refine callsD_of_wpS Try.func30 rfl fun c₀ cs hu=> ?_
 have hta:=fun v w=>JD v w
 have ht:(#[Value.pointer (some p)]++Array.replicate (Try.f30.ntmps - #[Value.pointer (some p)].size) undef)= #[Value.pointer (some p),undef,undef,undef,undef,undef,undef,undef,undef,undef,undef,undef]:=by
  rw [Try.ntmps30];rfl
 rw [ht]
 have hc2:(w.alloc (.cells #[.int .i64 x] 57)).cell? p=some (.int .i64 y):=(World.cell?_of_block (LC _ _ _ hp)).trans hc
 have hz2:(w.alloc (.cells #[.int .i64 x] 57)).frozen? p=false:=(World.frozen?_of_block (LC _ _ _ hp)).trans hz
 apply wpS_seq
 apply wpS_region
 simp [wpOpsS,go_sem,recoverD,hu,Try.ntmps30,Exit.thenS]
 refine wpS_of_wp ?_
 go_wp2
 cases c₀
 simp_all [bodyPostS,results,Try.results30]
theorem JF (p:Addr) (w:World):
  CallsD Try.prog 30 #[.pointer (some p)] .returning w fun e u' w'=>e= .returned (.tuple #[])/\u'= .returning/\w'=w:=by
 refine callsD_of_wpS Try.func30 rfl fun c₀ cs hu=> ?_
 have ht:(#[Value.pointer (some p)]++Array.replicate (Try.f30.ntmps - #[Value.pointer (some p)].size) undef)= #[Value.pointer (some p),undef,undef,undef,undef,undef,undef,undef,undef,undef,undef,undef]:=by
  rw [Try.ntmps30];rfl
 rw [ht]
 apply wpS_seq
 apply wpS_region
 simp [wpOpsS,go_sem,recoverD,hu,Try.ntmps30,Exit.thenS]
 refine wpS_of_wp ?_
 go_wp2
 cases c₀
 simp_all [bodyPostS,results,Try.results30]
def Cl (R b M:Nat) (s:ByteArray) (m:aF) (w:World):Prop:=w.heap[R]? =some (.cells #[.pointer (some ⟨b,0,none⟩)] 49 (0,0))/\Rd b s 0 w/\bo M m w
def su (W0 b M:Nat) (s:ByteArray) (m:aF) (w:World) (e:Ending) (w':World):Prop:=(if aB s=0 then e= .returned (.tuple #[])/\Rd b s (cP s) w'/\bo M (bO s) w' else e=mj (aB s)/\bo M m w')/\Below W0 w w'/\(∀k,k<w.heap.size->k≠b->k≠M->w'.heap[k]? =w.heap[k]?)
def sv (W0 b M:Nat) (s:ByteArray) (m:aF) (w:World) (e:Ending) (w':World):Prop:=e= .returned (.int .i64 (aB s))/\(if aB s=0 then Rd b s (cP s) w'/\bo M (bO s) w' else bo M m w')/\(∀k,k<w.heap.size->k≠b->k≠M->w'.heap[k]? =w.heap[k]?)/\Below W0 w w'
theorem JG (h:Cl R b M s m w) (hbw:b<w.heap.size) (hMw:M<w.heap.size) (hRw:R<w.heap.size) (h1:M<b) (h2:b<R) (h0:W0<=M):Calls Try.prog 25 #[.pointer (some ⟨R,0,none⟩), .pointer (some ⟨M,0,none⟩)] w (su W0 b M s m w):=by
 obtain ⟨hR,hd,hM⟩:=h
 have c0:w.cell? ⟨R,0,none⟩=some (.pointer (some ⟨b,0,none⟩)):=by simp [World.cell?,hR]
 go_enter Try.func25,Try.ntmps25
 go_wp2_with (go_at_call 26;refine (JC hd hbw).mono ?_)
 rintro e w1 ⟨hE,hk⟩
 have hM1:=hM.aL hk (by omega) hMw
 by_cases hz:aB s=0
 ·rw [K1 hz] at hE
  obtain ⟨rfl,hR1⟩:=hE
  have m0:=hM1.c.1
  have m1:=hM1.c.2.1
  have m2:=hM1.c.2.2.1
  have m3:=hM1.c.2.2.2.1
  have m4:=hM1.c.2.2.2.2.1
  have m5:=hM1.c.2.2.2.2.2
  have mf0:=hM1.f 0
  have mf1:=hM1.f 1
  have mf2:=hM1.f 2
  have mf3:=hM1.f 3
  have mf4:=hM1.f 4
  have mf5:=hM1.f 5
  go_wp2
  have hB:Below W0 w ((((((w1.setCell ⟨M,0,none⟩ (I (bO s).kind)).setCell ⟨M,1,none⟩ (I (bO s).op)).setCell ⟨M,2,none⟩ (I (bO s).node)).setCell ⟨M,3,none⟩ (I (bO s).copy.at_.time)).setCell ⟨M,4,none⟩ (I (bO s).copy.at_.who)).setCell ⟨M,5,none⟩ (.string (bO s).copy.data)):=((((((hk.below.mono (by omega)).setCell (p:=⟨M,0,none⟩) h0 _).setCell (p:=⟨M,1,none⟩) h0 _).setCell (p:=⟨M,2,none⟩) h0 _).setCell (p:=⟨M,3,none⟩) h0 _).setCell (p:=⟨M,4,none⟩) h0 _).setCell (p:=⟨M,5,none⟩) h0 _
  go_end0
  unfold su
  rw [K1 hz]
  refine ⟨⟨rfl,(((((hR1.bG (by omega) 0 _).bG (by omega) 1 _).bG (by omega) 2 _).bG (by omega) 3 _).bG (by omega) 4 _).bG (by omega) 5 _,(((((hM1.s0 _).s1 _).s2 _).s3 _).s4 _).s5 _⟩,hB,fun k hk1 hk2 hk3=> ?_⟩
  rw [Mc _ _ _ _ (by exact hk3),Mc _ _ _ _ (by exact hk3),Mc _ _ _ _ (by exact hk3),Mc _ _ _ _ (by exact hk3),Mc _ _ _ _ (by exact hk3),Mc _ _ _ _ (by exact hk3)]
  exact hk.aL k hk1 hk2
 ·rw [K0 hz] at hE
  subst hE
  refine ⟨rfl, ?_⟩
  unfold su
  rw [K0 hz]
  exact ⟨⟨rfl,hM1⟩,hk.below.mono (by omega),fun k hk1 hk2 _=>hk.aL k hk1 hk2⟩
theorem JH (h:Cl R b M s m w) (hbw:b<w.heap.size) (hMw:M<w.heap.size) (hRw:R<w.heap.size) (h1:M<b) (h2:b<R) (h0:W0<=M):Calls Try.prog 24 #[.func (.func 25) #[] #[.pointer (some ⟨R,0,none⟩), .pointer (some ⟨M,0,none⟩)]] w (sv W0 b M s m w):=by
 have hmf:∀(f:FuncId) (first cap:Array Value) (w:World),(Instr.makeFunc (.func f) first cap).run Try.prog w= .ok (.func (.func f) first cap) w:=fun _ _ _ _=>rfl
 have hold:∀k,k<w.heap.size->(w.alloc (.cells #[.int .i64 0] 28)).heap[k]? =w.heap[k]? :=fun k hk=>LC _ _ _ hk
 have hsz:(w.alloc (.cells #[.int .i64 0] 28)).heap.size=w.heap.size+1:=by simp
 have hC:Cl R b M s m (w.alloc (.cells #[.int .i64 0] 28)):=⟨(hold R hRw).trans h.1,⟨(hold b hbw).trans h.2.1.1,h.2.1.2⟩,(hold M hMw).trans h.2.2⟩
 go_enter_defers Try.func24,Try.ntmps24
 go_wp2_with (go_at_call 25;refine (JG (W0:=W0) hC (by omega) (by omega) (by omega) h1 h2 h0).mono ?_)
 intro e w1 hX
 unfold su at hX
 obtain ⟨hE,hB,ho⟩:=hX
 have hsz1:=hB.size
 have hP:w1.heap[w.heap.size]? =some (.cells #[.int .i64 0] 28 (0,0)):=(ho w.heap.size (by omega) (by omega) (by omega)).trans (MJ w _)
 have p0:w1.cell? ⟨w.heap.size,0,none⟩=some (.int .i64 0):=by simp [World.cell?,hP]
 have pf0:w1.frozen? ⟨w.heap.size,0,none⟩=false:=by simp [World.frozen?,hP]
 by_cases hz:aB s=0
 ·rw [K1 hz] at hE
  obtain ⟨rfl,hR1,hM1⟩:=hE
  go_wp2
  refine leaves_cons (f:=30) (args:= #[.pointer (some ⟨w.heap.size,0,none⟩)]) (by simp) (by simp [go_sem]) ?_
  refine (JF ⟨w.heap.size,0,none⟩ _).mono ?_
  rintro e u' w'' ⟨rfl,rfl,rfl⟩
  have q0:(w1.setCell ⟨w.heap.size,0,none⟩ (.int .i64 0)).cell? ⟨w.heap.size,0,none⟩=some (.int .i64 0):=by simp [World.cell?,World.setCell,Mz,hP]
  simp [Leaves,settle,results,Try.results24,go_sem,q0]
  unfold sv
  rw [K1 hz,hz]
  exact ⟨rfl,⟨hR1.bG (by omega) 0 _,(Mc _ _ _ _ (by show M≠w.heap.size;omega)).trans hM1⟩,fun k hk1 hk2 hk3=>(Mc _ _ _ _ (by show k≠w.heap.size;omega)).trans ((ho k (by omega) hk2 hk3).trans (hold k hk1)),(((LN _ w).alloc (by omega) _).trans hB).setCell (p:=⟨w.heap.size,0,none⟩) (by show W0<=w.heap.size;omega) _⟩
 ·rw [K0 hz] at hE
  obtain ⟨rfl,hM1⟩:=hE
  unfold mj
  go_wp2
  refine leaves_cons (f:=30) (args:= #[.pointer (some ⟨w.heap.size,0,none⟩)]) (by simp) (by simp [go_sem]) ?_
  refine (JE ⟨w.heap.size,0,none⟩ (aB s) 0 [] _ p0 pf0 (by show w.heap.size<_;omega)).mono ?_
  rintro e u' w'' ⟨rfl,rfl,rfl⟩
  have hP2:(w1.alloc (.cells #[.int .i64 (aB s)] 57)).heap[w.heap.size]? =some (.cells #[.int .i64 0] 28 (0,0)):=(LC _ _ _ (by omega)).trans hP
  have q0:((w1.alloc (.cells #[.int .i64 (aB s)] 57)).setCell ⟨w.heap.size,0,none⟩ (.int .i64 (aB s))).cell? ⟨w.heap.size,0,none⟩=some (.int .i64 (aB s)):=by simp [World.cell?,World.setCell,Mz,hP2]
  simp [Leaves,settle,results,Try.results24,go_sem,q0]
  unfold sv
  rw [K0 hz]
  exact ⟨rfl,(Mc _ _ _ _ (by show M≠w.heap.size;omega)).trans ((LC _ _ _ (by omega)).trans hM1),fun k hk1 hk2 hk3=>(Mc _ _ _ _ (by show k≠w.heap.size;omega)).trans ((LC _ _ _ (by omega)).trans ((ho k (by omega) hk2 hk3).trans (hold k hk1))),((((LN _ w).alloc (by omega) _).trans hB).alloc (by omega) _).setCell (p:=⟨w.heap.size,0,none⟩) (by show W0<=w.heap.size;omega) _⟩
def aq (s:ByteArray):aF:=if aB s=0 then bO s else ⟨0,0,0,⟨⟨0,0⟩,⟨#[]⟩⟩⟩
def aG (s:ByteArray):Int:=if aB s=0 then cP s else 0
theorem bo.drew {B:Nat} {m:aF} {w:World} (h:bo B m w):bo B m w.drew:=h
theorem Bp {B:Nat} {x y:Value} {R:Ending->World->Prop} (hM:bo B m w') (hd:a.defers=[]) (h2:a.tmps[2]?.getD undef= .pointer (some ⟨B,0,none⟩)) (h3:a.tmps[3]?.getD undef=x) (h4:a.tmps[4]?.getD undef=y) (hP:R (.returned (.tuple #[m.v,x,y])) w'):bodyPost Try.prog Try.f12 R .ret a w':=by
 obtain ⟨m0,m1,m2,m3,m4,m5⟩:=hM.c
 refine ⟨hd,_, ?_,hP⟩
 simp [results,Try.results12,go_sem,h2,h3,h4,m0,m1,m2,m3,m4,m5]
theorem JI (s:ByteArray) (hs:s.size<=9223372036854775807) (w:World):Calls Try.prog 12 #[.string s] w fun e w'=>e= .returned (.tuple #[(aq s).v, .int .i64 (aG s), .int .i64 (aB s)])/\Below w.heap.size w w':=by
 have hmf:∀(f:FuncId) (first cap:Array Value) (w:World),(Instr.makeFunc (.func f) first cap).run Try.prog w= .ok (.func (.func f) first cap) w:=fun _ _ _ _=>rfl
 go_enter Try.func12,Try.ntmps12
 have hCl:Cl (w.heap.size+1+1) (w.heap.size+1) w.heap.size s ⟨0,0,0,⟨⟨0,0⟩,⟨#[]⟩⟩⟩ (((w.alloc (.cells #[.int .i64 0, .int .i64 0, .int .i64 0, .int .i64 0, .int .i64 0, .string ⟨#[]⟩] 27)).alloc (.cells #[.string s, .int .i64 0] 51)).alloc (.cells #[.pointer (some ⟨w.heap.size+1,0,none⟩)] 49)):=by
  refine ⟨?_,⟨?_,by omega,hs⟩, ?_⟩
  ·have:=MJ ((w.alloc (.cells #[.int .i64 0, .int .i64 0, .int .i64 0, .int .i64 0, .int .i64 0, .string ⟨#[]⟩] 27)).alloc (.cells #[.string s, .int .i64 0] 51)) (.cells #[.pointer (some ⟨w.heap.size+1,0,none⟩)] 49)
   simpa using this
  ·refine (LC _ _ _ (by simp)).trans ?_
   have:=MJ (w.alloc (.cells #[.int .i64 0, .int .i64 0, .int .i64 0, .int .i64 0, .int .i64 0, .string ⟨#[]⟩] 27)) (.cells #[.string s, .int .i64 0] 51)
   simpa using this
  ·refine (LC _ _ _ (by simp;omega)).trans ((LC _ _ _ (by simp)).trans ?_)
   exact MJ w _
 have hsz:(((w.alloc (.cells #[.int .i64 0, .int .i64 0, .int .i64 0, .int .i64 0, .int .i64 0, .string ⟨#[]⟩] 27)).alloc (.cells #[.string s, .int .i64 0] 51)).alloc (.cells #[.pointer (some ⟨w.heap.size+1,0,none⟩)] 49)).heap.size=w.heap.size+3:=by simp
 have hbl:Below w.heap.size w (((w.alloc (.cells #[.int .i64 0, .int .i64 0, .int .i64 0, .int .i64 0, .int .i64 0, .string ⟨#[]⟩] 27)).alloc (.cells #[.string s, .int .i64 0] 51)).alloc (.cells #[.pointer (some ⟨w.heap.size+1,0,none⟩)] 49)):=(((LN _ w).alloc (K4 _) _).alloc (by simp) _).alloc (by simp;omega) _
 have hca:=JH (W0:=w.heap.size) hCl (by omega) (by omega) (by omega) (by omega) (by omega) (K4 _)
 go_wp2_with (go_at_call 24;refine hca.mono ?_)
 intro e w1 hX
 unfold sv at hX
 obtain ⟨rfl,hE,ho,hB⟩:=hX
 have hR:w1.heap[w.heap.size+1+1]? =some (.cells #[.pointer (some ⟨w.heap.size+1,0,none⟩)] 49 (0,0)):=(ho (w.heap.size+1+1) (by omega) (by omega) (by omega)).trans hCl.1
 have hB1:=hbl.trans hB
 clear hCl hbl hca ho hB
 have r0:w1.cell? ⟨w.heap.size+1+1,0,none⟩=some (.pointer (some ⟨w.heap.size+1,0,none⟩)):=by simp [World.cell?,hR]
 by_cases hz:aB s=0
 ·rw [K1 hz] at hE
  obtain ⟨hR1,hM1⟩:=hE
  have m0:=hM1.c.1
  have m1:=hM1.c.2.1
  have m2:=hM1.c.2.2.1
  have m3:=hM1.c.2.2.2.1
  have m4:=hM1.c.2.2.2.2.1
  have m5:=hM1.c.2.2.2.2.2
  have mf0:=hM1.f 0
  have mf1:=hM1.f 1
  have mf2:=hM1.f 2
  have mf3:=hM1.f 3
  have mf4:=hM1.f 4
  have mf5:=hM1.f 5
  have u1:w1.cell? ⟨w.heap.size+1,1,none⟩=some (.int .i64 (cP s:Int)):=by have:=hR1.1;simp [World.cell?,this]
  rw [hz]
  go_wp2
  go_region
  go_wp2
  refine Bp (m:=bO s) (x:=I (cP s)) (y:=I 0) ((((((hM1.s0 (bO s).kind).s1 (bO s).op).s2 (bO s).node).s3 (bO s).copy.at_.time).s4 (bO s).copy.at_.who).s5 (bO s).copy.data).drew rfl rfl rfl rfl ⟨?_,((((((hB1.setCell (p:=⟨w.heap.size,0,none⟩) (K4 _) _).setCell (p:=⟨w.heap.size,1,none⟩) (K4 _) _).setCell (p:=⟨w.heap.size,2,none⟩) (K4 _) _).setCell (p:=⟨w.heap.size,3,none⟩) (K4 _) _).setCell (p:=⟨w.heap.size,4,none⟩) (K4 _) _).setCell (p:=⟨w.heap.size,5,none⟩) (K4 _) _).drew⟩
  unfold aq aG
  rw [K1 hz,K1 hz,hz]
 ·rw [K0 hz] at hE
  have m0:=hE.c.1
  have m1:=hE.c.2.1
  have m2:=hE.c.2.2.1
  have m3:=hE.c.2.2.2.1
  have m4:=hE.c.2.2.2.2.1
  have m5:=hE.c.2.2.2.2.2
  have mf0:=hE.f 0
  have mf1:=hE.f 1
  have mf2:=hE.f 2
  have mf3:=hE.f 3
  have mf4:=hE.f 4
  have mf5:=hE.f 5
  go_wp2
  refine Bp (m:=⟨0,0,0,⟨⟨0,0⟩,⟨#[]⟩⟩⟩) (x:=I 0) (y:=I (aB s)) ((((((hE.s0 0).s1 0).s2 0).s3 0).s4 0).s5 ⟨#[]⟩) rfl rfl rfl rfl ⟨?_,(((((hB1.setCell (p:=⟨w.heap.size,0,none⟩) (K4 _) _).setCell (p:=⟨w.heap.size,1,none⟩) (K4 _) _).setCell (p:=⟨w.heap.size,2,none⟩) (K4 _) _).setCell (p:=⟨w.heap.size,3,none⟩) (K4 _) _).setCell (p:=⟨w.heap.size,4,none⟩) (K4 _) _).setCell (p:=⟨w.heap.size,5,none⟩) (K4 _) _⟩
  unfold aq aG
  rw [K0 hz,K0 hz]
open Go.ChangeShapes Go.WideShapes Go.ChangeAt Go.RowKit
open Go.ChangeMaps (open_string shut_string)
theorem bo.new {B:Nat} (h:bo B m w) (o:Obj):bo B m (w.alloc o):=(LC _ _ _ (LQ.1 h).1).trans h
abbrev y8 (x:Int):Value:= .int .u8 (x%256)
def b8 (x:Int):UInt8:=UInt8.ofNat (x%256).toNat
theorem Bq (x:Int):y8 x= .int .u8 (b8 x).toNat:=by
 unfold y8 b8
 simp
 omega
def ko (m:aF):List UInt8:=[b8 m.kind,b8 m.op,b8 m.node]++if aS m.kind then [b8 (m.copy.at_.time / 65536),b8 (m.copy.at_.time / 256),b8 m.copy.at_.time,b8 m.copy.at_.who,b8 m.copy.data.size]++m.copy.data.data.toList else []
def b0 (m:aF):ByteArray:=if m.aj=0 then ⟨(ko m).toArray⟩ else ⟨#[]⟩
theorem JJ:(Try.prog.info? 5).map (fun i=>(i.zero,i.size,i.bytes))=some (some (.int .u8 0),1,1):=by kernel_rfl
theorem JK (h:m.aj=0):m.copy.data.size<=64:=by
 unfold aF.aj cq.aj at h
 grind
theorem Br {B:Nat} {l:List UInt8} (h:w.ownsRowF B 5 1 v n (Lib.byteCells l)) (hn:0<n):(convert 43 9 v).run Try.prog w= .ok (.string ⟨l.toArray⟩) w:=by
 have hl:n=l.length:=by have:=h.1;rw [Lib.byteCells_length] at this;omega
 rcases h.2 with ⟨_,h0⟩|⟨g,cap,cur,fz,rfl,hB,hg,_,hc,_,hsz,ht⟩
 ·omega
 ·subst hl
  refine run_convert_bytes_back w 43 9 5 ⟨g,0,none⟩ cap l Try.underlying43 Try.underlying5 Try.underlying9 fun j hj=> ?_
  have e:(cur.toList.take (l.length*1))[j]? =cur.toList[j]? :=List.getElem?_take_of_lt (by omega)
  rw [ht] at e
  have e2:cur[j]? =some (.int .u8 (l[j].toNat:Int)):=by
   rw [<-Array.getElem?_toList, <-e]
   simp [Lib.byteCells,hj]
  rw [show (⟨g,0,none⟩:Addr).add j=⟨g,j,none⟩ by cases j<;>simp [Addr.add]]
  simp [World.cell?,hg,e2]
theorem JL (m:aF) (w:World):Calls Try.prog 7 #[m.v] w fun e w'=>e= .returned (.tuple #[.string (b0 m),I m.aj])/\Below w.heap.size w w':=by
 have hM0:bo w.heap.size m (w.alloc (.cells #[I m.kind,I m.op,I m.node,I m.copy.at_.time,I m.copy.at_.who, .string m.copy.data] 27)):=MJ w _
 have hs0:(w.alloc (.cells #[I m.kind,I m.op,I m.node,I m.copy.at_.time,I m.copy.at_.who, .string m.copy.data] 27)).heap.size=w.heap.size+1:=by simp
 have hb0:Below w.heap.size w (w.alloc (.cells #[I m.kind,I m.op,I m.node,I m.copy.at_.time,I m.copy.at_.who, .string m.copy.data] 27)):=(LN _ w).alloc (K4 _) _
 obtain ⟨i0,hi,hz0,hz1,hz2⟩:=info_parts JJ
 go_enter Try.func7,Try.ntmps7
 go_wp2_with (go_at_call 10;refine (wC m _).mono ?_)
 rintro e w1 ⟨rfl,b1⟩
 have hM1:=mn b1 (by omega) hM0
 have k1:=hb0.trans (b1.mono (by omega))
 have hs1:=b1.size
 have m0:=hM1.c.1
 have m1:=hM1.c.2.1
 have m2:=hM1.c.2.2.1
 have m3:=hM1.c.2.2.2.1
 have m4:=hM1.c.2.2.2.2.1
 have m5:=hM1.c.2.2.2.2.2
 by_cases hz:m.aj=0
 ·rw [hz]
  have hM2:=hM1.new (.cells #[y8 m.kind,y8 m.op,y8 m.node] 5)
  have n0:=hM2.c.1
  have n3:=hM2.c.2.2.2.1
  have n4:=hM2.c.2.2.2.2.1
  have n5:=hM2.c.2.2.2.2.2
  have hM3:=hM2.new (.cells #[I m.copy.at_.time,I m.copy.at_.who, .string m.copy.data] 25)
  have q0:=hM3.c.1
  go_wp2_with (go_at_call 17;refine (Bh _ _).mono ?_)
  rintro e w4 ⟨he,b4⟩
  have hM4:=mn b4 (by simp;omega) hM3
  have hs4:=b4.size
  simp only [World.size_alloc] at hs4
  have hc4:w4.heap[w1.heap.size+1]? =some (.cells #[I m.copy.at_.time,I m.copy.at_.who, .string m.copy.data] 25 (0,0)):=(b4.block _ (by simp)).trans (by
   have:=MJ (w1.alloc (.cells #[y8 m.kind,y8 m.op,y8 m.node] 5)) (.cells #[I m.copy.at_.time,I m.copy.at_.who, .string m.copy.data] 25)
   simpa using this)
  have ho4:w4.heap[w1.heap.size]? =some (.cells #[y8 m.kind,y8 m.op,y8 m.node] 5 (0,0)):=(b4.block _ (by simp;omega)).trans ((LC _ _ _ (by simp)).trans (MJ w1 _))
  have k4:Below w.heap.size w w4:=((k1.alloc (by omega) _).alloc (by simp;omega) _).trans (b4.mono (by simp;omega))
  have t0:w4.cell? ⟨w1.heap.size+1,0,none⟩=some (I m.copy.at_.time):=by simp [World.cell?,hc4]
  have t1:w4.cell? ⟨w1.heap.size+1,1,none⟩=some (I m.copy.at_.who):=by simp [World.cell?,hc4]
  have t2:w4.cell? ⟨w1.heap.size+1,2,none⟩=some (.string m.copy.data):=by simp [World.cell?,hc4]
  clear n0 n3 n4 n5 q0 m0 m1 m2 m3 m4 m5 hM0 hb0
  by_cases hC:aS m.kind
  ·rw [decide_eq_true hC] at he
   subst he
   have hO:w4.ownsRowF w.heap.size 5 1 (.slice (some ⟨w1.heap.size,0,none⟩) 3 3) 3 [y8 m.kind,y8 m.op,y8 m.node]:=⟨rfl, .inr ⟨w1.heap.size,3,_,(0,0),rfl,by omega,ho4,by decide,by decide,by decide,rfl,rfl⟩⟩
   go_wp2_with (at_builtin;refine wpList_append_ownF _ rfl _ _ 43 rfl w.heap.size 5 i0 (.int .u8 0) 1 1 Try.underlying43 hi hz0 hz1 hz2 rfl (by decide) _ _ _ rfl (hO.alloc _) ⟨w4.heap.size,0,none⟩ 5 5 [y8 (m.copy.at_.time / 65536),y8 (m.copy.at_.time / 256),y8 m.copy.at_.time,y8 m.copy.at_.who,y8 m.copy.data.size] rfl rfl ?c1 ?c2 ?c3 ?c4 ?c5 ?_)
   case c1=>
    intro j u hj
    match j,hj with
    |0,hj=>simp at hj;subst hj;simp [Addr.add]
    |1,hj=>simp at hj;subst hj;simp [Addr.add]
    |2,hj=>simp at hj;subst hj;simp [Addr.add]
    |3,hj=>simp at hj;subst hj;simp [Addr.add]
    |4,hj=>simp at hj;subst hj;simp [Addr.add]
   case c2=>intro u hu;simp at hu;rcases hu with rfl|rfl|rfl|rfl|rfl<;>rfl
   case c3=>decide
   case c4=>decide
   case c5=>simp;omega
   intro v' w5 hO5 hgr _
   have hl64:=JK hz
   have hs5:=hgr.size
   simp only [World.size_alloc,World.size_drew] at hs5
   have hc5:w5.heap[w1.heap.size+1]? =some (.cells #[I m.copy.at_.time,I m.copy.at_.who, .string m.copy.data] 25 (0,0)):=by
    rw [hgr.block (w1.heap.size+1) (by simp;omega) (by simp [Value.ownBlock])]
    exact (LC _ _ _ (by omega)).trans hc4
   have t5:w5.cell? ⟨w1.heap.size+1,2,none⟩=some (.string m.copy.data):=by simp [World.cell?,hc5]
   have k5:Below w.heap.size w w5:=(k4.alloc (by omega) _).grown hgr (by simp;omega) (fun k hk=>by have:w1.heap.size=k:=Option.some.inj hk;omega)
   obtain ⟨g,cap,rfl,hg⟩:∃g cap,v'= .slice (some ⟨g,0,none⟩) 8 cap/\w.heap.size<=g:=by
    rcases hO5.2 with ⟨_,h0⟩|⟨g,cap,cur,fz,hv,hB,_⟩
    ·omega
    ·exact ⟨g,cap,hv,hB⟩
   go_wp2_with (at_builtin;refine Lib.wpList_append_own_stringF _ rfl _ _ 43 9 rfl w.heap.size 5 i0 Try.underlying43 Try.underlying9 hi hz0 hz1 hz2 _ 8 _ rfl hO5 m.copy.data rfl ?d1 ?d2 ?d3 ?_)
   case d1=>unfold maxLen;omega
   case d2=>omega
   case d3=>omega
   intro v2 w6 hO6 hgr6 _
   have k6:Below w.heap.size w w6:=k5.grown hgr6 (by omega) (fun k hk=>by have:g=k:=Option.some.inj hk;omega)
   have hO7:w6.ownsRowF w.heap.size 5 1 v2 (8+m.copy.data.size) (Lib.byteCells (ko m)):=by
    have e:[y8 m.kind,y8 m.op,y8 m.node]++[y8 (m.copy.at_.time / 65536),y8 (m.copy.at_.time / 256),y8 m.copy.at_.time,y8 m.copy.at_.who,y8 m.copy.data.size]++Lib.strCells m.copy.data=Lib.byteCells (ko m):=by
     unfold ko
     rw [K1 hC]
     simp only [Bq]
     simp [Lib.byteCells,Lib.strCells]
    rw [<-e]
    exact hO6
   have hcv:=Br hO7 (by omega)
   go_wp2
   go_ret2
   unfold b0
   rw [K1 hz,hz]
   exact ⟨rfl,k6⟩
  ·rw [decide_eq_false hC] at he
   subst he
   have hO:w4.ownsRowF w.heap.size 5 1 (.slice (some ⟨w1.heap.size,0,none⟩) 3 3) 3 (Lib.byteCells (ko m)):=by
    have e:[y8 m.kind,y8 m.op,y8 m.node]=Lib.byteCells (ko m):=by
     unfold ko
     rw [K0 hC]
     simp only [Bq]
     simp [Lib.byteCells]
    rw [<-e]
    exact ⟨rfl, .inr ⟨w1.heap.size,3,_,(0,0),rfl,by omega,ho4,by decide,by decide,by decide,rfl,rfl⟩⟩
   have hcv:=Br hO (by omega)
   go_wp2
   go_ret2
   unfold b0
   rw [K1 hz,hz]
   exact ⟨rfl,k4⟩
 ·go_wp2
  go_ret2
  unfold b0
  rw [K0 hz]
  exact ⟨rfl,k1⟩
open Go.ChangeShapes Go.WideShapes Go.ChangeAt Go.RowKit
open Go.ChangeMaps (open_string shut_string)
theorem Bs:∀{vs:List Value} {ws:Array Value},RC E ws (vs.map AV.v)->ws=vs.toArray:=by
 intro vs ws h
 apply Array.ext
 ·simpa using h.1
 ·intro i h1 h2
  have h3:i<vs.length:=by simpa using h2
  have:=h.2 i ws[i] (.v vs[i]) (Lg h1) (by rw [Lu,Lj h3];rfl)
  generalize hq:ws[i]=q at this
  generalize hp:vs[i]=p at this
  have e:q=p:=by cases this with|v h=>rfl
  rw [e, <-hp];simp
theorem JM {vs:List Value} {ws:Array Value} (h:RC E ws [.agg (vs.map AV.v)]):ws= #[.agg vs.toArray]:=by
 obtain ⟨h1,h2⟩:=h
 obtain ⟨x,rfl⟩:∃x,ws= #[x]:=by
  have:ws.size=1:=h1
  refine ⟨ws[0], ?_⟩
  apply Array.ext
  ·simpa using this
  ·intro i h3 h4
   obtain rfl:i=0:=by omega
   rfl
 have h3:=h2 0 x _ rfl rfl
 generalize hc:(AV.agg (vs.map AV.v))=c at h3
 cases h3 with
 |agg hl hr=>
  cases hc
  rw [Bs ⟨hl,hr⟩]
 |_=>cases hc
theorem JN {a b:Value} (ha:af E a x) (hb:af E b y):af E (.tuple #[a,b]) (.aJ [x,y]):=by
 refine .aJ rfl fun i v c hv hc=> ?_
 match i with
 |0=>simp at hv hc;subst hv;subst hc;exact ha
 |1=>simp at hv hc;subst hv;subst hc;exact hb
 |i+2=>simp at hc
theorem JO {a b d:Value} {z:AV} (ha:af E a x) (hb:af E b y) (hd:af E d z):af E (.tuple #[a,b,d]) (.aJ [x,y,z]):=by
 refine .aJ rfl fun i v c hv hc=> ?_
 match i with
 |0=>simp at hv hc;subst hv;subst hc;exact ha
 |1=>simp at hv hc;subst hv;subst hc;exact hb
 |2=>simp at hv hc;subst hv;subst hc;exact hd
 |i+3=>simp at hc
def Bt:bZ Tc Tc.dn:=⟨7,[.ty .gp],fun _=>True,[.fp, .cT],fun x=>(b0 x.1,x.1.aj)⟩
theorem JP:Bt.Ok Try.prog tD:=⟨by kernel_rfl,fun x N _ w J ws hJ hG b6=>by
 rw [JM (vs:=[I x.1.kind,I x.1.op,I x.1.node,I x.1.copy.at_.time,I x.1.copy.at_.who, .string x.1.copy.data]) b6]
 exact (JL x.1 w).mono fun e w' ⟨h1,h2⟩=>⟨_,h1,JN (.v rfl) (.v rfl),h2⟩⟩
def sw:bZ Tc Tc.dn:=⟨12,[.ty .fp],fun x=>(x.1:ByteArray).size<=9223372036854775807,[.gp, .cT, .cT],fun x=>(aq x.1,aG x.1,aB x.1)⟩
theorem wD:sw.Ok Try.prog tD:=⟨by kernel_rfl,fun x N hp w J ws hJ hG b6=>by
 rw [Bs (vs:=[.string x.1]) b6]
 exact (JI x.1 hp w).mono fun e w' ⟨h1,h2⟩=>⟨_,h1,JO (Bg [I (aq x.1).kind,I (aq x.1).op,I (aq x.1).node,I (aq x.1).copy.at_.time,I (aq x.1).copy.at_.who, .string (aq x.1).copy.data] (by simp [plainV])) (.v rfl) (.v rfl),h2⟩⟩
open Go.RowKit
theorem pH (d:ByteArray):d.size=0↔d=ByteArray.mk #[]:=by
 constructor
 ·intro h
  obtain ⟨l⟩:=d
  rw [show l= #[] from Array.size_eq_zero_iff.1 h]
 ·intro h;rw [h];rfl
theorem wE (h:aB s=0):3<=cP s/\cP s<=s.size:=by
 unfold aB at h
 unfold cP
 split at h
 ·simp at h
 ·split at h
  ·simp at h
  ·split at h
   ·simp at h
   ·split<;>omega
def cF:Nat->Int->ByteArray->List aF×Int
 |0,_,_=>([],0)
 |f+1,k,s=>if s.size=0 then ([],0) else if aB s≠0 then ([],aB s) else if k=64 then ([],2) else
  if (cF f (k+1) (s.extract (cP s) s.size)).2=0 then (bO s::(cF f (k+1) (s.extract (cP s) s.size)).1,0) else ([],(cF f (k+1) (s.extract (cP s) s.size)).2)
def dN (s:ByteArray):List aF×Int:=cF (s.size+1) 0 s
theorem wF (s:ByteArray) (n:Nat) (h:n<=s.size):(s.extract n s.size).size=s.size - n:=by simp
theorem wG:∀(f:Nat) (k:Int) (s:ByteArray),s.size+1<=f->cF f k s=cF (s.size+1) k s
 |0,k,s,h=>by omega
 |f+1,k,s,h=>by
  unfold cF
  by_cases h0:s.size=0
  ·simp only [K1 h0]
  ·simp only [K0 h0]
   by_cases h1:aB s≠0
   ·simp only [K1 h1]
   ·simp only [K0 h1]
    have h2:=wE (Decidable.not_not.1 h1)
    have h3:=wF s (cP s) h2.2
    have e1:=wG f (k+1) (s.extract (cP s) s.size) (by omega)
    have e2:=wG s.size (k+1) (s.extract (cP s) s.size) (by omega)
    rw [e1,e2]
 termination_by f=>f
 decreasing_by all_goals omega
theorem JQ:∀(f:Nat) (k:Int) (s:ByteArray),(cF f k s).2≠0->(cF f k s).1=[]
 |0,k,s,h=>rfl
 |f+1,k,s,h=>by
  unfold cF at h ⊢
  (repeat' split)<;>(try rfl)
  simp_all
structure b5 (s0 u:ByteArray) (out:List aF):Prop where
 len:out.length<=64
 sz:u.size<=s0.size
 nB:s0.size<=9223372036854775807
 eq:dN s0=if (cF (u.size+1) out.length u).2=0 then (out++(cF (u.size+1) out.length u).1,0) else ([],(cF (u.size+1) out.length u).2)
theorem b5.start {s:ByteArray} (h:s.size<=9223372036854775807):b5 s s []:=⟨by simp,K4 _,h,by
 unfold dN
 have h2:=JQ (s.size+1) 0 s
 show _=if (cF (s.size+1) 0 s).2=0 then ([]++(cF (s.size+1) 0 s).1,0) else ([],(cF (s.size+1) 0 s).2)
 generalize cF (s.size+1) 0 s=r at*
 obtain ⟨a,b⟩:=r
 split
 ·simp_all
 ·simp_all⟩
theorem b5.fin {s0 u:ByteArray} (h:b5 s0 u out) (h0:u=ByteArray.mk #[]):(out,(0:Int))=dN s0:=by
 subst h0
 rw [h.eq]
 show _=if (cF 1 out.length ⟨#[]⟩).2=0 then _ else _
 simp [cF,ByteArray.size]
theorem b5.bad {s0 u:ByteArray} (h:b5 s0 u out) (h0:¬u=ByteArray.mk #[]) (h1:¬aB u=0):(([]:List aF),aB u)=dN s0:=by
 have h2:¬u.size=0:=fun e=>h0 ((pH u).1 e)
 have e:cF (u.size+1) out.length u=([],aB u):=by unfold cF;rw [K0 h2,K1 h1]
 rw [h.eq,e]
 simp [h1]
theorem b5.many {s0 u:ByteArray} (h:b5 s0 u out) (h0:¬u=ByteArray.mk #[]) (h1:aB u=0) (h3:(out.length:Int)=64):(([]:List aF),(2:Int))=dN s0:=by
 have h2:¬u.size=0:=fun e=>h0 ((pH u).1 e)
 have e:cF (u.size+1) out.length u=([],2):=by unfold cF;rw [K0 h2,K0 (by simp [h1]),K1 h3]
 rw [h.eq,e]
 simp
theorem Bu {u:ByteArray} (h1:aB u=0):aG u=cP u:=by unfold aG;rw [K1 h1]
theorem JR {u:ByteArray} (h1:aB u=0):aq u=bO u:=by unfold aq;rw [K1 h1]
theorem b5.step {s0 u:ByteArray} {out:List aF} (h:b5 s0 u out) (h0:¬u=ByteArray.mk #[]) (h1:aB u=0) (h3:¬(out.length:Int)=64):b5 s0 (u.extract (aG u).toNat u.size) (out++[aq u]):=by
 have h2:¬u.size=0:=fun e=>h0 ((pH u).1 e)
 have hn:=wE h1
 have hx:=wF u (cP u) hn.2
 rw [Bu h1,JR h1,Mp]
 have e0:cF (u.size+1) out.length u=if (cF u.size (out.length+1) (u.extract (cP u) u.size)).2=0 then (bO u::(cF u.size (out.length+1) (u.extract (cP u) u.size)).1,0) else ([],(cF u.size (out.length+1) (u.extract (cP u) u.size)).2):=by
  conv=>lhs;unfold cF
  rw [K0 h2,K0 (by simp [h1]),K0 h3]
 rw [wG u.size _ (u.extract (cP u) u.size) (by omega)] at e0
 refine ⟨by have:=h.len;simp;omega,by have:=h.sz;omega,h.nB, ?_⟩
 rw [h.eq,e0]
 have el:((out++[bO u]).length:Int)=out.length+1:=by simp
 rw [el]
 generalize cF ((u.extract (cP u) u.size).size+1) (out.length+1) (u.extract (cP u) u.size)=r
 split<;>simp_all
theorem b5.dec {s0 u:ByteArray} {out:List aF} (h:b5 s0 u out) (h1:aB u=0):0<=aG u/\3<=aG u/\aG u<=u.size/\(u.extract (aG u).toNat u.size).size<u.size:=by
 have hn:=wE h1
 have hx:=wF u (cP u) hn.2
 rw [Bu h1,Mp]
 omega
def pI (s:ByteArray) (u:ByteArray) (out:(List aF)):Prop:=b5 s u out
def sy:bZ Tc Tc.dn:=⟨13,[.ty .fp],fun x=>(fun (s:ByteArray)=>s.size<=9223372036854775807) x.1,[.kg, .cT],fun x=>(fun (s:ByteArray)=>dN s) x.1⟩
theorem JS (s:ByteArray) (hp:s.size<=9223372036854775807):pI s s []/\∀(x:ByteArray) (gF:List aF),pI s x gF->(¬x=ByteArray.mk #[]->x.size<=(9223372036854775807:Nat)/\(aB x=(0:Int)->aB x=(0:Int))/\(aB x=(0:Int)->aB x=(0:Int))/\(aB x=(0:Int)->aB x=(0:Int))/\(aB x=(0:Int)/\(↑gF.length:Int)=(64:Int)->([],(2:Int))=dN s)/\(¬aB x=(0:Int)\/¬(↑gF.length:Int)=(64:Int)->(¬aB x=(0:Int)->([],aB x)=dN s)/\(aB x=(0:Int)->(gF.length+(1:Nat))*(56:Nat)<=(140737488355328:Nat)/\((0:Int)<=aG x/\aG x<=(↑x.size:Int))/\pI s (x.extract (aG x).toNat (↑x.size:Int).toNat) (gF++[aq x])/\(x.extract (aG x).toNat (↑x.size:Int).toNat).size<x.size)))/\(x=ByteArray.mk #[]->(gF,(0:Int))=dN s):=by
 have h1:= @b5.start s hp
 simp only [pI,Mp,LU,LZ,Ly,Lo]
 (repeat' (first|apply And.intro|intro _))<;>first|assumption|trivial|omega|exact b5.fin (by assumption) (by assumption)|exact b5.bad (by assumption) (by assumption) (by assumption)|(refine b5.many (by assumption) (by assumption) ?_ ?_<;>simp_all)|exact (b5.dec (by assumption) (by assumption)).1|exact (b5.dec (by assumption) (by assumption)).2.2.1|exact (b5.dec (by assumption) (by assumption)).2.2.2|(refine b5.step (by assumption) (by assumption) (by assumption) ?_<;>simp_all)|(have hq:=b5.len (by assumption);omega)|(have hq:=b5.sz (by assumption);have mO:=b5.nB (by assumption);omega)|trace_state
theorem Bv:sy.Ok Try.prog tD:=eI eB (Δ:=[sw]) ⟨wD,trivial⟩ (Ω:=[]) trivial sy Fj Fk (fun _=>[]) (fun _=>trivial) 0 (fun x=>(fun (s:ByteArray)=>(fun k=>bif Nat.beq k 0 then some (.inv [.sl 0 .fp, .ow 4 .gp] (fun zo zv=>(fun (u:ByteArray) (out:(List aF))=>pI s u out) zv.1 zv.2.1) (fun zo zv=>(fun (u:ByteArray) (out:(List aF))=>u.size) zv.1 zv.2.1)) else none)) x.1) fun x hp=>Eq.mp (by kernel_rfl) (JS x.1 hp)
open Go.RowKit
theorem JT (x:UInt8):(ByteArray.mk #[x]).size=1:=rfl
theorem JU (h:m.aj=0):(1<=m.kind/\m.kind<=4)/\(0<=m.op/\m.op<=30)/\(0<=m.node/\m.node<=11)/\(0<=m.copy.at_.time/\m.copy.at_.time<=1000000)/\(0<=m.copy.at_.who/\m.copy.at_.who<=31)/\m.copy.data.size<=64:=by
 unfold aF.aj at h
 split at h
 ·split at h
  ·split at h
   ·rename_i h1 h2 h3
    unfold cq.aj at h3
    split at h3
    ·rename_i h4
     unfold bI.ki at h4
     split at h3
     ·simp at h3
     ·omega
    ·simp at h3
   ·omega
  ·simp at h
 ·simp at h
theorem Bw (x:Int):b8 (x%256)=b8 x:=by
 unfold b8
 rw [Int.emod_emod_of_dvd _ (by omega)]
theorem JV (h:m.aj=0) (hC:aS m.kind):(ByteArray.mk #[b8 m.kind]++ByteArray.mk #[b8 m.op]++ByteArray.mk #[b8 m.node])++(ByteArray.mk #[b8 (m.copy.at_.time / 65536)]++ByteArray.mk #[b8 (m.copy.at_.time / 256%256)]++ByteArray.mk #[b8 (m.copy.at_.time%256)]++ByteArray.mk #[b8 m.copy.at_.who]++ByteArray.mk #[b8 m.copy.data.size]++m.copy.data)=b0 m:=by
 unfold b0 ko
 rw [K1 h,K1 hC,Bw,Bw]
 apply ByteArray.ext
 simp
theorem JX (h:m.aj=0) (hC:¬aS m.kind):(ByteArray.mk #[b8 m.kind]++ByteArray.mk #[b8 m.op]++ByteArray.mk #[b8 m.node])=b0 m:=by
 unfold b0 ko
 rw [K1 h,K0 hC]
 apply ByteArray.ext
 simp
theorem JY (h:¬m.aj=0):(ByteArray.mk #[])=b0 m:=by
 unfold b0
 rw [K0 h]
theorem wH {u:ByteArray} (h:(0:Int)<u.size):¬u=ByteArray.mk #[]:=fun e=>by
 have:=(pH u).2 e
 omega
theorem JZ {u:ByteArray} (h:(u.size:Int)<=0):u=ByteArray.mk #[]:=(pH u).1 (by omega)
theorem Bx (hC:aS ((gb s 0).toNat:Int)):(⟨((gb s 0).toNat:Int),((gb s 1).toNat:Int),((gb s 2).toNat:Int),⟨⟨((gb s 3).toNat:Int)*65536+((gb s 4).toNat:Int)*256+((gb s 5).toNat:Int),((gb s 6).toNat:Int)⟩,s.extract (Int.toNat 8) (8+((gb s 7).toNat:Int)).toNat⟩⟩:aF)=bO s:=by
 unfold bO
 rw [K1 hC]
 have e:(8+((gb s 7).toNat:Int)).toNat=8+(gb s 7).toNat:=by omega
 have e2:((fO s 3 3:Nat):Int)=((gb s 3).toNat:Int)*65536+((gb s 4).toNat:Int)*256+((gb s 5).toNat:Int):=by
  simp only [fO]
  simp
  omega
 rw [e,e2]
 rfl
theorem By (hC:¬aS ((gb s 0).toNat:Int)):(⟨((gb s 0).toNat:Int),((gb s 1).toNat:Int),((gb s 2).toNat:Int),⟨⟨0,0⟩,⟨#[]⟩⟩⟩:aF)=bO s:=by
 unfold bO
 rw [K0 hC]
theorem pJ {e:Int} (h:aB s=e) (h0:e≠0):((⟨0,0,0,⟨⟨0,0⟩,⟨#[]⟩⟩⟩:aF),(0:Int),e)=(aq s,aG s,aB s):=by
 subst h
 unfold aq aG
 rw [K0 h0,K0 h0]
theorem J0 (h:(s.size:Int)=0):((⟨0,0,0,⟨⟨0,0⟩,⟨#[]⟩⟩⟩:aF),(0:Int),(5:Int))=(aq s,aG s,aB s):=pJ (by unfold aB;rw [K1 (by omega)]) (by decide)
theorem J1 (h:¬(s.size:Int)=0) (h2:((gb s 0).toNat:Int)<1\/4<((gb s 0).toNat:Int)):((⟨0,0,0,⟨⟨0,0⟩,⟨#[]⟩⟩⟩:aF),(0:Int),(7:Int))=(aq s,aG s,aB s):=pJ (by unfold aB;rw [K0 (by omega),K1 (by omega)]) (by decide)
theorem J2 (h:¬(s.size:Int)=0) (h2:1<=((gb s 0).toNat:Int)/\((gb s 0).toNat:Int)<=4) (h3:(s.size:Int)<3\/aS ((gb s 0).toNat:Int)/\((s.size:Int)<8\/(s.size:Int)<8+((gb s 7).toNat:Int))):((⟨0,0,0,⟨⟨0,0⟩,⟨#[]⟩⟩⟩:aF),(0:Int),(5:Int))=(aq s,aG s,aB s):=pJ (by unfold aB;rw [K0 (by omega),K0 (by omega),K1 (by omega)]) (by decide)
theorem sA (h:¬(s.size:Int)=0) (h2:1<=((gb s 0).toNat:Int)/\((gb s 0).toNat:Int)<=4) (h3:(3:Int)<=s.size/\(¬aS ((gb s 0).toNat:Int)\/(8:Int)<=s.size/\8+((gb s 7).toNat:Int)<=s.size)):aB s=(bO s).aj:=by
 unfold aB
 rw [K0 (by omega),K0 (by omega),K0 (by omega)]
theorem J3 (h:¬(s.size:Int)=0) (h2:1<=((gb s 0).toNat:Int)/\((gb s 0).toNat:Int)<=4) (h3:(3:Int)<=s.size/\(¬aS ((gb s 0).toNat:Int)\/(8:Int)<=s.size/\8+((gb s 7).toNat:Int)<=s.size)) (hC:aS ((gb s 0).toNat:Int)) (hz:(⟨((gb s 0).toNat:Int),((gb s 1).toNat:Int),((gb s 2).toNat:Int),⟨⟨((gb s 3).toNat:Int)*65536+((gb s 4).toNat:Int)*256+((gb s 5).toNat:Int),((gb s 6).toNat:Int)⟩,s.extract (Int.toNat 8) (8+((gb s 7).toNat:Int)).toNat⟩⟩:aF).aj=0):((⟨((gb s 0).toNat:Int),((gb s 1).toNat:Int),((gb s 2).toNat:Int),⟨⟨((gb s 3).toNat:Int)*65536+((gb s 4).toNat:Int)*256+((gb s 5).toNat:Int),((gb s 6).toNat:Int)⟩,s.extract (Int.toNat 8) (8+((gb s 7).toNat:Int)).toNat⟩⟩:aF),8+((gb s 7).toNat:Int),(0:Int))=(aq s,aG s,aB s):=by
 rw [Bx hC] at hz ⊢
 have e:=sA h h2 h3
 unfold aq aG
 rw [e,hz,K1 rfl,K1 rfl, <-Bn hC]
 simp
theorem J4 (h:¬(s.size:Int)=0) (h2:1<=((gb s 0).toNat:Int)/\((gb s 0).toNat:Int)<=4) (h3:(3:Int)<=s.size/\(¬aS ((gb s 0).toNat:Int)\/(8:Int)<=s.size/\8+((gb s 7).toNat:Int)<=s.size)) (hC:aS ((gb s 0).toNat:Int)) (hz:¬(⟨((gb s 0).toNat:Int),((gb s 1).toNat:Int),((gb s 2).toNat:Int),⟨⟨((gb s 3).toNat:Int)*65536+((gb s 4).toNat:Int)*256+((gb s 5).toNat:Int),((gb s 6).toNat:Int)⟩,s.extract (Int.toNat 8) (8+((gb s 7).toNat:Int)).toNat⟩⟩:aF).aj=0):((⟨0,0,0,⟨⟨0,0⟩,⟨#[]⟩⟩⟩:aF),(0:Int),(⟨((gb s 0).toNat:Int),((gb s 1).toNat:Int),((gb s 2).toNat:Int),⟨⟨((gb s 3).toNat:Int)*65536+((gb s 4).toNat:Int)*256+((gb s 5).toNat:Int),((gb s 6).toNat:Int)⟩,s.extract (Int.toNat 8) (8+((gb s 7).toNat:Int)).toNat⟩⟩:aF).aj)=(aq s,aG s,aB s):=by
 rw [Bx hC] at hz ⊢
 exact pJ (sA h h2 h3) hz
theorem J5 (h:¬(s.size:Int)=0) (h2:1<=((gb s 0).toNat:Int)/\((gb s 0).toNat:Int)<=4) (h3:(3:Int)<=s.size/\(¬aS ((gb s 0).toNat:Int)\/(8:Int)<=s.size/\8+((gb s 7).toNat:Int)<=s.size)) (hC:¬aS ((gb s 0).toNat:Int)) (hz:(⟨((gb s 0).toNat:Int),((gb s 1).toNat:Int),((gb s 2).toNat:Int),⟨⟨0,0⟩,⟨#[]⟩⟩⟩:aF).aj=0):((⟨((gb s 0).toNat:Int),((gb s 1).toNat:Int),((gb s 2).toNat:Int),⟨⟨0,0⟩,⟨#[]⟩⟩⟩:aF),(3:Int),(0:Int))=(aq s,aG s,aB s):=by
 rw [By hC] at hz ⊢
 have e:=sA h h2 h3
 unfold aq aG
 rw [e,hz,K1 rfl,K1 rfl, <-Bm hC]
 simp
theorem J6 (h:¬(s.size:Int)=0) (h2:1<=((gb s 0).toNat:Int)/\((gb s 0).toNat:Int)<=4) (h3:(3:Int)<=s.size/\(¬aS ((gb s 0).toNat:Int)\/(8:Int)<=s.size/\8+((gb s 7).toNat:Int)<=s.size)) (hC:¬aS ((gb s 0).toNat:Int)) (hz:¬(⟨((gb s 0).toNat:Int),((gb s 1).toNat:Int),((gb s 2).toNat:Int),⟨⟨0,0⟩,⟨#[]⟩⟩⟩:aF).aj=0):((⟨0,0,0,⟨⟨0,0⟩,⟨#[]⟩⟩⟩:aF),(0:Int),(⟨((gb s 0).toNat:Int),((gb s 1).toNat:Int),((gb s 2).toNat:Int),⟨⟨0,0⟩,⟨#[]⟩⟩⟩:aF).aj)=(aq s,aG s,aB s):=by
 rw [By hC] at hz ⊢
 exact pJ (sA h h2 h3) hz
abbrev wI (m:aF):=(ByteArray.mk #[b8 (m.copy.at_.time / (65536:Int))]++ByteArray.mk #[b8 (m.copy.at_.time / (256:Int)%(256:Int))]++ByteArray.mk #[b8 (m.copy.at_.time%(256:Int))]++ByteArray.mk #[b8 m.copy.at_.who]++ByteArray.mk #[b8 (↑m.copy.data.size:Int)]++m.copy.data)
theorem KT (m:aF):True/\(¬m.aj=(0:Int)->(ByteArray.mk #[],m.aj)=(b0 m,m.aj))/\(m.aj=(0:Int)->(0:Int)<=m.kind/\(0:Int)<=m.op/\(↑((ByteArray.mk #[b8 m.kind]).size+(ByteArray.mk #[b8 m.op]).size):Int)<=(9223372036854775807:Int)/\(0:Int)<=m.node/\(↑((ByteArray.mk #[b8 m.kind]++ByteArray.mk #[b8 m.op]).size+(ByteArray.mk #[b8 m.node]).size):Int)<=(9223372036854775807:Int)/\True/\(decide (aS m.kind)=true->((0:Int)<=m.copy.at_.time/\(0:Int)<(65536:Int)/\bT m.copy.at_.time)/\(0:Int)<=m.copy.at_.time / (65536:Int)/\((0:Int)<=m.copy.at_.time/\(0:Int)<(256:Int)/\bT m.copy.at_.time)/\((0:Int)<=m.copy.at_.time / (256:Int)/\(256:Int)≠(0:Int))/\(0:Int)<=m.copy.at_.time / (256:Int)%(256:Int)/\(↑((ByteArray.mk #[b8 (m.copy.at_.time / (65536:Int))]).size+(ByteArray.mk #[b8 (m.copy.at_.time / (256:Int)%(256:Int))]).size):Int)<=(9223372036854775807:Int)/\((0:Int)<=m.copy.at_.time/\(256:Int)≠(0:Int))/\(0:Int)<=m.copy.at_.time%(256:Int)/\(↑((ByteArray.mk #[b8 (m.copy.at_.time / (65536:Int))]++ByteArray.mk #[b8 (m.copy.at_.time / (256:Int)%(256:Int))]).size+(ByteArray.mk #[b8 (m.copy.at_.time%(256:Int))]).size):Int)<=(9223372036854775807:Int)/\(0:Int)<=m.copy.at_.who/\(↑((ByteArray.mk #[b8 (m.copy.at_.time / (65536:Int))]++ByteArray.mk #[b8 (m.copy.at_.time / (256:Int)%(256:Int))]++ByteArray.mk #[b8 (m.copy.at_.time%(256:Int))]).size+(ByteArray.mk #[b8 m.copy.at_.who]).size):Int)<=(9223372036854775807:Int)/\(0:Int)<=(↑m.copy.data.size:Int)/\(↑((ByteArray.mk #[b8 (m.copy.at_.time / (65536:Int))]++ByteArray.mk #[b8 (m.copy.at_.time / (256:Int)%(256:Int))]++ByteArray.mk #[b8 (m.copy.at_.time%(256:Int))]++ByteArray.mk #[b8 m.copy.at_.who]).size+(ByteArray.mk #[b8 (↑m.copy.data.size:Int)]).size):Int)<=(9223372036854775807:Int)/\(↑((ByteArray.mk #[b8 (m.copy.at_.time / (65536:Int))]++ByteArray.mk #[b8 (m.copy.at_.time / (256:Int)%(256:Int))]++ByteArray.mk #[b8 (m.copy.at_.time%(256:Int))]++ByteArray.mk #[b8 m.copy.at_.who]++ByteArray.mk #[b8 (↑m.copy.data.size:Int)]).size+m.copy.data.size):Int)<=(9223372036854775807:Int)/\(↑((ByteArray.mk #[b8 m.kind]++ByteArray.mk #[b8 m.op]++ByteArray.mk #[b8 m.node]).size+(wI m).size):Int)<=(9223372036854775807:Int)/\(ByteArray.mk #[b8 m.kind]++ByteArray.mk #[b8 m.op]++ByteArray.mk #[b8 m.node]++(wI m),(0:Int))=(b0 m,m.aj))/\(decide (aS m.kind)=false->(ByteArray.mk #[b8 m.kind]++ByteArray.mk #[b8 m.op]++ByteArray.mk #[b8 m.node],(0:Int))=(b0 m,m.aj))):=by
 delta wI
 by_cases hz:m.aj=0
 ·have hb:=JU hz
  (repeat' (first|apply And.intro|intro _))<;>first|assumption|trivial|omega|(simp only [ByteArray.size_append,JT];omega)|(simp only [LU,LZ,Ly,Lo] at *; rw [JV (by assumption) (by assumption),hz])|(simp only [LU,LZ,Ly,Lo] at *; rw [JX (by assumption) (by assumption),hz])|simp_all|trace_state
 ·(repeat' (first|apply And.intro|intro _))<;>first|assumption|trivial|omega|(rw [<-JY hz])|(exfalso;omega)|trace_state
def sB:bZ Tc Tc.dn:=⟨14,[.ty .fp],fun x=>(fun (s:ByteArray)=>True) x.1,[.gp, .cT, .cT],fun x=>(fun (s:ByteArray)=>(aq s,aG s,aB s)) x.1⟩
abbrev cM (s:ByteArray):=(↑(gb s (Int.toNat (0:Int))).toNat:Int)
abbrev pK (s:ByteArray):=(cq.mk (bI.mk ((↑(gb s (Int.toNat (3:Int))).toNat:Int)*(65536:Int)+(↑(gb s (Int.toNat (4:Int))).toNat:Int)*(256:Int)+(↑(gb s (Int.toNat (5:Int))).toNat:Int)) (↑(gb s (Int.toNat (6:Int))).toNat:Int)) (s.extract (Int.toNat (8:Int)) ((8:Int)+(↑(gb s (Int.toNat (7:Int))).toNat:Int)).toNat))
abbrev mo (s:ByteArray):=(((3:Int)<=(↑s.size:Int)/\decide (aS (cM s))=true)/\(8:Int)<=(↑s.size:Int)->((3:Int)<=(↑s.size:Int)/\decide (aS (cM s))=true)/\(8:Int)<=(↑s.size:Int))
abbrev jo:=(cq.mk (bI.mk (0:Int) (0:Int)) (ByteArray.mk #[]))
abbrev pL (s:ByteArray):=((3:Int)<=(↑s.size:Int)/\decide (aS (cM s))=true->(3:Int)<=(↑s.size:Int)/\decide (aS (cM s))=true)
theorem J7 (s:ByteArray):((↑s.size:Int)=(0:Int)->(aF.mk (0:Int) (0:Int) (0:Int) jo,(0:Int),(5:Int))=(aq s,aG s,aB s))/\(¬(↑s.size:Int)=(0:Int)->((0:Int)<=(0:Int)/\(0:Int)<(↑s.size:Int))/\((1:Int)<=(cM s)->(1:Int)<=(cM s))/\((1:Int)<=(cM s)->(1:Int)<=(cM s))/\((cM s)<(1:Int)\/(4:Int)<(cM s)->(aF.mk (0:Int) (0:Int) (0:Int) jo,(0:Int),(7:Int))=(aq s,aG s,aB s))/\((1:Int)<=(cM s)/\(cM s)<=(4:Int)->((3:Int)<=(↑s.size:Int)->(3:Int)<=(↑s.size:Int))/\((3:Int)<=(↑s.size:Int)->True)/\((3:Int)<=(↑s.size:Int)->(3:Int)<=(↑s.size:Int))/\(pL s)/\(pL s)/\(pL s)/\(mo s)/\(mo s)/\(((3:Int)<=(↑s.size:Int)/\decide (aS (cM s))=true)/\(8:Int)<=(↑s.size:Int)->(0:Int)<=(7:Int)/\(7:Int)<(↑s.size:Int))/\(mo s)/\(mo s)/\(((3:Int)<=(↑s.size:Int)/\decide (aS (cM s))=true)/\(8:Int)<=(↑s.size:Int)->bT ((8:Int)+(↑(gb s (Int.toNat (7:Int))).toNat:Int)))/\(mo s)/\(mo s)/\(pL s)/\((3:Int)<=(↑s.size:Int)/\decide (aS (cM s))=true->(8:Int)<=(↑s.size:Int)->((3:Int)<=(↑s.size:Int)/\decide (aS (cM s))=true)/\(8:Int)<=(↑s.size:Int))/\((3:Int)<=(↑s.size:Int)->(3:Int)<=(↑s.size:Int))/\((3:Int)<=(↑s.size:Int)->decide (aS (cM s))=true->(3:Int)<=(↑s.size:Int)/\decide (aS (cM s))=true)/\((3:Int)<=(↑s.size:Int)->(3:Int)<=(↑s.size:Int))/\((↑s.size:Int)<(3:Int)\/decide (aS (cM s))=true/\((↑s.size:Int)<(8:Int)\/(↑s.size:Int)<(8:Int)+(↑(gb s (Int.toNat (7:Int))).toNat:Int))->(aF.mk (0:Int) (0:Int) (0:Int) jo,(0:Int),(5:Int))=(aq s,aG s,aB s))/\((3:Int)<=(↑s.size:Int)/\(decide (aS (cM s))=false\/(8:Int)<=(↑s.size:Int)/\(8:Int)+(↑(gb s (Int.toNat (7:Int))).toNat:Int)<=(↑s.size:Int))->((0:Int)<=(1:Int)/\(1:Int)<(↑s.size:Int))/\((0:Int)<=(2:Int)/\(2:Int)<(↑s.size:Int))/\True/\(decide (aS (cM s))=true->((0:Int)<=(3:Int)/\(3:Int)<(↑s.size:Int))/\bT ((↑(gb s (Int.toNat (3:Int))).toNat:Int)*(65536:Int))/\((0:Int)<=(4:Int)/\(4:Int)<(↑s.size:Int))/\bT ((↑(gb s (Int.toNat (4:Int))).toNat:Int)*(256:Int))/\bT ((↑(gb s (Int.toNat (3:Int))).toNat:Int)*(65536:Int)+(↑(gb s (Int.toNat (4:Int))).toNat:Int)*(256:Int))/\((0:Int)<=(5:Int)/\(5:Int)<(↑s.size:Int))/\bT ((↑(gb s (Int.toNat (3:Int))).toNat:Int)*(65536:Int)+(↑(gb s (Int.toNat (4:Int))).toNat:Int)*(256:Int)+(↑(gb s (Int.toNat (5:Int))).toNat:Int))/\((0:Int)<=(6:Int)/\(6:Int)<(↑s.size:Int))/\((0:Int)<=(7:Int)/\(7:Int)<(↑s.size:Int))/\bT ((8:Int)+(↑(gb s (Int.toNat (7:Int))).toNat:Int))/\((0:Int)<=(8:Int)/\(8:Int)<=(8:Int)+(↑(gb s (Int.toNat (7:Int))).toNat:Int)/\(8:Int)+(↑(gb s (Int.toNat (7:Int))).toNat:Int)<=(↑s.size:Int))/\True/\(¬(aF.mk (cM s) (↑(gb s (Int.toNat (1:Int))).toNat:Int) (↑(gb s (Int.toNat (2:Int))).toNat:Int) (pK s)).aj=(0:Int)->(aF.mk (0:Int) (0:Int) (0:Int) jo,(0:Int),(aF.mk (cM s) (↑(gb s (Int.toNat (1:Int))).toNat:Int) (↑(gb s (Int.toNat (2:Int))).toNat:Int) (pK s)).aj)=(aq s,aG s,aB s))/\((aF.mk (cM s) (↑(gb s (Int.toNat (1:Int))).toNat:Int) (↑(gb s (Int.toNat (2:Int))).toNat:Int) (pK s)).aj=(0:Int)->(aF.mk (cM s) (↑(gb s (Int.toNat (1:Int))).toNat:Int) (↑(gb s (Int.toNat (2:Int))).toNat:Int) (pK s),(8:Int)+(↑(gb s (Int.toNat (7:Int))).toNat:Int),(0:Int))=(aq s,aG s,aB s)))/\(decide (aS (cM s))=false->True/\(¬(aF.mk (cM s) (↑(gb s (Int.toNat (1:Int))).toNat:Int) (↑(gb s (Int.toNat (2:Int))).toNat:Int) jo).aj=(0:Int)->(aF.mk (0:Int) (0:Int) (0:Int) jo,(0:Int),(aF.mk (cM s) (↑(gb s (Int.toNat (1:Int))).toNat:Int) (↑(gb s (Int.toNat (2:Int))).toNat:Int) jo).aj)=(aq s,aG s,aB s))/\((aF.mk (cM s) (↑(gb s (Int.toNat (1:Int))).toNat:Int) (↑(gb s (Int.toNat (2:Int))).toNat:Int) jo).aj=(0:Int)->(aF.mk (cM s) (↑(gb s (Int.toNat (1:Int))).toNat:Int) (↑(gb s (Int.toNat (2:Int))).toNat:Int) jo,(3:Int),(0:Int))=(aq s,aG s,aB s)))))):=by
 delta pL jo mo pK cM
 (try simp only [LU,LZ,Ly,Lo])
 have y0:(gb s 0).toNat<256:=(gb s 0).toNat_lt
 have y1:(gb s 1).toNat<256:=(gb s 1).toNat_lt
 have y2:(gb s 2).toNat<256:=(gb s 2).toNat_lt
 have y3:(gb s 3).toNat<256:=(gb s 3).toNat_lt
 have y4:(gb s 4).toNat<256:=(gb s 4).toNat_lt
 have y5:(gb s 5).toNat<256:=(gb s 5).toNat_lt
 have y6:(gb s 6).toNat<256:=(gb s 6).toNat_lt
 have y7:(gb s 7).toNat<256:=(gb s 7).toNat_lt
 simp only [show Int.toNat 0=0 from rfl,show Int.toNat 1=1 from rfl,show Int.toNat 2=2 from rfl,show Int.toNat 3=3 from rfl,show Int.toNat 4=4 from rfl,show Int.toNat 5=5 from rfl,show Int.toNat 6=6 from rfl,show Int.toNat 7=7 from rfl]
 (repeat' (first|apply And.intro|intro _))<;>first|assumption|trivial|omega|exact J0 (by assumption)|exact J1 (by assumption) (by assumption)|exact J2 (by assumption) (by assumption) (by assumption)|exact J3 (by assumption) (by assumption) (by assumption) (by assumption) (by assumption)|exact J4 (by assumption) (by assumption) (by assumption) (by assumption) (by assumption)|exact J5 (by assumption) (by assumption) (by assumption) (by assumption) (by assumption)|exact J6 (by assumption) (by assumption) (by assumption) (by assumption) (by assumption)|trace_state
theorem Bz:sB.Ok Try.prog tD:=eI eB (Δ:=[sr,wz]) ⟨Ba,Jv,trivial⟩ (Ω:=[]) trivial sB Fm Fp (fun _=>[]) (fun _=>trivial) 0 (fun x=>(fun (s:ByteArray)=>(fun _=>none)) x.1) fun x hp=>Eq.mp (by kernel_rfl) (J7 x.1)
def pM (s:ByteArray) (u:ByteArray) (out:(List aF)):Prop:=b5 s u out
def wJ:bZ Tc Tc.dn:=⟨15,[.ty .fp],fun x=>(fun (s:ByteArray)=>s.size<=9223372036854775807) x.1,[.kg, .cT],fun x=>(fun (s:ByteArray)=>dN s) x.1⟩
theorem J8 (s:ByteArray) (hp:s.size<=9223372036854775807):pM s s []/\∀(x:ByteArray) (gF:List aF),pM s x gF->((0:Int)<(↑x.size:Int)->True/\(¬aB x=(0:Int)->([],aB x)=dN s)/\(aB x=(0:Int)->((↑gF.length:Int)=(64:Int)->([],(2:Int))=dN s)/\(¬(↑gF.length:Int)=(64:Int)->(gF.length+(1:Nat))*(56:Nat)<=(140737488355328:Nat)/\((0:Int)<=aG x/\aG x<=(↑x.size:Int))/\pM s (x.extract (aG x).toNat (↑x.size:Int).toNat) (gF++[aq x])/\(x.extract (aG x).toNat (↑x.size:Int).toNat).size<x.size)))/\((↑x.size:Int)<=(0:Int)->(gF,(0:Int))=dN s):=by
 have h1:= @b5.start s hp
 simp only [pM,Mp,LU,LZ,Ly,Lo]
 (repeat' (first|apply And.intro|intro _))<;>first|assumption|trivial|omega|exact b5.fin (by assumption) (JZ (by assumption))|exact b5.bad (by assumption) (wH (by assumption)) (by assumption)|(refine b5.many (by assumption) (wH (by assumption)) ?_ ?_<;>simp_all)|exact (b5.dec (by assumption) (by assumption)).1|exact (b5.dec (by assumption) (by assumption)).2.2.1|exact (b5.dec (by assumption) (by assumption)).2.2.2|(refine b5.step (by assumption) (wH (by assumption)) (by assumption) ?_<;>simp_all)|(have hq:=b5.len (by assumption);omega)|(have hq:=b5.sz (by assumption);have mO:=b5.nB (by assumption);omega)|trace_state
theorem J9:wJ.Ok Try.prog tD:=eI eB (Δ:=[sB]) ⟨Bz,trivial⟩ (Ω:=[]) trivial wJ Fs Ft (fun _=>[]) (fun _=>trivial) 0 (fun x=>(fun (s:ByteArray)=>(fun k=>bif Nat.beq k 0 then some (.inv [.sl 0 .fp, .ow 4 .gp] (fun zo zv=>(fun (u:ByteArray) (out:(List aF))=>pM s u out) zv.1 zv.2.1) (fun zo zv=>(fun (u:ByteArray) (out:(List aF))=>u.size) zv.1 zv.2.1)) else none)) x.1) fun x hp=>Eq.mp (by kernel_rfl) (J8 x.1 hp)
def pN (a:(List aF)) (i:Int):Prop:=0<=i/\a.length<=100000
def wK:bZ Tc Tc.dn:=⟨16,[.ty .kg, .ty .kg],fun x=>(fun (a:(List aF)) (b:(List aF))=>a=b/\a.length<=100000) x.1 x.2.1,[.g9],fun x=>(fun (a:(List aF)) (b:(List aF))=>true) x.1 x.2.1⟩
abbrev dq:=(aF.mk (0:Int) (0:Int) (0:Int) (cq.mk (bI.mk (0:Int) (0:Int)) ByteArray.empty))
theorem Ka (a:(List aF)) (b:(List aF)) (hp:a=b/\a.length<=100000):(¬(↑a.length:Int)=(↑b.length:Int)->false=true)/\((↑a.length:Int)=(↑b.length:Int)->pN a (0:Int)/\∀(x:Int),pN a x->(x<(↑a.length:Int)->((0:Int)<=x/\x<(↑a.length:Int))/\((0:Int)<=x/\x<(↑b.length:Int))/\(¬(gd dq a x.toNat).kind=(gd dq b x.toNat).kind\/¬(gd dq a x.toNat).op=(gd dq b x.toNat).op\/¬(gd dq a x.toNat).node=(gd dq b x.toNat).node\/¬(gd dq a x.toNat).copy.at_.time=(gd dq b x.toNat).copy.at_.time\/¬(gd dq a x.toNat).copy.at_.who=(gd dq b x.toNat).copy.at_.who\/¬(gd dq a x.toNat).copy.data=(gd dq b x.toNat).copy.data->false=true)/\((gd dq a x.toNat).kind=(gd dq b x.toNat).kind/\(gd dq a x.toNat).op=(gd dq b x.toNat).op/\(gd dq a x.toNat).node=(gd dq b x.toNat).node/\(gd dq a x.toNat).copy.at_.time=(gd dq b x.toNat).copy.at_.time/\(gd dq a x.toNat).copy.at_.who=(gd dq b x.toNat).copy.at_.who/\(gd dq a x.toNat).copy.data=(gd dq b x.toNat).copy.data->bT (x+(1:Int))/\pN a (x+(1:Int))/\((↑a.length:Int) - (x+(1:Int))).toNat<((↑a.length:Int) - x).toNat))/\((↑a.length:Int)<=x->true=true)):=by
 delta dq
 obtain ⟨rfl,hq⟩:=hp
 have hr:= @mR
 (try simp only [LU,LZ,Ly,Lo])
 (repeat' (first|apply And.intro|intro _))<;>first|assumption|trivial|omega|(grind [pN,bT])|trace_state
theorem Kb:wK.Ok Try.prog tD:=eI eB (Δ:=[]) trivial (Ω:=[]) trivial wK Fv Fw (fun _=>[]) (fun _=>trivial) 0 (fun x=>(fun (a:(List aF)) (b:(List aF))=>(fun k=>bif Nat.beq k 0 then some (.inv [.sl 5 .cT] (fun zo zv=>(fun (i:Int)=>pN a i) zv.1) (fun zo zv=>(fun (i:Int)=>((a.length:Int) - i).toNat) zv.1)) else none)) x.1 x.2.1) fun x hp=>Eq.mp (by kernel_rfl) (Ka x.1 x.2.1 hp)
open Go.RowKit
def wL:bZ Tc Tc.dn:=⟨9,[],fun _=>True,[.g9],fun _=>true⟩
abbrev eJ:=(aF.mk (3:Int) (3:Int) (4:Int) (cq.mk (bI.mk (258:Int) (5:Int)) (ByteArray.mk #[(97:UInt8),(98:UInt8)])))
abbrev dI:=(dN (ByteArray.mk #[(1:UInt8),(0:UInt8),(0:UInt8)]++b0 eJ))
abbrev bD:=(b0 eJ++ByteArray.mk #[(122:UInt8)])
abbrev jq:=(eJ.aj=(0:Int)/\b0 eJ=ByteArray.mk #[(3:UInt8),(3:UInt8),(4:UInt8),(0:UInt8),(1:UInt8),(2:UInt8),(5:UInt8),(2:UInt8),(97:UInt8),(98:UInt8)])
abbrev jr:=((jq/\aB bD=(0:Int))/\(aq bD).kind=(3:Int)/\(aq bD).op=(3:Int)/\(aq bD).node=(4:Int)/\(aq bD).copy.at_.time=(258:Int)/\(aq bD).copy.at_.who=(5:Int)/\(aq bD).copy.data=ByteArray.mk #[(97:UInt8),(98:UInt8)])
abbrev gG:=((jr/\aG bD=(10:Int))/\aB (ByteArray.mk #[(1:UInt8),(0:UInt8)])=(5:Int))
abbrev dr:=(gd (aF.mk (0:Int) (0:Int) (0:Int) (cq.mk (bI.mk (0:Int) (0:Int)) ByteArray.empty)) dI.fst (Int.toNat (1:Int)))
abbrev nC:=(((gG/\dI.snd=(0:Int))/\(↑dI.fst.length:Int)=(2:Int))/\dr.kind=(3:Int)/\dr.op=(3:Int)/\dr.node=(4:Int)/\dr.copy.at_.time=(258:Int)/\dr.copy.at_.who=(5:Int)/\dr.copy.data=ByteArray.mk #[(97:UInt8),(98:UInt8)]->((gG/\dI.snd=(0:Int))/\(↑dI.fst.length:Int)=(2:Int))/\dr.kind=(3:Int)/\dr.op=(3:Int)/\dr.node=(4:Int)/\dr.copy.at_.time=(258:Int)/\dr.copy.at_.who=(5:Int)/\dr.copy.data=ByteArray.mk #[(97:UInt8),(98:UInt8)])
abbrev nD:=((gG/\dI.snd=(0:Int))/\(↑dI.fst.length:Int)=(2:Int)->(gG/\dI.snd=(0:Int))/\(↑dI.fst.length:Int)=(2:Int))
abbrev wM:=((jq/\aB bD=(0:Int))/\(aq bD).kind=(3:Int)/\(aq bD).op=(3:Int)/\(aq bD).node=(4:Int)/\(aq bD).copy.at_.time=(258:Int)/\(aq bD).copy.at_.who=(5:Int)/\(aq bD).copy.data=ByteArray.mk #[(97:UInt8),(98:UInt8)]->(jq/\aB bD=(0:Int))/\(aq bD).kind=(3:Int)/\(aq bD).op=(3:Int)/\(aq bD).node=(4:Int)/\(aq bD).copy.at_.time=(258:Int)/\(aq bD).copy.at_.who=(5:Int)/\(aq bD).copy.data=ByteArray.mk #[(97:UInt8),(98:UInt8)])
abbrev wN:=(eJ.aj=(0:Int)/\b0 eJ=ByteArray.mk #[(3:UInt8),(3:UInt8),(4:UInt8),(0:UInt8),(1:UInt8),(2:UInt8),(5:UInt8),(2:UInt8),(97:UInt8),(98:UInt8)]->eJ.aj=(0:Int)/\b0 eJ=ByteArray.mk #[(3:UInt8),(3:UInt8),(4:UInt8),(0:UInt8),(1:UInt8),(2:UInt8),(5:UInt8),(2:UInt8),(97:UInt8),(98:UInt8)])
theorem Kc  :True/\True/\(↑((b0 eJ).size+(ByteArray.mk #[(122:UInt8)]).size):Int)<=(9223372036854775807:Int)/\bD.size<=(9223372036854775807:Nat)/\(ByteArray.mk #[(1:UInt8),(0:UInt8)]).size<=(9223372036854775807:Nat)/\(↑((ByteArray.mk #[(1:UInt8),(0:UInt8),(0:UInt8)]).size+(b0 eJ).size):Int)<=(9223372036854775807:Int)/\(ByteArray.mk #[(1:UInt8),(0:UInt8),(0:UInt8)]++b0 eJ).size<=(9223372036854775807:Nat)/\(eJ.aj=(0:Int)->eJ.aj=(0:Int))/\(eJ.aj=(0:Int)->eJ.aj=(0:Int))/\wN/\wN/\(jq/\aB bD=(0:Int)->jq/\aB bD=(0:Int))/\(jq/\aB bD=(0:Int)->jq/\aB bD=(0:Int))/\(jq/\aB bD=(0:Int)->jq/\aB bD=(0:Int))/\wM/\wM/\(jr/\aG bD=(10:Int)->jr/\aG bD=(10:Int))/\(jr/\aG bD=(10:Int)->jr/\aG bD=(10:Int))/\((jr/\aG bD=(10:Int))/\aB (ByteArray.mk #[(1:UInt8),(0:UInt8)])=(5:Int)->(jr/\aG bD=(10:Int))/\aB (ByteArray.mk #[(1:UInt8),(0:UInt8)])=(5:Int))/\((jr/\aG bD=(10:Int))/\aB (ByteArray.mk #[(1:UInt8),(0:UInt8)])=(5:Int)->(jr/\aG bD=(10:Int))/\aB (ByteArray.mk #[(1:UInt8),(0:UInt8)])=(5:Int))/\(gG/\dI.snd=(0:Int)->gG/\dI.snd=(0:Int))/\(gG/\dI.snd=(0:Int)->gG/\dI.snd=(0:Int))/\(gG/\dI.snd=(0:Int)->gG/\dI.snd=(0:Int))/\nD/\((gG/\dI.snd=(0:Int))/\(↑dI.fst.length:Int)=(2:Int)->(0:Int)<=(1:Int)/\(1:Int)<(↑dI.fst.length:Int))/\nD/\nD/\nD/\nD/\nC/\nC/\nC/\(((gG/\dI.snd=(0:Int))/\(↑dI.fst.length:Int)=(2:Int))/\dr.kind=(3:Int)/\dr.op=(3:Int)/\dr.node=(4:Int)/\dr.copy.at_.time=(258:Int)/\dr.copy.at_.who=(5:Int)/\dr.copy.data=ByteArray.mk #[(97:UInt8),(98:UInt8)]->True)/\nC/\nC/\(eJ.aj==(0:Int)&&gr (b0 eJ) (ByteArray.mk #[(3:UInt8),(3:UInt8),(4:UInt8),(0:UInt8),(1:UInt8),(2:UInt8),(5:UInt8),(2:UInt8),(97:UInt8),(98:UInt8)])&&aB bD==(0:Int)&&((aq bD).kind==(3:Int)&&((aq bD).op==(3:Int)&&((aq bD).node==(4:Int)&&((aq bD).copy.at_.time==(258:Int)&&((aq bD).copy.at_.who==(5:Int)&&gr (aq bD).copy.data (ByteArray.mk #[(97:UInt8),(98:UInt8)]))))))&&aG bD==(10:Int)&&aB (ByteArray.mk #[(1:UInt8),(0:UInt8)])==(5:Int)&&dI.snd==(0:Int)&&(↑dI.fst.length:Int)==(2:Int)&&(dr.kind==(3:Int)&&(dr.op==(3:Int)&&(dr.node==(4:Int)&&(dr.copy.at_.time==(258:Int)&&(dr.copy.at_.who==(5:Int)&&gr dr.copy.data (ByteArray.mk #[(97:UInt8),(98:UInt8)]))))))&&(aF.mk (4:Int) (0:Int) (0:Int) (cq.mk (bI.mk (258:Int) (5:Int)) (ByteArray.mk #[(97:UInt8),(98:UInt8)]))).aj==(1:Int))=true:=by
 delta wN wM nD dr gG jq bD dI nC jr eJ
 (repeat' (first|apply And.intro|intro _))<;>first|assumption|trivial|(decide+kernel)|trace_state
theorem Kd:wL.Ok Try.prog tD:=eI eB (Δ:=[wB,Bt,sw,sy,wv]) ⟨Jz,JP,wD,Bv,A9,trivial⟩ (Ω:=[]) trivial wL E8 E9 (fun _=>[]) (fun _=>trivial) 0 (fun _=>fun _=>none) fun x hp=>Eq.mp (by kernel_rfl) (Kc )
open Go.RowKit
open Go.RowKit
theorem BA:∀(f:Nat) (k:Int) (s:ByteArray),0<=k->k<=64->((cF f k s).1.length:Int)+k<=64\/(cF f k s).1=[]
 |0,k,s,h,h2=> .inr rfl
 |f+1,k,s,h,h2=>by
  unfold cF
  split
  ·exact .inr rfl
  ·split
   ·exact .inr rfl
   ·split
    ·exact .inr rfl
    ·rename_i h3
     have ih:=BA f (k+1) (s.extract (cP s) s.size) (by omega) (by omega)
     split
     ·left
      rcases ih with ih|ih
      ·simp only [ML];omega
      ·simp only [ML,ih,List.length_nil];omega
     ·exact .inr rfl
theorem Ke (s:ByteArray):(dN s).1.length<=100000:=by
 rcases BA (s.size+1) 0 s (by omega) (by omega) with h|h
 ·unfold dN;omega
 ·unfold dN;rw [h];simp
theorem KU (m:aF):True/\True/\True/\(true=true->true=true)/\(true=true->True)/\(true=true->true=true)/\(true=true->True)/\(true=true->true=true)/\(true=true->true=true)/\(true=true->true=true)/\(true=true/\m.aj=m.aj->true=true/\m.aj=m.aj)/\(true=true/\m.aj=m.aj->true=true/\m.aj=m.aj)/\(true=true/\m.aj=m.aj->true=true/\m.aj=m.aj)/\((true=true/\m.aj=m.aj)/\b0 m=b0 m->(true=true/\m.aj=m.aj)/\b0 m=b0 m)/\((true=true/\m.aj=m.aj)/\b0 m=b0 m->(true=true/\m.aj=m.aj)/\b0 m=b0 m)/\((true=true/\m.aj=m.aj)/\b0 m=b0 m->(true=true/\m.aj=m.aj)/\b0 m=b0 m)/\(true&&m.aj==m.aj&&gr (b0 m) (b0 m)&&m.aj==m.aj)=true:=by
 (repeat' (first|apply And.intro|intro _))<;>first|assumption|trivial|omega|simp [mR]|trace_state
def BB:bZ Tc Tc.dn:=⟨4,[.ty .fp],fun x=>(fun (s:ByteArray)=>s.size<=9223372036854775807) x.1,[.g9],fun x=>(fun (s:ByteArray)=>true) x.1⟩
abbrev ed (s:ByteArray):=(true=true/\(aq s).kind=(aq s).kind/\(aq s).op=(aq s).op/\(aq s).node=(aq s).node/\(aq s).copy.at_.time=(aq s).copy.at_.time/\(aq s).copy.at_.who=(aq s).copy.at_.who/\(aq s).copy.data=(aq s).copy.data)
theorem Kf (s:ByteArray) (hp:s.size<=9223372036854775807):s.size<=(9223372036854775807:Nat)/\s.size<=(9223372036854775807:Nat)/\True/\s.size<=(9223372036854775807:Nat)/\True/\(true=true->true=true)/\(true=true->true=true)/\(true=true->true=true)/\(true=true/\(aq s).kind=(aq s).kind/\(aq s).op=(aq s).op/\(aq s).node=(aq s).node/\(aq s).copy.at_.time=(aq s).copy.at_.time/\(aq s).copy.at_.who=(aq s).copy.at_.who/\(aq s).copy.data=(aq s).copy.data->true=true/\(aq s).kind=(aq s).kind/\(aq s).op=(aq s).op/\(aq s).node=(aq s).node/\(aq s).copy.at_.time=(aq s).copy.at_.time/\(aq s).copy.at_.who=(aq s).copy.at_.who/\(aq s).copy.data=(aq s).copy.data)/\(true=true/\(aq s).kind=(aq s).kind/\(aq s).op=(aq s).op/\(aq s).node=(aq s).node/\(aq s).copy.at_.time=(aq s).copy.at_.time/\(aq s).copy.at_.who=(aq s).copy.at_.who/\(aq s).copy.data=(aq s).copy.data->true=true/\(aq s).kind=(aq s).kind/\(aq s).op=(aq s).op/\(aq s).node=(aq s).node/\(aq s).copy.at_.time=(aq s).copy.at_.time/\(aq s).copy.at_.who=(aq s).copy.at_.who/\(aq s).copy.data=(aq s).copy.data)/\(true=true/\(aq s).kind=(aq s).kind/\(aq s).op=(aq s).op/\(aq s).node=(aq s).node/\(aq s).copy.at_.time=(aq s).copy.at_.time/\(aq s).copy.at_.who=(aq s).copy.at_.who/\(aq s).copy.data=(aq s).copy.data->true=true/\(aq s).kind=(aq s).kind/\(aq s).op=(aq s).op/\(aq s).node=(aq s).node/\(aq s).copy.at_.time=(aq s).copy.at_.time/\(aq s).copy.at_.who=(aq s).copy.at_.who/\(aq s).copy.data=(aq s).copy.data)/\((ed s)/\aG s=aG s->(ed s)/\aG s=aG s)/\((ed s)/\aG s=aG s->(ed s)/\aG s=aG s)/\((ed s)/\aG s=aG s->(ed s)/\aG s=aG s)/\(((ed s)/\aG s=aG s)/\aB s=aB s->((ed s)/\aG s=aG s)/\aB s=aB s)/\(((ed s)/\aG s=aG s)/\aB s=aB s->((ed s)/\aG s=aG s)/\aB s=aB s)/\(((ed s)/\aG s=aG s)/\aB s=aB s->(dN s).fst=(dN s).fst/\(dN s).fst.length<=(100000:Nat))/\(((ed s)/\aG s=aG s)/\aB s=aB s->((ed s)/\aG s=aG s)/\aB s=aB s)/\((((ed s)/\aG s=aG s)/\aB s=aB s)/\true=true->(((ed s)/\aG s=aG s)/\aB s=aB s)/\true=true)/\((((ed s)/\aG s=aG s)/\aB s=aB s)/\true=true->(((ed s)/\aG s=aG s)/\aB s=aB s)/\true=true)/\((((ed s)/\aG s=aG s)/\aB s=aB s)/\true=true->(((ed s)/\aG s=aG s)/\aB s=aB s)/\true=true)/\(true&&((aq s).kind==(aq s).kind&&((aq s).op==(aq s).op&&((aq s).node==(aq s).node&&((aq s).copy.at_.time==(aq s).copy.at_.time&&((aq s).copy.at_.who==(aq s).copy.at_.who&&gr (aq s).copy.data (aq s).copy.data)))))&&aG s==aG s&&aB s==aB s&&true&&(dN s).snd==(dN s).snd)=true:=by
 delta ed
 have h1:=Ke s
 (repeat' (first|apply And.intro|intro _))<;>first|assumption|trivial|omega|simp [mR]|trace_state
theorem Kg:BB.Ok Try.prog tD:=eI eB (Δ:=[wL,sw,sy,sB,wJ,wK]) ⟨Kd,wD,Bv,Bz,J9,Kb,trivial⟩ (Ω:=[]) trivial BB E6 E7 (fun _=>[]) (fun _=>trivial) 0 (fun x=>(fun (s:ByteArray)=>(fun _=>none)) x.1) fun x hp=>Eq.mp (by kernel_rfl) (Kf x.1 hp)
theorem WireReads_walk (s:ByteArray) (BC:s.size<=9223372036854775807):Calls Try.prog 4 #[.string s] w fun e w'=>e= .returned (.bool true)/\Below w.heap.size w w':=by
 have rs:aN.rep w w.heap.size [.string s] s:=⟨rfl,BC⟩
 have hf:Fn Try.prog 4 [(tD.en .fp s).av tD.toTE N0] (.v (.bool true)):=Kg.2 (s,()) N0 (BC)
 exact F8 (vs:=[.string s]) hf trivial (.cons (Je eB (t:= .fp) rfl (LG.str.av rs)) .nil)
end Go.Proofs.Ytpoikkflcpklgaa
