/- What functions answer (contracts). No condition. -/
import Derived.Test.YtpoikkflcpklgaaPSxM
import Derived.Test.YtpoikkflcpklgaaPAc
import Derived.Test.YtpoikkflcpklgaaPSxK
import Derived.WalkKit
import Derived.Handy
import Derived.ProofKit
import Derived.OpenShut
import Derived.ShutString
import Derived.ChangeOld
import Derived.Below
import Derived.Lib.Hide
import Derived.WalkLawsBesides
import Derived.WalkSpells
import Derived.Deep.QuietTactic
import Derived.BigQuiet
import Derived.Defers
import Derived.Recover
import Derived.Laws.Pointers
import Derived.BigCall
import Derived.RegionTactic
import Derived.Lib.FrozenHead
import Derived.Lib.FrozenHead2
set_option linter.unusedSectionVars false
set_option linter.unusedSimpArgs false
set_option linter.unusedVariables false
set_option maxHeartbeats 4000000
set_option maxRecDepth 100000
namespace Go.Proofs.Ytpoikkflcpklgaa
variable {F:dc} {x y:AV} {s:ByteArray} {E:Env} {Q Q':Exit->Go.Act->World->Prop} {a:Go.Act} {K:Go.Act->World->Prop} {ps:List (List aw)} {as_:List AV} {out:List aI} {vs:List Value} {m:aI} {b n u k0 i base q W0 R M:Nat} {g:Nat->Option Bk} {J:Nat->Prop} {N N':au} {P:Program} {s':S3} {α β:Type} {w w':World}
open Go.RowKit
abbrev LP:=@Bool.not_true
abbrev LS:=@Below.heap_setCell
abbrev Ml:=@Array.getElem?_modify
abbrev Mt:=@World.alloc_heap_new
abbrev MK:=@List.getElem?_zip_eq_some
section
variable {F:Go.Fence} {m:Nat} {P:Program} {ops:Array Oper}
theorem wpIn_exit (hq:∀e a w,e≠ .normal->Q e a w->Q' e a w) {o:Oper} (h:o.wpIn F m P a w K Q):o.wpIn F m P a w K Q':=by
 unfold Oper.wpIn at*
 refine ⟨h.1, ?_⟩
 have hh:=h.2
 generalize (o.semAt F.round a.eval).run P w=r at*
 cases r with
 |ok x w'=>
  cases x<;>simp only [Oper.uponIn] at hh ⊢ <;>
   first
    |exact hh
    |exact ⟨hh.1,CallsIn.mono hh.2 (fun e w'' he=>by cases e<;>first|exact he|exact hq _ _ _ (by simp) he|(obtain ⟨a1,w1,h1⟩:=he;exact ⟨a1,w1,hq _ _ _ (by simp) h1⟩))⟩
    |exact ⟨hh.1,RoundIn.mono hh.2 (fun e w'' he=>by cases e<;>first|exact he|exact hq _ _ _ (by simp) he|(obtain ⟨a1,w1,h1⟩:=he;exact ⟨a1,w1,hq _ _ _ (by simp) h1⟩))⟩
 |halt x w'=>cases x<;>simp only [Oper.uponIn] at hh ⊢ <;>first|exact hh|exact hq _ _ _ (by simp) hh
theorem Ie (hq:∀e a w,e≠ .normal->Q e a w->Q' e a w) (h:wpOpIn F m P ops Q i K a w):wpOpIn F m P ops Q' i K a w:=by
 unfold wpOpIn at*
 split
 ·rename_i ho;simpa [ho] using h
 ·rename_i o ho
  simp only [ho] at h
  split
  ·rename_i hw;simp only [hw,KN] at h;exact wpIn_exit hq h
  ·rename_i hw;simp only [hw] at h;exact h
theorem Aa {Q Q':Exit->Go.Act->World->Prop} (hq:∀e a w,e≠ .normal->Q e a w->Q' e a w) {l2:List Nat} (hn:∀a w,Q .normal a w->wpOpsIn F m P ops Q' l2 a w):∀{l1:List Nat} {a:Go.Act} {w:World},wpOpsIn F m P ops Q l1 a w->wpOpsIn F m P ops Q' (l1++l2) a w
 |[],a,w,h=>hn a w h
 |i::l1,a,w,h=>by
  rw [wpOpsIn_cons] at h
  rw [L2,wpOpsIn_cons]
  exact Ie hq (wpOpIn_mono (fun a w h=>Aa hq hn h) h)
inductive ni (P:Program) (n k0:Nat):List (List aw)->S3->S3->Prop
 |nil {s:S3}:ni P n k0 [] s s
 |cons {p:List aw} {ps:List (List aw)} {s t u s':S3} (hw:s.Le k0 n t) (h:fy P n k0 p t.σ t.g t.k u.σ u.g u.k) (r:ni P n k0 ps u s'):ni P n k0 (p::ps) s s'
theorem Ig {rd:Option Nat} {E0:Env} (hk0:∀id,E0.kn id->id<k0) {w0:World} {s:S3} (h:ni P n k0 ps s s'):
  ∀(i:Nat) (a:Go.Act) (w:World),(∀j,j<ps.flatten.length->∃op,ops[i+j]? =some op/\∃o,ps.flatten[j]? =some o/\eK P ops op=some o)->ec E0 J base w0 n s.σ s.g s.k a w->(∀a w,ec E0 J base w0 n s'.σ s'.g s'.k a w->Q .normal a w)->wpOpsIn (cj rd) 0 P ops Q (List.range' i ps.flatten.length) a w:=by
 induction h with
 |nil=>intro i a w _ hr hQ;exact hQ a w hr
 | @cons p ps s t u s' hw h r ih=>
  intro i a w dE hrel hQ
  rw [List.flatten_cons,Ma, <-List.range'_append_1]
  rw [List.flatten_cons,Ma] at dE
  refine Aa (Q:=fun e a w=>match e with| .normal=>wpOpsIn (cj rd) 0 P ops Q (List.range' (i+p.length) ps.flatten.length) a w|e=>Q e a w) (fun e a w he hh=>by cases e<;>first|exact hh|exact absurd rfl he) (fun a w hh=>hh) ?_
  refine xO hk0 h i a w (fun j hj=> ?_) (hw E0 J base w0 a w hk0 hrel) fun a w hr=> ?_
  ·obtain ⟨op,q1,o,q2,q3⟩:=dE j (by omega)
   exact ⟨op,q1,o,by rwa [LH hj] at q2,q3⟩
  ·refine ih (i+p.length) a w (fun j hj=> ?_) hr hQ
   obtain ⟨op,q1,o,q2,q3⟩:=dE (p.length+j) (by omega)
   exact ⟨op,by rw [Nat.add_assoc];exact q1,o,by rwa [LX (by omega),Nat.add_sub_cancel_left] at q2,q3⟩
theorem ED.Ih {s:S3} (h:ni P n k0 ps s s'):ED P n k0 (.bI ps.flatten none) s .normal s':=by
 intro rd c E0 J base w0 a w bU hc hk hr
 obtain ⟨id,ops,draw,rfl,h1,h2⟩:=qi hc
 rcases h2 with ⟨rfl,_⟩|⟨_,d,hd,_⟩
 ·obtain ⟨k1,k2⟩:=n9 h1
  refine wpIn_region ?_
  have hsz:ops.size=ps.flatten.length:=by rw [<-k1];simp
  rw [List.range_eq_range',hsz]
  refine Ig (ops:=ops) hk h 0 a w (fun j hj=> ?_) hr fun a' w' hr'=>⟨.normal,s',⟨rfl,rfl⟩,rfl,hr'⟩
  have jw:j<ops.size:=by omega
  obtain ⟨o,m1,m2⟩:=k2 j ops[j] (by simp [jw])
  exact ⟨ops[j],by rw [KY];exact KX jw,o,m1,m2⟩
 ·simp at hd
end
section
variable {τ:Type} {dn:τ->Type} [DecidableEq τ]
inductive LA (τ:Type) (dn:τ->Type) where
 |inv (vs:List (VK τ)) (I:VT dn vs->VT dn vs->Prop) (m:VT dn vs->VT dn vs->Nat)
 |Ii (m:Nat)
 |gC (ss:List Nat)
 |Ab (i:Nat)
 |cut (vs:List (VK τ)) (I:VT dn vs->VT dn vs->Prop)
 |eq (i:Nat) (z:Int)
 |mS (i:Nat)
 |Ac (f:Nat)
def vG (an:Nat->Option (LA τ dn)) (os:List aw):List Nat:=os.flatMap fun o=>match o.dst with
 |some d=>match an (1000+d) with
  |some (.gC ss)=>ss
  |_=>[]
 |none=>[]
def Ad (an:Nat->Option (LA τ dn)) (os:List aw):Bool:=(vG an os).all fun i=>Nat.blt i 5000
def Ij (an:Nat->Option (LA τ dn)) (os:List aw):Option Nat:=match os with
 |o::_=>match o.dst with
  |some d=>match an (3000+d) with
   |some (.Ab i)=>some i
   |_=>none
  |none=>none
 |[]=>none
def cutB (an:Nat->Option (LA τ dn)) (o:aw):Bool:=match o.dst with
 |some d=>(match an (11000+d) with|some (.Ac _)=>true|_=>false)||(match an (9000+d) with|some (.mS _)=>true|_=>false)||(match an (7000+d) with|some (.eq _ _)=>true|_=>false)||(match an (5000+d) with|some (.cut _ _)=>true|_=>false)||(match an (1000+d) with|some (.gC _)=>true|_=>false)||(match an (3000+d) with|some (.Ab _)=>true|_=>false)
 |none=>false
def pieces (an:Nat->Option (LA τ dn)):List aw->List (List aw)
 |[]=>[]
 |o::os=>match pieces an os with
  |[]=>[[o]]
  |[]::ps=>[o]::ps
  |(p::q)::ps=>bif cutB an p then [o]::(p::q)::ps else (o::p::q)::ps
omit [DecidableEq τ] in
theorem Ae (an:Nat->Option (LA τ dn)):∀os:List aw,(pieces an os).flatten=os
 |[]=>rfl
 |o::os=>by
  have ih:=Ae an os
  unfold pieces
  split
  ·rename_i h;rw [h] at ih;simp at ih;simp [ih]
  ·rename_i h;rw [h] at ih;simp at ih;simp [ih]
  ·rename_i h
   rw [h] at ih
   cases hb:cutB an _ with
   |true=>rw [KP,List.flatten_cons,ih];rfl
   |false=>rw [K4,List.flatten_cons,L2, <-List.flatten_cons,ih]
def Af (an:Nat->Option (LA τ dn)) (os:List aw):Option ((vs:List (VK τ))×(VT dn vs->VT dn vs->Prop)):=match os with
 |o::_=>match o.dst with
  |some d=>match an (5000+d) with
   |some (.cut vs I)=>some ⟨vs,I⟩
   |_=>none
  |none=>none
 |[]=>none
def Ag (an:Nat->Option (LA τ dn)) (os:List aw):Option (Nat×Int):=match os with
 |o::_=>match o.dst with
  |some d=>match an (7000+d) with
   |some (.eq i z)=>some (i,z)
   |_=>none
  |none=>none
 |[]=>none
def rY (o:Option (Nat×Int)) (st:SS τ dn) (K:SS τ dn->Prop):Prop:=match o with
 |none=>K st
 |some (i,z)=>match st.gt i with
  |some (.vi x)=>x=z/\K (st.ff i (.vn z))
  |_=>K st
omit [DecidableEq τ] in
theorem Ah {D:TD τ dn} {o:Option (Nat×Int)} {st:SS τ dn} {s:S3} {K:SS τ dn->Prop} (R:Rel D N st s) (h:rY o st K):∃ah,Rel D N ah s/\ah.rt=st.rt/\ah.rm=st.rm/\ah.nx=st.nx/\K ah:=by
 unfold rY at h
 split at h
 ·exact ⟨st,R,rfl,rfl,rfl,h⟩
 ·rename_i i z
  split at h
  ·rename_i x hx
   obtain ⟨hz,h⟩:=h
   refine ⟨st.ff i (.vn z),⟨fun N' hN=> ?_,R.inj,R.lt,R.ml,R.rl,R.sp⟩,rfl,rfl,rfl,h⟩
   have A:=R.at_ N' hN
   refine ⟨fun j v hv=> ?_,A.rs,A.bl,A.rb,A.ar⟩
   simp only [SS.ff,aR] at hv
   split at hv
   ·rename_i e
    simp only [KJ] at hv
    subst hv;subst e
    rw [A.gt hx]
    simp only [SV.av,hz]
   ·exact A.sl j v hv
  ·exact ⟨st,R,rfl,rfl,rfl,h⟩
def Ik (an:Nat->Option (LA τ dn)) (os:List aw) (st:SS τ dn):List Nat:=match os with
 |o::_=>match o.dst with
  |some d=>match an (9000+d) with
   |some (.mS i)=>match st.gt i with
    |some (.own nm _)=>match st.gm nm with
     |some (.bc _ els)=>els.flatMap fun cs=>cs.filterMap uP
     |_=>[]
    |_=>[]
   |_=>[]
  |none=>[]
 |[]=>[]
def pr (an:Nat->Option (LA τ dn)) (os:List aw):Option Nat:=match os with
 |o::_=>match o.dst with
  |some d=>match an (11000+d) with
   |some (.Ac f)=>some f
   |_=>none
  |none=>none
 |[]=>none
def bQ.wo (C:bQ τ dn) (o:Option Nat):bQ τ dn:=⟨C.P,C.D,(match o with
 |none=>C.Δ
 |some f=>C.Δ.filter fun c=> !Nat.beq c.f f),C.Ω,C.fl,C.J,o.isSome⟩
omit [DecidableEq τ] in
theorem bQ.Ok.wo {C:bQ τ dn} (h:C.Ok) (o:Option Nat):(C.wo o).Ok:=by
 refine ⟨h.ok,fun c hc=> ?_,h.zg,h.inl⟩
 cases o with
 |none=>exact h.rv c hc
 |some f=>exact h.rv c (List.mem_filter.1 hc).1
def isBl:VK τ->Bool
 | .bl _ _=>true
 |_=>false
def rZ (D:TD τ dn) (c:Option ((vs:List (VK τ))×(VT dn vs->VT dn vs->Prop))) (st:SS τ dn) (K:SS τ dn->Prop):Prop:=match c with
 |none=>K st
 |some ⟨vs,I⟩=>match j3 D st vs with
  |some x0=>bif vs.all isBl&&okT (lessB st.nx) vs (vs.map (nmV st)) then I x0 x0/\rJ vs fun x=>I x0 x->K ⟨st.rt,st.rm,st.t,putM D vs (vs.map (nmV st)) x++st.m,st.nx⟩ else False
  |none=>False
theorem Ai {D:TD τ dn} (ok:aQ D) {c:Option ((vs:List (VK τ))×(VT dn vs->VT dn vs->Prop))} {st:SS τ dn} {s:S3} {K:SS τ dn->Prop} (R:Rel D N st s) (h:rZ D c st K):∃ah,Rel D N ah s/\ah.rt=st.rt/\ah.rm=st.rm/\ah.nx=st.nx/\K ah:=by
 unfold rZ at h
 split at h
 ·exact ⟨st,R,rfl,rfl,rfl,h⟩
 ·rename_i vs I
  split at h
  case h_2=>exact h.elim
  rename_i x0 hx
  cases hb:(vs.all isBl&&okT (lessB st.nx) vs (vs.map (nmV st))) with
  |false=>rw [hb] at h;exact h.elim
  |true=>
  rw [hb,KP] at h
  rw [KM] at hb
  obtain ⟨hbl,hT⟩:=hb
  have hk:=(rK.1 h.2) x0 h.1
  have jg:(vs.map (nmV st)).length=vs.length:=K7 ..
  have Aj:∀nm B,getS (putM D vs (vs.map (nmV st)) x0++st.m) nm=some (some B)->(nm,some B)∈putM D vs (vs.map (nmV st)) x0\/getS st.m nm=some (some B):=fun nm B hB=>by
   rw [fh] at hB
   cases hq:getS (putM D vs (vs.map (nmV st)) x0) nm with
   |some w=>rw [hq] at hB;simp only [Ms,KJ] at hB;subst hB;exact .inl (gX hq)
   |none=>rw [hq] at hB;simp only [Mc] at hB;exact .inr hB
  have aJ:∀nm B,(nm,some B)∈putM D vs (vs.map (nmV st)) x0->(∃B',st.bd nm B')/\∀t A,B≠ .ar t A:=fun nm B hB=>by
   rcases rO hx jg nm B hB with ⟨j,v,p1,p2,p3,⟨B',p4⟩,p5⟩|⟨_,⟨B',p4⟩,p5⟩
   case inr=>exact ⟨⟨B',fF p4⟩,p5⟩
   rw [Ld,p1] at p2
   simp only [KV,KJ] at p2
   refine ⟨⟨B',by rw [<-p2];exact fF p4⟩,fun t A e=> ?_⟩
   have:=KQ.1 hbl v (Lq p1)
   rw [(p5 t A e).1] at this
   simp [isBl] at this
  have cC:∀nm B,(⟨st.rt,st.rm,st.t,putM D vs (vs.map (nmV st)) x0++st.m,st.nx⟩:SS τ dn).bd nm B->(∃B',st.bd nm B')/\∀t A,B= .ar t A->st.bd nm (.ar t A):=fun nm B hB=>by
   rcases hB with hB|hB
   ·rcases Aj nm B hB with h1|h1
    ·obtain ⟨q1,q2⟩:=aJ nm B h1
     exact ⟨q1,fun t A e=>absurd e (q2 t A)⟩
    ·exact ⟨⟨B, .inl h1⟩,fun t A e=>by subst e;exact .inl h1⟩
   ·exact ⟨⟨B, .inr hB⟩,fun t A e=>by subst e;exact .inr hB⟩
  refine ⟨⟨st.rt,st.rm,st.t,putM D vs (vs.map (nmV st)) x0++st.m,st.nx⟩,⟨fun N' hN=> ?_,R.inj,R.lt,fun nm B hB=> ?_,R.rl,fun t A hA id hid=> ?_⟩,rfl,rfl,rfl,hk⟩
  ·have A:=R.at_ N' hN
   refine ⟨A.sl,A.rs,fun nm B hB=> ?_,A.rb,fun t A' hA id hid=>A.ar t A' ((cC 0 _ hA).2 t A' rfl) id hid⟩
   rcases Aj nm B hB with h1|h1
   ·obtain ⟨B',e,q⟩:=je ok (rN ok A hx) nm (some B) h1
    simp only [KJ] at e;subst e
    exact q
   ·exact A.bl nm B h1
  ·show nm<st.nx
   have aP:getS (putM D vs (vs.map (nmV st)) x0++st.m) nm=some B:=hB
   rw [fh] at aP
   cases hq:getS (putM D vs (vs.map (nmV st)) x0) nm with
   |some w=>exact pj (l6 hT nm w (gX hq))
   |none=>rw [hq] at aP;simp only [Mc] at aP;exact R.ml nm B aP
  ·have h1:=(cC 0 _ hA).2 t A rfl
   obtain ⟨q1,q2⟩:=R.sp t A h1 id hid
   refine ⟨q1,fun nm B hB=> ?_⟩
   obtain ⟨⟨B',aP⟩,_⟩:=cC nm B hB
   exact q2 nm B' aP
def AC.nl:AC->Nat
 | .seq a b=>a.nl+b.nl
 | .cond _ a b=>a.nl+b.nl
 | .block _ a=>a.nl
 | .loop a=>a.nl+1
 |_=>0
def AC.gY:AC->List Nat
 | .seq a b=>a.gY++b.gY
 | .cond _ a b=>a.gY++b.gY
 | .block _ a=>a.gY
 | .loop a=>a.gY
 | .bI os _=>os.filterMap aw.dst
 |_=>[]
def iA (D:TD τ dn) (st:SS τ dn):VK τ->SS τ dn
 | .ow i t=>match st.gt i with
  |some .emp=>bif Nat.blt 0 (D.sz t)&&(getS st.rt i).isNone then ⟨st.rt,st.rm,(i, .own st.nx (D.sz t))::st.t,(st.nx,some (.bl t []))::st.m,st.nx+1⟩ else st
  |_=>st
 | .so q f t _| .sg q f t _ _=>match st.gm q with
  |some (.bc Q [vs])=>match vs[f]? with
   |some .emp=>bif Nat.blt 0 (D.sz t)&&(Nat.blt 0 Q&&st.rw q) then ⟨st.rt,st.rm,st.t,(q,some (.bc Q [vs.set f (.own st.nx (D.sz t))]))::(st.nx,some (.bl t []))::st.m,st.nx+1⟩ else st
   |_=>st
  |_=>st
 |_=>st
def nj (D:TD τ dn):SS τ dn->List (VK τ)->SS τ dn
 |st,[]=>st
 |st,v::r=>nj D (iA D st v) r
def vH (B:SS τ dn->(Ex->SS τ dn->Prop)->Prop):Nat->SS τ dn->(Ex->SS τ dn->Prop)->Prop
 |0,_,_=>False
 |m+1,st,K=>B st fun e ah=>match e with
  | .normal=>vH B m ah K
  |e=>K e ah
def okB (vs:List (VK τ)) (T:List Nat) (st:SS τ dn) (p:Nat->Bool) (ft:List (Nat×SV τ dn)) (fm:List (Nat×Option (SB τ dn))):Bool:=
 (st.rt.all fun q=>q.2.fr p&& !hasN (dN vs) q.1&&(getS ft q.1).isNone)&&(st.rm.all fun q=>p q.1&&(match q.2 with|some B=>B.fr p|none=>true)&&(getS fm q.1).isNone)&&
 okT (lessB st.nx) vs T&&okT (fun a=> !hasN (movesV vs T) a) (vs.filter fun v=> !kU v) ((vs.zip T).filterMap fun q=>bif kU q.1 then none else some q.2)&&ph (movesV vs T)
def nextB (vs:List (VK τ)) (T A:List Nat) (nx nx':Nat):Bool:=
 ph ((List.range nx).map (dx vs T A))&&((List.range nx).all fun a=>lessB nx' (dx vs T A a))&&((vs.zip (T.zip A)).all fun q=>eo q.1||(Nat.beq (dx vs T A q.2.1) q.2.2&&(kU q.1||Nat.beq q.2.1 q.2.2)))&&(gg vs).all fun a=>Nat.beq (dx vs T A a) a
def keepP (vs:List (VK τ)) (T:List Nat) (nx:Nat) (a:Nat):Bool:=lessB nx a&& !hasN (movesV vs T) a
def Ak (D:TD τ dn) (fl:Nat) (vs:List (VK τ)) (I:VT dn vs->Prop) (ms:VT dn vs->Nat) (B:SS τ dn->(Ex->SS τ dn->Prop)->Prop) (st:SS τ dn) (K:Ex->SS τ dn->Prop) (T:List Nat) (x0:VT dn vs) (ft:List (Nat×SV τ dn)) (fm:List (Nat×Option (SB τ dn))):Prop:=
 bif okB vs T st (keepP vs T st.nx) ft fm&&(movesV vs T).all (Nat.ble fl) then I x0/\rJ vs fun x=>I x->B ⟨ft++st.rt,fm++st.rm,bw D vs T x,putM D vs T x,st.nx⟩ fun e ah=>match e with
  | .normal=>match j3 D ah vs with
   |some x'=>bif nextB vs T (vs.map (nmV ah)) st.nx ah.nx then I x'/\ms x'<ms x else False
   |none=>False
  |e=>K e ⟨st.rt,st.rm,ah.t++ft,ah.m++fm,ah.nx⟩
 else False
def vI (D:TD τ dn) (fl:Nat) (vs:List (VK τ)) (I:VT dn vs->VT dn vs->Prop) (ms:VT dn vs->VT dn vs->Nat) (gY:List Nat) (B:SS τ dn->(Ex->SS τ dn->Prop)->Prop) (st:SS τ dn) (K:Ex->SS τ dn->Prop):Prop:=
 match j3 D st vs with
 |none=>False
 |some x0=>Ak D fl vs (I x0) (ms x0) B st K (vs.map (nmV st)) x0 (j2 (keepP vs (vs.map (nmV st)) st.nx) (dN vs++gY) st.t) (jc (keepP vs (vs.map (nmV st)) st.nx) (l5 vs (vs.map (nmV st))) st.m)
def Al (C:bQ τ dn) (n:Nat) (c:Cn) (a b:AC) (st:SS τ dn):Option (List Prop×SS τ dn):=
 match a,b with
 | .skip, .bI os none=>rX C n c true os st
 | .bI os none, .skip=>rX C n c false os st
 |_,_=>none
def r7 (C:bQ τ dn) (n:Nat) (an:Nat->Option (LA τ dn)):List (List aw)->SS τ dn->(SS τ dn->Prop)->Prop
 |[],st,K=>K st
 |p::ps,st,K=>nc C.D (Ad an (p.take 1)) (st.rS (vG an (p.take 1))) st fun st=>uY (Ij an p) st fun st=>rZ C.D (Af an p) st fun st=>rY (Ag an p) st fun st=>ja C.D (Ik an p st) st fun st=>wpOps (C.wo (pr an p)) n none true p [] st fun st=>r7 C n an ps st K
def ep (C:bQ τ dn) (n:Nat) (an:Nat->Option (LA τ dn)):AC->Nat->SS τ dn->(Ex->SS τ dn->Prop)->Prop
 | .skip,_,st,K=>K .normal st
 | .ret,_,st,K=>K .ret st
 | .exit i,_,st,K=>K (.exit i) st
 | .seq a b,k,st,K=>ep C n an a k st fun e ah=>match e with
  | .normal=>ep C n an b (k+a.nl) ah K
  |e=>K e ah
 | .cond c a b,k,st,K=>match st.ev c with
  |some (.vt true)=>ep C n an a k st K
  |some (.vt false)=>ep C n an b (k+a.nl) st K
  |some (.vb c)=>match Al C n c a b st with
   |some (O,ah)=>eS O (K .normal ah)
   |none=>(c.tf true->ep C n an a k st K)/\(c.tf false->ep C n an b (k+a.nl) st K)
  |_=>False
 | .block i a,k,st,K=>ep C n an a k st fun e ah=>K (e.iW i) ah
 | .loop a,k,st,K=>match an k with
  |some (.Ii m)=>vH (ep C n an a (k+1)) m st K
  |some (.inv vs I ms)=>vI C.D C.fl vs I ms a.gY (ep C n an a (k+1)) (nj C.D st vs) K
  |_=>False
 | .bI os none,_,st,K=>r7 C n an (pieces an os) st (K .normal)
 | .bI os (some dep),_,st,K=>nc C.D (Ad an os) (st.rS (vG an os)) st fun st=>rZ C.D (Af an os) st fun st=>rY (Ag an os) st fun st=>wpOps (C.wo (pr an os)) n (some dep) (HE (C.wo (pr an os)) (some dep) os) os [] st (K .normal)
 | .qh _ _ _ _,_,_,_=>False
def Ends (C:bQ τ dn) (n k0:Nat) (ac:AC) (N:au) (st:SS τ dn) (s:S3) (K:Ex->SS τ dn->Prop):Prop:=
 ∃e s' N' ah,ED C.P n k0 ac s e s'/\Rel C.D N' ah s'/\ah.rt=st.rt/\ah.rm=st.rm/\(N.aW C.fl N'/\C.fl<=ah.nx)/\K e ah
theorem r8 {m:Nat} (h:N.aW m N') (hn:n<=m):N.aW n N':=⟨fun a ha=>h.1 a (K8 ha hn),h.2⟩
end
section
theorem aB.Il (hm:aB E J base g) {B B':Bk} (hB:g q=some B) (hz:B.sz≠0) (hsz:B'.sz=B.sz) (hl:B.els.length=B'.els.length) (hc:∀(i:Nat) cs ds,B.els[i]? =some cs->B'.els[i]? =some ds->cs.length=ds.length/\∀(j:Nat) c d,cs[j]? =some c->ds[j]? =some d->∀v,ae E v c->ae E v d):aB E J base (aj g [(q,some B')]):=by
 have aJ:∀{id X},aj g [(q,some B')] id=some X->(id=q/\X=B')\/(id≠q/\g id=some X):=fun {id X} h=>by
  simp only [aj] at h
  by_cases e:id=q
  ·rw [KL e] at h;simp only [KJ] at h;exact .inl ⟨e,h.symm⟩
  ·rw [KK e] at h;exact .inr ⟨e,h⟩
 have r9:∀{id X},aj g [(q,some B')] id=some X->∃Y,g id=some Y:=fun h=>by
  rcases aJ h with ⟨rfl,_⟩|⟨_,h⟩
  ·exact ⟨_,hB⟩
  ·exact ⟨_,h⟩
 refine ⟨fun id=> ?_,fun id X hg=> ?_,fun id cm b B1 B2 h1 h2 h3 h4=> ?_,fun id b X hg hb=> ?_,hm.low,hm.size,fun id X hg cD=> ?_,hm.gi,fun b hb=>⟨(hm.xo b hb).1,(hm.xo b hb).2.1,fun k B1 hk he=>(r9 hk).elim fun B2 h2=>(hm.xo b hb).2.2 k B2 h2 he⟩⟩
 ·rw [hm.live id]
  simp only [aj]
  by_cases e:id=q
  ·subst e;rw [KL rfl,hB];exact ⟨fun _=>⟨_,rfl⟩,fun _=>⟨_,rfl⟩⟩
  ·rw [KK e]
 ·rcases aJ hg with ⟨rfl,rfl⟩|⟨_,h⟩
  ·have h0:=hm.at_ id B hB
   cases hloc:E.loc id with
   |none=>
    rw [hloc] at h0
    have ks:B.els=[]:=h0
    show X.els=[]
    rw [ks] at hl
    exact L9 (by simpa using hl.symm)
   |some b=>
    rw [hloc] at h0
    obtain ⟨h1,⟨hz0,arr,t,h2,h3,h4⟩|⟨hz0,_⟩⟩:=h0
    ·refine .iE ⟨h1,arr,t,h2,by rw [<-hl,hsz];exact h3,fun i ds hi=> ?_⟩ (by rw [hsz];exact hz0)
     have cg:i<B.els.length:=by rw [hl];exact (KS.1 hi).1
     have hcs:=K0 cg
     obtain ⟨e1,e2⟩:=hc i _ ds hcs hi
     refine ⟨by rw [<-e1,hsz];exact (h4 i _ hcs).1,fun j d hj=> ?_⟩
     have aU:j<B.els[i].length:=by rw [e1];exact (KS.1 hj).1
     obtain ⟨u,u1,u2,u3⟩:=(h4 i _ hcs).2 j _ (K0 aU)
     exact ⟨u,by rw [hsz];exact u1,u2,e2 j _ d (K0 aU) hj u u3⟩
    ·exact absurd hz0 hz
  ·exact hm.at_ id X h
 ·obtain ⟨Y1,y1⟩:=r9 h1
  obtain ⟨Y2,y2⟩:=r9 h2
  exact hm.apart id cm b Y1 Y2 y1 y2 h3 h4
 ·obtain ⟨Y,y⟩:=r9 hg
  exact hm.out id b Y y hb
 ·rcases aJ hg with ⟨rfl,rfl⟩|⟨_,h⟩
  ·rw [<-hl];exact hm.len id B hB hz
  ·exact hm.len id X h cD
theorem S3.Im {s:S3} {Q sz f:Nat} {cs:List AV} (hq:s.g q=some ⟨Q,[cs]⟩) (hk:q<s.k) (hf:cs[f]? =some .emp) (hQ:Q≠0) (hz:sz≠0):s.Le k0 n ⟨s.σ,aj (aj s.g [(s.k,some ⟨sz,[]⟩)]) [(q,some ⟨Q,[cs.set f (.own s.k sz 0 0)]⟩)],s.k+1⟩:=by
 intro E0 J base w0 a w hk0 hr
 obtain ⟨E,rfl,hle,hs,hm,aX,hmk⟩:=hr.ex
 obtain ⟨E',hw,hE,hM,k1,k2,k3,k4,k5⟩:=hm.pV (fresh:=s.k) (fun hh=>LZ _ (aX _ hh)) sz
 have gn:aj s.g [(s.k,some ⟨sz,[]⟩)] q=some ⟨Q,[cs]⟩:=by simp only [aj];rw [KK (by omega)];exact hq
 have ic:f<cs.length:=(KS.1 hf).1
 have hM2:=hM.Il (B':=⟨Q,[cs.set f (.own s.k sz 0 0)]⟩) gn hQ rfl rfl (fun i c1 d1 h1 h2=>by
  cases i with
  |succ i=>simp at h1
  |zero=>
   simp only [Ll,KJ] at h1 h2
   subst h1;subst h2
   refine ⟨by simp,fun j c d hc hd v hv=> ?_⟩
   rw [List.getElem?_set] at hd
   by_cases e:f=j
   ·subst e
    rw [KL rfl,KL ic,KJ] at hd
    subst hd
    rw [hf,KJ] at hc
    subst hc
    obtain ⟨A,hA⟩:=tF hv
    rw [hA]
    exact .bL k1 k2 k3 k5 hz
   ·rw [KK e,hc,KJ] at hd
    subst hd;exact hv)
 refine ⟨⟨E',hw,hle.trans hE,fun j=>(hs j).step hE,hM2,fun id hid=> ?_,hmk.step hE⟩,hr.size,hr.below,hr.gl⟩
 show id<s.k+1
 rcases k4 id hid with h|h
 ·have:=aX id h;omega
 ·omega
end
section
variable {τ:Type} {dn:τ->Type}
theorem Am {D:TD τ dn} {n k0:Nat}:∀{vs:List (VK τ)} {N:au} {st:SS τ dn} {s:S3},Rel D N st s->∃s' N',s.Le k0 n s'/\Rel D N' (nj D st vs) s'/\(nj D st vs).rt=st.rt/\(nj D st vs).rm=st.rm/\N.aW st.nx N'/\st.nx<=(nj D st vs).nx
 |[],N,st,s,R=>⟨s,N,S3.Le.kS,R,rfl,rfl,N.dH _,KO _⟩
 |v::r,N,st,s,R=>by
  have one:∃s' N',s.Le k0 n s'/\Rel D N' (iA D st v) s'/\(iA D st v).rt=st.rt/\(iA D st v).rm=st.rm/\N.aW st.nx N'/\st.nx<=(iA D st v).nx:=by
   have no:∃s' N',s.Le k0 n s'/\Rel D N' st s'/\st.rt=st.rt/\st.rm=st.rm/\N.aW st.nx N'/\st.nx<=st.nx:=⟨s,N,S3.Le.kS,R,rfl,rfl,N.dH _,KO _⟩
   have An:∀(q f:Nat) (t:τ) (cs:List (Nat×Nat)),∃s' N',s.Le k0 n s'/\Rel D N' (iA D st (.so q f t cs)) s'/\(iA D st (.so q f t cs)).rt=st.rt/\(iA D st (.so q f t cs)).rm=st.rm/\N.aW st.nx N'/\st.nx<=(iA D st (.so q f t cs)).nx:=by
    intro q f t cs
    simp only [iA]
    split
    ·rename_i Q vs hB
     split
     ·rename_i hf
      cases hb:(Nat.blt 0 (D.sz t)&&(Nat.blt 0 Q&&st.rw q)) with
      |false=>rw [K4];exact no
      |true=>
       rw [KP]
       rw [KM,KM] at hb
       have hz:D.sz t≠0:=Nat.ne_of_gt (Ly hb.1)
       have hQ:Q≠0:=Nat.ne_of_gt (Ly hb.2.1)
       obtain ⟨⟨B1,m1⟩,r1⟩:=iu hb.2.2
       have hB1:B1= .bc Q [vs]:=by have:=kN m1;rw [this] at hB;simpa using hB
       subst hB1
       have np:=R.ml q _ m1
       obtain ⟨g1,g2⟩:=R.here.bl q _ m1
       have R1:=R.go (n:=0) (d:=none) (r:= .new [] (.own st.nx (D.sz t)) (.bl t [])) rfl rfl (val:= .own s.k (D.sz t) 0 0) (ups:=[(s.k,some ⟨D.sz t,[]⟩)]) (fun N' hN=>by
        simp only [SR.v,SV.av]
        have h1:=hN.1 st.nx (LQ _)
        simp only [SR.up,au.cN,KN] at h1
        rw [h1.1,h1.2];rfl) (fun N' hN=>rfl)
       have dD:=N.jP st.nx s.k 0
       have Io:(N.cN st.nx s.k 0).ι q=N.ι q:=(dD.1 q np).1
       have Ip:(N.cN st.nx s.k 0).ι st.nx=s.k/\(N.cN st.nx s.k 0).ln st.nx=0:=by simp [au.cN]
       have aA:q≠st.nx:=Nat.ne_of_lt np
       have pT:(SR.put [] (.vo undef) q (.bc Q [vs.set f (.own st.nx (D.sz t))]):SR τ dn).may D (N.cN st.nx s.k 0) ((SR.new [] (.own st.nx (D.sz t)) (.bl t []):SR τ dn).st st none):=by
        refine ⟨⟨.bc Q [vs], ?_, ?_⟩,r1,rfl⟩
        ·show getS ((st.nx,some (.bl t []))::st.m) q=_
         rw [aR,KK aA];exact m1
        ·rw [(dD.1 q np).2,g2];rfl
       have Iq:∀N':au,(N.cN st.nx s.k 0).aW (st.nx+1) N'->(vs.map (SV.av D.toTE N'))=vs.map (SV.av D.toTE N):=fun N' hN=>by
        have A':=R.at_ N' (au.ef dD hN (Nat.le_succ _))
        have e1:=(A'.bl q _ m1).1
        rw [((au.ef dD hN (Nat.le_succ _)).1 q np).1,g1] at e1
        simpa [SB.av,SV.bA,SV.ba] using e1.symm
       have R2:=R1.go (n:=0) (d:=none) (r:= .put [] (.vo undef) q (.bc Q [vs.set f (.own st.nx (D.sz t))])) rfl pT (val:= .v undef) (ups:=[(N.ι q,some ⟨Q,[(vs.map (SV.av D.toTE N)).set f (.own s.k (D.sz t) 0 0)]⟩)]) (fun N' hN=>rfl) (fun N' hN=>by
        have vJ:(N.cN st.nx s.k 0).aW (st.nx+1) N':=hN
        have h1:=vJ.1 st.nx (LQ _)
        have h2:=(vJ.1 q (Mr np)).1
        simp only [SR.ups,SB.av,SV.bA,SV.ba,Mb,SV.av,h1.1,h1.2,h2,Ip,Io,Iq N' vJ])
       refine ⟨_,N.cN st.nx s.k 0,S3.Im (q:=N.ι q) (f:=f) (cs:=vs.map (SV.av D.toTE N)) (sz:=D.sz t) (by rw [g1];simp only [SB.av,SV.bA,SV.ba]) (R.lt q np) (by rw [Ld,hf];rfl) hQ hz, ?_,rfl,rfl,dD,Nat.le_succ _⟩
       exact R2
     ·exact no
    ·exact no
   cases v with
   |ow i t=>
    simp only [iA]
    split
    ·rename_i hg
     cases hb:(Nat.blt 0 (D.sz t)&&(getS st.rt i).isNone) with
     |false=>rw [K4];exact no
     |true=>
      rw [KP]
      rw [KM] at hb
      have hz:D.sz t≠0:=Nat.ne_of_gt (Ly hb.1)
      have hσ:s.σ i= .emp:=R.here.gt hg
      refine ⟨_,N.cN st.nx s.k 0,S3.HR hσ hz, ?_,rfl,rfl,N.jP _ _ _,Nat.le_succ _⟩
      have:=R.go (n:=i+1) (d:=some i) (r:= .new [] (.own st.nx (D.sz t)) (.bl t [])) (by simp only [dstS,KM];exact ⟨Nat.ble_eq_true_of_le (KO _),hb.2⟩) rfl (val:= .own s.k (D.sz t) 0 0) (ups:=[(s.k,some ⟨D.sz t,[]⟩)]) (fun N' hN=>by
       simp only [SR.v,SV.av]
       have h1:=hN.1 st.nx (LQ _)
       simp only [SR.up,au.cN,KN] at h1
       rw [h1.1,h1.2];rfl) (fun N' hN=>rfl)
      refine cast ?_ this
      congr 2
      funext j
      simp only [bp,KJ]
      by_cases hj:j=i
      ·subst hj;rw [KL ⟨rfl,LQ _⟩,KL rfl]
      ·rw [KK (fun hh=>hj hh.1.symm),KK hj]
    ·exact no
   |so q f t cs=>exact An q f t cs
   |sg q f t S fx=>exact An q f t []
   |_=>exact no
  obtain ⟨s1,N1,h1,h2,h3,h4,h5,h6⟩:=one
  obtain ⟨s2,N2,q1,q2,q3,q4,q5,q6⟩:=Am (vs:=r) h2
  exact ⟨s2,N2,h1.trans' q1,q2,q3.trans h3,q4.trans h4,au.ef h5 q5 h6,Lg h6 q6⟩
mutual
theorem SV.ma {p q:Nat->Bool} (h:∀a,p a=true->q a=true):∀(v:SV τ dn),v.fr p=true->v.fr q=true
 | .own nm sz,hv| .part nm sz _ _,hv| .ref nm sz _ _,hv| .mp nm,hv=>by simp only [SV.fr] at hv ⊢; exact h nm hv
 | .agg cs,hv| .aG cs,hv| .fn _ cs,hv| .bf _ cs,hv| .pim cs _,hv=>by simp only [SV.fr] at hv ⊢; exact SV.vK h cs hv
 | .vc _ els,hv=>by simp only [SV.fr] at hv ⊢; exact SV.sa h els hv
 | .vg p c v,hv=>by simp only [SV.fr] at hv ⊢; exact SV.ma h v hv
 | .rw _ _,_| .cH _ _ _ _,_| .vl _ _,_| .vi _,_| .vn _,_| .vy _,_| .vu _,_| .vw _ _,_| .vb _,_| .vt _,_| .vz _,_| .vo _,_| .emp,_| .dead,_=>by simp only [SV.fr]
theorem SV.vK {p q:Nat->Bool} (h:∀a,p a=true->q a=true):∀(cs:List (SV τ dn)),SV.cY p cs=true->SV.cY q cs=true
 |[],_=>rfl
 |v::r,hv=>by simp only [SV.cY,KM] at hv ⊢; exact ⟨SV.ma h v hv.1,SV.vK h r hv.2⟩
theorem SV.sa {p q:Nat->Bool} (h:∀a,p a=true->q a=true):∀(els:List (List (SV τ dn))),SV.jG p els=true->SV.jG q els=true
 |[],_=>rfl
 |v::r,hv=>by simp only [SV.jG,KM] at hv ⊢; exact ⟨SV.vK h v hv.1,SV.sa h r hv.2⟩
end
theorem SB.ma {p q:Nat->Bool} (h:∀a,p a=true->q a=true) (B:SB τ dn) (hB:B.fr p=true):B.fr q=true:=by
 cases B with
 |bl t xs=>rfl
 |bc sz els=>simp only [SB.fr] at hB ⊢; exact SV.sa h els hB
 |mc els=>simp only [SB.fr] at hB ⊢; exact SV.sa h els hB
 |ar t A=>rfl
def iB (D:TD τ dn) (st:SS τ dn):List jA->Option (List Prop×List (SV τ dn))
 |[]=>some ([],[])
 | .tmp i::r=>match st.gt i,iB D st r with
  |some v,some (O,l)=>some (O,v::l)
  |_,_=>none
 | .cell i m::r=>match st.gt i,iB D st r with
  |some a,some (O,l)=>match lQ D st m a with
   |some (.val O' v)=>some (O'++O,v::l)
   |_=>none
  |_,_=>none
def jh (vs:List (SV τ dn)) (i:Nat):List (Nat×SV τ dn):=match vs with
 |[]=>[]
 |v::r=>(i,v)::jh r (i+1)
theorem vL {i:Nat}:∀{vs:List (SV τ dn)} {k:Nat} {v:SV τ dn},getS (jh vs k) i=some v->k<=i/\vs[i - k]? =some v
 |[],k,v,h=>by simp [jh,getS] at h
 |w::r,k,v,h=>by
  simp only [jh,aR] at h
  by_cases hi:i=k
  ·rw [KL hi,KJ] at h
   subst h;subst hi;exact ⟨KO _,by simp⟩
  ·rw [KK hi] at h
   obtain ⟨h1,h2⟩:=vL h
   refine ⟨by omega, ?_⟩
   rw [show i - k=(i - (k+1))+1 by omega,LD];exact h2
theorem Ir {D:TD τ dn} {st:SS τ dn} {σ:Nat->AV} (ok:aQ D) (R:aS D N st σ g) {m:Option Nat} {a:SV τ dn} (hx:st.gt i=some a) {O:List Prop} {v:SV τ dn} (h:lQ D st m a=some (.val O v)) (hO:∀p,p∈O->p):(oa m (σ i)).run g=some (v.av D.toTE N):=by
 have e:=yM ok R (x:= .s i) hx h 0 hO trivial
 have hs:aD σ (.s i)=σ i:=rfl
 simp only [AO.af,hs] at e
 unfold oa
 cases hσ:σ i<;>rw [hσ] at e<;>simp only at e ⊢
 case pim cs o=>
  cases hg:getCells cs o m with
  |none=>rw [hg] at e;simp [RM.opt,RM.run] at e
  |some w=>rw [hg] at e;simp only [KV,RM.opt,RM.run,KJ,Out.done.injEq] at e;simp only [RM.opt,RM.run,e.1];rfl
 case ref id sz j o=>
  simp only [RM.run] at e ⊢
  cases hg:g id with
  |none=>rw [hg] at e;simp at e
  |some B=>
   rw [hg] at e
   simp only at e ⊢
   split at e
   ·rename_i hz
    rw [KL hz]
    cases hq:(B.els[j]?.bind fun cs=>getCells cs o m) with
    |none=>rw [hq] at e;simp [RM.opt,RM.run] at e
    |some w=>rw [hq] at e;simp only [KV,RM.opt,RM.run,KJ,Out.done.injEq] at e;simp only [RM.opt,RM.run,e.1];rfl
   ·simp [RM.run] at e
 all_goals simp [RM.run] at e
theorem sc {D:TD τ dn} {N:au} {st:SS τ dn} {σ:Nat->AV} {g:Nat->Option Bk} (ok:aQ D) (R:aS D N st σ g):∀{res:List jA} {O:List Prop} {l:List (SV τ dn)},iB D st res=some (O,l)->(∀p,p∈O->p)->(iT σ res).run g=some (l.map (SV.av D.toTE N))
 |[],O,l,h,hO=>by simp only [iB,KJ,KZ] at h;obtain ⟨_,rfl⟩:=h;rfl
 | .tmp i::r,O,l,h,hO=>by
  simp only [iB] at h
  split at h
  ·rename_i v O' l' h1 h2
   simp only [KJ,KZ] at h;obtain ⟨rfl,rfl⟩:=h
   simp only [iT]
   rw [de (sc ok R h2 hO)]
   simp only [RM.run,KW,R.gt h1]
  ·simp at h
 | .cell i m::r,O,l,h,hO=>by
  simp only [iB] at h
  split at h
  ·rename_i a O' l' h1 h2
   split at h
   ·rename_i O2 v h3
    simp only [KJ,KZ] at h;obtain ⟨rfl,rfl⟩:=h
    simp only [iT]
    rw [de (Ir ok R h1 h3 fun p hp=>hO p (Lr _ hp)),de (sc ok R h2 fun p hp=>hO p (Ln _ hp))]
    rfl
   ·simp at h
  ·simp at h
theorem Ao {D:TD τ dn} {st:SS τ dn}:∀{l l':List (SV τ dn)},iw D st l=some l'->l.length=l'.length
 |[],l',h=>by simp only [iw,KJ] at h;subst h;rfl
 |v::r,l',h=>by
  simp only [iw] at h
  split at h
  ·rename_i x l2 h1 h2
   simp only [KJ] at h;subst h;simp [Ao h2]
  ·simp at h
theorem Is {a a':AV} (h:(dh a).run g=some a'):(oc a).run g=some a':=by
 cases a<;>first
  |exact h
  |(simp [dh,snap1,AV.pu1,RM.run] at h)
theorem Ap {D:TD τ dn} (ok:aQ D) (t:τ) (x:dn t) (h:D.pu t=true):(D.en t x).av D.toTE N=(D.en t x).av D.toTE N':=by
 have e:(D.es t x).map (SV.av D.toTE N)=(D.es t x).map (SV.av D.toTE N'):=by rw [ok.cI,ok.cI,ok.e8 _ N'.ρ t x h]
 cases ha:D.ag t with
 |true=>rw [o6 ha,SV.av,SV.av,SV.ba,SV.ba,e]
 |false=>
  unfold TD.en
  rw [ha,K4]
  cases hs:D.es t x with
  |nil=>rfl
  |cons v r=>rw [hs] at e;simp only [KW,Mw] at e;exact e.1
theorem Aq {D:TD τ dn} (ok:aQ D) {N N':au}:∀(rs:List τ) (x:RD dn rs),rs.all D.pu=true->(gy D rs x).map (SV.av D.toTE N)=(gy D rs x).map (SV.av D.toTE N')
 |[],_,_=>rfl
 |[t],x,h=>by simp only [List.all_cons,List.all_nil,Bool.and_true] at h;simp only [gy,KW,Lv];rw [Ap ok (N:=N) (N':=N') t x h]
 |t::s::r,x,h=>by
  rw [List.all_cons,KM] at h
  simp only [gy,KW];rw [Ap ok (N:=N) (N':=N') t x.1 h.1,Aq ok (N:=N) (N':=N') (s::r) x.2 h.2]
theorem As {f:Nat->Nat}:∀{n m:Nat},ph ((List.range' m n).map f)=true->∀a b,m<=a->a<m+n->m<=b->b<m+n->f a=f b->a=b
 |0,m,h,a,b,h1,h2,h3,h4,he=>by omega
 |n+1,m,h,a,b,h1,h2,h3,h4,he=>by
  rw [List.range'_succ,KW] at h
  simp only [ph,KM,K3] at h
  have ed:∀c,m+1<=c->c<m+1+n->f m≠f c:=fun c k1 k2 e=>by
   have:hasN ((List.range' (m+1) n).map f) (f m)=true:=j1.2 (Li.2 ⟨c,List.mem_range'_1.2 ⟨k1,k2⟩,e.symm⟩)
   rw [this] at h;simp at h
  by_cases ha:a=m<;>by_cases hb:b=m
  ·omega
  ·subst ha;exact absurd he (ed b (by omega) (by omega))
  ·subst hb;exact absurd he.symm (ed a (by omega) (by omega))
  ·exact As h.2 a b (by omega) (by omega) (by omega) (by omega) he
theorem At {C:bQ τ dn} {n k0:Nat} {a:AC} {B:SS τ dn->(Ex->SS τ dn->Prop)->Prop} (hB:∀{st:SS τ dn} {K:Ex->SS τ dn->Prop} {N:au} {s:S3},Rel C.D N st s->C.fl<=st.nx->B st K->Ends C n k0 a N st s K):
  ∀(m:Nat) {st:SS τ dn} {K:Ex->SS τ dn->Prop} {N:au} {s:S3},Rel C.D N st s->C.fl<=st.nx->vH B m st K->∃e s' j N2 ah,Ch C.P n k0 a e s' j s/\Rel C.D N2 ah s'/\ah.rt=st.rt/\ah.rm=st.rm/\(N.aW C.fl N2/\C.fl<=ah.nx)/\K e ah
 |0,st,K,N,s,R,hl,h=>h.elim
 |m+1,st,K,N,s,R,hl,h=>by
  obtain ⟨e,s1,N1,st1,e1,R1,r1,r2,r3,hk⟩:=hB R hl h
  cases e with
  |normal=>
   obtain ⟨e,s2,j,N2,aK,c1,c2,c3,c4,c5,c6⟩:=At hB m R1 r3.2 hk
   exact ⟨e,s2,j+1,N2,aK, .step e1 S3.Le.kS c1,c2,c3.trans r1,c4.trans r2,⟨au.ef r3.1 c5.1 (KO _),c5.2⟩,c6⟩
  |exit i=>exact ⟨_,s1,0,N1,st1, .last e1 (by simp),R1,r1,r2,r3,hk⟩
  |ret=>exact ⟨_,s1,0,N1,st1, .last e1 (by simp),R1,r1,r2,r3,hk⟩
variable [DecidableEq τ]
theorem S3.It {s:S3} (sz:Nat):s.Le k0 n ⟨s.σ,aj s.g [(s.k,some ⟨sz,[]⟩)],s.k+1⟩:=by
 intro E0 J base w0 a w hk hr
 obtain ⟨E,rfl,hle,hs,hm,aX,hmk⟩:=hr.ex
 obtain ⟨E',hw,hE,hM,k1,k2,k3,k4,k5⟩:=hm.pV (fresh:=s.k) (fun hh=>LZ _ (aX _ hh)) sz
 refine ⟨⟨E',hw,hle.trans hE,fun j=>(hs j).step hE,hM,fun id hid=> ?_,hmk.step hE⟩,hr.size,hr.below,hr.gl⟩
 show id<s.k+1
 rcases k4 id hid with h|h
 ·have:=aX id h;omega
 ·omega
theorem Au {C:bQ τ dn} (hC:C.Ok) {a:AC} {B:SS τ dn->(Ex->SS τ dn->Prop)->Prop} (hB:∀{st:SS τ dn} {K:Ex->SS τ dn->Prop} {N:au} {s:S3},Rel C.D N st s->C.fl<=st.nx->B st K->Ends C n k0 a N st s K) {vs:List (VK τ)} {I:VT dn vs->Prop} {ms:VT dn vs->Nat}
  {st:SS τ dn} {K:Ex->SS τ dn->Prop} {T:List Nat} {ft:List (Nat×SV τ dn)} {fm:List (Nat×Option (SB τ dn))} (hT:vs.map (nmV st)=T) (jg:T.length=vs.length) (kp:∀{a},keepP vs T st.nx a=true->a<st.nx/\¬a∈movesV vs T) (hle:∀a,keepP vs T st.nx a=true->lessB st.nx a=true)
  (aT:∀{i v},getS (ft++st.rt) i=some v->(getS ft i=some v\/getS st.rt i=some v)/\v.fr (keepP vs T st.nx)=true/\¬i∈dN vs) (aM:∀{i v},getS (fm++st.rm) i=some v->(getS fm i=some v\/getS st.rm i=some v)/\(∀B,v=some B->B.fr (keepP vs T st.nx)=true)/\keepP vs T st.nx i=true)
  (fT:∀{i v},getS ft i=some v->getS st.t i=some v/\v.fr (keepP vs T st.nx)=true/\¬i∈dN vs) (fM:∀{i v},getS fm i=some v->getS st.m i=some v/\(∃B,v=some B/\B.fr (keepP vs T st.nx)=true)/\keepP vs T st.nx i=true)
  (rT:∀{i v},getS st.rt i=some v->v.fr (keepP vs T st.nx)=true/\¬i∈dN vs/\getS ft i=none) (rM:∀{i v},getS st.rm i=some v->keepP vs T st.nx i=true/\(∀B,v=some B->B.fr (keepP vs T st.nx)=true)/\getS fm i=none) (o3:okT (lessB st.nx) vs T=true) (ic:C.fl<=st.nx) (sd:(movesV vs T).all (Nat.ble C.fl)=true)
  {x:VT dn vs} {s:S3} (h:B ⟨ft++st.rt,fm++st.rm,bw C.D vs T x,putM C.D vs T x,st.nx⟩ fun e ah=>match e with
   | .normal=>match j3 C.D ah vs with
    |some x'=>bif nextB vs T (vs.map (nmV ah)) st.nx ah.nx then I x'/\ms x'<ms x else False
    |none=>False
   |e=>K e ⟨st.rt,st.rm,ah.t++ft,ah.m++fm,ah.nx⟩) (R:Rel C.D N ⟨ft++st.rt,fm++st.rm,bw C.D vs T x,putM C.D vs T x,st.nx⟩ s)
  (next:∀x',ms x'<ms x->I x'->∀N2 s2,Rel C.D N2 ⟨ft++st.rt,fm++st.rm,bw C.D vs T x',putM C.D vs T x',st.nx⟩ s2->∃e s' j N3 ah,Ch C.P n k0 a e s' j s2/\Rel C.D N3 ah s'/\ah.rt=st.rt/\ah.rm=st.rm/\(N2.aW C.fl N3/\C.fl<=ah.nx)/\K e ah):
  ∃e s' j N2 ah,Ch C.P n k0 a e s' j s/\Rel C.D N2 ah s'/\ah.rt=st.rt/\ah.rm=st.rm/\(N.aW C.fl N2/\C.fl<=ah.nx)/\K e ah:=by
 obtain ⟨e,s1,N1,st1,e1,R1,eF,dd,Av,hk⟩:=hB R ic h
 have leave:e≠ .normal->K e ⟨st.rt,st.rm,st1.t++ft,st1.m++fm,st1.nx⟩->∃e s' j N2 ah,Ch C.P n k0 a e s' j s/\Rel C.D N2 ah s'/\ah.rt=st.rt/\ah.rm=st.rm/\(N.aW C.fl N2/\C.fl<=ah.nx)/\K e ah:=fun aA hk=>by
  have Aw:∀i v,getS fm i=some v->getS st1.rm i=some v:=fun i v h=>by rw [dd];show getS (fm++st.rm) i=_;rw [fh,h];rfl
  have Ax:∀i v,getS st.rm i=some v->getS st1.rm i=some v:=fun i v h=>by rw [dd];show getS (fm++st.rm) i=_;rw [fh,(rM h).2.2];exact h
  have cC:∀a X,(⟨st.rt,st.rm,st1.t++ft,st1.m++fm,st1.nx⟩:SS τ dn).bd a X->st1.bd a X:=fun a X hX=>by
   rcases hX with hX|hX
   ·have jY:getS (st1.m++fm) a=some (some X):=hX
    rw [fh] at jY
    cases hq:getS st1.m a with
    |some w=>rw [hq] at jY;simp only [Ms,KJ] at jY;subst jY;exact .inl hq
    |none=>rw [hq] at jY;simp only [Mc] at jY;exact .inr (Aw a _ jY)
   ·exact .inr (Ax a _ hX)
  refine ⟨e,s1,0,N1,⟨st.rt,st.rm,st1.t++ft,st1.m++fm,st1.nx⟩, .last e1 aA,⟨fun N' hN=> ?_,R1.inj,R1.lt,fun nm B h=> ?_,fun nm B h=> ?_,fun t A h id hid=>⟨(R1.sp t A (cC 0 _ h) id hid).1,fun nm B hB=>(R1.sp t A (cC 0 _ h) id hid).2 nm B (cC nm B hB)⟩⟩,rfl,rfl,Av,hk⟩
  ·have A:=R1.at_ N' hN
   have Iu:∀i v,getS ft i=some v->getS st1.rt i=some v:=fun i v h=>by rw [eF];show getS (ft++st.rt) i=_;rw [fh,h];rfl
   have Iv:∀i v,getS st.rt i=some v->getS st1.rt i=some v:=fun i v h=>by rw [eF];show getS (ft++st.rt) i=_;rw [fh,(rT h).2.2];exact h
   refine ⟨fun i v h=> ?_,fun i v h=>A.rs i v (Iv i v h),fun nm B h=> ?_,fun nm B h=>A.rb nm B (Ax nm _ h),fun t A' h id hid=>A.ar t A' (cC 0 _ h) id hid⟩
   ·have h':getS (st1.t++ft) i=some v:=h
    rw [fh] at h'
    cases hq:getS st1.t i with
    |some w=>rw [hq] at h';simp only [Ms,KJ] at h';subst h';exact A.sl i _ hq
    |none=>rw [hq] at h';simp only [Mc] at h';exact A.rs i v (Iu i v h')
   ·have h':getS (st1.m++fm) nm=some (some B):=h
    rw [fh] at h'
    cases hq:getS st1.m nm with
    |some w=>rw [hq] at h';simp only [Ms,KJ] at h';subst h';exact A.bl nm _ hq
    |none=>rw [hq] at h';simp only [Mc] at h';exact A.rb nm B (Aw nm _ h')
  ·have h':getS (st1.m++fm) nm=some B:=h
   rw [fh] at h'
   cases hq:getS st1.m nm with
   |some w=>exact R1.ml nm w hq
   |none=>rw [hq] at h';simp only [Mc] at h';exact R1.rl nm B (by rw [dd];show getS (fm++st.rm) nm=_;rw [fh,h'];rfl)
  ·exact R1.rl nm B (by rw [dd];show getS (fm++st.rm) nm=_;rw [fh,(rM h).2.2];exact h)
 cases e with
 |exit i=>exact leave (by simp) hk
 |ret=>exact leave (by simp) hk
 |normal=>
  simp only at hk
  split at hk
  case h_2=>exact hk.elim
  rename_i x' cV
  generalize hA:vs.map (nmV st1)=A at hk
  cases hn:nextB vs T A st.nx st1.nx with
  |false=>rw [hn] at hk;exact hk.elim
  |true=>
   rw [hn,KP] at hk
   unfold nextB at hn
   simp only [KM] at hn
   obtain ⟨⟨⟨n1,n2⟩,n3⟩,n4⟩:=hn
   have Ay:∀a,a∈gg vs->dx vs T A a=a:=fun a ha=>K1 (KQ.1 n4 a ha)
   have hV:=rN hC.ok R1.here cV
   rw [hA] at hV
   have Iw:A.length=vs.length:=by rw [<-hA,K7]
   have vM:∀c,c<st.nx->dx vs T A c<st1.nx:=fun c hc=>pj ((KQ.1 n2) c (Lo.2 hc))
   have Ix:∀c d,c<st.nx->d<st.nx->dx vs T A c=dx vs T A d->c=d:=fun c d hc hd he=>by
    rw [List.range_eq_range'] at n1
    exact As n1 c d (Nat.zero_le _) (by omega) (Nat.zero_le _) (by omega) he
   obtain ⟨N2,gZ⟩:∃N2:au,N2=⟨fun c=>N1.ι (dx vs T A c),fun c=>N1.ln (dx vs T A c),N1.ρ⟩:=⟨_,rfl⟩
   have pn:N1.same (keepP vs T st.nx) N2:=by
    refine ⟨fun c hc=> ?_,by rw [gZ]⟩
    rw [gZ];simp only [vj (kp hc).2,K5]
   have Iy:iz C.D N2 s1.σ s1.g vs T x':=by
    refine vm C.D (by rw [gZ]) hC.ok hV (by rw [jg,Iw]) (fun j v c m h0 h1 h2=> ?_) fun a ha=>by rw [gZ];simp only [Ay a ha,K5]
    have hz:(v,c,m)∈vs.zip (T.zip A):=by
     refine Lq (i:=j) ?_
     rw [MK,MK]
     exact ⟨h0,h1,h2⟩
    have:=(KQ.1 n3) _ hz
    simp only [K9,KM] at this
    rcases this with h|⟨h,h'⟩
    ·exact .inl h
    ·have e:=K1 h
     refine .inr ⟨by rw [gZ];simp only [e],by rw [gZ];simp only [e], ?_⟩
     rcases h' with h'|h'
     ·exact .inl h'
     ·exact .inr (K1 h')
   obtain ⟨s2,w2,R2⟩:=zO (n:=n) (k0:=k0) hC.ok (rt:=ft++st.rt) (rm:=fm++st.rm) (nx:=st.nx) Iy o3 jg (fun i v h=>by
     obtain ⟨_,h2,h3⟩:=aT h
     refine ⟨?_,SV.ma hle v h2,h3⟩
     rw [m9 pn v h2]
     exact R1.here.rs i v (by rw [eF];exact h)) (fun nm B h=>by
     obtain ⟨_,h2,h3⟩:=aM h
     refine ⟨(kp h3).1,fun B' aP=> ?_⟩
     subst aP
     obtain ⟨q1,q2⟩:=R1.here.rb nm B' (by rw [dd];exact h)
     obtain ⟨p1,p2⟩:=pn.1 nm h3
     exact ⟨by rw [p1,zH pn B' (h2 B' rfl)];exact q1,by rw [p2];exact q2,SB.ma hle B' (h2 B' rfl)⟩)
    (fun c d hc hd he=>Ix c d hc hd (R1.inj _ _ (vM c hc) (vM d hd) (by rw [gZ] at he;exact he))) (fun c hc=>by rw [gZ];exact R1.lt _ (vM c hc))
    (fun t Ar h id hid=>by
     have cC:∀nm B,(⟨ft++st.rt,fm++st.rm,bw C.D vs T x',putM C.D vs T x',st.nx⟩:SS τ dn).bd nm B->(∃B',st1.bd (dx vs T A nm) B')/\(∀t Ar,nm=0->B= .ar t Ar->st1.bd 0 (.ar t Ar)):=fun nm B hB=>by
      rcases hB with hB|hB
      ·rcases rO cV jg nm B (gX hB) with ⟨j,v,p1,p2,p3,⟨B',p4⟩,p5⟩|⟨hf,⟨B',p4⟩,p5⟩
       case inr=>exact ⟨⟨B',by rw [Ay nm hf];exact fF p4⟩,fun t Ar h0 he=>absurd he (p5 t Ar)⟩
       have hj:A[j]? =some (nmV st1 v):=by rw [<-hA,Ld,p1];rfl
       have hz:(v,nm,nmV st1 v)∈vs.zip (T.zip A):=by
        refine Lq (i:=j) ?_
        rw [MK,MK]
        exact ⟨p1,p2,hj⟩
       have:=(KQ.1 n3) _ hz
       simp only [K9,KM] at this
       have e:=K1 (this.resolve_left (by rw [p3];simp)).1
       refine ⟨⟨B', ?_⟩,fun t Ar h0 he=> ?_⟩
       ·show st1.bd (dx vs T A nm) B'
        rw [e];exact fF p4
       ·exact fF (p5 t Ar he).2
      ·have aP:getS (fm++st.rm) nm=some (some B):=hB
       obtain ⟨_,_,h3⟩:=aM aP
       refine ⟨⟨B, ?_⟩,fun t Ar h0 he=> ?_⟩
       ·rw [vj (kp h3).2];exact .inr (by rw [dd];exact aP)
       ·subst h0;subst he;exact .inr (by rw [dd];exact aP)
     have h1:=(cC 0 _ h).2 t Ar rfl rfl
     obtain ⟨q1,q2⟩:=R1.sp t Ar h1 id hid
     have q3:=R1.here.ar t Ar h1 id hid
     refine ⟨by rw [gZ];exact q3,q1,fun nm B hB=> ?_⟩
     obtain ⟨⟨B',aP⟩,_⟩:=cC nm B hB
     rw [gZ];exact q2 _ B' aP)
   obtain ⟨e,s',j,N3,ah,c1,c2,c3,c4,c5,c6⟩:=next x' hk.2 hk.1 N2 s2 R2
   have dD:N1.aW C.fl N2:=⟨fun c hc=>by
    have ed:¬c∈movesV vs T:=fun hm=>absurd (Ly (KQ.1 sd c hm)) (by omega)
    rw [gZ];simp only [vj ed,K5],by rw [gZ]⟩
   exact ⟨e,s',j+1,N3,ah, .step e1 w2 c1,c2,c3,c4,⟨au.ef (au.ef Av.1 dD (KO _)) c5.1 (KO _),c5.2⟩,c6⟩
theorem Iz {C:bQ τ dn} (hC:C.Ok) {a:AC} {B:SS τ dn->(Ex->SS τ dn->Prop)->Prop} (hB:∀{st:SS τ dn} {K:Ex->SS τ dn->Prop} {N:au} {s:S3},Rel C.D N st s->C.fl<=st.nx->B st K->Ends C n k0 a N st s K) {vs:List (VK τ)} {I0:VT dn vs->VT dn vs->Prop} {Az:VT dn vs->VT dn vs->Nat} {gY:List Nat}
  {st:SS τ dn} {K:Ex->SS τ dn->Prop} {s:S3} (R:Rel C.D N st s) (ic:C.fl<=st.nx) (h:vI C.D C.fl vs I0 Az gY B st K):Ends C n k0 (.loop a) N st s K:=by
 unfold vI at h
 split at h
 case h_1=>exact h.elim
 rename_i x0 qw
 generalize hI:I0 x0=I at h
 generalize sR:Az x0=ms at h
 generalize hT:vs.map (nmV st)=T at h
 generalize IA:j2 (keepP vs T st.nx) (dN vs++gY) st.t=ft at h
 generalize IB:jc (keepP vs T st.nx) (l5 vs T) st.m=fm at h
 unfold Ak at h
 cases hok:okB vs T st (keepP vs T st.nx) ft fm&&(movesV vs T).all (Nat.ble C.fl) with
 |false=>rw [hok] at h;exact h.elim
 |true=>
 rw [hok,KP] at h
 rw [KM] at hok
 obtain ⟨hok,sd⟩:=hok
 obtain ⟨nU,bq⟩:=h
 rw [rK] at bq
 unfold okB at hok
 simp only [KM] at hok
 obtain ⟨⟨⟨⟨o1,o2⟩,o3⟩,o4⟩,o5⟩:=hok
 have jg:T.length=vs.length:=by rw [<-hT,K7]
 have kp:∀{a},keepP vs T st.nx a=true->a<st.nx/\¬a∈movesV vs T:=fun {a} h=>by
  unfold keepP at h
  rw [KM] at h
  refine ⟨pj h.1,fun hm=> ?_⟩
  have:=h.2
  rw [j1.2 hm] at this;simp at this
 have hle:∀a,keepP vs T st.nx a=true->lessB st.nx a=true:=fun a h=>by
  unfold keepP at h;rw [KM] at h;exact h.1
 have fT:∀{i v},getS ft i=some v->getS st.t i=some v/\v.fr (keepP vs T st.nx)=true/\¬i∈dN vs:=fun {i v} h=>by
  rw [<-IA] at h
  obtain ⟨h1,h2,h3⟩:=vd h
  exact ⟨h1,h2,fun hh=>h3 (Lr _ hh)⟩
 have fM:∀{i v},getS fm i=some v->getS st.m i=some v/\(∃B,v=some B/\B.fr (keepP vs T st.nx)=true)/\keepP vs T st.nx i=true:=fun {i v} h=>by
  rw [<-IB] at h
  obtain ⟨h1,h2,h3,_⟩:=ve h
  exact ⟨h1,h2,h3⟩
 have rT:∀{i v},getS st.rt i=some v->v.fr (keepP vs T st.nx)=true/\¬i∈dN vs/\getS ft i=none:=fun {i v} h=>by
  have:=(KQ.1 o1) _ (gX h)
  simp only [KM,K3,Option.isNone_iff_eq_none] at this
  exact ⟨this.1.1,fun hh=>by rw [j1.2 hh] at this;simp at this,this.2⟩
 have rM:∀{i v},getS st.rm i=some v->keepP vs T st.nx i=true/\(∀B,v=some B->B.fr (keepP vs T st.nx)=true)/\getS fm i=none:=fun {i v} h=>by
  have:=(KQ.1 o2) _ (gX h)
  simp only [KM,Option.isNone_iff_eq_none] at this
  exact ⟨this.1.1,fun B hB=>by subst hB;exact this.1.2,this.2⟩
 have aT:∀{i v},getS (ft++st.rt) i=some v->(getS ft i=some v\/getS st.rt i=some v)/\v.fr (keepP vs T st.nx)=true/\¬i∈dN vs:=fun {i v} h=>by
  rw [fh] at h
  cases hf:getS ft i with
  |some w=>rw [hf] at h;simp only [Ms,KJ] at h;subst h;exact ⟨.inl rfl,(fT hf).2⟩
  |none=>rw [hf] at h;simp only [Mc] at h;exact ⟨.inr h,(rT h).1,(rT h).2.1⟩
 have aM:∀{i v},getS (fm++st.rm) i=some v->(getS fm i=some v\/getS st.rm i=some v)/\(∀B,v=some B->B.fr (keepP vs T st.nx)=true)/\keepP vs T st.nx i=true:=fun {i v} h=>by
  rw [fh] at h
  cases hf:getS fm i with
  |some w=>
   rw [hf] at h;simp only [Ms,KJ] at h;subst h
   obtain ⟨h1,⟨B,h2,h3⟩,h4⟩:=fM hf
   exact ⟨.inl rfl,fun B' aP=>by rw [h2,KJ] at aP;subst aP;exact h3,h4⟩
  |none=>rw [hf] at h;simp only [Mc] at h;exact ⟨.inr h,(rM h).2.1,(rM h).1⟩
 -- hY rounds
 have rounds:∀(m:Nat) (x:VT dn vs) (N':au) (s0:S3),ms x<=m->I x->Rel C.D N' ⟨ft++st.rt,fm++st.rm,bw C.D vs T x,putM C.D vs T x,st.nx⟩ s0->
   ∃e s' j N2 ah,Ch C.P n k0 a e s' j s0/\Rel C.D N2 ah s'/\ah.rt=st.rt/\ah.rm=st.rm/\(N'.aW C.fl N2/\C.fl<=ah.nx)/\K e ah:=by
  intro m
  induction m with
  |zero=>
   intro x N' s0 hm hI R0
   exact Au hC hB hT jg kp hle aT aM fT fM rT rM o3 ic sd (bq x hI) R0 fun x' hlt=>absurd hlt (by omega)
  |succ m ih=>
   intro x N' s0 hm hI R0
   exact Au hC hB hT jg kp hle aT aM fT fM rT rM o3 ic sd (bq x hI) R0 fun x' hlt ig N2 s2 R2=>ih x' N2 s2 (by omega) ig R2
 have hV:=rN hC.ok R.here qw
 rw [hT] at hV
 obtain ⟨s1,w1,R1⟩:=zO (n:=n) (k0:=k0) hC.ok (rt:=ft++st.rt) (rm:=fm++st.rm) hV o3 jg (fun i v h=>by
   obtain ⟨h1,h2,h3⟩:=aT h
   refine ⟨?_,SV.ma hle v h2,h3⟩
   rcases h1 with h1|h1
   ·exact R.here.sl i v (fT h1).1
   ·exact R.here.rs i v h1) (fun nm B h=>by
   obtain ⟨h1,h2,h3⟩:=aM h
   refine ⟨(kp h3).1,fun B' aP=> ?_⟩
   subst aP
   have:s.g (N.ι nm)=some (B'.av C.D.toTE N)/\N.ln nm=B'.len:=by
    rcases h1 with h1|h1
    ·exact R.here.bl nm B' (fM h1).1
    ·exact R.here.rb nm B' h1
   exact ⟨this.1,this.2,SB.ma hle B' (h2 B' rfl)⟩) R.inj R.lt
   (fun t Ar h id hid=>by
    have cC:∀nm B,(⟨ft++st.rt,fm++st.rm,bw C.D vs T x0,putM C.D vs T x0,st.nx⟩:SS τ dn).bd nm B->(∃B',st.bd nm B')/\(∀t Ar,nm=0->B= .ar t Ar->st.bd 0 (.ar t Ar)):=fun nm B hB=>by
     rcases hB with hB|hB
     ·rcases rO qw jg nm B (gX hB) with ⟨j,v,p1,p2,p3,⟨B',p4⟩,p5⟩|⟨hf,⟨B',p4⟩,p5⟩
      case inr=>exact ⟨⟨B',fF p4⟩,fun t Ar h0 he=>absurd he (p5 t Ar)⟩
      have hj:nmV st v=nm:=by
       have:T[j]? =some (nmV st v):=by rw [<-hT,Ld,p1];rfl
       rw [p2] at this;simpa using this.symm
      exact ⟨⟨B',hj▸fF p4⟩,fun t Ar h0 he=>fF (p5 t Ar he).2⟩
     ·have aP:getS (fm++st.rm) nm=some (some B):=hB
      have:st.bd nm B:=by
       rcases (aM aP).1 with h1|h1
       ·exact .inl (fM h1).1
       ·exact .inr h1
      exact ⟨⟨B,this⟩,fun t Ar h0 he=>by subst h0;subst he;exact this⟩
    have h1:=(cC 0 _ h).2 t Ar rfl rfl
    obtain ⟨q1,q2⟩:=R.sp t Ar h1 id hid
    exact ⟨R.here.ar t Ar h1 id hid,q1,fun nm B hB=>by obtain ⟨⟨B',aP⟩,_⟩:=cC nm B hB;exact q2 nm B' aP⟩)
 obtain ⟨e,s',j,N2,ah,c1,c2,c3,c4,c5,c6⟩:=rounds (ms x0) x0 N s1 (KO _) nU R1
 exact ⟨e,s',N2,ah,ED.iS w1 (ED.loop c1),c2,c3,c4,c5,c6⟩
theorem AA {C:bQ τ dn} (hC:C.Ok) {n k0:Nat} {an:Nat->Option (LA τ dn)}:∀(ps:List (List aw)) {st:SS τ dn} {K:SS τ dn->Prop} {N:au} {s:S3},Rel C.D N st s->r7 C n an ps st K->
  ∃s' N' ah,ni C.P n k0 ps s s'/\Rel C.D N' ah s'/\(ah.rt=st.rt/\ah.rm=st.rm)/\N.aW st.nx N'/\st.nx<=ah.nx/\K ah
 |[],st,K,N,s,R,h=>⟨s,N,st, .nil,R,⟨rfl,rfl⟩,N.dH _,KO _,h⟩
 |p::ps,st,K,N,s,R,h=>by
  simp only [r7] at h
  obtain ⟨s1,st1,w1,R1,z1,z2,z3,h⟩:=vE (n:=n) (k0:=k0) hC.ok _ R h
  obtain ⟨KB,IC,ID,IE,IF,h⟩:=HF R1 h
  obtain ⟨IG,IH,vN,vO,vP,h⟩:=Ai hC.ok IC h
  obtain ⟨KC,II,IJ,IM,IN,h⟩:=Ah IH h
  obtain ⟨aK,R2,y1,y2,y3,h⟩:=rr hC.ok II h
  rw [IJ,vN,ID] at y1;rw [IM,vO,IE] at y2;rw [IN,vP,IF] at y3
  obtain ⟨s3,N3,kR,e3,R3,r1,r2,r3,h⟩:=rG (hC.wo (pr an p)) (k0:=k0) R2 h
  obtain ⟨s4,N4,IP,e4,R4,q1,q2,q3,h⟩:=AA hC (k0:=k0) ps R3 h
  rw [y1,y2,z1,z2] at r1
  rw [y3,z3] at r2 r3
  exact ⟨s4,N4,IP, .cons w1 e3 e4,R4,⟨q1.1.trans r1.1,q1.2.trans r1.2⟩,au.ef r2 q2 r3,Lg r3 q3,h⟩
theorem iC {C:bQ τ dn} (hC:C.Ok) {n k0:Nat} {an:Nat->Option (LA τ dn)}:∀(ac:AC) (k:Nat) {st:SS τ dn} {K:Ex->SS τ dn->Prop} {N:au} {s:S3},Rel C.D N st s->C.fl<=st.nx->ep C n an ac k st K->Ends C n k0 ac N st s K
 | .skip,k,st,K,N,s,R,hl,h=>⟨_,s,N,st,ED.skip,R,rfl,rfl,⟨N.dH _,hl⟩,h⟩
 | .ret,k,st,K,N,s,R,hl,h=>⟨_,s,N,st,ED.ret,R,rfl,rfl,⟨N.dH _,hl⟩,h⟩
 | .exit i,k,st,K,N,s,R,hl,h=>⟨_,s,N,st,ED.exit,R,rfl,rfl,⟨N.dH _,hl⟩,h⟩
 | .seq a b,k,st,K,N,s,R,hl,h=>by
  simp only [ep] at h
  obtain ⟨e,s1,N1,st1,e1,R1,r1,r2,r3,hk⟩:=iC hC a k R hl h
  cases e with
  |normal=>
   obtain ⟨e,s2,N2,aK,e2,R2,q1,q2,q3,hk2⟩:=iC hC b _ R1 r3.2 hk
   exact ⟨e,s2,N2,aK,ED.seq e1 e2,R2,q1.trans r1,q2.trans r2,⟨au.ef r3.1 q3.1 (KO _),q3.2⟩,hk2⟩
  |exit i=>exact ⟨_,s1,N1,st1,ED.zG e1 (by simp),R1,r1,r2,r3,hk⟩
  |ret=>exact ⟨_,s1,N1,st1,ED.zG e1 (by simp),R1,r1,r2,r3,hk⟩
 | .cond c a b,k,st,K,N,s,R,hl,h=>by
  simp only [ep] at h
  have go:∀p:Bool,aD s.σ c= .v (.bool p)->(p=true->Ends C n k0 a N st s K)->(p=false->Ends C n k0 b N st s K)->Ends C n k0 (.cond c a b) N st s K:=fun p hp h1 h2=>by
   cases p with
   |true=>
    obtain ⟨e,s1,N1,st1,e1,R1,r1,r2,r3,hk⟩:=h1 rfl
    exact ⟨e,s1,N1,st1,ED.cond hp (by rw [KL rfl];exact e1),R1,r1,r2,r3,hk⟩
   |false=>
    obtain ⟨e,s1,N1,st1,e1,R1,r1,r2,r3,hk⟩:=h2 rfl
    exact ⟨e,s1,N1,st1,ED.cond hp (by rw [KK (by simp)];exact e1),R1,r1,r2,r3,hk⟩
  split at h
  ·rename_i hc
   exact go true (R.here.ev hc) (fun _=>iC hC a k R hl h) (fun hh=>by simp at hh)
  ·rename_i hc
   exact go false (R.here.ev hc) (fun hh=>by simp at hh) (fun _=>iC hC b _ R hl h)
  ·rename_i c' hc
   split at h
   ·rename_i O ah hm
    rw [iv] at h
    obtain ⟨hO,hk⟩:=h
    have AB:∀{x:AC},x= .skip->Rel C.D N ah s->ah.rt=st.rt/\ah.rm=st.rm/\ah.nx=st.nx->Ends C n k0 x N st s K:=fun {x} hx hR hs=>by
     subst hx
     exact ⟨_,s,N,ah,ED.skip,hR,hs.1,hs.2.1,⟨N.dH _,by rw [hs.2.2];exact hl⟩,hk⟩
    have run:∀{x:AC} {os:List aw},x= .bI os none->(∃s' N',fy C.P n k0 os s.σ s.g s.k s'.σ s'.g s'.k/\Rel C.D N' ah s'/\N.aW st.nx N')->ah.rt=st.rt/\ah.rm=st.rm/\ah.nx=st.nx->Ends C n k0 x N st s K:=fun {x os} hx hR hs=>by
     subst hx
     obtain ⟨s',N',q1,q2,q3⟩:=hR
     exact ⟨_,s',N',ah,ED.bI q1,q2,hs.1,hs.2.1,⟨r8 q3 hl,by rw [hs.2.2];exact hl⟩,hk⟩
    unfold Al at hm
    split at hm
    ·obtain ⟨q1,q2,q3⟩:=z9 (k0:=k0) hC hm hO R
     exact go c'.den (R.here.ev hc) (fun hh=>AB rfl (q2 hh) q1) (fun hh=>run rfl (q3 hh) q1)
    ·obtain ⟨q1,q2,q3⟩:=z9 (k0:=k0) hC hm hO R
     exact go c'.den (R.here.ev hc) (fun hh=>run rfl (q3 hh) q1) (fun hh=>AB rfl (q2 hh) q1)
    ·simp at hm
   exact go c'.den (R.here.ev hc) (fun hh=>iC hC a k R hl (h.1 ((Cn.gR c' true).2 hh))) (fun hh=>iC hC b _ R hl (h.2 ((Cn.gR c' false).2 hh)))
  ·exact h.elim
 | .block i a,k,st,K,N,s,R,hl,h=>by
  simp only [ep] at h
  obtain ⟨e,s1,N1,st1,e1,R1,r1,r2,r3,hk⟩:=iC hC a k R hl h
  exact ⟨_,s1,N1,st1,ED.block e1,R1,r1,r2,r3,hk⟩
 | .loop a,k,st,K,N,s,R,hl,h=>by
  simp only [ep] at h
  split at h
  ·rename_i m hm
   obtain ⟨e,s2,j,N2,aK,c1,c2,c3,c4,c5,c6⟩:=At (fun R hl h=>iC hC a (k+1) R hl h) m R hl h
   exact ⟨e,s2,N2,aK,ED.loop c1,c2,c3,c4,c5,c6⟩
  ·rename_i vs I ms hm
   obtain ⟨s1,N1,w1,R1,r1,r2,r3,r4⟩:=Am (n:=n) (k0:=k0) (vs:=vs) R
   obtain ⟨e,s2,N2,aK,e2,R2,q1,q2,q3,hk⟩:=Iz hC (fun R hl h=>iC hC a (k+1) R hl h) R1 (Lg hl r4) h
   exact ⟨e,s2,N2,aK,ED.iS w1 e2,R2,q1.trans r1,q2.trans r2,⟨au.ef (r8 r3 hl) q3.1 (KO _),q3.2⟩,hk⟩
  ·exact h.elim
 | .bI os none,k,st,K,N,s,R,hl,h=>by
  simp only [ep] at h
  obtain ⟨s',N',ah,e1,R1,r1,r2,r3,hk⟩:=AA hC (k0:=k0) _ R h
  have e2:=ED.Ih e1
  rw [Ae] at e2
  exact ⟨_,s',N',ah,e2,R1,r1.1,r1.2,⟨r8 r2 hl,Lg hl r3⟩,hk⟩
 | .bI os (some dep),k,st,K,N,s,R,hl,h=>by
  simp only [ep] at h
  obtain ⟨s1,st1,w1,R1,z1,z2,z3,h⟩:=vE (n:=n) (k0:=k0) hC.ok _ R h
  obtain ⟨IG,IQ,vN,vO,vP,h⟩:=Ai hC.ok R1 h
  obtain ⟨aK,R1,y1,y2,y3,h⟩:=Ah IQ h
  rw [vN] at y1;rw [vO] at y2;rw [vP] at y3
  obtain ⟨jn,hj,s',N',ah,e1,R1,r1,r2,r3,hk⟩:=HP (hC.wo (pr an os)) R1 h
  rw [y1,y2,z1,z2] at r1
  rw [y3,z3] at r2 r3
  exact ⟨_,s',N',ah,ED.iS w1 (ED.draw hj e1),R1,r1.1,r1.2,⟨r8 r2 hl,Lg hl r3⟩,hk⟩
 | .qh _ _ _ _,k,st,K,N,s,R,hl,h=>by simp only [ep] at h
def ek (D:TD τ dn) (vs:List (SV τ dn)):SS τ dn:=match D.ar with
 |none=>⟨[],[],jh vs 0,[],0⟩
 |some t=>⟨[],[],jh vs 0,[(0,some (.ar t []))],1⟩
def vQ:List jA->List Nat
 |[]=>[]
 | .tmp i::r| .cell i _::r=>i::vQ r
def vR (C:bQ τ dn) (F:dc) (an:Nat->Option (LA τ dn)) (vs:List (SV τ dn)) (rs:List τ) (r:RD dn rs):Prop:=
 bif Nat.ble vs.length F.n&&rs.all C.D.pu&&Nat.beq C.fl 0 then ep C F.n an F.code 0 (ek C.D vs) fun e st=>match e with
  | .exit _=>False
  |_=>nc C.D false (st.rS (vQ F.res)) st fun st=>match iB C.D st F.res with
   |some (O,l)=>match iw C.D st l with
    |some l'=>match iY C.D rs l' with
     |some y=>eS O (y=r)
     |none=>False
    |none=>False
   |none=>False
 else False
theorem IS {C:bQ τ dn} (hC:C.Ok) {f:FuncId} (hF:cFunc C.P f=some F) {an:Nat->Option (LA τ dn)} {vs:List (SV τ dn)} {rs:List τ} {r:RD dn rs} (N:au) (dT:SV.cY (fun _=>false) vs=true) (h:vR C F an vs rs r):Fn C.P f (vs.map (SV.av C.D.toTE N)) ((kP (gy C.D rs r)).av C.D.toTE N):=by
 unfold vR at h
 cases hb:(Nat.ble vs.length F.n&&rs.all C.D.pu&&Nat.beq C.fl 0) with
 |false=>rw [hb] at h;exact h.elim
 |true=>
 rw [hb,KP] at h
 rw [KM,KM] at hb
 obtain ⟨hb,hz⟩:=hb
 have hz:=K1 hz
 have hl:vs.length<=F.n:=Ly hb.1
 have bY:∀(N':au),N'.ρ=N.ρ->∀i v,getS (jh vs 0) i=some v->cG (vs.map (SV.av C.D.toTE N)) i=v.av C.D.toTE N':=fun N' jd i v hv=>by
  obtain ⟨_,h2⟩:=vL hv
  rw [Nat.sub_zero] at h2
  have hs:N.same (fun _=>false) N':=⟨fun a ha=>by simp at ha,jd⟩
  have hm:∀(l:List (SV τ dn)) (j:Nat) w,SV.cY (fun _=>false) l=true->l[j]? =some w->w.fr (fun _=>false)=true:=by
   intro l
   induction l with
   |nil=>intro j w _ hw;simp at hw
   |cons a l ih=>
    intro j w hl hw
    simp only [SV.cY,KM] at hl
    cases j with
    |zero=>simp only [Ll,KJ] at hw;subst hw;exact hl.1
    |succ j=>exact ih j w hl.2 (by simpa using hw)
  unfold cG
  rw [Ld,h2]
  exact (m9 hs v (hm vs i v dT h2)).symm
 have R0:∃s0 N0,S3.Le 0 F.n ⟨cG (vs.map (SV.av C.D.toTE N)),fun _=>none,0⟩ s0/\Rel C.D N0 (ek C.D vs) s0:=by
  unfold ek
  split
  ·refine ⟨_,N,S3.Le.kS,⟨fun N' hN=>⟨fun i v hv=>bY N' hN.2 i v hv,fun i v hv=>by simp [getS] at hv,fun nm B hB=>by simp [getS] at hB,fun nm B hB=>by simp [getS] at hB,fun t A h=>by rcases h with h|h<;>simp [getS] at h⟩,fun a b ha=>absurd ha (Nat.not_lt_zero _),fun a ha=>absurd ha (Nat.not_lt_zero _),fun nm B hB=>by simp [getS] at hB,fun nm B hB=>by simp [getS] at hB,fun t A h=>by rcases h with h|h<;>simp [getS] at h⟩⟩
  ·rename_i t _
   have AD:∀t' A,(⟨[],[],jh vs 0,[(0,some (.ar t []))],1⟩:SS τ dn).bd 0 (.ar t' A)->∀id,¬dj A id:=fun t' A h id=>by
    rcases h with h|h
    ·simp only [aR,KN,KJ,SB.ar.injEq] at h
     obtain ⟨rfl,h⟩:=h
     have h:=eq_of_heq h
     subst h;exact yy
    ·simp [getS] at h
   refine ⟨_,⟨fun _=>0,fun _=>0,N.ρ⟩,S3.It (C.D.sz t),⟨fun N' hN=>⟨fun i v hv=>bY N' hN.2 i v hv,fun i v hv=>by simp [getS] at hv,fun nm B hB=> ?_,fun nm B hB=>by simp [getS] at hB,fun t' A h id hid=>absurd hid (AD t' A h id)⟩,fun a b ha hb _=> ?_,fun a ha=> ?_,fun nm B hB=> ?_,fun nm B hB=>by simp [getS] at hB,fun t' A h id hid=>absurd hid (AD t' A h id)⟩⟩
   ·have aP:getS [(0,some (SB.ar t ([]:List (Nat×List (dn t)))))] nm=some (some B):=hB
    rw [aR] at aP
    by_cases hn:nm=0
    ·subst hn
     simp only [KN,KJ] at aP
     subst aP
     have e:=hN.1 0 (LQ 0)
     refine ⟨?_,e.2⟩
     show aj _ _ (N'.ι 0)=_
     rw [e.1];rfl
    ·rw [KK hn] at aP;simp [getS] at aP
   ·have:a<1:=ha
    have:b<1:=hb
    omega
   ·exact LQ 0
   ·have aP:getS [(0,some (SB.ar t ([]:List (Nat×List (dn t)))))] nm=some B:=hB
    rw [aR] at aP
    by_cases hn:nm=0
    ·subst hn;exact LQ 0
    ·rw [KK hn] at aP;simp [getS] at aP
 obtain ⟨s0,N0,w0,R0⟩:=R0
 refine DT hF (by rw [K7];exact hl) ?_
 obtain ⟨e,s',N',ah,e1,R1,_,_,_,hk⟩:=iC hC (n:=F.n) (k0:=0) F.code 0 R0 (by rw [hz];exact Nat.zero_le _) h
 have e1:=ED.iS w0 e1
 have hk2:(e= .normal\/e= .ret)/\nc C.D false (ah.rS (vQ F.res)) ah fun ah=>match iB C.D ah F.res with
   |some (O,l)=>match iw C.D ah l with
    |some l'=>match iY C.D rs l' with
     |some y=>eS O (y=r)
     |none=>False
    |none=>False
   |none=>False:=by
  cases e with
  |normal=>exact ⟨.inl rfl,hk⟩
  |ret=>exact ⟨.inr rfl,hk⟩
  |exit i=>exact hk.elim
 clear hk
 obtain ⟨he,hk⟩:=hk2
 obtain ⟨s2,aK,w2,R2,_,_,_,hk2⟩:=vE (n:=F.n) (k0:=0) hC.ok _ R1 hk
 clear hk
 have e1:=ED.post e1 w2
 clear R1 w2
 revert hk2 R2
 generalize aK=ah
 intro R1 hk
 refine EW.jz e1 fun x t ht=> ?_
 obtain ⟨rfl,rfl⟩:=ht
 have fin:(match iB C.D ah F.res with
   |some (O,l)=>match iw C.D ah l with
    |some l'=>match iY C.D rs l' with
     |some y=>eS O (y=r)
     |none=>False
    |none=>False
   |none=>False)->∃r',((ij t.σ F.res).bind oc).run t.g=some r'/\bJ r' ((kP (gy C.D rs r)).av C.D.toTE N):=fun hk=>by
  split at hk
  case h_2=>exact hk.elim
  rename_i O l hr
  split at hk
  case h_2=>exact hk.elim
  rename_i l' hs
  split at hk
  case h_2=>exact hk.elim
  rename_i y hy
  rw [iv] at hk
  obtain ⟨hO,rfl⟩:=hk
  have q1:=sc hC.ok R1.here hr hO
  have q2:=y6 hC.ok R1.here hs
  have q3:(ij t.σ F.res).run t.g=some (jB (l.map (SV.av C.D.toTE N'))):=by
   unfold ij
   rw [de q1];rfl
  have q4:(oc (jB (l.map (SV.av C.D.toTE N')))).run t.g=some (jB (l'.map (SV.av C.D.toTE N'))):=by
   have hlen:=Ao hs
   match l,l',q2,hlen with
   |[],[],q2,_=>exact de q2
   |[v],[v'],q2,_=>
    have:(dh (v.av C.D.toTE N')).run t.g=some (v'.av C.D.toTE N'):=by
     simp only [iw] at hs
     split at hs
     ·rename_i x l2 h1 h2
      simp only [KJ] at h2;subst h2
      simp only [KJ,Mw,and_true] at hs;subst hs
      exact uI hC.ok R1.here h1
     ·simp at hs
    exact Is this
   |v::w::l2,v'::w'::KD,q2,_=>
    show ((du ((v::w::l2).map (SV.av C.D.toTE N'))).bind fun l=>RM.ret (AV.aG l)).run t.g=_
    rw [de q2];rfl
  refine ⟨_,(de q3).trans q4, ?_⟩
  refine bJ.trans (Hh (za (N:=N') hC.ok hy)) (bJ.of_eq ?_)
  rw [rf,Aq hC.ok rs y hb.2]
 exact ⟨he,fin hk⟩
end
open Go.RowKit
section
variable {τ:Type} {dn:τ->Type} {D:TD τ dn}
theorem vS (ok:aQ D) {p:Nat->Bool}:∀(cs:List (Bool×τ)) (x:CD dn cs),SV.cY p (jU D cs x)=true
 |[],_=>rfl
 |(false,t)::r,x=>by simp only [jU,SV.cY,vp ok,vS ok r x.2,Bool.and_self]
 |(true,t)::r,x=>by simp only [jU,SV.cY,SV.fr,ok.nf,vS ok r x.2,Bool.and_self]
theorem se (ok:aQ D) {p:Nat->Bool}:∀(ps:List (Pt τ)) (x:PD dn ps),SV.cY p (jW D ps x)=true
 |[],_=>rfl
 | .ty t::r,x=>by simp only [jW,Pt.enc,SV.cY,vp ok,se ok r x.2,Bool.and_self]
 | .ptr t::r,x=>by simp only [jW,Pt.enc,SV.cY,SV.fr,ok.nf,se ok r x.2,Bool.and_self]
 | .mP f cs::r,x=>by simp only [jW,Pt.enc,SV.cY,SV.fr,vS ok,se ok r x.2,Bool.and_self]
inductive IK (τ:Type) (dn:τ->Type) where
 |fn (F:dc) (an:Nat->Option (LA τ dn))
 |del (t:τ) (by_:Nat) (zs:List AV)
structure IL (τ:Type) (dn:τ->Type) where
 f:FuncId
 k:IK τ dn
 cl:Option FuncId:=none
def sf (g:FuncId):List (SV τ dn)->Bool
 |[]=>false
 | .fn f _::r=>Nat.beq f g||sf g r
 |_::r=>sf g r
def pv:List (IL τ dn)->FuncId->List (SV τ dn)->Option (IL τ dn)
 |[],_,_=>none
 |i::r,f,vs=>bif Nat.beq i.f f&&(match i.cl with|none=>true|some g=>sf g vs) then some i else pv r f vs
def Cons (P:Program) (D:TD τ dn):List (b7 τ dn)->Prop
 |[]=>True
 |c::r=>c.Ok P D/\Cons P D r
def sh (P:Program) (D:TD τ dn):List (gT τ dn)->Prop
 |[]=>True
 |c::r=>c.Ok P D/\sh P D r
def IK.Ok (P:Program) (D:TD τ dn) (f:FuncId):IK τ dn->Prop
 | .fn F _=>cFunc P f=some F/\bT P f=true
 | .del t by_ zs=>cFunc P f=some (tH (D.sz t) by_ zs)/\bT P f=true/\zs.length=D.sz t
def si (P:Program) (D:TD τ dn):List (IL τ dn)->Prop
 |[]=>True
 |i::r=>i.k.Ok P D i.f/\si P D r
theorem vT {P:Program}:∀{Δ:List (b7 τ dn)},Cons P D Δ->∀c,c∈Δ->c.Ok P D
 |[],_,c,hc=>by simp at hc
 |d::r,h,c,hc=>by
  rcases KU.1 hc with rfl|hc
  ·exact h.1
  ·exact vT h.2 c hc
theorem vU {P:Program}:∀{Ω:List (gT τ dn)},sh P D Ω->∀c,c∈Ω->c.Ok P D
 |[],_,c,hc=>by simp at hc
 |d::r,h,c,hc=>by
  rcases KU.1 hc with rfl|hc
  ·exact h.1
  ·exact vU h.2 c hc
theorem vV {P:Program}:∀{il:List (IL τ dn)},si P D il->∀{f vs i},pv il f vs=some i->i.k.Ok P D f
 |[],_,f,vs,i,h=>by simp [pv] at h
 |j::r,h,f,vs,i,hi=>by
  simp only [pv] at hi
  cases hb:(Nat.beq j.f f&&(match j.cl with|none=>true|some g=>sf g vs)) with
  |false=>rw [hb,K4] at hi;exact vV h.2 hi
  |true=>
   rw [hb,KP,KJ] at hi
   subst hi
   rw [KM] at hb
   rw [<-K1 hb.1];exact h.1
theorem IT {f:FuncId} {g':Nat->Option Bk} {k k':Nat} {r:AV} (h:∀m:List (Option Bk),m.length=k->look m=g->Fi P f as_ (look m) m.length r g' k'):Fi P f as_ g k r g' k':=by
 intro E J base vs hG hm aX bW
 have hg:look ((List.range k).map g)=g:=by
  funext id
  unfold look
  rcases Ls id k with h1|h1
  ·simp [h1]
  ·rw [Mo (by simpa using h1)]
   cases hq:g id with
   |none=>rfl
   |some B=>exact absurd (aX id ((hm.live id).2 ⟨B,hq⟩).1) (by omega)
 have:=h _ (by simp) hg
 rw [hg,K7,List.length_range] at this
 exact this E J base vs hG hm aX bW
variable [DecidableEq τ]
def vW (C:bQ τ dn) (F:dc) (an:Nat->Option (LA τ dn)) (vs:List (SV τ dn)) (st:SS τ dn) (K:SV τ dn->SS τ dn->Prop):Prop:=
 bif Nat.ble vs.length F.n then ep C F.n an F.code 0 ⟨[],st.rm,jh vs 0,st.m,st.nx⟩ fun e ah=>match e with
  | .exit _=>False
  |_=>match iB C.D ah F.res with
   |some (O,l)=>eS O (K (kP l) ah)
   |none=>False
 else False
theorem IU {C:bQ τ dn} (hC:C.Ok) {f:FuncId} (hF:cFunc C.P f=some F) (hc:bT C.P f=true) {an:Nat->Option (LA τ dn)} {vs:List (SV τ dn)} {st:SS τ dn} {K:SV τ dn->SS τ dn->Prop} {s:S3} (R:Rel C.D N st s) (ic:C.fl=st.nx)
  (ha:∀N',N.aW st.nx N'->vs.map (SV.av C.D.toTE N')=vs.map (SV.av C.D.toTE N)) (h:vW C F an vs st K):ru C.P C.D f vs st K N s:=by
 unfold vW at h
 cases hb:Nat.ble vs.length F.n with
 |false=>rw [hb] at h;exact h.elim
 |true=>
 rw [hb,KP] at h
 have R0:Rel C.D N ⟨[],st.rm,jh vs 0,st.m,st.nx⟩ ⟨cG (vs.map (SV.av C.D.toTE N)),s.g,s.k⟩:=by
  refine ⟨fun N' hN=>⟨fun i v hv=> ?_,fun i v hv=>by simp [getS] at hv,(R.at_ N' hN).bl,(R.at_ N' hN).rb,(R.at_ N' hN).ar⟩,R.inj,R.lt,R.ml,R.rl,R.sp⟩
  obtain ⟨_,h2⟩:=vL hv
  rw [Nat.sub_zero] at h2
  show cG _ i=_
  unfold cG
  rw [<-ha N' hN,Ld,h2];rfl
 obtain ⟨e,s',N',ah,e1,R1,_,r2,r3,hk⟩:=iC hC (n:=F.n) (k0:=s.k) F.code 0 R0 (Nat.le_of_eq ic) h
 have fin:(match iB C.D ah F.res with
   |some (O,l)=>eS O (K (kP l) ah)
   |none=>False)->∃v,(ij s'.σ F.res).run s'.g=some (v.av C.D.toTE N')/\(∀bF,N'.aW ah.nx bF->v.av C.D.toTE bF=v.av C.D.toTE N')/\K v ah:=fun hk=>by
  split at hk
  case h_2=>exact hk.elim
  rename_i O l hr
  rw [iv] at hk
  obtain ⟨hO,hk⟩:=hk
  have q:∀bF,N'.aW ah.nx bF->(ij s'.σ F.res).run s'.g=some ((kP l).av C.D.toTE bF):=fun bF hN=>by
   rw [rf]
   unfold ij
   rw [de (sc hC.ok (R1.at_ bF hN) hr hO)];rfl
  refine ⟨_,q N' (N'.dH _),fun bF hN=> ?_,hk⟩
  have:=(q bF hN).symm.trans (q N' (N'.dH _))
  simpa using this
 have go:∀{x:Ex},(x= .normal\/x= .ret)->e=x->(∃v,(ij s'.σ F.res).run s'.g=some (v.av C.D.toTE N')/\(∀bF,N'.aW ah.nx bF->v.av C.D.toTE bF=v.av C.D.toTE N')/\K v ah)->ru C.P C.D f vs st K N s:=fun {x} hx he hv=>by
  obtain ⟨v,v1,v2,v3⟩:=hv
  refine ⟨hc,s'.g,s'.k,N',v,ah, ?_,v2, ?_, ?_, ?_,v3⟩
  ·refine yg hF (by rw [K7];exact Ly hb) (EW.jz e1 fun y t ht=> ?_)
   obtain ⟨rfl,rfl⟩:=ht
   exact ⟨by rw [he];exact hx,t,S3.Le.kS,v1,rfl,rfl⟩
  ·rw [<-ic];exact r3.1
  ·rw [<-ic];exact r3.2
  ·have vX:ah.rm=st.rm:=r2
   have cC:∀a X,(⟨[],st.rm,[],ah.m,ah.nx⟩:SS τ dn).bd a X->ah.bd a X:=fun a X hX=>hX.imp id fun h=>by rw [vX];exact h
   refine ⟨fun bF hN=>⟨fun i v hv=>by simp [getS] at hv,fun i v hv=>by simp [getS] at hv,(R1.at_ bF hN).bl,fun nm B hB=>(R1.at_ bF hN).rb nm B (by rw [vX];exact hB),fun t A h id hid=>(R1.at_ bF hN).ar t A (cC 0 _ h) id hid⟩,R1.inj,R1.lt,R1.ml,fun nm B hB=>R1.rl nm B (by rw [vX];exact hB),fun t A h id hid=>⟨(R1.sp t A (cC 0 _ h) id hid).1,fun nm B hB=>(R1.sp t A (cC 0 _ h) id hid).2 nm B (cC nm B hB)⟩⟩
 cases e with
 |normal=>exact go (.inl rfl) rfl (fin hk)
 |ret=>exact go (.inr rfl) rfl (fin hk)
 |exit i=>exact hk.elim
def vY (D:TD τ dn) (t:τ) (vs:List (SV τ dn)) (st:SS τ dn) (K:SV τ dn->SS τ dn->Prop):Prop:=
 match vs with
 |[.own nm sz,a,b]=>match st.gm nm,a.int,b.int with
  |some (.bl t' xs),some (x,_),some (y,_)=>if h:t'=t then (bif st.rw nm&&Nat.beq sz (D.sz t) then 0<=x/\x<xs.length/\y=x+1/\xs.length<=1000000/\K (.own st.nx sz) ⟨st.rt,st.rm,st.t,(st.nx,some (.bl t ((h▸xs:List (dn t)).eraseIdx x.toNat)))::(nm,none)::st.m,st.nx+1⟩ else False) else False
  |_,_,_=>False
 |_=>False
theorem IV {f:FuncId} {t:τ} {by_:Nat} {zs:List AV} (hk:IK.Ok P D f (.del t by_ zs:IK τ dn)) {vs:List (SV τ dn)} {st:SS τ dn} {K:SV τ dn->SS τ dn->Prop} {s:S3} (R:Rel D N st s) (h:vY D t vs st K):ru P D f vs st K N s:=by
 obtain ⟨hF,hc,hz⟩:=hk
 unfold vY at h
 split at h
 case h_2=>exact h.elim
 rename_i nm sz a b
 split at h
 case h_2=>exact h.elim
 rename_i t' xs x bx y KE h1 h2 h3
 split at h
 case isFalse=>exact h.elim
 rename_i ht
 subst ht
 cases hb:st.rw nm&&Nat.beq sz (D.sz t') with
 |false=>rw [hb] at h;exact h.elim
 |true=>
 rw [hb,KP] at h
 rw [KM] at hb
 obtain ⟨vZ,hs⟩:=hb
 have hs:=K1 hs
 subst hs
 obtain ⟨q1,q2,q3,q4,hK⟩:=h
 unfold SS.rw at vZ
 rw [KM] at vZ
 obtain ⟨w1,w2⟩:=vZ
 have hm:getS st.m nm=some (some (.bl t' xs)):=by
  unfold SS.gm at h1
  cases hg:getS st.m nm with
  |none=>rw [hg] at w1;simp at w1
  |some B=>rw [hg] at h1;simp only at h1;rw [h1]
 have hb0:=R.here.bl nm _ hm
 have R1:Rel D N st ⟨s.σ,s.g,s.k+1⟩:=⟨R.at_,R.inj,fun a ha=>Mr (R.lt a ha),R.ml,R.rl,fun t A h id hid=>⟨Mr (R.sp t A h id hid).1,(R.sp t A h id hid).2⟩⟩
 have fg:=R1.go (n:=0) (d:=none) (r:= .mov [] (.vo undef) nm (.bl t' (xs.eraseIdx x.toNat))) rfl ⟨⟨_,hm⟩,by simpa using w2,rfl⟩ (val:= .v undef) (ups:=[(N.ι nm,none),(s.k+1,some ⟨D.sz t',(xs.eraseIdx x.toNat).map (D.ea N.ρ t')⟩)]) (fun _ _=>rfl) (fun N' hN=>by
  have e:=hN.1 nm (Mr (R.ml nm _ hm))
  have e2:=hN.2
  simp only [SR.up,au.cN] at e e2
  have aA:¬nm=st.nx:=fun e=>by have:=R.ml nm _ hm;omega
  rw [KK aA,KK aA] at e
  simp only [SR.ups,SB.av,e.1,e2])
 have hid:N.ι nm<s.k:=R.lt nm (R.ml nm _ hm)
 refine ⟨hc,aj s.g [(N.ι nm,none),(s.k+1,some ⟨D.sz t',(xs.eraseIdx x.toNat).map (D.ea N.ρ t')⟩)],s.k+2,N.cN st.nx (s.k+1) (xs.eraseIdx x.toNat).length, .own st.nx (D.sz t'),_, ?_,fun bF hN=> ?_,N.jP _ _ _,Nat.le_succ _, ?_,hK⟩
 ·refine IT fun m mH AE=> ?_
  have hB:look m (N.ι nm)=some ⟨D.sz t',xs.map (D.ea N.ρ t')⟩:=by rw [AE];exact hb0.1
  have:=Ef (P:=P) (f:=f) (m:=m) hF hz hB q1 q2 q4
  rw [q3] at h3
  have aZ:N.ln nm=xs.length:=hb0.2
  have e1:[SV.own nm (D.sz t'),a,b].map (SV.av D.toTE N)=[.own (N.ι nm) (D.sz t') 0 xs.length,VI x,VI (x+1)]:=by
   simp only [KW,Lv,SV.av,aZ,dX h2,dX h3]
  have e2:(SV.own st.nx (D.sz t'):SV τ dn).av D.toTE (N.cN st.nx (s.k+1) (xs.eraseIdx x.toNat).length)= .own (m.length+1) (D.sz t') 0 (xs.eraseIdx x.toNat).length:=by
   simp only [SV.av,au.cN,KN,mH]
  rw [e1,e2]
  have e3:look (jD m (N.ι nm) ⟨D.sz t',(xs.eraseIdx x.toNat).map (D.ea N.ρ t')⟩)=aj s.g [(N.ι nm,none),(s.k+1,some ⟨D.sz t',(xs.eraseIdx x.toNat).map (D.ea N.ρ t')⟩)]:=by
   rw [<-AE, <-mH]
   rw [<-mH] at hid
   funext id
   unfold look jD
   simp only [aj]
   rcases Ls id m.length with hl|hl
   ·rw [LH (by simpa using hl)]
    rw [KK (by omega)]
    by_cases hi:id=N.ι nm
    ·subst hi;simp [hid]
    ·rw [KK hi,MI (fun e=>hi e.symm)]
   ·rw [LX (by simpa using hl),List.length_set]
    rcases Nat.lt_trichotomy id (m.length+1) with h5|h5|h5
    ·have:id=m.length:=by omega
     subst this
     rw [KK (by omega),KK (by omega)];simp
    ·subst h5
     rw [KL rfl];simp
    ·rw [KK (by omega),KK (by omega),Mo (by simp;omega),Mo (by omega)]
  have e4:(jD m (N.ι nm) ⟨D.sz t',(xs.eraseIdx x.toNat).map (D.ea N.ρ t')⟩).length=s.k+2:=by simp [jD,mH]
  rw [e3,e4] at this
  exact this
 ·have:=hN.1 st.nx (LQ _)
  simp only [SV.av,this.1,this.2]
 ·exact ⟨fun bF hN=>⟨fun i v hv=>by simp [getS] at hv,fun i v hv=>by simp [getS] at hv,(fg.at_ bF hN).bl,(fg.at_ bF hN).rb,(fg.at_ bF hN).ar⟩,fg.inj,fg.lt,fg.ml,fg.rl,fg.sp⟩
def sj (P:Program) (D:TD τ dn) (Δ:List (b7 τ dn)) (Ω:List (gT τ dn)) (il:List (IL τ dn)):Nat->JW τ dn
 |0,_,_,_,_=>False
 |d+1,f,vs,st,K=>match pv il f vs with
  |some ⟨_, .fn F an,_⟩=>vW ⟨P,D,Δ,Ω,st.nx,sj P D Δ Ω il d,false⟩ F an vs st K
  |some ⟨_, .del t _ _,_⟩=>vY D t vs st K
  |none=>False
theorem AF {P:Program} (ok:aQ D) {Δ:List (b7 τ dn)} (pw:Cons P D Δ) {Ω:List (gT τ dn)} (px:sh P D Ω) {il:List (IL τ dn)} (cg:si P D il):∀(d fl:Nat),(⟨P,D,Δ,Ω,fl,sj P D Δ Ω il d,false⟩:bQ τ dn).Ok
 |0,fl=>⟨ok,vT pw,vU px,fun _ _ h=>h.elim⟩
 |d+1,fl=>⟨ok,vT pw,vU px,fun {f vs st K N s} R ha h=>by
  simp only [sj] at h
  split at h
  ·rename_i F an hi
   obtain ⟨h1,h2⟩:=vV cg hi
   exact IU (AF ok pw px cg d st.nx) h1 h2 R rfl ha h
  ·rename_i hi
   exact IV (vV cg hi) R h
  ·exact h.elim⟩
theorem eU (ok:aQ D) {Δ:List (b7 τ dn)} (pw:Cons P D Δ) {Ω:List (gT τ dn)} (px:sh P D Ω) (c:b7 τ dn) (hF:cFunc P c.f=some F) (hc:bT P c.f=true) (il:PD dn c.ps->List (IL τ dn)) (cg:∀x,si P D (il x)) (d:Nat) (an:PD dn c.ps->Nat->Option (LA τ dn)) (h:∀x,c.pre x->vR ⟨P,D,Δ,Ω,0,sj P D Δ Ω (il x) d,false⟩ F (an x) (jW D c.ps x) c.rs (c.res x)):c.Ok P D:=
 ⟨hc,fun x N hp=>IS (AF ok pw px (cg x) d 0) hF N (se ok c.ps x) (h x hp)⟩
end
open Go.RowKit
structure LR (α:Type) where
 sz:Nat
 ea:(Nat->AV)->α->List AV
def LR.i64:LR Int:=⟨1,fun _ x=>[.v (.int .i64 x)]⟩
def LR.u8:LR UInt8:=⟨1,fun _ x=>[.v (.int .u8 x.toNat)]⟩
def LR.u64:LR dM:=⟨1,fun _ x=>[.v (.int .u64 (x.n:Int))]⟩
def LR.sk:LR Bool:=⟨1,fun _ x=>[.v (.bool x)]⟩
def LR.str:LR ByteArray:=⟨1,fun _ x=>[.v (.string x)]⟩
def LR.prod (A:LR α) (B:LR β):LR (α×β):=⟨A.sz+B.sz,fun ρ x=>A.ea ρ x.1++B.ea ρ x.2⟩
def LR.via (f:α->β) (B:LR β):LR α:=⟨B.sz,fun ρ x=>B.ea ρ (f x)⟩
def LR.list (A:LR α):LR (List α):=⟨1,fun ρ xs=>[.aN A.sz (xs.map (A.ea ρ))]⟩
section
variable {τ:Type} {dn:τ->Type}
theorem dw.app {a b c d:List AV} (h:dw a b) (k:dw c d):dw (a++c) (b++d):=by
 induction h with
 |nil=>exact k
 |cons h t ih=>exact .cons h ih
theorem AG {p:Nat->Bool}:∀{a b:List (SV τ dn)},SV.cY p (a++b)=(SV.cY p a&&SV.cY p b)
 |[],b=>by simp [SV.cY]
 |v::a,b=>by simp only [L2,SV.cY,AG,Bool.and_assoc]
structure LY (E:TE τ dn) {α:Type} (R:LR α) where
 es:α->List (SV τ dn)
 ds:List (SV τ dn)->Option α
 df:α
 cI:∀(N:au) (x:α),(es x).map (SV.av E N)=R.ea N.ρ x
 eZ:∀(N:au) (cs:List (SV τ dn)) (x:α),ds cs=some x->dw (cs.map (SV.av E N)) (R.ea N.ρ x)
 em:Bool
 pu:Bool
 dV:∀(N:au) (cs:List (SV τ dn)) (x:α),ds cs=some x->(em=true\/cs.all SV.ne=true)->cs.map (SV.av E N)=R.ea N.ρ x
 len:∀x,(es x).length=R.sz
 one:∀x,(es x).all SV.one=true
 nf:∀(p:Nat->Bool) x,SV.cY p (es x)=true
 e8:∀(ρ gx:Nat->AV) (x:α),R.ea ρ x=R.ea gx x
 pu1:∀(N:au) (x:α),pu=true->(R.ea N.ρ x).all AV.pu1=true
 bt:Option ((α->UInt8)×(UInt8->α)):=none
 AH:∀(N:au) (p:(α->UInt8)×(UInt8->α)),bt=some p->(∀x,R.ea N.ρ x=[.v (.int .u8 (p.1 x).toNat)])/\∀b,p.1 (p.2 b)=b:=by intro N p h;simp at h
variable {E:TE τ dn}
def v5:List (SV τ dn)->Option Int
 |[.vi x]=>some x
 |[.vn x]=>some x
 |_=>none
def v7:List (SV τ dn)->Option UInt8
 |[.vy x]=>some x
 |_=>none
def v8:List (SV τ dn)->Option dM
 |[.vu x]=>some x
 |_=>none
def v9:List (SV τ dn)->Option Bool
 |[.vt x]=>some x
 |[.vb c]=>some c.den
 |_=>none
def wa:List (SV τ dn)->Option ByteArray
 |[.vz x]=>some x
 |_=>none
theorem AI {cs:List (SV τ dn)} {x:Int} (h:v5 cs=some x):cs.map (SV.av E N)=[.v (.int .i64 x)]:=by
 unfold v5 at h;split at h<;>simp only [KJ,reduceCtorEq] at h<;>subst h<;>rfl
theorem AJ {cs:List (SV τ dn)} {x:UInt8} (h:v7 cs=some x):cs.map (SV.av E N)=[.v (.int .u8 x.toNat)]:=by
 unfold v7 at h;split at h<;>simp only [KJ,reduceCtorEq] at h;subst h;rfl
theorem AK {cs:List (SV τ dn)} {x:dM} (h:v8 cs=some x):cs.map (SV.av E N)=[.v (.int .u64 (x.n:Int))]:=by
 unfold v8 at h;split at h<;>simp only [KJ,reduceCtorEq] at h;subst h;rfl
theorem AL {cs:List (SV τ dn)} {x:Bool} (h:v9 cs=some x):cs.map (SV.av E N)=[.v (.bool x)]:=by
 unfold v9 at h;split at h<;>simp only [KJ,reduceCtorEq] at h<;>subst h<;>rfl
theorem AM {cs:List (SV τ dn)} {x:ByteArray} (h:wa cs=some x):cs.map (SV.av E N)=[.v (.string x)]:=by
 unfold wa at h;split at h<;>simp only [KJ,reduceCtorEq] at h;subst h;rfl
theorem dw.of_eq {a b:List AV} (h:a=b):dw a b:=by
 subst h
 induction a with
 |nil=>exact .nil
 |cons x r ih=>exact .cons bJ.refl ih
def LY.i64:LY E LR.i64 where
 es x:=[.vi x]
 ds:=v5
 df:=0
 cI _ _:=rfl
 eZ _ _ _ h:= .of_eq (AI h)
 em:=true
 pu:=true
 dV _ _ _ h _:=AI h
 len _:=rfl
 one _:=rfl
 nf _ _:=rfl
 e8 _ _ _:=rfl
 pu1 _ _ _:=rfl
def LY.u8:LY E LR.u8 where
 es x:=[.vy x]
 ds:=v7
 df:=0
 cI _ _:=rfl
 eZ _ _ _ h:= .of_eq (AJ h)
 em:=true
 pu:=true
 dV _ _ _ h _:=AJ h
 len _:=rfl
 one _:=rfl
 nf _ _:=rfl
 e8 _ _ _:=rfl
 pu1 _ _ _:=rfl
 bt:=some (id,id)
 AH N p h:=by simp only [KJ] at h;subst h;exact ⟨fun _=>rfl,fun _=>rfl⟩
def LY.u64:LY E LR.u64 where
 es x:=[.vu x]
 ds:=v8
 df:=⟨0,by decide⟩
 cI _ _:=rfl
 eZ _ _ _ h:= .of_eq (AK h)
 em:=true
 pu:=true
 dV _ _ _ h _:=AK h
 len _:=rfl
 one _:=rfl
 nf _ _:=rfl
 e8 _ _ _:=rfl
 pu1 _ _ _:=rfl
def LY.sk:LY E LR.sk where
 es x:=[.vb (.b x)]
 ds:=v9
 df:=false
 cI _ _:=rfl
 eZ _ _ _ h:= .of_eq (AL h)
 em:=true
 pu:=true
 dV _ _ _ h _:=AL h
 len _:=rfl
 one _:=rfl
 nf _ _:=rfl
 e8 _ _ _:=rfl
 pu1 _ _ _:=rfl
def LY.str:LY E LR.str where
 es x:=[.vz x]
 ds:=wa
 df:=ByteArray.empty
 cI _ _:=rfl
 eZ _ _ _ h:= .of_eq (AM h)
 em:=true
 pu:=true
 dV _ _ _ h _:=AM h
 len _:=rfl
 one _:=rfl
 nf _ _:=rfl
 e8 _ _ _:=rfl
 pu1 _ _ _:=rfl
def wb (n:Nat) (a:List (SV τ dn)->Option α) (b:List (SV τ dn)->Option β) (cs:List (SV τ dn)):Option (α×β):=
 match a (cs.take n),b (cs.drop n) with
 |some x,some y=>some (x,y)
 |_,_=>none
theorem AN {β:Type} {a:List (SV τ dn)->Option α} {b:List (SV τ dn)->Option β} {cs:List (SV τ dn)} {z:α×β} (h:wb n a b cs=some z):a (cs.take n)=some z.1/\b (cs.drop n)=some z.2:=by
 unfold wb at h
 split at h
 ·rename_i x y h1 h2
  simp only [KJ] at h;subst h;exact ⟨h1,h2⟩
 ·simp at h
def LY.prod {α β:Type} {A:LR α} {B:LR β} (a:LY E A) (b:LY E B):LY E (A.prod B) where
 es x:=a.es x.1++b.es x.2
 ds:=wb A.sz a.ds b.ds
 df:=(a.df,b.df)
 cI N x:=by rw [Lz,a.cI,b.cI];rfl
 eZ N cs x h:=by
  obtain ⟨h1,h2⟩:=AN h
  have:=dw.app (a.eZ N _ _ h1) (b.eZ N _ _ h2)
  rw [<-Lz,List.take_append_drop] at this
  exact this
 em:=a.em&&b.em
 pu:=a.pu&&b.pu
 dV N cs x h hn:=by
  obtain ⟨h1,h2⟩:=AN h
  have wR:a.em=true\/(cs.take A.sz).all SV.ne=true:=hn.elim (fun h=> .inl (by rw [KM] at h;exact h.1)) fun hn=> .inr (KQ.2 fun v hv=>KQ.1 hn v (List.mem_of_mem_take hv))
  have nB:b.em=true\/(cs.drop A.sz).all SV.ne=true:=hn.elim (fun h=> .inl (by rw [KM] at h;exact h.2)) fun hn=> .inr (KQ.2 fun v hv=>KQ.1 hn v (List.mem_of_mem_drop hv))
  show _=A.ea N.ρ x.1++B.ea N.ρ x.2
  rw [<-a.dV N _ _ h1 wR, <-b.dV N _ _ h2 nB, <-Lz,List.take_append_drop]
 len x:=by rw [Ma,a.len,b.len];rfl
 one x:=by rw [List.all_append,a.one,b.one];rfl
 nf p x:=by rw [AG,a.nf,b.nf];rfl
 e8 ρ gx x:=by show A.ea ρ x.1++B.ea ρ x.2=_;rw [a.e8 ρ gx,b.e8 ρ gx];rfl
 pu1 N x h:=by
  rw [KM] at h
  show (A.ea N.ρ x.1++B.ea N.ρ x.2).all _=true;rw [List.all_append,a.pu1 _ _ h.1,b.pu1 _ _ h.2];rfl
def LY.via {α β:Type} {f:α->β} {B:LR β} (g:β->α) (AP:∀y,f (g y)=y) (b:LY E B):LY E (LR.via f B) where
 es x:=b.es (f x)
 ds cs:=match b.ds cs with
  |some y=>some (g y)
  |none=>none
 df:=g b.df
 cI N x:=b.cI N (f x)
 eZ N cs x h:=by
  split at h
  ·rename_i y hy
   simp only [KJ] at h;subst h
   show dw _ (B.ea N.ρ (f (g y)))
   rw [AP];exact b.eZ N _ _ hy
  ·simp at h
 em:=b.em
 pu:=b.pu
 dV N cs x h hn:=by
  split at h
  ·rename_i y hy
   simp only [KJ] at h;subst h
   show _=(B.ea N.ρ (f (g y)))
   rw [AP];exact b.dV N _ _ hy hn
  ·simp at h
 len x:=b.len (f x)
 one x:=b.one (f x)
 nf p x:=b.nf p (f x)
 e8 ρ gx x:=b.e8 ρ gx (f x)
 pu1 N x h:=b.pu1 N (f x) h
def py {α:Type} (em:Bool) (ds:List (SV τ dn)->Option α):List (List (SV τ dn))->Option (List α)
 |[]=>some []
 |cs::r=>if (em||cs.all SV.ne)=true then (match ds cs,py em ds r with
  |some x,some l=>some (x::l)
  |_,_=>none) else none
theorem AQ {t:τ} {R:LR (dn t)} (A:LY E R) (N:au):∀{els:List (List (SV τ dn))} {xs:List (dn t)},py A.em A.ds els=some xs->SV.bA E N els=xs.map (R.ea N.ρ)
 |[],xs,h=>by simp only [py,KJ] at h;subst h;rfl
 |cs::r,xs,h=>by
  simp only [py] at h
  split at h
  ·rename_i hn
   split at h
   ·rename_i x l h1 h2
    simp only [KJ] at h;subst h
    simp only [SV.bA,KW,SV.ba,A.dV N _ _ h1 (by rw [K9] at hn;exact hn),AQ A N h2]
   ·simp at h
  ·simp at h
section
variable [DecidableEq τ]
def wc (t:τ) (sz:Nat) (em:Bool) (ds:List (SV τ dn)->Option (dn t)):List (SV τ dn)->Option (List (dn t))
 |[.vl t' xs]=>if h:t'=t then some (h▸xs) else none
 |[.vc k els]=>if k=sz then py em ds els else none
 |[.emp]=>some []
 |_=>none
theorem AR {t:τ} {R:LR (dn t)} (A:LY E R) (hs:E.sz t=R.sz) (he:∀ρ,E.ea ρ t=R.ea ρ) (N:au) {cs:List (SV τ dn)} {xs:List (dn t)} (h:wc t R.sz A.em A.ds cs=some xs):dw (cs.map (SV.av E N)) ((LR.list R).ea N.ρ xs)/\(cs.all SV.ne=true->cs.map (SV.av E N)=(LR.list R).ea N.ρ xs):=by
 unfold wc at h
 split at h
 ·rename_i t' ys
  split at h
  ·rename_i ht
   subst ht
   simp only [KJ] at h;subst h
   have:[SV.vl t' ys].map (SV.av E N)=(LR.list R).ea N.ρ ys:=by
    simp only [KW,Lv,SV.av,hs,he];rfl
   exact ⟨.of_eq this,fun _=>this⟩
  ·simp at h
 ·rename_i k els
  split at h
  ·rename_i hk
   subst hk
   have:[SV.vc R.sz els].map (SV.av E N)=(LR.list R).ea N.ρ xs:=by
    simp only [KW,Lv,SV.av,AQ A N h];rfl
   exact ⟨.of_eq this,fun _=>this⟩
  ·simp at h
 ·simp only [KJ] at h;subst h
  exact ⟨.cons bJ.emp .nil,fun hn=>by simp [SV.ne] at hn⟩
 ·simp at h
def LY.list {t:τ} {R:LR (dn t)} (A:LY E R) (hs:E.sz t=R.sz) (he:∀ρ,E.ea ρ t=R.ea ρ):LY E (LR.list R) where
 es x:=[.vl t x]
 ds:=wc t R.sz A.em A.ds
 df:=[]
 cI N x:=by simp only [KW,Lv,SV.av,hs,he];rfl
 eZ N cs x h:=(AR A hs he N h).1
 em:=false
 pu:=true
 dV N cs x h hn:=(AR A hs he N h).2 (hn.resolve_left (by simp))
 len _:=rfl
 one _:=rfl
 nf _ _:=rfl
 e8 ρ gx x:=by show [AV.aN R.sz (x.map (R.ea ρ))]=[AV.aN R.sz (x.map (R.ea gx))];rw [funext fun y=>A.e8 ρ gx y]
 pu1 _ _ _:=rfl
end
def IW (E:TE τ dn) (ta:τ) (A:List (Nat×List (dn ta))) {α β:Type} (R:LR α) (R':LR β) (f:α->β) (O:α->Prop):Prop:=
 R'.sz=R.sz/\∀(N:au) (φ:AV->AV),(∀a,a.pu1=true->φ a=a)->(∀id n,dj A id->(eQ A id).length=n->φ (.own id (E.sz ta) 0 n)= .aN (E.sz ta) ((eQ A id).map (E.ea N.ρ ta)))->∀x,O x->(R.ea N.ρ x).map φ=R'.ea N.ρ (f x)
abbrev FZ (τ:Type) (dn:τ->Type):Type:=(t ta:τ)->(A:List (Nat×List (dn ta)))->Option ((t':τ)×(dn t->dn t')×(dn t->Prop))
def TE.kX (lr:(t:τ)->LR (dn t)):TE τ dn:=⟨fun t=>(lr t).sz,fun ρ t=>(lr t).ea ρ⟩
def TD.kX {lr:(t:τ)->LR (dn t)} (ly:(t:τ)->LY (TE.kX lr) (lr t)) (ag:τ->Bool) (hint:Nat->Nat->Option τ) (neg:Bool) (ar:Option τ:=none) (hr:τ->Bool:=fun _=>false) (fz:FZ τ dn:=fun _ _ _=>none) (th:(t t':τ)->Option (dn t->dn t'):=fun _ _=>none):TD τ dn where
 toTE:=TE.kX lr
 df t:=(ly t).df
 es t:=(ly t).es
 ds t:=(ly t).ds
 ag:=ag
 pu t:=(ly t).pu
 hint:=hint
 neg:=neg
 em t:=(ly t).em
 ar:=ar
 hr:=hr
 fz:=fz
 bt t:=(ly t).bt
 th:=th
theorem TD.IX {lr:(t:τ)->LR (dn t)} {ly:(t:τ)->LY (TE.kX lr) (lr t)} {ag:τ->Bool} {hint:Nat->Nat->Option τ} {neg:Bool} {ar:Option τ} {hr:τ->Bool} {fz:FZ τ dn} {th:(t t':τ)->Option (dn t->dn t')} (l8:∀(t ta:τ) (A:List (Nat×List (dn ta))) (t':τ) (f:dn t->dn t') (O:dn t->Prop),fz t ta A=some ⟨t',f,O⟩->IW (TE.kX lr) ta A (lr t) (lr t') f O:=by intro t ta A t' f O h;simp at h) (IY:∀(ρ:Nat->AV) (t t':τ) (f:dn t->dn t'),th t t'=some f->(lr t').sz=(lr t).sz/\∀x,(lr t').ea ρ (f x)=(lr t).ea ρ x:=by intro ρ t t' f h;simp at h):aQ (TD.kX ly ag hint neg ar hr fz th) where
 cI N t x:=(ly t).cI N x
 eZ N t cs x h:=(ly t).eZ N cs x h
 dV N t cs x h hn:=(ly t).dV N cs x h (by unfold TD.lO at hn;rw [K9] at hn;exact hn)
 len t x:=(ly t).len x
 one t x:=(ly t).one x
 nf p t x:=(ly t).nf p x
 e8 ρ gx t x _:=(ly t).e8 ρ gx x
 pu1 N t x h:=(ly t).pu1 N x h
 bt N t p h:=(ly t).AH N p h
 th:=IY
 fz N φ t ta A t' f O h h1 h2:=⟨(l8 t ta A t' f O h).1,fun x hx=>(l8 t ta A t' f O h).2 N φ h1 h2 x hx⟩
end
open Go.RowKit
structure LG {α:Type} [aC α] (R:LR α) where
 ji:α->Prop
 sz:R.sz=aC.size α
 av:∀{w:World} {cs:List Value} {x:α},aC.rep w w.heap.size cs x->R2 (ae (E0 w fun b=>b<w.heap.size)) cs (R.ea (fun _=> .dead) x)
 one:∀{w:World} {cs:List Value} {x:α},aC.rep w w.heap.size cs x->∀v,v∈cs->v.oneCell'=true
 pu:∀(x:α) c,c∈R.ea (fun _=> .dead) x->Pu c
 bg:∀{w:World} {cs:List Value} {x:α},aC.rep w w.heap.size cs x->ji x
theorem R2.app {R:Value->AV->Prop} {ry:List Value} {bE:List AV} (h:R2 R vs as_) (k:R2 R ry bE):R2 R (vs++ry) (as_++bE):=by
 induction h with
 |nil=>exact k
 |cons h t ih=>exact .cons h ih
def LG.i64:LG LR.i64 where
 ji:=cx
 sz:=rfl
 av h:=by obtain ⟨rfl,_⟩:=h;exact .cons (.v rfl) .nil
 one h v hv:=by obtain ⟨rfl,_⟩:=h;simp at hv;subst hv;rfl
 pu x c hc:=by simp [LR.i64] at hc;subst hc;exact .v
 bg h:=h.2
def LG.str:LG LR.str where
 ji x:=x.size<=9223372036854775807
 sz:=rfl
 av h:=by obtain ⟨rfl,_⟩:=h;exact .cons (.v rfl) .nil
 one h v hv:=by obtain ⟨rfl,_⟩:=h;simp at hv;subst hv;rfl
 pu x c hc:=by simp [LR.str] at hc;subst hc;exact .v
 bg h:=h.2
def LG.prod {α β:Type} [aC α] [aC β] {A:LR α} {B:LR β} (a:LG A) (b:LG B):LG (A.prod B) where
 ji x:=a.ji x.1/\b.ji x.2
 sz:=by show A.sz+B.sz=aC.size α+aC.size β;rw [a.sz,b.sz]
 av h:=by obtain ⟨c0,c1,rfl,h0,h1⟩:=h;exact (a.av h0).app (b.av h1)
 one h v hv:=by
  obtain ⟨c0,c1,rfl,h0,h1⟩:=h
  rcases Lj.1 hv with hv|hv
  ·exact a.one h0 v hv
  ·exact b.one h1 v hv
 pu x c hc:=by
  rcases Lj.1 hc with hc|hc
  ·exact a.pu _ c hc
  ·exact b.pu _ c hc
 bg h:=by obtain ⟨c0,c1,rfl,h0,h1⟩:=h;exact ⟨a.bg h0,b.bg h1⟩
def LG.via {α β:Type} [aC β] {f:α->β} {B:LR β} (b:LG B): @LG α (aC.via f) (LR.via f B):=
 @LG.mk α (aC.via f) (LR.via f B) (fun x=>b.ji (f x)) b.sz (fun h=>b.av h) (fun h=>b.one h) (fun x=>b.pu (f x)) fun h=>b.bg h
def N0:au:=⟨fun _=>0,fun _=>0,fun _=> .dead⟩
section
variable {τ:Type} {dn:τ->Type} {D:TD τ dn}
theorem IZ (ok:aQ D) {t:τ} {x:dn t} {cs:List Value} (ha:D.ag t=true) (h:R2 (ae E) cs (D.ea (fun _=> .dead) t x)):ae E (.agg cs.toArray) ((D.en t x).av D.toTE N0):=by
 rw [o6 ha,SV.av,SV.ba,ok.cI];exact h.agg
end
open Go.RowKit
inductive Tc where
 |cZ
 |me
 |pz
 |iD
 |g4
 |j8
 |j9
 |fj
 |pA
 |nq
 |pB
def Tc.no:Tc->Nat
 | .cZ=>0
 | .me=>1
 | .pz=>2
 | .iD=>3
 | .g4=>4
 | .j8=>5
 | .j9=>6
 | .fj=>7
 | .pA=>8
 | .nq=>9
 | .pB=>10
def Tc.of:Nat->Tc
 |0=> .cZ
 |1=> .me
 |2=> .pz
 |3=> .iD
 |4=> .g4
 |5=> .j8
 |6=> .j9
 |7=> .fj
 |8=> .pA
 |9=> .nq
 |_=> .pB
theorem Tc.AS (a:Tc):Tc.of a.no=a:=by cases a<;>rfl
instance:DecidableEq Tc:=fun a b=>match Nat.decEq a.no b.no with
 |isTrue h=>isTrue (by rw [<-Tc.AS a,h,Tc.AS])
 |isFalse h=>isFalse fun e=>h (by rw [e])
abbrev Tc.dn:Tc->Type
 | .cZ=>Int
 | .me=>UInt8
 | .pz=>dM
 | .iD=>Bool
 | .g4=>ByteArray
 | .j8=>bP
 | .j9=>cw
 | .fj=>aI
 | .pA=>(List Int)
 | .nq=>(List aI)
 | .pB=>(List UInt8)
def sm:LR bP:= .via (fun x=>(x.time,x.who)) (.prod LR.i64 LR.i64)
def sn:LR cw:= .via (fun x=>(x.at_,x.data)) (.prod sm LR.str)
def sq:LR aI:= .via (fun x=>(x.kind,x.op,x.node,x.copy)) (.prod LR.i64 (.prod LR.i64 (.prod LR.i64 sn)))
def Tc.lr:(t:Tc)->LR t.dn
 | .cZ=>LR.i64
 | .me=>LR.u8
 | .pz=>LR.u64
 | .iD=>LR.sk
 | .g4=>LR.str
 | .j8=>sm
 | .j9=>sn
 | .fj=>sq
 | .pA=>(LR.list LR.i64)
 | .nq=>(LR.list sq)
 | .pB=>(LR.list LR.u8)
abbrev tE:TE Tc Tc.dn:=TE.kX Tc.lr
def AT:LY tE sm:= .via (fun y=>⟨y.1,y.2⟩) (fun _=>rfl) (.prod LY.i64 LY.i64)
def AU:LY tE sn:= .via (fun y=>⟨y.1,y.2⟩) (fun _=>rfl) (.prod AT LY.str)
def AW:LY tE sq:= .via (fun y=>⟨y.1,y.2.1,y.2.2.1,y.2.2.2⟩) (fun _=>rfl) (.prod LY.i64 (.prod LY.i64 (.prod LY.i64 AU)))
def Tc.ly:(t:Tc)->LY tE t.lr
 | .cZ=>LY.i64
 | .me=>LY.u8
 | .pz=>LY.u64
 | .iD=>LY.sk
 | .g4=>LY.str
 | .j8=>AT
 | .j9=>AU
 | .fj=>AW
 | .pA=>(LY.list (t:=Tc.cZ) LY.i64 rfl fun _=>rfl)
 | .nq=>(LY.list (t:=Tc.fj) AW rfl fun _=>rfl)
 | .pB=>(LY.list (t:=Tc.me) LY.u8 rfl fun _=>rfl)
def Tc.ag:Tc->Bool
 | .j8| .j9| .fj=>true
 |_=>false
def I1 (sz bytes:Nat):Option Tc:=bif Nat.beq sz 1&&Nat.beq bytes 8 then some .cZ else bif Nat.beq sz 1&&Nat.beq bytes 1 then some .me else none
def tD:TD Tc Tc.dn:=TD.kX Tc.ly Tc.ag I1 false
theorem eD:aQ tD:=TD.IX
theorem pC:eB Try.prog 3 Int:=FO Try.underlying3 (by kernel_rfl)
theorem I2:eB Try.prog 23 bP:=eB.via (ud Try.underlying23 rfl (by kernel_rfl) (oo pC rfl (uc pC rfl))) _ (fun p=>⟨p.1,p.2⟩) (fun _=>rfl)
theorem I3:eB Try.prog 9 ByteArray:=FP Try.underlying9 (by kernel_rfl)
theorem I4:eB Try.prog 25 cw:=eB.via (ud Try.underlying25 rfl (by kernel_rfl) (oo I2 rfl (uc I3 rfl))) _ (fun p=>⟨p.1,p.2⟩) (fun _=>rfl)
theorem I5:eB Try.prog 27 aI:=eB.via (ud Try.underlying27 rfl (by kernel_rfl) (oo pC rfl (oo pC rfl (oo pC rfl (uc I4 rfl))))) _ (fun p=>⟨p.1,p.2.1,p.2.2.1,p.2.2.2⟩) (fun _=>rfl)
open Go.RowKit
instance:DecidableEq ByteArray:=fun a b=>decidable_of_iff (gD a b=true) qF
def bP.ka (s:bP):Prop:=0<=s.time/\s.time<=1000000/\0<=s.who/\s.who<=31
instance (s:bP):Decidable s.ka:=by unfold bP.ka;infer_instance
def bP.aq (s:bP):Int:=if s.ka then 0 else 3
def cw.aq (c:cw):Int:=if c.at_.ka then (if c.data.size>64 then 2 else 0) else 3
abbrev cw.isNil (c:cw):Prop:=c.at_.time=0/\c.at_.who=0/\c.data=⟨#[]⟩
abbrev bK (k:Int):Prop:=k=2\/k=3
abbrev jj (k:Int):Prop:=1<=k/\k<=4
def aI.aq (m:aI):Int:=
 if jj m.kind then
  if 0<=m.op/\m.op<=30/\0<=m.node/\m.node<=11 then
   if m.copy.aq=0 then (if ¬bK m.kind/\¬m.copy.isNil then 1 else 0) else m.copy.aq
  else 3
 else 7
def we:b7 Tc Tc.dn:=⟨33,[.ty .cZ],fun x=>(fun (s:Int)=>True) x.1,[.iD],fun x=>(fun (s:Int)=>decide (0<=s/\s<=31)) x.1⟩
theorem I6 (s:Int):((0:Int)<=s->(0:Int)<=s)/\((0:Int)<=s->(0:Int)<=s)/\(decide ((0:Int)<=s)&&decide (s<=(31:Int)))=decide ((0:Int)<=s/\s<=(31:Int)):=by
 (try simp only [LL,LP,Lk,K6])
 (repeat' (first|apply And.intro|intro _))<;>first|assumption|trivial|omega|(grind [bP.aq])|trace_state
theorem I7:we.Ok Try.prog tD:=eU eD (Δ:=[]) trivial (Ω:=[]) trivial we FI FJ (fun _=>[]) (fun _=>trivial) 0 (fun x=>(fun (s:Int)=>(fun _=>none)) x.1) fun x hp=>Eq.mp (by kernel_rfl) (I6 x.1)
def wh:b7 Tc Tc.dn:=⟨28,[.ty .j8],fun x=>(fun (s:bP)=>True) x.1,[.cZ],fun x=>(fun (s:bP)=>s.aq) x.1⟩
theorem I8 (s:bP):((0:Int)<=s.time->(0:Int)<=s.time)/\((0:Int)<=s.time->(0:Int)<=s.time)/\((0:Int)<=s.time->(0:Int)<=s.time)/\((0:Int)<=s.time/\s.time<=(1000000:Int)->(0:Int)<=s.time/\s.time<=(1000000:Int))/\((0:Int)<=s.time/\s.time<=(1000000:Int)->(0:Int)<=s.time/\s.time<=(1000000:Int))/\((0:Int)<=s.time/\s.time<=(1000000:Int)->True)/\((0:Int)<=s.time/\s.time<=(1000000:Int)->(0:Int)<=s.time/\s.time<=(1000000:Int))/\((0:Int)<=s.time/\s.time<=(1000000:Int)->(0:Int)<=s.time/\s.time<=(1000000:Int))/\((s.time<(0:Int)\/(1000000:Int)<s.time)\/decide ((0:Int)<=s.who/\s.who<=(31:Int))= !true->(3:Int)=s.aq)/\(((0:Int)<=s.time/\s.time<=(1000000:Int))/\decide ((0:Int)<=s.who/\s.who<=(31:Int))= !false->(0:Int)=s.aq):=by
 (try simp only [LL,LP,Lk,K6])
 (repeat' (first|apply And.intro|intro _))<;>first|assumption|trivial|omega|(grind [bP.aq,bP.ka])|trace_state
theorem I9:wh.Ok Try.prog tD:=eU eD (Δ:=[we]) ⟨I7,trivial⟩ (Ω:=[]) trivial wh FC FD (fun _=>[]) (fun _=>trivial) 0 (fun x=>(fun (s:bP)=>(fun _=>none)) x.1) fun x hp=>Eq.mp (by kernel_rfl) (I8 x.1)
def wi:b7 Tc Tc.dn:=⟨22,[.ty .j9],fun x=>(fun (c:cw)=>True) x.1,[.cZ],fun x=>(fun (c:cw)=>c.aq) x.1⟩
theorem Ja (c:cw):True/\(c.at_.aq=(0:Int)->c.at_.aq=(0:Int))/\(c.at_.aq=(0:Int)->c.at_.aq=(0:Int))/\(c.at_.aq=(0:Int)->c.at_.aq=(0:Int))/\(c.at_.aq=(0:Int)->c.at_.aq=(0:Int))/\(c.at_.aq=(0:Int)/\(64:Int)<(↑c.data.size:Int)->(2:Int)=c.aq)/\(¬c.at_.aq=(0:Int)\/(↑c.data.size:Int)<=(64:Int)->c.at_.aq=c.aq):=by
 (try simp only [LL,LP,Lk,K6])
 (repeat' (first|apply And.intro|intro _))<;>first|assumption|trivial|omega|(grind [cw.aq,bP.aq,bP.ka])|trace_state
theorem Jb:wi.Ok Try.prog tD:=eU eD (Δ:=[wh]) ⟨I9,trivial⟩ (Ω:=[]) trivial wi Fs Ft (fun _=>[]) (fun _=>trivial) 0 (fun x=>(fun (c:cw)=>(fun _=>none)) x.1) fun x hp=>Eq.mp (by kernel_rfl) (Ja x.1)
def wj:b7 Tc Tc.dn:=⟨17,[.ty .cZ],fun x=>(fun (k:Int)=>True) x.1,[.iD],fun x=>(fun (k:Int)=>decide (bK k)) x.1⟩
theorem Jc (k:Int):(¬k=(2:Int)->¬k=(2:Int))/\(¬k=(2:Int)->¬k=(2:Int))/\(k==(2:Int)||k==(3:Int))=decide (bK k):=by
 (try simp only [LL,LP,Lk,K6])
 (repeat' (first|apply And.intro|intro _))<;>first|assumption|trivial|omega|(grind [])|trace_state
theorem AX:wj.Ok Try.prog tD:=eU eD (Δ:=[]) trivial (Ω:=[]) trivial wj E8 E9 (fun _=>[]) (fun _=>trivial) 0 (fun x=>(fun (k:Int)=>(fun _=>none)) x.1) fun x hp=>Eq.mp (by kernel_rfl) (Jc x.1)
def wk:b7 Tc Tc.dn:=⟨21,[.ty .cZ],fun x=>(fun (k:Int)=>True) x.1,[.iD],fun x=>(fun (k:Int)=>decide (jj k)) x.1⟩
theorem Jd (k:Int):((1:Int)<=k->(1:Int)<=k)/\((1:Int)<=k->(1:Int)<=k)/\(decide ((1:Int)<=k)&&decide (k<=(4:Int)))=decide (jj k):=by
 (try simp only [LL,LP,Lk,K6])
 (repeat' (first|apply And.intro|intro _))<;>first|assumption|trivial|omega|(grind [])|trace_state
theorem AY:wk.Ok Try.prog tD:=eU eD (Δ:=[]) trivial (Ω:=[]) trivial wk Fm Fp (fun _=>[]) (fun _=>trivial) 0 (fun x=>(fun (k:Int)=>(fun _=>none)) x.1) fun x hp=>Eq.mp (by kernel_rfl) (Jd x.1)
def sr:b7 Tc Tc.dn:=⟨10,[.ty .fj],fun x=>(fun (m:aI)=>True) x.1,[.cZ],fun x=>(fun (m:aI)=>m.aq) x.1⟩
theorem Je (m:aI):True/\(decide (jj m.kind)= !true->(7:Int)=m.aq)/\(decide (jj m.kind)= !false->((0:Int)<=m.op->(0:Int)<=m.op)/\((0:Int)<=m.op->(0:Int)<=m.op)/\((0:Int)<=m.op->(0:Int)<=m.op)/\((0:Int)<=m.op/\m.op<(31:Int)->(0:Int)<=m.node->(0:Int)<=m.node)/\((0:Int)<=m.op/\m.op<(31:Int)->(0:Int)<=m.node->(0:Int)<=m.node)/\((0:Int)<=m.op/\m.op<(31:Int)->(0:Int)<=m.node->(0:Int)<=m.node)/\((m.op<(0:Int)\/(31:Int)<=m.op)/\(m.op<(0:Int)\/(31:Int)<=m.op)\/((0:Int)<=m.op/\m.op<(31:Int))/\(m.node<(0:Int)\/(12:Int)<=m.node)->(3:Int)=m.aq)/\(((0:Int)<=m.op/\m.op<(31:Int)\/(0:Int)<=m.op/\m.op<(31:Int))/\((m.op<(0:Int)\/(31:Int)<=m.op)\/(0:Int)<=m.node/\m.node<(12:Int))->True/\(m.copy.aq=(0:Int)->m.copy.aq=(0:Int))/\(m.copy.aq=(0:Int)->m.copy.aq=(0:Int))/\(m.copy.aq=(0:Int)->True)/\(m.copy.aq=(0:Int)->m.copy.aq=(0:Int))/\(m.copy.aq=(0:Int)->m.copy.aq=(0:Int))/\(m.copy.aq=(0:Int)/\decide (bK m.kind)= !true->m.copy.aq=(0:Int)/\decide (bK m.kind)= !true)/\(m.copy.aq=(0:Int)/\decide (bK m.kind)= !true->m.copy.aq=(0:Int)/\decide (bK m.kind)= !true)/\(m.copy.aq=(0:Int)/\decide (bK m.kind)= !true->m.copy.aq=(0:Int)/\decide (bK m.kind)= !true)/\(m.copy.aq=(0:Int)/\decide (bK m.kind)= !true->m.copy.aq=(0:Int)/\decide (bK m.kind)= !true)/\((m.copy.aq=(0:Int)/\decide (bK m.kind)= !true)/\(¬m.copy.at_.time=(0:Int)\/¬m.copy.at_.who=(0:Int)\/¬m.copy.data=ByteArray.mk #[])->(1:Int)=m.aq)/\((¬m.copy.aq=(0:Int)\/decide (bK m.kind)= !false)\/m.copy.at_.time=(0:Int)/\m.copy.at_.who=(0:Int)/\m.copy.data=ByteArray.mk #[]->m.copy.aq=m.aq))):=by
 (try simp only [LL,LP,Lk,K6])
 (repeat' (first|apply And.intro|intro _))<;>first|assumption|trivial|omega|(grind [aI.aq])|trace_state
theorem wm:sr.Ok Try.prog tD:=eU eD (Δ:=[wj,wk,wi]) ⟨AX,AY,Jb,trivial⟩ (Ω:=[]) trivial sr EV EX (fun _=>[]) (fun _=>trivial) 0 (fun x=>(fun (m:aI)=>(fun _=>none)) x.1) fun x hp=>Eq.mp (by kernel_rfl) (Je x.1)
def wq:b7 Tc Tc.dn:=⟨29,[.ty .j8],fun x=>(fun (s:bP)=>True) x.1,[.cZ],fun x=>(fun (s:bP)=>s.aq) x.1⟩
theorem Jf (s:bP):((0:Int)<=s.time->(0:Int)<=s.time)/\((0:Int)<=s.time->(0:Int)<=s.time)/\((0:Int)<=s.time->(0:Int)<=s.time)/\((0:Int)<=s.time/\s.time<=(1000000:Int)->(0:Int)<=s.time/\s.time<=(1000000:Int))/\((0:Int)<=s.time/\s.time<=(1000000:Int)->(0:Int)<=s.time/\s.time<=(1000000:Int))/\((0:Int)<=s.time/\s.time<=(1000000:Int)->(0:Int)<=s.time/\s.time<=(1000000:Int))/\(((0:Int)<=s.time/\s.time<=(1000000:Int))/\(0:Int)<=s.who->((0:Int)<=s.time/\s.time<=(1000000:Int))/\(0:Int)<=s.who)/\(((0:Int)<=s.time/\s.time<=(1000000:Int))/\(0:Int)<=s.who->((0:Int)<=s.time/\s.time<=(1000000:Int))/\(0:Int)<=s.who)/\(((0:Int)<=s.time/\s.time<=(1000000:Int))/\(0:Int)<=s.who->((0:Int)<=s.time/\s.time<=(1000000:Int))/\(0:Int)<=s.who)/\(((s.time<(0:Int)\/(1000000:Int)<s.time)\/s.who<(0:Int))\/(31:Int)<s.who->(3:Int)=s.aq)/\((((0:Int)<=s.time/\s.time<=(1000000:Int))/\(0:Int)<=s.who)/\s.who<=(31:Int)->(0:Int)=s.aq):=by
 (try simp only [LL,LP,Lk,K6])
 (repeat' (first|apply And.intro|intro _))<;>first|assumption|trivial|omega|(grind [bP.aq,bP.ka])|trace_state
theorem Jg:wq.Ok Try.prog tD:=eU eD (Δ:=[]) trivial (Ω:=[]) trivial wq FF FG (fun _=>[]) (fun _=>trivial) 0 (fun x=>(fun (s:bP)=>(fun _=>none)) x.1) fun x hp=>Eq.mp (by kernel_rfl) (Jf x.1)
def wu:b7 Tc Tc.dn:=⟨23,[.ty .j9],fun x=>(fun (c:cw)=>True) x.1,[.cZ],fun x=>(fun (c:cw)=>c.aq) x.1⟩
theorem Jh (c:cw):True/\(c.at_.aq=(0:Int)->c.at_.aq=(0:Int))/\(c.at_.aq=(0:Int)->c.at_.aq=(0:Int))/\(c.at_.aq=(0:Int)->c.at_.aq=(0:Int))/\(c.at_.aq=(0:Int)->c.at_.aq=(0:Int))/\(c.at_.aq=(0:Int)/\(64:Int)<(↑c.data.size:Int)->(2:Int)=c.aq)/\(¬c.at_.aq=(0:Int)\/(↑c.data.size:Int)<=(64:Int)->c.at_.aq=c.aq):=by
 (try simp only [LL,LP,Lk,K6])
 (repeat' (first|apply And.intro|intro _))<;>first|assumption|trivial|omega|(grind [cw.aq,bP.aq,bP.ka])|trace_state
theorem Ji:wu.Ok Try.prog tD:=eU eD (Δ:=[wq]) ⟨Jg,trivial⟩ (Ω:=[]) trivial wu Fv Fw (fun _=>[]) (fun _=>trivial) 0 (fun x=>(fun (c:cw)=>(fun _=>none)) x.1) fun x hp=>Eq.mp (by kernel_rfl) (Jh x.1)
def su:b7 Tc Tc.dn:=⟨19,[.ty .cZ],fun x=>(fun (k:Int)=>True) x.1,[.iD],fun x=>(fun (k:Int)=>decide (bK k)) x.1⟩
theorem Jj (k:Int):(¬k=(2:Int)->¬k=(2:Int))/\(¬k=(2:Int)->¬k=(2:Int))/\(k==(2:Int)||k==(3:Int))=decide (bK k):=by
 (try simp only [LL,LP,Lk,K6])
 (repeat' (first|apply And.intro|intro _))<;>first|assumption|trivial|omega|(grind [])|trace_state
theorem AZ:su.Ok Try.prog tD:=eU eD (Δ:=[]) trivial (Ω:=[]) trivial su Ff Fg (fun _=>[]) (fun _=>trivial) 0 (fun x=>(fun (k:Int)=>(fun _=>none)) x.1) fun x hp=>Eq.mp (by kernel_rfl) (Jj x.1)
def sv:b7 Tc Tc.dn:=⟨11,[.ty .fj],fun x=>(fun (m:aI)=>True) x.1,[.cZ],fun x=>(fun (m:aI)=>m.aq) x.1⟩
theorem Jk (m:aI):((1:Int)<=m.kind->(1:Int)<=m.kind)/\((1:Int)<=m.kind->(1:Int)<=m.kind)/\((1:Int)<=m.kind->(1:Int)<=m.kind)/\(m.kind<(1:Int)\/(4:Int)<m.kind->(7:Int)=m.aq)/\((1:Int)<=m.kind/\m.kind<=(4:Int)->((0:Int)<=m.op->(0:Int)<=m.op)/\((0:Int)<=m.op->(0:Int)<=m.op)/\((0:Int)<=m.op->(0:Int)<=m.op)/\((0:Int)<=m.op/\m.op<=(30:Int)->(0:Int)<=m.op/\m.op<=(30:Int))/\((0:Int)<=m.op/\m.op<=(30:Int)->(0:Int)<=m.op/\m.op<=(30:Int))/\((0:Int)<=m.op/\m.op<=(30:Int)->(0:Int)<=m.op/\m.op<=(30:Int))/\(((0:Int)<=m.op/\m.op<=(30:Int))/\(0:Int)<=m.node->((0:Int)<=m.op/\m.op<=(30:Int))/\(0:Int)<=m.node)/\(((0:Int)<=m.op/\m.op<=(30:Int))/\(0:Int)<=m.node->((0:Int)<=m.op/\m.op<=(30:Int))/\(0:Int)<=m.node)/\(((0:Int)<=m.op/\m.op<=(30:Int))/\(0:Int)<=m.node->((0:Int)<=m.op/\m.op<=(30:Int))/\(0:Int)<=m.node)/\(((m.op<(0:Int)\/(30:Int)<m.op)\/m.node<(0:Int))\/(11:Int)<m.node->(3:Int)=m.aq)/\((((0:Int)<=m.op/\m.op<=(30:Int))/\(0:Int)<=m.node)/\m.node<=(11:Int)->True/\(¬m.copy.aq=(0:Int)->m.copy.aq=m.aq)/\(m.copy.aq=(0:Int)->True/\(decide (bK m.kind)= !true->decide (bK m.kind)= !true)/\(decide (bK m.kind)= !true->decide (bK m.kind)= !true)/\(decide (bK m.kind)= !true->decide (bK m.kind)= !true)/\(decide (bK m.kind)= !true->decide (bK m.kind)= !true)/\(decide (bK m.kind)= !true/\(¬m.copy.at_.time=(0:Int)\/¬m.copy.at_.who=(0:Int)\/¬m.copy.data=ByteArray.mk #[])->(1:Int)=m.aq)/\(decide (bK m.kind)= !false\/m.copy.at_.time=(0:Int)/\m.copy.at_.who=(0:Int)/\m.copy.data=ByteArray.mk #[]->(0:Int)=m.aq)))):=by
 (try simp only [LL,LP,Lk,K6])
 (repeat' (first|apply And.intro|intro _))<;>first|assumption|trivial|omega|(grind [aI.aq])|trace_state
theorem A3:sv.Ok Try.prog tD:=eU eD (Δ:=[su,wu]) ⟨AZ,Ji,trivial⟩ (Ω:=[]) trivial sv EZ E3 (fun _=>[]) (fun _=>trivial) 0 (fun x=>(fun (m:aI)=>(fun _=>none)) x.1) fun x hp=>Eq.mp (by kernel_rfl) (Jk x.1)
def wv:b7 Tc Tc.dn:=⟨27,[.ty .cZ, .ty .cZ],fun x=>(fun (t:Int) (w:Int)=>True) x.1 x.2.1,[.j8],fun x=>(fun (t:Int) (w:Int)=>⟨t,w⟩) x.1 x.2.1⟩
theorem Jl (t:Int) (w:Int):bP.mk t w=bP.mk t w:=by
 rfl
theorem Jm:wv.Ok Try.prog tD:=eU eD (Δ:=[]) trivial (Ω:=[]) trivial wv Fy FA (fun _=>[]) (fun _=>trivial) 0 (fun x=>(fun (t:Int) (w:Int)=>(fun _=>none)) x.1 x.2.1) fun x hp=>Eq.mp (by kernel_rfl) (Jl x.1 x.2.1)
def wx:b7 Tc Tc.dn:=⟨20,[.ty .cZ, .ty .cZ, .ty .g4],fun x=>(fun (t:Int) (w:Int) (d:ByteArray)=>True) x.1 x.2.1 x.2.2.1,[.j9],fun x=>(fun (t:Int) (w:Int) (d:ByteArray)=>⟨⟨t,w⟩,d⟩) x.1 x.2.1 x.2.2.1⟩
theorem Jn (t:Int) (w:Int) (d:ByteArray):True/\cw.mk (bP.mk t w) d=cw.mk (bP.mk t w) d:=by
 exact ⟨trivial,rfl⟩
theorem Jo:wx.Ok Try.prog tD:=eU eD (Δ:=[wv]) ⟨Jm,trivial⟩ (Ω:=[]) trivial wx Fj Fk (fun _=>[]) (fun _=>trivial) 0 (fun x=>(fun (t:Int) (w:Int) (d:ByteArray)=>(fun _=>none)) x.1 x.2.1 x.2.2.1) fun x hp=>Eq.mp (by kernel_rfl) (Jn x.1 x.2.1 x.2.2.1)
open Go.ChangeShapes Go.WideShapes Go.ChangeAt Go.RowKit
open Go.ChangeMaps (open_string shut_string)
def Rd (b:Nat) (s:ByteArray) (u:Nat) (w:World):Prop:=w.heap[b]? =some (.cells #[.string s, .int .i64 (u:Int)] 51 (0,0))/\u<=s.size/\s.size<=9223372036854775807
structure Kq (b:Nat) (w w':World):Prop where
 below:Below b w w'
 aJ:∀k,k<w.heap.size->k≠b->w'.heap[k]? =w.heap[k]?
theorem Kq.refl (b:Nat) (w:World):Kq b w w:=⟨Lt _ _,fun _ _ _=>rfl⟩
theorem Kq.trans {b:Nat} {w w' w'':World} (h:Kq b w w') (k:Kq b w' w''):Kq b w w'':=⟨h.below.trans k.below,fun q h1 h2=>(k.aJ q (K8 h1 h.below.size) h2).trans (h.aJ q h1 h2)⟩
theorem Kq.drewN {b:Nat} {w w':World} (h:Kq b w w') (n:Nat):Kq b w (w'.drewN n):=⟨below_drewN h.below n,h.aJ⟩
theorem Kq.setCell {b:Nat} {w w':World} (h:Kq b w w') (o:Nat) (v:Value):Kq b w (w'.setCell ⟨b,o,none⟩ v):=⟨h.below.setCell (p:=⟨b,o,none⟩) (KO _) v,fun k h1 h2=>(LS _ _ _ _ h2).trans (h.aJ k h1 h2)⟩
theorem Kq.new (h:Kq b w w') (hb:b<=w'.heap.size) (o:Obj):Kq b w (w'.alloc o):=⟨h.below.alloc hb _,fun k h1 h2=>(Lm _ _ _ (K8 h1 h.below.size)).trans (h.aJ k h1 h2)⟩
def mf (e:Int):Ending:= .panicked [{ v:= .iface 57 (.agg #[.int .i64 e]),recovered:=false }]
theorem A4 (h:Rd b s u w) (hn:u+n<=s.size):Calls Try.prog 32 #[.pointer (some ⟨b,0,none⟩), .int .i64 (n:Int)] w fun e w'=>e= .returned (.string (s.extract u (u+n)))/\Rd b s (u+n) w'/\Kq b w w':=by
 obtain ⟨hb,hu,hs⟩:=h
 have c0:w.cell? ⟨b,0,none⟩=some (.string s):=by simp [World.cell?,hb]
 have c1:w.cell? ⟨b,1,none⟩=some (.int .i64 (u:Int)):=by simp [World.cell?,hb]
 have f1:w.frozen? ⟨b,1,none⟩=false:=by simp [World.frozen?,hb]
 have h1:¬((s.size:Int) - (u:Int)<(n:Int)):=by omega
 go_enter Try.func32,Try.ntmps32
 go_wp2
 go_quiet (fail)
 go_wp2
 go_quiet (fail)
 go_wp2
 go_ret
 refine ⟨rfl,⟨?_,hn,hs⟩, ?_⟩
 ·simp [World.setCell,Ml,hb]
 ·exact (((Kq.refl b w).drewN _).setCell 1 _).drewN _
theorem A5 (h:Rd b s u w) (hn:¬u+n<=s.size):Calls Try.prog 32 #[.pointer (some ⟨b,0,none⟩), .int .i64 (n:Int)] w fun e w'=>e=mf 5/\Kq b w w':=by
 obtain ⟨hb,hu,hs⟩:=h
 have c0:w.cell? ⟨b,0,none⟩=some (.string s):=by simp [World.cell?,hb]
 have c1:w.cell? ⟨b,1,none⟩=some (.int .i64 (u:Int)):=by simp [World.cell?,hb]
 have f1:w.frozen? ⟨b,1,none⟩=false:=by simp [World.frozen?,hb]
 have h1:(s.size:Int) - (u:Int)<(n:Int):=by omega
 go_enter Try.func32,Try.ntmps32
 go_wp2
 go_quiet (fail)
 go_wp2
 exact ⟨rfl,rfl,(Kq.refl b w).drewN _⟩
def gz (s:ByteArray) (u:Nat):Nat->Nat
 |0=>0
 |k+1=>gz s u k*256+(gb s (u+k)).toNat
theorem A6 (s:ByteArray) (u:Nat):∀k,gz s u k<256^k
 |0=>by simp [gz]
 |k+1=>by
  have h1:=A6 s u k
  have h2:(gb s (u+k)).toNat<256:=(gb s (u+k)).toNat_lt
  rw [gz,Nat.pow_succ]
  omega
theorem Jp (m:Nat) (y:UInt8) (h:m<65536):bits .or .i64 (wrap64 ((m:Int)*256)) (wrap64 (y.toNat:Int))=((m*256+y.toNat:Nat):Int):=by
 have hy:y.toNat<256:=y.toNat_lt
 have e1:wrap64 ((m:Int)*256)=((m*256:Nat):Int):=by unfold wrap64;omega
 have e2:wrap64 (y.toNat:Int)=((y.toNat:Nat):Int):=by unfold wrap64;omega
 rw [e1,e2,FK _ _ (by omega) (by omega)]
 have:=Nat.shiftLeft_add_eq_or_of_lt (i:=8) (b:=y.toNat) hy m
 rw [Nat.shiftLeft_eq] at this
 rw [<-this]
theorem A7 (h:Rd b s u w) (hn:u+n<=s.size) (h3:n<=3) (hbw:b<w.heap.size):Calls Try.prog 31 #[.pointer (some ⟨b,0,none⟩), .int .i64 (n:Int)] w fun e w'=>e= .returned (.int .i64 (gz s u n:Int))/\Rd b s (u+n) w'/\Kq b w w':=by
 have hcv2:=fun w s=>run_bytes_of_string (P:=Try.prog) w 9 43 5 s Try.underlying9 Try.underlying43 Try.underlying5
 go_enter Try.func31,Try.ntmps31
 go_wp2_with (go_at_call 32;refine (A4 h hn).mono ?_)
 rintro e w1 ⟨rfl,hR,hk⟩
 go_wp2
 have hsz:=hk.below.size
 have hrow:∀j (hj:j<n),(bytesRow (s.extract u (u+n)) (grownCap w1 n 0 5))[j]? =some (.int .u8 ((gb s (u+j)).toNat:Int)):=fun j hj=>by
  rw [bytesRow_at (s.extract u (u+n)) _ j (by show j<(s.extract u (u+n)).size;simp;omega)]
  have e:(s.extract u (u+n)).data[j]'(by show j<(s.extract u (u+n)).size;simp;omega)=gb s (u+j):=by
   simp [gb]
   rw [getElem?_pos s (u+j) (by omega)]
   rfl
  rw [e]
 generalize grownCap w1 n 0 5=cap at hrow ⊢
 have hc0:∀j (hj:j<n),((w1.alloc (Obj.cells (bytesRow (s.extract u (u+n)) cap) 5 ((bytesRow (s.extract u (u+n)) cap).size,(bytesRow (s.extract u (u+n)) cap).size+1))).drew).cell? ⟨w1.heap.size,j,none⟩=some (.int .u8 ((gb s (u+j)).toNat:Int)):=fun j hj=>by
  rw [<-hrow j hj]
  exact World.cell?_alloc_mark _ _ _ _ _
 have hK:Kq b w ((w1.alloc (Obj.cells (bytesRow (s.extract u (u+n)) cap) 5 ((bytesRow (s.extract u (u+n)) cap).size,(bytesRow (s.extract u (u+n)) cap).size+1))).drew):=((hk.new (by omega) _).drewN 1)
 have hR2:Rd b s (u+n) ((w1.alloc (Obj.cells (bytesRow (s.extract u (u+n)) cap) 5 ((bytesRow (s.extract u (u+n)) cap).size,(bytesRow (s.extract u (u+n)) cap).size+1))).drew):=⟨(Lm _ _ _ (by omega)).trans hR.1,hR.2⟩
 generalize ((w1.alloc (Obj.cells (bytesRow (s.extract u (u+n)) cap) 5 ((bytesRow (s.extract u (u+n)) cap).size,(bytesRow (s.extract u (u+n)) cap).size+1))).drew)=w2 at hc0 hK hR2 ⊢
 go_loopw [12,4] (fun i x wr=>wr=w2/\∃k:Nat,i= .int .i64 (k:Int)/\k<=n/\x= .int .i64 (gz s u k:Int)) (fun i x wr=>n - (intOf i).toNat)
 case atStart=>
  exact ⟨rfl,0,rfl,Nat.zero_le _,rfl⟩
 case round=>
  obtain ⟨rfl,k,rfl,hk2,rfl⟩:=hrel
  have hb:=A6 s u k
  by_cases hks:k<n
  ·have hck:=hc0 k hks
   have hlt:(k:Int)<n:=by omega
   go_wp2
   go_roundw
   case rel=>
    refine ⟨trivial,k+1,by first|rfl|simp|omega,by omega, ?_⟩
    have h6:256^k<=256^2:=Nat.pow_le_pow_right (by omega) (by omega)
    rw [Jp _ _ (by omega)]
    rfl
   case measure=>simp only [intOf];omega
  ·have hlt:¬(k:Int)<n:=by omega
   go_wp2
   have e:k=n:=by omega
   subst e
   go_ret
   exact ⟨rfl,hR2,hK⟩
theorem A8 (h:Rd b s u w) (hn:¬u+n<=s.size):Calls Try.prog 31 #[.pointer (some ⟨b,0,none⟩), .int .i64 (n:Int)] w fun e w'=>e=mf 5/\Kq b w w':=by
 go_enter Try.func31,Try.ntmps31
 go_wp2_with (go_at_call 32;refine (A5 h hn).mono ?_)
 rintro e w1 ⟨rfl,hk⟩
 exact ⟨rfl,rfl,hk⟩
theorem A9 (vs:List Value) (h:∀v∈vs,plainV v=true):ae E (.agg vs.toArray) (.agg (vs.map AV.v)):= .agg (by simp) fun i v c hv hc=>by
 rw [Ld] at hc
 have:vs[i]? =some v:=by simpa using hv
 rw [this] at hc
 simp at hc
 subst hc
 exact .v (h v (Lq this))
theorem wy (m:aI) (w:World):Calls Try.prog 10 #[m.v] w fun e w'=>e= .returned (I m.aq)/\Below w.heap.size w w':=
 (wm.2 (m,()) ⟨fun _=>0,fun _=>0,fun _=> .dead⟩ trivial w (fun _=>False) #[m.v] (fun _ h=>h.elim) trivial ⟨rfl,fun i v c hv hc=>by
  cases i with
  |zero=>simp at hv;subst hv;cases hc;exact A9 [I m.kind,I m.op,I m.node,I m.copy.at_.time,I m.copy.at_.who, .string m.copy.data] (by simp [plainV])
  |succ i=>simp at hv⟩).mono fun e w' ⟨v,he,hr,hb⟩=>⟨he.trans (by rw [hr.fu];rfl),hb⟩
theorem Ba (k:Int) (w:World):Calls Try.prog 17 #[I k] w fun e w'=>e= .returned (.bool (decide (bK k)))/\Below w.heap.size w w':=
 (AX.2 (k,()) ⟨fun _=>0,fun _=>0,fun _=> .dead⟩ trivial w (fun _=>False) #[I k] (fun _ h=>h.elim) trivial ⟨rfl,fun i v c hv hc=>by
  cases i with
  |zero=>simp at hv;subst hv;cases hc;exact .v rfl
  |succ i=>simp at hv⟩).mono fun e w' ⟨v,he,hr,hb⟩=>⟨he.trans (by rw [hr.fu];rfl),hb⟩
theorem Bb (k:Int) (w:World):Calls Try.prog 21 #[I k] w fun e w'=>e= .returned (.bool (decide (jj k)))/\Below w.heap.size w w':=
 (AY.2 (k,()) ⟨fun _=>0,fun _=>0,fun _=> .dead⟩ trivial w (fun _=>False) #[I k] (fun _ h=>h.elim) trivial ⟨rfl,fun i v c hv hc=>by
  cases i with
  |zero=>simp at hv;subst hv;cases hc;exact .v rfl
  |succ i=>simp at hv⟩).mono fun e w' ⟨v,he,hr,hb⟩=>⟨he.trans (by rw [hr.fu];rfl),hb⟩
def cd (s:ByteArray):aI:=
 ⟨(gb s 0).toNat,(gb s 1).toNat,(gb s 2).toNat,if bK ((gb s 0).toNat:Int) then ⟨⟨(gz s 3 3:Int),(gb s 6).toNat⟩,s.extract 8 (8+(gb s 7).toNat)⟩ else ⟨⟨0,0⟩,⟨#[]⟩⟩⟩
def cO (s:ByteArray):Nat:=if bK ((gb s 0).toNat:Int) then 8+(gb s 7).toNat else 3
def aL (s:ByteArray):Int:=
 if s.size=0 then 5
 else if ¬jj ((gb s 0).toNat:Int) then 7
 else if s.size<3\/bK ((gb s 0).toNat:Int)/\(s.size<8\/s.size<8+(gb s 7).toNat) then 5
 else (cd s).aq
theorem Jq (s:ByteArray) (u:Nat):gz s u 1=(gb s u).toNat:=by simp [gz]
theorem pD (h:Rd b s u w) (hn:u+1<=s.size) (hbw:b<w.heap.size):Calls Try.prog 31 #[.pointer (some ⟨b,0,none⟩), .int .i64 1] w fun e w'=>e= .returned (.int .i64 (((gb s u).toNat:Nat):Int))/\Rd b s (u+1) w'/\Kq b w w':=by
 have:=A7 (n:=1) h hn (by omega) hbw
 rw [Jq] at this
 exact this
theorem pE (h:Rd b s u w) (hn:¬u+1<=s.size):Calls Try.prog 31 #[.pointer (some ⟨b,0,none⟩), .int .i64 1] w fun e w'=>e=mf 5/\Kq b w w':=A8 (n:=1) h hn
def bj (b:Nat) (m:aI) (w:World):Prop:=w.heap[b]? =some (.cells #[I m.kind,I m.op,I m.node,I m.copy.at_.time,I m.copy.at_.who, .string m.copy.data] 27 (0,0))
def ke (b:Nat) (s:ByteArray) (w:World) (e:Ending) (w':World):Prop:=(if aL s=0 then e= .returned (cd s).v/\Rd b s (cO s) w' else e=mf (aL s))/\Kq b w w'
theorem ke.bad {n:Int} (h:aL s=n) (hn:n≠0) (hk:Kq b w w'):ke b s w (mf n) w':=by
 unfold ke
 rw [h,KK hn]
 exact ⟨rfl,hk⟩
theorem bj.aJ {B b:Nat} {m:aI} {w w':World} (h:bj B m w) (hk:Kq b w w') (hB:B≠b) (hl:B<w.heap.size):bj B m w':=(hk.aJ B hl hB).trans h
theorem Kq.bC {B:Nat} (h:Kq b w w') (hB:b<B) (hl:w.heap.size<=B) (o:Nat) (v:Value):Kq b w (w'.setCell ⟨B,o,none⟩ v):=⟨h.below.setCell (p:=⟨B,o,none⟩) (by show b<=B;omega) v,fun k h1 h2=>(LS _ _ _ _ (by show k≠B;omega)).trans (h.aJ k h1 h2)⟩
theorem Rd.bC {B:Nat} (h:Rd b s u w) (hB:b≠B) (o:Nat) (v:Value):Rd b s u (w.setCell ⟨B,o,none⟩ v):=⟨(LS _ _ _ _ hB).trans h.1,h.2⟩
def mid (s:ByteArray) (k:Nat):aI:=⟨(gb s 0).toNat,if k=0 then 0 else (gb s 1).toNat,if k<=1 then 0 else (gb s 2).toNat,⟨⟨0,0⟩,⟨#[]⟩⟩⟩
theorem bj.c {B:Nat} (h:bj B m w):w.cell? ⟨B,0,none⟩=some (I m.kind)/\w.cell? ⟨B,1,none⟩=some (I m.op)/\w.cell? ⟨B,2,none⟩=some (I m.node)/\w.cell? ⟨B,3,none⟩=some (I m.copy.at_.time)/\w.cell? ⟨B,4,none⟩=some (I m.copy.at_.who)/\w.cell? ⟨B,5,none⟩=some (.string m.copy.data):=by
 unfold bj at h
 simp [World.cell?,h]
theorem bj.f {B:Nat} (h:bj B m w) (o:Nat):w.frozen? ⟨B,o,none⟩=false:=by
 unfold bj at h
 simp [World.frozen?,h]
theorem bj.s0 {B:Nat} (h:bj B m w) (v:Int):bj B ⟨v,m.op,m.node,m.copy⟩ (w.setCell ⟨B,0,none⟩ (I v)):=by
 unfold bj at h ⊢
 simp [World.setCell,Ml,h]
theorem bj.s1 {B:Nat} (h:bj B m w) (v:Int):bj B ⟨m.kind,v,m.node,m.copy⟩ (w.setCell ⟨B,1,none⟩ (I v)):=by
 unfold bj at h ⊢
 simp [World.setCell,Ml,h]
theorem bj.s2 {B:Nat} (h:bj B m w) (v:Int):bj B ⟨m.kind,m.op,v,m.copy⟩ (w.setCell ⟨B,2,none⟩ (I v)):=by
 unfold bj at h ⊢
 simp [World.setCell,Ml,h]
theorem bj.s3 {B:Nat} (h:bj B m w) (v:Int):bj B ⟨m.kind,m.op,m.node,⟨⟨v,m.copy.at_.who⟩,m.copy.data⟩⟩ (w.setCell ⟨B,3,none⟩ (I v)):=by
 unfold bj at h ⊢
 simp [World.setCell,Ml,h]
theorem bj.s4 {B:Nat} (h:bj B m w) (v:Int):bj B ⟨m.kind,m.op,m.node,⟨⟨m.copy.at_.time,v⟩,m.copy.data⟩⟩ (w.setCell ⟨B,4,none⟩ (I v)):=by
 unfold bj at h ⊢
 simp [World.setCell,Ml,h]
theorem bj.s5 {B:Nat} (h:bj B m w) (v:ByteArray):bj B ⟨m.kind,m.op,m.node,⟨m.copy.at_,v⟩⟩ (w.setCell ⟨B,5,none⟩ (.string v)):=by
 unfold bj at h ⊢
 simp [World.setCell,Ml,h]
theorem pF (h:Below w.heap.size w w') (hb:b<w.heap.size):Kq b w w':=⟨h.mono (by omega),fun k hk _=>h.block k hk⟩
theorem pG (h:Below w.heap.size w w') (hb:b<w.heap.size) (hR:Rd b s u w):Rd b s u w':=⟨(h.block b hb).trans hR.1,hR.2⟩
theorem mg {B:Nat} (h:Below w.heap.size w w') (hb:B<w.heap.size) (hR:bj B m w):bj B m w':=(h.block B hb).trans hR
theorem Bc (x y:Value) (hx:x.oneCell'=true) (hy:y.oneCell'=true) (i:Nat) (hi:i<2) (w:World):(Instr.index 60 (.agg #[x,y]) (.int .i64 (i:Int))).run Try.prog w= .ok (if i=0 then x else y) w:=by
 rcases (show i=0\/i=1 by omega) with rfl|rfl<;>simp [Instr.index,asIntOf,run_underlying Try.underlying60,go_sem]
theorem ke.Bd (h:aL s=0) (hk:Kq b w w') (hR:Rd b s (cO s) w'):ke b s w (.returned (cd s).v) w':=by
 unfold ke
 rw [KL h]
 exact ⟨⟨rfl,hR⟩,hk⟩
theorem Jr (h:¬bK ((gb s 0).toNat:Int)):1+2=cO s:=by unfold cO;rw [KK h]
theorem Js (h:bK ((gb s 0).toNat:Int)):1+2+3+1+1+(gb s 7).toNat=cO s:=by unfold cO;rw [KL h]
theorem Be {B:Nat} (hM:bj B (cd s) w') (hd:a.defers=[]) (h2:a.tmps[2]?.getD undef= .pointer (some ⟨B,0,none⟩)) (hP:ke b s w (.returned (cd s).v) w'):bodyPost Try.prog Try.f26 (ke b s w) .ret a w':=by
 obtain ⟨m0,m1,m2,m3,m4,m5⟩:=hM.c
 refine ⟨hd,(cd s).v, ?_,hP⟩
 simp [results,Try.results26,go_sem,h2,m0,m1,m2,m3,m4,m5]
theorem Jt (h:Rd b s 0 w) (hbw:b<w.heap.size):Calls Try.prog 26 #[.pointer (some ⟨b,0,none⟩)] w (ke b s w):=by
 have hi0:∀w':World,(Instr.index 60 (.agg #[.pointer (some ⟨w.heap.size,1,none⟩), .pointer (some ⟨w.heap.size,2,none⟩)]) (.int .i64 0)).run Try.prog w'= .ok (.pointer (some ⟨w.heap.size,1,none⟩)) w':=fun w'=>Bc _ _ rfl rfl 0 (by omega) w'
 have hi1:∀w':World,(Instr.index 60 (.agg #[.pointer (some ⟨w.heap.size,1,none⟩), .pointer (some ⟨w.heap.size,2,none⟩)]) (.int .i64 1)).run Try.prog w'= .ok (.pointer (some ⟨w.heap.size,2,none⟩)) w':=fun w'=>Bc _ _ rfl rfl 1 (by omega) w'
 go_enter Try.func26,Try.ntmps26
 have hR0:Rd b s 0 (w.alloc (.cells #[.int .i64 0, .int .i64 0, .int .i64 0, .int .i64 0, .int .i64 0, .string ⟨#[]⟩] 27)):=⟨(Lm _ _ _ hbw).trans h.1,h.2⟩
 have hk0:Kq b w (w.alloc (.cells #[.int .i64 0, .int .i64 0, .int .i64 0, .int .i64 0, .int .i64 0, .string ⟨#[]⟩] 27)):=(Kq.refl b w).new (by omega) _
 have hM0:bj w.heap.size ⟨0,0,0,⟨⟨0,0⟩,⟨#[]⟩⟩⟩ (w.alloc (.cells #[.int .i64 0, .int .i64 0, .int .i64 0, .int .i64 0, .int .i64 0, .string ⟨#[]⟩] 27)):=Mt w _
 have hs0:(w.alloc (.cells #[.int .i64 0, .int .i64 0, .int .i64 0, .int .i64 0, .int .i64 0, .string ⟨#[]⟩] 27)).heap.size=w.heap.size+1:=by simp
 by_cases h0:1<=s.size
 ·go_wp2_with (go_at_call 31;refine (pD hR0 (by omega) (by omega)).mono ?_)
  rintro e w1 ⟨rfl,hR1,hk1⟩
  have hM1:=hM0.aJ hk1 (by omega) (by omega)
  have hs1:=hk1.below.size
  have k1:=hk0.trans hk1
  have d0:=hM1.c.1
  have f0:=hM1.f 0
  have hM1':=hM1.s0 (gb s 0).toNat
  have k1':=k1.bC hbw (KO _) 0 (I (gb s 0).toNat)
  have hR1':=hR1.bC (by omega) 0 (I (gb s 0).toNat) (B:=w.heap.size)
  have d0':=hM1'.c.1
  by_cases hk:jj ((gb s 0).toNat:Int)
  ·have hkd:decide (jj ((gb s 0).toNat:Int))=true:=decide_eq_true hk
   go_wp2_with (go_at_call 21;refine (Bb _ _).mono ?_)
   rintro e w2 ⟨he,b2⟩
   rw [hkd] at he
   subst he
   have hs1':=k1'.below.size
   have hR2:=pG b2 (by simp;omega) hR1'
   have hM2:=mg b2 (by simp;omega) hM1'
   have k2:=k1'.trans (pF b2 (by simp;omega))
   have hs2:=b2.size
   simp only [World.size_setCell] at hs2
   have hE:s.size<3->aL s=5:=fun h3=>by unfold aL;rw [KK (by omega),KK (by simpa using hk),KL (.inl h3)]
   go_wp2
   go_loopw [18] (fun i wr=>∃k:Nat,i= .int .i64 (k:Int)/\k<=2/\Rd b s (1+k) wr/\bj w.heap.size (mid s k) wr/\Kq b w wr/\w.heap.size<wr.heap.size) (fun i wr=>2 - (intOf i).toNat)
   case atStart=>exact ⟨0,rfl,by omega,hR2,hM2,k2,by omega⟩
   case round=>
    obtain ⟨k,rfl,hk2,hR,hM,kw,hsz⟩:=hrel
    rcases Ls k 2 with hlt|hge
    ·rcases (show k=0\/k=1 by omega) with rfl|rfl
     ·by_cases h2:2<=s.size
      ·go_wp2_with (go_at_call 31;refine (pD hR (by omega) (by omega)).mono ?_)
       rintro e w3 ⟨rfl,hR3,hk3⟩
       have hM3:=hM.aJ hk3 (by omega) (by omega)
       have hs3:=hk3.below.size
       have k3:=kw.trans hk3
       have d1:=hM3.c.2.1
       have f1:=hM3.f 1
       go_wp2
       go_roundw
       case rel=>
        refine ⟨1,rfl,by omega,hR3.bC (by omega) 1 _,hM3.s1 _,k3.bC hbw (KO _) 1 _,by simp;omega⟩
       case measure=>simp [intOf]
      ·go_wp2_with (go_at_call 31;refine (pE hR (by omega)).mono ?_)
       rintro e w3 ⟨rfl,hk3⟩
       exact ⟨rfl, .bad (hE (by omega)) (by decide) (kw.trans hk3)⟩
     ·by_cases h2:3<=s.size
      ·go_wp2_with (go_at_call 31;refine (pD hR (by omega) (by omega)).mono ?_)
       rintro e w3 ⟨rfl,hR3,hk3⟩
       have hM3:=hM.aJ hk3 (by omega) (by omega)
       have hs3:=hk3.below.size
       have k3:=kw.trans hk3
       have d1:=hM3.c.2.2.1
       have f1:=hM3.f 2
       go_wp2
       go_roundw
       case rel=>
        refine ⟨2,rfl,by omega,hR3.bC (by omega) 2 _,hM3.s2 _,k3.bC hbw (KO _) 2 _,by simp;omega⟩
       case measure=>simp [intOf]
      ·go_wp2_with (go_at_call 31;refine (pE hR (by omega)).mono ?_)
       rintro e w3 ⟨rfl,hk3⟩
       exact ⟨rfl, .bad (hE (by omega)) (by decide) (kw.trans hk3)⟩
    ·obtain rfl:k=2:=by omega
     have hlen:3<=s.size:=by have:=hR.2.1;omega
     have d0:wr.cell? ⟨w.heap.size,0,none⟩=some (.int .i64 ((gb s 0).toNat:Int)):=hM.c.1
     go_wp2_with (go_at_call 17;refine (Ba ((gb s 0).toNat:Int) _).mono ?_)
     rintro e w3 ⟨he,b3⟩
     have hR3:=pG b3 (by omega) hR
     have hM3:=mg b3 (by omega) hM
     have k3:=kw.trans (pF b3 (by omega))
     have hs3:=b3.size
     have hF:¬(bK ((gb s 0).toNat:Int)/\(s.size<8\/s.size<8+(gb s 7).toNat))->aL s=(cd s).aq:=fun h9=>by unfold aL;rw [KK (by omega),KK (by simpa using hk),KK (by rintro (h8|h8);omega;exact h9 h8)]
     by_cases hC:bK ((gb s 0).toNat:Int)
     ·have hCd:decide (bK ((gb s 0).toNat:Int))=true:=decide_eq_true hC
      have hG:(s.size<8\/s.size<8+(gb s 7).toNat)->aL s=5:=fun h9=>by unfold aL;rw [KK (by omega),KK (by simpa using hk),KL (.inr ⟨hC,h9⟩)]
      rw [hCd] at he
      subst he
      by_cases h6:6<=s.size
      ·go_wp2_with (go_at_call 31;refine (A7 (n:=3) hR3 (by omega) (by omega) (by omega)).mono ?_)
       rintro e w4 ⟨rfl,hR4,hk4⟩
       have hM4:=hM3.aJ hk4 (by omega) (by omega)
       have hs4:=hk4.below.size
       have k4:=k3.trans hk4
       by_cases h7:7<=s.size
       ·go_wp2_with (go_at_call 31;refine (pD hR4 (by omega) (by omega)).mono ?_)
        rintro e w5 ⟨rfl,hR5,hk5⟩
        have hM5:=hM4.aJ hk5 (by omega) (by omega)
        have hs5:=hk5.below.size
        have k5:=k4.trans hk5
        have mf3:=hM5.f 3
        have mf4:=hM5.f 4
        have m3:=hM5.c.2.2.2.1
        have m4:=hM5.c.2.2.2.2.1
        have hM6:=(hM5.s3 (gz s (1+2) 3)).s4 (gb s (1+2+3)).toNat
        have hR6:=(hR5.bC (by omega) 3 (I (gz s (1+2) 3)) (B:=w.heap.size)).bC (by omega) 4 (I (gb s (1+2+3)).toNat) (B:=w.heap.size)
        have k6:=(k5.bC hbw (KO _) 3 (I (gz s (1+2) 3))).bC hbw (KO _) 4 (I (gb s (1+2+3)).toNat)
        have hs6:=k6.below.size
        by_cases h8:8<=s.size
        ·go_wp2_with (go_at_call 31;refine (pD hR6 (by omega) (by (try simp);omega)).mono ?_)
         rintro e w7 ⟨rfl,hR7,hk7⟩
         have hM7:=hM6.aJ hk7 (by omega) (by (try simp);omega)
         have hs7:=hk7.below.size
         simp only [World.size_setCell] at hs7
         have k7:=k6.trans hk7
         by_cases h9:8+(gb s 7).toNat<=s.size
         ·go_wp2_with (go_at_call 32;refine (A4 hR7 (by show 1+2+3+1+1+(gb s 7).toNat<=s.size;omega)).mono ?_)
          rintro e w8 ⟨rfl,hR8,hk8⟩
          have hF':=hF fun h9'=>by have:=h9'.2;omega
          have hs8:=hk8.below.size
          have mf5:=(hM7.aJ hk8 (by omega) (by (try simp);omega)).f 5
          have m5:=(hM7.aJ hk8 (by omega) (by (try simp);omega)).c.2.2.2.2.2
          have hM8:=(hM7.aJ hk8 (by omega) (by (try simp);omega)).s5 (s.extract (1+2+3+1+1) (1+2+3+1+1+(gb s 7).toNat))
          have k8:=(k7.trans hk8).bC hbw (KO _) 5 (.string (s.extract (1+2+3+1+1) (1+2+3+1+1+(gb s 7).toNat)))
          have hR8':=hR8.bC (by omega) 5 (.string (s.extract (1+2+3+1+1) (1+2+3+1+1+(gb s 7).toNat))) (B:=w.heap.size)
          have hm:(⟨(mid s 2).kind,(mid s 2).op,(mid s 2).node,⟨⟨(gz s (1+2) 3:Int),((gb s (1+2+3)).toNat:Int)⟩,s.extract (1+2+3+1+1) (1+2+3+1+1+(gb s 7).toNat)⟩⟩:aI)=cd s:=by unfold mid cd;rw [KL hC];rfl
          have hM9':bj w.heap.size (cd s) _:=hm▸hM8
          have m0:=hM9'.c.1
          have m1:=hM9'.c.2.1
          have m2:=hM9'.c.2.2.1
          have m3:=hM9'.c.2.2.2.1
          have m4:=hM9'.c.2.2.2.2.1
          have m5:=hM9'.c.2.2.2.2.2
          have mf0:=hM9'.f 0
          have mf1:=hM9'.f 1
          have mf2:=hM9'.f 2
          have mf3:=hM9'.f 3
          have mf4:=hM9'.f 4
          have mf5:=hM9'.f 5
          go_wp2_with (go_at_call 10;refine (wy (cd s) _).mono ?_)
          rintro e w9 ⟨he,b9⟩
          have hM9:=mg b9 (by (try simp);omega) hM9'
          have hR9:=pG b9 (by (try simp);omega) hR8'
          have k9:=k8.trans (pF b9 (by (try simp);omega))
          clear m0 m1 m2 m3 m4 m5 mf0 mf1 mf2 mf3 mf4 mf5
          have m0:=hM9.c.1
          have m1:=hM9.c.2.1
          have m2:=hM9.c.2.2.1
          have m3:=hM9.c.2.2.2.1
          have m4:=hM9.c.2.2.2.2.1
          have m5:=hM9.c.2.2.2.2.2
          have mf0:=hM9.f 0
          have mf1:=hM9.f 1
          have mf2:=hM9.f 2
          have mf3:=hM9.f 3
          have mf4:=hM9.f 4
          have mf5:=hM9.f 5
          subst he
          by_cases hz:(cd s).aq=0
          ·go_wp2
           exact Be ((((((hM9.s0 _).s1 _).s2 _).s3 _).s4 _).s5 _) rfl rfl (.Bd (hF'.trans hz) ((((((k9.bC hbw (KO _) 0 _).bC hbw (KO _) 1 _).bC hbw (KO _) 2 _).bC hbw (KO _) 3 _).bC hbw (KO _) 4 _).bC hbw (KO _) 5 _) (by rw [<-Js hC];exact ((((((hR9.bC (by omega) 0 _).bC (by omega) 1 _).bC (by omega) 2 _).bC (by omega) 3 _).bC (by omega) 4 _).bC (by omega) 5 _)))
          ·go_wp2
           exact ⟨rfl, .bad hF' hz k9⟩
         ·go_wp2_with (go_at_call 32;refine (A5 hR7 (by show ¬1+2+3+1+1+(gb s 7).toNat<=s.size;omega)).mono ?_)
          rintro e w8 ⟨rfl,hk8⟩
          exact ⟨rfl, .bad (hG (.inr (by omega))) (by decide) (k7.trans hk8)⟩
        ·go_wp2_with (go_at_call 31;refine (pE hR6 (by omega)).mono ?_)
         rintro e w7 ⟨rfl,hk7⟩
         exact ⟨rfl, .bad (hG (.inl (by omega))) (by decide) (k6.trans hk7)⟩
       ·go_wp2_with (go_at_call 31;refine (pE hR4 (by omega)).mono ?_)
        rintro e w5 ⟨rfl,hk5⟩
        exact ⟨rfl, .bad (hG (.inl (by omega))) (by decide) (k4.trans hk5)⟩
      ·go_wp2_with (go_at_call 31;refine (A8 (n:=3) hR3 (by omega)).mono ?_)
       rintro e w4 ⟨rfl,hk4⟩
       exact ⟨rfl, .bad (hG (.inl (by omega))) (by decide) (k3.trans hk4)⟩
     ·have hCd:decide (bK ((gb s 0).toNat:Int))=false:=decide_eq_false hC
      rw [hCd] at he
      subst he
      have hF':=hF fun h9=>hC h9.1
      have hm:mid s 2=cd s:=by unfold mid cd;rw [KK hC];rfl
      rw [hm] at hM3
      have m0:=hM3.c.1
      have m1:=hM3.c.2.1
      have m2:=hM3.c.2.2.1
      have m3:=hM3.c.2.2.2.1
      have m4:=hM3.c.2.2.2.2.1
      have m5:=hM3.c.2.2.2.2.2
      have mf0:=hM3.f 0
      have mf1:=hM3.f 1
      have mf2:=hM3.f 2
      have mf3:=hM3.f 3
      have mf4:=hM3.f 4
      have mf5:=hM3.f 5
      go_wp2_with (go_at_call 10;refine (wy (cd s) _).mono ?_)
      rintro e w9 ⟨he,b9⟩
      have hM9:=mg b9 (by (try simp);omega) hM3
      have hR9:=pG b9 (by (try simp);omega) hR3
      have k9:=k3.trans (pF b9 (by (try simp);omega))
      clear m0 m1 m2 m3 m4 m5 mf0 mf1 mf2 mf3 mf4 mf5
      have m0:=hM9.c.1
      have m1:=hM9.c.2.1
      have m2:=hM9.c.2.2.1
      have m3:=hM9.c.2.2.2.1
      have m4:=hM9.c.2.2.2.2.1
      have m5:=hM9.c.2.2.2.2.2
      have mf0:=hM9.f 0
      have mf1:=hM9.f 1
      have mf2:=hM9.f 2
      have mf3:=hM9.f 3
      have mf4:=hM9.f 4
      have mf5:=hM9.f 5
      subst he
      by_cases hz:(cd s).aq=0
      ·go_wp2
       exact Be ((((((hM9.s0 _).s1 _).s2 _).s3 _).s4 _).s5 _) rfl rfl (.Bd (hF'.trans hz) ((((((k9.bC hbw (KO _) 0 _).bC hbw (KO _) 1 _).bC hbw (KO _) 2 _).bC hbw (KO _) 3 _).bC hbw (KO _) 4 _).bC hbw (KO _) 5 _) (by rw [<-Jr hC];exact ((((((hR9.bC (by omega) 0 _).bC (by omega) 1 _).bC (by omega) 2 _).bC (by omega) 3 _).bC (by omega) 4 _).bC (by omega) 5 _)))
      ·go_wp2
       exact ⟨rfl, .bad hF' hz k9⟩
  ·have h2:aL s=7:=by unfold aL;rw [KK (by omega),KL hk]
   have hkd:decide (jj ((gb s 0).toNat:Int))=false:=decide_eq_false hk
   go_wp2_with (go_at_call 21;refine (Bb _ _).mono ?_)
   rintro e w2 ⟨he,b2⟩
   rw [hkd] at he
   subst he
   have hs1':=k1'.below.size
   have hR2:=pG b2 (by simp;omega) hR1'
   have hM2:=mg b2 (by simp;omega) hM1'
   have k2:=k1'.trans (pF b2 (by simp;omega))
   have hs2:=b2.size
   simp only [World.size_setCell] at hs2
   go_wp2
   exact ⟨rfl, .bad h2 (by decide) k2⟩
 ·go_wp2_with (go_at_call 31;refine (pE hR0 (by omega)).mono ?_)
  rintro e w1 ⟨rfl,hk1⟩
  exact ⟨rfl, .bad (by unfold aL;rw [KL (by omega)]) (by decide) (hk0.trans hk1)⟩
open Go.ChangeShapes Go.WideShapes Go.ChangeAt Go.RowKit
open Go.ChangeMaps (open_string shut_string)
theorem Ju (v:Value) (w:World):(Instr.typeAssert (.iface 57 v) 20 57 true).run Try.prog w= .ok (.tuple #[v, .bool true]) w:=by
 simp [Instr.typeAssert,run_underlying Try.underlying57,go_sem,Result.andThen]
theorem Jv (p:Addr) (x y:Int) (older:List PanicEntry) (w:World) (hc:w.cell? p=some (.int .i64 y)) (hz:w.frozen? p=false) (hp:p.block<w.heap.size):
  CallsD Try.prog 30 #[.pointer (some p)] (.panicking ({ v:= .iface 57 (.agg #[.int .i64 x]),recovered:=false }::older)) w fun e u' w'=>
   e= .returned (.tuple #[])/\u'= .panicking ({ v:= .iface 57 (.agg #[.int .i64 x]),recovered:=true }::older)/\w'=(w.alloc (.cells #[.int .i64 x] 57)).setCell p (.int .i64 x):=by
 refine callsD_of_wpS Try.func30 rfl fun c₀ cs hu=> ?_
 have hta:=fun v w=>Ju v w
 have ht:(#[Value.pointer (some p)]++Array.replicate (Try.f30.ntmps - #[Value.pointer (some p)].size) undef)= #[Value.pointer (some p),undef,undef,undef,undef,undef,undef,undef,undef,undef,undef,undef]:=by
  rw [Try.ntmps30];rfl
 rw [ht]
 have hc2:(w.alloc (.cells #[.int .i64 x] 57)).cell? p=some (.int .i64 y):=(World.cell?_of_block (Lm _ _ _ hp)).trans hc
 have hz2:(w.alloc (.cells #[.int .i64 x] 57)).frozen? p=false:=(World.frozen?_of_block (Lm _ _ _ hp)).trans hz
 apply wpS_seq
 apply wpS_region
 simp [wpOpsS,go_sem,recoverD,hu,Try.ntmps30,Exit.thenS]
 refine wpS_of_wp ?_
 go_wp2
 cases c₀
 simp_all [bodyPostS,results,Try.results30]
theorem Jw (p:Addr) (w:World):
  CallsD Try.prog 30 #[.pointer (some p)] .returning w fun e u' w'=>e= .returned (.tuple #[])/\u'= .returning/\w'=w:=by
 refine callsD_of_wpS Try.func30 rfl fun c₀ cs hu=> ?_
 have ht:(#[Value.pointer (some p)]++Array.replicate (Try.f30.ntmps - #[Value.pointer (some p)].size) undef)= #[Value.pointer (some p),undef,undef,undef,undef,undef,undef,undef,undef,undef,undef,undef]:=by
  rw [Try.ntmps30];rfl
 rw [ht]
 apply wpS_seq
 apply wpS_region
 simp [wpOpsS,go_sem,recoverD,hu,Try.ntmps30,Exit.thenS]
 refine wpS_of_wp ?_
 go_wp2
 cases c₀
 simp_all [bodyPostS,results,Try.results30]
def Cl (R b M:Nat) (s:ByteArray) (m:aI) (w:World):Prop:=w.heap[R]? =some (.cells #[.pointer (some ⟨b,0,none⟩)] 49 (0,0))/\Rd b s 0 w/\bj M m w
def sw (W0 b M:Nat) (s:ByteArray) (m:aI) (w:World) (e:Ending) (w':World):Prop:=(if aL s=0 then e= .returned (.tuple #[])/\Rd b s (cO s) w'/\bj M (cd s) w' else e=mf (aL s)/\bj M m w')/\Below W0 w w'/\(∀k,k<w.heap.size->k≠b->k≠M->w'.heap[k]? =w.heap[k]?)
def sy (W0 b M:Nat) (s:ByteArray) (m:aI) (w:World) (e:Ending) (w':World):Prop:=e= .returned (.int .i64 (aL s))/\(if aL s=0 then Rd b s (cO s) w'/\bj M (cd s) w' else bj M m w')/\(∀k,k<w.heap.size->k≠b->k≠M->w'.heap[k]? =w.heap[k]?)/\Below W0 w w'
theorem Jx (h:Cl R b M s m w) (hbw:b<w.heap.size) (hMw:M<w.heap.size) (hRw:R<w.heap.size) (h1:M<b) (h2:b<R) (h0:W0<=M):Calls Try.prog 25 #[.pointer (some ⟨R,0,none⟩), .pointer (some ⟨M,0,none⟩)] w (sw W0 b M s m w):=by
 obtain ⟨hR,hd,hM⟩:=h
 have c0:w.cell? ⟨R,0,none⟩=some (.pointer (some ⟨b,0,none⟩)):=by simp [World.cell?,hR]
 go_enter Try.func25,Try.ntmps25
 go_wp2_with (go_at_call 26;refine (Jt hd hbw).mono ?_)
 rintro e w1 ⟨hE,hk⟩
 have hM1:=hM.aJ hk (by omega) hMw
 by_cases hz:aL s=0
 ·rw [KL hz] at hE
  obtain ⟨rfl,hR1⟩:=hE
  have m0:=hM1.c.1
  have m1:=hM1.c.2.1
  have m2:=hM1.c.2.2.1
  have m3:=hM1.c.2.2.2.1
  have m4:=hM1.c.2.2.2.2.1
  have m5:=hM1.c.2.2.2.2.2
  have mf0:=hM1.f 0
  have mf1:=hM1.f 1
  have mf2:=hM1.f 2
  have mf3:=hM1.f 3
  have mf4:=hM1.f 4
  have mf5:=hM1.f 5
  go_wp2
  have hB:Below W0 w ((((((w1.setCell ⟨M,0,none⟩ (I (cd s).kind)).setCell ⟨M,1,none⟩ (I (cd s).op)).setCell ⟨M,2,none⟩ (I (cd s).node)).setCell ⟨M,3,none⟩ (I (cd s).copy.at_.time)).setCell ⟨M,4,none⟩ (I (cd s).copy.at_.who)).setCell ⟨M,5,none⟩ (.string (cd s).copy.data)):=((((((hk.below.mono (by omega)).setCell (p:=⟨M,0,none⟩) h0 _).setCell (p:=⟨M,1,none⟩) h0 _).setCell (p:=⟨M,2,none⟩) h0 _).setCell (p:=⟨M,3,none⟩) h0 _).setCell (p:=⟨M,4,none⟩) h0 _).setCell (p:=⟨M,5,none⟩) h0 _
  go_end0
  unfold sw
  rw [KL hz]
  refine ⟨⟨rfl,(((((hR1.bC (by omega) 0 _).bC (by omega) 1 _).bC (by omega) 2 _).bC (by omega) 3 _).bC (by omega) 4 _).bC (by omega) 5 _,(((((hM1.s0 _).s1 _).s2 _).s3 _).s4 _).s5 _⟩,hB,fun k hk1 hk2 hk3=> ?_⟩
  rw [LS _ _ _ _ (by exact hk3),LS _ _ _ _ (by exact hk3),LS _ _ _ _ (by exact hk3),LS _ _ _ _ (by exact hk3),LS _ _ _ _ (by exact hk3),LS _ _ _ _ (by exact hk3)]
  exact hk.aJ k hk1 hk2
 ·rw [KK hz] at hE
  subst hE
  refine ⟨rfl, ?_⟩
  unfold sw
  rw [KK hz]
  exact ⟨⟨rfl,hM1⟩,hk.below.mono (by omega),fun k hk1 hk2 _=>hk.aJ k hk1 hk2⟩
theorem Jy (h:Cl R b M s m w) (hbw:b<w.heap.size) (hMw:M<w.heap.size) (hRw:R<w.heap.size) (h1:M<b) (h2:b<R) (h0:W0<=M):Calls Try.prog 24 #[.func (.func 25) #[] #[.pointer (some ⟨R,0,none⟩), .pointer (some ⟨M,0,none⟩)]] w (sy W0 b M s m w):=by
 have hmf:∀(f:FuncId) (first cap:Array Value) (w:World),(Instr.makeFunc (.func f) first cap).run Try.prog w= .ok (.func (.func f) first cap) w:=fun _ _ _ _=>rfl
 have hold:∀k,k<w.heap.size->(w.alloc (.cells #[.int .i64 0] 28)).heap[k]? =w.heap[k]? :=fun k hk=>Lm _ _ _ hk
 have hsz:(w.alloc (.cells #[.int .i64 0] 28)).heap.size=w.heap.size+1:=by simp
 have hC:Cl R b M s m (w.alloc (.cells #[.int .i64 0] 28)):=⟨(hold R hRw).trans h.1,⟨(hold b hbw).trans h.2.1.1,h.2.1.2⟩,(hold M hMw).trans h.2.2⟩
 go_enter_defers Try.func24,Try.ntmps24
 go_wp2_with (go_at_call 25;refine (Jx (W0:=W0) hC (by omega) (by omega) (by omega) h1 h2 h0).mono ?_)
 intro e w1 hX
 unfold sw at hX
 obtain ⟨hE,hB,ho⟩:=hX
 have hsz1:=hB.size
 have hP:w1.heap[w.heap.size]? =some (.cells #[.int .i64 0] 28 (0,0)):=(ho w.heap.size (by omega) (by omega) (by omega)).trans (Mt w _)
 have p0:w1.cell? ⟨w.heap.size,0,none⟩=some (.int .i64 0):=by simp [World.cell?,hP]
 have pf0:w1.frozen? ⟨w.heap.size,0,none⟩=false:=by simp [World.frozen?,hP]
 by_cases hz:aL s=0
 ·rw [KL hz] at hE
  obtain ⟨rfl,hR1,hM1⟩:=hE
  go_wp2
  refine leaves_cons (f:=30) (args:= #[.pointer (some ⟨w.heap.size,0,none⟩)]) (by simp) (by simp [go_sem]) ?_
  refine (Jw ⟨w.heap.size,0,none⟩ _).mono ?_
  rintro e u' w'' ⟨rfl,rfl,rfl⟩
  have q0:(w1.setCell ⟨w.heap.size,0,none⟩ (.int .i64 0)).cell? ⟨w.heap.size,0,none⟩=some (.int .i64 0):=by simp [World.cell?,World.setCell,Ml,hP]
  simp [Leaves,settle,results,Try.results24,go_sem,q0]
  unfold sy
  rw [KL hz,hz]
  exact ⟨rfl,⟨hR1.bC (by omega) 0 _,(LS _ _ _ _ (by show M≠w.heap.size;omega)).trans hM1⟩,fun k hk1 hk2 hk3=>(LS _ _ _ _ (by show k≠w.heap.size;omega)).trans ((ho k (by omega) hk2 hk3).trans (hold k hk1)),(((Lt _ w).alloc (by omega) _).trans hB).setCell (p:=⟨w.heap.size,0,none⟩) (by show W0<=w.heap.size;omega) _⟩
 ·rw [KK hz] at hE
  obtain ⟨rfl,hM1⟩:=hE
  unfold mf
  go_wp2
  refine leaves_cons (f:=30) (args:= #[.pointer (some ⟨w.heap.size,0,none⟩)]) (by simp) (by simp [go_sem]) ?_
  refine (Jv ⟨w.heap.size,0,none⟩ (aL s) 0 [] _ p0 pf0 (by show w.heap.size<_;omega)).mono ?_
  rintro e u' w'' ⟨rfl,rfl,rfl⟩
  have hP2:(w1.alloc (.cells #[.int .i64 (aL s)] 57)).heap[w.heap.size]? =some (.cells #[.int .i64 0] 28 (0,0)):=(Lm _ _ _ (by omega)).trans hP
  have q0:((w1.alloc (.cells #[.int .i64 (aL s)] 57)).setCell ⟨w.heap.size,0,none⟩ (.int .i64 (aL s))).cell? ⟨w.heap.size,0,none⟩=some (.int .i64 (aL s)):=by simp [World.cell?,World.setCell,Ml,hP2]
  simp [Leaves,settle,results,Try.results24,go_sem,q0]
  unfold sy
  rw [KK hz]
  exact ⟨rfl,(LS _ _ _ _ (by show M≠w.heap.size;omega)).trans ((Lm _ _ _ (by omega)).trans hM1),fun k hk1 hk2 hk3=>(LS _ _ _ _ (by show k≠w.heap.size;omega)).trans ((Lm _ _ _ (by omega)).trans ((ho k (by omega) hk2 hk3).trans (hold k hk1))),((((Lt _ w).alloc (by omega) _).trans hB).alloc (by omega) _).setCell (p:=⟨w.heap.size,0,none⟩) (by show W0<=w.heap.size;omega) _⟩
def bR (s:ByteArray):aI:=if aL s=0 then cd s else ⟨0,0,0,⟨⟨0,0⟩,⟨#[]⟩⟩⟩
def dk (s:ByteArray):Int:=if aL s=0 then cO s else 0
theorem bj.drew {B:Nat} {m:aI} {w:World} (h:bj B m w):bj B m w.drew:=h
theorem Bf {B:Nat} {x y:Value} {R:Ending->World->Prop} (hM:bj B m w') (hd:a.defers=[]) (h2:a.tmps[2]?.getD undef= .pointer (some ⟨B,0,none⟩)) (h3:a.tmps[3]?.getD undef=x) (h4:a.tmps[4]?.getD undef=y) (hP:R (.returned (.tuple #[m.v,x,y])) w'):bodyPost Try.prog Try.f12 R .ret a w':=by
 obtain ⟨m0,m1,m2,m3,m4,m5⟩:=hM.c
 refine ⟨hd,_, ?_,hP⟩
 simp [results,Try.results12,go_sem,h2,h3,h4,m0,m1,m2,m3,m4,m5]
theorem Jz (s:ByteArray) (hs:s.size<=9223372036854775807) (w:World):Calls Try.prog 12 #[.string s] w fun e w'=>e= .returned (.tuple #[(bR s).v, .int .i64 (dk s), .int .i64 (aL s)])/\Below w.heap.size w w':=by
 have hmf:∀(f:FuncId) (first cap:Array Value) (w:World),(Instr.makeFunc (.func f) first cap).run Try.prog w= .ok (.func (.func f) first cap) w:=fun _ _ _ _=>rfl
 go_enter Try.func12,Try.ntmps12
 have hCl:Cl (w.heap.size+1+1) (w.heap.size+1) w.heap.size s ⟨0,0,0,⟨⟨0,0⟩,⟨#[]⟩⟩⟩ (((w.alloc (.cells #[.int .i64 0, .int .i64 0, .int .i64 0, .int .i64 0, .int .i64 0, .string ⟨#[]⟩] 27)).alloc (.cells #[.string s, .int .i64 0] 51)).alloc (.cells #[.pointer (some ⟨w.heap.size+1,0,none⟩)] 49)):=by
  refine ⟨?_,⟨?_,by omega,hs⟩, ?_⟩
  ·have:=Mt ((w.alloc (.cells #[.int .i64 0, .int .i64 0, .int .i64 0, .int .i64 0, .int .i64 0, .string ⟨#[]⟩] 27)).alloc (.cells #[.string s, .int .i64 0] 51)) (.cells #[.pointer (some ⟨w.heap.size+1,0,none⟩)] 49)
   simpa using this
  ·refine (Lm _ _ _ (by simp)).trans ?_
   have:=Mt (w.alloc (.cells #[.int .i64 0, .int .i64 0, .int .i64 0, .int .i64 0, .int .i64 0, .string ⟨#[]⟩] 27)) (.cells #[.string s, .int .i64 0] 51)
   simpa using this
  ·refine (Lm _ _ _ (by simp;omega)).trans ((Lm _ _ _ (by simp)).trans ?_)
   exact Mt w _
 have hsz:(((w.alloc (.cells #[.int .i64 0, .int .i64 0, .int .i64 0, .int .i64 0, .int .i64 0, .string ⟨#[]⟩] 27)).alloc (.cells #[.string s, .int .i64 0] 51)).alloc (.cells #[.pointer (some ⟨w.heap.size+1,0,none⟩)] 49)).heap.size=w.heap.size+3:=by simp
 have hbl:Below w.heap.size w (((w.alloc (.cells #[.int .i64 0, .int .i64 0, .int .i64 0, .int .i64 0, .int .i64 0, .string ⟨#[]⟩] 27)).alloc (.cells #[.string s, .int .i64 0] 51)).alloc (.cells #[.pointer (some ⟨w.heap.size+1,0,none⟩)] 49)):=(((Lt _ w).alloc (KO _) _).alloc (by simp) _).alloc (by simp;omega) _
 have hca:=Jy (W0:=w.heap.size) hCl (by omega) (by omega) (by omega) (by omega) (by omega) (KO _)
 go_wp2_with (go_at_call 24;refine hca.mono ?_)
 intro e w1 hX
 unfold sy at hX
 obtain ⟨rfl,hE,ho,hB⟩:=hX
 have hR:w1.heap[w.heap.size+1+1]? =some (.cells #[.pointer (some ⟨w.heap.size+1,0,none⟩)] 49 (0,0)):=(ho (w.heap.size+1+1) (by omega) (by omega) (by omega)).trans hCl.1
 have hB1:=hbl.trans hB
 clear hCl hbl hca ho hB
 have r0:w1.cell? ⟨w.heap.size+1+1,0,none⟩=some (.pointer (some ⟨w.heap.size+1,0,none⟩)):=by simp [World.cell?,hR]
 by_cases hz:aL s=0
 ·rw [KL hz] at hE
  obtain ⟨hR1,hM1⟩:=hE
  have m0:=hM1.c.1
  have m1:=hM1.c.2.1
  have m2:=hM1.c.2.2.1
  have m3:=hM1.c.2.2.2.1
  have m4:=hM1.c.2.2.2.2.1
  have m5:=hM1.c.2.2.2.2.2
  have mf0:=hM1.f 0
  have mf1:=hM1.f 1
  have mf2:=hM1.f 2
  have mf3:=hM1.f 3
  have mf4:=hM1.f 4
  have mf5:=hM1.f 5
  have u1:w1.cell? ⟨w.heap.size+1,1,none⟩=some (.int .i64 (cO s:Int)):=by have:=hR1.1;simp [World.cell?,this]
  rw [hz]
  go_wp2
  go_region
  go_wp2
  refine Bf (m:=cd s) (x:=I (cO s)) (y:=I 0) ((((((hM1.s0 (cd s).kind).s1 (cd s).op).s2 (cd s).node).s3 (cd s).copy.at_.time).s4 (cd s).copy.at_.who).s5 (cd s).copy.data).drew rfl rfl rfl rfl ⟨?_,((((((hB1.setCell (p:=⟨w.heap.size,0,none⟩) (KO _) _).setCell (p:=⟨w.heap.size,1,none⟩) (KO _) _).setCell (p:=⟨w.heap.size,2,none⟩) (KO _) _).setCell (p:=⟨w.heap.size,3,none⟩) (KO _) _).setCell (p:=⟨w.heap.size,4,none⟩) (KO _) _).setCell (p:=⟨w.heap.size,5,none⟩) (KO _) _).drew⟩
  unfold bR dk
  rw [KL hz,KL hz,hz]
 ·rw [KK hz] at hE
  have m0:=hE.c.1
  have m1:=hE.c.2.1
  have m2:=hE.c.2.2.1
  have m3:=hE.c.2.2.2.1
  have m4:=hE.c.2.2.2.2.1
  have m5:=hE.c.2.2.2.2.2
  have mf0:=hE.f 0
  have mf1:=hE.f 1
  have mf2:=hE.f 2
  have mf3:=hE.f 3
  have mf4:=hE.f 4
  have mf5:=hE.f 5
  go_wp2
  refine Bf (m:=⟨0,0,0,⟨⟨0,0⟩,⟨#[]⟩⟩⟩) (x:=I 0) (y:=I (aL s)) ((((((hE.s0 0).s1 0).s2 0).s3 0).s4 0).s5 ⟨#[]⟩) rfl rfl rfl rfl ⟨?_,(((((hB1.setCell (p:=⟨w.heap.size,0,none⟩) (KO _) _).setCell (p:=⟨w.heap.size,1,none⟩) (KO _) _).setCell (p:=⟨w.heap.size,2,none⟩) (KO _) _).setCell (p:=⟨w.heap.size,3,none⟩) (KO _) _).setCell (p:=⟨w.heap.size,4,none⟩) (KO _) _).setCell (p:=⟨w.heap.size,5,none⟩) (KO _) _⟩
  unfold bR dk
  rw [KK hz,KK hz]
open Go.ChangeShapes Go.WideShapes Go.ChangeAt Go.RowKit
open Go.ChangeMaps (open_string shut_string)
theorem bj.new {B:Nat} (h:bj B m w) (o:Obj):bj B m (w.alloc o):=(Lm _ _ _ (Lw.1 h).1).trans h
abbrev y8 (x:Int):Value:= .int .u8 (x%256)
def b8 (x:Int):UInt8:=UInt8.ofNat (x%256).toNat
theorem Bg (x:Int):y8 x= .int .u8 (b8 x).toNat:=by
 unfold y8 b8
 simp
 omega
def kf (m:aI):List UInt8:=[b8 m.kind,b8 m.op,b8 m.node]++if bK m.kind then [b8 (m.copy.at_.time / 65536),b8 (m.copy.at_.time / 256),b8 m.copy.at_.time,b8 m.copy.at_.who,b8 m.copy.data.size]++m.copy.data.data.toList else []
def bS (m:aI):ByteArray:=if m.aq=0 then ⟨(kf m).toArray⟩ else ⟨#[]⟩
theorem JA:(Try.prog.info? 5).map (fun i=>(i.zero,i.size,i.bytes))=some (some (.int .u8 0),1,1):=by kernel_rfl
theorem JB (h:m.aq=0):m.copy.data.size<=64:=by
 unfold aI.aq cw.aq at h
 grind
theorem Bh {B:Nat} {v:Value} {l:List UInt8} (h:w.ownsRowF B 5 1 v n (Lib.byteCells l)) (hn:0<n):(convert 43 9 v).run Try.prog w= .ok (.string ⟨l.toArray⟩) w:=by
 have hl:n=l.length:=by have:=h.1;rw [Lib.byteCells_length] at this;omega
 rcases h.2 with ⟨_,h0⟩|⟨g,cap,cur,fz,rfl,hB,hg,_,hc,_,hsz,ht⟩
 ·omega
 ·subst hl
  refine run_convert_bytes_back w 43 9 5 ⟨g,0,none⟩ cap l Try.underlying43 Try.underlying5 Try.underlying9 fun j hj=> ?_
  have e:(cur.toList.take (l.length*1))[j]? =cur.toList[j]? :=List.getElem?_take_of_lt (by omega)
  rw [ht] at e
  have e2:cur[j]? =some (.int .u8 (l[j].toNat:Int)):=by
   rw [<-Array.getElem?_toList, <-e]
   simp [Lib.byteCells,hj]
  rw [show (⟨g,0,none⟩:Addr).add j=⟨g,j,none⟩ by cases j<;>simp [Addr.add]]
  simp [World.cell?,hg,e2]
theorem JC (m:aI) (w:World):Calls Try.prog 7 #[m.v] w fun e w'=>e= .returned (.tuple #[.string (bS m),I m.aq])/\Below w.heap.size w w':=by
 have hM0:bj w.heap.size m (w.alloc (.cells #[I m.kind,I m.op,I m.node,I m.copy.at_.time,I m.copy.at_.who, .string m.copy.data] 27)):=Mt w _
 have hs0:(w.alloc (.cells #[I m.kind,I m.op,I m.node,I m.copy.at_.time,I m.copy.at_.who, .string m.copy.data] 27)).heap.size=w.heap.size+1:=by simp
 have hb0:Below w.heap.size w (w.alloc (.cells #[I m.kind,I m.op,I m.node,I m.copy.at_.time,I m.copy.at_.who, .string m.copy.data] 27)):=(Lt _ w).alloc (KO _) _
 obtain ⟨i0,hi,hz0,hz1,hz2⟩:=info_parts JA
 go_enter Try.func7,Try.ntmps7
 go_wp2_with (go_at_call 10;refine (wy m _).mono ?_)
 rintro e w1 ⟨rfl,b1⟩
 have hM1:=mg b1 (by omega) hM0
 have k1:=hb0.trans (b1.mono (by omega))
 have hs1:=b1.size
 have m0:=hM1.c.1
 have m1:=hM1.c.2.1
 have m2:=hM1.c.2.2.1
 have m3:=hM1.c.2.2.2.1
 have m4:=hM1.c.2.2.2.2.1
 have m5:=hM1.c.2.2.2.2.2
 by_cases hz:m.aq=0
 ·rw [hz]
  have hM2:=hM1.new (.cells #[y8 m.kind,y8 m.op,y8 m.node] 5)
  have n0:=hM2.c.1
  have n3:=hM2.c.2.2.2.1
  have n4:=hM2.c.2.2.2.2.1
  have n5:=hM2.c.2.2.2.2.2
  have hM3:=hM2.new (.cells #[I m.copy.at_.time,I m.copy.at_.who, .string m.copy.data] 25)
  have q0:=hM3.c.1
  go_wp2_with (go_at_call 17;refine (Ba _ _).mono ?_)
  rintro e w4 ⟨he,b4⟩
  have hM4:=mg b4 (by simp;omega) hM3
  have hs4:=b4.size
  simp only [World.size_alloc] at hs4
  have hc4:w4.heap[w1.heap.size+1]? =some (.cells #[I m.copy.at_.time,I m.copy.at_.who, .string m.copy.data] 25 (0,0)):=(b4.block _ (by simp)).trans (by
   have:=Mt (w1.alloc (.cells #[y8 m.kind,y8 m.op,y8 m.node] 5)) (.cells #[I m.copy.at_.time,I m.copy.at_.who, .string m.copy.data] 25)
   simpa using this)
  have ho4:w4.heap[w1.heap.size]? =some (.cells #[y8 m.kind,y8 m.op,y8 m.node] 5 (0,0)):=(b4.block _ (by simp;omega)).trans ((Lm _ _ _ (by simp)).trans (Mt w1 _))
  have k4:Below w.heap.size w w4:=((k1.alloc (by omega) _).alloc (by simp;omega) _).trans (b4.mono (by simp;omega))
  have t0:w4.cell? ⟨w1.heap.size+1,0,none⟩=some (I m.copy.at_.time):=by simp [World.cell?,hc4]
  have t1:w4.cell? ⟨w1.heap.size+1,1,none⟩=some (I m.copy.at_.who):=by simp [World.cell?,hc4]
  have t2:w4.cell? ⟨w1.heap.size+1,2,none⟩=some (.string m.copy.data):=by simp [World.cell?,hc4]
  clear n0 n3 n4 n5 q0 m0 m1 m2 m3 m4 m5 hM0 hb0
  by_cases hC:bK m.kind
  ·rw [decide_eq_true hC] at he
   subst he
   have hO:w4.ownsRowF w.heap.size 5 1 (.slice (some ⟨w1.heap.size,0,none⟩) 3 3) 3 [y8 m.kind,y8 m.op,y8 m.node]:=⟨rfl, .inr ⟨w1.heap.size,3,_,(0,0),rfl,by omega,ho4,by decide,by decide,by decide,rfl,rfl⟩⟩
   go_wp2_with (at_builtin;refine wpList_append_ownF _ rfl _ _ 43 rfl w.heap.size 5 i0 (.int .u8 0) 1 1 Try.underlying43 hi hz0 hz1 hz2 rfl (by decide) _ _ _ rfl (hO.alloc _) ⟨w4.heap.size,0,none⟩ 5 5 [y8 (m.copy.at_.time / 65536),y8 (m.copy.at_.time / 256),y8 m.copy.at_.time,y8 m.copy.at_.who,y8 m.copy.data.size] rfl rfl ?c1 ?c2 ?c3 ?c4 ?c5 ?_)
   case c1=>
    intro j u hj
    match j,hj with
    |0,hj=>simp at hj;subst hj;simp [Addr.add]
    |1,hj=>simp at hj;subst hj;simp [Addr.add]
    |2,hj=>simp at hj;subst hj;simp [Addr.add]
    |3,hj=>simp at hj;subst hj;simp [Addr.add]
    |4,hj=>simp at hj;subst hj;simp [Addr.add]
   case c2=>intro u hu;simp at hu;rcases hu with rfl|rfl|rfl|rfl|rfl<;>rfl
   case c3=>decide
   case c4=>decide
   case c5=>simp;omega
   intro v' w5 hO5 hgr _
   have hl64:=JB hz
   have hs5:=hgr.size
   simp only [World.size_alloc,World.size_drew] at hs5
   have hc5:w5.heap[w1.heap.size+1]? =some (.cells #[I m.copy.at_.time,I m.copy.at_.who, .string m.copy.data] 25 (0,0)):=by
    rw [hgr.block (w1.heap.size+1) (by simp;omega) (by simp [Value.ownBlock])]
    exact (Lm _ _ _ (by omega)).trans hc4
   have t5:w5.cell? ⟨w1.heap.size+1,2,none⟩=some (.string m.copy.data):=by simp [World.cell?,hc5]
   have k5:Below w.heap.size w w5:=(k4.alloc (by omega) _).grown hgr (by simp;omega) (fun k hk=>by have:w1.heap.size=k:=Option.some.inj hk;omega)
   obtain ⟨g,cap,rfl,hg⟩:∃g cap,v'= .slice (some ⟨g,0,none⟩) 8 cap/\w.heap.size<=g:=by
    rcases hO5.2 with ⟨_,h0⟩|⟨g,cap,cur,fz,hv,hB,_⟩
    ·omega
    ·exact ⟨g,cap,hv,hB⟩
   go_wp2_with (at_builtin;refine Lib.wpList_append_own_stringF _ rfl _ _ 43 9 rfl w.heap.size 5 i0 Try.underlying43 Try.underlying9 hi hz0 hz1 hz2 _ 8 _ rfl hO5 m.copy.data rfl ?d1 ?d2 ?d3 ?_)
   case d1=>unfold maxLen;omega
   case d2=>omega
   case d3=>omega
   intro v2 w6 hO6 hgr6 _
   have k6:Below w.heap.size w w6:=k5.grown hgr6 (by omega) (fun k hk=>by have:g=k:=Option.some.inj hk;omega)
   have hO7:w6.ownsRowF w.heap.size 5 1 v2 (8+m.copy.data.size) (Lib.byteCells (kf m)):=by
    have e:[y8 m.kind,y8 m.op,y8 m.node]++[y8 (m.copy.at_.time / 65536),y8 (m.copy.at_.time / 256),y8 m.copy.at_.time,y8 m.copy.at_.who,y8 m.copy.data.size]++Lib.strCells m.copy.data=Lib.byteCells (kf m):=by
     unfold kf
     rw [KL hC]
     simp only [Bg]
     simp [Lib.byteCells,Lib.strCells]
    rw [<-e]
    exact hO6
   have hcv:=Bh hO7 (by omega)
   go_wp2
   go_ret2
   unfold bS
   rw [KL hz,hz]
   exact ⟨rfl,k6⟩
  ·rw [decide_eq_false hC] at he
   subst he
   have hO:w4.ownsRowF w.heap.size 5 1 (.slice (some ⟨w1.heap.size,0,none⟩) 3 3) 3 (Lib.byteCells (kf m)):=by
    have e:[y8 m.kind,y8 m.op,y8 m.node]=Lib.byteCells (kf m):=by
     unfold kf
     rw [KK hC]
     simp only [Bg]
     simp [Lib.byteCells]
    rw [<-e]
    exact ⟨rfl, .inr ⟨w1.heap.size,3,_,(0,0),rfl,by omega,ho4,by decide,by decide,by decide,rfl,rfl⟩⟩
   have hcv:=Bh hO (by omega)
   go_wp2
   go_ret2
   unfold bS
   rw [KL hz,hz]
   exact ⟨rfl,k4⟩
 ·go_wp2
  go_ret2
  unfold bS
  rw [KK hz]
  exact ⟨rfl,k1⟩
open Go.ChangeShapes Go.WideShapes Go.ChangeAt Go.RowKit
open Go.ChangeMaps (open_string shut_string)
theorem Bi:∀{vs:List Value} {ws:Array Value},RC E ws (vs.map AV.v)->ws=vs.toArray:=by
 intro vs ws h
 apply Array.ext
 ·simpa using h.1
 ·intro i h1 h2
  have h3:i<vs.length:=by simpa using h2
  have:=h.2 i ws[i] (.v vs[i]) (KX h1) (by rw [Ld,K0 h3];rfl)
  generalize hq:ws[i]=q at this
  generalize hp:vs[i]=p at this
  have e:q=p:=by cases this with|v h=>rfl
  rw [e, <-hp];simp
theorem JD {ws:Array Value} (h:RC E ws [.agg (vs.map AV.v)]):ws= #[.agg vs.toArray]:=by
 obtain ⟨h1,h2⟩:=h
 obtain ⟨x,rfl⟩:∃x,ws= #[x]:=by
  have:ws.size=1:=h1
  refine ⟨ws[0], ?_⟩
  apply Array.ext
  ·simpa using this
  ·intro i h3 h4
   obtain rfl:i=0:=by omega
   rfl
 have h3:=h2 0 x _ rfl rfl
 generalize hc:(AV.agg (vs.map AV.v))=c at h3
 cases h3 with
 |agg hl hr=>
  cases hc
  rw [Bi ⟨hl,hr⟩]
 |_=>cases hc
theorem JE {a b:Value} (ha:ae E a x) (hb:ae E b y):ae E (.tuple #[a,b]) (.aG [x,y]):=by
 refine .aG rfl fun i v c hv hc=> ?_
 match i with
 |0=>simp at hv hc;subst hv;subst hc;exact ha
 |1=>simp at hv hc;subst hv;subst hc;exact hb
 |i+2=>simp at hc
theorem JF {a b d:Value} {z:AV} (ha:ae E a x) (hb:ae E b y) (hd:ae E d z):ae E (.tuple #[a,b,d]) (.aG [x,y,z]):=by
 refine .aG rfl fun i v c hv hc=> ?_
 match i with
 |0=>simp at hv hc;subst hv;subst hc;exact ha
 |1=>simp at hv hc;subst hv;subst hc;exact hb
 |2=>simp at hv hc;subst hv;subst hc;exact hd
 |i+3=>simp at hc
def wz:b7 Tc Tc.dn:=⟨7,[.ty .fj],fun _=>True,[.g4, .cZ],fun x=>(bS x.1,x.1.aq)⟩
theorem Bj:wz.Ok Try.prog tD:=⟨by kernel_rfl,fun x N _ w J ws hJ hG bW=>by
 rw [JD (vs:=[I x.1.kind,I x.1.op,I x.1.node,I x.1.copy.at_.time,I x.1.copy.at_.who, .string x.1.copy.data]) bW]
 exact (JC x.1 w).mono fun e w' ⟨h1,h2⟩=>⟨_,h1,JE (.v rfl) (.v rfl),h2⟩⟩
def wA:b7 Tc Tc.dn:=⟨12,[.ty .g4],fun x=>(x.1:ByteArray).size<=9223372036854775807,[.fj, .cZ, .cZ],fun x=>(bR x.1,dk x.1,aL x.1)⟩
theorem Bl:wA.Ok Try.prog tD:=⟨by kernel_rfl,fun x N hp w J ws hJ hG bW=>by
 rw [Bi (vs:=[.string x.1]) bW]
 exact (Jz x.1 hp w).mono fun e w' ⟨h1,h2⟩=>⟨_,h1,JF (A9 [I (bR x.1).kind,I (bR x.1).op,I (bR x.1).node,I (bR x.1).copy.at_.time,I (bR x.1).copy.at_.who, .string (bR x.1).copy.data] (by simp [plainV])) (.v rfl) (.v rfl),h2⟩⟩
open Go.RowKit
theorem wB (d:ByteArray):d.size=0↔d=ByteArray.mk #[]:=by
 constructor
 ·intro h
  obtain ⟨l⟩:=d
  rw [show l= #[] from Array.size_eq_zero_iff.1 h]
 ·intro h;rw [h];rfl
theorem wC (h:aL s=0):3<=cO s/\cO s<=s.size:=by
 unfold aL at h
 unfold cO
 split at h
 ·simp at h
 ·split at h
  ·simp at h
  ·split at h
   ·simp at h
   ·split<;>omega
def cP:Nat->Int->ByteArray->List aI×Int
 |0,_,_=>([],0)
 |f+1,k,s=>if s.size=0 then ([],0) else if aL s≠0 then ([],aL s) else if k=64 then ([],2) else
  if (cP f (k+1) (s.extract (cO s) s.size)).2=0 then (cd s::(cP f (k+1) (s.extract (cO s) s.size)).1,0) else ([],(cP f (k+1) (s.extract (cO s) s.size)).2)
def jk (s:ByteArray):List aI×Int:=cP (s.size+1) 0 s
theorem wD (s:ByteArray) (n:Nat) (h:n<=s.size):(s.extract n s.size).size=s.size - n:=by simp
theorem wE:∀(f:Nat) (k:Int) (s:ByteArray),s.size+1<=f->cP f k s=cP (s.size+1) k s
 |0,k,s,h=>by omega
 |f+1,k,s,h=>by
  unfold cP
  by_cases h0:s.size=0
  ·simp only [KL h0]
  ·simp only [KK h0]
   by_cases h1:aL s≠0
   ·simp only [KL h1]
   ·simp only [KK h1]
    have h2:=wC (Decidable.not_not.1 h1)
    have h3:=wD s (cO s) h2.2
    have e1:=wE f (k+1) (s.extract (cO s) s.size) (by omega)
    have e2:=wE s.size (k+1) (s.extract (cO s) s.size) (by omega)
    rw [e1,e2]
 termination_by f=>f
 decreasing_by all_goals omega
theorem JG:∀(f:Nat) (k:Int) (s:ByteArray),(cP f k s).2≠0->(cP f k s).1=[]
 |0,k,s,h=>rfl
 |f+1,k,s,h=>by
  unfold cP at h ⊢
  (repeat' split)<;>(try rfl)
  simp_all
structure dm (s0 u:ByteArray) (out:List aI):Prop where
 len:out.length<=64
 sz:u.size<=s0.size
 ji:s0.size<=9223372036854775807
 eq:jk s0=if (cP (u.size+1) out.length u).2=0 then (out++(cP (u.size+1) out.length u).1,0) else ([],(cP (u.size+1) out.length u).2)
theorem dm.start {s:ByteArray} (h:s.size<=9223372036854775807):dm s s []:=⟨by simp,KO _,h,by
 unfold jk
 have h2:=JG (s.size+1) 0 s
 show _=if (cP (s.size+1) 0 s).2=0 then ([]++(cP (s.size+1) 0 s).1,0) else ([],(cP (s.size+1) 0 s).2)
 generalize cP (s.size+1) 0 s=r at*
 obtain ⟨a,b⟩:=r
 split
 ·simp_all
 ·simp_all⟩
theorem dm.fin {s0 u:ByteArray} (h:dm s0 u out) (h0:u=ByteArray.mk #[]):(out,(0:Int))=jk s0:=by
 subst h0
 rw [h.eq]
 show _=if (cP 1 out.length ⟨#[]⟩).2=0 then _ else _
 simp [cP,ByteArray.size]
theorem dm.bad {s0 u:ByteArray} (h:dm s0 u out) (h0:¬u=ByteArray.mk #[]) (h1:¬aL u=0):(([]:List aI),aL u)=jk s0:=by
 have h2:¬u.size=0:=fun e=>h0 ((wB u).1 e)
 have e:cP (u.size+1) out.length u=([],aL u):=by unfold cP;rw [KK h2,KL h1]
 rw [h.eq,e]
 simp [h1]
theorem dm.many {s0 u:ByteArray} (h:dm s0 u out) (h0:¬u=ByteArray.mk #[]) (h1:aL u=0) (h3:(out.length:Int)=64):(([]:List aI),(2:Int))=jk s0:=by
 have h2:¬u.size=0:=fun e=>h0 ((wB u).1 e)
 have e:cP (u.size+1) out.length u=([],2):=by unfold cP;rw [KK h2,KK (by simp [h1]),KL h3]
 rw [h.eq,e]
 simp
theorem Bm {u:ByteArray} (h1:aL u=0):dk u=cO u:=by unfold dk;rw [KL h1]
theorem JH {u:ByteArray} (h1:aL u=0):bR u=cd u:=by unfold bR;rw [KL h1]
theorem dm.step {s0 u:ByteArray} {out:List aI} (h:dm s0 u out) (h0:¬u=ByteArray.mk #[]) (h1:aL u=0) (h3:¬(out.length:Int)=64):dm s0 (u.extract (dk u).toNat u.size) (out++[bR u]):=by
 have h2:¬u.size=0:=fun e=>h0 ((wB u).1 e)
 have hn:=wC h1
 have hx:=wD u (cO u) hn.2
 rw [Bm h1,JH h1,Md]
 have e0:cP (u.size+1) out.length u=if (cP u.size (out.length+1) (u.extract (cO u) u.size)).2=0 then (cd u::(cP u.size (out.length+1) (u.extract (cO u) u.size)).1,0) else ([],(cP u.size (out.length+1) (u.extract (cO u) u.size)).2):=by
  conv=>lhs;unfold cP
  rw [KK h2,KK (by simp [h1]),KK h3]
 rw [wE u.size _ (u.extract (cO u) u.size) (by omega)] at e0
 refine ⟨by have:=h.len;simp;omega,by have:=h.sz;omega,h.ji, ?_⟩
 rw [h.eq,e0]
 have el:((out++[cd u]).length:Int)=out.length+1:=by simp
 rw [el]
 generalize cP ((u.extract (cO u) u.size).size+1) (out.length+1) (u.extract (cO u) u.size)=r
 split<;>simp_all
theorem dm.dec {s0 u:ByteArray} {out:List aI} (h:dm s0 u out) (h1:aL u=0):0<=dk u/\3<=dk u/\dk u<=u.size/\(u.extract (dk u).toNat u.size).size<u.size:=by
 have hn:=wC h1
 have hx:=wD u (cO u) hn.2
 rw [Bm h1,Md]
 omega
def pH (s:ByteArray) (u:ByteArray) (out:(List aI)):Prop:=dm s u out
def wF:b7 Tc Tc.dn:=⟨13,[.ty .g4],fun x=>(fun (s:ByteArray)=>s.size<=9223372036854775807) x.1,[.nq, .cZ],fun x=>(fun (s:ByteArray)=>jk s) x.1⟩
theorem JI (s:ByteArray) (hp:s.size<=9223372036854775807):pH s s []/\∀(x:ByteArray) (nt:List aI),pH s x nt->(¬x=ByteArray.mk #[]->x.size<=(9223372036854775807:Nat)/\(aL x=(0:Int)->aL x=(0:Int))/\(aL x=(0:Int)->aL x=(0:Int))/\(aL x=(0:Int)->aL x=(0:Int))/\(aL x=(0:Int)/\(↑nt.length:Int)=(64:Int)->([],(2:Int))=jk s)/\(¬aL x=(0:Int)\/¬(↑nt.length:Int)=(64:Int)->(¬aL x=(0:Int)->([],aL x)=jk s)/\(aL x=(0:Int)->(nt.length+(1:Nat))*(56:Nat)<=(140737488355328:Nat)/\((0:Int)<=dk x/\dk x<=(↑x.size:Int))/\pH s (x.extract (dk x).toNat (↑x.size:Int).toNat) (nt++[bR x])/\(x.extract (dk x).toNat (↑x.size:Int).toNat).size<x.size)))/\(x=ByteArray.mk #[]->(nt,(0:Int))=jk s):=by
 have h1:= @dm.start s hp
 simp only [pH,Md,LL,LP,Lk,K6]
 (repeat' (first|apply And.intro|intro _))<;>first|assumption|trivial|omega|exact dm.fin (by assumption) (by assumption)|exact dm.bad (by assumption) (by assumption) (by assumption)|(refine dm.many (by assumption) (by assumption) ?_ ?_<;>simp_all)|exact (dm.dec (by assumption) (by assumption)).1|exact (dm.dec (by assumption) (by assumption)).2.2.1|exact (dm.dec (by assumption) (by assumption)).2.2.2|(refine dm.step (by assumption) (by assumption) (by assumption) ?_<;>simp_all)|(have hq:=dm.len (by assumption);omega)|(have hq:=dm.sz (by assumption);have oi:=dm.ji (by assumption);omega)|trace_state
theorem JJ:wF.Ok Try.prog tD:=eU eD (Δ:=[wA]) ⟨Bl,trivial⟩ (Ω:=[]) trivial wF E5 E6 (fun _=>[]) (fun _=>trivial) 0 (fun x=>(fun (s:ByteArray)=>(fun k=>bif Nat.beq k 0 then some (.inv [.sl 0 .g4, .ow 4 .fj] (fun zo zv=>(fun (u:ByteArray) (out:(List aI))=>pH s u out) zv.1 zv.2.1) (fun zo zv=>(fun (u:ByteArray) (out:(List aI))=>u.size) zv.1 zv.2.1)) else none)) x.1) fun x hp=>Eq.mp (by kernel_rfl) (JI x.1 hp)
open Go.RowKit
theorem JK {n:Int} (h:0<=n):UInt8.ofNat n.toNat=b8 n:=by
 unfold b8
 apply UInt8.toNat_inj.1
 simp
 omega
theorem JL (x:UInt8):(ByteArray.mk #[x]).size=1:=rfl
theorem JM (h:m.aq=0):(1<=m.kind/\m.kind<=4)/\(0<=m.op/\m.op<=30)/\(0<=m.node/\m.node<=11)/\(0<=m.copy.at_.time/\m.copy.at_.time<=1000000)/\(0<=m.copy.at_.who/\m.copy.at_.who<=31)/\m.copy.data.size<=64:=by
 unfold aI.aq at h
 split at h
 ·split at h
  ·split at h
   ·rename_i h1 h2 h3
    unfold cw.aq at h3
    split at h3
    ·rename_i h4
     unfold bP.ka at h4
     split at h3
     ·simp at h3
     ·omega
    ·simp at h3
   ·omega
  ·simp at h
 ·simp at h
theorem Bn (x:Int):b8 (x%256)=b8 x:=by
 unfold b8
 rw [Int.emod_emod_of_dvd _ (by omega)]
theorem JN (h:m.aq=0) (hC:bK m.kind):(ByteArray.mk #[b8 m.kind]++ByteArray.mk #[b8 m.op]++ByteArray.mk #[b8 m.node])++(ByteArray.mk #[b8 (m.copy.at_.time / 65536)]++ByteArray.mk #[b8 (m.copy.at_.time / 256%256)]++ByteArray.mk #[b8 (m.copy.at_.time%256)]++ByteArray.mk #[b8 m.copy.at_.who]++ByteArray.mk #[b8 m.copy.data.size]++m.copy.data)=bS m:=by
 unfold bS kf
 rw [KL h,KL hC,Bn,Bn]
 apply ByteArray.ext
 simp
theorem JO (h:m.aq=0) (hC:¬bK m.kind):(ByteArray.mk #[b8 m.kind]++ByteArray.mk #[b8 m.op]++ByteArray.mk #[b8 m.node])=bS m:=by
 unfold bS kf
 rw [KL h,KK hC]
 apply ByteArray.ext
 simp
theorem JP (h:¬m.aq=0):(ByteArray.mk #[])=bS m:=by
 unfold bS
 rw [KK h]
def wG:b7 Tc Tc.dn:=⟨18,[.ty .cZ],fun x=>(fun (n:Int)=>0<=n) x.1,[.g4],fun x=>(fun (n:Int)=>⟨#[b8 n]⟩) x.1⟩
theorem JQ (n:Int) (hp:0<=n):(0:Int)<=n/\ByteArray.mk #[UInt8.ofNat n.toNat]=ByteArray.mk #[b8 n]:=by
 (try simp only [LL,LP,Lk,K6])
 (repeat' (first|apply And.intro|intro _))<;>first|assumption|(rw [JK hp])|trace_state
theorem JR:wG.Ok Try.prog tD:=eU eD (Δ:=[]) trivial (Ω:=[]) trivial wG Fb Fc (fun _=>[]) (fun _=>trivial) 0 (fun x=>(fun (n:Int)=>(fun _=>none)) x.1) fun x hp=>Eq.mp (by kernel_rfl) (JQ x.1 hp)
def wH:b7 Tc Tc.dn:=⟨8,[.ty .fj],fun x=>(fun (m:aI)=>True) x.1,[.g4, .cZ],fun x=>(fun (m:aI)=>(bS m,m.aq)) x.1⟩
abbrev wI (m:aI):=(ByteArray.mk #[b8 (m.copy.at_.time / (65536:Int))]++ByteArray.mk #[b8 (m.copy.at_.time / (256:Int)%(256:Int))]++ByteArray.mk #[b8 (m.copy.at_.time%(256:Int))]++ByteArray.mk #[b8 m.copy.at_.who]++ByteArray.mk #[b8 (↑m.copy.data.size:Int)]++m.copy.data)
theorem JS (m:aI):True/\(¬m.aq=(0:Int)->(ByteArray.mk #[],m.aq)=(bS m,m.aq))/\(m.aq=(0:Int)->(0:Int)<=m.kind/\(0:Int)<=m.op/\(↑((ByteArray.mk #[b8 m.kind]).size+(ByteArray.mk #[b8 m.op]).size):Int)<=(9223372036854775807:Int)/\(0:Int)<=m.node/\(↑((ByteArray.mk #[b8 m.kind]++ByteArray.mk #[b8 m.op]).size+(ByteArray.mk #[b8 m.node]).size):Int)<=(9223372036854775807:Int)/\True/\(decide (bK m.kind)=true->((0:Int)<=m.copy.at_.time/\(0:Int)<(65536:Int)/\cx m.copy.at_.time)/\(0:Int)<=m.copy.at_.time / (65536:Int)/\((0:Int)<=m.copy.at_.time/\(0:Int)<(256:Int)/\cx m.copy.at_.time)/\((0:Int)<=m.copy.at_.time / (256:Int)/\(256:Int)≠(0:Int))/\(0:Int)<=m.copy.at_.time / (256:Int)%(256:Int)/\(↑((ByteArray.mk #[b8 (m.copy.at_.time / (65536:Int))]).size+(ByteArray.mk #[b8 (m.copy.at_.time / (256:Int)%(256:Int))]).size):Int)<=(9223372036854775807:Int)/\((0:Int)<=m.copy.at_.time/\(256:Int)≠(0:Int))/\(0:Int)<=m.copy.at_.time%(256:Int)/\(↑((ByteArray.mk #[b8 (m.copy.at_.time / (65536:Int))]++ByteArray.mk #[b8 (m.copy.at_.time / (256:Int)%(256:Int))]).size+(ByteArray.mk #[b8 (m.copy.at_.time%(256:Int))]).size):Int)<=(9223372036854775807:Int)/\(0:Int)<=m.copy.at_.who/\(↑((ByteArray.mk #[b8 (m.copy.at_.time / (65536:Int))]++ByteArray.mk #[b8 (m.copy.at_.time / (256:Int)%(256:Int))]++ByteArray.mk #[b8 (m.copy.at_.time%(256:Int))]).size+(ByteArray.mk #[b8 m.copy.at_.who]).size):Int)<=(9223372036854775807:Int)/\(0:Int)<=(↑m.copy.data.size:Int)/\(↑((ByteArray.mk #[b8 (m.copy.at_.time / (65536:Int))]++ByteArray.mk #[b8 (m.copy.at_.time / (256:Int)%(256:Int))]++ByteArray.mk #[b8 (m.copy.at_.time%(256:Int))]++ByteArray.mk #[b8 m.copy.at_.who]).size+(ByteArray.mk #[b8 (↑m.copy.data.size:Int)]).size):Int)<=(9223372036854775807:Int)/\(↑((ByteArray.mk #[b8 (m.copy.at_.time / (65536:Int))]++ByteArray.mk #[b8 (m.copy.at_.time / (256:Int)%(256:Int))]++ByteArray.mk #[b8 (m.copy.at_.time%(256:Int))]++ByteArray.mk #[b8 m.copy.at_.who]++ByteArray.mk #[b8 (↑m.copy.data.size:Int)]).size+m.copy.data.size):Int)<=(9223372036854775807:Int)/\(↑((ByteArray.mk #[b8 m.kind]++ByteArray.mk #[b8 m.op]++ByteArray.mk #[b8 m.node]).size+(wI m).size):Int)<=(9223372036854775807:Int)/\(ByteArray.mk #[b8 m.kind]++ByteArray.mk #[b8 m.op]++ByteArray.mk #[b8 m.node]++(wI m),(0:Int))=(bS m,m.aq))/\(decide (bK m.kind)=false->(ByteArray.mk #[b8 m.kind]++ByteArray.mk #[b8 m.op]++ByteArray.mk #[b8 m.node],(0:Int))=(bS m,m.aq))):=by
 delta wI
 by_cases hz:m.aq=0
 ·have hb:=JM hz
  (repeat' (first|apply And.intro|intro _))<;>first|assumption|trivial|omega|(simp only [ByteArray.size_append,JL];omega)|(simp only [LL,LP,Lk,K6] at *; rw [JN (by assumption) (by assumption),hz])|(simp only [LL,LP,Lk,K6] at *; rw [JO (by assumption) (by assumption),hz])|simp_all|trace_state
 ·(repeat' (first|apply And.intro|intro _))<;>first|assumption|trivial|omega|(rw [<-JP hz])|(exfalso;omega)|trace_state
theorem JT:wH.Ok Try.prog tD:=eU eD (Δ:=[wG,su,sv]) ⟨JR,AZ,A3,trivial⟩ (Ω:=[]) trivial wH EP ER (fun _=>[]) (fun _=>trivial) 0 (fun x=>(fun (m:aI)=>(fun _=>none)) x.1) fun x hp=>Eq.mp (by kernel_rfl) (JS x.1)
open Go.RowKit
def wJ:b7 Tc Tc.dn:=⟨9,[],fun _=>True,[.iD],fun _=>true⟩
abbrev eE:=(aI.mk (3:Int) (3:Int) (4:Int) (cw.mk (bP.mk (258:Int) (5:Int)) (ByteArray.mk #[(97:UInt8),(98:UInt8)])))
abbrev dG:=(jk (ByteArray.mk #[(1:UInt8),(0:UInt8),(0:UInt8)]++bS eE))
abbrev bz:=(bS eE++ByteArray.mk #[(122:UInt8)])
abbrev jl:=(eE.aq=(0:Int)/\bS eE=ByteArray.mk #[(3:UInt8),(3:UInt8),(4:UInt8),(0:UInt8),(1:UInt8),(2:UInt8),(5:UInt8),(2:UInt8),(97:UInt8),(98:UInt8)])
abbrev jm:=((jl/\aL bz=(0:Int))/\(bR bz).kind=(3:Int)/\(bR bz).op=(3:Int)/\(bR bz).node=(4:Int)/\(bR bz).copy.at_.time=(258:Int)/\(bR bz).copy.at_.who=(5:Int)/\(bR bz).copy.data=ByteArray.mk #[(97:UInt8),(98:UInt8)])
abbrev gA:=((jm/\dk bz=(10:Int))/\aL (ByteArray.mk #[(1:UInt8),(0:UInt8)])=(5:Int))
abbrev dp:=(gd (aI.mk (0:Int) (0:Int) (0:Int) (cw.mk (bP.mk (0:Int) (0:Int)) ByteArray.empty)) dG.fst (Int.toNat (1:Int)))
abbrev nu:=(((gA/\dG.snd=(0:Int))/\(↑dG.fst.length:Int)=(2:Int))/\dp.kind=(3:Int)/\dp.op=(3:Int)/\dp.node=(4:Int)/\dp.copy.at_.time=(258:Int)/\dp.copy.at_.who=(5:Int)/\dp.copy.data=ByteArray.mk #[(97:UInt8),(98:UInt8)]->((gA/\dG.snd=(0:Int))/\(↑dG.fst.length:Int)=(2:Int))/\dp.kind=(3:Int)/\dp.op=(3:Int)/\dp.node=(4:Int)/\dp.copy.at_.time=(258:Int)/\dp.copy.at_.who=(5:Int)/\dp.copy.data=ByteArray.mk #[(97:UInt8),(98:UInt8)])
abbrev nv:=((gA/\dG.snd=(0:Int))/\(↑dG.fst.length:Int)=(2:Int)->(gA/\dG.snd=(0:Int))/\(↑dG.fst.length:Int)=(2:Int))
abbrev wK:=((jl/\aL bz=(0:Int))/\(bR bz).kind=(3:Int)/\(bR bz).op=(3:Int)/\(bR bz).node=(4:Int)/\(bR bz).copy.at_.time=(258:Int)/\(bR bz).copy.at_.who=(5:Int)/\(bR bz).copy.data=ByteArray.mk #[(97:UInt8),(98:UInt8)]->(jl/\aL bz=(0:Int))/\(bR bz).kind=(3:Int)/\(bR bz).op=(3:Int)/\(bR bz).node=(4:Int)/\(bR bz).copy.at_.time=(258:Int)/\(bR bz).copy.at_.who=(5:Int)/\(bR bz).copy.data=ByteArray.mk #[(97:UInt8),(98:UInt8)])
abbrev wL:=(eE.aq=(0:Int)/\bS eE=ByteArray.mk #[(3:UInt8),(3:UInt8),(4:UInt8),(0:UInt8),(1:UInt8),(2:UInt8),(5:UInt8),(2:UInt8),(97:UInt8),(98:UInt8)]->eE.aq=(0:Int)/\bS eE=ByteArray.mk #[(3:UInt8),(3:UInt8),(4:UInt8),(0:UInt8),(1:UInt8),(2:UInt8),(5:UInt8),(2:UInt8),(97:UInt8),(98:UInt8)])
theorem JU  :True/\True/\(↑((bS eE).size+(ByteArray.mk #[(122:UInt8)]).size):Int)<=(9223372036854775807:Int)/\bz.size<=(9223372036854775807:Nat)/\(ByteArray.mk #[(1:UInt8),(0:UInt8)]).size<=(9223372036854775807:Nat)/\(↑((ByteArray.mk #[(1:UInt8),(0:UInt8),(0:UInt8)]).size+(bS eE).size):Int)<=(9223372036854775807:Int)/\(ByteArray.mk #[(1:UInt8),(0:UInt8),(0:UInt8)]++bS eE).size<=(9223372036854775807:Nat)/\(eE.aq=(0:Int)->eE.aq=(0:Int))/\(eE.aq=(0:Int)->eE.aq=(0:Int))/\wL/\wL/\(jl/\aL bz=(0:Int)->jl/\aL bz=(0:Int))/\(jl/\aL bz=(0:Int)->jl/\aL bz=(0:Int))/\(jl/\aL bz=(0:Int)->jl/\aL bz=(0:Int))/\wK/\wK/\(jm/\dk bz=(10:Int)->jm/\dk bz=(10:Int))/\(jm/\dk bz=(10:Int)->jm/\dk bz=(10:Int))/\((jm/\dk bz=(10:Int))/\aL (ByteArray.mk #[(1:UInt8),(0:UInt8)])=(5:Int)->(jm/\dk bz=(10:Int))/\aL (ByteArray.mk #[(1:UInt8),(0:UInt8)])=(5:Int))/\((jm/\dk bz=(10:Int))/\aL (ByteArray.mk #[(1:UInt8),(0:UInt8)])=(5:Int)->(jm/\dk bz=(10:Int))/\aL (ByteArray.mk #[(1:UInt8),(0:UInt8)])=(5:Int))/\(gA/\dG.snd=(0:Int)->gA/\dG.snd=(0:Int))/\(gA/\dG.snd=(0:Int)->gA/\dG.snd=(0:Int))/\(gA/\dG.snd=(0:Int)->gA/\dG.snd=(0:Int))/\nv/\((gA/\dG.snd=(0:Int))/\(↑dG.fst.length:Int)=(2:Int)->(0:Int)<=(1:Int)/\(1:Int)<(↑dG.fst.length:Int))/\nv/\nv/\nv/\nv/\nu/\nu/\nu/\(((gA/\dG.snd=(0:Int))/\(↑dG.fst.length:Int)=(2:Int))/\dp.kind=(3:Int)/\dp.op=(3:Int)/\dp.node=(4:Int)/\dp.copy.at_.time=(258:Int)/\dp.copy.at_.who=(5:Int)/\dp.copy.data=ByteArray.mk #[(97:UInt8),(98:UInt8)]->True)/\nu/\nu/\(eE.aq==(0:Int)&&gD (bS eE) (ByteArray.mk #[(3:UInt8),(3:UInt8),(4:UInt8),(0:UInt8),(1:UInt8),(2:UInt8),(5:UInt8),(2:UInt8),(97:UInt8),(98:UInt8)])&&aL bz==(0:Int)&&((bR bz).kind==(3:Int)&&((bR bz).op==(3:Int)&&((bR bz).node==(4:Int)&&((bR bz).copy.at_.time==(258:Int)&&((bR bz).copy.at_.who==(5:Int)&&gD (bR bz).copy.data (ByteArray.mk #[(97:UInt8),(98:UInt8)]))))))&&dk bz==(10:Int)&&aL (ByteArray.mk #[(1:UInt8),(0:UInt8)])==(5:Int)&&dG.snd==(0:Int)&&(↑dG.fst.length:Int)==(2:Int)&&(dp.kind==(3:Int)&&(dp.op==(3:Int)&&(dp.node==(4:Int)&&(dp.copy.at_.time==(258:Int)&&(dp.copy.at_.who==(5:Int)&&gD dp.copy.data (ByteArray.mk #[(97:UInt8),(98:UInt8)]))))))&&(aI.mk (4:Int) (0:Int) (0:Int) (cw.mk (bP.mk (258:Int) (5:Int)) (ByteArray.mk #[(97:UInt8),(98:UInt8)]))).aq==(1:Int))=true:=by
 delta wL wK nv dp gA jl bz dG nu jm eE
 (repeat' (first|apply And.intro|intro _))<;>first|assumption|trivial|(decide+kernel)|trace_state
theorem JV:wJ.Ok Try.prog tD:=eU eD (Δ:=[wx,wz,wA,wF,sr]) ⟨Jo,Bj,Bl,JJ,wm,trivial⟩ (Ω:=[]) trivial wJ ES ET (fun _=>[]) (fun _=>trivial) 0 (fun _=>fun _=>none) fun x hp=>Eq.mp (by kernel_rfl) (JU )
open Go.RowKit
def JX:LG sm:=LG.via (LG.prod LG.i64 LG.i64)
def JY:LG sn:=LG.via (LG.prod JX LG.str)
def JZ:LG sq:=LG.via (LG.prod LG.i64 (LG.prod LG.i64 (LG.prod LG.i64 JY)))
open Go.RowKit
def Bo:b7 Tc Tc.dn:=⟨3,[.ty .fj],fun x=>(fun (m:aI)=>True) x.1,[.iD],fun x=>(fun (m:aI)=>true) x.1⟩
theorem J0 (m:aI):True/\True/\True/\(true=true->true=true)/\(true=true->True)/\(true=true->true=true)/\(true=true->True)/\(true=true->true=true)/\(true=true->true=true)/\(true=true->true=true)/\(true=true/\m.aq=m.aq->true=true/\m.aq=m.aq)/\(true=true/\m.aq=m.aq->true=true/\m.aq=m.aq)/\(true=true/\m.aq=m.aq->true=true/\m.aq=m.aq)/\((true=true/\m.aq=m.aq)/\bS m=bS m->(true=true/\m.aq=m.aq)/\bS m=bS m)/\((true=true/\m.aq=m.aq)/\bS m=bS m->(true=true/\m.aq=m.aq)/\bS m=bS m)/\((true=true/\m.aq=m.aq)/\bS m=bS m->(true=true/\m.aq=m.aq)/\bS m=bS m)/\(true&&m.aq==m.aq&&gD (bS m) (bS m)&&m.aq==m.aq)=true:=by
 (repeat' (first|apply And.intro|intro _))<;>first|assumption|trivial|omega|simp [qF]|trace_state
theorem J1:Bo.Ok Try.prog tD:=eU eD (Δ:=[wJ,wz,sr,wH,sv]) ⟨JV,Bj,wm,JT,A3,trivial⟩ (Ω:=[]) trivial Bo EN EO (fun _=>[]) (fun _=>trivial) 0 (fun x=>(fun (m:aI)=>(fun _=>none)) x.1) fun x hp=>Eq.mp (by kernel_rfl) (J0 x.1)
theorem WireTells_walk (m:aI) (om:m.ok):Calls Try.prog 3 #[aI.v m] w fun e w'=>e= .returned (.bool true)/\Below w.heap.size w w':=by
 have rm:aC.rep w w.heap.size [I m.kind,I m.op,I m.node,I m.copy.at_.time,I m.copy.at_.who, .string m.copy.data] m:=aI.rep om
 have hf:Fn Try.prog 3 [(tD.en .fj m).av tD.toTE N0] (.v (.bool true)):=J1.2 (m,()) N0 trivial
 exact FR (vs:=[aI.v m]) hf trivial (.cons (IZ eD (t:= .fj) (cs:=[I m.kind,I m.op,I m.node,I m.copy.at_.time,I m.copy.at_.who, .string m.copy.data]) rfl (JZ.av rm)) .nil)
end Go.Proofs.Ytpoikkflcpklgaa
