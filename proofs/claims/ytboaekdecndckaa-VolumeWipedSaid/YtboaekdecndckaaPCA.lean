/- What functions answer (contracts). No condition. -/
import Derived.Test.YtboaekdecndckaaPSxM
import Derived.Test.YtboaekdecndckaaPFieldM
import Derived.Test.YtboaekdecndckaaPSxK
import Derived.Test.YtboaekdecndckaaPPolE
import Derived.Test.YtboaekdecndckaaRows
import Derived.WalkKit
import Derived.Handy
import Derived.ProofKit
import Derived.OpenShut
import Derived.ShutString
import Derived.ChangeOld
import Derived.Below
import Derived.Lib.Hide
import Derived.WalkLawsBesides
import Derived.WalkSpells
import Derived.Deep.QuietTactic
import Derived.BigQuiet
import Derived.Deep.OwnRows
import Derived.BigRegion
set_option linter.unusedSectionVars false
set_option linter.unusedSimpArgs false
set_option linter.unusedVariables false
set_option maxHeartbeats 4000000
set_option maxRecDepth 100000
namespace Go.Proofs.Ytboaekdecndckaa
open Go.RowKit
section
variable {F:Go.Fence} {m:Nat} {P:Program} {ops:Array Oper}
theorem wpIn_exit {Q Q':Exit→Go.Act→World→Prop} (hq:∀e a w,e≠ .normal→Q e a w→Q' e a w) {o:Oper} {a:Go.Act} {w:World} {K:Go.Act→World→Prop} (h:o.wpIn F m P a w K Q):o.wpIn F m P a w K Q':=by
 unfold Oper.wpIn at*
 refine ⟨h.1, ?_⟩
 have hh:=h.2
 generalize (o.semAt F.round a.eval).run P w=r at*
 cases r with
 |ok x w'=>
  cases x<;>simp only [Oper.uponIn] at hh ⊢ <;>
   first
    |exact hh
    |exact ⟨hh.1,CallsIn.mono hh.2 (fun e w'' he=>by cases e<;>first|exact he|exact hq _ _ _ (by simp) he|(obtain ⟨a1,w1,h1⟩:=he;exact ⟨a1,w1,hq _ _ _ (by simp) h1⟩))⟩
    |exact ⟨hh.1,RoundIn.mono hh.2 (fun e w'' he=>by cases e<;>first|exact he|exact hq _ _ _ (by simp) he|(obtain ⟨a1,w1,h1⟩:=he;exact ⟨a1,w1,hq _ _ _ (by simp) h1⟩))⟩
 |halt x w'=>cases x<;>simp only [Oper.uponIn] at hh ⊢ <;>first|exact hh|exact hq _ _ _ (by simp) hh
theorem wpOpIn_exit {Q Q':Exit→Go.Act→World→Prop} (hq:∀e a w,e≠ .normal→Q e a w→Q' e a w) {i:Nat} {a:Go.Act} {w:World} {K:Go.Act→World→Prop} (h:wpOpIn F m P ops Q i K a w):wpOpIn F m P ops Q' i K a w:=by
 unfold wpOpIn at*
 split
 ·rename_i ho;simpa [ho] using h
 ·rename_i o ho
  simp only [ho] at h
  split
  ·rename_i hw;simp only [hw,if_true] at h;exact wpIn_exit hq h
  ·rename_i hw;simp only [hw] at h;exact h
theorem wpOpsIn_app {Q Q':Exit→Go.Act→World→Prop} (hq:∀e a w,e≠ .normal→Q e a w→Q' e a w) {l2:List Nat} (hn:∀a w,Q .normal a w→wpOpsIn F m P ops Q' l2 a w):∀{l1:List Nat} {a:Go.Act} {w:World},wpOpsIn F m P ops Q l1 a w→wpOpsIn F m P ops Q' (l1++l2) a w
 |[],a,w,h=>hn a w h
 |i::l1,a,w,h=>by
  rw [wpOpsIn_cons] at h
  rw [List.cons_append,wpOpsIn_cons]
  exact wpOpIn_exit hq (wpOpIn_mono (fun a w h=>wpOpsIn_app hq hn h) h)
inductive PsRun (P:Program) (n k0:Nat):List (List AOper)→S3→S3→Prop
 |nil {s:S3}:PsRun P n k0 [] s s
 |cons {p:List AOper} {ps:List (List AOper)} {s t u s':S3} (hw:s.Le k0 n t) (h:OpsRun P n k0 p t.σ t.g t.k u.σ u.g u.k) (r:PsRun P n k0 ps u s'):PsRun P n k0 (p::ps) s s'
theorem psRun_sound {rd:Option Nat} {E0:Env} {n k0:Nat} (hk0:∀id,E0.kn id→id<k0) {J:Nat→Prop} {base:Nat} {w0:World} {Q:Exit→Go.Act→World→Prop} {ps:List (List AOper)} {s s':S3} (h:PsRun P n k0 ps s s'):
  ∀(i:Nat) (a:Go.Act) (w:World),(∀j,j<ps.flatten.length→∃op,ops[i+j]? =some op∧∃o,ps.flatten[j]? =some o∧cOper P ops op=some o)→RelS E0 J base w0 n s.σ s.g s.k a w→(∀a w,RelS E0 J base w0 n s'.σ s'.g s'.k a w→Q .normal a w)→wpOpsIn (rnd rd) 0 P ops Q (List.range' i ps.flatten.length) a w:=by
 induction h with
 |nil=>intro i a w _ hr hQ;exact hQ a w hr
 | @cons p ps s t u s' hw h r ih=>
  intro i a w hops hrel hQ
  rw [List.flatten_cons,List.length_append, ←List.range'_append_1]
  rw [List.flatten_cons,List.length_append] at hops
  refine wpOpsIn_app (Q:=fun e a w=>match e with| .normal=>wpOpsIn (rnd rd) 0 P ops Q (List.range' (i+p.length) ps.flatten.length) a w|e=>Q e a w) (fun e a w he hh=>by cases e<;>first|exact hh|exact absurd rfl he) (fun a w hh=>hh) ?_
  refine opsRun_sound hk0 h i a w (fun j hj=> ?_) (hw E0 J base w0 a w hk0 hrel) fun a w hr=> ?_
  ·obtain ⟨op,q1,o,q2,q3⟩:=hops j (by omega)
   exact ⟨op,q1,o,by rwa [List.getElem?_append_left hj] at q2,q3⟩
  ·refine ih (i+p.length) a w (fun j hj=> ?_) hr hQ
   obtain ⟨op,q1,o,q2,q3⟩:=hops (p.length+j) (by omega)
   exact ⟨op,by rw [Nat.add_assoc];exact q1,o,by rwa [List.getElem?_append_right (by omega),Nat.add_sub_cancel_left] at q2,q3⟩
theorem ED.regs {n k0:Nat} {ps:List (List AOper)} {s s':S3} (h:PsRun P n k0 ps s s'):ED P n k0 (.reg ps.flatten none) s .normal s':=by
 intro rd c E0 J base w0 a w hrd hc hk hr
 obtain ⟨id,ops,draw,rfl,h1,h2⟩:=cCode_reg hc
 rcases h2 with ⟨rfl,_⟩|⟨_,d,hd,_⟩
 ·obtain ⟨k1,k2⟩:=cOpers_get h1
  refine wpIn_region ?_
  have hsz:ops.size=ps.flatten.length:=by rw [←k1];simp
  rw [List.range_eq_range',hsz]
  refine psRun_sound (ops:=ops) hk h 0 a w (fun j hj=> ?_) hr fun a' w' hr'=>⟨.normal,s',⟨rfl,rfl⟩,rfl,hr'⟩
  have hjs:j<ops.size:=by omega
  obtain ⟨o,m1,m2⟩:=k2 j ops[j] (by simp [hjs])
  exact ⟨ops[j],by rw [Nat.zero_add];exact Array.getElem?_eq_getElem hjs,o,m1,m2⟩
 ·simp at hd
end
section
variable {τ:Type} {dn:τ→Type} [DecidableEq τ]
inductive LA (τ:Type) (dn:τ→Type) where
 |inv (vs:List (VK τ)) (I:VT dn vs→VT dn vs→Prop) (m:VT dn vs→VT dn vs→Nat)
 |unr (m:Nat)
 |frz (ss:List Nat)
 |spl (i:Nat)
 |cut (vs:List (VK τ)) (I:VT dn vs→VT dn vs→Prop)
 |eq (i:Nat) (z:Int)
 |tkn (i:Nat)
 |unc (f:Nat)
def frzOf (an:Nat→Option (LA τ dn)) (os:List AOper):List Nat:=os.flatMap fun o=>match o.dst with
 |some d=>match an (1000+d) with
  |some (.frz ss)=>ss
  |_=>[]
 |none=>[]
def frzB (an:Nat→Option (LA τ dn)) (os:List AOper):Bool:=(frzOf an os).all fun i=>Nat.blt i 5000
def splOf (an:Nat→Option (LA τ dn)) (os:List AOper):Option Nat:=match os with
 |o::_=>match o.dst with
  |some d=>match an (3000+d) with
   |some (.spl i)=>some i
   |_=>none
  |none=>none
 |[]=>none
def cutB (an:Nat→Option (LA τ dn)) (o:AOper):Bool:=match o.dst with
 |some d=>(match an (11000+d) with|some (.unc _)=>true|_=>false)||(match an (9000+d) with|some (.tkn _)=>true|_=>false)||(match an (7000+d) with|some (.eq _ _)=>true|_=>false)||(match an (5000+d) with|some (.cut _ _)=>true|_=>false)||(match an (1000+d) with|some (.frz _)=>true|_=>false)||(match an (3000+d) with|some (.spl _)=>true|_=>false)
 |none=>false
def pieces (an:Nat→Option (LA τ dn)):List AOper→List (List AOper)
 |[]=>[]
 |o::os=>match pieces an os with
  |[]=>[[o]]
  |[]::ps=>[o]::ps
  |(p::q)::ps=>bif cutB an p then [o]::(p::q)::ps else (o::p::q)::ps
omit [DecidableEq τ] in
theorem pieces_flat (an:Nat→Option (LA τ dn)):∀os:List AOper,(pieces an os).flatten=os
 |[]=>rfl
 |o::os=>by
  have ih:=pieces_flat an os
  unfold pieces
  split
  ·rename_i h;rw [h] at ih;simp at ih;simp [ih]
  ·rename_i h;rw [h] at ih;simp at ih;simp [ih]
  ·rename_i h
   rw [h] at ih
   cases hb:cutB an _ with
   |true=>rw [cond_true,List.flatten_cons,ih];rfl
   |false=>rw [cond_false,List.flatten_cons,List.cons_append, ←List.flatten_cons,ih]
def cutOf (an:Nat→Option (LA τ dn)) (os:List AOper):Option ((vs:List (VK τ))×(VT dn vs→VT dn vs→Prop)):=match os with
 |o::_=>match o.dst with
  |some d=>match an (5000+d) with
   |some (.cut vs I)=>some ⟨vs,I⟩
   |_=>none
  |none=>none
 |[]=>none
def eqOf (an:Nat→Option (LA τ dn)) (os:List AOper):Option (Nat×Int):=match os with
 |o::_=>match o.dst with
  |some d=>match an (7000+d) with
   |some (.eq i z)=>some (i,z)
   |_=>none
  |none=>none
 |[]=>none
def eqW (o:Option (Nat×Int)) (st:SS τ dn) (K:SS τ dn→Prop):Prop:=match o with
 |none=>K st
 |some (i,z)=>match st.gt i with
  |some (.vi x)=>x=z∧K (st.sett i (.vn z))
  |_=>K st
omit [DecidableEq τ] in
theorem eqW_ok {D:TD τ dn} {N:Nms} {o:Option (Nat×Int)} {st:SS τ dn} {s:S3} {K:SS τ dn→Prop} (R:Rel D N st s) (h:eqW o st K):∃st',Rel D N st' s∧st'.rt=st.rt∧st'.rm=st.rm∧st'.nx=st.nx∧K st':=by
 unfold eqW at h
 split at h
 ·exact ⟨st,R,rfl,rfl,rfl,h⟩
 ·rename_i i z
  split at h
  ·rename_i x hx
   obtain ⟨hz,h⟩:=h
   refine ⟨st.sett i (.vn z),⟨fun N' hN=> ?_,R.inj,R.lt,R.ml,R.rl,R.sp⟩,rfl,rfl,rfl,h⟩
   have A:=R.at_ N' hN
   refine ⟨fun j v hv=> ?_,A.rs,A.bl,A.rb,A.ar⟩
   simp only [SS.sett,getS_cons] at hv
   split at hv
   ·rename_i e
    simp only [Option.some.injEq] at hv
    subst hv;subst e
    rw [A.gt hx]
    simp only [SV.av,hz]
   ·exact A.sl j v hv
  ·exact ⟨st,R,rfl,rfl,rfl,h⟩
def tknOf (an:Nat→Option (LA τ dn)) (os:List AOper) (st:SS τ dn):List Nat:=match os with
 |o::_=>match o.dst with
  |some d=>match an (9000+d) with
   |some (.tkn i)=>match st.gt i with
    |some (.own nm _)=>match st.gm nm with
     |some (.bc _ els)=>els.flatMap fun cs=>cs.filterMap ownN
     |_=>[]
    |_=>[]
   |_=>[]
  |none=>[]
 |[]=>[]
def uncOf (an:Nat→Option (LA τ dn)) (os:List AOper):Option Nat:=match os with
 |o::_=>match o.dst with
  |some d=>match an (11000+d) with
   |some (.unc f)=>some f
   |_=>none
  |none=>none
 |[]=>none
def Cfg.wo (C:Cfg τ dn) (o:Option Nat):Cfg τ dn:=⟨C.P,C.D,(match o with
 |none=>C.Δ
 |some f=>C.Δ.filter fun c=> !Nat.beq c.f f),C.Ω,C.fl,C.J,o.isSome⟩
omit [DecidableEq τ] in
theorem Cfg.Ok.wo {C:Cfg τ dn} (h:C.Ok) (o:Option Nat):(C.wo o).Ok:=by
 refine ⟨h.ok,fun c hc=> ?_,h.cno,h.inl⟩
 cases o with
 |none=>exact h.con c hc
 |some f=>exact h.con c (List.mem_filter.1 hc).1
def isBl:VK τ→Bool
 | .bl _ _=>true
 |_=>false
def cutW (D:TD τ dn) (c:Option ((vs:List (VK τ))×(VT dn vs→VT dn vs→Prop))) (st:SS τ dn) (K:SS τ dn→Prop):Prop:=match c with
 |none=>K st
 |some ⟨vs,I⟩=>match getVs D st vs with
  |some x0=>bif vs.all isBl&&okT (lessB st.nx) vs (vs.map (nmV st)) then I x0 x0∧allV vs fun x=>I x0 x→K ⟨st.rt,st.rm,st.t,putM D vs (vs.map (nmV st)) x++st.m,st.nx⟩ else False
  |none=>False
theorem cutW_ok {D:TD τ dn} (ok:TDok D) {N:Nms} {c:Option ((vs:List (VK τ))×(VT dn vs→VT dn vs→Prop))} {st:SS τ dn} {s:S3} {K:SS τ dn→Prop} (R:Rel D N st s) (h:cutW D c st K):∃st',Rel D N st' s∧st'.rt=st.rt∧st'.rm=st.rm∧st'.nx=st.nx∧K st':=by
 unfold cutW at h
 split at h
 ·exact ⟨st,R,rfl,rfl,rfl,h⟩
 ·rename_i vs I
  split at h
  case h_2=>exact h.elim
  rename_i x0 hx
  cases hb:(vs.all isBl&&okT (lessB st.nx) vs (vs.map (nmV st))) with
  |false=>rw [hb] at h;exact h.elim
  |true=>
  rw [hb,cond_true] at h
  rw [Bool.and_eq_true] at hb
  obtain ⟨hbl,hT⟩:=hb
  have hk:=(allV_iff.1 h.2) x0 h.1
  have hTl:(vs.map (nmV st)).length=vs.length:=List.length_map ..
  have cas:∀nm B,getS (putM D vs (vs.map (nmV st)) x0++st.m) nm=some (some B)→(nm,some B)∈putM D vs (vs.map (nmV st)) x0∨getS st.m nm=some (some B):=fun nm B hB=>by
   rw [getS_app] at hB
   cases hq:getS (putM D vs (vs.map (nmV st)) x0) nm with
   |some w=>rw [hq] at hB;simp only [Option.some_or,Option.some.injEq] at hB;subst hB;exact .inl (getS_mem hq)
   |none=>rw [hq] at hB;simp only [Option.none_or] at hB;exact .inr hB
  have old:∀nm B,(nm,some B)∈putM D vs (vs.map (nmV st)) x0→(∃B',st.alv nm B')∧∀t A,B≠ .ar t A:=fun nm B hB=>by
   rcases putM_alive hx hTl nm B hB with ⟨j,v,p1,p2,p3,⟨B',p4⟩,p5⟩|⟨_,⟨B',p4⟩,p5⟩
   case inr=>exact ⟨⟨B',gm_alive p4⟩,p5⟩
   rw [List.getElem?_map,p1] at p2
   simp only [Option.map_some,Option.some.injEq] at p2
   refine ⟨⟨B',by rw [←p2];exact gm_alive p4⟩,fun t A e=> ?_⟩
   have:=List.all_eq_true.1 hbl v (List.mem_of_getElem? p1)
   rw [(p5 t A e).1] at this
   simp [isBl] at this
  have halv:∀nm B,(⟨st.rt,st.rm,st.t,putM D vs (vs.map (nmV st)) x0++st.m,st.nx⟩:SS τ dn).alv nm B→(∃B',st.alv nm B')∧∀t A,B= .ar t A→st.alv nm (.ar t A):=fun nm B hB=>by
   rcases hB with hB|hB
   ·rcases cas nm B hB with h1|h1
    ·obtain ⟨q1,q2⟩:=old nm B h1
     exact ⟨q1,fun t A e=>absurd e (q2 t A)⟩
    ·exact ⟨⟨B, .inl h1⟩,fun t A e=>by subst e;exact .inl h1⟩
   ·exact ⟨⟨B, .inr hB⟩,fun t A e=>by subst e;exact .inr hB⟩
  refine ⟨⟨st.rt,st.rm,st.t,putM D vs (vs.map (nmV st)) x0++st.m,st.nx⟩,⟨fun N' hN=> ?_,R.inj,R.lt,fun nm B hB=> ?_,R.rl,fun t A hA id hid=> ?_⟩,rfl,rfl,rfl,hk⟩
  ·have A:=R.at_ N' hN
   refine ⟨A.sl,A.rs,fun nm B hB=> ?_,A.rb,fun t A' hA id hid=>A.ar t A' ((halv 0 _ hA).2 t A' rfl) id hid⟩
   rcases cas nm B hB with h1|h1
   ·obtain ⟨B',e,q⟩:=vars_blocks ok (getVs_ok ok A hx) nm (some B) h1
    simp only [Option.some.injEq] at e;subst e
    exact q
   ·exact A.bl nm B h1
  ·show nm<st.nx
   have hB':getS (putM D vs (vs.map (nmV st)) x0++st.m) nm=some B:=hB
   rw [getS_app] at hB'
   cases hq:getS (putM D vs (vs.map (nmV st)) x0) nm with
   |some w=>exact lessB_lt (putM_names hT nm w (getS_mem hq))
   |none=>rw [hq] at hB';simp only [Option.none_or] at hB';exact R.ml nm B hB'
  ·have h1:=(halv 0 _ hA).2 t A rfl
   obtain ⟨q1,q2⟩:=R.sp t A h1 id hid
   refine ⟨q1,fun nm B hB=> ?_⟩
   obtain ⟨⟨B',hB'⟩,_⟩:=halv nm B hB
   exact q2 nm B' hB'
def AC.nl:AC→Nat
 | .seq a b=>a.nl+b.nl
 | .cond _ a b=>a.nl+b.nl
 | .block _ a=>a.nl
 | .loop a=>a.nl+1
 |_=>0
def AC.asg:AC→List Nat
 | .seq a b=>a.asg++b.asg
 | .cond _ a b=>a.asg++b.asg
 | .block _ a=>a.asg
 | .loop a=>a.asg
 | .reg os _=>os.filterMap AOper.dst
 |_=>[]
def adopt1 (D:TD τ dn) (st:SS τ dn):VK τ→SS τ dn
 | .ow i t=>match st.gt i with
  |some .emp=>bif Nat.blt 0 (D.sz t)&&(getS st.rt i).isNone then ⟨st.rt,st.rm,(i, .own st.nx (D.sz t))::st.t,(st.nx,some (.bl t []))::st.m,st.nx+1⟩ else st
  |_=>st
 | .so q f t _| .sg q f t _ _=>match st.gm q with
  |some (.bc Q [vs])=>match vs[f]? with
   |some .emp=>bif Nat.blt 0 (D.sz t)&&(Nat.blt 0 Q&&st.rw q) then ⟨st.rt,st.rm,st.t,(q,some (.bc Q [vs.set f (.own st.nx (D.sz t))]))::(st.nx,some (.bl t []))::st.m,st.nx+1⟩ else st
   |_=>st
  |_=>st
 |_=>st
def adopt (D:TD τ dn):SS τ dn→List (VK τ)→SS τ dn
 |st,[]=>st
 |st,v::r=>adopt D (adopt1 D st v) r
def unrW (B:SS τ dn→(Ex→SS τ dn→Prop)→Prop):Nat→SS τ dn→(Ex→SS τ dn→Prop)→Prop
 |0,_,_=>False
 |m+1,st,K=>B st fun e st'=>match e with
  | .normal=>unrW B m st' K
  |e=>K e st'
def okB (vs:List (VK τ)) (T:List Nat) (st:SS τ dn) (p:Nat→Bool) (ft:List (Nat×SV τ dn)) (fm:List (Nat×Option (SB τ dn))):Bool:=
 (st.rt.all fun q=>q.2.fr p&& !hasN (slotsV vs) q.1&&(getS ft q.1).isNone)&&(st.rm.all fun q=>p q.1&&(match q.2 with|some B=>B.fr p|none=>true)&&(getS fm q.1).isNone)&&
 okT (lessB st.nx) vs T&&okT (fun a=> !hasN (movesV vs T) a) (vs.filter fun v=> !isOw v) ((vs.zip T).filterMap fun q=>bif isOw q.1 then none else some q.2)&&nodupB (movesV vs T)
def nextB (vs:List (VK τ)) (T A:List Nat) (nx nx':Nat):Bool:=
 nodupB ((List.range nx).map (mvN vs T A))&&((List.range nx).all fun a=>lessB nx' (mvN vs T A a))&&((vs.zip (T.zip A)).all fun q=>isSl q.1||(Nat.beq (mvN vs T A q.2.1) q.2.2&&(isOw q.1||Nat.beq q.2.1 q.2.2)))&&(fixVs vs).all fun a=>Nat.beq (mvN vs T A a) a
def keepP (vs:List (VK τ)) (T:List Nat) (nx:Nat) (a:Nat):Bool:=lessB nx a&& !hasN (movesV vs T) a
def loopW1 (D:TD τ dn) (fl:Nat) (vs:List (VK τ)) (I:VT dn vs→Prop) (ms:VT dn vs→Nat) (B:SS τ dn→(Ex→SS τ dn→Prop)→Prop) (st:SS τ dn) (K:Ex→SS τ dn→Prop) (T:List Nat) (x0:VT dn vs) (ft:List (Nat×SV τ dn)) (fm:List (Nat×Option (SB τ dn))):Prop:=
 bif okB vs T st (keepP vs T st.nx) ft fm&&(movesV vs T).all (Nat.ble fl) then I x0∧allV vs fun x=>I x→B ⟨ft++st.rt,fm++st.rm,putT D vs T x,putM D vs T x,st.nx⟩ fun e st'=>match e with
  | .normal=>match getVs D st' vs with
   |some x'=>bif nextB vs T (vs.map (nmV st')) st.nx st'.nx then I x'∧ms x'<ms x else False
   |none=>False
  |e=>K e ⟨st.rt,st.rm,st'.t++ft,st'.m++fm,st'.nx⟩
 else False
def loopW (D:TD τ dn) (fl:Nat) (vs:List (VK τ)) (I:VT dn vs→VT dn vs→Prop) (ms:VT dn vs→VT dn vs→Nat) (asg:List Nat) (B:SS τ dn→(Ex→SS τ dn→Prop)→Prop) (st:SS τ dn) (K:Ex→SS τ dn→Prop):Prop:=
 match getVs D st vs with
 |none=>False
 |some x0=>loopW1 D fl vs (I x0) (ms x0) B st K (vs.map (nmV st)) x0 (cleanT (keepP vs (vs.map (nmV st)) st.nx) (slotsV vs++asg) st.t) (cleanM (keepP vs (vs.map (nmV st)) st.nx) (namesV vs (vs.map (nmV st))) st.m)
def mrgC (C:Cfg τ dn) (n:Nat) (c:Cn) (a b:AC) (st:SS τ dn):Option (List Prop×SS τ dn):=
 match a,b with
 | .skip, .reg os none=>mrgS C n c true os st
 | .reg os none, .skip=>mrgS C n c false os st
 |_,_=>none
def wpPs (C:Cfg τ dn) (n:Nat) (an:Nat→Option (LA τ dn)):List (List AOper)→SS τ dn→(SS τ dn→Prop)→Prop
 |[],st,K=>K st
 |p::ps,st,K=>frzW C.D (frzB an (p.take 1)) (st.nmsOf (frzOf an (p.take 1))) st fun st=>splW (splOf an p) st fun st=>cutW C.D (cutOf an p) st fun st=>eqW (eqOf an p) st fun st=>tkW C.D (tknOf an p st) st fun st=>wpOps (C.wo (uncOf an p)) n none true p [] st fun st=>wpPs C n an ps st K
def wpC (C:Cfg τ dn) (n:Nat) (an:Nat→Option (LA τ dn)):AC→Nat→SS τ dn→(Ex→SS τ dn→Prop)→Prop
 | .skip,_,st,K=>K .normal st
 | .ret,_,st,K=>K .ret st
 | .exit i,_,st,K=>K (.exit i) st
 | .seq a b,k,st,K=>wpC C n an a k st fun e st'=>match e with
  | .normal=>wpC C n an b (k+a.nl) st' K
  |e=>K e st'
 | .cond c a b,k,st,K=>match st.ev c with
  |some (.vt true)=>wpC C n an a k st K
  |some (.vt false)=>wpC C n an b (k+a.nl) st K
  |some (.vb c)=>match mrgC C n c a b st with
   |some (O,st')=>obl O (K .normal st')
   |none=>(c.tf true→wpC C n an a k st K)∧(c.tf false→wpC C n an b (k+a.nl) st K)
  |_=>False
 | .block i a,k,st,K=>wpC C n an a k st fun e st'=>K (e.blk i) st'
 | .loop a,k,st,K=>match an k with
  |some (.unr m)=>unrW (wpC C n an a (k+1)) m st K
  |some (.inv vs I ms)=>loopW C.D C.fl vs I ms a.asg (wpC C n an a (k+1)) (adopt C.D st vs) K
  |_=>False
 | .reg os none,_,st,K=>wpPs C n an (pieces an os) st (K .normal)
 | .reg os (some dep),_,st,K=>frzW C.D (frzB an os) (st.nmsOf (frzOf an os)) st fun st=>cutW C.D (cutOf an os) st fun st=>eqW (eqOf an os) st fun st=>wpOps (C.wo (uncOf an os)) n (some dep) (modeB (C.wo (uncOf an os)) (some dep) os) os [] st (K .normal)
 | .rng _ _ _ _,_,_,_=>False
def Ends (C:Cfg τ dn) (n k0:Nat) (ac:AC) (N:Nms) (st:SS τ dn) (s:S3) (K:Ex→SS τ dn→Prop):Prop:=
 ∃e s' N' st',ED C.P n k0 ac s e s'∧Rel C.D N' st' s'∧st'.rt=st.rt∧st'.rm=st.rm∧(N.agree C.fl N'∧C.fl≤st'.nx)∧K e st'
theorem agree_le {n m:Nat} {N N':Nms} (h:N.agree m N') (hn:n≤m):N.agree n N':=⟨fun a ha=>h.1 a (Nat.lt_of_lt_of_le ha hn),h.2⟩
end
section
theorem MemAt.recell {E:Env} {J:Nat→Prop} {base:Nat} {g:Nat→Option Bk} (hm:MemAt E J base g) {q:Nat} {B B':Bk} (hB:g q=some B) (hz:B.sz≠0) (hsz:B'.sz=B.sz) (hl:B.els.length=B'.els.length) (hc:∀(i:Nat) cs ds,B.els[i]? =some cs→B'.els[i]? =some ds→cs.length=ds.length∧∀(j:Nat) c d,cs[j]? =some c→ds[j]? =some d→∀v,Rep E v c→Rep E v d):MemAt E J base (gput g [(q,some B')]):=by
 have old:∀{id X},gput g [(q,some B')] id=some X→(id=q∧X=B')∨(id≠q∧g id=some X):=fun {id X} h=>by
  simp only [gput] at h
  by_cases e:id=q
  ·rw [if_pos e] at h;simp only [Option.some.injEq] at h;exact .inl ⟨e,h.symm⟩
  ·rw [if_neg e] at h;exact .inr ⟨e,h⟩
 have was:∀{id X},gput g [(q,some B')] id=some X→∃Y,g id=some Y:=fun h=>by
  rcases old h with ⟨rfl,_⟩|⟨_,h⟩
  ·exact ⟨_,hB⟩
  ·exact ⟨_,h⟩
 refine ⟨fun id=> ?_,fun id X hg=> ?_,fun id id' b B1 B2 h1 h2 h3 h4=> ?_,fun id b X hg hb=> ?_,hm.low,hm.size,fun id X hg hzz=> ?_,hm.rgb,fun b hb=>⟨(hm.xo b hb).1,(hm.xo b hb).2.1,fun k B1 hk he=>(was hk).elim fun B2 h2=>(hm.xo b hb).2.2 k B2 h2 he⟩⟩
 ·rw [hm.live id]
  simp only [gput]
  by_cases e:id=q
  ·subst e;rw [if_pos rfl,hB];exact ⟨fun _=>⟨_,rfl⟩,fun _=>⟨_,rfl⟩⟩
  ·rw [if_neg e]
 ·rcases old hg with ⟨rfl,rfl⟩|⟨_,h⟩
  ·have h0:=hm.at_ id B hB
   cases hloc:E.loc id with
   |none=>
    rw [hloc] at h0
    have h0':B.els=[]:=h0
    show X.els=[]
    rw [h0'] at hl
    exact List.eq_nil_of_length_eq_zero (by simpa using hl.symm)
   |some b=>
    rw [hloc] at h0
    obtain ⟨h1,⟨hz0,arr,t,h2,h3,h4⟩|⟨hz0,_⟩⟩:=h0
    ·refine .ofCells ⟨h1,arr,t,h2,by rw [←hl,hsz];exact h3,fun i ds hi=> ?_⟩ (by rw [hsz];exact hz0)
     have hil:i<B.els.length:=by rw [hl];exact (List.getElem?_eq_some_iff.1 hi).1
     have hcs:=List.getElem?_eq_getElem hil
     obtain ⟨e1,e2⟩:=hc i _ ds hcs hi
     refine ⟨by rw [←e1,hsz];exact (h4 i _ hcs).1,fun j d hj=> ?_⟩
     have hjl:j<B.els[i].length:=by rw [e1];exact (List.getElem?_eq_some_iff.1 hj).1
     obtain ⟨u,u1,u2,u3⟩:=(h4 i _ hcs).2 j _ (List.getElem?_eq_getElem hjl)
     exact ⟨u,by rw [hsz];exact u1,u2,e2 j _ d (List.getElem?_eq_getElem hjl) hj u u3⟩
    ·exact absurd hz0 hz
  ·exact hm.at_ id X h
 ·obtain ⟨Y1,y1⟩:=was h1
  obtain ⟨Y2,y2⟩:=was h2
  exact hm.apart id id' b Y1 Y2 y1 y2 h3 h4
 ·obtain ⟨Y,y⟩:=was hg
  exact hm.out id b Y y hb
 ·rcases old hg with ⟨rfl,rfl⟩|⟨_,h⟩
  ·rw [←hl];exact hm.len id B hB hz
  ·exact hm.len id X h hzz
theorem S3.le_adoptF {n k0:Nat} {s:S3} {q Q sz f:Nat} {cs:List AV} (hq:s.g q=some ⟨Q,[cs]⟩) (hk:q<s.k) (hf:cs[f]? =some .emp) (hQ:Q≠0) (hz:sz≠0):s.Le k0 n ⟨s.σ,gput (gput s.g [(s.k,some ⟨sz,[]⟩)]) [(q,some ⟨Q,[cs.set f (.own s.k sz 0 0)]⟩)],s.k+1⟩:=by
 intro E0 J base w0 a w hk0 hr
 obtain ⟨E,rfl,hle,hs,hm,hkn,hmk⟩:=hr.ex
 obtain ⟨E',hw,hE,hM,k1,k2,k3,k4,k5⟩:=hm.phantom (fresh:=s.k) (fun hh=>Nat.lt_irrefl _ (hkn _ hh)) sz
 have hq':gput s.g [(s.k,some ⟨sz,[]⟩)] q=some ⟨Q,[cs]⟩:=by simp only [gput];rw [if_neg (by omega)];exact hq
 have hfl:f<cs.length:=(List.getElem?_eq_some_iff.1 hf).1
 have hM2:=hM.recell (B':=⟨Q,[cs.set f (.own s.k sz 0 0)]⟩) hq' hQ rfl rfl (fun i c1 d1 h1 h2=>by
  cases i with
  |succ i=>simp at h1
  |zero=>
   simp only [List.getElem?_cons_zero,Option.some.injEq] at h1 h2
   subst h1;subst h2
   refine ⟨by simp,fun j c d hc hd v hv=> ?_⟩
   rw [List.getElem?_set] at hd
   by_cases e:f=j
   ·subst e
    rw [if_pos rfl,if_pos hfl,Option.some.injEq] at hd
    subst hd
    rw [hf,Option.some.injEq] at hc
    subst hc
    obtain ⟨A,hA⟩:=emp_inv hv
    rw [hA]
    exact .own0 k1 k2 k3 k5 hz
   ·rw [if_neg e,hc,Option.some.injEq] at hd
    subst hd;exact hv)
 refine ⟨⟨E',hw,hle.trans hE,fun j=>(hs j).step hE,hM2,fun id hid=> ?_,hmk.step hE⟩,hr.size,hr.below,hr.gl⟩
 show id<s.k+1
 rcases k4 id hid with h|h
 ·have:=hkn id h;omega
 ·omega
end
section
variable {τ:Type} {dn:τ→Type}
theorem adopt_rel {D:TD τ dn} {n k0:Nat}:∀{vs:List (VK τ)} {N:Nms} {st:SS τ dn} {s:S3},Rel D N st s→∃s' N',s.Le k0 n s'∧Rel D N' (adopt D st vs) s'∧(adopt D st vs).rt=st.rt∧(adopt D st vs).rm=st.rm∧N.agree st.nx N'∧st.nx≤(adopt D st vs).nx
 |[],N,st,s,R=>⟨s,N,S3.Le.refl',R,rfl,rfl,N.agree_refl _,Nat.le_refl _⟩
 |v::r,N,st,s,R=>by
  have one:∃s' N',s.Le k0 n s'∧Rel D N' (adopt1 D st v) s'∧(adopt1 D st v).rt=st.rt∧(adopt1 D st v).rm=st.rm∧N.agree st.nx N'∧st.nx≤(adopt1 D st v).nx:=by
   have no:∃s' N',s.Le k0 n s'∧Rel D N' st s'∧st.rt=st.rt∧st.rm=st.rm∧N.agree st.nx N'∧st.nx≤st.nx:=⟨s,N,S3.Le.refl',R,rfl,rfl,N.agree_refl _,Nat.le_refl _⟩
   have soC:∀(q f:Nat) (t:τ) (cs:List (Nat×Nat)),∃s' N',s.Le k0 n s'∧Rel D N' (adopt1 D st (.so q f t cs)) s'∧(adopt1 D st (.so q f t cs)).rt=st.rt∧(adopt1 D st (.so q f t cs)).rm=st.rm∧N.agree st.nx N'∧st.nx≤(adopt1 D st (.so q f t cs)).nx:=by
    intro q f t cs
    simp only [adopt1]
    split
    ·rename_i Q vs hB
     split
     ·rename_i hf
      cases hb:(Nat.blt 0 (D.sz t)&&(Nat.blt 0 Q&&st.rw q)) with
      |false=>rw [cond_false];exact no
      |true=>
       rw [cond_true]
       rw [Bool.and_eq_true,Bool.and_eq_true] at hb
       have hz:D.sz t≠0:=Nat.ne_of_gt (Nat.le_of_ble_eq_true hb.1)
       have hQ:Q≠0:=Nat.ne_of_gt (Nat.le_of_ble_eq_true hb.2.1)
       obtain ⟨⟨B1,m1⟩,r1⟩:=rw_may hb.2.2
       have hB1:B1= .bc Q [vs]:=by have:=gm_m m1;rw [this] at hB;simpa using hB
       subst hB1
       have hqlt:=R.ml q _ m1
       obtain ⟨g1,g2⟩:=R.here.bl q _ m1
       have R1:=R.go (n:=0) (d:=none) (r:= .new [] (.own st.nx (D.sz t)) (.bl t [])) rfl rfl (val:= .own s.k (D.sz t) 0 0) (ups:=[(s.k,some ⟨D.sz t,[]⟩)]) (fun N' hN=>by
        simp only [SR.v,SV.av]
        have h1:=hN.1 st.nx (Nat.lt_succ_self _)
        simp only [SR.up,Nms.upd,if_true] at h1
        rw [h1.1,h1.2];rfl) (fun N' hN=>rfl)
       have hag:=N.upd_agree st.nx s.k 0
       have eq1:(N.upd st.nx s.k 0).ι q=N.ι q:=(hag.1 q hqlt).1
       have en1:(N.upd st.nx s.k 0).ι st.nx=s.k∧(N.upd st.nx s.k 0).ln st.nx=0:=by simp [Nms.upd]
       have hne:q≠st.nx:=Nat.ne_of_lt hqlt
       have hm1:(SR.put [] (.vo undef) q (.bc Q [vs.set f (.own st.nx (D.sz t))]):SR τ dn).may D (N.upd st.nx s.k 0) ((SR.new [] (.own st.nx (D.sz t)) (.bl t []):SR τ dn).st st none):=by
        refine ⟨⟨.bc Q [vs], ?_, ?_⟩,r1,rfl⟩
        ·show getS ((st.nx,some (.bl t []))::st.m) q=_
         rw [getS_cons,if_neg hne];exact m1
        ·rw [(hag.1 q hqlt).2,g2];rfl
       have avs:∀N':Nms,(N.upd st.nx s.k 0).agree (st.nx+1) N'→(vs.map (SV.av D.toTE N'))=vs.map (SV.av D.toTE N):=fun N' hN=>by
        have A':=R.at_ N' (Nms.agree_trans hag hN (Nat.le_succ _))
        have e1:=(A'.bl q _ m1).1
        rw [((Nms.agree_trans hag hN (Nat.le_succ _)).1 q hqlt).1,g1] at e1
        simpa [SB.av,SV.avM,SV.avL_map] using e1.symm
       have R2:=R1.go (n:=0) (d:=none) (r:= .put [] (.vo undef) q (.bc Q [vs.set f (.own st.nx (D.sz t))])) rfl hm1 (val:= .v undef) (ups:=[(N.ι q,some ⟨Q,[(vs.map (SV.av D.toTE N)).set f (.own s.k (D.sz t) 0 0)]⟩)]) (fun N' hN=>rfl) (fun N' hN=>by
        have hN':(N.upd st.nx s.k 0).agree (st.nx+1) N':=hN
        have h1:=hN'.1 st.nx (Nat.lt_succ_self _)
        have h2:=(hN'.1 q (Nat.lt_succ_of_lt hqlt)).1
        simp only [SR.ups,SB.av,SV.avM,SV.avL_map,List.map_set,SV.av,h1.1,h1.2,h2,en1,eq1,avs N' hN'])
       refine ⟨_,N.upd st.nx s.k 0,S3.le_adoptF (q:=N.ι q) (f:=f) (cs:=vs.map (SV.av D.toTE N)) (sz:=D.sz t) (by rw [g1];simp only [SB.av,SV.avM,SV.avL_map]) (R.lt q hqlt) (by rw [List.getElem?_map,hf];rfl) hQ hz, ?_,rfl,rfl,hag,Nat.le_succ _⟩
       exact R2
     ·exact no
    ·exact no
   cases v with
   |ow i t=>
    simp only [adopt1]
    split
    ·rename_i hg
     cases hb:(Nat.blt 0 (D.sz t)&&(getS st.rt i).isNone) with
     |false=>rw [cond_false];exact no
     |true=>
      rw [cond_true]
      rw [Bool.and_eq_true] at hb
      have hz:D.sz t≠0:=Nat.ne_of_gt (Nat.le_of_ble_eq_true hb.1)
      have hσ:s.σ i= .emp:=R.here.gt hg
      refine ⟨_,N.upd st.nx s.k 0,S3.le_adopt hσ hz, ?_,rfl,rfl,N.upd_agree _ _ _,Nat.le_succ _⟩
      have:=R.go (n:=i+1) (d:=some i) (r:= .new [] (.own st.nx (D.sz t)) (.bl t [])) (by simp only [dstS,Bool.and_eq_true];exact ⟨Nat.ble_eq_true_of_le (Nat.le_refl _),hb.2⟩) rfl (val:= .own s.k (D.sz t) 0 0) (ups:=[(s.k,some ⟨D.sz t,[]⟩)]) (fun N' hN=>by
       simp only [SR.v,SV.av]
       have h1:=hN.1 st.nx (Nat.lt_succ_self _)
       simp only [SR.up,Nms.upd,if_true] at h1
       rw [h1.1,h1.2];rfl) (fun N' hN=>rfl)
      refine cast ?_ this
      congr 2
      funext j
      simp only [putσ,Option.some.injEq]
      by_cases hj:j=i
      ·subst hj;rw [if_pos ⟨rfl,Nat.lt_succ_self _⟩,if_pos rfl]
      ·rw [if_neg (fun hh=>hj hh.1.symm),if_neg hj]
    ·exact no
   |so q f t cs=>exact soC q f t cs
   |sg q f t S fx=>exact soC q f t []
   |_=>exact no
  obtain ⟨s1,N1,h1,h2,h3,h4,h5,h6⟩:=one
  obtain ⟨s2,N2,q1,q2,q3,q4,q5,q6⟩:=adopt_rel (vs:=r) h2
  exact ⟨s2,N2,h1.trans' q1,q2,q3.trans h3,q4.trans h4,Nms.agree_trans h5 q5 h6,Nat.le_trans h6 q6⟩
mutual
theorem SV.fr_mono {p q:Nat→Bool} (h:∀a,p a=true→q a=true):∀(v:SV τ dn),v.fr p=true→v.fr q=true
 | .own nm sz,hv| .part nm sz _ _,hv| .ref nm sz _ _,hv| .mp nm,hv=>by simp only [SV.fr] at hv ⊢; exact h nm hv
 | .agg cs,hv| .tup cs,hv| .fn _ cs,hv| .bf _ cs,hv| .pim cs _,hv=>by simp only [SV.fr] at hv ⊢; exact SV.frL_mono h cs hv
 | .vc _ els,hv=>by simp only [SV.fr] at hv ⊢; exact SV.frM_mono h els hv
 | .vg p c v,hv=>by simp only [SV.fr] at hv ⊢; exact SV.fr_mono h v hv
 | .rw _ _,_| .rwp _ _ _ _,_| .vl _ _,_| .vi _,_| .vn _,_| .vy _,_| .vu _,_| .vw _ _,_| .vb _,_| .vt _,_| .vz _,_| .vo _,_| .emp,_| .dead,_=>by simp only [SV.fr]
theorem SV.frL_mono {p q:Nat→Bool} (h:∀a,p a=true→q a=true):∀(cs:List (SV τ dn)),SV.frL p cs=true→SV.frL q cs=true
 |[],_=>rfl
 |v::r,hv=>by simp only [SV.frL,Bool.and_eq_true] at hv ⊢; exact ⟨SV.fr_mono h v hv.1,SV.frL_mono h r hv.2⟩
theorem SV.frM_mono {p q:Nat→Bool} (h:∀a,p a=true→q a=true):∀(els:List (List (SV τ dn))),SV.frM p els=true→SV.frM q els=true
 |[],_=>rfl
 |v::r,hv=>by simp only [SV.frM,Bool.and_eq_true] at hv ⊢; exact ⟨SV.frL_mono h v hv.1,SV.frM_mono h r hv.2⟩
end
theorem SB.fr_mono {p q:Nat→Bool} (h:∀a,p a=true→q a=true) (B:SB τ dn) (hB:B.fr p=true):B.fr q=true:=by
 cases B with
 |bl t xs=>rfl
 |bc sz els=>simp only [SB.fr] at hB ⊢; exact SV.frM_mono h els hB
 |mc els=>simp only [SB.fr] at hB ⊢; exact SV.frM_mono h els hB
 |ar t A=>rfl
def resS (D:TD τ dn) (st:SS τ dn):List ARes→Option (List Prop×List (SV τ dn))
 |[]=>some ([],[])
 | .tmp i::r=>match st.gt i,resS D st r with
  |some v,some (O,l)=>some (O,v::l)
  |_,_=>none
 | .cell i m::r=>match st.gt i,resS D st r with
  |some a,some (O,l)=>match oLoad D st m a with
   |some (.val O' v)=>some (O'++O,v::l)
   |_=>none
  |_,_=>none
def startS (vs:List (SV τ dn)) (i:Nat):List (Nat×SV τ dn):=match vs with
 |[]=>[]
 |v::r=>(i,v)::startS r (i+1)
theorem startS_get {i:Nat}:∀{vs:List (SV τ dn)} {k:Nat} {v:SV τ dn},getS (startS vs k) i=some v→k≤i∧vs[i - k]? =some v
 |[],k,v,h=>by simp [startS,getS] at h
 |w::r,k,v,h=>by
  simp only [startS,getS_cons] at h
  by_cases hi:i=k
  ·rw [if_pos hi,Option.some.injEq] at h
   subst h;subst hi;exact ⟨Nat.le_refl _,by simp⟩
  ·rw [if_neg hi] at h
   obtain ⟨h1,h2⟩:=startS_get h
   refine ⟨by omega, ?_⟩
   rw [show i - k=(i - (k+1))+1 by omega,List.getElem?_cons_succ];exact h2
theorem loadA_ok {D:TD τ dn} {N:Nms} {st:SS τ dn} {σ:Nat→AV} {g:Nat→Option Bk} (ok:TDok D) (R:RelAt D N st σ g) {m:Option Nat} {i:Nat} {a:SV τ dn} (hx:st.gt i=some a) {O:List Prop} {v:SV τ dn} (h:oLoad D st m a=some (.val O v)) (hO:∀p,p∈O→p):(loadA m (σ i)).run g=some (v.av D.toTE N):=by
 have e:=oLoad_ok ok R (x:= .s i) hx h 0 hO trivial
 have hs:argσ σ (.s i)=σ i:=rfl
 simp only [AO.sem,hs] at e
 unfold loadA
 cases hσ:σ i<;>rw [hσ] at e<;>simp only at e ⊢
 case pim cs o=>
  cases hg:getCells cs o m with
  |none=>rw [hg] at e;simp [RM.opt,RM.run] at e
  |some w=>rw [hg] at e;simp only [Option.map_some,RM.opt,RM.run,Option.some.injEq,Out.done.injEq] at e;simp only [RM.opt,RM.run,e.1];rfl
 case ref id sz j o=>
  simp only [RM.run] at e ⊢
  cases hg:g id with
  |none=>rw [hg] at e;simp at e
  |some B=>
   rw [hg] at e
   simp only at e ⊢
   split at e
   ·rename_i hz
    rw [if_pos hz]
    cases hq:(B.els[j]?.bind fun cs=>getCells cs o m) with
    |none=>rw [hq] at e;simp [RM.opt,RM.run] at e
    |some w=>rw [hq] at e;simp only [Option.map_some,RM.opt,RM.run,Option.some.injEq,Out.done.injEq] at e;simp only [RM.opt,RM.run,e.1];rfl
   ·simp [RM.run] at e
 all_goals simp [RM.run] at e
theorem resS_ok {D:TD τ dn} {N:Nms} {st:SS τ dn} {σ:Nat→AV} {g:Nat→Option Bk} (ok:TDok D) (R:RelAt D N st σ g):∀{res:List ARes} {O:List Prop} {l:List (SV τ dn)},resS D st res=some (O,l)→(∀p,p∈O→p)→(resL σ res).run g=some (l.map (SV.av D.toTE N))
 |[],O,l,h,hO=>by simp only [resS,Option.some.injEq,Prod.mk.injEq] at h;obtain ⟨_,rfl⟩:=h;rfl
 | .tmp i::r,O,l,h,hO=>by
  simp only [resS] at h
  split at h
  ·rename_i v O' l' h1 h2
   simp only [Option.some.injEq,Prod.mk.injEq] at h;obtain ⟨rfl,rfl⟩:=h
   simp only [resL]
   rw [run_bindS (resS_ok ok R h2 hO)]
   simp only [RM.run,List.map_cons,R.gt h1]
  ·simp at h
 | .cell i m::r,O,l,h,hO=>by
  simp only [resS] at h
  split at h
  ·rename_i a O' l' h1 h2
   split at h
   ·rename_i O2 v h3
    simp only [Option.some.injEq,Prod.mk.injEq] at h;obtain ⟨rfl,rfl⟩:=h
    simp only [resL]
    rw [run_bindS (loadA_ok ok R h1 h3 fun p hp=>hO p (List.mem_append_left _ hp)),run_bindS (resS_ok ok R h2 fun p hp=>hO p (List.mem_append_right _ hp))]
    rfl
   ·simp at h
  ·simp at h
theorem snapMS_len {D:TD τ dn} {st:SS τ dn}:∀{l l':List (SV τ dn)},snapMS D st l=some l'→l.length=l'.length
 |[],l',h=>by simp only [snapMS,Option.some.injEq] at h;subst h;rfl
 |v::r,l',h=>by
  simp only [snapMS] at h
  split at h
  ·rename_i x l2 h1 h2
   simp only [Option.some.injEq] at h;subst h;simp [snapMS_len h2]
  ·simp at h
theorem snapR_one {a a':AV} {g:Nat→Option Bk} (h:(snapA a).run g=some a'):(snapR a).run g=some a':=by
 cases a<;>first
  |exact h
  |(simp [snapA,snap1,AV.pu1,RM.run] at h)
theorem en_pu {D:TD τ dn} (ok:TDok D) {N N':Nms} (t:τ) (x:dn t) (h:D.pu t=true):(D.en t x).av D.toTE N=(D.en t x).av D.toTE N':=by
 have e:(D.es t x).map (SV.av D.toTE N)=(D.es t x).map (SV.av D.toTE N'):=by rw [ok.es_av,ok.es_av,ok.pρ _ N'.ρ t x h]
 cases ha:D.ag t with
 |true=>rw [en_ag ha,SV.av,SV.av,SV.avL_map,SV.avL_map,e]
 |false=>
  unfold TD.en
  rw [ha,cond_false]
  cases hs:D.es t x with
  |nil=>rfl
  |cons v r=>rw [hs] at e;simp only [List.map_cons,List.cons.injEq] at e;exact e.1
theorem enR_pu {D:TD τ dn} (ok:TDok D) {N N':Nms}:∀(rs:List τ) (x:RD dn rs),rs.all D.pu=true→(enR D rs x).map (SV.av D.toTE N)=(enR D rs x).map (SV.av D.toTE N')
 |[],_,_=>rfl
 |[t],x,h=>by simp only [List.all_cons,List.all_nil,Bool.and_true] at h;simp only [enR,List.map_cons,List.map_nil];rw [en_pu ok (N:=N) (N':=N') t x h]
 |t::s::r,x,h=>by
  rw [List.all_cons,Bool.and_eq_true] at h
  simp only [enR,List.map_cons];rw [en_pu ok (N:=N) (N':=N') t x.1 h.1,enR_pu ok (N:=N) (N':=N') (s::r) x.2 h.2]
theorem nodupB_inj {f:Nat→Nat}:∀{n m:Nat},nodupB ((List.range' m n).map f)=true→∀a b,m≤a→a<m+n→m≤b→b<m+n→f a=f b→a=b
 |0,m,h,a,b,h1,h2,h3,h4,he=>by omega
 |n+1,m,h,a,b,h1,h2,h3,h4,he=>by
  rw [List.range'_succ,List.map_cons] at h
  simp only [nodupB,Bool.and_eq_true,Bool.not_eq_true'] at h
  have hno:∀c,m+1≤c→c<m+1+n→f m≠f c:=fun c k1 k2 e=>by
   have:hasN ((List.range' (m+1) n).map f) (f m)=true:=hasN_iff.2 (List.mem_map.2 ⟨c,List.mem_range'_1.2 ⟨k1,k2⟩,e.symm⟩)
   rw [this] at h;simp at h
  by_cases ha:a=m<;>by_cases hb:b=m
  ·omega
  ·subst ha;exact absurd he (hno b (by omega) (by omega))
  ·subst hb;exact absurd he.symm (hno a (by omega) (by omega))
  ·exact nodupB_inj h.2 a b (by omega) (by omega) (by omega) (by omega) he
theorem unr_ok {C:Cfg τ dn} {n k0:Nat} {a:AC} {B:SS τ dn→(Ex→SS τ dn→Prop)→Prop} (hB:∀{st:SS τ dn} {K:Ex→SS τ dn→Prop} {N:Nms} {s:S3},Rel C.D N st s→C.fl≤st.nx→B st K→Ends C n k0 a N st s K):
  ∀(m:Nat) {st:SS τ dn} {K:Ex→SS τ dn→Prop} {N:Nms} {s:S3},Rel C.D N st s→C.fl≤st.nx→unrW B m st K→∃e s' j N2 st',Ch C.P n k0 a e s' j s∧Rel C.D N2 st' s'∧st'.rt=st.rt∧st'.rm=st.rm∧(N.agree C.fl N2∧C.fl≤st'.nx)∧K e st'
 |0,st,K,N,s,R,hl,h=>h.elim
 |m+1,st,K,N,s,R,hl,h=>by
  obtain ⟨e,s1,N1,st1,e1,R1,r1,r2,r3,hk⟩:=hB R hl h
  cases e with
  |normal=>
   obtain ⟨e,s2,j,N2,st2,c1,c2,c3,c4,c5,c6⟩:=unr_ok hB m R1 r3.2 hk
   exact ⟨e,s2,j+1,N2,st2, .step e1 S3.Le.refl' c1,c2,c3.trans r1,c4.trans r2,⟨Nms.agree_trans r3.1 c5.1 (Nat.le_refl _),c5.2⟩,c6⟩
  |exit i=>exact ⟨_,s1,0,N1,st1, .last e1 (by simp),R1,r1,r2,r3,hk⟩
  |ret=>exact ⟨_,s1,0,N1,st1, .last e1 (by simp),R1,r1,r2,r3,hk⟩
variable [DecidableEq τ]
theorem S3.le_phantom {n k0:Nat} {s:S3} (sz:Nat):s.Le k0 n ⟨s.σ,gput s.g [(s.k,some ⟨sz,[]⟩)],s.k+1⟩:=by
 intro E0 J base w0 a w hk hr
 obtain ⟨E,rfl,hle,hs,hm,hkn,hmk⟩:=hr.ex
 obtain ⟨E',hw,hE,hM,k1,k2,k3,k4,k5⟩:=hm.phantom (fresh:=s.k) (fun hh=>Nat.lt_irrefl _ (hkn _ hh)) sz
 refine ⟨⟨E',hw,hle.trans hE,fun j=>(hs j).step hE,hM,fun id hid=> ?_,hmk.step hE⟩,hr.size,hr.below,hr.gl⟩
 show id<s.k+1
 rcases k4 id hid with h|h
 ·have:=hkn id h;omega
 ·omega
theorem loop_round {C:Cfg τ dn} (hC:C.Ok) {n k0:Nat} {a:AC} {B:SS τ dn→(Ex→SS τ dn→Prop)→Prop} (hB:∀{st:SS τ dn} {K:Ex→SS τ dn→Prop} {N:Nms} {s:S3},Rel C.D N st s→C.fl≤st.nx→B st K→Ends C n k0 a N st s K) {vs:List (VK τ)} {I:VT dn vs→Prop} {ms:VT dn vs→Nat}
  {st:SS τ dn} {K:Ex→SS τ dn→Prop} {T:List Nat} {ft:List (Nat×SV τ dn)} {fm:List (Nat×Option (SB τ dn))} (hT:vs.map (nmV st)=T) (hTl:T.length=vs.length) (kp:∀{a},keepP vs T st.nx a=true→a<st.nx∧¬a∈movesV vs T) (hle:∀a,keepP vs T st.nx a=true→lessB st.nx a=true)
  (aT:∀{i v},getS (ft++st.rt) i=some v→(getS ft i=some v∨getS st.rt i=some v)∧v.fr (keepP vs T st.nx)=true∧¬i∈slotsV vs) (aM:∀{i v},getS (fm++st.rm) i=some v→(getS fm i=some v∨getS st.rm i=some v)∧(∀B,v=some B→B.fr (keepP vs T st.nx)=true)∧keepP vs T st.nx i=true)
  (fT:∀{i v},getS ft i=some v→getS st.t i=some v∧v.fr (keepP vs T st.nx)=true∧¬i∈slotsV vs) (fM:∀{i v},getS fm i=some v→getS st.m i=some v∧(∃B,v=some B∧B.fr (keepP vs T st.nx)=true)∧keepP vs T st.nx i=true)
  (rT:∀{i v},getS st.rt i=some v→v.fr (keepP vs T st.nx)=true∧¬i∈slotsV vs∧getS ft i=none) (rM:∀{i v},getS st.rm i=some v→keepP vs T st.nx i=true∧(∀B,v=some B→B.fr (keepP vs T st.nx)=true)∧getS fm i=none) (o3:okT (lessB st.nx) vs T=true) (hfl:C.fl≤st.nx) (hmv:(movesV vs T).all (Nat.ble C.fl)=true)
  {x:VT dn vs} {N:Nms} {s:S3} (h:B ⟨ft++st.rt,fm++st.rm,putT C.D vs T x,putM C.D vs T x,st.nx⟩ fun e st'=>match e with
   | .normal=>match getVs C.D st' vs with
    |some x'=>bif nextB vs T (vs.map (nmV st')) st.nx st'.nx then I x'∧ms x'<ms x else False
    |none=>False
   |e=>K e ⟨st.rt,st.rm,st'.t++ft,st'.m++fm,st'.nx⟩) (R:Rel C.D N ⟨ft++st.rt,fm++st.rm,putT C.D vs T x,putM C.D vs T x,st.nx⟩ s)
  (next:∀x',ms x'<ms x→I x'→∀N2 s2,Rel C.D N2 ⟨ft++st.rt,fm++st.rm,putT C.D vs T x',putM C.D vs T x',st.nx⟩ s2→∃e s' j N3 st',Ch C.P n k0 a e s' j s2∧Rel C.D N3 st' s'∧st'.rt=st.rt∧st'.rm=st.rm∧(N2.agree C.fl N3∧C.fl≤st'.nx)∧K e st'):
  ∃e s' j N2 st',Ch C.P n k0 a e s' j s∧Rel C.D N2 st' s'∧st'.rt=st.rt∧st'.rm=st.rm∧(N.agree C.fl N2∧C.fl≤st'.nx)∧K e st':=by
 obtain ⟨e,s1,N1,st1,e1,R1,hr1,hr2,hr3,hk⟩:=hB R hfl h
 have leave:e≠ .normal→K e ⟨st.rt,st.rm,st1.t++ft,st1.m++fm,st1.nx⟩→∃e s' j N2 st',Ch C.P n k0 a e s' j s∧Rel C.D N2 st' s'∧st'.rt=st.rt∧st'.rm=st.rm∧(N.agree C.fl N2∧C.fl≤st'.nx)∧K e st':=fun hne hk=>by
  have fm2:∀i v,getS fm i=some v→getS st1.rm i=some v:=fun i v h=>by rw [hr2];show getS (fm++st.rm) i=_;rw [getS_app,h];rfl
  have rm2:∀i v,getS st.rm i=some v→getS st1.rm i=some v:=fun i v h=>by rw [hr2];show getS (fm++st.rm) i=_;rw [getS_app,(rM h).2.2];exact h
  have halv:∀a X,(⟨st.rt,st.rm,st1.t++ft,st1.m++fm,st1.nx⟩:SS τ dn).alv a X→st1.alv a X:=fun a X hX=>by
   rcases hX with hX|hX
   ·have hX':getS (st1.m++fm) a=some (some X):=hX
    rw [getS_app] at hX'
    cases hq:getS st1.m a with
    |some w=>rw [hq] at hX';simp only [Option.some_or,Option.some.injEq] at hX';subst hX';exact .inl hq
    |none=>rw [hq] at hX';simp only [Option.none_or] at hX';exact .inr (fm2 a _ hX')
   ·exact .inr (rm2 a _ hX)
  refine ⟨e,s1,0,N1,⟨st.rt,st.rm,st1.t++ft,st1.m++fm,st1.nx⟩, .last e1 hne,⟨fun N' hN=> ?_,R1.inj,R1.lt,fun nm B h=> ?_,fun nm B h=> ?_,fun t A h id hid=>⟨(R1.sp t A (halv 0 _ h) id hid).1,fun nm B hB=>(R1.sp t A (halv 0 _ h) id hid).2 nm B (halv nm B hB)⟩⟩,rfl,rfl,hr3,hk⟩
  ·have A:=R1.at_ N' hN
   have ft2:∀i v,getS ft i=some v→getS st1.rt i=some v:=fun i v h=>by rw [hr1];show getS (ft++st.rt) i=_;rw [getS_app,h];rfl
   have rt2:∀i v,getS st.rt i=some v→getS st1.rt i=some v:=fun i v h=>by rw [hr1];show getS (ft++st.rt) i=_;rw [getS_app,(rT h).2.2];exact h
   refine ⟨fun i v h=> ?_,fun i v h=>A.rs i v (rt2 i v h),fun nm B h=> ?_,fun nm B h=>A.rb nm B (rm2 nm _ h),fun t A' h id hid=>A.ar t A' (halv 0 _ h) id hid⟩
   ·have h':getS (st1.t++ft) i=some v:=h
    rw [getS_app] at h'
    cases hq:getS st1.t i with
    |some w=>rw [hq] at h';simp only [Option.some_or,Option.some.injEq] at h';subst h';exact A.sl i _ hq
    |none=>rw [hq] at h';simp only [Option.none_or] at h';exact A.rs i v (ft2 i v h')
   ·have h':getS (st1.m++fm) nm=some (some B):=h
    rw [getS_app] at h'
    cases hq:getS st1.m nm with
    |some w=>rw [hq] at h';simp only [Option.some_or,Option.some.injEq] at h';subst h';exact A.bl nm _ hq
    |none=>rw [hq] at h';simp only [Option.none_or] at h';exact A.rb nm B (fm2 nm _ h')
  ·have h':getS (st1.m++fm) nm=some B:=h
   rw [getS_app] at h'
   cases hq:getS st1.m nm with
   |some w=>exact R1.ml nm w hq
   |none=>rw [hq] at h';simp only [Option.none_or] at h';exact R1.rl nm B (by rw [hr2];show getS (fm++st.rm) nm=_;rw [getS_app,h'];rfl)
  ·exact R1.rl nm B (by rw [hr2];show getS (fm++st.rm) nm=_;rw [getS_app,(rM h).2.2];exact h)
 cases e with
 |exit i=>exact leave (by simp) hk
 |ret=>exact leave (by simp) hk
 |normal=>
  simp only at hk
  split at hk
  case h_2=>exact hk.elim
  rename_i x' hx'
  generalize hA:vs.map (nmV st1)=A at hk
  cases hn:nextB vs T A st.nx st1.nx with
  |false=>rw [hn] at hk;exact hk.elim
  |true=>
   rw [hn,cond_true] at hk
   unfold nextB at hn
   simp only [Bool.and_eq_true] at hn
   obtain ⟨⟨⟨n1,n2⟩,n3⟩,n4⟩:=hn
   have hfx:∀a,a∈fixVs vs→mvN vs T A a=a:=fun a ha=>Nat.eq_of_beq_eq_true (List.all_eq_true.1 n4 a ha)
   have hV:=getVs_ok hC.ok R1.here hx'
   rw [hA] at hV
   have hAl:A.length=vs.length:=by rw [←hA,List.length_map]
   have hfl':∀c,c<st.nx→mvN vs T A c<st1.nx:=fun c hc=>lessB_lt ((List.all_eq_true.1 n2) c (List.mem_range.2 hc))
   have hinj:∀c d,c<st.nx→d<st.nx→mvN vs T A c=mvN vs T A d→c=d:=fun c d hc hd he=>by
    rw [List.range_eq_range'] at n1
    exact nodupB_inj n1 c d (Nat.zero_le _) (by omega) (Nat.zero_le _) (by omega) he
   obtain ⟨N2,hN2⟩:∃N2:Nms,N2=⟨fun c=>N1.ι (mvN vs T A c),fun c=>N1.ln (mvN vs T A c),N1.ρ⟩:=⟨_,rfl⟩
   have hsame:N1.same (keepP vs T st.nx) N2:=by
    refine ⟨fun c hc=> ?_,by rw [hN2]⟩
    rw [hN2];simp only [mvN_not (kp hc).2,and_self]
   have hV2:VarsAt C.D N2 s1.σ s1.g vs T x':=by
    refine vars_move C.D (by rw [hN2]) hC.ok hV (by rw [hTl,hAl]) (fun j v c m h0 h1 h2=> ?_) fun a ha=>by rw [hN2];simp only [hfx a ha,and_self]
    have hz:(v,c,m)∈vs.zip (T.zip A):=by
     refine List.mem_of_getElem? (i:=j) ?_
     rw [List.getElem?_zip_eq_some,List.getElem?_zip_eq_some]
     exact ⟨h0,h1,h2⟩
    have:=(List.all_eq_true.1 n3) _ hz
    simp only [Bool.or_eq_true,Bool.and_eq_true] at this
    rcases this with h|⟨h,h'⟩
    ·exact .inl h
    ·have e:=Nat.eq_of_beq_eq_true h
     refine .inr ⟨by rw [hN2];simp only [e],by rw [hN2];simp only [e], ?_⟩
     rcases h' with h'|h'
     ·exact .inl h'
     ·exact .inr (Nat.eq_of_beq_eq_true h')
   obtain ⟨s2,w2,R2⟩:=tmpl_rel (n:=n) (k0:=k0) hC.ok (rt:=ft++st.rt) (rm:=fm++st.rm) (nx:=st.nx) hV2 o3 hTl (fun i v h=>by
     obtain ⟨_,h2,h3⟩:=aT h
     refine ⟨?_,SV.fr_mono hle v h2,h3⟩
     rw [fr_av hsame v h2]
     exact R1.here.rs i v (by rw [hr1];exact h)) (fun nm B h=>by
     obtain ⟨_,h2,h3⟩:=aM h
     refine ⟨(kp h3).1,fun B' hB'=> ?_⟩
     subst hB'
     obtain ⟨q1,q2⟩:=R1.here.rb nm B' (by rw [hr2];exact h)
     obtain ⟨p1,p2⟩:=hsame.1 nm h3
     exact ⟨by rw [p1,frB_av hsame B' (h2 B' rfl)];exact q1,by rw [p2];exact q2,SB.fr_mono hle B' (h2 B' rfl)⟩)
    (fun c d hc hd he=>hinj c d hc hd (R1.inj _ _ (hfl' c hc) (hfl' d hd) (by rw [hN2] at he;exact he))) (fun c hc=>by rw [hN2];exact R1.lt _ (hfl' c hc))
    (fun t Ar h id hid=>by
     have halv:∀nm B,(⟨ft++st.rt,fm++st.rm,putT C.D vs T x',putM C.D vs T x',st.nx⟩:SS τ dn).alv nm B→(∃B',st1.alv (mvN vs T A nm) B')∧(∀t Ar,nm=0→B= .ar t Ar→st1.alv 0 (.ar t Ar)):=fun nm B hB=>by
      rcases hB with hB|hB
      ·rcases putM_alive hx' hTl nm B (getS_mem hB) with ⟨j,v,p1,p2,p3,⟨B',p4⟩,p5⟩|⟨hf,⟨B',p4⟩,p5⟩
       case inr=>exact ⟨⟨B',by rw [hfx nm hf];exact gm_alive p4⟩,fun t Ar h0 he=>absurd he (p5 t Ar)⟩
       have hj:A[j]? =some (nmV st1 v):=by rw [←hA,List.getElem?_map,p1];rfl
       have hz:(v,nm,nmV st1 v)∈vs.zip (T.zip A):=by
        refine List.mem_of_getElem? (i:=j) ?_
        rw [List.getElem?_zip_eq_some,List.getElem?_zip_eq_some]
        exact ⟨p1,p2,hj⟩
       have:=(List.all_eq_true.1 n3) _ hz
       simp only [Bool.or_eq_true,Bool.and_eq_true] at this
       have e:=Nat.eq_of_beq_eq_true (this.resolve_left (by rw [p3];simp)).1
       refine ⟨⟨B', ?_⟩,fun t Ar h0 he=> ?_⟩
       ·show st1.alv (mvN vs T A nm) B'
        rw [e];exact gm_alive p4
       ·exact gm_alive (p5 t Ar he).2
      ·have hB':getS (fm++st.rm) nm=some (some B):=hB
       obtain ⟨_,_,h3⟩:=aM hB'
       refine ⟨⟨B, ?_⟩,fun t Ar h0 he=> ?_⟩
       ·rw [mvN_not (kp h3).2];exact .inr (by rw [hr2];exact hB')
       ·subst h0;subst he;exact .inr (by rw [hr2];exact hB')
     have h1:=(halv 0 _ h).2 t Ar rfl rfl
     obtain ⟨q1,q2⟩:=R1.sp t Ar h1 id hid
     have q3:=R1.here.ar t Ar h1 id hid
     refine ⟨by rw [hN2];exact q3,q1,fun nm B hB=> ?_⟩
     obtain ⟨⟨B',hB'⟩,_⟩:=halv nm B hB
     rw [hN2];exact q2 _ B' hB')
   obtain ⟨e,s',j,N3,st',c1,c2,c3,c4,c5,c6⟩:=next x' hk.2 hk.1 N2 s2 R2
   have hag:N1.agree C.fl N2:=⟨fun c hc=>by
    have hno:¬c∈movesV vs T:=fun hm=>absurd (Nat.le_of_ble_eq_true (List.all_eq_true.1 hmv c hm)) (by omega)
    rw [hN2];simp only [mvN_not hno,and_self],by rw [hN2]⟩
   exact ⟨e,s',j+1,N3,st', .step e1 w2 c1,c2,c3,c4,⟨Nms.agree_trans (Nms.agree_trans hr3.1 hag (Nat.le_refl _)) c5.1 (Nat.le_refl _),c5.2⟩,c6⟩
theorem loop_ok {C:Cfg τ dn} (hC:C.Ok) {n k0:Nat} {a:AC} {B:SS τ dn→(Ex→SS τ dn→Prop)→Prop} (hB:∀{st:SS τ dn} {K:Ex→SS τ dn→Prop} {N:Nms} {s:S3},Rel C.D N st s→C.fl≤st.nx→B st K→Ends C n k0 a N st s K) {vs:List (VK τ)} {I0:VT dn vs→VT dn vs→Prop} {ms0:VT dn vs→VT dn vs→Nat} {asg:List Nat}
  {st:SS τ dn} {K:Ex→SS τ dn→Prop} {N:Nms} {s:S3} (R:Rel C.D N st s) (hfl:C.fl≤st.nx) (h:loopW C.D C.fl vs I0 ms0 asg B st K):Ends C n k0 (.loop a) N st s K:=by
 unfold loopW at h
 split at h
 case h_1=>exact h.elim
 rename_i x0 hx0
 generalize hI:I0 x0=I at h
 generalize hms:ms0 x0=ms at h
 generalize hT:vs.map (nmV st)=T at h
 generalize hft:cleanT (keepP vs T st.nx) (slotsV vs++asg) st.t=ft at h
 generalize hfm:cleanM (keepP vs T st.nx) (namesV vs T) st.m=fm at h
 unfold loopW1 at h
 cases hok:okB vs T st (keepP vs T st.nx) ft fm&&(movesV vs T).all (Nat.ble C.fl) with
 |false=>rw [hok] at h;exact h.elim
 |true=>
 rw [hok,cond_true] at h
 rw [Bool.and_eq_true] at hok
 obtain ⟨hok,hmv⟩:=hok
 obtain ⟨hI0,hall⟩:=h
 rw [allV_iff] at hall
 unfold okB at hok
 simp only [Bool.and_eq_true] at hok
 obtain ⟨⟨⟨⟨o1,o2⟩,o3⟩,o4⟩,o5⟩:=hok
 have hTl:T.length=vs.length:=by rw [←hT,List.length_map]
 have kp:∀{a},keepP vs T st.nx a=true→a<st.nx∧¬a∈movesV vs T:=fun {a} h=>by
  unfold keepP at h
  rw [Bool.and_eq_true] at h
  refine ⟨lessB_lt h.1,fun hm=> ?_⟩
  have:=h.2
  rw [hasN_iff.2 hm] at this;simp at this
 have hle:∀a,keepP vs T st.nx a=true→lessB st.nx a=true:=fun a h=>by
  unfold keepP at h;rw [Bool.and_eq_true] at h;exact h.1
 have fT:∀{i v},getS ft i=some v→getS st.t i=some v∧v.fr (keepP vs T st.nx)=true∧¬i∈slotsV vs:=fun {i v} h=>by
  rw [←hft] at h
  obtain ⟨h1,h2,h3⟩:=cleanT_ok h
  exact ⟨h1,h2,fun hh=>h3 (List.mem_append_left _ hh)⟩
 have fM:∀{i v},getS fm i=some v→getS st.m i=some v∧(∃B,v=some B∧B.fr (keepP vs T st.nx)=true)∧keepP vs T st.nx i=true:=fun {i v} h=>by
  rw [←hfm] at h
  obtain ⟨h1,h2,h3,_⟩:=cleanM_ok h
  exact ⟨h1,h2,h3⟩
 have rT:∀{i v},getS st.rt i=some v→v.fr (keepP vs T st.nx)=true∧¬i∈slotsV vs∧getS ft i=none:=fun {i v} h=>by
  have:=(List.all_eq_true.1 o1) _ (getS_mem h)
  simp only [Bool.and_eq_true,Bool.not_eq_true',Option.isNone_iff_eq_none] at this
  exact ⟨this.1.1,fun hh=>by rw [hasN_iff.2 hh] at this;simp at this,this.2⟩
 have rM:∀{i v},getS st.rm i=some v→keepP vs T st.nx i=true∧(∀B,v=some B→B.fr (keepP vs T st.nx)=true)∧getS fm i=none:=fun {i v} h=>by
  have:=(List.all_eq_true.1 o2) _ (getS_mem h)
  simp only [Bool.and_eq_true,Option.isNone_iff_eq_none] at this
  exact ⟨this.1.1,fun B hB=>by subst hB;exact this.1.2,this.2⟩
 have aT:∀{i v},getS (ft++st.rt) i=some v→(getS ft i=some v∨getS st.rt i=some v)∧v.fr (keepP vs T st.nx)=true∧¬i∈slotsV vs:=fun {i v} h=>by
  rw [getS_app] at h
  cases hf:getS ft i with
  |some w=>rw [hf] at h;simp only [Option.some_or,Option.some.injEq] at h;subst h;exact ⟨.inl rfl,(fT hf).2⟩
  |none=>rw [hf] at h;simp only [Option.none_or] at h;exact ⟨.inr h,(rT h).1,(rT h).2.1⟩
 have aM:∀{i v},getS (fm++st.rm) i=some v→(getS fm i=some v∨getS st.rm i=some v)∧(∀B,v=some B→B.fr (keepP vs T st.nx)=true)∧keepP vs T st.nx i=true:=fun {i v} h=>by
  rw [getS_app] at h
  cases hf:getS fm i with
  |some w=>
   rw [hf] at h;simp only [Option.some_or,Option.some.injEq] at h;subst h
   obtain ⟨h1,⟨B,h2,h3⟩,h4⟩:=fM hf
   exact ⟨.inl rfl,fun B' hB'=>by rw [h2,Option.some.injEq] at hB';subst hB';exact h3,h4⟩
  |none=>rw [hf] at h;simp only [Option.none_or] at h;exact ⟨.inr h,(rM h).2.1,(rM h).1⟩
 -- the rounds
 have rounds:∀(m:Nat) (x:VT dn vs) (N':Nms) (s0:S3),ms x≤m→I x→Rel C.D N' ⟨ft++st.rt,fm++st.rm,putT C.D vs T x,putM C.D vs T x,st.nx⟩ s0→
   ∃e s' j N2 st',Ch C.P n k0 a e s' j s0∧Rel C.D N2 st' s'∧st'.rt=st.rt∧st'.rm=st.rm∧(N'.agree C.fl N2∧C.fl≤st'.nx)∧K e st':=by
  intro m
  induction m with
  |zero=>
   intro x N' s0 hm hI R0
   exact loop_round hC hB hT hTl kp hle aT aM fT fM rT rM o3 hfl hmv (hall x hI) R0 fun x' hlt=>absurd hlt (by omega)
  |succ m ih=>
   intro x N' s0 hm hI R0
   exact loop_round hC hB hT hTl kp hle aT aM fT fM rT rM o3 hfl hmv (hall x hI) R0 fun x' hlt hI' N2 s2 R2=>ih x' N2 s2 (by omega) hI' R2
 have hV:=getVs_ok hC.ok R.here hx0
 rw [hT] at hV
 obtain ⟨s1,w1,R1⟩:=tmpl_rel (n:=n) (k0:=k0) hC.ok (rt:=ft++st.rt) (rm:=fm++st.rm) hV o3 hTl (fun i v h=>by
   obtain ⟨h1,h2,h3⟩:=aT h
   refine ⟨?_,SV.fr_mono hle v h2,h3⟩
   rcases h1 with h1|h1
   ·exact R.here.sl i v (fT h1).1
   ·exact R.here.rs i v h1) (fun nm B h=>by
   obtain ⟨h1,h2,h3⟩:=aM h
   refine ⟨(kp h3).1,fun B' hB'=> ?_⟩
   subst hB'
   have:s.g (N.ι nm)=some (B'.av C.D.toTE N)∧N.ln nm=B'.len:=by
    rcases h1 with h1|h1
    ·exact R.here.bl nm B' (fM h1).1
    ·exact R.here.rb nm B' h1
   exact ⟨this.1,this.2,SB.fr_mono hle B' (h2 B' rfl)⟩) R.inj R.lt
   (fun t Ar h id hid=>by
    have halv:∀nm B,(⟨ft++st.rt,fm++st.rm,putT C.D vs T x0,putM C.D vs T x0,st.nx⟩:SS τ dn).alv nm B→(∃B',st.alv nm B')∧(∀t Ar,nm=0→B= .ar t Ar→st.alv 0 (.ar t Ar)):=fun nm B hB=>by
     rcases hB with hB|hB
     ·rcases putM_alive hx0 hTl nm B (getS_mem hB) with ⟨j,v,p1,p2,p3,⟨B',p4⟩,p5⟩|⟨hf,⟨B',p4⟩,p5⟩
      case inr=>exact ⟨⟨B',gm_alive p4⟩,fun t Ar h0 he=>absurd he (p5 t Ar)⟩
      have hj:nmV st v=nm:=by
       have:T[j]? =some (nmV st v):=by rw [←hT,List.getElem?_map,p1];rfl
       rw [p2] at this;simpa using this.symm
      exact ⟨⟨B',hj▸gm_alive p4⟩,fun t Ar h0 he=>gm_alive (p5 t Ar he).2⟩
     ·have hB':getS (fm++st.rm) nm=some (some B):=hB
      have:st.alv nm B:=by
       rcases (aM hB').1 with h1|h1
       ·exact .inl (fM h1).1
       ·exact .inr h1
      exact ⟨⟨B,this⟩,fun t Ar h0 he=>by subst h0;subst he;exact this⟩
    have h1:=(halv 0 _ h).2 t Ar rfl rfl
    obtain ⟨q1,q2⟩:=R.sp t Ar h1 id hid
    exact ⟨R.here.ar t Ar h1 id hid,q1,fun nm B hB=>by obtain ⟨⟨B',hB'⟩,_⟩:=halv nm B hB;exact q2 nm B' hB'⟩)
 obtain ⟨e,s',j,N2,st',c1,c2,c3,c4,c5,c6⟩:=rounds (ms x0) x0 N s1 (Nat.le_refl _) hI0 R1
 exact ⟨e,s',N2,st',ED.weak w1 (ED.loop c1),c2,c3,c4,c5,c6⟩
theorem wpPs_ok {C:Cfg τ dn} (hC:C.Ok) {n k0:Nat} {an:Nat→Option (LA τ dn)}:∀(ps:List (List AOper)) {st:SS τ dn} {K:SS τ dn→Prop} {N:Nms} {s:S3},Rel C.D N st s→wpPs C n an ps st K→
  ∃s' N' st',PsRun C.P n k0 ps s s'∧Rel C.D N' st' s'∧(st'.rt=st.rt∧st'.rm=st.rm)∧N.agree st.nx N'∧st.nx≤st'.nx∧K st'
 |[],st,K,N,s,R,h=>⟨s,N,st, .nil,R,⟨rfl,rfl⟩,N.agree_refl _,Nat.le_refl _,h⟩
 |p::ps,st,K,N,s,R,h=>by
  simp only [wpPs] at h
  obtain ⟨s1,st1,w1,R1,z1,z2,z3,h⟩:=frzW_ok (n:=n) (k0:=k0) hC.ok _ R h
  obtain ⟨st2',R2',y1',y2',y3',h⟩:=splW_ok R1 h
  obtain ⟨st2'',R2'',y1'',y2'',y3'',h⟩:=cutW_ok hC.ok R2' h
  obtain ⟨st2e,R2e,y1e,y2e,y3e,h⟩:=eqW_ok R2'' h
  obtain ⟨st2,R2,y1,y2,y3,h⟩:=tkW_ok hC.ok R2e h
  rw [y1e,y1'',y1'] at y1;rw [y2e,y2'',y2'] at y2;rw [y3e,y3'',y3'] at y3
  obtain ⟨s3,N3,st3,e3,R3,r1,r2,r3,h⟩:=wpOps_seq (hC.wo (uncOf an p)) (k0:=k0) R2 h
  obtain ⟨s4,N4,st4,e4,R4,q1,q2,q3,h⟩:=wpPs_ok hC (k0:=k0) ps R3 h
  rw [y1,y2,z1,z2] at r1
  rw [y3,z3] at r2 r3
  exact ⟨s4,N4,st4, .cons w1 e3 e4,R4,⟨q1.1.trans r1.1,q1.2.trans r1.2⟩,Nms.agree_trans r2 q2 r3,Nat.le_trans r3 q3,h⟩
theorem wpC_ok {C:Cfg τ dn} (hC:C.Ok) {n k0:Nat} {an:Nat→Option (LA τ dn)}:∀(ac:AC) (k:Nat) {st:SS τ dn} {K:Ex→SS τ dn→Prop} {N:Nms} {s:S3},Rel C.D N st s→C.fl≤st.nx→wpC C n an ac k st K→Ends C n k0 ac N st s K
 | .skip,k,st,K,N,s,R,hl,h=>⟨_,s,N,st,ED.skip,R,rfl,rfl,⟨N.agree_refl _,hl⟩,h⟩
 | .ret,k,st,K,N,s,R,hl,h=>⟨_,s,N,st,ED.ret,R,rfl,rfl,⟨N.agree_refl _,hl⟩,h⟩
 | .exit i,k,st,K,N,s,R,hl,h=>⟨_,s,N,st,ED.exit,R,rfl,rfl,⟨N.agree_refl _,hl⟩,h⟩
 | .seq a b,k,st,K,N,s,R,hl,h=>by
  simp only [wpC] at h
  obtain ⟨e,s1,N1,st1,e1,R1,r1,r2,r3,hk⟩:=wpC_ok hC a k R hl h
  cases e with
  |normal=>
   obtain ⟨e,s2,N2,st2,e2,R2,q1,q2,q3,hk2⟩:=wpC_ok hC b _ R1 r3.2 hk
   exact ⟨e,s2,N2,st2,ED.seq e1 e2,R2,q1.trans r1,q2.trans r2,⟨Nms.agree_trans r3.1 q3.1 (Nat.le_refl _),q3.2⟩,hk2⟩
  |exit i=>exact ⟨_,s1,N1,st1,ED.seqX e1 (by simp),R1,r1,r2,r3,hk⟩
  |ret=>exact ⟨_,s1,N1,st1,ED.seqX e1 (by simp),R1,r1,r2,r3,hk⟩
 | .cond c a b,k,st,K,N,s,R,hl,h=>by
  simp only [wpC] at h
  have go:∀p:Bool,argσ s.σ c= .v (.bool p)→(p=true→Ends C n k0 a N st s K)→(p=false→Ends C n k0 b N st s K)→Ends C n k0 (.cond c a b) N st s K:=fun p hp h1 h2=>by
   cases p with
   |true=>
    obtain ⟨e,s1,N1,st1,e1,R1,r1,r2,r3,hk⟩:=h1 rfl
    exact ⟨e,s1,N1,st1,ED.cond hp (by rw [if_pos rfl];exact e1),R1,r1,r2,r3,hk⟩
   |false=>
    obtain ⟨e,s1,N1,st1,e1,R1,r1,r2,r3,hk⟩:=h2 rfl
    exact ⟨e,s1,N1,st1,ED.cond hp (by rw [if_neg (by simp)];exact e1),R1,r1,r2,r3,hk⟩
  split at h
  ·rename_i hc
   exact go true (R.here.ev hc) (fun _=>wpC_ok hC a k R hl h) (fun hh=>by simp at hh)
  ·rename_i hc
   exact go false (R.here.ev hc) (fun hh=>by simp at hh) (fun _=>wpC_ok hC b _ R hl h)
  ·rename_i c' hc
   split at h
   ·rename_i O st' hm
    rw [obl_iff] at h
    obtain ⟨hO,hk⟩:=h
    have idl:∀{x:AC},x= .skip→Rel C.D N st' s→st'.rt=st.rt∧st'.rm=st.rm∧st'.nx=st.nx→Ends C n k0 x N st s K:=fun {x} hx hR hs=>by
     subst hx
     exact ⟨_,s,N,st',ED.skip,hR,hs.1,hs.2.1,⟨N.agree_refl _,by rw [hs.2.2];exact hl⟩,hk⟩
    have run:∀{x:AC} {os:List AOper},x= .reg os none→(∃s' N',OpsRun C.P n k0 os s.σ s.g s.k s'.σ s'.g s'.k∧Rel C.D N' st' s'∧N.agree st.nx N')→st'.rt=st.rt∧st'.rm=st.rm∧st'.nx=st.nx→Ends C n k0 x N st s K:=fun {x os} hx hR hs=>by
     subst hx
     obtain ⟨s',N',q1,q2,q3⟩:=hR
     exact ⟨_,s',N',st',ED.reg q1,q2,hs.1,hs.2.1,⟨agree_le q3 hl,by rw [hs.2.2];exact hl⟩,hk⟩
    unfold mrgC at hm
    split at hm
    ·obtain ⟨q1,q2,q3⟩:=mrgS_ok (k0:=k0) hC hm hO R
     exact go c'.den (R.here.ev hc) (fun hh=>idl rfl (q2 hh) q1) (fun hh=>run rfl (q3 hh) q1)
    ·obtain ⟨q1,q2,q3⟩:=mrgS_ok (k0:=k0) hC hm hO R
     exact go c'.den (R.here.ev hc) (fun hh=>run rfl (q3 hh) q1) (fun hh=>idl rfl (q2 hh) q1)
    ·simp at hm
   exact go c'.den (R.here.ev hc) (fun hh=>wpC_ok hC a k R hl (h.1 ((Cn.tf_iff c' true).2 hh))) (fun hh=>wpC_ok hC b _ R hl (h.2 ((Cn.tf_iff c' false).2 hh)))
  ·exact h.elim
 | .block i a,k,st,K,N,s,R,hl,h=>by
  simp only [wpC] at h
  obtain ⟨e,s1,N1,st1,e1,R1,r1,r2,r3,hk⟩:=wpC_ok hC a k R hl h
  exact ⟨_,s1,N1,st1,ED.block e1,R1,r1,r2,r3,hk⟩
 | .loop a,k,st,K,N,s,R,hl,h=>by
  simp only [wpC] at h
  split at h
  ·rename_i m hm
   obtain ⟨e,s2,j,N2,st2,c1,c2,c3,c4,c5,c6⟩:=unr_ok (fun R hl h=>wpC_ok hC a (k+1) R hl h) m R hl h
   exact ⟨e,s2,N2,st2,ED.loop c1,c2,c3,c4,c5,c6⟩
  ·rename_i vs I ms hm
   obtain ⟨s1,N1,w1,R1,r1,r2,r3,r4⟩:=adopt_rel (n:=n) (k0:=k0) (vs:=vs) R
   obtain ⟨e,s2,N2,st2,e2,R2,q1,q2,q3,hk⟩:=loop_ok hC (fun R hl h=>wpC_ok hC a (k+1) R hl h) R1 (Nat.le_trans hl r4) h
   exact ⟨e,s2,N2,st2,ED.weak w1 e2,R2,q1.trans r1,q2.trans r2,⟨Nms.agree_trans (agree_le r3 hl) q3.1 (Nat.le_refl _),q3.2⟩,hk⟩
  ·exact h.elim
 | .reg os none,k,st,K,N,s,R,hl,h=>by
  simp only [wpC] at h
  obtain ⟨s',N',st',e1,R1,r1,r2,r3,hk⟩:=wpPs_ok hC (k0:=k0) _ R h
  have e2:=ED.regs e1
  rw [pieces_flat] at e2
  exact ⟨_,s',N',st',e2,R1,r1.1,r1.2,⟨agree_le r2 hl,Nat.le_trans hl r3⟩,hk⟩
 | .reg os (some dep),k,st,K,N,s,R,hl,h=>by
  simp only [wpC] at h
  obtain ⟨s1,st1,w1,R1,z1,z2,z3,h⟩:=frzW_ok (n:=n) (k0:=k0) hC.ok _ R h
  obtain ⟨st2'',R1'',y1'',y2'',y3'',h⟩:=cutW_ok hC.ok R1 h
  obtain ⟨st2,R1,y1,y2,y3,h⟩:=eqW_ok R1'' h
  rw [y1''] at y1;rw [y2''] at y2;rw [y3''] at y3
  obtain ⟨jn,hj,s',N',st',e1,R1,r1,r2,r3,hk⟩:=wpOps_draw (hC.wo (uncOf an os)) R1 h
  rw [y1,y2,z1,z2] at r1
  rw [y3,z3] at r2 r3
  exact ⟨_,s',N',st',ED.weak w1 (ED.draw hj e1),R1,r1.1,r1.2,⟨agree_le r2 hl,Nat.le_trans hl r3⟩,hk⟩
 | .rng _ _ _ _,k,st,K,N,s,R,hl,h=>by simp only [wpC] at h
def st0 (D:TD τ dn) (vs:List (SV τ dn)):SS τ dn:=match D.ar with
 |none=>⟨[],[],startS vs 0,[],0⟩
 |some t=>⟨[],[],startS vs 0,[(0,some (.ar t []))],1⟩
def resT:List ARes→List Nat
 |[]=>[]
 | .tmp i::r| .cell i _::r=>i::resT r
def wpF (C:Cfg τ dn) (F:AFn) (an:Nat→Option (LA τ dn)) (vs:List (SV τ dn)) (rs:List τ) (r:RD dn rs):Prop:=
 bif Nat.ble vs.length F.n&&rs.all C.D.pu&&Nat.beq C.fl 0 then wpC C F.n an F.code 0 (st0 C.D vs) fun e st=>match e with
  | .exit _=>False
  |_=>frzW C.D false (st.nmsOf (resT F.res)) st fun st=>match resS C.D st F.res with
   |some (O,l)=>match snapMS C.D st l with
    |some l'=>match deR C.D rs l' with
     |some y=>obl O (y=r)
     |none=>False
    |none=>False
   |none=>False
 else False
theorem wpF_ok {C:Cfg τ dn} (hC:C.Ok) {f:FuncId} {F:AFn} (hF:cFunc C.P f=some F) {an:Nat→Option (LA τ dn)} {vs:List (SV τ dn)} {rs:List τ} {r:RD dn rs} (N:Nms) (hfr:SV.frL (fun _=>false) vs=true) (h:wpF C F an vs rs r):Fn C.P f (vs.map (SV.av C.D.toTE N)) ((oneS (enR C.D rs r)).av C.D.toTE N):=by
 unfold wpF at h
 cases hb:(Nat.ble vs.length F.n&&rs.all C.D.pu&&Nat.beq C.fl 0) with
 |false=>rw [hb] at h;exact h.elim
 |true=>
 rw [hb,cond_true] at h
 rw [Bool.and_eq_true,Bool.and_eq_true] at hb
 obtain ⟨hb,hz⟩:=hb
 have hz:=Nat.eq_of_beq_eq_true hz
 have hl:vs.length≤F.n:=Nat.le_of_ble_eq_true hb.1
 have hsl:∀(N':Nms),N'.ρ=N.ρ→∀i v,getS (startS vs 0) i=some v→σ0 (vs.map (SV.av C.D.toTE N)) i=v.av C.D.toTE N':=fun N' hρ i v hv=>by
  obtain ⟨_,h2⟩:=startS_get hv
  rw [Nat.sub_zero] at h2
  have hs:N.same (fun _=>false) N':=⟨fun a ha=>by simp at ha,hρ⟩
  have hm:∀(l:List (SV τ dn)) (j:Nat) w,SV.frL (fun _=>false) l=true→l[j]? =some w→w.fr (fun _=>false)=true:=by
   intro l
   induction l with
   |nil=>intro j w _ hw;simp at hw
   |cons a l ih=>
    intro j w hl hw
    simp only [SV.frL,Bool.and_eq_true] at hl
    cases j with
    |zero=>simp only [List.getElem?_cons_zero,Option.some.injEq] at hw;subst hw;exact hl.1
    |succ j=>exact ih j w hl.2 (by simpa using hw)
  unfold σ0
  rw [List.getElem?_map,h2]
  exact (fr_av hs v (hm vs i v hfr h2)).symm
 have R0:∃s0 N0,S3.Le 0 F.n ⟨σ0 (vs.map (SV.av C.D.toTE N)),fun _=>none,0⟩ s0∧Rel C.D N0 (st0 C.D vs) s0:=by
  unfold st0
  split
  ·refine ⟨_,N,S3.Le.refl',⟨fun N' hN=>⟨fun i v hv=>hsl N' hN.2 i v hv,fun i v hv=>by simp [getS] at hv,fun nm B hB=>by simp [getS] at hB,fun nm B hB=>by simp [getS] at hB,fun t A h=>by rcases h with h|h<;>simp [getS] at h⟩,fun a b ha=>absurd ha (Nat.not_lt_zero _),fun a ha=>absurd ha (Nat.not_lt_zero _),fun nm B hB=>by simp [getS] at hB,fun nm B hB=>by simp [getS] at hB,fun t A h=>by rcases h with h|h<;>simp [getS] at h⟩⟩
  ·rename_i t _
   have ha0:∀t' A,(⟨[],[],startS vs 0,[(0,some (.ar t []))],1⟩:SS τ dn).alv 0 (.ar t' A)→∀id,¬hasA A id:=fun t' A h id=>by
    rcases h with h|h
    ·simp only [getS_cons,if_true,Option.some.injEq,SB.ar.injEq] at h
     obtain ⟨rfl,h⟩:=h
     have h:=eq_of_heq h
     subst h;exact hasA_nil
    ·simp [getS] at h
   refine ⟨_,⟨fun _=>0,fun _=>0,N.ρ⟩,S3.le_phantom (C.D.sz t),⟨fun N' hN=>⟨fun i v hv=>hsl N' hN.2 i v hv,fun i v hv=>by simp [getS] at hv,fun nm B hB=> ?_,fun nm B hB=>by simp [getS] at hB,fun t' A h id hid=>absurd hid (ha0 t' A h id)⟩,fun a b ha hb _=> ?_,fun a ha=> ?_,fun nm B hB=> ?_,fun nm B hB=>by simp [getS] at hB,fun t' A h id hid=>absurd hid (ha0 t' A h id)⟩⟩
   ·have hB':getS [(0,some (SB.ar t ([]:List (Nat×List (dn t)))))] nm=some (some B):=hB
    rw [getS_cons] at hB'
    by_cases hn:nm=0
    ·subst hn
     simp only [if_true,Option.some.injEq] at hB'
     subst hB'
     have e:=hN.1 0 (Nat.lt_succ_self 0)
     refine ⟨?_,e.2⟩
     show gput _ _ (N'.ι 0)=_
     rw [e.1];rfl
    ·rw [if_neg hn] at hB';simp [getS] at hB'
   ·have:a<1:=ha
    have:b<1:=hb
    omega
   ·exact Nat.lt_succ_self 0
   ·have hB':getS [(0,some (SB.ar t ([]:List (Nat×List (dn t)))))] nm=some B:=hB
    rw [getS_cons] at hB'
    by_cases hn:nm=0
    ·subst hn;exact Nat.lt_succ_self 0
    ·rw [if_neg hn] at hB';simp [getS] at hB'
 obtain ⟨s0,N0,w0,R0⟩:=R0
 refine fn_ofW hF (by rw [List.length_map];exact hl) ?_
 obtain ⟨e,s',N',st',e1,R1,_,_,_,hk⟩:=wpC_ok hC (n:=F.n) (k0:=0) F.code 0 R0 (by rw [hz];exact Nat.zero_le _) h
 have e1:=ED.weak w0 e1
 have hk2:(e= .normal∨e= .ret)∧frzW C.D false (st'.nmsOf (resT F.res)) st' fun st'=>match resS C.D st' F.res with
   |some (O,l)=>match snapMS C.D st' l with
    |some l'=>match deR C.D rs l' with
     |some y=>obl O (y=r)
     |none=>False
    |none=>False
   |none=>False:=by
  cases e with
  |normal=>exact ⟨.inl rfl,hk⟩
  |ret=>exact ⟨.inr rfl,hk⟩
  |exit i=>exact hk.elim
 clear hk
 obtain ⟨he,hk⟩:=hk2
 obtain ⟨s2,st2,w2,R2,_,_,_,hk2⟩:=frzW_ok (n:=F.n) (k0:=0) hC.ok _ R1 hk
 clear hk
 have e1:=ED.post e1 w2
 clear R1 w2
 revert hk2 R2
 generalize st2=st'
 intro R1 hk
 refine EW.conseq e1 fun x t ht=> ?_
 obtain ⟨rfl,rfl⟩:=ht
 have fin:(match resS C.D st' F.res with
   |some (O,l)=>match snapMS C.D st' l with
    |some l'=>match deR C.D rs l' with
     |some y=>obl O (y=r)
     |none=>False
    |none=>False
   |none=>False)→∃r',((resR t.σ F.res).bind snapR).run t.g=some r'∧Ale r' ((oneS (enR C.D rs r)).av C.D.toTE N):=fun hk=>by
  split at hk
  case h_2=>exact hk.elim
  rename_i O l hr
  split at hk
  case h_2=>exact hk.elim
  rename_i l' hs
  split at hk
  case h_2=>exact hk.elim
  rename_i y hy
  rw [obl_iff] at hk
  obtain ⟨hO,rfl⟩:=hk
  have q1:=resS_ok hC.ok R1.here hr hO
  have q2:=snapMS_ok hC.ok R1.here hs
  have q3:(resR t.σ F.res).run t.g=some (one1 (l.map (SV.av C.D.toTE N'))):=by
   unfold resR
   rw [run_bindS q1];rfl
  have q4:(snapR (one1 (l.map (SV.av C.D.toTE N')))).run t.g=some (one1 (l'.map (SV.av C.D.toTE N'))):=by
   have hlen:=snapMS_len hs
   match l,l',q2,hlen with
   |[],[],q2,_=>exact run_bindS q2
   |[v],[v'],q2,_=>
    have:(snapA (v.av C.D.toTE N')).run t.g=some (v'.av C.D.toTE N'):=by
     simp only [snapMS] at hs
     split at hs
     ·rename_i x l2 h1 h2
      simp only [Option.some.injEq] at h2;subst h2
      simp only [Option.some.injEq,List.cons.injEq,and_true] at hs;subst hs
      exact snapAS_ok hC.ok R1.here h1
     ·simp at hs
    exact snapR_one this
   |v::w::l2,v'::w'::l2',q2,_=>
    show ((snapAs ((v::w::l2).map (SV.av C.D.toTE N'))).bind fun l=>RM.ret (AV.tup l)).run t.g=_
    rw [run_bindS q2];rfl
  refine ⟨_,(run_bindS q3).trans q4, ?_⟩
  refine Ale.trans (one1_le (deR_le (N:=N') hC.ok hy)) (Ale.of_eq ?_)
  rw [oneS_av,enR_pu hC.ok rs y hb.2]
 exact ⟨he,fin hk⟩
end
open Go.RowKit
section
variable {τ:Type} {dn:τ→Type} {D:TD τ dn}
theorem encC_fr (ok:TDok D) {p:Nat→Bool}:∀(cs:List (Bool×τ)) (x:CD dn cs),SV.frL p (encC D cs x)=true
 |[],_=>rfl
 |(false,t)::r,x=>by simp only [encC,SV.frL,en_fr ok,encC_fr ok r x.2,Bool.and_self]
 |(true,t)::r,x=>by simp only [encC,SV.frL,SV.fr,ok.nf,encC_fr ok r x.2,Bool.and_self]
theorem encP_fr (ok:TDok D) {p:Nat→Bool}:∀(ps:List (Pt τ)) (x:PD dn ps),SV.frL p (encP D ps x)=true
 |[],_=>rfl
 | .ty t::r,x=>by simp only [encP,Pt.enc,SV.frL,en_fr ok,encP_fr ok r x.2,Bool.and_self]
 | .ptr t::r,x=>by simp only [encP,Pt.enc,SV.frL,SV.fr,ok.nf,encP_fr ok r x.2,Bool.and_self]
 | .fnc f cs::r,x=>by simp only [encP,Pt.enc,SV.frL,SV.fr,encC_fr ok,encP_fr ok r x.2,Bool.and_self]
inductive IK (τ:Type) (dn:τ→Type) where
 |fn (F:AFn) (an:Nat→Option (LA τ dn))
 |del (t:τ) (by_:Nat) (zs:List AV)
structure IL (τ:Type) (dn:τ→Type) where
 f:FuncId
 k:IK τ dn
 cl:Option FuncId:=none
def hasF (g:FuncId):List (SV τ dn)→Bool
 |[]=>false
 | .fn f _::r=>Nat.beq f g||hasF g r
 |_::r=>hasF g r
def findI:List (IL τ dn)→FuncId→List (SV τ dn)→Option (IL τ dn)
 |[],_,_=>none
 |i::r,f,vs=>bif Nat.beq i.f f&&(match i.cl with|none=>true|some g=>hasF g vs) then some i else findI r f vs
def Cons (P:Program) (D:TD τ dn):List (Con τ dn)→Prop
 |[]=>True
 |c::r=>c.Ok P D∧Cons P D r
def ConsO (P:Program) (D:TD τ dn):List (ConO τ dn)→Prop
 |[]=>True
 |c::r=>c.Ok P D∧ConsO P D r
def IK.Ok (P:Program) (D:TD τ dn) (f:FuncId):IK τ dn→Prop
 | .fn F _=>cFunc P f=some F∧callable P f=true
 | .del t by_ zs=>cFunc P f=some (DelF (D.sz t) by_ zs)∧callable P f=true∧zs.length=D.sz t
def ILs (P:Program) (D:TD τ dn):List (IL τ dn)→Prop
 |[]=>True
 |i::r=>i.k.Ok P D i.f∧ILs P D r
theorem cons_mem {P:Program}:∀{Δ:List (Con τ dn)},Cons P D Δ→∀c,c∈Δ→c.Ok P D
 |[],_,c,hc=>by simp at hc
 |d::r,h,c,hc=>by
  rcases List.mem_cons.1 hc with rfl|hc
  ·exact h.1
  ·exact cons_mem h.2 c hc
theorem consO_mem {P:Program}:∀{Ω:List (ConO τ dn)},ConsO P D Ω→∀c,c∈Ω→c.Ok P D
 |[],_,c,hc=>by simp at hc
 |d::r,h,c,hc=>by
  rcases List.mem_cons.1 hc with rfl|hc
  ·exact h.1
  ·exact consO_mem h.2 c hc
theorem findI_ok {P:Program}:∀{il:List (IL τ dn)},ILs P D il→∀{f vs i},findI il f vs=some i→i.k.Ok P D f
 |[],_,f,vs,i,h=>by simp [findI] at h
 |j::r,h,f,vs,i,hi=>by
  simp only [findI] at hi
  cases hb:(Nat.beq j.f f&&(match j.cl with|none=>true|some g=>hasF g vs)) with
  |false=>rw [hb,cond_false] at hi;exact findI_ok h.2 hi
  |true=>
   rw [hb,cond_true,Option.some.injEq] at hi
   subst hi
   rw [Bool.and_eq_true] at hb
   rw [←Nat.eq_of_beq_eq_true hb.1];exact h.1
theorem fi_look {P:Program} {f:FuncId} {as_:List AV} {g g':Nat→Option Bk} {k k':Nat} {r:AV} (h:∀m:List (Option Bk),m.length=k→look m=g→Fi P f as_ (look m) m.length r g' k'):Fi P f as_ g k r g' k':=by
 intro E J base vs hG hm hkn hrc
 have hg:look ((List.range k).map g)=g:=by
  funext id
  unfold look
  rcases Nat.lt_or_ge id k with h1|h1
  ·simp [h1]
  ·rw [List.getElem?_eq_none (by simpa using h1)]
   cases hq:g id with
   |none=>rfl
   |some B=>exact absurd (hkn id ((hm.live id).2 ⟨B,hq⟩).1) (by omega)
 have:=h _ (by simp) hg
 rw [hg,List.length_map,List.length_range] at this
 exact this E J base vs hG hm hkn hrc
variable [DecidableEq τ]
def inlW (C:Cfg τ dn) (F:AFn) (an:Nat→Option (LA τ dn)) (vs:List (SV τ dn)) (st:SS τ dn) (K:SV τ dn→SS τ dn→Prop):Prop:=
 bif Nat.ble vs.length F.n then wpC C F.n an F.code 0 ⟨[],st.rm,startS vs 0,st.m,st.nx⟩ fun e st'=>match e with
  | .exit _=>False
  |_=>match resS C.D st' F.res with
   |some (O,l)=>obl O (K (oneS l) st')
   |none=>False
 else False
theorem inlW_ok {C:Cfg τ dn} (hC:C.Ok) {f:FuncId} {F:AFn} (hF:cFunc C.P f=some F) (hc:callable C.P f=true) {an:Nat→Option (LA τ dn)} {vs:List (SV τ dn)} {st:SS τ dn} {K:SV τ dn→SS τ dn→Prop} {N:Nms} {s:S3} (R:Rel C.D N st s) (hfl:C.fl=st.nx)
  (ha:∀N',N.agree st.nx N'→vs.map (SV.av C.D.toTE N')=vs.map (SV.av C.D.toTE N)) (h:inlW C F an vs st K):JOut C.P C.D f vs st K N s:=by
 unfold inlW at h
 cases hb:Nat.ble vs.length F.n with
 |false=>rw [hb] at h;exact h.elim
 |true=>
 rw [hb,cond_true] at h
 have R0:Rel C.D N ⟨[],st.rm,startS vs 0,st.m,st.nx⟩ ⟨σ0 (vs.map (SV.av C.D.toTE N)),s.g,s.k⟩:=by
  refine ⟨fun N' hN=>⟨fun i v hv=> ?_,fun i v hv=>by simp [getS] at hv,(R.at_ N' hN).bl,(R.at_ N' hN).rb,(R.at_ N' hN).ar⟩,R.inj,R.lt,R.ml,R.rl,R.sp⟩
  obtain ⟨_,h2⟩:=startS_get hv
  rw [Nat.sub_zero] at h2
  show σ0 _ i=_
  unfold σ0
  rw [←ha N' hN,List.getElem?_map,h2];rfl
 obtain ⟨e,s',N',st',e1,R1,_,r2,r3,hk⟩:=wpC_ok hC (n:=F.n) (k0:=s.k) F.code 0 R0 (Nat.le_of_eq hfl) h
 have fin:(match resS C.D st' F.res with
   |some (O,l)=>obl O (K (oneS l) st')
   |none=>False)→∃v,(resR s'.σ F.res).run s'.g=some (v.av C.D.toTE N')∧(∀N'',N'.agree st'.nx N''→v.av C.D.toTE N''=v.av C.D.toTE N')∧K v st':=fun hk=>by
  split at hk
  case h_2=>exact hk.elim
  rename_i O l hr
  rw [obl_iff] at hk
  obtain ⟨hO,hk⟩:=hk
  have q:∀N'',N'.agree st'.nx N''→(resR s'.σ F.res).run s'.g=some ((oneS l).av C.D.toTE N''):=fun N'' hN=>by
   rw [oneS_av]
   unfold resR
   rw [run_bindS (resS_ok hC.ok (R1.at_ N'' hN) hr hO)];rfl
  refine ⟨_,q N' (N'.agree_refl _),fun N'' hN=> ?_,hk⟩
  have:=(q N'' hN).symm.trans (q N' (N'.agree_refl _))
  simpa using this
 have go:∀{x:Ex},(x= .normal∨x= .ret)→e=x→(∃v,(resR s'.σ F.res).run s'.g=some (v.av C.D.toTE N')∧(∀N'',N'.agree st'.nx N''→v.av C.D.toTE N''=v.av C.D.toTE N')∧K v st')→JOut C.P C.D f vs st K N s:=fun {x} hx he hv=>by
  obtain ⟨v,v1,v2,v3⟩:=hv
  refine ⟨hc,s'.g,s'.k,N',v,st', ?_,v2, ?_, ?_, ?_,v3⟩
  ·refine fi_ofW hF (by rw [List.length_map];exact Nat.le_of_ble_eq_true hb) (EW.conseq e1 fun y t ht=> ?_)
   obtain ⟨rfl,rfl⟩:=ht
   exact ⟨by rw [he];exact hx,t,S3.Le.refl',v1,rfl,rfl⟩
  ·rw [←hfl];exact r3.1
  ·rw [←hfl];exact r3.2
  ·have r2':st'.rm=st.rm:=r2
   have halv:∀a X,(⟨[],st.rm,[],st'.m,st'.nx⟩:SS τ dn).alv a X→st'.alv a X:=fun a X hX=>hX.imp id fun h=>by rw [r2'];exact h
   refine ⟨fun N'' hN=>⟨fun i v hv=>by simp [getS] at hv,fun i v hv=>by simp [getS] at hv,(R1.at_ N'' hN).bl,fun nm B hB=>(R1.at_ N'' hN).rb nm B (by rw [r2'];exact hB),fun t A h id hid=>(R1.at_ N'' hN).ar t A (halv 0 _ h) id hid⟩,R1.inj,R1.lt,R1.ml,fun nm B hB=>R1.rl nm B (by rw [r2'];exact hB),fun t A h id hid=>⟨(R1.sp t A (halv 0 _ h) id hid).1,fun nm B hB=>(R1.sp t A (halv 0 _ h) id hid).2 nm B (halv nm B hB)⟩⟩
 cases e with
 |normal=>exact go (.inl rfl) rfl (fin hk)
 |ret=>exact go (.inr rfl) rfl (fin hk)
 |exit i=>exact hk.elim
def delW (D:TD τ dn) (t:τ) (vs:List (SV τ dn)) (st:SS τ dn) (K:SV τ dn→SS τ dn→Prop):Prop:=
 match vs with
 |[.own nm sz,a,b]=>match st.gm nm,a.int,b.int with
  |some (.bl t' xs),some (x,_),some (y,_)=>if h:t'=t then (bif st.rw nm&&Nat.beq sz (D.sz t) then 0≤x∧x<xs.length∧y=x+1∧xs.length≤1000000∧K (.own st.nx sz) ⟨st.rt,st.rm,st.t,(st.nx,some (.bl t ((h▸xs:List (dn t)).eraseIdx x.toNat)))::(nm,none)::st.m,st.nx+1⟩ else False) else False
  |_,_,_=>False
 |_=>False
theorem delW_ok {P:Program} {f:FuncId} {t:τ} {by_:Nat} {zs:List AV} (hk:IK.Ok P D f (.del t by_ zs:IK τ dn)) {vs:List (SV τ dn)} {st:SS τ dn} {K:SV τ dn→SS τ dn→Prop} {N:Nms} {s:S3} (R:Rel D N st s) (h:delW D t vs st K):JOut P D f vs st K N s:=by
 obtain ⟨hF,hc,hz⟩:=hk
 unfold delW at h
 split at h
 case h_2=>exact h.elim
 rename_i nm sz a b
 split at h
 case h_2=>exact h.elim
 rename_i t' xs x bx y by1 h1 h2 h3
 split at h
 case isFalse=>exact h.elim
 rename_i ht
 subst ht
 cases hb:st.rw nm&&Nat.beq sz (D.sz t') with
 |false=>rw [hb] at h;exact h.elim
 |true=>
 rw [hb,cond_true] at h
 rw [Bool.and_eq_true] at hb
 obtain ⟨hrw,hs⟩:=hb
 have hs:=Nat.eq_of_beq_eq_true hs
 subst hs
 obtain ⟨q1,q2,q3,q4,hK⟩:=h
 unfold SS.rw at hrw
 rw [Bool.and_eq_true] at hrw
 obtain ⟨w1,w2⟩:=hrw
 have hm:getS st.m nm=some (some (.bl t' xs)):=by
  unfold SS.gm at h1
  cases hg:getS st.m nm with
  |none=>rw [hg] at w1;simp at w1
  |some B=>rw [hg] at h1;simp only at h1;rw [h1]
 have hb0:=R.here.bl nm _ hm
 have R1:Rel D N st ⟨s.σ,s.g,s.k+1⟩:=⟨R.at_,R.inj,fun a ha=>Nat.lt_succ_of_lt (R.lt a ha),R.ml,R.rl,fun t A h id hid=>⟨Nat.lt_succ_of_lt (R.sp t A h id hid).1,(R.sp t A h id hid).2⟩⟩
 have hgo:=R1.go (n:=0) (d:=none) (r:= .mov [] (.vo undef) nm (.bl t' (xs.eraseIdx x.toNat))) rfl ⟨⟨_,hm⟩,by simpa using w2,rfl⟩ (val:= .v undef) (ups:=[(N.ι nm,none),(s.k+1,some ⟨D.sz t',(xs.eraseIdx x.toNat).map (D.ea N.ρ t')⟩)]) (fun _ _=>rfl) (fun N' hN=>by
  have e:=hN.1 nm (Nat.lt_succ_of_lt (R.ml nm _ hm))
  have e2:=hN.2
  simp only [SR.up,Nms.upd] at e e2
  have hne:¬nm=st.nx:=fun e=>by have:=R.ml nm _ hm;omega
  rw [if_neg hne,if_neg hne] at e
  simp only [SR.ups,SB.av,e.1,e2])
 have hid:N.ι nm<s.k:=R.lt nm (R.ml nm _ hm)
 refine ⟨hc,gput s.g [(N.ι nm,none),(s.k+1,some ⟨D.sz t',(xs.eraseIdx x.toNat).map (D.ea N.ρ t')⟩)],s.k+2,N.upd st.nx (s.k+1) (xs.eraseIdx x.toNat).length, .own st.nx (D.sz t'),_, ?_,fun N'' hN=> ?_,N.upd_agree _ _ _,Nat.le_succ _, ?_,hK⟩
 ·refine fi_look fun m hml hmg=> ?_
  have hB:look m (N.ι nm)=some ⟨D.sz t',xs.map (D.ea N.ρ t')⟩:=by rw [hmg];exact hb0.1
  have:=delete_map (P:=P) (f:=f) (m:=m) hF hz hB q1 q2 q4
  rw [q3] at h3
  have hln:N.ln nm=xs.length:=hb0.2
  have e1:[SV.own nm (D.sz t'),a,b].map (SV.av D.toTE N)=[.own (N.ι nm) (D.sz t') 0 xs.length,VI x,VI (x+1)]:=by
   simp only [List.map_cons,List.map_nil,SV.av,hln,int_av h2,int_av h3]
  have e2:(SV.own st.nx (D.sz t'):SV τ dn).av D.toTE (N.upd st.nx (s.k+1) (xs.eraseIdx x.toNat).length)= .own (m.length+1) (D.sz t') 0 (xs.eraseIdx x.toNat).length:=by
   simp only [SV.av,Nms.upd,if_true,hml]
  rw [e1,e2]
  have e3:look (delM m (N.ι nm) ⟨D.sz t',(xs.eraseIdx x.toNat).map (D.ea N.ρ t')⟩)=gput s.g [(N.ι nm,none),(s.k+1,some ⟨D.sz t',(xs.eraseIdx x.toNat).map (D.ea N.ρ t')⟩)]:=by
   rw [←hmg, ←hml]
   rw [←hml] at hid
   funext id
   unfold look delM
   simp only [gput]
   rcases Nat.lt_or_ge id m.length with hl|hl
   ·rw [List.getElem?_append_left (by simpa using hl)]
    rw [if_neg (by omega)]
    by_cases hi:id=N.ι nm
    ·subst hi;simp [hid]
    ·rw [if_neg hi,List.getElem?_set_ne (fun e=>hi e.symm)]
   ·rw [List.getElem?_append_right (by simpa using hl),List.length_set]
    rcases Nat.lt_trichotomy id (m.length+1) with h5|h5|h5
    ·have:id=m.length:=by omega
     subst this
     rw [if_neg (by omega),if_neg (by omega)];simp
    ·subst h5
     rw [if_pos rfl];simp
    ·rw [if_neg (by omega),if_neg (by omega),List.getElem?_eq_none (by simp;omega),List.getElem?_eq_none (by omega)]
  have e4:(delM m (N.ι nm) ⟨D.sz t',(xs.eraseIdx x.toNat).map (D.ea N.ρ t')⟩).length=s.k+2:=by simp [delM,hml]
  rw [e3,e4] at this
  exact this
 ·have:=hN.1 st.nx (Nat.lt_succ_self _)
  simp only [SV.av,this.1,this.2]
 ·exact ⟨fun N'' hN=>⟨fun i v hv=>by simp [getS] at hv,fun i v hv=>by simp [getS] at hv,(hgo.at_ N'' hN).bl,(hgo.at_ N'' hN).rb,(hgo.at_ N'' hN).ar⟩,hgo.inj,hgo.lt,hgo.ml,hgo.rl,hgo.sp⟩
def mkJ (P:Program) (D:TD τ dn) (Δ:List (Con τ dn)) (Ω:List (ConO τ dn)) (il:List (IL τ dn)):Nat→JW τ dn
 |0,_,_,_,_=>False
 |d+1,f,vs,st,K=>match findI il f vs with
  |some ⟨_, .fn F an,_⟩=>inlW ⟨P,D,Δ,Ω,st.nx,mkJ P D Δ Ω il d,false⟩ F an vs st K
  |some ⟨_, .del t _ _,_⟩=>delW D t vs st K
  |none=>False
theorem mkJ_ok {P:Program} (ok:TDok D) {Δ:List (Con τ dn)} (hΔ:Cons P D Δ) {Ω:List (ConO τ dn)} (hΩ:ConsO P D Ω) {il:List (IL τ dn)} (hil:ILs P D il):∀(d fl:Nat),(⟨P,D,Δ,Ω,fl,mkJ P D Δ Ω il d,false⟩:Cfg τ dn).Ok
 |0,fl=>⟨ok,cons_mem hΔ,consO_mem hΩ,fun _ _ h=>h.elim⟩
 |d+1,fl=>⟨ok,cons_mem hΔ,consO_mem hΩ,fun {f vs st K N s} R ha h=>by
  simp only [mkJ] at h
  split at h
  ·rename_i F an hi
   obtain ⟨h1,h2⟩:=findI_ok hil hi
   exact inlW_ok (mkJ_ok ok hΔ hΩ hil d st.nx) h1 h2 R rfl ha h
  ·rename_i hi
   exact delW_ok (findI_ok hil hi) R h
  ·exact h.elim⟩
theorem con_ok {P:Program} (ok:TDok D) {Δ:List (Con τ dn)} (hΔ:Cons P D Δ) {Ω:List (ConO τ dn)} (hΩ:ConsO P D Ω) {F:AFn} (c:Con τ dn) (hF:cFunc P c.f=some F) (hc:callable P c.f=true) (il:PD dn c.ps→List (IL τ dn)) (hil:∀x,ILs P D (il x)) (d:Nat) (an:PD dn c.ps→Nat→Option (LA τ dn)) (h:∀x,c.pre x→wpF ⟨P,D,Δ,Ω,0,mkJ P D Δ Ω (il x) d,false⟩ F (an x) (encP D c.ps x) c.rs (c.res x)):c.Ok P D:=
 ⟨hc,fun x N hp=>wpF_ok (mkJ_ok ok hΔ hΩ (hil x) d 0) hF N (encP_fr ok c.ps x) (h x hp)⟩
end
open Go.RowKit
structure LR (α:Type) where
 sz:Nat
 ea:(Nat→AV)→α→List AV
def LR.i64:LR Int:=⟨1,fun _ x=>[.v (.int .i64 x)]⟩
def LR.u8:LR UInt8:=⟨1,fun _ x=>[.v (.int .u8 x.toNat)]⟩
def LR.u64:LR U64:=⟨1,fun _ x=>[.v (.int .u64 (x.n:Int))]⟩
def LR.boo:LR Bool:=⟨1,fun _ x=>[.v (.bool x)]⟩
def LR.str:LR ByteArray:=⟨1,fun _ x=>[.v (.string x)]⟩
def LR.prod {α β:Type} (A:LR α) (B:LR β):LR (α×β):=⟨A.sz+B.sz,fun ρ x=>A.ea ρ x.1++B.ea ρ x.2⟩
def LR.via {α β:Type} (f:α→β) (B:LR β):LR α:=⟨B.sz,fun ρ x=>B.ea ρ (f x)⟩
def LR.row {α:Type} (A:LR α):LR (Row α):=⟨1,fun ρ r=>[match r.kd with
 | .nil=> .emp
 | .own=> .own r.id A.sz 0 r.n
 | .lst=> .lst A.sz (r.xs.map (A.ea ρ))]⟩
structure Ptr (α:Type) where
 get:α
def LR.ptr {α:Type} (A:LR α):LR (Ptr α):=⟨1,fun ρ x=>[.pim (A.ea ρ x.get) 0]⟩
def LR.list {α:Type} (A:LR α):LR (List α):=⟨1,fun ρ xs=>[.lst A.sz (xs.map (A.ea ρ))]⟩
section
variable {τ:Type} {dn:τ→Type}
theorem AleL.app {a b c d:List AV} (h:AleL a b) (k:AleL c d):AleL (a++c) (b++d):=by
 induction h with
 |nil=>exact k
 |cons h t ih=>exact .cons h ih
theorem frL_app {p:Nat→Bool}:∀{a b:List (SV τ dn)},SV.frL p (a++b)=(SV.frL p a&&SV.frL p b)
 |[],b=>by simp [SV.frL]
 |v::a,b=>by simp only [List.cons_append,SV.frL,frL_app,Bool.and_assoc]
structure LY (E:TE τ dn) {α:Type} (R:LR α) where
 es:α→List (SV τ dn)
 ds:List (SV τ dn)→Option α
 df:α
 es_av:∀(N:Nms) (x:α),(es x).map (SV.av E N)=R.ea N.ρ x
 ds_le:∀(N:Nms) (cs:List (SV τ dn)) (x:α),ds cs=some x→AleL (cs.map (SV.av E N)) (R.ea N.ρ x)
 em:Bool
 pu:Bool
 ds_eq:∀(N:Nms) (cs:List (SV τ dn)) (x:α),ds cs=some x→(em=true∨cs.all SV.ne=true)→cs.map (SV.av E N)=R.ea N.ρ x
 len:∀x,(es x).length=R.sz
 one:∀x,(es x).all SV.one=true
 nf:∀(p:Nat→Bool) x,SV.frL p (es x)=true
 pρ:∀(ρ ρ':Nat→AV) (x:α),R.ea ρ x=R.ea ρ' x
 pu1:∀(N:Nms) (x:α),pu=true→(R.ea N.ρ x).all AV.pu1=true
 bt:Option ((α→UInt8)×(UInt8→α)):=none
 bt_ok:∀(N:Nms) (p:(α→UInt8)×(UInt8→α)),bt=some p→(∀x,R.ea N.ρ x=[.v (.int .u8 (p.1 x).toNat)])∧∀b,p.1 (p.2 b)=b:=by intro N p h;simp at h
variable {E:TE τ dn}
def dsI:List (SV τ dn)→Option Int
 |[.vi x]=>some x
 |[.vn x]=>some x
 |_=>none
def dsY:List (SV τ dn)→Option UInt8
 |[.vy x]=>some x
 |_=>none
def dsU:List (SV τ dn)→Option U64
 |[.vu x]=>some x
 |_=>none
def dsB:List (SV τ dn)→Option Bool
 |[.vt x]=>some x
 |[.vb c]=>some c.den
 |_=>none
def dsZ:List (SV τ dn)→Option ByteArray
 |[.vz x]=>some x
 |_=>none
theorem dsI_av {N:Nms} {cs:List (SV τ dn)} {x:Int} (h:dsI cs=some x):cs.map (SV.av E N)=[.v (.int .i64 x)]:=by
 unfold dsI at h;split at h<;>simp only [Option.some.injEq,reduceCtorEq] at h<;>subst h<;>rfl
theorem dsY_av {N:Nms} {cs:List (SV τ dn)} {x:UInt8} (h:dsY cs=some x):cs.map (SV.av E N)=[.v (.int .u8 x.toNat)]:=by
 unfold dsY at h;split at h<;>simp only [Option.some.injEq,reduceCtorEq] at h;subst h;rfl
theorem dsU_av {N:Nms} {cs:List (SV τ dn)} {x:U64} (h:dsU cs=some x):cs.map (SV.av E N)=[.v (.int .u64 (x.n:Int))]:=by
 unfold dsU at h;split at h<;>simp only [Option.some.injEq,reduceCtorEq] at h;subst h;rfl
theorem dsB_av {N:Nms} {cs:List (SV τ dn)} {x:Bool} (h:dsB cs=some x):cs.map (SV.av E N)=[.v (.bool x)]:=by
 unfold dsB at h;split at h<;>simp only [Option.some.injEq,reduceCtorEq] at h<;>subst h<;>rfl
theorem dsZ_av {N:Nms} {cs:List (SV τ dn)} {x:ByteArray} (h:dsZ cs=some x):cs.map (SV.av E N)=[.v (.string x)]:=by
 unfold dsZ at h;split at h<;>simp only [Option.some.injEq,reduceCtorEq] at h;subst h;rfl
theorem AleL.of_eq {a b:List AV} (h:a=b):AleL a b:=by
 subst h
 induction a with
 |nil=>exact .nil
 |cons x r ih=>exact .cons Ale.refl ih
def LY.i64:LY E LR.i64 where
 es x:=[.vi x]
 ds:=dsI
 df:=0
 es_av _ _:=rfl
 ds_le _ _ _ h:= .of_eq (dsI_av h)
 em:=true
 pu:=true
 ds_eq _ _ _ h _:=dsI_av h
 len _:=rfl
 one _:=rfl
 nf _ _:=rfl
 pρ _ _ _:=rfl
 pu1 _ _ _:=rfl
def LY.u8:LY E LR.u8 where
 es x:=[.vy x]
 ds:=dsY
 df:=0
 es_av _ _:=rfl
 ds_le _ _ _ h:= .of_eq (dsY_av h)
 em:=true
 pu:=true
 ds_eq _ _ _ h _:=dsY_av h
 len _:=rfl
 one _:=rfl
 nf _ _:=rfl
 pρ _ _ _:=rfl
 pu1 _ _ _:=rfl
 bt:=some (id,id)
 bt_ok N p h:=by simp only [Option.some.injEq] at h;subst h;exact ⟨fun _=>rfl,fun _=>rfl⟩
def LY.u64:LY E LR.u64 where
 es x:=[.vu x]
 ds:=dsU
 df:=⟨0,by decide⟩
 es_av _ _:=rfl
 ds_le _ _ _ h:= .of_eq (dsU_av h)
 em:=true
 pu:=true
 ds_eq _ _ _ h _:=dsU_av h
 len _:=rfl
 one _:=rfl
 nf _ _:=rfl
 pρ _ _ _:=rfl
 pu1 _ _ _:=rfl
def LY.boo:LY E LR.boo where
 es x:=[.vb (.b x)]
 ds:=dsB
 df:=false
 es_av _ _:=rfl
 ds_le _ _ _ h:= .of_eq (dsB_av h)
 em:=true
 pu:=true
 ds_eq _ _ _ h _:=dsB_av h
 len _:=rfl
 one _:=rfl
 nf _ _:=rfl
 pρ _ _ _:=rfl
 pu1 _ _ _:=rfl
def LY.str:LY E LR.str where
 es x:=[.vz x]
 ds:=dsZ
 df:=ByteArray.empty
 es_av _ _:=rfl
 ds_le _ _ _ h:= .of_eq (dsZ_av h)
 em:=true
 pu:=true
 ds_eq _ _ _ h _:=dsZ_av h
 len _:=rfl
 one _:=rfl
 nf _ _:=rfl
 pρ _ _ _:=rfl
 pu1 _ _ _:=rfl
def dsP {α β:Type} (n:Nat) (a:List (SV τ dn)→Option α) (b:List (SV τ dn)→Option β) (cs:List (SV τ dn)):Option (α×β):=
 match a (cs.take n),b (cs.drop n) with
 |some x,some y=>some (x,y)
 |_,_=>none
theorem dsP_some {α β:Type} {n:Nat} {a:List (SV τ dn)→Option α} {b:List (SV τ dn)→Option β} {cs:List (SV τ dn)} {z:α×β} (h:dsP n a b cs=some z):a (cs.take n)=some z.1∧b (cs.drop n)=some z.2:=by
 unfold dsP at h
 split at h
 ·rename_i x y h1 h2
  simp only [Option.some.injEq] at h;subst h;exact ⟨h1,h2⟩
 ·simp at h
def LY.prod {α β:Type} {A:LR α} {B:LR β} (a:LY E A) (b:LY E B):LY E (A.prod B) where
 es x:=a.es x.1++b.es x.2
 ds:=dsP A.sz a.ds b.ds
 df:=(a.df,b.df)
 es_av N x:=by rw [List.map_append,a.es_av,b.es_av];rfl
 ds_le N cs x h:=by
  obtain ⟨h1,h2⟩:=dsP_some h
  have:=AleL.app (a.ds_le N _ _ h1) (b.ds_le N _ _ h2)
  rw [←List.map_append,List.take_append_drop] at this
  exact this
 em:=a.em&&b.em
 pu:=a.pu&&b.pu
 ds_eq N cs x h hn:=by
  obtain ⟨h1,h2⟩:=dsP_some h
  have hn1:a.em=true∨(cs.take A.sz).all SV.ne=true:=hn.elim (fun h=> .inl (by rw [Bool.and_eq_true] at h;exact h.1)) fun hn=> .inr (List.all_eq_true.2 fun v hv=>List.all_eq_true.1 hn v (List.mem_of_mem_take hv))
  have hn2:b.em=true∨(cs.drop A.sz).all SV.ne=true:=hn.elim (fun h=> .inl (by rw [Bool.and_eq_true] at h;exact h.2)) fun hn=> .inr (List.all_eq_true.2 fun v hv=>List.all_eq_true.1 hn v (List.mem_of_mem_drop hv))
  show _=A.ea N.ρ x.1++B.ea N.ρ x.2
  rw [←a.ds_eq N _ _ h1 hn1, ←b.ds_eq N _ _ h2 hn2, ←List.map_append,List.take_append_drop]
 len x:=by rw [List.length_append,a.len,b.len];rfl
 one x:=by rw [List.all_append,a.one,b.one];rfl
 nf p x:=by rw [frL_app,a.nf,b.nf];rfl
 pρ ρ ρ' x:=by show A.ea ρ x.1++B.ea ρ x.2=_;rw [a.pρ ρ ρ',b.pρ ρ ρ'];rfl
 pu1 N x h:=by
  rw [Bool.and_eq_true] at h
  show (A.ea N.ρ x.1++B.ea N.ρ x.2).all _=true;rw [List.all_append,a.pu1 _ _ h.1,b.pu1 _ _ h.2];rfl
def LY.via {α β:Type} {f:α→β} {B:LR β} (g:β→α) (hfg:∀y,f (g y)=y) (b:LY E B):LY E (LR.via f B) where
 es x:=b.es (f x)
 ds cs:=match b.ds cs with
  |some y=>some (g y)
  |none=>none
 df:=g b.df
 es_av N x:=b.es_av N (f x)
 ds_le N cs x h:=by
  split at h
  ·rename_i y hy
   simp only [Option.some.injEq] at h;subst h
   show AleL _ (B.ea N.ρ (f (g y)))
   rw [hfg];exact b.ds_le N _ _ hy
  ·simp at h
 em:=b.em
 pu:=b.pu
 ds_eq N cs x h hn:=by
  split at h
  ·rename_i y hy
   simp only [Option.some.injEq] at h;subst h
   show _=(B.ea N.ρ (f (g y)))
   rw [hfg];exact b.ds_eq N _ _ hy hn
  ·simp at h
 len x:=b.len (f x)
 one x:=b.one (f x)
 nf p x:=b.nf p (f x)
 pρ ρ ρ' x:=b.pρ ρ ρ' (f x)
 pu1 N x h:=b.pu1 N (f x) h
def dsE {α:Type} (em:Bool) (ds:List (SV τ dn)→Option α):List (List (SV τ dn))→Option (List α)
 |[]=>some []
 |cs::r=>if (em||cs.all SV.ne)=true then (match ds cs,dsE em ds r with
  |some x,some l=>some (x::l)
  |_,_=>none) else none
theorem dsE_av {t:τ} {R:LR (dn t)} (A:LY E R) (N:Nms):∀{els:List (List (SV τ dn))} {xs:List (dn t)},dsE A.em A.ds els=some xs→SV.avM E N els=xs.map (R.ea N.ρ)
 |[],xs,h=>by simp only [dsE,Option.some.injEq] at h;subst h;rfl
 |cs::r,xs,h=>by
  simp only [dsE] at h
  split at h
  ·rename_i hn
   split at h
   ·rename_i x l h1 h2
    simp only [Option.some.injEq] at h;subst h
    simp only [SV.avM,List.map_cons,SV.avL_map,A.ds_eq N _ _ h1 (by rw [Bool.or_eq_true] at hn;exact hn),dsE_av A N h2]
   ·simp at h
  ·simp at h
section
variable [DecidableEq τ]
def dsL (t:τ) (sz:Nat) (em:Bool) (ds:List (SV τ dn)→Option (dn t)):List (SV τ dn)→Option (List (dn t))
 |[.vl t' xs]=>if h:t'=t then some (h▸xs) else none
 |[.vc k els]=>if k=sz then dsE em ds els else none
 |[.emp]=>some []
 |_=>none
theorem dsL_le {t:τ} {R:LR (dn t)} (A:LY E R) (hs:E.sz t=R.sz) (he:∀ρ,E.ea ρ t=R.ea ρ) (N:Nms) {cs:List (SV τ dn)} {xs:List (dn t)} (h:dsL t R.sz A.em A.ds cs=some xs):AleL (cs.map (SV.av E N)) ((LR.list R).ea N.ρ xs)∧(cs.all SV.ne=true→cs.map (SV.av E N)=(LR.list R).ea N.ρ xs):=by
 unfold dsL at h
 split at h
 ·rename_i t' ys
  split at h
  ·rename_i ht
   subst ht
   simp only [Option.some.injEq] at h;subst h
   have:[SV.vl t' ys].map (SV.av E N)=(LR.list R).ea N.ρ ys:=by
    simp only [List.map_cons,List.map_nil,SV.av,hs,he];rfl
   exact ⟨.of_eq this,fun _=>this⟩
  ·simp at h
 ·rename_i k els
  split at h
  ·rename_i hk
   subst hk
   have:[SV.vc R.sz els].map (SV.av E N)=(LR.list R).ea N.ρ xs:=by
    simp only [List.map_cons,List.map_nil,SV.av,dsE_av A N h];rfl
   exact ⟨.of_eq this,fun _=>this⟩
  ·simp at h
 ·simp only [Option.some.injEq] at h;subst h
  exact ⟨.cons Ale.emp .nil,fun hn=>by simp [SV.ne] at hn⟩
 ·simp at h
def LY.list {t:τ} {R:LR (dn t)} (A:LY E R) (hs:E.sz t=R.sz) (he:∀ρ,E.ea ρ t=R.ea ρ):LY E (LR.list R) where
 es x:=[.vl t x]
 ds:=dsL t R.sz A.em A.ds
 df:=[]
 es_av N x:=by simp only [List.map_cons,List.map_nil,SV.av,hs,he];rfl
 ds_le N cs x h:=(dsL_le A hs he N h).1
 em:=false
 pu:=true
 ds_eq N cs x h hn:=(dsL_le A hs he N h).2 (hn.resolve_left (by simp))
 len _:=rfl
 one _:=rfl
 nf _ _:=rfl
 pρ ρ ρ' x:=by show [AV.lst R.sz (x.map (R.ea ρ))]=[AV.lst R.sz (x.map (R.ea ρ'))];rw [funext fun y=>A.pρ ρ ρ' y]
 pu1 _ _ _:=rfl
def dsR (t:τ) (sz:Nat) (em:Bool) (ds:List (SV τ dn)→Option (dn t)):List (SV τ dn)→Option (Row (dn t))
 |[.rw t' r]=>if h:t'=t then some (h▸r) else none
 |[.vl t' xs]=>if h:t'=t then some (Row.fix _ (h▸xs)) else none
 |[.vc k els]=>if k=sz then (dsE em ds els).map fun xs=>Row.fix _ xs else none
 |[.emp]=>some (Row.no _)
 |_=>none
theorem rw_av {t:τ} {R:LR (dn t)} (hs:E.sz t=R.sz) (he:∀ρ,E.ea ρ t=R.ea ρ) (N:Nms) (r:Row (dn t)):[(SV.rw t r:SV τ dn)].map (SV.av E N)=(LR.row R).ea N.ρ r:=by
 simp only [List.map_cons,List.map_nil,SV.av,LR.row]
 cases r.kd<;>simp only [hs,he]
theorem dsR_av {t:τ} {R:LR (dn t)} (A:LY E R) (hs:E.sz t=R.sz) (he:∀ρ,E.ea ρ t=R.ea ρ) (N:Nms) {cs:List (SV τ dn)} {r:Row (dn t)} (h:dsR t R.sz A.em A.ds cs=some r):cs.map (SV.av E N)=(LR.row R).ea N.ρ r:=by
 unfold dsR at h
 split at h
 ·rename_i t' q
  split at h
  ·rename_i ht
   subst ht
   simp only [Option.some.injEq] at h;subst h
   exact rw_av hs he N _
  ·simp at h
 ·rename_i t' ys
  split at h
  ·rename_i ht
   subst ht
   simp only [Option.some.injEq] at h;subst h
   simp only [List.map_cons,List.map_nil,SV.av,hs,he];rfl
  ·simp at h
 ·rename_i k els
  split at h
  ·rename_i hk
   subst hk
   simp only [Option.map_eq_some_iff] at h
   obtain ⟨xs,hx,rfl⟩:=h
   simp only [List.map_cons,List.map_nil,SV.av,dsE_av A N hx];rfl
  ·simp at h
 ·simp only [Option.some.injEq] at h;subst h;rfl
 ·simp at h
def dsPt {α:Type} (ds:List (SV τ dn)→Option α):List (SV τ dn)→Option (Ptr α)
 |[.pim cs 0]=>bif cs.all SV.ne then (ds cs).map Ptr.mk else none
 |_=>none
theorem dsPt_av {α:Type} {R:LR α} (A:LY E R) (N:Nms) {cs:List (SV τ dn)} {x:Ptr α} (h:dsPt A.ds cs=some x):cs.map (SV.av E N)=(LR.ptr R).ea N.ρ x:=by
 unfold dsPt at h
 split at h
 ·rename_i cs'
  cases hb:cs'.all SV.ne with
  |false=>rw [hb] at h;simp at h
  |true=>
   rw [hb,cond_true] at h
   simp only [Option.map_eq_some_iff] at h
   obtain ⟨y,hy,rfl⟩:=h
   have:=A.ds_eq N cs' y hy (.inr hb)
   simp only [List.map_cons,List.map_nil,SV.av,SV.avL_map,this,LR.ptr]
 ·simp at h
def LY.ptr {α:Type} {R:LR α} (A:LY E R):LY E (LR.ptr R) where
 es x:=[.pim (A.es x.get) 0]
 ds:=dsPt A.ds
 df:=⟨A.df⟩
 es_av N x:=by simp only [List.map_cons,List.map_nil,SV.av,SV.avL_map,A.es_av,LR.ptr]
 ds_le N cs x h:=AleL.of_eq (dsPt_av A N h)
 em:=false
 pu:=true
 ds_eq N cs x h _:=dsPt_av A N h
 len _:=rfl
 one _:=rfl
 nf p x:=by simp only [SV.frL,SV.fr,A.nf,Bool.and_self]
 pρ ρ ρ' x:=by show [AV.pim (R.ea ρ x.get) 0]=[AV.pim (R.ea ρ' x.get) 0];rw [A.pρ ρ ρ']
 pu1 _ _ _:=rfl
def LY.row {t:τ} {R:LR (dn t)} (A:LY E R) (hs:E.sz t=R.sz) (he:∀ρ,E.ea ρ t=R.ea ρ):LY E (LR.row R) where
 es r:=[.rw t r]
 ds:=dsR t R.sz A.em A.ds
 df:=Row.no _
 es_av N r:=rw_av hs he N r
 ds_le N cs x h:= .of_eq (dsR_av A hs he N h)
 em:=true
 pu:=false
 ds_eq N cs x h _:=dsR_av A hs he N h
 len _:=rfl
 one _:=rfl
 nf _ _:=rfl
 pρ ρ ρ' x:=by
  simp only [LR.row]
  cases x.kd<;>first|rfl|(rw [funext fun y=>A.pρ ρ ρ' y])
 pu1 _ _ h:=by simp at h
end
def FzOk (E:TE τ dn) (ta:τ) (A:List (Nat×List (dn ta))) {α β:Type} (R:LR α) (R':LR β) (f:α→β) (O:α→Prop):Prop:=
 R'.sz=R.sz∧∀(N:Nms) (φ:AV→AV),(∀a,a.pu1=true→φ a=a)→(∀id n,hasA A id→(lkA A id).length=n→φ (.own id (E.sz ta) 0 n)= .lst (E.sz ta) ((lkA A id).map (E.ea N.ρ ta)))→∀x,O x→(R.ea N.ρ x).map φ=R'.ea N.ρ (f x)
theorem FzOk.row {ta:τ} {A:List (Nat×List (dn ta))} {R:LR (dn ta)} (hs:E.sz ta=R.sz) (he:∀ρ,E.ea ρ ta=R.ea ρ):FzOk E ta A (LR.row R) (LR.list R) (fun r=>r.get A) (fun r=>r.ok A∧r.kd≠ .nil):=by
 refine ⟨rfl,fun N φ h1 h2 x hx=> ?_⟩
 simp only [LR.row,LR.list,List.map_cons,List.map_nil]
 obtain ⟨hx,hn⟩:=hx
 unfold Row.ok at hx
 cases hk:x.kd with
 |nil=>exact absurd hk hn
 |own=>
  rw [hk] at hx
  have:=h2 x.id x.n hx.1 hx.2
  rw [hs,he] at this
  simp only [this,Row.get,hk]
 |lst=>simp only [h1 (.lst R.sz (x.xs.map (R.ea N.ρ))) rfl,Row.get,hk]
theorem FzOk.id {ta:τ} {A:List (Nat×List (dn ta))} {α:Type} {R:LR α} (y:LY E R) (hp:y.pu=true):FzOk E ta A R R (fun x=>x) (fun _=>True):=by
 refine ⟨rfl,fun N φ h1 h2 x hx=> ?_⟩
 have hl:∀l:List AV,l.all AV.pu1=true→l.map φ=l:=by
  intro l
  induction l with
  |nil=>intro _;rfl
  |cons a l ih=>
   intro h
   rw [List.all_cons,Bool.and_eq_true] at h
   rw [List.map_cons,h1 a h.1,ih h.2]
 exact hl _ (y.pu1 N x hp)
theorem FzOk.prod {ta:τ} {A:List (Nat×List (dn ta))} {α β γ δ:Type} {R:LR α} {R':LR β} {S:LR γ} {S':LR δ} {f:α→β} {O:α→Prop} {g:γ→δ} {P:γ→Prop} (h:FzOk E ta A R R' f O) (k:FzOk E ta A S S' g P):FzOk E ta A (R.prod S) (R'.prod S') (fun x=>(f x.1,g x.2)) (fun x=>O x.1∧P x.2):=
 ⟨by show R'.sz+S'.sz=R.sz+S.sz;rw [h.1,k.1],fun N φ h1 h2 x hx=>by
  show (R.ea N.ρ x.1++S.ea N.ρ x.2).map φ=R'.ea N.ρ (f x.1)++S'.ea N.ρ (g x.2)
  rw [List.map_append,h.2 N φ h1 h2 _ hx.1,k.2 N φ h1 h2 _ hx.2]⟩
theorem FzOk.via {ta:τ} {A:List (Nat×List (dn ta))} {α β γ δ:Type} {R:LR β} {R':LR δ} {u:α→β} {w:γ→δ} {f:β→δ} {O:β→Prop} {F:α→γ} (h:FzOk E ta A R R' f O) (hw:∀x,w (F x)=f (u x)):FzOk E ta A (LR.via u R) (LR.via w R') F (fun x=>O (u x)):=
 ⟨h.1,fun N φ h1 h2 x hx=>by
  show (R.ea N.ρ (u x)).map φ=R'.ea N.ρ (w (F x))
  rw [hw];exact h.2 N φ h1 h2 _ hx⟩
abbrev FZ (τ:Type) (dn:τ→Type):Type:=(t ta:τ)→(A:List (Nat×List (dn ta)))→Option ((t':τ)×(dn t→dn t')×(dn t→Prop))
def TE.ofL (lr:(t:τ)→LR (dn t)):TE τ dn:=⟨fun t=>(lr t).sz,fun ρ t=>(lr t).ea ρ⟩
def TD.ofL {lr:(t:τ)→LR (dn t)} (ly:(t:τ)→LY (TE.ofL lr) (lr t)) (ag:τ→Bool) (hint:Nat→Nat→Option τ) (neg:Bool) (ar:Option τ:=none) (hr:τ→Bool:=fun _=>false) (fz:FZ τ dn:=fun _ _ _=>none) (th:(t t':τ)→Option (dn t→dn t'):=fun _ _=>none):TD τ dn where
 toTE:=TE.ofL lr
 df t:=(ly t).df
 es t:=(ly t).es
 ds t:=(ly t).ds
 ag:=ag
 pu t:=(ly t).pu
 hint:=hint
 neg:=neg
 em t:=(ly t).em
 ar:=ar
 hr:=hr
 fz:=fz
 bt t:=(ly t).bt
 th:=th
theorem TD.ofL_ok {lr:(t:τ)→LR (dn t)} {ly:(t:τ)→LY (TE.ofL lr) (lr t)} {ag:τ→Bool} {hint:Nat→Nat→Option τ} {neg:Bool} {ar:Option τ} {hr:τ→Bool} {fz:FZ τ dn} {th:(t t':τ)→Option (dn t→dn t')} (hfz:∀(t ta:τ) (A:List (Nat×List (dn ta))) (t':τ) (f:dn t→dn t') (O:dn t→Prop),fz t ta A=some ⟨t',f,O⟩→FzOk (TE.ofL lr) ta A (lr t) (lr t') f O:=by intro t ta A t' f O h;simp at h) (hth:∀(ρ:Nat→AV) (t t':τ) (f:dn t→dn t'),th t t'=some f→(lr t').sz=(lr t).sz∧∀x,(lr t').ea ρ (f x)=(lr t).ea ρ x:=by intro ρ t t' f h;simp at h):TDok (TD.ofL ly ag hint neg ar hr fz th) where
 es_av N t x:=(ly t).es_av N x
 ds_le N t cs x h:=(ly t).ds_le N cs x h
 ds_eq N t cs x h hn:=(ly t).ds_eq N cs x h (by unfold TD.nee at hn;rw [Bool.or_eq_true] at hn;exact hn)
 len t x:=(ly t).len x
 one t x:=(ly t).one x
 nf p t x:=(ly t).nf p x
 pρ ρ ρ' t x _:=(ly t).pρ ρ ρ' x
 pu1 N t x h:=(ly t).pu1 N x h
 bt N t p h:=(ly t).bt_ok N p h
 th:=hth
 fz N φ t ta A t' f O h h1 h2:=⟨(hfz t ta A t' f O h).1,fun x hx=>(hfz t ta A t' f O h).2 N φ h1 h2 x hx⟩
end
open Go.RowKit
structure LG {α:Type} [GoT α] (R:LR α) where
 big:α→Prop
 sz:R.sz=GoT.size α
 av:∀{w:World} {cs:List Value} {x:α},GoT.rep w w.heap.size cs x→R2 (Rep (E0 w fun b=>b<w.heap.size)) cs (R.ea (fun _=> .dead) x)
 one:∀{w:World} {cs:List Value} {x:α},GoT.rep w w.heap.size cs x→∀v,v∈cs→v.oneCell'=true
 pu:∀(x:α) c,c∈R.ea (fun _=> .dead) x→Pu c
 bg:∀{w:World} {cs:List Value} {x:α},GoT.rep w w.heap.size cs x→big x
theorem R2.app {R:Value→AV→Prop} {vs vs':List Value} {as_ as':List AV} (h:R2 R vs as_) (k:R2 R vs' as'):R2 R (vs++vs') (as_++as'):=by
 induction h with
 |nil=>exact k
 |cons h t ih=>exact .cons h ih
def LG.i64:LG LR.i64 where
 big:=I64
 sz:=rfl
 av h:=by obtain ⟨rfl,_⟩:=h;exact .cons (.v rfl) .nil
 one h v hv:=by obtain ⟨rfl,_⟩:=h;simp at hv;subst hv;rfl
 pu x c hc:=by simp [LR.i64] at hc;subst hc;exact .v
 bg h:=h.2
def LG.boo:LG LR.boo where
 big _:=True
 sz:=rfl
 av h:=by cases h;exact .cons (.v rfl) .nil
 one h v hv:=by cases h;simp at hv;subst hv;rfl
 pu x c hc:=by simp [LR.boo] at hc;subst hc;exact .v
 bg _:=trivial
def LG.str:LG LR.str where
 big x:=x.size≤9223372036854775807
 sz:=rfl
 av h:=by obtain ⟨rfl,_⟩:=h;exact .cons (.v rfl) .nil
 one h v hv:=by obtain ⟨rfl,_⟩:=h;simp at hv;subst hv;rfl
 pu x c hc:=by simp [LR.str] at hc;subst hc;exact .v
 bg h:=h.2
def LG.prod {α β:Type} [GoT α] [GoT β] {A:LR α} {B:LR β} (a:LG A) (b:LG B):LG (A.prod B) where
 big x:=a.big x.1∧b.big x.2
 sz:=by show A.sz+B.sz=GoT.size α+GoT.size β;rw [a.sz,b.sz]
 av h:=by obtain ⟨c0,c1,rfl,h0,h1⟩:=h;exact (a.av h0).app (b.av h1)
 one h v hv:=by
  obtain ⟨c0,c1,rfl,h0,h1⟩:=h
  rcases List.mem_append.1 hv with hv|hv
  ·exact a.one h0 v hv
  ·exact b.one h1 v hv
 pu x c hc:=by
  rcases List.mem_append.1 hc with hc|hc
  ·exact a.pu _ c hc
  ·exact b.pu _ c hc
 bg h:=by obtain ⟨c0,c1,rfl,h0,h1⟩:=h;exact ⟨a.bg h0,b.bg h1⟩
def LG.list {α:Type} [GoT α] {A:LR α} (a:LG A):LG (LR.list A) where
 big xs:=xs.length≤9223372036854775807∧∀x,x∈xs→a.big x
 sz:=rfl
 av {w cs xs} h:=by
  obtain ⟨A0,n,c,rfl,hn,hle,hc,h⟩:=h
  refine .cons ?_ .nil
  rcases h with rfl|⟨b,off,rfl,hb,hs⟩
  ·simp only [List.length_nil] at hn;subst hn;exact .lst0 hc
  ·have get:∀(i:Nat) (cs:List AV) (j:Nat) x,(xs.map (A.ea fun _=> .dead))[i]? =some cs→cs[j]? =some x→∃u,w.cell? ⟨b,off+i*A.sz+j,none⟩=some u∧u.oneCell'=true∧Pu x∧Rep (E0 w fun b=>b<w.heap.size) u x:=by
    intro i cs j x hi hj
    rw [List.getElem?_map,Option.map_eq_some_iff] at hi
    obtain ⟨y,hy,rfl⟩:=hi
    obtain ⟨vs,h1,h2⟩:=hs i y hy
    have r:=a.av h1
    have hjl:j<vs.length:=by rw [r.len];exact (List.getElem?_eq_some_iff.1 hj).1
    have hv:=List.getElem?_eq_getElem hjl
    refine ⟨vs[j],by rw [a.sz];exact h2 j _ hv,a.one h1 _ (List.getElem_mem hjl),a.pu y x (List.mem_of_getElem? hj),r.get j _ x hv hj⟩
   refine .lst1 (fun i j=>(w.cell? ⟨b,off+i*A.sz+j,none⟩).getD undef) (by simpa using hn) hle hc hb (fun i cs hi=> ?_) (fun i cs j x hi hj=> ?_) (fun i cs j x hi hj=> ?_) (fun i cs j x hi hj=> ?_)
   ·rw [List.getElem?_map,Option.map_eq_some_iff] at hi
    obtain ⟨y,hy,rfl⟩:=hi
    obtain ⟨vs,h1,_⟩:=hs i y hy
    rw [←(a.av h1).len,GoT.len h1,a.sz]
   all_goals
    obtain ⟨u,k1,k2,k3,k4⟩:=get i cs j x hi hj
   ·show w.cell? _=_;rw [k1];rfl
   ·simp only [k1,Option.getD_some];exact ⟨k2,k3⟩
   ·simp only [k1,Option.getD_some];exact k4
 one h v hv:=by obtain ⟨A0,n,c,rfl,_⟩:=h;simp at hv;subst hv;rfl
 pu xs c hc:=by simp [LR.list] at hc;subst hc;exact .lst
 bg {w cs xs} h:=by
  obtain ⟨A0,n,c,rfl,hn,hle,hc,h⟩:=h
  refine ⟨by omega,fun x hx=> ?_⟩
  rcases h with rfl|⟨b,off,rfl,hb,hs⟩
  ·simp at hx
  ·obtain ⟨i,hi⟩:=List.mem_iff_getElem?.1 hx
   obtain ⟨vs,h1,_⟩:=hs i x hi
   exact a.bg h1
def LG.via {α β:Type} [GoT β] {f:α→β} {B:LR β} (b:LG B): @LG α (GoT.via f) (LR.via f B):=
 @LG.mk α (GoT.via f) (LR.via f B) (fun x=>b.big (f x)) b.sz (fun h=>b.av h) (fun h=>b.one h) (fun x=>b.pu (f x)) fun h=>b.bg h
def N0:Nms:=⟨fun _=>0,fun _=>0,fun _=> .dead⟩
section
variable {τ:Type} {dn:τ→Type} {D:TD τ dn}
theorem arg_ag (ok:TDok D) {E:Env} {t:τ} {x:dn t} {cs:List Value} (ha:D.ag t=true) (h:R2 (Rep E) cs (D.ea (fun _=> .dead) t x)):Rep E (.agg cs.toArray) ((D.en t x).av D.toTE N0):=by
 rw [en_ag ha,SV.av,SV.avL_map,ok.es_av];exact h.agg
theorem arg_one (ok:TDok D) {E:Env} {t:τ} {x:dn t} {v:Value} (ha:D.ag t=false) (h:R2 (Rep E) [v] (D.ea (fun _=> .dead) t x)):Rep E v ((D.en t x).av D.toTE N0):=by
 have one:∀l:List AV,[v].length=l.length→∃b,l=[b]:=fun l hl=>by
  match l with
  |[b]=>exact ⟨b,rfl⟩
  |[]=>simp at hl
  |_::_::_=>simp at hl
 obtain ⟨b,hb⟩:=one _ h.len
 rw [en_one (N:=N0) ok ha hb]
 have h2:R2 (Rep E) [v] [b]:=by rw [←hb];exact h
 cases h2 with|cons h _=>exact h
end
open Go.RowKit
@[ext] structure Piece where
 version:Int
 data:ByteArray
instance:GoT Piece:=GoT.via (fun x=>(x.version,x.data))
@[go_sem, simp] theorem Piece.eta (x : Piece) : (⟨x.version, x.data⟩ : Piece) = x := rfl
@[ext] structure Shelf where
 up:Bool
 pieces:(List Piece)
instance:GoT Shelf:=GoT.via (fun x=>(x.up,x.pieces))
@[go_sem, simp] theorem Shelf.eta (x : Shelf) : (⟨x.up, x.pieces⟩ : Shelf) = x := rfl
@[ext] structure Volume where
 layout:Layout
 size:Int
 versions:(List Int)
 nodes:(List Shelf)
instance:GoT Volume:=GoT.via (fun x=>(x.layout,x.size,x.versions,x.nodes))
@[go_sem, simp] theorem Volume.eta (x : Volume) : (⟨x.layout, x.size, x.versions, x.nodes⟩ : Volume) = x := rfl
@[ext] structure Stripe where
 vol:Volume
 no:Int
 nodes:(List Int)
instance:GoT Stripe:=GoT.via (fun x=>(x.vol,x.no,x.nodes))
@[go_sem, simp] theorem Stripe.eta (x : Stripe) : (⟨x.vol, x.no, x.nodes⟩ : Stripe) = x := rfl
structure ShelfR where
 up:Bool
 pieces:Row Piece
inductive Tc where
 |cInt
 |cU8
 |cU64
 |cBool
 |cStr
 |cLayout
 |cPiece
 |cShelf
 |cShelfR
 |cVolume
 |cStripe
 |cAct
 |lInt
 |lU8
 |lStr
 |lBool
 |lPiece
 |lShelf
 |lShelfR
 |lAct
 |llU8
 |llStr
 |lllU8
 |rU8
 |rPiece
 |pPiece
def Tc.no:Tc→Nat
 | .cInt=>0
 | .cU8=>1
 | .cU64=>2
 | .cBool=>3
 | .cStr=>4
 | .cLayout=>5
 | .cPiece=>6
 | .cShelf=>7
 | .cShelfR=>8
 | .cVolume=>9
 | .cStripe=>10
 | .cAct=>11
 | .lInt=>12
 | .lU8=>13
 | .lStr=>14
 | .lBool=>15
 | .lPiece=>16
 | .lShelf=>17
 | .lShelfR=>18
 | .lAct=>19
 | .llU8=>20
 | .llStr=>21
 | .lllU8=>22
 | .rU8=>23
 | .rPiece=>24
 | .pPiece=>25
def Tc.of:Nat→Tc
 |0=> .cInt
 |1=> .cU8
 |2=> .cU64
 |3=> .cBool
 |4=> .cStr
 |5=> .cLayout
 |6=> .cPiece
 |7=> .cShelf
 |8=> .cShelfR
 |9=> .cVolume
 |10=> .cStripe
 |11=> .cAct
 |12=> .lInt
 |13=> .lU8
 |14=> .lStr
 |15=> .lBool
 |16=> .lPiece
 |17=> .lShelf
 |18=> .lShelfR
 |19=> .lAct
 |20=> .llU8
 |21=> .llStr
 |22=> .lllU8
 |23=> .rU8
 |24=> .rPiece
 |_=> .pPiece
theorem Tc.of_no (a:Tc):Tc.of a.no=a:=by cases a<;>rfl
instance:DecidableEq Tc:=fun a b=>match Nat.decEq a.no b.no with
 |isTrue h=>isTrue (by rw [←Tc.of_no a,h,Tc.of_no])
 |isFalse h=>isFalse fun e=>h (by rw [e])
abbrev Tc.dn:Tc→Type
 | .cInt=>Int
 | .cU8=>UInt8
 | .cU64=>U64
 | .cBool=>Bool
 | .cStr=>ByteArray
 | .cLayout=>Layout
 | .cPiece=>Piece
 | .cShelf=>Shelf
 | .cShelfR=>ShelfR
 | .cVolume=>Volume
 | .cStripe=>Stripe
 | .cAct=>Act
 | .lInt=>(List Int)
 | .lU8=>(List UInt8)
 | .lStr=>(List ByteArray)
 | .lBool=>(List Bool)
 | .lPiece=>(List Piece)
 | .lShelf=>(List Shelf)
 | .lShelfR=>(List ShelfR)
 | .lAct=>(List Act)
 | .llU8=>(List (List UInt8))
 | .llStr=>(List (List ByteArray))
 | .lllU8=>(List (List (List UInt8)))
 | .rU8=>(Row UInt8)
 | .rPiece=>(Row Piece)
 | .pPiece=>(Ptr Piece)
def lrLayout:LR Layout:= .via (fun x=>(x.nodes,x.data,x.more,x.turn)) (.prod LR.i64 (.prod LR.i64 (.prod LR.i64 LR.i64)))
def lrPiece:LR Piece:= .via (fun x=>(x.version,x.data)) (.prod LR.i64 LR.str)
def lrShelf:LR Shelf:= .via (fun x=>(x.up,x.pieces)) (.prod LR.boo (LR.list lrPiece))
def lrShelfR:LR ShelfR:= .via (fun x=>(x.up,x.pieces)) (.prod LR.boo (LR.row lrPiece))
def lrVolume:LR Volume:= .via (fun x=>(x.layout,x.size,x.versions,x.nodes)) (.prod lrLayout (.prod LR.i64 (.prod (LR.list LR.i64) (LR.list lrShelf))))
def lrStripe:LR Stripe:= .via (fun x=>(x.vol,x.no,x.nodes)) (.prod lrVolume (.prod LR.i64 (LR.list LR.i64)))
def lrAct:LR Act:= .via (fun x=>(x.kind,x.n,x.data)) (.prod LR.i64 (.prod LR.i64 LR.str))
def Tc.lr:(t:Tc)→LR t.dn
 | .cInt=>LR.i64
 | .cU8=>LR.u8
 | .cU64=>LR.u64
 | .cBool=>LR.boo
 | .cStr=>LR.str
 | .cLayout=>lrLayout
 | .cPiece=>lrPiece
 | .cShelf=>lrShelf
 | .cShelfR=>lrShelfR
 | .cVolume=>lrVolume
 | .cStripe=>lrStripe
 | .cAct=>lrAct
 | .lInt=>(LR.list LR.i64)
 | .lU8=>(LR.list LR.u8)
 | .lStr=>(LR.list LR.str)
 | .lBool=>(LR.list LR.boo)
 | .lPiece=>(LR.list lrPiece)
 | .lShelf=>(LR.list lrShelf)
 | .lShelfR=>(LR.list lrShelfR)
 | .lAct=>(LR.list lrAct)
 | .llU8=>(LR.list (LR.list LR.u8))
 | .llStr=>(LR.list (LR.list LR.str))
 | .lllU8=>(LR.list (LR.list (LR.list LR.u8)))
 | .rU8=>(LR.row LR.u8)
 | .rPiece=>(LR.row lrPiece)
 | .pPiece=>(LR.ptr lrPiece)
abbrev tE:TE Tc Tc.dn:=TE.ofL Tc.lr
def lyLayout:LY tE lrLayout:= .via (fun y=>⟨y.1,y.2.1,y.2.2.1,y.2.2.2⟩) (fun _=>rfl) (.prod LY.i64 (.prod LY.i64 (.prod LY.i64 LY.i64)))
def lyPiece:LY tE lrPiece:= .via (fun y=>⟨y.1,y.2⟩) (fun _=>rfl) (.prod LY.i64 LY.str)
def lyShelf:LY tE lrShelf:= .via (fun y=>⟨y.1,y.2⟩) (fun _=>rfl) (.prod LY.boo (LY.list (t:=Tc.cPiece) lyPiece rfl fun _=>rfl))
def lyShelfR:LY tE lrShelfR:= .via (fun y=>⟨y.1,y.2⟩) (fun _=>rfl) (.prod LY.boo (LY.row (t:=Tc.cPiece) lyPiece rfl fun _=>rfl))
def lyVolume:LY tE lrVolume:= .via (fun y=>⟨y.1,y.2.1,y.2.2.1,y.2.2.2⟩) (fun _=>rfl) (.prod lyLayout (.prod LY.i64 (.prod (LY.list (t:=Tc.cInt) LY.i64 rfl fun _=>rfl) (LY.list (t:=Tc.cShelf) lyShelf rfl fun _=>rfl))))
def lyStripe:LY tE lrStripe:= .via (fun y=>⟨y.1,y.2.1,y.2.2⟩) (fun _=>rfl) (.prod lyVolume (.prod LY.i64 (LY.list (t:=Tc.cInt) LY.i64 rfl fun _=>rfl)))
def lyAct:LY tE lrAct:= .via (fun y=>⟨y.1,y.2.1,y.2.2⟩) (fun _=>rfl) (.prod LY.i64 (.prod LY.i64 LY.str))
def Tc.ly:(t:Tc)→LY tE t.lr
 | .cInt=>LY.i64
 | .cU8=>LY.u8
 | .cU64=>LY.u64
 | .cBool=>LY.boo
 | .cStr=>LY.str
 | .cLayout=>lyLayout
 | .cPiece=>lyPiece
 | .cShelf=>lyShelf
 | .cShelfR=>lyShelfR
 | .cVolume=>lyVolume
 | .cStripe=>lyStripe
 | .cAct=>lyAct
 | .lInt=>(LY.list (t:=Tc.cInt) LY.i64 rfl fun _=>rfl)
 | .lU8=>(LY.list (t:=Tc.cU8) LY.u8 rfl fun _=>rfl)
 | .lStr=>(LY.list (t:=Tc.cStr) LY.str rfl fun _=>rfl)
 | .lBool=>(LY.list (t:=Tc.cBool) LY.boo rfl fun _=>rfl)
 | .lPiece=>(LY.list (t:=Tc.cPiece) lyPiece rfl fun _=>rfl)
 | .lShelf=>(LY.list (t:=Tc.cShelf) lyShelf rfl fun _=>rfl)
 | .lShelfR=>(LY.list (t:=Tc.cShelfR) lyShelfR rfl fun _=>rfl)
 | .lAct=>(LY.list (t:=Tc.cAct) lyAct rfl fun _=>rfl)
 | .llU8=>(LY.list (t:=Tc.lU8) (LY.list (t:=Tc.cU8) LY.u8 rfl fun _=>rfl) rfl fun _=>rfl)
 | .llStr=>(LY.list (t:=Tc.lStr) (LY.list (t:=Tc.cStr) LY.str rfl fun _=>rfl) rfl fun _=>rfl)
 | .lllU8=>(LY.list (t:=Tc.llU8) (LY.list (t:=Tc.lU8) (LY.list (t:=Tc.cU8) LY.u8 rfl fun _=>rfl) rfl fun _=>rfl) rfl fun _=>rfl)
 | .rU8=>(LY.row (t:=Tc.cU8) LY.u8 rfl fun _=>rfl)
 | .rPiece=>(LY.row (t:=Tc.cPiece) lyPiece rfl fun _=>rfl)
 | .pPiece=>(LY.ptr lyPiece)
def Tc.ag:Tc→Bool
 | .cLayout| .cPiece| .cShelf| .cShelfR| .cVolume| .cStripe| .cAct=>true
 |_=>false
def hintT (sz bytes:Nat):Option Tc:=bif Nat.beq sz 1&&Nat.beq bytes 8 then some .cInt else bif Nat.beq sz 1&&Nat.beq bytes 1 then some .cU8 else bif Nat.beq sz 1&&Nat.beq bytes 1001 then some .cBool else bif Nat.beq sz 1&&Nat.beq bytes 16 then some .cStr else bif Nat.beq sz 2&&Nat.beq bytes 32 then some .cShelfR else bif Nat.beq sz 2&&Nat.beq bytes 24 then some .cPiece else bif Nat.beq sz 2&&Nat.beq bytes 1032 then some .cShelfR else none
def hrT:Tc→Bool
 | .cShelfR| .rPiece=>true
 |_=>false
def fzT:FZ Tc Tc.dn:=fun t ta=>match t,ta with
 | .rPiece, .cPiece=>fun A=>some ⟨.lPiece,fun x=>x.get A,fun x=>x.ok A∧x.kd≠ .nil⟩
 | .cShelfR, .cPiece=>fun A=>some ⟨.cShelf,fun x=>⟨x.up,x.pieces.get A⟩,fun x=>(True∧(x.pieces.ok A∧x.pieces.kd≠ .nil))⟩
 |_,_=>fun _=>none
theorem fzT_ok (t ta:Tc) (A:List (Nat×List ta.dn)) (t':Tc) (f:t.dn→t'.dn) (O:t.dn→Prop) (h:fzT t ta A=some ⟨t',f,O⟩):FzOk tE ta A t.lr t'.lr f O:=by
 unfold fzT at h
 split at h
 ·cases h;exact FzOk.row rfl fun _=>rfl
 ·cases h;exact FzOk.via (FzOk.prod (FzOk.id LY.boo rfl) (FzOk.row (ta:=Tc.cPiece) rfl fun _=>rfl)) (fun _=>rfl)
 ·simp at h
def thT (t t':Tc):Option (t.dn→t'.dn):=match t,t' with
 | .lPiece, .rPiece=>some fun x=>Row.fix _ x
 | .cShelf, .cShelfR=>some fun x=>⟨x.up,Row.fix _ x.pieces⟩
 |_,_=>none
theorem thT_ok (ρ:Nat→AV) (t t':Tc) (f:t.dn→t'.dn) (h:thT t t'=some f):t'.lr.sz=t.lr.sz∧∀x,t'.lr.ea ρ (f x)=t.lr.ea ρ x:=by
 unfold thT at h
 split at h
 ·cases h;exact ⟨rfl,fun _=>rfl⟩
 ·cases h;exact ⟨rfl,fun _=>rfl⟩
 ·simp at h
def tD:TD Tc Tc.dn:=TD.ofL Tc.ly Tc.ag hintT true (some .cPiece) hrT fzT thT
theorem tD_ok:TDok tD:=TD.ofL_ok fzT_ok thT_ok
def hintW (sz bytes:Nat):Option Tc:=bif Nat.beq sz 1&&Nat.beq bytes 1 then some .cU8 else bif Nat.beq sz 1&&Nat.beq bytes 8 then some .cInt else bif Nat.beq sz 1&&Nat.beq bytes 1001 then some .cBool else bif Nat.beq sz 1&&Nat.beq bytes 24 then some .rU8 else bif Nat.beq sz 1&&Nat.beq bytes 16 then some .cStr else none
def hrW:Tc→Bool
 | .rU8=>true
 |_=>false
def fzW:FZ Tc Tc.dn:=fun t ta=>match t,ta with
 | .rU8, .cU8=>fun A=>some ⟨.lU8,fun x=>x.get A,fun x=>x.ok A∧x.kd≠ .nil⟩
 |_,_=>fun _=>none
theorem fzW_ok (t ta:Tc) (A:List (Nat×List ta.dn)) (t':Tc) (f:t.dn→t'.dn) (O:t.dn→Prop) (h:fzW t ta A=some ⟨t',f,O⟩):FzOk tE ta A t.lr t'.lr f O:=by
 unfold fzW at h
 split at h
 ·cases h;exact FzOk.row rfl fun _=>rfl
 ·simp at h
def thW (t t':Tc):Option (t.dn→t'.dn):=match t,t' with
 | .lU8, .rU8=>some fun x=>Row.fix _ x
 |_,_=>none
theorem thW_ok (ρ:Nat→AV) (t t':Tc) (f:t.dn→t'.dn) (h:thW t t'=some f):t'.lr.sz=t.lr.sz∧∀x,t'.lr.ea ρ (f x)=t.lr.ea ρ x:=by
 unfold thW at h
 split at h
 ·cases h;exact ⟨rfl,fun _=>rfl⟩
 ·simp at h
def tB:TD Tc Tc.dn:=TD.ofL Tc.ly Tc.ag hintW false (some .cU8) hrW fzW thW
theorem tB_ok:TDok tB:=TD.ofL_ok fzW_ok thW_ok
theorem opens_i64:Opens Try.prog 3 Int:=GoT_i64 Try.underlying3 (by kernel_rfl)
theorem opens_Layout:Opens Try.prog 23 Layout:=Opens.via (opens_struct Try.underlying23 rfl (by kernel_rfl) (opens_cons opens_i64 rfl (opens_cons opens_i64 rfl (opens_cons opens_i64 rfl (opens_last opens_i64 rfl))))) _ (fun p=>⟨p.1,p.2.1,p.2.2.1,p.2.2.2⟩) (fun _=>rfl)
theorem opens_Li64:Opens Try.prog 24 (List Int):=opens_slice Try.underlying24 (by kernel_rfl) opens_i64 (by decide)
theorem opens_bool:Opens Try.prog 4 Bool:=GoT_bool Try.underlying4 (by kernel_rfl)
theorem opens_str:Opens Try.prog 9 ByteArray:=GoT_str Try.underlying9 (by kernel_rfl)
theorem opens_Piece:Opens Try.prog 61 Piece:=Opens.via (opens_struct Try.underlying61 rfl (by kernel_rfl) (opens_cons opens_i64 rfl (opens_last opens_str rfl))) _ (fun p=>⟨p.1,p.2⟩) (fun _=>rfl)
theorem opens_LPiece:Opens Try.prog 41 (List Piece):=opens_slice Try.underlying41 (by kernel_rfl) opens_Piece (by decide)
theorem opens_Shelf:Opens Try.prog 43 Shelf:=Opens.via (opens_struct Try.underlying43 rfl (by kernel_rfl) (opens_cons opens_bool rfl (opens_last opens_LPiece rfl))) _ (fun p=>⟨p.1,p.2⟩) (fun _=>rfl)
theorem opens_LShelf:Opens Try.prog 25 (List Shelf):=opens_slice Try.underlying25 (by kernel_rfl) opens_Shelf (by decide)
theorem opens_Volume:Opens Try.prog 27 Volume:=Opens.via (opens_struct Try.underlying27 rfl (by kernel_rfl) (opens_cons opens_Layout rfl (opens_cons opens_i64 rfl (opens_cons opens_Li64 rfl (opens_last opens_LShelf rfl))))) _ (fun p=>⟨p.1,p.2.1,p.2.2.1,p.2.2.2⟩) (fun _=>rfl)
def mxL (M:List (List UInt8)):Mx:=fun i j=>gd 0 (gd [] M i) j
def Rect (n m:Nat) (M:List (List UInt8)):Prop:=M.length=n∧∀r,r∈M→r.length=m
theorem Rect.row {n m:Nat} {M:List (List UInt8)} (h:Rect n m M) {i:Nat} (hi:i<n):(gd [] M i).length=m∧gd [] M i∈M:=by
 have hm:=List.mem_of_getElem? (gd_get (d:=([]:List UInt8)) (xs:=M) (i:=i) (by rw [h.1];exact hi))
 exact ⟨h.2 _ hm,hm⟩
theorem gd_map {f:UInt8→UInt8} (h0:f 0=0) (r:List UInt8) (j:Nat):gd 0 (r.map f) j=f (gd 0 r j):=by
 unfold gd;rw [List.getElem?_map]
 cases r[j]? with
 |none=>exact h0.symm
 |some x=>rfl
def scaleL (r:List UInt8) (f:UInt8):List UInt8:=r.map fun x=>gmul x f
def addL (r q:List UInt8) (f:UInt8):List UInt8:=List.zipWith (fun x y=>x^^^gmul f y) r q
theorem addL_get {r q:List UInt8} (h:r.length=q.length) (f:UInt8) (j:Nat):gd 0 (addL r q f) j=gd 0 r j^^^gmul f (gd 0 q j):=by
 unfold addL gd
 rw [List.getElem?_zipWith]
 rcases Nat.lt_or_ge j r.length with hj|hj
 ·rw [List.getElem?_eq_getElem hj,List.getElem?_eq_getElem (show j<q.length by omega)];rfl
 ·rw [List.getElem?_eq_none hj,List.getElem?_eq_none (by omega)]
  show (0:UInt8)=0^^^gmul f 0
  rw [gmul_zero];rfl
theorem addL_len {r q:List UInt8} (h:r.length=q.length) (f:UInt8):(addL r q f).length=r.length:=by
 unfold addL;rw [List.length_zipWith];omega
def swapL (M:List (List UInt8)) (d i0:Nat):List (List UInt8):=(M.set d (gd [] M i0)).set i0 (gd [] M d)
theorem gd_set2 {α:Type} {z:α} {l:List α} {i j:Nat} {x:α} (hi:i<l.length):gd z (l.set i x) j=if i=j then x else gd z l j:=by
 unfold gd
 by_cases h:i=j
 ·subst h;rw [List.getElem?_set_self hi,if_pos rfl];rfl
 ·rw [List.getElem?_set_ne h,if_neg h]
theorem swapL_row {n m:Nat} {M:List (List UInt8)} (h:Rect n m M) {d i0:Nat} (hd:d<n) (hi:i0<n) (i:Nat):gd [] (swapL M d i0) i=if i=d then gd [] M i0 else if i=i0 then gd [] M d else gd [] M i:=by
 have hl:=h.1
 unfold swapL
 rw [gd_set2 (by rw [List.length_set];omega),gd_set2 (by omega)]
 by_cases h1:i0=i
 ·subst h1
  rw [if_pos rfl]
  by_cases h2:i0=d
  ·subst h2;rw [if_pos rfl]
  ·rw [if_neg h2,if_pos rfl]
 ·rw [if_neg h1]
  by_cases h2:d=i
  ·subst h2;rw [if_pos rfl,if_pos rfl]
  ·rw [if_neg h2,if_neg (fun hh=>h2 hh.symm),if_neg (fun hh=>h1 hh.symm)]
theorem swapL_rect {n m:Nat} {M:List (List UInt8)} (h:Rect n m M) {d i0:Nat} (hd:d<n) (hi:i0<n):Rect n m (swapL M d i0):=by
 refine ⟨by unfold swapL;simp;exact h.1,fun r hr=> ?_⟩
 unfold swapL at hr
 rcases List.mem_or_eq_of_mem_set hr with hr|rfl
 ·rcases List.mem_or_eq_of_mem_set hr with hr|rfl
  ·exact h.2 r hr
  ·exact (h.row hi).1
 ·exact (h.row hd).1
def oneL (M:List (List UInt8)) (c d:Nat):List (List UInt8):=M.set d (scaleL (gd [] M d) (ginv (gd 0 (gd [] M d) c)))
theorem oneL_rect {n m:Nat} {M:List (List UInt8)} (h:Rect n m M) {c d:Nat} (hd:d<n):Rect n m (oneL M c d):=by
 refine ⟨by unfold oneL;simp;exact h.1,fun r hr=> ?_⟩
 rcases List.mem_or_eq_of_mem_set hr with hr|rfl
 ·exact h.2 r hr
 ·unfold scaleL;rw [List.length_map];exact (h.row hd).1
def offL (M:List (List UInt8)) (c d:Nat):List (List UInt8):=(List.range M.length).map fun i=>if i=d then gd [] M d else addL (gd [] M i) (gd [] M d) (gd 0 (gd [] M i) c)
theorem offL_row {n m:Nat} {M:List (List UInt8)} (h:Rect n m M) {c d i:Nat} (hi:i<n):gd [] (offL M c d) i=if i=d then gd [] M d else addL (gd [] M i) (gd [] M d) (gd 0 (gd [] M i) c):=by
 unfold offL
 show ((List.map _ _)[i]?).getD []=_
 rw [List.getElem?_map,List.getElem?_range (by rw [h.1];exact hi)];rfl
theorem offL_rect {n m:Nat} {M:List (List UInt8)} (h:Rect n m M) {c d:Nat} (hd:d<n):Rect n m (offL M c d):=by
 refine ⟨by unfold offL;simp;exact h.1,fun r hr=> ?_⟩
 unfold offL at hr
 obtain ⟨i,hi,rfl⟩:=List.mem_map.1 hr
 have hi':i<n:=by rw [←h.1];simpa using hi
 split
 ·exact (h.row hd).1
 ·rw [addL_len (by rw [(h.row hi').1,(h.row hd).1])];exact (h.row hi').1
def pivL (M:List (List UInt8)) (c d i0:Nat):List (List UInt8):=offL (oneL (swapL M d i0) c d) c d
theorem pivL_rect {n m:Nat} {M:List (List UInt8)} (h:Rect n m M) {c d i0:Nat} (hd:d<n) (hi:i0<n):Rect n m (pivL M c d i0):=offL_rect (oneL_rect (swapL_rect h hd hi) hd) hd
theorem swapL_mx {n m:Nat} {M:List (List UInt8)} (h:Rect n m M) {d i0:Nat} (hd:d<n) (hi:i0<n) (i j:Nat):mxL (swapL M d i0) i j=swapM (mxL M) d i0 i j:=by
 unfold mxL swapM
 rw [swapL_row h hd hi]
 by_cases h1:i=d
 ·rw [if_pos h1,if_pos h1]
 ·rw [if_neg h1,if_neg h1]
  by_cases h2:i=i0
  ·rw [if_pos h2,if_pos h2]
  ·rw [if_neg h2,if_neg h2]
theorem oneL_mx {n m:Nat} {M:List (List UInt8)} (h:Rect n m M) {c d:Nat} (hd:d<n) (i j:Nat):mxL (oneL M c d) i j=scaleM (mxL M) d (ginv (mxL M d c)) i j:=by
 unfold mxL oneL scaleM
 rw [gd_set2 (by rw [h.1];exact hd)]
 by_cases h1:d=i
 ·subst h1;rw [if_pos rfl,if_pos rfl];unfold scaleL;exact gd_map (f:=fun x=>gmul x (ginv (gd 0 (gd [] M d) c))) (zero_gmul _) _ _
 ·rw [if_neg h1,if_neg (fun hh=>h1 hh.symm)]
theorem offL_mx {n m:Nat} {M:List (List UInt8)} (h:Rect n m M) {c d:Nat} (hd:d<n) {i:Nat} (hi:i<n) (j:Nat):mxL (offL M c d) i j=elimM (fun i=>mxL M i c) d (mxL M) i j:=by
 unfold mxL elimM
 rw [offL_row h hi]
 by_cases h1:i=d
 ·rw [if_pos h1,if_pos h1]
 ·rw [if_neg h1,if_neg h1,addL_get (by rw [(h.row hi).1,(h.row hd).1])]
theorem pivL_mx {n m:Nat} {M:List (List UInt8)} (h:Rect n m M) {c d i0:Nat} (hd:d<n) (h0:i0<n) {i:Nat} (hi:i<n) (j:Nat):mxL (pivL M c d i0) i j=pivM (mxL M) c d i0 i j:=by
 have hs:=swapL_rect h hd h0
 have ho:=oneL_rect (c:=c) hs hd
 have e1:∀i j,mxL (oneL (swapL M d i0) c d) i j=scaleM (swapM (mxL M) d i0) d (ginv (swapM (mxL M) d i0 d c)) i j:=fun i j=>by
  rw [oneL_mx hs hd,swapL_mx h hd h0]
  unfold scaleM
  simp only [swapL_mx h hd h0]
 unfold pivL pivM
 rw [offL_mx ho hd hi]
 unfold elimM
 simp only [e1]
def findR (M:List (List UInt8)) (c d:Nat):Nat→Option Nat
 |0=>none
 |f+1=>if gd 0 (gd [] M d) c≠0 then some d else findR M c (d+1) f
theorem findR_some {M:List (List UInt8)} {c:Nat}:∀{f d i:Nat},findR M c d f=some i→d≤i∧i<d+f∧mxL M i c≠0
 |0,d,i,h=>by simp [findR] at h
 |f+1,d,i,h=>by
  unfold findR at h
  split at h
  ·rename_i h1;simp at h;subst h;exact ⟨Nat.le_refl _,by omega,h1⟩
  ·have:=findR_some h;exact ⟨by omega,by omega,this.2.2⟩
theorem findR_none {M:List (List UInt8)} {c:Nat}:∀{f d:Nat},findR M c d f=none→∀i,d≤i→i<d+f→mxL M i c=0
 |0,d,_,i,h1,h2=>by omega
 |f+1,d,h,i,h1,h2=>by
  unfold findR at h
  split at h
  ·simp at h
  ·rename_i hz
   by_cases hi:i=d
   ·subst hi;exact Classical.not_not.1 hz
   ·exact findR_none h i (by omega) (by omega)
def clrL:Nat→List (List UInt8)→Nat→Nat→List (List UInt8)×Nat
 |0,M,_,d=>(M,d)
 |f+1,M,c,d=>match findR M c d (M.length - d) with
  |none=>clrL f M (c+1) d
  |some i0=>if d+1=M.length then (pivL M c d i0,d+1) else clrL f (pivL M c d i0) (c+1) (d+1)
theorem clr_law {n m:Nat} {A:Mx}:∀(f:Nat) (M:List (List UInt8)) (c d:Nat) (p:Nat→Nat),Rect n m M→RE n A (mxL M)→Ech n (mxL M) c d p→d<n→
  Rect n m (clrL f M c d).1∧RE n A (mxL (clrL f M c d).1)∧∃c' p',c'≤c+f∧Ech n (mxL (clrL f M c d).1) c' (clrL f M c d).2 p'∧(c'=c+f∨(clrL f M c d).2=n)
 |0,M,c,d,p,h1,h2,h3,_=>⟨h1,h2,c,p,Nat.le_refl _,h3, .inl rfl⟩
 |f+1,M,c,d,p,h1,h2,h3,hd=>by
  have hl:=h1.1
  unfold clrL
  cases hf:findR M c d (M.length - d) with
  |none=>
   have hz:=findR_none hf
   simp only
   obtain ⟨k1,k2,c',p',k3,k4,k5⟩:=clr_law f M (c+1) d p h1 h2 (ech_none h3 fun i hi hin=>hz i hi (by omega)) hd
   exact ⟨k1,k2,c',p',by omega,k4,by omega⟩
  |some i0=>
   obtain ⟨q1,q2,q3⟩:=findR_some hf
   have hi0:i0<n:=by omega
   have e:∀i j,i<n→mxL (pivL M c d i0) i j=pivM (mxL M) c d i0 i j:=fun i j hi=>pivL_mx h1 hd hi0 hi j
   have r1:=pivL_rect (c:=c) h1 hd hi0
   have r2:=(piv_re (c:=c) h2 hd hi0).congr e
   have s3:=ech_some h3 q1 hi0 q3
   have r3:Ech n (mxL (pivL M c d i0)) (c+1) (d+1) fun t=>if t<d then p t else c:=
    ⟨s3.dn,s3.pc,s3.up,fun t i ht hi=>by rw [e i _ hi];exact s3.one t i ht hi,fun i j hdi hi hj=>by rw [e i j hi];exact s3.zero i j hdi hi hj⟩
   simp only
   by_cases hn:d+1=M.length
   ·rw [if_pos hn]
    exact ⟨r1,r2,c+1,_,by omega,r3, .inr (by omega)⟩
   ·rw [if_neg hn]
    obtain ⟨k1,k2,c',p',k3,k4,k5⟩:=clr_law f _ (c+1) (d+1) _ r1 r2 r3 (by omega)
    exact ⟨k1,k2,c',p',by omega,k4,by omega⟩
open Go.RowKit
theorem gd_all2 {α:Type} {d:α} {l:List α} {P:α→Prop} (h:∀j,j<l.length→P (gd d l j)):∀x,x∈l→P x:=fun x hx=>by
 obtain ⟨i,hi,rfl⟩:=List.getElem_of_mem hx
 have:=h i hi
 unfold gd at this
 rw [List.getElem?_eq_getElem hi] at this
 exact this
theorem mea_lt' {i n:Int} (h:i<n):(n - (i+1)).toNat<(n - i).toNat:=by omega
def Layout.e (l:Layout):Int:=if ¬(1≤l.nodes∧l.nodes≤12)∨¬(1≤l.data∧l.data≤8)∨¬(1≤l.more∧l.more≤6) then 3 else if l.nodes<l.data+l.more then 8 else if ¬(0≤l.turn∧l.turn≤l.nodes - 1) then 3 else 0
structure Layout.K (l:Layout):Prop where
 n:1≤l.nodes∧l.nodes≤12
 d:1≤l.data∧l.data≤8
 m:1≤l.more∧l.more≤6
 s:l.data+l.more≤l.nodes
 t:0≤l.turn∧l.turn<l.nodes
theorem Layout.e_ok {l:Layout}:l.e=0↔l.K:=by
 unfold Layout.e
 constructor
 ·intro h
  split at h;simp at h
  split at h;simp at h
  split at h;simp at h
  exact ⟨by omega,by omega,by omega,by omega,by omega⟩
 ·intro ⟨h1,h2,h3,h4,h5⟩
  rw [if_neg (by omega),if_neg (by omega),if_neg (by omega)]
def Layout.node (l:Layout) (s p:Int):Int:=(l.turn+s+p)%l.nodes
def Layout.pc (l:Layout) (s n:Int):Int:=(n - l.turn - s)%l.nodes
def Layout.has (l:Layout) (s n:Int):Bool:=decide (l.pc s n<l.data+l.more)
theorem Layout.K.node {l:Layout} (h:l.K) (s p:Int):0≤l.node s p∧l.node s p<l.nodes:=by
 have:=h.n
 exact ⟨Int.emod_nonneg _ (by omega),Int.emod_lt_of_pos _ (by omega)⟩
theorem Layout.K.pc {l:Layout} (h:l.K) (s n:Int):0≤l.pc s n∧l.pc s n<l.nodes:=by
 have:=h.n
 exact ⟨Int.emod_nonneg _ (by omega),Int.emod_lt_of_pos _ (by omega)⟩
theorem tmod_fix {a n:Int} (hn:0<n):(a.tmod n<0→a.tmod n+n=a%n)∧(¬a.tmod n<0→a.tmod n=a%n):=by
 have h:=Int.tmod_add_mul_tdiv a n
 have h1:=Int.tmod_lt_of_pos a hn
 have h2:=Int.tmod_lt_of_pos (-a) hn
 rw [Int.neg_tmod] at h2
 constructor
 ·intro hl
  have e:a=(a.tmod n+n)+n*(a.tdiv n - 1):=by rw [Int.mul_sub];omega
  rw [e,Int.add_mul_emod_self_left, ←e]
  exact (Int.emod_eq_of_lt (by omega) (by omega)).symm
 ·intro hl
  have e:a=a.tmod n+n*a.tdiv n:=by omega
  conv=>rhs;rw [e]
  rw [Int.add_mul_emod_self_left]
  exact (Int.emod_eq_of_lt (by omega) (by omega)).symm
theorem tmod_pos {a n:Int} (ha:0≤a) (hn:0<n):a.tmod n=a%n:=(tmod_fix hn).2 (by have:=Int.tmod_nonneg n ha;omega)
theorem node_iff {l:Layout} (h:l.K) {s p n:Int} (hp:0≤p∧p<l.nodes) (hn:0≤n∧n<l.nodes):l.node s p=n↔l.pc s n=p:=by
 have h0:=h.n
 unfold Layout.node Layout.pc
 constructor
 ·intro e
  rw [←e]
  have:((l.turn+s+p)%l.nodes - l.turn - s)=p+l.nodes*(-((l.turn+s+p) / l.nodes)):=by
   have:=Int.emod_add_mul_ediv (l.turn+s+p) l.nodes
   rw [Int.mul_neg];omega
  rw [this,Int.add_mul_emod_self_left]
  exact Int.emod_eq_of_lt hp.1 hp.2
 ·intro e
  rw [←e]
  have:(l.turn+s+(n - l.turn - s)%l.nodes)=n+l.nodes*(-((n - l.turn - s) / l.nodes)):=by
   have:=Int.emod_add_mul_ediv (n - l.turn - s) l.nodes
   rw [Int.mul_neg];omega
  rw [this,Int.add_mul_emod_self_left]
  exact Int.emod_eq_of_lt hn.1 hn.2
def Layout.piece (l:Layout) (s n:Int):Int×Bool×Int:=
 if ¬l.e=0 then (0,false,l.e) else if ¬(0≤s∧s≤63∧0≤n∧n<l.nodes) then (0,false,3) else if l.data+l.more≤l.pc s n then (0,false,0) else (l.pc s n,true,0)
theorem Layout.K.piece {l:Layout} (h:l.K) {s n:Int} (hs:0≤s∧s≤63) (hn:0≤n∧n<l.nodes):l.piece s n=(if l.has s n=true then l.pc s n else 0,l.has s n,0):=by
 unfold Layout.piece Layout.has
 rw [if_neg (by rw [Layout.e_ok.2 h];simp),if_neg (by omega)]
 by_cases e:l.data+l.more≤l.pc s n
 ·rw [if_pos e,decide_eq_false (by omega)];simp
 ·rw [if_neg e,decide_eq_true (by omega)];simp
theorem lay_err {l:Layout} {s n:Int} (h:¬l.e=0):l.piece s n=(0,false,l.e):=by unfold Layout.piece;rw [if_pos h]
theorem lay_out {l:Layout} {s n:Int} (h:l.e=0) (h2:s<0∨63<s∨n<0∨l.nodes≤n):l.piece s n=(0,false,3):=by unfold Layout.piece;rw [if_neg (by simp [h]),if_pos (by omega)]
open Go.RowKit
def ixV {α:Type} (p:α→Bool):List α→Int→Int
 |[],_=> -1
 |a::r,k=>if p a=true then k else ixV p r (k+1)
theorem ixV_neg {α:Type} {p:α→Bool}:∀{l:List α} {k:Int},0≤k→(ixV p l k<0↔∀a,a∈l→p a=false)
 |[],k,h=>by simp [ixV]
 |a::r,k,h=>by
  unfold ixV
  by_cases hp:p a=true
  ·rw [if_pos hp]
   exact ⟨fun hh=>by omega,fun hh=>by have:=hh a (List.mem_cons_self ..);rw [hp] at this;simp at this⟩
  ·rw [if_neg hp,ixV_neg (by omega)]
   exact ⟨fun hh b hb=>by rcases List.mem_cons.1 hb with e|e;rw [e];simpa using hp;exact hh b e,fun hh b hb=>hh b (List.mem_cons_of_mem _ hb)⟩
theorem ixV_any {α:Type} {p:α→Bool} {l:List α}:decide (0≤ixV p l 0)=l.any p:=by
 have h:=ixV_neg (p:=p) (l:=l) (k:=0) (Int.le_refl _)
 by_cases hh:ixV p l 0<0
 ·rw [decide_eq_false (by omega)]
  have:=h.1 hh
  symm
  rw [List.any_eq_false]
  intro x hx;rw [this x hx];simp
 ·rw [decide_eq_true (by omega)]
  symm
  rw [List.any_eq_true]
  exact Classical.byContradiction fun hn=>hh (h.2 fun a ha=>by
   cases hq:p a with
   |false=>rfl
   |true=>exact absurd ⟨a,ha,hq⟩ hn)
structure IxV {α:Type} (p:α→Bool) (xs:List α) (k:Int):Prop where
 lo:0≤k
 hi:k≤xs.length
 few:xs.length≤1000000
 eq:ixV p (xs.drop k.toNat) k=ixV p xs 0
theorem IxV.start {α:Type} {p:α→Bool} {xs:List α} (h:xs.length≤1000000):IxV p xs 0:=⟨by omega,by omega,h,rfl⟩
theorem IxV.no {α:Type} {p:α→Bool} {d:α} {xs:List α} {k:Int} (h:IxV p xs k) (hk:k<xs.length) (hp:¬p (gd d xs k.toNat)=true):IxV p xs (k+1):=by
 have h0:=h.lo
 refine ⟨by omega,by omega,h.few, ?_⟩
 rw [←h.eq,gd_drop d (xs:=xs) (i:=k.toNat) (by omega),ixV,if_neg hp,show (k+1).toNat=k.toNat+1 by omega]
theorem IxV.yes {α:Type} {p:α→Bool} {d:α} {xs:List α} {k:Int} (h:IxV p xs k) (hk:k<xs.length) (hp:p (gd d xs k.toNat)=true):k=ixV p xs 0:=by
 have h0:=h.lo
 rw [←h.eq,gd_drop d (xs:=xs) (i:=k.toNat) (by omega),ixV,if_pos hp]
theorem IxV.fin {α:Type} {p:α→Bool} {xs:List α} {k:Int} (h:IxV p xs k) (hk:xs.length≤k): -1=ixV p xs 0:=by
 rw [←h.eq,List.drop_eq_nil_of_le (by omega)];rfl
abbrev L0:Layout:=⟨0,0,0,0⟩
abbrev Volume.at_ (v:Volume) (n s:Int):Piece:=gd ⟨0,ByteArray.empty⟩ (gd ⟨false,[]⟩ v.nodes n.toNat).pieces s.toNat
def pieceE (v:Volume) (n s:Int):Int:=
 if (v.layout.has s n=false∧¬((v.at_ n s).version=0∧(v.at_ n s).data=ByteArray.empty))∨(v.layout.has s n=true∧¬((v.at_ n s).data.size:Int)=v.size) then 1 else if ¬(0≤(v.at_ n s).version∧(v.at_ n s).version≤gd 0 v.versions s.toNat) then 3 else 0
def scE (f:Int→Int):Nat→Int→Int
 |0,_=>0
 |k+1,i=>if f i=0 then scE f k (i+1) else f i
structure ScE (f:Int→Int) (n i:Int):Prop where
 lo:0≤i
 hi:i≤n
 eq:scE f (n - i).toNat i=scE f n.toNat 0
theorem ScE.start {f:Int→Int} {n:Int} (h:0≤n):ScE f n 0:=⟨by omega,h,by rw [Int.sub_zero]⟩
theorem ScE.step {f:Int→Int} {n i:Int} (h:ScE f n i) (hi:i<n) (e:f i=0):ScE f n (i+1):=⟨by have:=h.lo;omega,by omega,by
 rw [←h.eq,show (n - i).toNat=(n - (i+1)).toNat+1 by omega,scE,if_pos e]⟩
theorem ScE.bad {f:Int→Int} {n i:Int} (h:ScE f n i) (hi:i<n) (e:¬f i=0):f i=scE f n.toNat 0:=by
 rw [←h.eq,show (n - i).toNat=(n - (i+1)).toNat+1 by omega,scE,if_neg e]
theorem ScE.fin {f:Int→Int} {n i:Int} (h:ScE f n i) (hi:n≤i):scE f n.toNat 0=0:=by
 rw [←h.eq,show (n - i).toNat=0 by have:=h.hi;omega];rfl
theorem scE_zero {f:Int→Int}:∀{k:Nat} {i:Int},scE f k i=0↔∀j,i≤j→j<i+k→f j=0
 |0,i=>⟨fun _ j h1 h2=>by omega,fun _=>rfl⟩
 |k+1,i=>by
  unfold scE
  by_cases e:f i=0
  ·rw [if_pos e,scE_zero]
   constructor
   ·intro h j h1 h2
    by_cases ej:j=i
    ·rw [ej];exact e
    ·exact h j (by omega) (by omega)
   ·intro h j h1 h2;exact h j (by omega) (by omega)
  ·rw [if_neg e]
   exact ⟨fun h=>absurd h e,fun h=>h i (by omega) (by omega)⟩
def rowE (v:Volume) (n:Int):Int:=scE (pieceE v n) (v.versions.length:Int).toNat 0
def pVr (n:Int):Bool:=decide (¬(1≤n∧n≤1000000))
def pSh (k:Int) (s:Shelf):Bool:=decide (¬(s.pieces.length:Int)=k)
def chkV (v:Volume):Int:=
 if ¬v.layout.e=0 then v.layout.e else if ¬(1≤v.size∧v.size≤64)∨¬(1≤(v.versions.length:Int)∧(v.versions.length:Int)≤64)∨v.versions.any pVr=true then 3 else if ¬(v.nodes.length:Int)=v.layout.nodes∨v.nodes.any (pSh v.versions.length)=true then 1 else scE (rowE v) (v.nodes.length:Int).toNat 0
structure Volume.K (v:Volume):Prop where
 lay:v.layout.K
 siz:1≤v.size∧v.size≤64
 str:1≤v.versions.length∧v.versions.length≤64
 ver:∀x,x∈v.versions→1≤x∧x≤1000000
 nds:(v.nodes.length:Int)=v.layout.nodes
 pcs:∀x,x∈v.nodes→x.pieces.length=v.versions.length
 ok:∀n s:Int,0≤n→n<v.nodes.length→0≤s→s<v.versions.length→pieceE v n s=0
theorem chk_iff {v:Volume}:chkV v=0↔v.K:=by
 unfold chkV
 constructor
 ·intro h
  by_cases h1:¬v.layout.e=0
  ·rw [if_pos h1] at h;exact absurd h h1
  ·rw [if_neg h1] at h
   by_cases h2:¬(1≤v.size∧v.size≤64)∨¬(1≤(v.versions.length:Int)∧(v.versions.length:Int)≤64)∨v.versions.any pVr=true
   ·rw [if_pos h2] at h;simp at h
   ·rw [if_neg h2] at h
    by_cases h3:¬(v.nodes.length:Int)=v.layout.nodes∨v.nodes.any (pSh v.versions.length)=true
    ·rw [if_pos h3] at h;simp at h
    ·rw [if_neg h3] at h
     have a1:∀x,x∈v.versions→1≤x∧x≤1000000:=fun x hx=>by
      have:¬pVr x=true:=fun hh=>h2 (.inr (.inr (List.any_eq_true.2 ⟨x,hx,hh⟩)))
      unfold pVr at this;simpa using this
     have a2:∀x,x∈v.nodes→x.pieces.length=v.versions.length:=fun x hx=>by
      have:¬pSh v.versions.length x=true:=fun hh=>h3 (.inr (List.any_eq_true.2 ⟨x,hx,hh⟩))
      unfold pSh at this;simp at this;omega
     refine ⟨Layout.e_ok.1 (Classical.not_not.1 h1),by omega,by omega,a1,by omega,a2,fun n s h4 h5 h6 h7=> ?_⟩
     have:=scE_zero.1 (scE_zero.1 h n h4 (by omega)) s h6 (by omega)
     exact this
 ·intro h
  have h1:=Layout.e_ok.2 h.lay;have h2:=h.siz;have h3:=h.str;have h4:=h.nds
  have b1:¬v.versions.any pVr=true:=fun hh=>by
   obtain ⟨x,hx,hp⟩:=List.any_eq_true.1 hh
   have:=h.ver x hx
   unfold pVr at hp;simp at hp;omega
  have b2:¬v.nodes.any (pSh v.versions.length)=true:=fun hh=>by
   obtain ⟨x,hx,hp⟩:=List.any_eq_true.1 hh
   have:=h.pcs x hx
   unfold pSh at hp;simp at hp;omega
  rw [if_neg (by omega),if_neg (by rintro (hh|hh|hh);omega;omega;exact b1 hh),if_neg (by rintro (hh|hh);omega;exact b2 hh),scE_zero]
  intro n hn1 hn2
  unfold rowE
  rw [scE_zero]
  intro s hs1 hs2
  exact h.ok n s hn1 (by omega) hs1 (by omega)
def k_37:Con Tc Tc.dn:=⟨37,[.ty .cInt, .ty .cInt, .ty .cInt],fun x=>(fun (n:Int) (low:Int) (high:Int)=>True) x.1 x.2.1 x.2.2.1,[.cBool],fun x=>(fun (n:Int) (low:Int) (high:Int)=>decide (low≤n∧n≤high)) x.1 x.2.1 x.2.2.1⟩
theorem k_37_v (n:Int) (low:Int) (high:Int):(low≤n→low≤n)∧(low≤n→low≤n)∧(low≤n→low≤n)∧(decide (low≤n)&&decide (n≤high))=decide (low≤n∧n≤high):=by
 (repeat' (first|apply And.intro|intro _))<;>first|assumption|trivial|omega|(grind [])|trace_state
theorem k_37_ok:k_37.Ok Try.prog tD:=con_ok tD_ok (Δ:=[]) trivial (Ω:=[]) trivial k_37 F37_ok F37_call (fun _=>[]) (fun _=>trivial) 0 (fun x=>(fun (n:Int) (low:Int) (high:Int)=>(fun _=>none)) x.1 x.2.1 x.2.2.1) fun x hp=>Eq.mp (by kernel_rfl) (k_37_v x.1 x.2.1 x.2.2.1)
def k_38:Con Tc Tc.dn:=⟨38,[.ty .cLayout],fun x=>(fun (l:Layout)=>l.K∨(1≤l.data∧l.data≤8∧1≤l.more∧l.more≤6)) x.1,[.cInt],fun x=>(fun (l:Layout)=>l.data+l.more) x.1⟩
theorem k_38_v (l:Layout) (hp:l.K∨(1≤l.data∧l.data≤8∧1≤l.more∧l.more≤6)):I64 (l.data+l.more)∧l.data+l.more=l.data+l.more:=by
 have h:1≤l.data∧l.data≤8∧1≤l.more∧l.more≤6:=by rcases hp with h|h;exact ⟨h.d.1,h.d.2,h.m.1,h.m.2⟩;exact h
 (repeat' (first|apply And.intro|intro _))<;>first|assumption|trivial|omega|(grind [I64])|trace_state
theorem k_38_ok:k_38.Ok Try.prog tD:=con_ok tD_ok (Δ:=[]) trivial (Ω:=[]) trivial k_38 F38_ok F38_call (fun _=>[]) (fun _=>trivial) 0 (fun x=>(fun (l:Layout)=>(fun _=>none)) x.1) fun x hp=>Eq.mp (by kernel_rfl) (k_38_v x.1 hp)
def k_26:Con Tc Tc.dn:=⟨26,[.ty .cLayout],fun x=>(fun (l:Layout)=>True) x.1,[.cInt],fun x=>(fun (l:Layout)=>l.e) x.1⟩
theorem k_26_v (l:Layout):True∧(decide ((1:Int)≤l.nodes∧l.nodes≤(12:Int))= !true→(decide ((1:Int)≤l.nodes∧l.nodes≤(12:Int))= !true→(3:Int)=l.e)∧(decide ((1:Int)≤l.nodes∧l.nodes≤(12:Int))= !false→(l.K∨(1:Int)≤l.data∧l.data≤(8:Int)∧(1:Int)≤l.more∧l.more≤(6:Int))∧(l.nodes<l.data+l.more→(8:Int)=l.e)∧(l.data+l.more≤l.nodes→I64 (l.nodes - (1:Int))∧True∧(decide ((0:Int)≤l.turn∧l.turn≤l.nodes - (1:Int))= !true→(3:Int)=l.e)∧(decide ((0:Int)≤l.turn∧l.turn≤l.nodes - (1:Int))= !false→(0:Int)=l.e))))∧(decide ((1:Int)≤l.nodes∧l.nodes≤(12:Int))= !false→True∧(decide ((1:Int)≤l.data∧l.data≤(8:Int))= !!true→True)∧(decide ((1:Int)≤l.data∧l.data≤(8:Int))= !true∧decide ((1:Int)≤l.data∧l.data≤(8:Int))= !true∨decide ((1:Int)≤l.data∧l.data≤(8:Int))= !!true∧decide ((1:Int)≤l.more∧l.more≤(6:Int))= !true→(3:Int)=l.e)∧((decide ((1:Int)≤l.data∧l.data≤(8:Int))= !false∨decide ((1:Int)≤l.data∧l.data≤(8:Int))= !false)∧(decide ((1:Int)≤l.data∧l.data≤(8:Int))= !!false∨decide ((1:Int)≤l.more∧l.more≤(6:Int))= !false)→(l.K∨(1:Int)≤l.data∧l.data≤(8:Int)∧(1:Int)≤l.more∧l.more≤(6:Int))∧(l.nodes<l.data+l.more→(8:Int)=l.e)∧(l.data+l.more≤l.nodes→I64 (l.nodes - (1:Int))∧True∧(decide ((0:Int)≤l.turn∧l.turn≤l.nodes - (1:Int))= !true→(3:Int)=l.e)∧(decide ((0:Int)≤l.turn∧l.turn≤l.nodes - (1:Int))= !false→(0:Int)=l.e)))):=by
 unfold Layout.e
 (try simp only [Bool.not_false,Bool.not_true,decide_eq_true_eq,decide_eq_false_iff_not])
 (repeat' (first|apply And.intro|intro _))<;>first|assumption|trivial|omega|(focus ((repeat (first|rw [if_pos (by omega)]|rw [if_neg (by omega)]));done))|(grind [I64])|trace_state
theorem k_26_ok:k_26.Ok Try.prog tD:=con_ok tD_ok (Δ:=[k_37,k_38]) ⟨k_37_ok,k_38_ok,trivial⟩ (Ω:=[]) trivial k_26 F26_ok F26_call (fun _=>[]) (fun _=>trivial) 0 (fun x=>(fun (l:Layout)=>(fun _=>none)) x.1) fun x hp=>Eq.mp (by kernel_rfl) (k_26_v x.1)
def k_36:Con Tc Tc.dn:=⟨36,[.ty .cInt],fun x=>(fun (n:Int)=>True) x.1,[.cBool],fun x=>(fun (n:Int)=>decide (0≤n∧n≤63)) x.1⟩
theorem k_36_v (n:Int):True∧decide ((0:Int)≤n∧n≤(63:Int))=decide ((0:Int)≤n∧n≤(63:Int)):=by
 (repeat' (first|apply And.intro|intro _))<;>first|assumption|trivial|omega|(grind [])|trace_state
theorem k_36_ok:k_36.Ok Try.prog tD:=con_ok tD_ok (Δ:=[k_37]) ⟨k_37_ok,trivial⟩ (Ω:=[]) trivial k_36 F36_ok F36_call (fun _=>[]) (fun _=>trivial) 0 (fun x=>(fun (n:Int)=>(fun _=>none)) x.1) fun x hp=>Eq.mp (by kernel_rfl) (k_36_v x.1)
def k_49:Con Tc Tc.dn:=⟨49,[.ty .cLayout, .ty .cInt, .ty .cInt],fun x=>(fun (l:Layout) (stripe:Int) (piece:Int)=>l.K∧0≤stripe∧stripe≤100∧0≤piece∧piece≤100) x.1 x.2.1 x.2.2.1,[.cInt],fun x=>(fun (l:Layout) (stripe:Int) (piece:Int)=>l.node stripe piece) x.1 x.2.1 x.2.2.1⟩
theorem k_49_v (l:Layout) (stripe:Int) (piece:Int) (hp:l.K∧0≤stripe∧stripe≤100∧0≤piece∧piece≤100):I64 (l.turn+stripe)∧I64 (l.turn+stripe+piece)∧l.nodes≠(0:Int)∧(l.turn+stripe+piece).tmod l.nodes=l.node stripe piece:=by
 have h1:=hp.1.n
 have h2:=hp.1.t
 have h3:= @tmod_pos (l.turn+stripe+piece) l.nodes (by omega) (by omega)
 unfold Layout.node
 (repeat' (first|apply And.intro|intro _))<;>first|assumption|trivial|omega|(grind [I64])|trace_state
theorem k_49_ok:k_49.Ok Try.prog tD:=con_ok tD_ok (Δ:=[]) trivial (Ω:=[]) trivial k_49 F49_ok F49_call (fun _=>[]) (fun _=>trivial) 0 (fun x=>(fun (l:Layout) (stripe:Int) (piece:Int)=>(fun _=>none)) x.1 x.2.1 x.2.2.1) fun x hp=>Eq.mp (by kernel_rfl) (k_49_v x.1 x.2.1 x.2.2.1 hp)
def k_35:Con Tc Tc.dn:=⟨35,[.ptr .cInt, .ptr .cInt, .ptr .cLayout],fun x=>(fun (s:Int) (n:Int) (l:Layout)=>l.K) x.1 x.2.1 x.2.2.1,[.cBool],fun x=>(fun (s:Int) (n:Int) (l:Layout)=>decide (0≤s∧s≤63∧0≤n∧n<l.nodes)) x.1 x.2.1 x.2.2.1⟩
theorem k_35_v (s:Int) (n:Int) (l:Layout) (hp:l.K):True∧(decide ((0:Int)≤s∧s≤(63:Int))=true→decide ((0:Int)≤s∧s≤(63:Int))=true)∧(decide ((0:Int)≤s∧s≤(63:Int))=true→decide ((0:Int)≤s∧s≤(63:Int))=true)∧(decide ((0:Int)≤s∧s≤(63:Int))=true→I64 (l.nodes - (1:Int)))∧(decide ((0:Int)≤s∧s≤(63:Int))=true→decide ((0:Int)≤s∧s≤(63:Int))=true)∧(decide ((0:Int)≤s∧s≤(63:Int))=true→decide ((0:Int)≤s∧s≤(63:Int))=true)∧(decide ((0:Int)≤s∧s≤(63:Int))=true→True)∧(decide ((0:Int)≤s∧s≤(63:Int))=true→decide ((0:Int)≤s∧s≤(63:Int))=true)∧(decide ((0:Int)≤s∧s≤(63:Int))&&decide ((0:Int)≤n∧n≤l.nodes - (1:Int)))=decide ((0:Int)≤s∧s≤(63:Int)∧(0:Int)≤n∧n<l.nodes):=by
 have h1:=hp.n
 (repeat' (first|apply And.intro|intro _))<;>first|assumption|trivial|omega|(grind [I64])|trace_state
theorem k_35_ok:k_35.Ok Try.prog tD:=con_ok tD_ok (Δ:=[k_36,k_37]) ⟨k_36_ok,k_37_ok,trivial⟩ (Ω:=[]) trivial k_35 F35_ok F35_call (fun _=>[]) (fun _=>trivial) 0 (fun x=>(fun (s:Int) (n:Int) (l:Layout)=>(fun _=>none)) x.1 x.2.1 x.2.2.1) fun x hp=>Eq.mp (by kernel_rfl) (k_35_v x.1 x.2.1 x.2.2.1 hp)
def k_34_p:Con Tc Tc.dn:=⟨34,[.ty .cLayout, .fnc 35 [(true, .cInt),(true, .cInt),(true, .cLayout)]],fun x=>(fun (l:Layout) (s:Int) (n:Int) (l2:Layout)=>l2=l) x.1 x.2.1.1 x.2.1.2.1 x.2.1.2.2.1,[.cInt],fun x=>(fun (l:Layout) (s:Int) (n:Int) (l2:Layout)=>if ¬l.e=0 then l.e else if ¬(0≤s∧s≤63∧0≤n∧n<l.nodes) then 3 else 0) x.1 x.2.1.1 x.2.1.2.1 x.2.1.2.2.1⟩
theorem k_34_p_v (l:Layout) (s:Int) (n:Int) (l2:Layout) (hp:l2=l):True∧(l.e=(0:Int)→l.e=(0:Int))∧(l.e=(0:Int)→l2.K)∧(l.e=(0:Int)→l.e=(0:Int))∧(l.e=(0:Int)→l.e=(0:Int))∧(l.e=(0:Int)∧decide ((0:Int)≤s∧s≤(63:Int)∧(0:Int)≤n∧n<l2.nodes)= !true→(3:Int)=if ¬l.e=(0:Int) then l.e else if ¬((0:Int)≤s∧s≤(63:Int)∧(0:Int)≤n∧n<l.nodes) then (3:Int) else (0:Int))∧(¬l.e=(0:Int)∨decide ((0:Int)≤s∧s≤(63:Int)∧(0:Int)≤n∧n<l2.nodes)= !false→l.e=if ¬l.e=(0:Int) then l.e else if ¬((0:Int)≤s∧s≤(63:Int)∧(0:Int)≤n∧n<l.nodes) then (3:Int) else (0:Int)):=by
 subst hp
 have h1:= @Layout.e_ok l2
 (try simp only [Bool.not_false,Bool.not_true,decide_eq_true_eq,decide_eq_false_iff_not])
 (repeat' (first|apply And.intro|intro _))<;>first|assumption|trivial|omega|(grind [])|trace_state
theorem k_34_p_ok:k_34_p.Ok Try.prog tD:=con_ok tD_ok (Δ:=[k_26,k_35]) ⟨k_26_ok,k_35_ok,trivial⟩ (Ω:=[]) trivial k_34_p F34_ok F34_call (fun _=>[]) (fun _=>trivial) 0 (fun x=>(fun (l:Layout) (s:Int) (n:Int) (l2:Layout)=>(fun _=>none)) x.1 x.2.1.1 x.2.1.2.1 x.2.1.2.2.1) fun x hp=>Eq.mp (by kernel_rfl) (k_34_p_v x.1 x.2.1.1 x.2.1.2.1 x.2.1.2.2.1 hp)
def k_12:Con Tc Tc.dn:=⟨12,[.ty .cLayout, .ty .cInt, .ty .cInt],fun x=>(fun (l:Layout) (s:Int) (n:Int)=>True) x.1 x.2.1 x.2.2.1,[.cInt, .cBool, .cInt],fun x=>(fun (l:Layout) (s:Int) (n:Int)=>l.piece s n) x.1 x.2.1 x.2.2.1⟩
theorem k_12_v (l:Layout) (s:Int) (n:Int):l=l∧(¬(if ¬l.e=(0:Int) then l.e else if ¬((0:Int)≤s∧s≤(63:Int)∧(0:Int)≤n∧n<l.nodes) then (3:Int) else (0:Int))=(0:Int)→((0:Int),false,if ¬l.e=(0:Int) then l.e else if ¬((0:Int)≤s∧s≤(63:Int)∧(0:Int)≤n∧n<l.nodes) then (3:Int) else (0:Int))=l.piece s n)∧((if ¬l.e=(0:Int) then l.e else if ¬((0:Int)≤s∧s≤(63:Int)∧(0:Int)≤n∧n<l.nodes) then (3:Int) else (0:Int))=(0:Int)→I64 (n - l.turn)∧I64 (n - l.turn - s)∧l.nodes≠(0:Int)∧((n - l.turn - s).tmod l.nodes<(0:Int)→I64 ((n - l.turn - s).tmod l.nodes+l.nodes)∧(l.K∨(1:Int)≤l.data∧l.data≤(8:Int)∧(1:Int)≤l.more∧l.more≤(6:Int))∧(l.data+l.more≤(n - l.turn - s).tmod l.nodes+l.nodes→((0:Int),false,(0:Int))=l.piece s n)∧((n - l.turn - s).tmod l.nodes+l.nodes<l.data+l.more→((n - l.turn - s).tmod l.nodes+l.nodes,true,(0:Int))=l.piece s n))∧((0:Int)≤(n - l.turn - s).tmod l.nodes→(l.K∨(1:Int)≤l.data∧l.data≤(8:Int)∧(1:Int)≤l.more∧l.more≤(6:Int))∧(l.data+l.more≤(n - l.turn - s).tmod l.nodes→((0:Int),false,(0:Int))=l.piece s n)∧((n - l.turn - s).tmod l.nodes<l.data+l.more→((n - l.turn - s).tmod l.nodes,true,(0:Int))=l.piece s n))):=by
 have h1:= @Layout.e_ok l
 have h2:= @lay_err l s n
 have h3:= @lay_out l s n
 have h4:l.K→1≤l.nodes∧l.nodes≤12:=fun h=>h.n
 have h5:l.K→0≤l.turn∧l.turn<l.nodes:=fun h=>h.t
 have h6:= @tmod_fix (n - l.turn - s) l.nodes
 have h7:= @Layout.K.piece l
 have h8:l.pc s n=(n - l.turn - s)%l.nodes:=rfl
 have h9:l.K→0≤l.pc s n∧l.pc s n<l.nodes:=fun h=>h.pc s n
 have h10:l.has s n=decide (l.pc s n<l.data+l.more):=rfl
 (try simp only [Bool.not_false,Bool.not_true,decide_eq_true_eq,decide_eq_false_iff_not])
 (repeat' (first|apply And.intro|intro _))<;>first|assumption|trivial|omega|(grind [I64])|trace_state
theorem k_12_ok:k_12.Ok Try.prog tD:=con_ok tD_ok (Δ:=[k_34_p,k_38]) ⟨k_34_p_ok,k_38_ok,trivial⟩ (Ω:=[]) trivial k_12 F12_ok F12_call (fun _=>[]) (fun _=>trivial) 0 (fun x=>(fun (l:Layout) (s:Int) (n:Int)=>(fun _=>none)) x.1 x.2.1 x.2.2.1) fun x hp=>Eq.mp (by kernel_rfl) (k_12_v x.1 x.2.1 x.2.2.1)
open Go.RowKit
structure VkP (v:Volume):Prop where
 lay:v.layout.K
 siz:1≤v.size∧v.size≤64
 str:1≤(v.versions.length:Int)∧(v.versions.length:Int)≤64
 ver:∀x,x∈v.versions→1≤x∧x≤1000000
 nds:(v.nodes.length:Int)=v.layout.nodes
 pcs:∀x,x∈v.nodes→x.pieces.length=v.versions.length
theorem Volume.K.pre {v:Volume} (h:v.K):VkP v:=⟨h.lay,h.siz,by have:=h.str;omega,h.ver,h.nds,h.pcs⟩
theorem VkP.ofa {v:Volume} (h1:v.layout.e=0) (h2:1≤v.size∧v.size≤64) (h3:1≤(v.versions.length:Int)∧(v.versions.length:Int)≤64) (h4:¬v.versions.any pVr=true) (h5:(v.nodes.length:Int)=v.layout.nodes) (h6:¬v.nodes.any (pSh v.versions.length)=true):VkP v:=
 ⟨Layout.e_ok.1 h1,h2,h3,fun x hx=>by
  have:¬pVr x=true:=fun hh=>h4 (List.any_eq_true.2 ⟨x,hx,hh⟩)
  unfold pVr at this;simpa using this,h5,fun x hx=>by
  have:¬pSh v.versions.length x=true:=fun hh=>h6 (List.any_eq_true.2 ⟨x,hx,hh⟩)
  unfold pSh at this;simp at this;omega⟩
theorem VkP.chk {v:Volume} (h:VkP v):chkV v=scE (rowE v) (v.nodes.length:Int).toNat 0:=by
 have h1:=Layout.e_ok.2 h.lay;have h2:=h.siz;have h3:=h.str;have h4:=h.nds
 have b1:¬v.versions.any pVr=true:=fun hh=>by
  obtain ⟨x,hx,hp⟩:=List.any_eq_true.1 hh
  have:=h.ver x hx
  unfold pVr at hp;simp at hp;omega
 have b2:¬v.nodes.any (pSh v.versions.length)=true:=fun hh=>by
  obtain ⟨x,hx,hp⟩:=List.any_eq_true.1 hh
  have:=h.pcs x hx
  unfold pSh at hp;simp at hp;omega
 unfold chkV
 rw [if_neg (by omega),if_neg (by rintro (hh|hh|hh);omega;omega;exact b1 hh),if_neg (by rintro (hh|hh);omega;exact b2 hh)]
theorem VkP.shl {v:Volume} (h:VkP v) {n:Int} (h0:0≤n) (h1:n<v.nodes.length):(gd (⟨false,[]⟩:Shelf) v.nodes n.toNat).pieces.length=v.versions.length:=h.pcs _ (gd_mem (by omega))
theorem chk_lay {v:Volume} (h:¬v.layout.e=0):chkV v=v.layout.e:=by unfold chkV;rw [if_pos h]
theorem chk_rng {v:Volume} (h:v.layout.e=0) (h2:¬(1≤v.size∧v.size≤64)∨¬(1≤(v.versions.length:Int)∧(v.versions.length:Int)≤64)∨v.versions.any pVr=true):chkV v=3:=by unfold chkV;rw [if_neg (by simp [h]),if_pos h2]
theorem chk_frm {v:Volume} (h:v.layout.e=0) (h2:1≤v.size∧v.size≤64) (h3:1≤(v.versions.length:Int)∧(v.versions.length:Int)≤64) (h4:¬v.versions.any pVr=true) (h5:¬(v.nodes.length:Int)=v.layout.nodes∨v.nodes.any (pSh v.versions.length)=true):chkV v=1:=by
 unfold chkV
 rw [if_neg (by simp [h]),if_neg (by rintro (hh|hh|hh);omega;omega;exact h4 hh),if_pos h5]
structure ChR (v:Volume) (n:Int):Prop where
 p:VkP v
 e:ScE (rowE v) (v.nodes.length:Int) n
structure ChC (v:Volume) (n s:Int):Prop where
 n0:0≤n
 n1:n<v.nodes.length
 e:ScE (pieceE v n) (v.versions.length:Int) s
theorem ChR.start {v:Volume} (h1:v.layout.e=0) (h2:1≤v.size∧v.size≤64) (h3:1≤(v.versions.length:Int)∧(v.versions.length:Int)≤64) (h4:¬v.versions.any pVr=true) (h5:(v.nodes.length:Int)=v.layout.nodes) (h6:¬v.nodes.any (pSh v.versions.length)=true):ChR v 0:=⟨VkP.ofa h1 h2 h3 h4 h5 h6,ScE.start (by omega)⟩
theorem ChC.start {v:Volume} {n:Int} (h:ChR v n) (hn:n<v.nodes.length):ChC v n 0:=⟨h.e.lo,hn,ScE.start (by omega)⟩
theorem ChC.step {v:Volume} {n s:Int} (h:ChC v n s) (hs:s<v.versions.length) (e:pieceE v n s=0):ChC v n (s+1):=⟨h.n0,h.n1,h.e.step hs e⟩
theorem ChC.bad {v:Volume} {n s:Int} (r:ChR v n) (h:ChC v n s) (hs:s<v.versions.length) (e:¬pieceE v n s=0):pieceE v n s=chkV v:=by
 have:=h.e.bad hs e
 rw [this,r.p.chk]
 exact r.e.bad h.n1 (by show ¬scE (pieceE v n) _ 0=0;rw [←this];exact e)
theorem ChC.fin {v:Volume} {n s:Int} (r:ChR v n) (h:ChC v n s) (hs:v.versions.length≤s):ChR v (n+1):=⟨r.p,r.e.step h.n1 (h.e.fin hs)⟩
theorem ChR.fin {v:Volume} {n:Int} (h:ChR v n) (hn:v.nodes.length≤n):(0:Int)=chkV v:=by rw [h.p.chk,h.e.fin hn]
theorem ChR.bd {v:Volume} {n:Int} (h:ChR v n):0≤n∧v.nodes.length≤12∧v.versions.length≤64:=by have h1:=h.p.nds;have h2:=h.p.lay.n;have h3:=h.p.str;exact ⟨h.e.lo,by omega,by omega⟩
theorem ChC.bd {v:Volume} {n s:Int} (h:ChC v n s):0≤s∧0≤n∧n<v.nodes.length:=⟨h.e.lo,h.n0,h.n1⟩
def k_27:Con Tc Tc.dn:=⟨27,[.ty .cInt, .ty .cInt, .ty .cInt],fun x=>(fun (n:Int) (low:Int) (high:Int)=>True) x.1 x.2.1 x.2.2.1,[.cBool],fun x=>(fun (n:Int) (low:Int) (high:Int)=>decide (low≤n∧n≤high)) x.1 x.2.1 x.2.2.1⟩
theorem k_27_v (n:Int) (low:Int) (high:Int):(low≤n→low≤n)∧(low≤n→low≤n)∧(low≤n→low≤n)∧(decide (low≤n)&&decide (n≤high))=decide (low≤n∧n≤high):=by
 (repeat' (first|apply And.intro|intro _))<;>first|assumption|trivial|omega|(grind [])|trace_state
theorem k_27_ok:k_27.Ok Try.prog tD:=con_ok tD_ok (Δ:=[]) trivial (Ω:=[]) trivial k_27 F27_ok F27_call (fun _=>[]) (fun _=>trivial) 0 (fun x=>(fun (n:Int) (low:Int) (high:Int)=>(fun _=>none)) x.1 x.2.1 x.2.2.1) fun x hp=>Eq.mp (by kernel_rfl) (k_27_v x.1 x.2.1 x.2.2.1)
def k_29:Con Tc Tc.dn:=⟨29,[.ty .cInt],fun x=>(fun (n:Int)=>True) x.1,[.cBool],fun x=>(fun (n:Int)=>pVr n) x.1⟩
theorem k_29_v (n:Int):True∧(!decide ((1:Int)≤n∧n≤(1000000:Int)))=pVr n:=by
 unfold pVr
 (repeat' (first|apply And.intro|intro _))<;>first|assumption|trivial|omega|(grind [])|trace_state
theorem k_29_ok:k_29.Ok Try.prog tD:=con_ok tD_ok (Δ:=[k_27]) ⟨k_27_ok,trivial⟩ (Ω:=[]) trivial k_29 F29_ok F29_call (fun _=>[]) (fun _=>trivial) 0 (fun x=>(fun (n:Int)=>(fun _=>none)) x.1) fun x hp=>Eq.mp (by kernel_rfl) (k_29_v x.1)
def k_31:Con Tc Tc.dn:=⟨31,[.ty .cShelf, .ptr .cInt],fun x=>(fun (s:Shelf) (k:Int)=>True) x.1 x.2.1,[.cBool],fun x=>(fun (s:Shelf) (k:Int)=>pSh k s) x.1 x.2.1⟩
theorem k_31_v (s:Shelf) (k:Int):(!(↑s.pieces.length:Int)==k)=pSh k s:=by
 unfold pSh
 (repeat' (first|apply And.intro|intro _))<;>first|assumption|trivial|omega|(grind [])|trace_state
theorem k_31_ok:k_31.Ok Try.prog tD:=con_ok tD_ok (Δ:=[]) trivial (Ω:=[]) trivial k_31 F31_ok F31_call (fun _=>[]) (fun _=>trivial) 0 (fun x=>(fun (s:Shelf) (k:Int)=>(fun _=>none)) x.1 x.2.1) fun x hp=>Eq.mp (by kernel_rfl) (k_31_v x.1 x.2.1)
def i_53_0 (xs:(List Int)) (j:Int):Prop:=IxV (pVr) xs j
def k_53:Con Tc Tc.dn:=⟨53,[.ty .lInt, .fnc 29 []],fun x=>(fun (xs:(List Int))=>xs.length≤1000000) x.1,[.cInt],fun x=>(fun (xs:(List Int))=>ixV (pVr) xs 0) x.1⟩
theorem k_53_v (xs:(List Int)) (hp:xs.length≤1000000):i_53_0 xs (0:Int)∧∀(x:Int),i_53_0 xs x→(x<(↑xs.length:Int)→((0:Int)≤x∧x<(↑xs.length:Int))∧True∧(pVr (gd (0:Int) xs x.toNat)=true→x=ixV pVr xs (0:Int))∧(pVr (gd (0:Int) xs x.toNat)=false→I64 (x+(1:Int))∧i_53_0 xs (x+(1:Int))∧((↑xs.length:Int) - (x+(1:Int))).toNat<((↑xs.length:Int) - x).toNat))∧((↑xs.length:Int)≤x→(-1:Int)=ixV pVr xs (0:Int)):=by
 have h1:= @IxV.start Int (pVr) xs
 have h2:= @IxV.no Int (pVr) 0 xs
 have h3:= @IxV.yes Int (pVr) 0 xs
 have h4:= @IxV.fin Int (pVr) xs
 have h5:= @IxV.lo Int (pVr) xs
 have h6:= @IxV.few Int (pVr) xs
 (repeat' (first|apply And.intro|intro _))<;>first|assumption|trivial|omega|(grind [i_53_0,I64])|trace_state
theorem k_53_ok:k_53.Ok Try.prog tD:=con_ok tD_ok (Δ:=[k_29]) ⟨k_29_ok,trivial⟩ (Ω:=[]) trivial k_53 F53_ok F53_call (fun _=>[]) (fun _=>trivial) 0 (fun x=>(fun (xs:(List Int))=>(fun k=>bif Nat.beq k 0 then some (.inv [.sl 8 .cInt] (fun zo zv=>(fun (j:Int)=>i_53_0 xs j) zv.1) (fun zo zv=>(fun (j:Int)=>((xs.length:Int) - j).toNat) zv.1)) else none)) x.1) fun x hp=>Eq.mp (by kernel_rfl) (k_53_v x.1 hp)
def i_54_0 (xs:(List Shelf)) (w:Int) (j:Int):Prop:=IxV (pSh w) xs j
def k_54:Con Tc Tc.dn:=⟨54,[.ty .lShelf, .fnc 31 [(true, .cInt)]],fun x=>(fun (xs:(List Shelf)) (w:Int)=>xs.length≤1000000) x.1 x.2.1.1,[.cInt],fun x=>(fun (xs:(List Shelf)) (w:Int)=>ixV (pSh w) xs 0) x.1 x.2.1.1⟩
theorem k_54_v (xs:(List Shelf)) (w:Int) (hp:xs.length≤1000000):i_54_0 xs w (0:Int)∧∀(x:Int),i_54_0 xs w x→(x<(↑xs.length:Int)→((0:Int)≤x∧x<(↑xs.length:Int))∧True∧(pSh w (gd (Shelf.mk false []) xs x.toNat)=true→x=ixV (pSh w) xs (0:Int))∧(pSh w (gd (Shelf.mk false []) xs x.toNat)=false→I64 (x+(1:Int))∧i_54_0 xs w (x+(1:Int))∧((↑xs.length:Int) - (x+(1:Int))).toNat<((↑xs.length:Int) - x).toNat))∧((↑xs.length:Int)≤x→(-1:Int)=ixV (pSh w) xs (0:Int)):=by
 have h1:= @IxV.start Shelf (pSh w) xs
 have h2:= @IxV.no Shelf (pSh w) (⟨false,[]⟩:Shelf) xs
 have h3:= @IxV.yes Shelf (pSh w) (⟨false,[]⟩:Shelf) xs
 have h4:= @IxV.fin Shelf (pSh w) xs
 have h5:= @IxV.lo Shelf (pSh w) xs
 have h6:= @IxV.few Shelf (pSh w) xs
 (repeat' (first|apply And.intro|intro _))<;>first|assumption|trivial|omega|(grind [i_54_0,I64])|trace_state
theorem k_54_ok:k_54.Ok Try.prog tD:=con_ok tD_ok (Δ:=[k_31]) ⟨k_31_ok,trivial⟩ (Ω:=[]) trivial k_54 F54_ok F54_call (fun _=>[]) (fun _=>trivial) 0 (fun x=>(fun (xs:(List Shelf)) (w:Int)=>(fun k=>bif Nat.beq k 0 then some (.inv [.sl 8 .cInt] (fun zo zv=>(fun (j:Int)=>i_54_0 xs w j) zv.1) (fun zo zv=>(fun (j:Int)=>((xs.length:Int) - j).toNat) zv.1)) else none)) x.1 x.2.1.1) fun x hp=>Eq.mp (by kernel_rfl) (k_54_v x.1 x.2.1.1 hp)
def k_28:Con Tc Tc.dn:=⟨28,[.ty .lInt, .fnc 29 []],fun x=>(fun (xs:(List Int))=>xs.length≤1000000) x.1,[.cBool],fun x=>(fun (xs:(List Int))=>xs.any pVr) x.1⟩
theorem k_28_v (xs:(List Int)) (hp:xs.length≤1000000):xs.length≤(1000000:Nat)∧decide ((0:Int)≤ixV pVr xs (0:Int))=xs.any pVr:=by
 have h1:= @ixV_any Int pVr xs
 (repeat' (first|apply And.intro|intro _))<;>first|assumption|trivial|omega|(grind [])|trace_state
theorem k_28_ok:k_28.Ok Try.prog tD:=con_ok tD_ok (Δ:=[k_53]) ⟨k_53_ok,trivial⟩ (Ω:=[]) trivial k_28 F28_ok F28_call (fun _=>[]) (fun _=>trivial) 0 (fun x=>(fun (xs:(List Int))=>(fun _=>none)) x.1) fun x hp=>Eq.mp (by kernel_rfl) (k_28_v x.1 hp)
def k_30:Con Tc Tc.dn:=⟨30,[.ty .lShelf, .fnc 31 [(true, .cInt)]],fun x=>(fun (xs:(List Shelf)) (w:Int)=>xs.length≤1000000) x.1 x.2.1.1,[.cBool],fun x=>(fun (xs:(List Shelf)) (w:Int)=>xs.any (pSh w)) x.1 x.2.1.1⟩
theorem k_30_v (xs:(List Shelf)) (w:Int) (hp:xs.length≤1000000):xs.length≤(1000000:Nat)∧decide ((0:Int)≤ixV (pSh w) xs (0:Int))=xs.any (pSh w):=by
 have h1:= @ixV_any Shelf (pSh w) xs
 (repeat' (first|apply And.intro|intro _))<;>first|assumption|trivial|omega|(grind [])|trace_state
theorem k_30_ok:k_30.Ok Try.prog tD:=con_ok tD_ok (Δ:=[k_54]) ⟨k_54_ok,trivial⟩ (Ω:=[]) trivial k_30 F30_ok F30_call (fun _=>[]) (fun _=>trivial) 0 (fun x=>(fun (xs:(List Shelf)) (w:Int)=>(fun _=>none)) x.1 x.2.1.1) fun x hp=>Eq.mp (by kernel_rfl) (k_30_v x.1 x.2.1.1 hp)
def k_32:Con Tc Tc.dn:=⟨32,[.ty .cVolume, .ty .cInt, .ty .cInt],fun x=>(fun (v:Volume) (n:Int) (s:Int)=>VkP v∧0≤n∧n<v.nodes.length∧0≤s∧s<v.versions.length) x.1 x.2.1 x.2.2.1,[.cInt],fun x=>(fun (v:Volume) (n:Int) (s:Int)=>pieceE v n s) x.1 x.2.1 x.2.2.1⟩
abbrev z32_0 (v:Volume) (n:Int) (s:Int):=(gd (Piece.mk (0:Int) ByteArray.empty) (gd (Shelf.mk false []) v.nodes n.toNat).pieces s.toNat)
theorem k_32_v (v:Volume) (n:Int) (s:Int) (hp:VkP v∧0≤n∧n<v.nodes.length∧0≤s∧s<v.versions.length):((0:Int)≤n∧n<(↑v.nodes.length:Int))∧((0:Int)≤s∧s<(↑(gd (Shelf.mk false []) v.nodes n.toNat).pieces.length:Int))∧True∧((v.layout.piece s n).snd.fst= !true→(v.layout.piece s n).snd.fst= !true)∧((v.layout.piece s n).snd.fst= !true→(v.layout.piece s n).snd.fst= !true)∧((v.layout.piece s n).snd.fst= !true→(v.layout.piece s n).snd.fst= !true)∧((v.layout.piece s n).snd.fst= !false∨(z32_0 v n s).version=(0:Int)∧(z32_0 v n s).data=ByteArray.mk #[]→(v.layout.piece s n).snd.fst=true→(v.layout.piece s n).snd.fst=true)∧((v.layout.piece s n).snd.fst= !false∨(z32_0 v n s).version=(0:Int)∧(z32_0 v n s).data=ByteArray.mk #[]→(v.layout.piece s n).snd.fst=true→(v.layout.piece s n).snd.fst=true)∧((v.layout.piece s n).snd.fst= !false∨(z32_0 v n s).version=(0:Int)∧(z32_0 v n s).data=ByteArray.mk #[]→(v.layout.piece s n).snd.fst=true→(v.layout.piece s n).snd.fst=true)∧((v.layout.piece s n).snd.fst= !false∨(z32_0 v n s).version=(0:Int)∧(z32_0 v n s).data=ByteArray.mk #[]→(v.layout.piece s n).snd.fst=true→(v.layout.piece s n).snd.fst=true)∧((v.layout.piece s n).snd.fst= !false∨(z32_0 v n s).version=(0:Int)∧(z32_0 v n s).data=ByteArray.mk #[]→(v.layout.piece s n).snd.fst=true→(v.layout.piece s n).snd.fst=true)∧((v.layout.piece s n).snd.fst= !false∨(z32_0 v n s).version=(0:Int)∧(z32_0 v n s).data=ByteArray.mk #[]→(v.layout.piece s n).snd.fst=true→(v.layout.piece s n).snd.fst=true)∧(((v.layout.piece s n).snd.fst= !true∧(¬(z32_0 v n s).version=(0:Int)∨¬(z32_0 v n s).data=ByteArray.mk #[]))∧(v.layout.piece s n).snd.fst= !true∧(¬(z32_0 v n s).version=(0:Int)∨¬(z32_0 v n s).data=ByteArray.mk #[])∨((v.layout.piece s n).snd.fst= !false∨(z32_0 v n s).version=(0:Int)∧(z32_0 v n s).data=ByteArray.mk #[])∧(v.layout.piece s n).snd.fst=true∧¬(↑(z32_0 v n s).data.size:Int)=v.size→(1:Int)=pieceE v n s)∧((((v.layout.piece s n).snd.fst= !false∨(z32_0 v n s).version=(0:Int)∧(z32_0 v n s).data=ByteArray.mk #[])∨(v.layout.piece s n).snd.fst= !false∨(z32_0 v n s).version=(0:Int)∧(z32_0 v n s).data=ByteArray.mk #[])∧((v.layout.piece s n).snd.fst= !true∧(¬(z32_0 v n s).version=(0:Int)∨¬(z32_0 v n s).data=ByteArray.mk #[])∨(v.layout.piece s n).snd.fst=false∨(↑(z32_0 v n s).data.size:Int)=v.size)→((0:Int)≤s∧s<(↑v.versions.length:Int))∧True∧(decide ((0:Int)≤(z32_0 v n s).version∧(z32_0 v n s).version≤gd (0:Int) v.versions s.toNat)= !true→(3:Int)=pieceE v n s)∧(decide ((0:Int)≤(z32_0 v n s).version∧(z32_0 v n s).version≤gd (0:Int) v.versions s.toNat)= !false→(0:Int)=pieceE v n s)):=by
 delta z32_0
 obtain ⟨hP,q1,q2,q3,q4⟩:=hp
 have h1:=hP.shl q1 q2
 have h2:=hP.nds
 have h3:=hP.str
 have h4:=hP.lay.piece (s:=s) (n:=n) ⟨q3,by omega⟩ ⟨q1,by omega⟩
 rw [h4]
 unfold pieceE
 have he:(ByteArray.mk #[])=ByteArray.empty:=rfl
 simp only [he,Volume.at_]
 (try simp only [Bool.not_false,Bool.not_true,decide_eq_true_eq,decide_eq_false_iff_not])
 (repeat' (first|apply And.intro|intro _))<;>first|assumption|trivial|omega|(grind [I64])|trace_state
theorem k_32_ok:k_32.Ok Try.prog tD:=con_ok tD_ok (Δ:=[k_12,k_27]) ⟨k_12_ok,k_27_ok,trivial⟩ (Ω:=[]) trivial k_32 F32_ok F32_call (fun _=>[]) (fun _=>trivial) 0 (fun x=>(fun (v:Volume) (n:Int) (s:Int)=>(fun _=>none)) x.1 x.2.1 x.2.2.1) fun x hp=>Eq.mp (by kernel_rfl) (k_32_v x.1 x.2.1 x.2.2.1 hp)
def i_10_1 (v:Volume) (s0:Int) (n0:Int) (m0:Int) (s:Int) (n:Int) (m:Int):Prop:=n=n0∧m=n0∧ChC v n s
def i_10_0 (v:Volume) (n:Int):Prop:=ChR v n
def k_10:Con Tc Tc.dn:=⟨10,[.ty .cVolume],fun x=>(fun (v:Volume)=>True) x.1,[.cInt],fun x=>(fun (v:Volume)=>chkV v) x.1⟩
abbrev z10_0 (v:Volume):=((1:Int)≤(↑v.versions.length:Int)∧(↑v.versions.length:Int)≤(64:Int))
theorem k_10_v (v:Volume):True∧(¬v.layout.e=(0:Int)→v.layout.e=chkV v)∧(v.layout.e=(0:Int)→True∧(decide ((1:Int)≤v.size∧v.size≤(64:Int))= !true→(decide ((1:Int)≤v.size∧v.size≤(64:Int))= !true→(3:Int)=chkV v)∧(decide ((1:Int)≤v.size∧v.size≤(64:Int))= !false→((↑v.nodes.length:Int)=v.layout.nodes→v.nodes.length≤(1000000:Nat))∧(¬(↑v.nodes.length:Int)=v.layout.nodes∧¬(↑v.nodes.length:Int)=v.layout.nodes∨(↑v.nodes.length:Int)=v.layout.nodes∧v.nodes.any (pSh (↑v.versions.length:Int))=true→(1:Int)=chkV v)∧(((↑v.nodes.length:Int)=v.layout.nodes∨(↑v.nodes.length:Int)=v.layout.nodes)∧(¬(↑v.nodes.length:Int)=v.layout.nodes∨v.nodes.any (pSh (↑v.versions.length:Int))=false)→i_10_0 v (0:Int)∧∀(x:Int),i_10_0 v x→(x<(↑v.nodes.length:Int)→i_10_1 v (0:Int) x x (0:Int) x x∧∀(x_1 x_2 x_3:Int),i_10_1 v (0:Int) x x x_1 x_2 x_3→(x_1<(↑v.versions.length:Int)→(VkP v∧(0:Int)≤x_3∧x_3<(↑v.nodes.length:Int)∧(0:Int)≤x_1∧x_1<(↑v.versions.length:Int))∧(¬pieceE v x_3 x_1=(0:Int)→pieceE v x_3 x_1=chkV v)∧(pieceE v x_3 x_1=(0:Int)→I64 (x_1+(1:Int))∧i_10_1 v (0:Int) x x (x_1+(1:Int)) x_2 x_3∧((↑v.versions.length:Int) - (x_1+(1:Int))).toNat<((↑v.versions.length:Int) - x_1).toNat))∧((↑v.versions.length:Int)≤x_1→I64 (x_2+(1:Int))∧i_10_0 v (x_2+(1:Int))∧((↑v.nodes.length:Int) - (x_2+(1:Int))).toNat<((↑v.nodes.length:Int) - x).toNat))∧((↑v.nodes.length:Int)≤x→(0:Int)=chkV v))))∧(decide ((1:Int)≤v.size∧v.size≤(64:Int))= !false→True∧(decide (z10_0 v)= !!true→v.versions.length≤(1000000:Nat))∧(decide (z10_0 v)= !true∧decide (z10_0 v)= !true∨decide (z10_0 v)= !!true∧v.versions.any pVr=true→(3:Int)=chkV v)∧((decide (z10_0 v)= !false∨decide (z10_0 v)= !false)∧(decide (z10_0 v)= !!false∨v.versions.any pVr=false)→((↑v.nodes.length:Int)=v.layout.nodes→v.nodes.length≤(1000000:Nat))∧(¬(↑v.nodes.length:Int)=v.layout.nodes∧¬(↑v.nodes.length:Int)=v.layout.nodes∨(↑v.nodes.length:Int)=v.layout.nodes∧v.nodes.any (pSh (↑v.versions.length:Int))=true→(1:Int)=chkV v)∧(((↑v.nodes.length:Int)=v.layout.nodes∨(↑v.nodes.length:Int)=v.layout.nodes)∧(¬(↑v.nodes.length:Int)=v.layout.nodes∨v.nodes.any (pSh (↑v.versions.length:Int))=false)→i_10_0 v (0:Int)∧∀(x:Int),i_10_0 v x→(x<(↑v.nodes.length:Int)→i_10_1 v (0:Int) x x (0:Int) x x∧∀(x_1 x_2 x_3:Int),i_10_1 v (0:Int) x x x_1 x_2 x_3→(x_1<(↑v.versions.length:Int)→(VkP v∧(0:Int)≤x_3∧x_3<(↑v.nodes.length:Int)∧(0:Int)≤x_1∧x_1<(↑v.versions.length:Int))∧(¬pieceE v x_3 x_1=(0:Int)→pieceE v x_3 x_1=chkV v)∧(pieceE v x_3 x_1=(0:Int)→I64 (x_1+(1:Int))∧i_10_1 v (0:Int) x x (x_1+(1:Int)) x_2 x_3∧((↑v.versions.length:Int) - (x_1+(1:Int))).toNat<((↑v.versions.length:Int) - x_1).toNat))∧((↑v.versions.length:Int)≤x_1→I64 (x_2+(1:Int))∧i_10_0 v (x_2+(1:Int))∧((↑v.nodes.length:Int) - (x_2+(1:Int))).toNat<((↑v.nodes.length:Int) - x).toNat))∧((↑v.nodes.length:Int)≤x→(0:Int)=chkV v))))):=by
 delta z10_0
 have a1:= @chk_lay v
 have a2:= @chk_rng v
 have a3:= @chk_frm v
 have b1:= @ChR.start v
 have b2:= @ChC.start v
 have b3:= @ChC.step v
 have b4:= @ChC.bad v
 have b5:= @ChC.fin v
 have b6:= @ChR.fin v
 have b7:= @ChR.bd v
 have b8:= @ChC.bd v
 have b9:=fun n=> @ChR.p v n
 have c1:= @mea_lt'
 have c2:v.layout.e=0→(v.nodes.length:Int)=v.layout.nodes→v.nodes.length≤12:=fun h h2=>by have:=(Layout.e_ok.1 h).n;omega
 (try simp only [Bool.not_false,Bool.not_true,decide_eq_true_eq,decide_eq_false_iff_not])
 (repeat' (first|apply And.intro|intro _))<;>first|assumption|trivial|omega|(grind [i_10_1,i_10_0,I64])|trace_state
theorem k_10_ok:k_10.Ok Try.prog tD:=con_ok tD_ok (Δ:=[k_26,k_27,k_28,k_30,k_32]) ⟨k_26_ok,k_27_ok,k_28_ok,k_30_ok,k_32_ok,trivial⟩ (Ω:=[]) trivial k_10 F10_ok F10_call (fun _=>[]) (fun _=>trivial) 0 (fun x=>(fun (v:Volume)=>(fun k=>bif Nat.beq k 0 then some (.inv [.sl 43 .cInt] (fun zo zv=>(fun (n:Int)=>i_10_0 v n) zv.1) (fun zo zv=>(fun (n:Int)=>((v.nodes.length:Int) - n).toNat) zv.1)) else bif Nat.beq k 1 then some (.inv [.sl 47 .cInt, .sl 43 .cInt, .sl 5 .cInt] (fun zo zv=>(fun (s0:Int) (n0:Int) (m0:Int) (s:Int) (n:Int) (m:Int)=>i_10_1 v s0 n0 m0 s n m) zo.1 zo.2.1 zo.2.2.1 zv.1 zv.2.1 zv.2.2.1) (fun zo zv=>(fun (s0:Int) (n0:Int) (m0:Int) (s:Int) (n:Int) (m:Int)=>((v.versions.length:Int) - s).toNat) zo.1 zo.2.1 zo.2.2.1 zv.1 zv.2.1 zv.2.2.1)) else none)) x.1) fun x hp=>Eq.mp (by kernel_rfl) (k_10_v x.1)
open Go.ChangeShapes Go.WideShapes Go.ChangeAt Go.RowKit
open Go.ChangeMaps (open_string shut_string)
theorem shl1 (a:UInt8):((a.toNat:Int)*(2:Int)%(256:Int))=((a<<<1).toNat:Int):=by
 have h:(a<<<1).toNat=a.toNat*2%256:=by
  have:=all8 (fun a=>(a<<<1).toNat==a.toNat*2%256) (by decide+kernel) a
  simpa using this
 rw [h];omega
theorem shr1 (a:UInt8):((a.toNat:Int) / (2:Int))=((a>>>1).toNat:Int):=by
 have h:(a>>>1).toNat=a.toNat / 2:=by
  have:=all8 (fun a=>(a>>>1).toNat==a.toNat / 2) (by decide+kernel) a
  simpa using this
 rw [h];omega
theorem and1 (a:UInt8):bits .and .u8 (a.toNat:Int) 1=((a&&&1).toNat:Int):=B_and a 1
theorem xor29 (a:UInt8):bits .xor .u8 (a.toNat:Int) 29=((a^^^29).toNat:Int):=B_xor a 29
theorem xt_hi (a:UInt8) (h:127<(a.toNat:Int)):bits .xor .u8 ((a.toNat:Int)*(2:Int)%(256:Int)) 29=((xt a).toNat:Int):=by
 rw [shl1,xor29,xt,if_pos (by rw [gt_iff_lt,UInt8.lt_iff_toNat_lt];show 127<_;omega)]
theorem xt_lo (a:UInt8) (h:(a.toNat:Int)≤127):((a.toNat:Int)*(2:Int)%(256:Int))=((xt a).toNat:Int):=by
 rw [shl1,xt,if_neg (by rw [gt_iff_lt,UInt8.lt_iff_toNat_lt];simp;omega)]
theorem gm_done (n:Nat) (a b o:UInt8) (h:((b.toNat:Int) !=0)=false):gm n a b o=o:=by
 have:b=0:=by
  apply UInt8.toNat_inj.1
  simpa using h
 subst this;exact gm_zero n a o
theorem bit_yes (b:UInt8) (h:(bits BinOp.and IntKind.u8 (b.toNat:Int) 1 !=0)=true):¬b&&&1=0:=by
 intro h2;rw [and1,h2] at h;exact absurd h (by decide)
theorem bit_no (b:UInt8) (h:(bits BinOp.and IntKind.u8 (b.toNat:Int) 1 !=0)=false):b&&&1=0:=by
 rw [and1] at h
 have h2:((b&&&1).toNat:Int)=0:=by simpa only [bne_eq_false_iff_eq] using h
 apply UInt8.toNat_inj.1
 show _=0
 omega
set_option maxRecDepth 100000 in
set_option maxHeartbeats 400000 in
theorem mul_any (a b:UInt8) (w:World):
  Calls Try.prog 66 #[B a,B b] w fun e w'=>e= .returned (B (gmul a b))∧w=w':=by
 go_enter Try.func66,Try.ntmps66
 go_wp2
 go_loop [0,1,5] (fun x y o=>∃(n:Nat) (a' b' o':UInt8),x=B a'∧y=B b'∧o=B o'∧b'.toNat<2^n∧gm n a' b' o'=gmul a b) (fun _ y _=>(intOf y).toNat)
 case atStart=>exact ⟨8,a,b,0,rfl,rfl,rfl,b.toNat_lt,rfl⟩
 case round=>
  obtain ⟨n,a',b',o',rfl,rfl,rfl,hb,hg⟩:=hrel
  have Hg:=Lib.hid hg
  clear hg
  by_cases h0:b'=0
  ·subst h0
   go_wp2
   go_ret
   rw [gm_done _ _ _ _ rfl] at Hg
   have hg:=Hg.out
   subst hg
   exact ⟨rfl,rfl⟩
  ·have hb0:0<b'.toNat:=by
    rcases Nat.eq_zero_or_pos b'.toNat with h|h
    ·exact absurd (UInt8.toNat_inj.1 h) h0
    ·exact h
   obtain ⟨m,rfl⟩:∃m,n=m+1:=by
    cases n with
    |zero=>simp at hb;omega
    |succ m=>exact ⟨m,rfl⟩
   have hs:(b'>>>1).toNat<2^m:=by
    have:=shr1 b'
    have h2:2^(m+1)=2^m*2:=Nat.pow_succ ..
    omega
   have Hs:=Lib.hid hs
   clear hb
   have e1:=shr1 b'
   have E1:=Lib.hid e1
   clear e1
   go_wp2
   all_goals
    go_round
    case rel=>
     refine ⟨m,xt a',b'>>>1,if b'&&&1=0 then o' else o'^^^a', ?_,by rw [E1.out], ?_,Hs.out,Hg.out⟩
     ·first|rw [xt_hi _ (by assumption)]|rw [xt_lo _ (by assumption)]
     ·first|rw [if_neg (bit_yes _ (by assumption)),B_xor]|rw [if_pos (bit_no _ (by assumption))]
    case measure=>simp [intOf];omega
def tab0:Array Value:=Array.replicate 510 (.int .u8 0)++Array.replicate 256 (.int .i64 0)
theorem run_tab (w:World):(zeroValue 144).run Try.prog w= .ok (.agg tab0) w:=by kernel_rfl
def tabAt (k i:Nat):Value:=
 if i<255 then (if i<k then B (pw i) else B 0) else if i<510 then (if i<k+255 then B (pw (i - 255)) else B 0) else .int .i64 (lgTo k (UInt8.ofNat (i - 510)))
theorem tab_start (i:Nat) (h:i<766):tab0[i]? =some (tabAt 0 i):=by
 unfold tab0 tabAt
 rw [Array.getElem?_append]
 simp only [Array.size_replicate,Array.getElem?_replicate,lgTo]
 by_cases h1:i<255
 ·simp [h1,show i<510 by omega]
 ·by_cases h2:i<510
  ·simp [h1,h2]
  ·simp [h1,h2];omega
theorem tab_row (w:World):(w.alloc (.cells tab0 144)).rowIs w.heap.size 144 766 (tabAt 0):=by
 have h:=World.rowIs_alloc w tab0 144 (tabAt 0) (fun i hi=>tab_start i (by rw [show tab0.size=766 by simp [tab0]] at hi;exact hi))
 rwa [show tab0.size=766 by simp [tab0]] at h
attribute [irreducible] tab0
theorem dbl_nat (p:UInt8):(127<p.toNat→(p.toNat*2)^^^285=(xt p).toNat)∧(p.toNat≤127→p.toNat*2=(xt p).toNat):=by
 have:=all8 (fun p=>decide ((127<p.toNat→(p.toNat*2)^^^285=(xt p).toNat)∧(p.toNat≤127→p.toNat*2=(xt p).toNat))) (by decide+kernel) p
 exact of_decide_eq_true this
theorem dbl_hi (p:UInt8) (h:(255:Int)<(p.toNat:Int)*2):I (bits .xor .i64 ((p.toNat:Int)*2) 285)=I (xt p).toNat:=by
 have h1:=(dbl_nat p).1 (by omega)
 have h2:=i64_xor_nat (p.toNat*2) 285 (by have:=p.toNat_lt;omega) (by omega)
 rw [h1] at h2
 rw [←h2];rfl
theorem dbl_lo (p:UInt8) (h:(p.toNat:Int)*2≤255):I ((p.toNat:Int)*2)=I (xt p).toNat:=by
 have h1:=(dbl_nat p).2 (by omega)
 rw [←h1];rfl
theorem tab_next (k:Nat) (hk:k<255) (w:World) (b:Nat) (h:w.rowIs b 144 766 (tabAt k)):
  (((w.setCell ⟨b,k,none⟩ (B (pw k))).setCell ⟨b,k+255,none⟩ (B (pw k))).setCell ⟨b,510+(pw k).toNat,none⟩ (I k)).rowIs b 144 766 (tabAt (k+1)):=by
 refine (((h.set k _).set (k+255) _).set _ _).congr fun i hi=> ?_
 have hp:=(pw k).toNat_lt
 unfold tabAt
 by_cases h1:i=510+(pw k).toNat
 ·subst h1
  rw [if_pos rfl,if_neg (by omega),if_neg (by omega),show 510+(pw k).toNat - 510=(pw k).toNat by omega,UInt8.ofNat_toNat,lgTo,if_pos rfl]
 ·rw [if_neg h1]
  by_cases h2:i=k+255
  ·subst h2
   rw [if_pos rfl,if_neg (by omega),if_pos (by omega),if_pos (by omega),show k+255 - 255=k by omega]
  ·rw [if_neg h2]
   by_cases h3:i=k
   ·subst h3
    rw [if_pos rfl,if_pos (by omega),if_pos (by omega)]
   ·rw [if_neg h3]
    by_cases h4:i<255
    ·rw [if_pos h4,if_pos h4]
     by_cases h5:i<k
     ·rw [if_pos h5,if_pos (by omega)]
     ·rw [if_neg h5,if_neg (by omega)]
    ·rw [if_neg h4,if_neg h4]
     by_cases h6:i<510
     ·rw [if_pos h6,if_pos h6]
      by_cases h5:i<k+255
      ·rw [if_pos h5,if_pos (by omega)]
      ·rw [if_neg h5,if_neg (by omega)]
     ·rw [if_neg h6,if_neg h6,lgTo,if_neg]
      intro he
      apply h1
      rw [he,UInt8.toNat_ofNat']
      omega
set_option maxRecDepth 10000 in
set_option maxHeartbeats 400000 in
theorem made_any (w:World):
  Calls Try.prog 92 #[] w fun e w'=>e= .returned (.pointer (some ⟨w.heap.size,0,none⟩))∧w'.rowIs w.heap.size 144 766 (tabAt 255)∧Below w.heap.size w w':=by
 have hnew:=run_tab
 go_enter Try.func92,Try.ntmps92
 go_wp2
 go_loopw [2,5] (fun x i wr=>∃k:Nat,k≤255∧i=I k∧x=I (pw k).toNat∧wr.rowIs w.heap.size 144 766 (tabAt k)∧Below w.heap.size w wr) (fun _ i _=>(255 - intOf i).toNat)
 case atStart=>exact ⟨0,by omega,rfl,rfl,tab_row w,(Below.refl _ _).alloc (Nat.le_refl _) _⟩
 case round=>
  obtain ⟨k,hk,rfl,rfl,hrow,hb⟩:=hrel
  by_cases hlt:k<255
  ·have c1:=hrow.cell (i:=k) (by omega)
   have c2:=hrow.cell (i:=k+255) (by omega)
   have c3:=hrow.cell (i:=510+(pw k).toNat) (by have:=(pw k).toNat_lt;omega)
   have f1:=hrow.frozen k
   have f2:=hrow.frozen (k+255)
   have f3:=hrow.frozen (510+(pw k).toNat)
   have Hrow:=Lib.hid (tab_next k hlt _ _ hrow)
   have Hb:=Lib.hid hb
   clear hrow hb
   generalize tabAt k k=v1 at c1
   generalize tabAt k (k+255)=v2 at c2
   generalize tabAt k (510+(pw k).toNat)=v3 at c3
   obtain ⟨p,hp⟩:∃p,p=pw k:=⟨_,rfl⟩
   rw [←hp] at c3 f3 Hrow ⊢
   have Hp:=Lib.hid hp
   have p1:=B_lt p
   clear hp
   have e1:((p.toNat:Int)%256)=(p.toNat:Int):=by omega
   go_wp2
   go_region
   go_wp2
   all_goals
    go_roundw
    case rel=>
     refine ⟨k+1,by omega,by go_num, ?_,Hrow.out,(((Hb.out.setCell (Nat.le_refl _) _).setCell (Nat.le_refl _) _).drew).setCell (Nat.le_refl _) _⟩
     rw [show pw (k+1)=xt (pw k) from rfl, ←Hp.out]
     first|exact dbl_hi p (by assumption)|exact dbl_lo p (by assumption)
    case measure=>simp [intOf];omega
  ·obtain rfl:k=255:=by omega
   have Hrow:=Lib.hid hrow
   have Hb:=Lib.hid hb
   clear hrow hb
   generalize (pw 255).toNat=q
   go_wp2
   go_ret
   exact ⟨rfl,Hrow.out,Hb.out⟩
theorem tmod_bd (n:Int): -254≤n.tmod 255∧n.tmod 255≤254:=by
 have h1:=Int.tmod_lt_of_pos n (show (0:Int)<255 by omega)
 have h2:=Int.tmod_lt_of_pos (-n) (show (0:Int)<255 by omega)
 rw [Int.neg_tmod] at h2
 omega
theorem tmod_emod (n:Int):n.tmod 255%255=n%255:=by
 have h:=Int.tmod_add_mul_tdiv n 255
 omega
set_option maxRecDepth 10000 in
set_option maxHeartbeats 400000 in
theorem power_any (n:Int) (w:World):
  Calls Try.prog 81 #[I n] w fun e w'=>e= .returned (B (powI n))∧Below w.heap.size w w':=by
 have h1:=tmod_bd n
 have h2:tabAt 255 (n.tmod 255%255).toNat=B (powI n):=by
  have:=tmod_emod n
  rw [this,tabAt,if_pos (by omega),if_pos (by omega)];rfl
 have H2:=Lib.hid h2
 clear h2
 go_enter Try.func81,Try.ntmps81
 go_wp2_with (go_at_call 92;refine (made_any _).mono ?_;rintro e w' ⟨rfl,hrow,hb⟩;have hc:=hrow.cell (i:=(n.tmod 255%255).toNat) (by omega);rw [H2.out] at hc;have Hrow:=Lib.hid hrow;clear hrow)
 go_ret
 exact ⟨rfl,hb⟩
theorem log_zero (w:World):Calls Try.prog 80 #[B 0] w fun e w'=>e= .returned (.tuple #[I 0,I 5])∧Below w.heap.size w w':=by
 go_enter Try.func80,Try.ntmps80
 go_wp2
 go_ret2
 exact ⟨rfl,Below.refl _ _⟩
set_option maxRecDepth 10000 in
set_option maxHeartbeats 400000 in
theorem log_some (a:UInt8) (ha:a≠0) (w:World):
  Calls Try.prog 80 #[B a] w fun e w'=>e= .returned (.tuple #[I (lg a),I 0])∧Below w.heap.size w w':=by
 have hz:(((a.toNat:Int))==0)=false:=by rw [B_zero];simpa using ha
 have p1:=B_lt a
 have h2:tabAt 255 (510+a.toNat)=I (lg a):=by
  rw [tabAt,if_neg (by omega),if_neg (by omega),show 510+a.toNat - 510=a.toNat by omega,UInt8.ofNat_toNat];rfl
 have H2:=Lib.hid h2
 clear h2
 go_enter Try.func80,Try.ntmps80
 go_wp2_with (go_at_call 92;refine (made_any _).mono ?_;rintro e w' ⟨rfl,hrow,hb⟩;have hc:=hrow.cell (i:=510+a.toNat) (by omega);rw [H2.out] at hc;have Hrow:=Lib.hid hrow;clear hrow)
 go_ret2
 exact ⟨rfl,hb⟩
theorem inverse_zero (w:World):Calls Try.prog 65 #[B 0] w fun e w'=>e= .returned (.tuple #[B 0,I 5])∧Below w.heap.size w w':=by
 go_enter Try.func65,Try.ntmps65
 go_wp2_with (go_at_call 80;refine (log_zero _).mono ?_;rintro e w' ⟨rfl,hb⟩)
 go_ret2
 exact ⟨rfl,hb⟩
theorem inverse_some (a:UInt8) (ha:a≠0) (w:World):
  Calls Try.prog 65 #[B a] w fun e w'=>e= .returned (.tuple #[B (ginv a),I 0])∧Below w.heap.size w w':=by
 have hl:=lg_lt a
 go_enter Try.func65,Try.ntmps65
 go_wp2_with (first|(go_at_call 80;refine (log_some a ha _).mono ?_;rintro e w' ⟨rfl,hb⟩)|(go_at_call 81;refine (power_any _ _).mono ?_;rintro e w'' ⟨rfl,hb2⟩))
 go_ret2
 exact ⟨rfl,hb.trans (hb2.mono hb.size)⟩
def errZ (a:UInt8):Int:=if a=0 then 5 else 0
def invN (a:UInt8):UInt8:=if a=0 then 0 else ginv a
theorem inverse_any (a:UInt8) (w:World):Calls Try.prog 65 #[B a] w fun e w'=>e= .returned (.tuple #[B (invN a),I (errZ a)])∧Below w.heap.size w w':=by
 unfold invN errZ
 by_cases ha:a=0
 ·subst ha;exact inverse_zero w
 ·rw [if_neg ha,if_neg ha];exact inverse_some a ha w
open Go.RowKit
def CloneF (sz by_:Nat) (zs:List AV):AFn:=⟨8,[.tmp 2],
 .seq (.reg [⟨some 2, .mov (.c .emp),none⟩] none)
 (.seq (.seq (.reg [⟨some 3, .mov (.s 0),none⟩,⟨some 4, .isn .sl false (.s 3),none⟩] none)
 (.cond (.s 4)
  (.seq (.reg [⟨some 2, .mov (.c .emp),none⟩] none)
  (.ret))
  (.skip)))
 (.seq (.reg [⟨some 5, .bsl sz 0 zs [],none⟩,⟨some 6, .mov (.s 0),none⟩,⟨some 7, .app sz by_ (.s 5) (.s 6),none⟩,⟨some 2, .mov (.s 7),none⟩] none)
 (.ret)))⟩
theorem clone_fo {P:Program} {f:FuncId} {sz by_:Nat} {zs:List AV} (hF:cFunc P f=some (CloneF sz by_ zs)) {α:Type} (fe:α→List AV) (hp:∀y,(fe y).all AV.pu1=true) (hz:sz≠0) (hzs:zs.length=sz) (xs:List α) (hx:((xs.length:Nat):Int)*by_≤140737488355328):Fo P f [.lst sz (xs.map fe)] sz (xs.map fe):=by
 refine fo_of ?_
 rw [List.length_map]
 refine fV (m:=[]) (m':=[some ⟨sz,(xs.map fe)⟩]) hF (of_decide_eq_true (by kernel_rfl)) ?_
 refine srl 1 [0] ⟨[(0, .lst sz (xs.map fe))],[]⟩ ?_
 refine EL.seqG [0] (fun y=>(y=⟨[(0, .lst sz (xs.map fe))],[]⟩∧((List.isEmpty xs=true)∨(List.isEmpty xs=false)))) ?_ ?_
 ·intro IHJ1 HJ1
  refine srr 1 ⟨[(3, .lst sz (xs.map fe)),(0, .lst sz (xs.map fe))],[]⟩ ?_
  cases h2:(List.isEmpty xs)
  ·refine ow2 ⟨[(4, .v (.bool false)),(3, .lst sz (xs.map fe)),(0, .lst sz (xs.map fe))],[]⟩ (opE_isn_ne fe xs (.s 3) sz false (by kernel_rfl) (by kernel_rfl) (.inl rfl) h2) ?_
   refine owl 0 [0,4] ⟨[(4, .v (.bool false)),(0, .lst sz (xs.map fe))],[]⟩ ?_
   refine cnF ?_
   refine EL.skip ?_
   exact tN (HJ1.get ⟨by kernel_rfl,(Or.inr h2)⟩)
  ·refine ow2 ⟨[(4, .anyb),(3, .lst sz (xs.map fe)),(0, .lst sz (xs.map fe))],[]⟩ (opE_isn_any fe xs (.s 3) sz false (by kernel_rfl) (by kernel_rfl) (.inl rfl) h2) ?_
   refine owl 0 [0,4] ⟨[(4, .anyb),(0, .lst sz (xs.map fe))],[]⟩ ?_
   refine EL.condAny (by kernel_rfl) ?_ ?_
   ·refine srl 1 [2] ⟨[(2, .emp)],[]⟩ ?_
    refine rtr ?_
    refine ⟨.inr rfl,⟨[(2, .own 0 sz 0 (List.length xs))],[some ⟨sz,(xs.map fe)⟩]⟩,norm_le (live:=[2]) (src:=[.new sz]) (es:=[(2,0)]) (by rw [List.isEmpty_iff.1 h2];cases sz with|zero=>exact absurd rfl hz|succ n=>kernel_rfl) trivial,by kernel_rfl,rfl⟩
   ·refine EL.skip ?_
    exact tN (HJ1.get ⟨by kernel_rfl,(Or.inl h2)⟩)
 rintro _ (⟨rfl,hD3⟩)
 refine srr 2 ⟨[(6, .lst sz (xs.map fe)),(5, .own 0 sz 0 0),(0, .lst sz (xs.map fe))],[some ⟨sz,[]⟩]⟩ ?_
 refine ow2 ⟨(7, .own 1 sz 0 (List.length xs))::[(6, .lst sz (xs.map fe)),(5, .own 0 sz 0 0),(0, .lst sz (xs.map fe))],[none,some ⟨sz,(xs.map fe)⟩]⟩ (oap fe ([]:List α) xs (.s 5) (.s 6) sz by_ 0 (.lst sz (xs.map fe)) .lst (by simp;omega)) ?_
 refine owl 1 [2] ⟨[(2, .own 1 sz 0 (List.length xs))],[none,some ⟨sz,(xs.map fe)⟩]⟩ ?_
 refine EL.ret ?_
 exact fne [2] [ut 1] ⟨[(2, .own 0 sz 0 (List.length xs))],[some ⟨sz,(xs.map fe)⟩]⟩ ⟨pq sz fe xs (by kernel_rfl) hp,trivial⟩
open Go.RowKit
theorem rc_plain {E:Env}:∀{vs:List Value} {ws:Array Value},RC E ws (vs.map AV.v)→ws=vs.toArray:=by
 intro vs ws h
 apply Array.ext
 ·simpa using h.1
 ·intro i h1 h2
  have h3:i<vs.length:=by simpa using h2
  have:=h.2 i ws[i] (.v vs[i]) (Array.getElem?_eq_getElem h1) (by rw [List.getElem?_map,List.getElem?_eq_getElem h3];rfl)
  generalize hq:ws[i]=q at this
  generalize hp:vs[i]=p at this
  have e:q=p:=by cases this with|v h=>rfl
  rw [e, ←hp];simp
theorem fn_plain {P:Program} {f:FuncId} {vs:List Value} {u:Value} {r:AV} (hr:∀E:Env,Rep E u r) (h:∀w,Calls P f vs.toArray w fun e w'=>e= .returned u∧Below w.heap.size w w'):Fn P f (vs.map AV.v) r:=by
 intro w J ws hJ hG hrc
 rw [rc_plain hrc]
 exact (h w).mono fun e w' ⟨h1,h2⟩=>⟨u,h1,hr _,h2⟩
theorem rep_two {E:Env} {a b:Value} (ha:plainV a=true) (hb:plainV b=true):Rep E (.tuple #[a,b]) (.tup [.v a, .v b]):=by
 refine .tup rfl fun i v c hv hc=> ?_
 match i with
 |0=>simp at hv hc;subst hv;subst hc;exact .v ha
 |1=>simp at hv hc;subst hv;subst hc;exact .v hb
 |i+2=>simp at hc
def k_66:Con Tc Tc.dn:=⟨66,[.ty .cU8, .ty .cU8],fun _=>True,[.cU8],fun x=>gmul x.1 x.2.1⟩
theorem k_66_ok:k_66.Ok Try.prog tB:=⟨F66_call,fun x N _=>fn_plain (vs:=[B x.1,B x.2.1]) (u:=B (gmul x.1 x.2.1)) (fun _=> .v rfl) fun w=>(mul_any x.1 x.2.1 w).mono fun e w' ⟨h1,h2⟩=>⟨h1,by subst h2;exact Below.refl _ _⟩⟩
def k_65:Con Tc Tc.dn:=⟨65,[.ty .cU8],fun _=>True,[.cU8, .cInt],fun x=>(invN x.1,errZ x.1)⟩
theorem k_65_ok:k_65.Ok Try.prog tB:=⟨F65_call,fun x N _=>fn_plain (vs:=[B x.1]) (u:= .tuple #[B (invN x.1),I (errZ x.1)]) (fun _=>rep_two rfl rfl) fun w=>inverse_any x.1 w⟩
open Go.RowKit
theorem drop_gd {α:Type} (d:α) (xs:List α) (i:Int) (h0:0≤i) (h:i<xs.length):xs.drop i.toNat=gd d xs i.toNat::xs.drop (i+1).toNat:=by
 rw [show (i+1).toNat=i.toNat+1 by omega];exact gd_drop d (by omega)
theorem drop_end {α:Type} (xs:List α) (i:Int) (h:xs.length≤i):xs.drop i.toNat=[]:=List.drop_eq_nil_of_le (by omega)
def mchkGo (n:Int):List (List UInt8)→Int
 |[]=>0
 |r::l=>if 16<(r.length:Int) then 2 else if r.length=0∨(r.length:Int)≠n then 1 else mchkGo n l
def mchk (a:List (List UInt8)):Int:=if 16<a.length then 2 else if a.length=0 then 1 else mchkGo (gd [] a 0).length a
def fillL (m n:Int) (f:Nat→Nat→UInt8):List (List UInt8):=(List.range m.toNat).map fun i=>(List.range n.toNat).map fun k=>f i k
def i_74_0 (a:(List (List UInt8))) (i:Int):Prop:=0≤i∧i≤a.length∧0<a.length∧a.length≤16∧mchkGo (gd [] a 0).length (a.drop i.toNat)=mchkGo (gd [] a 0).length a
def k_74:Con Tc Tc.dn:=⟨74,[.ty .llU8],fun x=>(fun (a:(List (List UInt8)))=>True) x.1,[.cInt],fun x=>(fun (a:(List (List UInt8)))=>mchk a) x.1⟩
theorem k_74_v (a:(List (List UInt8))):((16:Int)<(↑a.length:Int)→(2:Int)=mchk a)∧((↑a.length:Int)≤(16:Int)→((↑a.length:Int)=(0:Int)→(1:Int)=mchk a)∧(¬(↑a.length:Int)=(0:Int)→i_74_0 a (0:Int)∧∀(x:Int),i_74_0 a x→(x<(↑a.length:Int)→((0:Int)≤x∧x<(↑a.length:Int))∧((16:Int)<(↑(gd [] a x.toNat).length:Int)→(2:Int)=mchk a)∧((↑(gd [] a x.toNat).length:Int)≤(16:Int)→(¬(↑(gd [] a x.toNat).length:Int)=(0:Int)→(0:Int)≤(0:Int)∧(0:Int)<(↑a.length:Int))∧((↑(gd [] a x.toNat).length:Int)=(0:Int)∧(↑(gd [] a x.toNat).length:Int)=(0:Int)∨¬(↑(gd [] a x.toNat).length:Int)=(0:Int)∧¬(↑(gd [] a x.toNat).length:Int)=(↑(gd [] a (Int.toNat (0:Int))).length:Int)→(1:Int)=mchk a)∧((¬(↑(gd [] a x.toNat).length:Int)=(0:Int)∨¬(↑(gd [] a x.toNat).length:Int)=(0:Int))∧((↑(gd [] a x.toNat).length:Int)=(0:Int)∨(↑(gd [] a x.toNat).length:Int)=(↑(gd [] a (Int.toNat (0:Int))).length:Int))→I64 (x+(1:Int))∧i_74_0 a (x+(1:Int))∧((↑a.length:Int) - (x+(1:Int))).toNat<((↑a.length:Int) - x).toNat)))∧((↑a.length:Int)≤x→(0:Int)=mchk a))):=by
 (repeat' (first|apply And.intro|intro _))<;>first|assumption|trivial|omega|(grind [mchk,mchkGo,drop_gd,drop_end,I64,i_74_0])|trace_state
theorem k_74_ok:k_74.Ok Try.prog tB:=con_ok tB_ok (Δ:=[]) trivial (Ω:=[]) trivial k_74 F74_ok F74_call (fun _=>[]) (fun _=>trivial) 0 (fun x=>(fun (a:(List (List UInt8)))=>(fun k=>bif Nat.beq k 0 then some (.inv [.sl 15 .cInt] (fun zo zv=>(fun (i:Int)=>i_74_0 a i) zv.1) (fun zo zv=>(fun (i:Int)=>((a.length:Int) - i).toNat) zv.1)) else none)) x.1) fun x hp=>Eq.mp (by kernel_rfl) (k_74_v x.1)
def k_62:Con Tc Tc.dn:=⟨62,[.ty .cInt],fun x=>(fun (n:Int)=>True) x.1,[.cBool],fun x=>(fun (n:Int)=>decide (1≤n∧n≤16)) x.1⟩
theorem k_62_v (n:Int):((1:Int)≤n→(1:Int)≤n)∧((1:Int)≤n→(1:Int)≤n)∧(decide ((1:Int)≤n)&&decide (n≤(16:Int)))=decide ((1:Int)≤n∧n≤(16:Int)):=by
 (repeat' (first|apply And.intro|intro _))<;>first|assumption|trivial|omega|(grind [])|trace_state
theorem k_62_ok:k_62.Ok Try.prog tB:=con_ok tB_ok (Δ:=[]) trivial (Ω:=[]) trivial k_62 F62_ok F62_call (fun _=>[]) (fun _=>trivial) 0 (fun x=>(fun (n:Int)=>(fun _=>none)) x.1) fun x hp=>Eq.mp (by kernel_rfl) (k_62_v x.1)
def k_95:Con Tc Tc.dn:=⟨95,[.ty .cInt, .ty .cInt],fun x=>(fun (i:Int) (k:Int)=>True) x.1 x.2.1,[.cU8],fun x=>(fun (i:Int) (k:Int)=>if i=k then 1 else 0) x.1 x.2.1⟩
theorem k_95_v (i:Int) (k:Int):(i=k→UInt8.ofNat (Int.toNat (1:Int))=if i=k then (1:RD Tc.dn [Tc.cU8]) else (0:RD Tc.dn [Tc.cU8]))∧(¬i=k→UInt8.ofNat (Int.toNat (0:Int))=if i=k then (1:RD Tc.dn [Tc.cU8]) else (0:RD Tc.dn [Tc.cU8])):=by
 (repeat' (first|apply And.intro|intro _))<;>first|assumption|trivial|omega|(grind [])|trace_state
theorem k_95_ok:k_95.Ok Try.prog tB:=con_ok tB_ok (Δ:=[]) trivial (Ω:=[]) trivial k_95 F95_ok F95_call (fun _=>[]) (fun _=>trivial) 0 (fun x=>(fun (i:Int) (k:Int)=>(fun _=>none)) x.1 x.2.1) fun x hp=>Eq.mp (by kernel_rfl) (k_95_v x.1 x.2.1)
open Go.RowKit
def txt (n:Nat) (f:Nat→UInt8):ByteArray:=⟨((List.range n).map f).toArray⟩
theorem txt_size {n:Nat} {f:Nat→UInt8}:(txt n f).size=n:=by simp [txt,ByteArray.size]
theorem gb_list (l:List UInt8) (i:Nat):gb ⟨l.toArray⟩ i=gd 0 l i:=by
 unfold gb gd
 congr 1
 by_cases h:i<l.length
 ·rw [List.getElem?_eq_getElem h]
  have h2:i<(⟨l.toArray⟩:ByteArray).size:=by simpa [ByteArray.size] using h
  rw [getElem?_pos (⟨l.toArray⟩:ByteArray) i h2];rfl
 ·rw [List.getElem?_eq_none (by omega)]
  have h2:¬i<(⟨l.toArray⟩:ByteArray).size:=by simpa [ByteArray.size] using h
  rw [getElem?_neg (⟨l.toArray⟩:ByteArray) i h2]
theorem txt_congr {n:Nat} {f g:Nat→UInt8} (h:∀i,i<n→f i=g i):txt n f=txt n g:=by
 unfold txt
 rw [List.map_congr_left fun i hi=>h i (List.mem_range.1 hi)]
theorem list_txt {l:List UInt8} {n:Nat} {f:Nat→UInt8} (h:l.length=n) (hf:∀i,i<n→gd 0 l i=f i):(⟨l.toArray⟩:ByteArray)=txt n f:=by
 unfold txt
 congr 2
 refine List.ext_getElem (by simp [h]) fun i h1 h2=> ?_
 have:=hf i (by omega)
 unfold gd at this
 rw [List.getElem?_eq_getElem h1] at this
 simpa using this
theorem str_txt (s:ByteArray):s=txt s.size fun i=>gb s i:=by
 have e:s=⟨s.data.toList.toArray⟩:=by cases s;rfl
 have h:=list_txt (l:=s.data.toList) (n:=s.size) (f:=fun i=>gb s i) rfl fun i hi=>by rw [←gb_list, ←e]
 rwa [←e] at h
theorem str_eq {s t:ByteArray} (h:s.size=t.size) (hf:∀i,i<s.size→gb s i=gb t i):s=t:=by
 rw [str_txt s,str_txt t, ←h];exact txt_congr hf
def mixT (row:List UInt8) (pieces:List ByteArray):ByteArray:=txt (gd ByteArray.empty pieces 0).size fun j=>sg pieces.length fun k=>gmul (gd 0 row k) (gb (gd ByteArray.empty pieces k) j)
def mixS (by_:List (List UInt8)) (pieces:List ByteArray):List ByteArray:=by_.map fun row=>mixT row pieces
structure MxP (by_:List (List UInt8)) (pieces:List ByteArray):Prop where
 p0:0<pieces.length
 p1:pieces.length≤100
 b1:by_.length≤100
 w:∀r,r∈by_→pieces.length≤r.length
 s:∀s,s∈pieces→(gd ByteArray.empty pieces 0).size≤s.size
 s0:(gd ByteArray.empty pieces 0).size≤1000000
structure MxO (by_:List (List UInt8)) (pieces:List ByteArray) (i:Int) (out:List ByteArray):Prop where
 lo:0≤i
 hi:i≤by_.length
 len:out.length=by_.length
 got:∀j,j<i.toNat→gd ByteArray.empty out j=mixT (gd [] by_ j) pieces
structure MxK (by_:List (List UInt8)) (pieces:List ByteArray) (i k:Int) (b:List UInt8):Prop where
 lo:0≤k
 hi:k≤pieces.length
 len:b.length=(gd ByteArray.empty pieces 0).size
 got:∀j,j<b.length→gd 0 b j=sg k.toNat fun t=>gmul (gd 0 (gd [] by_ i.toNat) t) (gb (gd ByteArray.empty pieces t) j)
structure MxJ (by_:List (List UInt8)) (pieces:List ByteArray) (i k j:Int) (b:List UInt8):Prop where
 klo:0≤k
 khi:k<pieces.length
 lo:0≤j
 hi:j≤b.length
 len:b.length=(gd ByteArray.empty pieces 0).size
 got:∀t,t<b.length→gd 0 b t=sg (if t<j.toNat then k.toNat+1 else k.toNat) fun t'=>gmul (gd 0 (gd [] by_ i.toNat) t') (gb (gd ByteArray.empty pieces t') t)
section
variable {by_:List (List UInt8)} {pieces:List ByteArray} {i k j:Int} {b:List UInt8} {out:List ByteArray}
theorem MxP.row (h:MxP by_ pieces) (h1:0≤i) (h2:i<by_.length):pieces.length≤(gd [] by_ i.toNat).length:=h.w _ (gd_mem (by omega))
theorem MxP.str (h:MxP by_ pieces) (h1:0≤k) (h2:k<pieces.length):(gd ByteArray.empty pieces (Int.toNat 0)).size≤(gd ByteArray.empty pieces k.toNat).size:=h.s _ (gd_mem (by omega))
theorem MxO.start {z:ByteArray}:MxO by_ pieces 0 (List.replicate (by_.length:Int).toNat z):=⟨by omega,by omega,by simp,fun j hj=>by simp at hj⟩
theorem MxK.start {n:Int} (h:n=((gd ByteArray.empty pieces (Int.toNat 0)).size:Int)):MxK by_ pieces i 0 (List.replicate n.toNat (UInt8.ofNat (Int.toNat 0))):=⟨by omega,by omega,by rw [List.length_replicate,h];rfl,fun j hj=>by
 rw [List.length_replicate] at hj
 unfold gd;rw [List.getElem?_replicate,if_pos hj];rfl⟩
theorem MxJ.start (h:MxK by_ pieces i k b) (hk:k<pieces.length):MxJ by_ pieces i k 0 b:=⟨h.lo,hk,by omega,by omega,h.len,fun t ht=>by rw [if_neg (by simp),h.got t ht]⟩
theorem MxJ.step {x y:UInt8} (h:MxJ by_ pieces i k j b) (hj:j<b.length) (hx:x=gd 0 (gd [] by_ i.toNat) k.toNat) (hy:y=gb (gd ByteArray.empty pieces k.toNat) j.toNat):MxJ by_ pieces i k (j+1) (b.set j.toNat (gd 0 b j.toNat^^^gmul x y)):=by
 have h0:=h.lo
 refine ⟨h.klo,h.khi,by omega,by rw [List.length_set];omega,by rw [List.length_set];exact h.len,fun t ht=> ?_⟩
 rw [List.length_set] at ht
 rw [gd_set2 (by omega)]
 by_cases e:j.toNat=t
 ·rw [if_pos e,if_pos (by omega),h.got _ (by omega),if_neg (by omega),hx,hy]
  subst e;rfl
 ·rw [if_neg e,h.got t ht]
  congr 1
  by_cases e2:t<j.toNat
  ·rw [if_pos e2,if_pos (by omega)]
  ·rw [if_neg e2,if_neg (by omega)]
theorem MxJ.fin (h:MxJ by_ pieces i k j b) (hj:b.length≤j):MxK by_ pieces i (k+1) b:=by
 have h0:=h.klo
 have h1:=h.khi
 refine ⟨by omega,by omega,h.len,fun t ht=> ?_⟩
 rw [h.got t ht,if_pos (by omega),show (k+1).toNat=k.toNat+1 by omega]
theorem MxO.step (h:MxO by_ pieces i out) (hi:i<by_.length) (hk:MxK by_ pieces i k b) (he:pieces.length≤k):MxO by_ pieces (i+1) (out.set i.toNat ⟨(List.map id b).toArray⟩):=by
 have h0:=h.lo
 have hl:=h.len
 refine ⟨by omega,by omega,by rw [List.length_set];exact hl,fun t ht=> ?_⟩
 rw [gd_set2 (by omega)]
 by_cases e:i.toNat=t
 ·rw [if_pos e,List.map_id]
  unfold mixT
  refine list_txt hk.len fun q hq=> ?_
  rw [hk.got q (by rw [hk.len];exact hq),show k.toNat=pieces.length by have:=hk.hi;omega,e]
 ·rw [if_neg e];exact h.got t (by omega)
theorem MxO.fin (h:MxO by_ pieces i out) (he:by_.length≤i):out=mixS by_ pieces:=by
 have hl:=h.len
 have hh:=h.hi
 unfold mixS
 refine List.ext_getElem (by simp [hl]) fun t h1 h2=> ?_
 have:=h.got t (by omega)
 unfold gd at this
 rw [List.getElem?_eq_getElem h1,List.getElem?_eq_getElem (show t<by_.length by omega)] at this
 simpa using this
end
def i_48_2 (by_:(List (List UInt8))) (pieces:(List ByteArray)) (j0:Int) (k0:Int) (i0:Int) (b0:(List UInt8)) (j:Int) (k:Int) (i:Int) (b:(List UInt8)):Prop:=i=i0∧k=k0∧b.length=b0.length∧MxJ by_ pieces i k j b
def i_48_1 (by_:(List (List UInt8))) (pieces:(List ByteArray)) (k0:Int) (i0:Int) (b0:(List UInt8)) (k:Int) (i:Int) (b:(List UInt8)):Prop:=i=i0∧MxK by_ pieces i k b
def i_48_0 (by_:(List (List UInt8))) (pieces:(List ByteArray)) (i:Int) (out:(List ByteArray)):Prop:=MxO by_ pieces i out
def k_48:Con Tc Tc.dn:=⟨48,[.ty .llU8, .ty .lStr],fun x=>(fun (by_:(List (List UInt8))) (pieces:(List ByteArray))=>MxP by_ pieces) x.1 x.2.1,[.lStr],fun x=>(fun (by_:(List (List UInt8))) (pieces:(List ByteArray))=>mixS by_ pieces) x.1 x.2.1⟩
abbrev z48_0 (pieces:(List ByteArray)):=(↑(gd ByteArray.empty pieces (Int.toNat (0:Int))).size:Int)
theorem k_48_v (by_:(List (List UInt8))) (pieces:(List ByteArray)) (hp:MxP by_ pieces):((0:Int)≤(↑by_.length:Int)∧(↑by_.length:Int)≤(↑by_.length:Int)∧(↑by_.length:Int)*(↑(16:Nat):Int)≤(140737488355328:Int))∧i_48_0 by_ pieces (0:Int) (List.replicate (↑by_.length:Int).toNat (ByteArray.mk #[]))∧∀(x:Int) (x_1:List ByteArray),i_48_0 by_ pieces x x_1→(x<(↑by_.length:Int)→((0:Int)≤x∧x<(↑by_.length:Int))∧((0:Int)≤(0:Int)∧(0:Int)<(↑pieces.length:Int))∧((0:Int)≤(z48_0 pieces)∧(z48_0 pieces)≤(z48_0 pieces)∧(z48_0 pieces)*(↑(1:Nat):Int)≤(140737488355328:Int))∧i_48_1 by_ pieces (0:Int) x (List.replicate (z48_0 pieces).toNat (UInt8.ofNat (Int.toNat (0:Int)))) (0:Int) x (List.replicate (z48_0 pieces).toNat (UInt8.ofNat (Int.toNat (0:Int))))∧∀(x_2 x_3:Int) (x_4:List UInt8),i_48_1 by_ pieces (0:Int) x (List.replicate (z48_0 pieces).toNat (UInt8.ofNat (Int.toNat (0:Int)))) x_2 x_3 x_4→(x_2<(↑pieces.length:Int)→((0:Int)≤x_2∧x_2<(↑pieces.length:Int))∧i_48_2 by_ pieces (0:Int) x_2 x_3 x_4 (0:Int) x_2 x_3 x_4∧∀(x_5 x_6 x_7:Int) (x_8:List UInt8),i_48_2 by_ pieces (0:Int) x_2 x_3 x_4 x_5 x_6 x_7 x_8→(x_5<(↑x_4.length:Int)→((0:Int)≤x_5∧x_5<(↑x_8.length:Int))∧x_5.toNat<x_8.length∧((0:Int)≤x_2∧x_2<(↑(gd [] by_ x.toNat).length:Int))∧((0:Int)≤x_5∧x_5<(↑(gd ByteArray.empty pieces x_2.toNat).size:Int))∧True∧((0:Int)≤x_5∧x_5<(↑x_8.length:Int))∧x_5.toNat<x_8.length∧I64 (x_5+(1:Int))∧i_48_2 by_ pieces (0:Int) x_2 x_3 x_4 (x_5+(1:Int)) x_6 x_7 (x_8.set x_5.toNat (gd (0:UInt8) x_8 x_5.toNat^^^gmul (gd (0:UInt8) (gd [] by_ x.toNat) x_2.toNat) (gb (gd ByteArray.empty pieces x_2.toNat) x_5.toNat)))∧((↑(x_8.set x_5.toNat (gd (0:UInt8) x_8 x_5.toNat^^^gmul (gd (0:UInt8) (gd [] by_ x.toNat) x_2.toNat) (gb (gd ByteArray.empty pieces x_2.toNat) x_5.toNat))).length:Int) - (x_5+(1:Int))).toNat<((↑x_8.length:Int) - x_5).toNat)∧((↑x_4.length:Int)≤x_5→I64 (x_6+(1:Int))∧i_48_1 by_ pieces (0:Int) x (List.replicate (z48_0 pieces).toNat (UInt8.ofNat (Int.toNat (0:Int)))) (x_6+(1:Int)) x_7 x_8∧((↑pieces.length:Int) - (x_6+(1:Int))).toNat<((↑pieces.length:Int) - x_2).toNat))∧((↑pieces.length:Int)≤x_2→((0:Int)≤x∧x<(↑x_1.length:Int))∧x.toNat<x_1.length∧I64 (x_3+(1:Int))∧i_48_0 by_ pieces (x_3+(1:Int)) (x_1.set x.toNat (ByteArray.mk (List.map id x_4).toArray))∧((↑by_.length:Int) - (x_3+(1:Int))).toNat<((↑by_.length:Int) - x).toNat))∧((↑by_.length:Int)≤x→x_1=mixS by_ pieces):=by
 delta z48_0
 have p0:=hp.p0
 have p1:=hp.p1
 have p2:=hp.b1
 have p3:=hp.s0
 have p4:=fun i=>MxP.row (i:=i) hp
 have p5:=fun k=>MxP.str (k:=k) hp
 have a1:= @MxO.start by_ pieces ByteArray.empty
 have a2:= @MxK.start by_ pieces
 have a3:= @MxJ.start by_ pieces
 have a4:= @MxJ.step by_ pieces
 have a5:= @MxJ.fin by_ pieces
 have a6:= @MxO.step by_ pieces
 have a7:= @MxO.fin by_ pieces
 have b1:= @MxO.lo by_ pieces
 have b2:= @MxO.hi by_ pieces
 have b3:= @MxO.len by_ pieces
 have c1:= @MxK.lo by_ pieces
 have c2:= @MxK.hi by_ pieces
 have c3:= @MxK.len by_ pieces
 have d1:= @MxJ.lo by_ pieces
 have d2:= @MxJ.hi by_ pieces
 have d3:= @MxJ.len by_ pieces
 (repeat' (first|apply And.intro|intro _))<;>first|assumption|trivial|omega|(grind [i_48_2,i_48_1,i_48_0,I64])|trace_state
theorem k_48_ok:k_48.Ok Try.prog tB:=con_ok tB_ok (Δ:=[k_66]) ⟨k_66_ok,trivial⟩ (Ω:=[]) trivial k_48 F48_ok F48_call (fun _=>[]) (fun _=>trivial) 0 (fun x=>(fun (by_:(List (List UInt8))) (pieces:(List ByteArray))=>(fun k=>bif Nat.beq k 0 then some (.inv [.sl 17 .cInt, .ow 5 .cStr] (fun zo zv=>(fun (i:Int) (out:(List ByteArray))=>i_48_0 by_ pieces i out) zv.1 zv.2.1) (fun zo zv=>(fun (i:Int) (out:(List ByteArray))=>((by_.length:Int) - i).toNat) zv.1 zv.2.1)) else bif Nat.beq k 1 then some (.inv [.sl 29 .cInt, .sl 17 .cInt, .ow 8 .cU8] (fun zo zv=>(fun (k0:Int) (i0:Int) (b0:(List UInt8)) (k:Int) (i:Int) (b:(List UInt8))=>i_48_1 by_ pieces k0 i0 b0 k i b) zo.1 zo.2.1 zo.2.2.1 zv.1 zv.2.1 zv.2.2.1) (fun zo zv=>(fun (k0:Int) (i0:Int) (b0:(List UInt8)) (k:Int) (i:Int) (b:(List UInt8))=>((pieces.length:Int) - k).toNat) zo.1 zo.2.1 zo.2.2.1 zv.1 zv.2.1 zv.2.2.1)) else bif Nat.beq k 2 then some (.inv [.sl 36 .cInt, .sl 29 .cInt, .sl 17 .cInt, .ow 8 .cU8] (fun zo zv=>(fun (j0:Int) (k0:Int) (i0:Int) (b0:(List UInt8)) (j:Int) (k:Int) (i:Int) (b:(List UInt8))=>i_48_2 by_ pieces j0 k0 i0 b0 j k i b) zo.1 zo.2.1 zo.2.2.1 zo.2.2.2.1 zv.1 zv.2.1 zv.2.2.1 zv.2.2.2.1) (fun zo zv=>(fun (j0:Int) (k0:Int) (i0:Int) (b0:(List UInt8)) (j:Int) (k:Int) (i:Int) (b:(List UInt8))=>((b.length:Int) - j).toNat) zo.1 zo.2.1 zo.2.2.1 zo.2.2.2.1 zv.1 zv.2.1 zv.2.2.1 zv.2.2.2.1)) else none)) x.1 x.2.1) fun x hp=>Eq.mp (by kernel_rfl) (k_48_v x.1 x.2.1 hp)
end Go.Proofs.Ytboaekdecndckaa
