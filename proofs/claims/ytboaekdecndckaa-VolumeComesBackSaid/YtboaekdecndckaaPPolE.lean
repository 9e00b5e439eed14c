/- Polynomials over the field of 256 elements: what meets values. No condition. -/
import Derived.Test.YtboaekdecndckaaPAvSide
import Derived.Test.YtboaekdecndckaaRows
import Derived.WalkKit
set_option linter.unusedSimpArgs false
set_option linter.unusedVariables false
set_option maxRecDepth 100000
namespace Go.Proofs.Ytboaekdecndckaa
variable {F:ba} {o:aL} {r a b:AV} {K:Act->World->Prop} {listed:Array Bool} {E:Env} {f:FuncId} {x y:L3} {els:List (List AV)} {ups:List (Nat×Option Bk)} {m m':List (Option Bk)} {as_ s:List AV} {acc:List Nat} {n jn i k0 k c d k' sz k1 j i0:Nat} {σ:Nat->AV} {p:Nat->Nat} {g g':Nat->Option Bk} {op:Oper} {P:Program} {v:Value} {w:World}
open Go.RowKit
abbrev acS:=@Option.map_eq_some_iff
abbrev ada:=@List.length_set
abbrev ade:=@List.mem_map
abbrev adv:=@List.map_append
abbrev adK:=@List.take_of_length_le
abbrev ad8:=@of_decide_eq_true
abbrev aed:=@Classical.byContradiction
abbrev ael:=@UInt8.xor_assoc
abbrev aeG:=@UInt8.xor_comm
inductive iM where
 |aZ (id:Nat) (raw:Bool)
 |new (sz:Nat)
def newOf:List iM->Nat->Nat->Option Nat
 |[],_,_=>none
 | .aZ i _::r,j,id=>bif Nat.beq i id then some j else newOf r (j+1) id
 | .new _::r,j,id=>newOf r (j+1) id
def jb (ρ:Nat->Option Nat):Nat->AV->AV
 |0,_=> .dead
 |d+1, .agg cs=> .agg (cs.map (jb ρ d))
 |d+1, .bn cs=> .bn (cs.map (jb ρ d))
 |d+1, .fn f cs=> .fn f (cs.map (jb ρ d))
 |d+1, .bf f cs=> .bf f (cs.map (jb ρ d))
 |d+1, .ff r cs=> .ff r (cs.map (jb ρ d))
 |_+1, .ref id sz i o=>match ρ id with
  |some j=> .ref j sz i o
  |none=> .dead
 |_+1, .own id sz off n=>match ρ id with
  |some j=> .own j sz off n
  |none=> .dead
 |_+1, .mp id=>match ρ id with
  |some j=> .mp j
  |none=> .dead
 |_+1,a=>a
def rA (ρ:Nat->Option Nat) (B:Bk):Bk:=⟨B.sz,B.els.map fun cs=>cs.map (jb ρ 3)⟩
def nq (m:List (Option Bk)) (src:List iM) (id:Nat):Option Nat:=bif (look m id).isSome then newOf src 0 id else none
def yl (ρ:Nat->Option Nat) (src:List iM) (es:List (Nat×Nat)) (j:Nat) (a:AV):AV:=
 match a,es.lookup j with
 | .emp,some i=>match src[i]? with
  |some (.new sz)=> .own i sz 0 0
  |_=> .emp
 |a,_=>jb ρ 4 a
def mE (m:List (Option Bk)) (src:List iM):iM->Option Bk
 | .aZ i raw=>(look m i).map fun B=>bif raw then B else rA (nq m src) B
 | .new sz=>some ⟨sz,[]⟩
def srcOK (k0:Nat) (src:List iM):Bool:=
 (List.range src.length).all (fun i=>match src[i]? with
  |some (.aZ id _)=>match newOf src 0 id with
   |some j=>Nat.beq j i
   |none=>false
  |some (.new sz)=>Nat.ble 1 sz
  |_=>true)&&(List.range k0).all fun i=>match src[i]? with
  |some (.aZ id _)=>Nat.beq id i
  |_=>false
def Cg (k0:Nat) (live:List Nat) (src:List iM) (es:List (Nat×Nat)) (x:L3):Option L3:=
 bif srcOK k0 src then some ⟨live.map fun j=>(j,yl (nq x.m src) src es j (slot x.t j)),src.map (mE x.m src)⟩ else none
def u9 (ln:Nat->Nat):Option iM->Nat
 |some (.aZ id _)=>ln id
 |_=>0
def s5 (loc:Nat->Option Nat):Option iM->Option Nat
 |some (.aZ id _)=>loc id
 |_=>none
theorem vd (h:aj E v .emp):∃A,v= .slice A 0 0:=by
 cases h with
 |emp=>exact ⟨_,rfl⟩
theorem Ci:∀(src:List iM) (k id j:Nat),newOf src k id=some j->k<=j/\∃raw,src[j - k]? =some (.aZ id raw)
 |[],k,id,j,h=>by simp [newOf] at h
 | .aZ i raw::r,k,id,j,h=>by
  simp only [newOf] at h
  cases hb:Nat.beq i id with
  |true=>
   rw [hb] at h
   simp only [acR,acM] at h
   subst h
   have:=ac0 hb
   subst this
   exact ⟨by omega,raw,by simp⟩
  |false=>
   rw [hb,ac7] at h
   obtain ⟨h1,h2⟩:=Ci r (k+1) id j h
   refine ⟨by omega, ?_⟩
   rw [show j - k=(j - (k+1))+1 by omega,adA]
   exact h2
 | .new _::r,k,id,j,h=>by
  simp only [newOf] at h
  obtain ⟨h1,h2⟩:=Ci r (k+1) id j h
  refine ⟨by omega, ?_⟩
  rw [show j - k=(j - (k+1))+1 by omega,adA]
  exact h2
theorem HD (G:Nat->AV):∀(live:List Nat) (i:Nat),slot (live.map fun j=>(j,G j)) i=G i\/slot (live.map fun j=>(j,G j)) i= .dead
 |[],i=> .inr rfl
 |j::r,i=>by
  simp only [acY,slot]
  cases hb:Nat.beq i j with
  |true=>
   have:=ac0 hb
   subst this
   exact .inl rfl
  |false=>exact HD G r i
theorem ve (m:List (Option Bk)) (src:List iM) (i:Nat):look (src.map (mE m src)) i=(src[i]?).bind (mE m src):=by
 unfold look
 rw [ac5]
 cases src[i]? <;>simp
section
variable {E E':Env} {ρ:Nat->Option Nat}
theorem PA (hI:E'.I=E.I) (hw:E'.w=E.w) (hg:∀l,E.rg l->E'.rg l) (gF:∀id j,ρ id=some j->E'.kn j/\¬E'.dead j/\E'.loc j=E.loc id/\¬E.dead id/\E'.ln j=E.ln id):∀(d:Nat) {v:Value} {a:AV},aj E v a->aj E' v (jb ρ d a):=by
 have hp:∀{v:Value} {a:AV},aj E v a->Pu a->aj E' v a:=fun h hp=>h.pure (fun b hb=>⟨by rw [hI];exact hb,fun o=>by rw [hw]⟩) hp
 intro d
 induction d with
 |zero=>intro v a h;exact .dead
 |succ d ih=>
  have mw:∀{vs:Array Value} {cs:List AV},vs.size=cs.length->(∀(i:Nat) v c,vs[i]? =some v->cs[i]? =some c->aj E v c)->vs.size=(cs.map (jb ρ d)).length/\∀(i:Nat) v c,vs[i]? =some v->(cs.map (jb ρ d))[i]? =some c->aj E' v c:=by
   intro vs cs hl h
   refine ⟨by simpa using hl,fun i v c hv hc=> ?_⟩
   rw [ac5,acS] at hc
   obtain ⟨c0,m7,rfl⟩:=hc
   exact ih (h i v c0 hv m7)
  intro v a h
  cases a with
  |v x=>exact hp h .v
  |agg cs=>cases h with|agg hl hh=>obtain ⟨q1,q2⟩:=mw hl hh;exact .agg q1 q2
  |bn cs=>cases h with|bn hl hh=>obtain ⟨q1,q2⟩:=mw hl hh;exact .bn q1 q2
  |fn f cs=>cases h with|fn hl hh=>obtain ⟨q1,q2⟩:=mw hl hh;exact .fn q1 q2
  |bf f cs=>cases h with|bf hl hh=>obtain ⟨q1,q2⟩:=mw hl hh;exact .bf q1 q2
  |ff r cs=>cases h with|ff h1 h2 h3 hl hh=>obtain ⟨q1,q2⟩:=mw hl hh;exact .ff (hg _ h1) (by rw [hI];exact h2) (by rw [hw];exact h3) q1 q2
  |aV sz els=>exact hp h .aV
  |cZ sz els=>exact hp h .cZ
  |emp=>exact hp h .emp
  |pim cs o=>exact hp h .pim
  |dG=>exact hp h .dG
  |dead=>exact .dead
  |ref id sz i o=>
   simp only [jb]
   cases hr:ρ id with
   |none=>exact .dead
   |some j=>
    obtain ⟨r1,r2,r3,r4,r5⟩:=gF id j hr
    cases h with
    |ref hi hd hb hq=>exact .ref r1 r2 (r3.trans hb) hq
    |gz hi hd ho=>exact absurd hd r4
  |own id sz off n=>
   simp only [jb]
   cases hr:ρ id with
   |none=>exact .dead
   |some j=>
    obtain ⟨r1,r2,r3,r4,r5⟩:=gF id j hr
    cases h with
    |own hi hd hb hq hs hm hl hc bG=>exact .own r1 r2 (r3.trans hb) hq (by rw [hw];exact hs) hm hl hc (by rw [r5];exact bG)
    |cG hi hd hb bG=>exact .cG r1 r2 (r3.trans hb) (r5.trans bG)
    |dj hi hd ho=>exact absurd hd r4
  |mp id=>
   simp only [jb]
   cases hr:ρ id with
   |none=>exact .dead
   |some j=>
    obtain ⟨r1,r2,r3,r4,r5⟩:=gF id j hr
    cases h with
    |mp hi hd hb=>exact .mp r1 r2 (r3.trans hb)
    |kG hi hd ho=>exact absurd hd r4
end
def oH (m:List (Option Bk)):List iM->Prop
 |[]=>True
 | .aZ id true::r=>(∃(α:Type) (f:α->List AV) (xs:List α) (sz:Nat),look m id=some ⟨sz,xs.map f⟩/\∀y,(f y).all AV.pu1=true)/\oH m r
 |_::r=>oH m r
abbrev HE (m:List (Option Bk)) (id:Nat):Prop:=∃(α:Type) (f:α->List AV) (xs:List α) (sz:Nat),look m id=some ⟨sz,xs.map f⟩/\∀y,(f y).all AV.pu1=true
theorem pu {α:Type} {id:Nat} (sz:Nat) (f:α->List AV) (xs:List α) (h:look m id=some ⟨sz,xs.map f⟩) (hp:∀y,(f y).all AV.pu1=true):HE m id:=⟨α,f,xs,sz,h,hp⟩
theorem oH.get {m:List (Option Bk)}:∀{src:List iM},oH m src->∀(i id:Nat),src[i]? =some (.aZ id true)->∀B,look m id=some B->∀cs,cs∈B.els->∀c,c∈cs->Pu c
 |[],_,i,id,h,B,hB,cs,hcs,c,hc=>by simp at h
 | .new _::r,hp,i,id,h,B,hB,cs,hcs,c,hc=>by
  cases i with
  |zero=>simp at h
  |succ i=>exact oH.get (src:=r) hp i id (by simpa using h) B hB cs hcs c hc
 | .aZ _ false::r,hp,i,id,h,B,hB,cs,hcs,c,hc=>by
  cases i with
  |zero=>simp at h
  |succ i=>exact oH.get (src:=r) hp i id (by simpa using h) B hB cs hcs c hc
 | .aZ _ true::r,hp,i,id,h,B,hB,cs,hcs,c,hc=>by
  cases i with
  |zero=>
   simp only [ado,acM,iM.aZ.injEq,and_true] at h
   subst h
   obtain ⟨⟨α,f,xs,sz,h1,h2⟩,_⟩:=hp
   rw [h1] at hB
   simp only [acM] at hB
   subst hB
   simp only [ade] at hcs
   obtain ⟨y,_,rfl⟩:=hcs
   have:=h2 y
   simp only [acQ] at this
   exact AV.uL (this c hc)
  |succ i=>exact oH.get (src:=r) hp.2 i id (by simpa using h) B hB cs hcs c hc
theorem Mk.same {E':Env} (hI:E'.I=E.I) (hw:E'.w=E.w) {lo:Nat} {ds:List Deferred} (h:Mk E lo ds):Mk E' lo ds:=by
 induction h with
 |nil=>exact .nil
 |cons h1 hD hh aJ t ih=>exact .cons (by rw [hI];exact h1) hD (by rw [hw];exact hh) aJ ih
theorem norm_le {live:List Nat} {src:List iM} {es:List (Nat×Nat)} (h:Cg k0 live src es x=some y) (Cj:oH x.m src):x.s.Le k0 n y.s:=by
 have hp:=Cj.get
 unfold Cg at h
 cases hok:srcOK k0 src with
 |false=>rw [hok] at h;simp at h
 |true=>
 rw [hok,acR,acM] at h
 subst h
 simp only [srcOK,acO,acQ,adl] at hok
 obtain ⟨HF,PB⟩:=hok
 have inj:∀i id raw,src[i]? =some (.aZ id raw)->newOf src 0 id=some i:=by
  intro i id raw hi
  have hlt:i<src.length:=(acU.1 hi).1
  have:=HF i hlt
  rw [hi] at this
  simp only at this
  cases hn:newOf src 0 id with
  |none=>rw [hn] at this;simp at this
  |some j=>rw [hn] at this;simp only at this;rw [ac0 this]
 have low:∀i,i<k0->∃raw,src[i]? =some (.aZ i raw):=by
  intro i hi
  have:=PB i hi
  cases hs:src[i]? with
  |none=>rw [hs] at this;simp at this
  |some q=>
   cases q with
   |aZ id raw=>rw [hs] at this;simp only at this;exact ⟨raw,by rw [ac0 this]⟩
   |new sz=>rw [hs] at this;simp at this
 intro E0 J base w0 a w hk hr
 obtain ⟨E,rfl,hle,hs,hm,bH,hmk⟩:=hr.ex
 let E':Env:={ w:=E.w,kn:=fun i=>i<src.length,loc:=fun i=>s5 E.loc (src[i]?),dead:=fun i=>look (src.map (mE x.m src)) i=none,I:=E.I,ln:=fun i=>u9 E.ln (src[i]?),rg:=E.rg,X:=E.X }
 have pR:∀id,look x.m id≠none->E.kn id/\¬E.dead id:=fun id hid=>by
  obtain ⟨B,hB⟩:=Option.ne_none_iff_exists'.1 hid
  exact (hm.live id).2 ⟨B,hB⟩
 have gF:∀id j,nq x.m src id=some j->E'.kn j/\¬E'.dead j/\E'.loc j=E.loc id/\¬E.dead id/\E'.ln j=E.ln id:=by
  intro id j hj
  unfold nq at hj
  cases hB:look x.m id with
  |none=>rw [hB] at hj;simp at hj
  |some B=>
   rw [hB] at hj
   simp only [Option.isSome_some,acR] at hj
   obtain ⟨_,raw,h2⟩:=Ci src 0 id j hj
   simp only [Nat.sub_zero] at h2
   refine ⟨(acU.1 h2).1, ?_, ?_,(pR id (by rw [hB];simp)).2,by show u9 E.ln (src[j]?)=_;rw [h2];rfl⟩
   ·show ¬look _ j=none
    rw [ve,h2];simp [mE,hB]
   ·show s5 E.loc (src[j]?)=_
    rw [h2];rfl
 have hR:∀(d:Nat) {v:Value} {a:AV},aj E v a->aj E' v (jb (nq x.m src) d a):=PA (E:=E) (E':=E') rfl rfl (fun _ h=>h) gF
 have gB:∀i B',look (src.map (mE x.m src)) i=some B'->(∃id raw B,src[i]? =some (.aZ id raw)/\look x.m id=some B/\B'=(bif raw then B else rA (nq x.m src) B)/\E'.loc i=E.loc id)\/(∃sz,src[i]? =some (.new sz)/\B'=⟨sz,[]⟩/\E'.loc i=none):=by
  intro i B' aX
  rw [ve] at aX
  cases hsi:src[i]? with
  |none=>rw [hsi] at aX;simp at aX
  |some q=>
   rw [hsi] at aX
   cases q with
   |aZ id raw=>
    simp only [ad2,mE,acS] at aX
    obtain ⟨B,hB,rfl⟩:=aX
    refine .inl ⟨id,raw,B,rfl,hB,rfl, ?_⟩
    show s5 E.loc (src[i]?)=_
    rw [hsi];rfl
   |new sz=>
    simp only [ad2,mE,acM] at aX
    subst aX
    refine .inr ⟨sz,rfl,rfl, ?_⟩
    show s5 E.loc (src[i]?)=_
    rw [hsi];rfl
 have hM:aS E' J base (look (src.map (mE x.m src))):=by
  refine ⟨fun i=> ?_,fun i B' aX=> ?_,fun i i' b B1 B2 h1 h2 h3 h4=> ?_,fun i b B' aX hl=> ?_,hm.low,hm.size,fun i B' aX dH=> ?_,hm.jZ,fun b hb=>⟨(hm.xo b hb).1,(hm.xo b hb).2.1,fun i B' aX he=> ?_⟩⟩
  ·show (i<src.length/\¬look _ i=none)↔_
   constructor
   ·rintro ⟨_,h2⟩
    exact Option.ne_none_iff_exists'.1 h2
   ·rintro ⟨B,hB⟩
    refine ⟨?_,by rw [hB];simp⟩
    rw [ve] at hB
    cases hsi:src[i]? with
    |none=>rw [hsi] at hB;simp at hB
    |some q=>exact (acU.1 hsi).1
  ·rcases gB i B' aX with ⟨id,raw,B,e1,e2,ou,e4⟩|⟨sz,e1,rfl,e3⟩
   ·rw [e4]
    have:=hm.at_ id B e2
    have br:B'.sz=B.sz/\B'.els.length=B.els.length:=by subst ou;cases raw<;>simp [rA]
    have gR:∀(i:Nat) cs',B'.els[i]? =some cs'->∃cs,B.els[i]? =some cs/\cs'.length=cs.length/\∀(j:Nat) c',cs'[j]? =some c'->∃c,cs[j]? =some c/\∀u,aj E u c->aj E' u c':=by
     subst ou
     cases raw with
     |true=>
      intro i' cs hi
      refine ⟨cs,hi,rfl,fun j c hj=>⟨c,hj,fun u hu=> ?_⟩⟩
      exact aj.pure (E:=E) (E':=E') (fun b hb=>⟨hb,fun _=>rfl⟩) hu (hp i id e1 B e2 cs (adm hi) c (adm hj))
     |false=>
      intro i' cs' hi
      simp only [ac7,rA,ac5,acS] at hi
      obtain ⟨cs,hcs,rfl⟩:=hi
      refine ⟨cs,hcs,by simp,fun j c' hj=> ?_⟩
      rw [ac5,acS] at hj
      obtain ⟨c,hc,rfl⟩:=hj
      exact ⟨c,hc,fun u hu=>hR 3 hu⟩
    cases hl:E.loc id with
    |none=>
     rw [hl] at this
     show B'.els=[]
     have h0:B.els=[]:=this
     have:=br.2
     rw [h0] at this
     exact ad3 this
    |some b=>
     rw [hl] at this
     obtain ⟨q1,⟨hz,arr,t,q2,q3,q4⟩|⟨hz,PC,clock,q2,q3,q4⟩⟩:=this
     ·refine .lx ⟨q1,arr,t,q2,by rw [br.1,br.2];exact q3,fun i cs' hi=> ?_⟩ (by rw [br.1];exact hz)
      obtain ⟨cs,hcs,hlen,kH⟩:=gR i cs' hi
      obtain ⟨p1,p2⟩:=q4 i cs hcs
      refine ⟨by rw [hlen,br.1];exact p1,fun j c' hj=> ?_⟩
      obtain ⟨c,hc,dw⟩:=kH j c' hj
      obtain ⟨u,u1,u2,u3⟩:=p2 j c hc
      exact ⟨u,by rw [br.1];exact u1,u2,dw u u3⟩
     ·refine .ofMap ⟨q1,PC,clock,q2,by rw [br.2];exact q3,fun i' e cs' he hi=> ?_⟩ (by rw [br.1];exact hz)
      subst ou
      cases raw with
      |true=>
       obtain ⟨y,k1,k2,k3⟩:=q4 i' e cs' he hi
       refine ⟨y,k1,k2,aj.pure (E:=E) (E':=E') (fun b hb=>⟨hb,fun _=>rfl⟩) k3 (hp i id e1 B e2 cs' (adm hi) y (by rw [k1];simp))⟩
      |false=>
       simp only [ac7,rA,ac5,acS] at hi
       obtain ⟨cs,hcs,rfl⟩:=hi
       obtain ⟨y,rfl,k2,k3⟩:=q4 i' e cs he hcs
       exact ⟨jb (nq x.m src) 3 y,rfl,k2,hR 3 k3⟩
   ·rw [e3];rfl
  ·rcases gB i B1 h1 with ⟨id,raw,B,e1,e2,_,e4⟩|⟨sz,_,_,e3⟩
   ·rcases gB i' B2 h2 with ⟨dc,PE,B',f1,f2,_,f4⟩|⟨sz,_,_,f3⟩
    ·rw [e4] at h3;rw [f4] at h4
     have:=hm.apart id dc b B B' e2 f2 h3 h4
     subst this
     have a1:=inj i id raw e1
     have a2:=inj i' id PE f1
     rw [a1] at a2
     exact Option.some.inj a2
    ·rw [f3] at h4;simp at h4
   ·rw [e3] at h3;simp at h3
  ·rcases gB i B' aX with ⟨id,raw,B,e1,e2,_,e4⟩|⟨sz,_,_,e3⟩
   ·rw [e4] at hl;exact hm.out id b B e2 hl
   ·rw [e3] at hl;simp at hl
  ·show _=u9 E.ln (src[i]?)
   rcases gB i B' aX with ⟨id,raw,B,e1,e2,e3,e4⟩|⟨sz,e1,e2,e3⟩
   ·rw [e1];show _=E.ln id
    rw [<-hm.len id B e2 (by subst e3;cases raw<;>simpa [rA] using dH),e3];cases raw<;>simp [rA]
   ·rw [e1,e2];rfl
  ·rcases gB i B' aX with ⟨id,raw,B,e1,e2,_,e4⟩|⟨sz,_,_,e3⟩
   ·rw [e4] at he;exact (hm.xo b hb).2.2 id B e2 he
   ·rw [e3] at he;simp at he
 have PF:E0.Le E':=by
  have PG:∀id,E0.kn id->E'.loc id=E.loc id:=fun id hid=>by
   show s5 E.loc (src[id]?)=_
   obtain ⟨raw,hl⟩:=low id (hk id hid)
   rw [hl];rfl
  have ym:∀id,E0.kn id->E.dead id->E'.dead id:=fun id hid hd=>by
   show look _ id=none
   obtain ⟨raw,hl⟩:=low id (hk id hid)
   rw [ve,hl]
   cases hB:look x.m id with
   |none=>simp [mE,hB]
   |some B=>exact absurd hd (pR id (by rw [hB];simp)).2
  refine ⟨fun id hid=>(low id (hk id hid)).elim fun _ hl=>(acU.1 hl).1,hle.gi,fun id hid hd=>ym id hid (hle.dead id hid hd),fun id hid hd=> ?_,fun id b hid hd hb=> ?_,fun id hid hd=> ?_,hle.rg,hle.fx⟩
  ·rcases hle.loc id hid hd with h|h
   ·exact .inl (ym id hid h)
   ·exact .inr ((PG id hid).trans h)
  ·rcases hle.shape id b hid hd hb with h|h
   ·exact .inl (ym id hid h)
   ·exact .inr h
  ·rcases hle.ln id hid hd with h|h
   ·exact .inl (ym id hid h)
   ·refine .inr (Eq.trans ?_ h)
    show u9 E.ln (src[id]?)=_
    obtain ⟨raw,hl⟩:=low id (hk id hid)
    rw [hl];rfl
 have PH:Mk E' w0.heap.size a.defers:=Mk.same (E:=E) (E':=E') rfl rfl hmk
 refine ⟨⟨E',rfl,PF,fun t=> ?_,hM,fun id hid=> ?_,PH⟩,hr.size,hr.below,hr.gl⟩
 ·show aj E' _ (slot (live.map fun j=>(j,yl (nq x.m src) src es j (slot x.t j))) t)
  rcases HD (fun j=>yl (nq x.m src) src es j (slot x.t j)) live t with h|h
  ·rw [h]
   have ht:=hs t
   have yn:aj E (a.tmps.getD t undef) (slot x.t t):=ht
   have PI:aj E' (a.tmps.getD t undef) (jb (nq x.m src) 4 (slot x.t t)):=hR 4 yn
   unfold yl
   split
   ·rename_i i he hl
    rw [he] at yn
    split
    ·rename_i sz br
     obtain ⟨A,hA⟩:=vd yn
     rw [hA]
     have aX:look (src.map (mE x.m src)) i=some ⟨sz,[]⟩:=by rw [ve,br];rfl
     have hz:sz≠0:=by
      have:=HF i (acU.1 br).1
      rw [br] at this
      have:=adC this
      omega
     refine .cG (acU.1 br).1 (by show ¬look _ i=none;rw [aX];simp) ?_ ?_
     ·show s5 E.loc (src[i]?)=_
      rw [br];rfl
     ·show u9 E.ln (src[i]?)=_
      rw [br];rfl
    ·obtain ⟨A,hA⟩:=vd yn
     rw [hA]
     exact .emp
   ·exact PI
  ·rw [h];exact .dead
 ·show id<(src.map _).length
  rw [ac4];exact hid
section
variable {P:Program} {n k0:Nat} {x:L3} {Q:Ex->L3->Prop}
end
section
variable {g:Nat->Option Bk}
end
def cD (a b:AV):Prop:=∀(E:Env) (v:Value),aj E v a->aj E v b
theorem cD.refl:cD a a:=fun _ _ h=>h
theorem cD.of_eq (h:a=b):cD a b:=h▸cD.refl
theorem cD.trans {c:AV} (h:cD a b) (k:cD b c):cD a c:=fun E v r=>k E v (h E v r)
theorem cD.emp {sz:Nat}:cD .emp (.aV sz []):=fun E v h=>by
 obtain ⟨A,rfl⟩:=vd h
 exact .fg (by omega)
inductive eF:List AV->List AV->Prop
 |nil:eF [] []
 |cons {a b:AV} {r s:List AV} (h:cD a b) (t:eF r s):eF (a::r) (b::s)
theorem eF.get {r:List AV} (h:eF r s):r.length=s.length/\∀(i:Nat) b,s[i]? =some b->∃a,r[i]? =some a/\cD a b:=by
 induction h with
 |nil=>exact ⟨rfl,fun i b h=>by simp at h⟩
 |cons h t ih=>
  refine ⟨by simp [ih.1],fun i b hb=> ?_⟩
  cases i with
  |zero=>simp only [ado,acM] at hb;subst hb;exact ⟨_,by simp,h⟩
  |succ i=>exact ih.2 i b (by simpa using hb)
theorem cD.bn {r s:List AV} (h:eF r s):cD (.bn r) (.bn s):=fun E v hv=>by
 cases hv with
 |bn hl hh=>exact .bn (hl.trans h.get.1) fun i u c hu hc=>let ⟨a,ha,rB⟩:=h.get.2 i c hc;rB _ _ (hh i u a hu ha)
theorem cD.agg {r s:List AV} (h:eF r s):cD (.agg r) (.agg s):=fun E v hv=>by
 cases hv with
 |agg hl hh=>exact .agg (hl.trans h.get.1) fun i u c hu hc=>let ⟨a,ha,rB⟩:=h.get.2 i c hc;rB _ _ (hh i u a hu ha)
theorem Fn.args {cL:List AV} (h:Fn P f as_ r) (ha:eF cL as_):Fn P f cL r:=fun w J vs hJ hG dd=>
 h w J vs hJ hG ⟨dd.1.trans ha.get.1,fun i u c hu hc=>let ⟨a,h1,h2⟩:=ha.get.2 i c hc;h2 _ _ (dd.2 i u a hu h1)⟩
theorem HG (hF:cFunc P f=some F) (hl:as_.length<=F.n)
  (h:EW P F.n 0 F.code ⟨dD as_,fun _=>none,0⟩ fun x s'=>(x= .normal\/x= .ret)/\∃r',((gT s'.σ F.res).bind oG).run s'.g=some r'/\cD r' r):Fn P f as_ r:=by
 intro w J vs hJ hG dd
 obtain ⟨fn,c,h1,h2,h3,h4,h5⟩:=Hn hF
 have hm:aS (E0 w J) J w.heap.size (fun _=>none):=⟨fun id=>by simp [E0],fun id B hg=>by simp at hg,fun id dc b B B' hg=>by simp at hg,fun id b B hg=>by simp at hg,fun b hb=>⟨hJ b hb, .inl hb⟩,acV _,fun id B hg=>by simp at hg,fun _ h=>h.elim,fun _ h=>h.elim⟩
 refine Hr h1 h2 (wpIn_mono (h none c (E0 w J) J w.heap.size w _ w (fun _=>rfl) h4 (fun id hid=>hid.elim) ⟨⟨E0 w J,rfl,Env.Le.refl _,Ho dd _,hm,fun id hid=>hid.elim, .nil⟩, ?_,adG _ _,hG⟩) ?_)
 ·simp only [Array.size_append,Array.size_replicate,dd.1];omega
 ·rintro e a' w' ⟨x,s',⟨hx,r',hr,PJ⟩,rfl,hrel⟩
  obtain ⟨E1,rfl,hle,s6,mr,hk,hmk⟩:=hrel.ex
  refine ⟨by rcases hx with rfl|rfl<;>simp [Ex.up],B7 _ E1 hmk fun E' hS=> ?_⟩
  have hM:=hS.mem mr
  have hs:=fun t=>hS.rep (s6 t)
  obtain ⟨r0,iD,eT⟩:=dN hr
  obtain ⟨v,e1,e2⟩:=Hm hM hs h3 iD
  have hI:∀ids b,Handed E' s'.g ids b->J b\/(w.heap.size<=b/\b<E'.w.heap.size):=by
   intro ids b hb
   rcases hb with hb|⟨id,B,_,hg,hl⟩
   ·have:=hM.low b hb
    rcases this.2 with h|h
    ·exact .inl h
    ·exact .inr ⟨h,this.1⟩
   ·have:=hM.at_ id B hg
    rw [hl] at this
    exact .inr this.lt
  have dw:aj (Proofs.Ytboaekdecndckaa.E0 E'.w fun b=>J b\/(w.heap.size<=b/\b<E'.w.heap.size)) v r:=by
   refine PJ _ _ ?_
   cases r0 with
   |bn us=>
    simp only [oG] at eT
    obtain ⟨l,m1,m2⟩:=dN eT
    simp only [RM.run,acM] at m2;subst m2
    obtain ⟨k1,k2⟩:=ye hM _ m1 (hI _)
    cases e2 with
    |bn hl h=>
     refine .bn (by rw [k1];exact hl) fun i v c hv hc=> ?_
     have hi:i<us.length:=by rw [<-k1];exact (acU.1 hc).1
     exact k2 i v us[i] c (h i v _ hv (acT hi)) (acT hi) hc
   |_=>exact GZ hM _ e2 eT (hI _)
  exact ⟨v,e1,v,rfl,dw,hS.below (acV _) hrel.below⟩
theorem fW (hF:cFunc P f=some F) (hl:as_.length<=F.n)
  (h:EL P F.n 0 F.code (start as_) fun e x=>(e= .normal\/e= .ret)/\∃r',((gT (slot x.t) F.res).bind oG).run (look x.m)=some r'/\cD r' r):Fn P f as_ r:=by
 refine HG hF hl (EW.kN (Hw as_ _ _) (EW.kg h ?_))
 rintro e s ⟨x',rfl,h1,h2⟩
 exact ⟨h1,h2⟩
theorem Ck (hF:cFunc P f=some F) (hl:as_.length<=F.n)
  (h:EW P F.n k F.code ⟨dD as_,g,k⟩ fun x s'=>(x= .normal\/x= .ret)/\∃y:S3,s'.Le k F.n y/\(gT y.σ F.res).run y.g=some r/\y.g=g'/\y.k=k'):Fi P f as_ g k r g' k':=by
 intro E J base vs hG hm bH dd
 obtain ⟨fn,c,h1,h2,h3,h4,h5⟩:=Hn hF
 refine Hr h1 h2 (wpIn_mono (h none c E J base E.w _ E.w (fun _=>rfl) h4 bH ⟨⟨E,rfl,Env.Le.refl E,Ho dd _,hm,bH, .nil⟩, ?_,adG _ _,hG⟩) ?_)
 ·simp only [Array.size_append,Array.size_replicate,dd.1];omega
 ·rintro e a' w' ⟨x,s',⟨hx,y,hy,hr,rfl,rfl⟩,rfl,PK⟩
  have hrel:=hy E J base E.w a' w' bH PK
  obtain ⟨E',rfl,hle,hs,hM,hk,hmk⟩:=hrel.ex
  refine ⟨by rcases hx with rfl|rfl<;>simp [Ex.up],B7 _ E' hmk fun E2 hS=> ?_⟩
  have yp:=hS.mem hM
  obtain ⟨v,e1,e2⟩:=Hm yp (fun t=>hS.rep (hs t)) h3 hr
  exact ⟨v,e1,v,E2,rfl,rfl,hS.le hle (fun b hb=>(hm.low b hb).1) (fun b hb=>(hm.xo b hb).1),e2,yp,hS.below hm.size hrel.below,fun id hid=>hk id (by rw [<-hS.eqs.1];exact hid)⟩
theorem fV (hF:cFunc P f=some F) (hl:as_.length<=F.n)
  (h:EL P F.n m.length F.code ⟨p8 0 as_,m⟩ fun e x=>(e= .normal\/e= .ret)/\∃y:L3,x.s.Le m.length F.n y.s/\(gT (slot y.t) F.res).run (look y.m)=some r/\y.m=m'):Fi P f as_ (look m) m.length r (look m') m'.length:=by
 refine Ck hF hl (EW.kN (Hw as_ _ _) (EW.kg h ?_))
 rintro e s ⟨x',rfl,h1,y,h2,h3,rfl⟩
 exact ⟨h1,y.s,h2,h3,rfl,rfl⟩
theorem PL (h:Fi P f as_ (look []) 0 (.own 0 sz 0 els.length) (look [some ⟨sz,els⟩]) 1):Fo P f as_ sz els:=by
 intro w J vs hJ hG dd
 have hm:aS (E0 w J) J w.heap.size (look []):=⟨fun id=>by simp [E0,look],fun id B hg=>by simp [look] at hg,fun id dc b B B' hg=>by simp [look] at hg,fun id b B hg=>by simp [look] at hg,fun b hb=>⟨hJ b hb, .inl hb⟩,acV _,fun id B hg=>by simp [look] at hg,fun _ h=>h.elim,fun _ h=>h.elim⟩
 refine (h (E0 w J) J w.heap.size vs hG hm (fun id hid=>hid.elim) dd).mono ?_
 rintro e w' ⟨v,E',he,hw,hle,hr,hM,hb,hk⟩
 have hg:look [some (⟨sz,els⟩:Bk)] 0=some ⟨sz,els⟩:=rfl
 obtain ⟨k1,k2⟩:=(hM.live 0).2 ⟨_,hg⟩
 exact ⟨v,E',he,hw,hb,hr,k1,k2,hM.at_ 0 _ hg,(hM.len 0 _ hg (hr.sC k2)).symm⟩
section
variable {P:Program} {n k0:Nat} {x:L3} {K:L3->Prop} {R:List aL} {k:Nat}
end
section
variable {o:aL} {x:L3}
end
theorem PM {x c:Int} (h:0<=x):x.tmod c=x%c:=Int.tmod_eq_emod_of_nonneg h
open Go.RowKit
def yq (sz:Nat):List aL:=[⟨some 8, .mov (.s 0),none⟩,⟨some 9, .mov (.s 1),none⟩,⟨some 10, .mov (.s 2),none⟩,⟨some 11, .mov (.s 0),none⟩,⟨some 12, .len false (.s 11),none⟩,⟨some 13, .slc sz (.s 8) (some (.s 9)) (some (.s 10)) (some (.s 12)),none⟩]
def PN:List aL:=[⟨some 14, .mov (.s 1),none⟩,⟨some 15, .mov (.s 2),none⟩,⟨some 16, .bin false .eql (.s 14) (.s 15),none⟩]
def PO:List aL:=[⟨some 17, .mov (.s 0),none⟩,⟨some 6, .mov (.s 17),none⟩]
def yr:List aL:=[⟨some 18, .mov (.s 0),none⟩,⟨some 19, .len false (.s 18),none⟩,⟨some 7, .mov (.s 19),none⟩]
def PQ (sz by_:Nat):List aL:=[⟨some 20, .mov (.s 0),none⟩,⟨some 21, .mov (.s 1),none⟩,⟨some 22, .slc sz (.s 20) none (some (.s 21)) none,none⟩,⟨some 23, .mov (.s 0),none⟩,⟨some 24, .mov (.s 2),none⟩,⟨some 25, .slc sz (.s 23) (some (.s 24)) none none,none⟩,⟨some 26, .app sz by_ (.s 22) (.s 25),none⟩,⟨some 0, .mov (.s 26),none⟩]
def yu (sz:Nat) (zs:List AV):List aL:=[⟨some 27, .mov (.s 0),none⟩,⟨some 28, .mov (.s 0),none⟩,⟨some 29, .len false (.s 28),none⟩,⟨some 30, .mov (.s 7),none⟩,⟨some 31, .slc sz (.s 27) (some (.s 29)) (some (.s 30)) none,none⟩,⟨none, .clr zs (.s 31),none⟩]
def PR:List aL:=[⟨some 32, .mov (.s 0),none⟩,⟨some 6, .mov (.s 32),none⟩]
def PS:List (List Nat):=[[],[],[0,1],[],[],[3,4],[2,5,0,1,3,4],[6,0,1,2,3,4,5]]
def Cl (sz by_:Nat) (zs:List AV):ba:=⟨33,[.tmp 6],
 .seq (.cy [⟨some 6, .mov (.c .emp),none⟩] none)
 (.seq (.cy (yq sz) none)
 (.seq (.seq (.cy PN none)
 (.cond (.s 16)
  (.seq (.cy PO none)
  (.ret))
  (.skip)))
 (.seq (.cy yr none)
 (.seq (.cy (PQ sz by_) (some PS))
 (.seq (.cy (yu sz zs) none)
 (.seq (.cy PR none)
 (.ret)))))))⟩
def oI (m:List (Option Bk)) (id:Nat) (B:Bk):List (Option Bk):=m.set id none++[none,some B]
theorem PT {id t0:Nat} (hB:look x.m id=some ⟨sz,els⟩) (hc:c<=els.length) (hs:slot x.t t0= .own id sz 0 c) (hy:y.t=[(t0, .own x.m.length sz 0 c)]) (hm:y.m=x.m.set id none++[some ⟨sz,els.take c⟩]):x.s.Le k0 n y.s:=by
 intro E0 J base w0 a w hk hr
 obtain ⟨E,rfl,hle,cW,dM,bH,hmk⟩:=hr.ex
 have hid:id<x.m.length:=by
  rcases adx id x.m.length with h|h
  ·exact h
  ·unfold look at hB;rw [adW h] at hB;simp at hB
 have hf:¬E.kn x.m.length:=fun hh=>adS _ (bH _ hh)
 have eO:sz≠0:=(show aj E (a.tmps.getD t0 undef) (.own id sz 0 c) by rw [<-hs];exact cW t0).sC ((dM.live id).2 ⟨_,hB⟩).2
 obtain ⟨E',hw,hE,hM,k1,k2,k3,k4,k5⟩:=dM.move hf id ⟨sz,els⟩ ⟨sz,els.take c⟩ hB E.w (fun _ _=>rfl) rfl (fun _ _=>rfl) (fun E' hE hw=>by
  have:=(dM.at_ id _ hB)
  cases hl:E.loc id with
  |none=>
   rw [hl] at this
   have h0:els=[]:=this
   show els.take c=[]
   rw [h0];simp
  |some b=>
   rw [hl] at this
   obtain ⟨q1,arr,t,q2,q3,q4⟩:=this.cells eO
   refine .lx ⟨q1,arr,t,by rw [hw];exact q2, ?_,fun i cs hi=> ?_⟩ eO
   ·refine adk (adn _ ?_) q3
    simp only [adH];omega
   ·have bh:els[i]? =some cs:=by
     simp only [ad1] at hi
     split at hi
     ·exact hi
     ·simp at hi
    refine ⟨(q4 i cs bh).1,fun j x hj=> ?_⟩
    obtain ⟨u,u1,u2,u3⟩:=(q4 i cs bh).2 j x hj
    exact ⟨u,u1,u2,u3.step hE⟩)
 have hg:aH (look x.m) [(id,none),(x.m.length,some ⟨sz,els.take c⟩)]=look y.m:=by
  rw [hm]
  have e1:=B8 x.m id none (by omega)
  rw [acN hid] at e1
  have e2:=B8 (x.m.set id none) x.m.length (some ⟨sz,els.take c⟩) (by simp)
  rw [acL (by simp)] at e2
  rw [e2,e1]
  rfl
 have hM:=hg▸(show aS E' J base (aH (look x.m) [(id,none),(x.m.length,some ⟨sz,els.take c⟩)]) from hM)
 refine ⟨⟨E',hw,hle.trans hE,fun t=> ?_,hM,fun j hj=> ?_,hmk.step hE⟩,hr.size,hr.below,hr.gl⟩
 ·show aj E' _ (slot y.t t)
  rw [hy]
  simp only [slot]
  cases hb:Nat.beq t t0 with
  |false=>exact .dead
  |true=>
   have:=ac0 hb
   subst this
   have hv:=cW t
   have hv':aj E (a.tmps.getD t undef) (.own id sz 0 c):=by rw [<-hs];exact hv
   have pR:=(dM.live id).2 ⟨_,hB⟩
   have hlen:c<=els.length:=hc
   simp only [acR]
   obtain ⟨vv,dk⟩:∃vv,vv=a.tmps.getD t undef:=⟨_,rfl⟩
   rw [<-dk] at hv' ⊢
   cases hv' with
   |dj hi hd=>exact absurd hd pR.2
   |own hi hd hb hq uY eP hl hcc bG=>
    refine .own k1 k2 (k3.trans hb) hq (by rw [hw];exact uY) eP hl hcc (by rw [k5];simp only [adH];omega)
   |cG hi hd hb bG=>exact .cG k1 k2 (k3.trans hb) (by rw [k5];simp)
 ·show j<y.m.length
  rw [hm]
  simp only [adV,ada,aey,List.length_nil]
  rcases k4 j hj with h|h
  ·have h':j<x.m.length:=bH j h
   omega
  ·omega
section
variable {o:aL} {x:L3}
theorem rC {a:Arg} (h:aQ σ a=VI n):dS (aQ σ) (some a)=some (some n):=by
 simp only [dS,h,natOf]
 rw [acN (by omega)];simp
theorem HH (a:Arg) (lo hi:Option Arg) (sz id off n l h:Nat) (mF bh:Option Nat) (B:Bk) (ho:o.ao= .slc sz a lo hi none) (hg:cx (slot x.t) o.guard=some true) (ha:aQ (slot x.t) a= .own id sz off n) (jC:dS (aQ (slot x.t)) lo=some mF) (gC:dS (aQ (slot x.t)) hi=some bh) (jE:bounds n mF bh=some (l,h)) (hB:look x.m id=some B):
  fH o x= .done (.own id sz (off+l) (h - l)) [] [id]:=by
 have hn:dS (aQ (slot x.t)) none=some none:=rfl
 have hs:(AO.slc sz a lo hi none).aq x.m.length (aQ (slot x.t))= .lv id (.ret (.done (.own id sz (off+l) (h - l)) [])):=by simp [AO.aq,ha,jC,gC,hn,jE,RM.opt]
 exact np _ (acc:=[]) (see:=[id]) ho hg (by rw [hs];simp [RM.run,hB]) (by rw [hs];rfl) (by rw [hs];rfl)
theorem PU (a:Arg) (lo hi:Option Arg) (mx:Arg) (sz id off n l h mm:Nat) (mF bh:Option Nat) (B:Bk) (ho:o.ao= .slc sz a lo hi (some mx)) (hg:cx (slot x.t) o.guard=some true) (ha:aQ (slot x.t) a= .own id sz off n) (jC:dS (aQ (slot x.t)) lo=some mF) (gC:dS (aQ (slot x.t)) hi=some bh) (j6:dS (aQ (slot x.t)) (some mx)=some (some mm)) (jE:bounds n mF bh=some (l,h)) (hB:look x.m id=some B) (h1:B.els.length<=off+mm) (h2:h<=mm/\mm<=n) (h3:mm≠l) (m6:B.sz=sz:=by rfl):
  fH o x= .done (.own id sz (off+l) (h - l)) [] [id,id]:=by
 have hs:(AO.slc sz a lo hi (some mx)).aq x.m.length (aQ (slot x.t))= .lv id (.rd id fun B=>if B.sz=sz/\B.els.length<=off+mm then .ret (.done (.own id sz (off+l) (h - l)) []) else .fail):=by
  simp [AO.aq,ha,jC,gC,j6,jE,RM.opt,h2,h3]
 exact np _ (acc:=[id]) (see:=[id]) ho hg (by rw [hs];simp [RM.run,hB,h1,m6]) (by rw [hs];simp [RM.acc,hB,h1,m6]) (by rw [hs];simp [RM.see,hB,h1,m6])
theorem PV (a:Arg) (lo hi:Option Arg) (sz id off n l h:Nat) (mF:Option Nat) (hh:Nat) (B:Bk) (ho:o.ao= .slc sz a lo hi none) (hg:cx (slot x.t) o.guard=some true) (ha:aQ (slot x.t) a= .own id sz off n) (jC:dS (aQ (slot x.t)) lo=some mF) (gC:dS (aQ (slot x.t)) hi=some (some hh)) (gU:bounds n mF (some hh)=none) (hB:look x.m id=some B) (jE:bounds (B.els.length - off) mF (some hh)=some (l,h)) (m6:B.sz=sz:=by rfl):
  fH o x= .done (.own id sz (off+l) (h - l)) [] [id,id]:=by
 have hn:dS (aQ (slot x.t)) none=some none:=rfl
 have hs:(AO.slc sz a lo hi none).aq x.m.length (aQ (slot x.t))= .lv id (.rd id fun B=>if B.sz=sz then .opt ((bounds (B.els.length - off) mF (some hh)).map fun b=> .done (.own id sz (off+b.1) (b.2 - b.1)) []) else .fail):=by simp [AO.aq,ha,jC,gC,hn,gU]
 exact np _ (acc:=[id]) (see:=[id]) ho hg (by rw [hs];simp [RM.run,RM.opt,hB,jE,m6]) (by rw [hs];simp [RM.acc,RM.opt,hB,jE,m6]) (by rw [hs];simp [RM.see,RM.opt,hB,jE,m6])
theorem PW (s a:Arg) (sz by_ id off n:Nat) (els ys:List (List AV)) (w:AV) (acc:List Nat) (ho:o.ao= .app sz by_ s a) (hg:cx (slot x.t) o.guard=some true) (hs:aQ (slot x.t) s= .own id sz off n) (ha:aQ (slot x.t) a=w) (c1:(content sz w).run (look x.m)=some ys) (c2:(content sz w).acc (look x.m)=acc) (c3:(content sz w).see (look x.m)=[])
  (hB:look x.m id=some ⟨sz,els⟩) (gU:¬(off=0/\n=els.length)) (hfit:off+n+ys.length<=els.length):
  fH o x= .done (.own id sz off (n+ys.length)) [(id,some ⟨sz,els.take (off+n)++ys++els.drop (off+n+ys.length)⟩),(x.m.length,none)] (acc++[id]):=by
 let F:List (List AV)->RM Out:=fun ys=> .rd id fun B=>if sz=sz/\B.sz=sz/\off=0/\n=B.els.length/\(n+ys.length)*by_<=140737488355328 then .ret (.done (.own x.m.length sz 0 (n+ys.length)) [(id,none),(x.m.length,some ⟨sz,B.els++ys⟩)])
  else if sz=sz/\B.sz=sz/\off+n+ys.length<=B.els.length then .ret (.done (.own id sz off (n+ys.length)) [(id,some ⟨B.sz,B.els.take (off+n)++ys++B.els.drop (off+n+ys.length)⟩),(x.m.length,none)]) else .fail
 have dO:(AO.app sz by_ s a).aq x.m.length (aQ (slot x.t))=(content sz w).bind F:=by simp [AO.aq,hs,ha,F]
 obtain ⟨r1,r2,r3⟩:=run_bind (f:=F) _ c1
 have Cm:¬(off=0/\n=els.length/\(n+ys.length)*by_<=140737488355328):=fun h=>gU ⟨h.1,h.2.1⟩
 have PX:(F ys).run (look x.m)=some (.done (.own id sz off (n+ys.length)) [(id,some ⟨sz,els.take (off+n)++ys++els.drop (off+n+ys.length)⟩),(x.m.length,none)]):=by
  simp only [F,RM.run,hB,true_and];rw [acL Cm,acN hfit];rfl
 have PY:(F ys).acc (look x.m)=[id]:=by
  simp only [F,RM.acc,hB,true_and];rw [acL Cm,acN hfit];rfl
 have PZ:(F ys).see (look x.m)=[]:=by
  simp only [F,RM.see,hB,true_and];rw [acL Cm,acN hfit];rfl
 have:=np (AO.app sz by_ s a) (o:=o) (x:=x) (acc:=acc++[id]) (see:=[]) ho hg (by rw [dO,r1];exact PX) (by rw [dO,r2,c2,PY]) (by rw [dO,r3,c3,PZ];rfl)
 simpa using this
theorem P1 (zs:List AV) (a:Arg) (sz id off n:Nat) (els:List (List AV)) (ho:o.ao= .clr zs a) (hg:cx (slot x.t) o.guard=some true) (hz:zs.length=sz) (ha:aQ (slot x.t) a= .own id sz off n) (hB:look x.m id=some ⟨sz,els⟩) (hfit:off+n<=els.length):
  fH o x= .done (.v undef) [(id,some ⟨sz,els.take off++List.replicate n zs++els.drop (off+n)⟩)] [id]:=by
 subst hz
 have hs:(AO.clr zs a).aq x.m.length (aQ (slot x.t))= .rd id fun B=>if B.sz=zs.length/\off+n<=B.els.length then .ret (.done (.v undef) [(id,some ⟨B.sz,B.els.take off++List.replicate n zs++B.els.drop (off+n)⟩)]) else .fail:=by simp [AO.aq,ha]
 exact np _ (acc:=[id]) (see:=[]) ho hg (by rw [hs];simp [RM.run,hB,hfit]) (by rw [hs];simp [RM.acc,hB,hfit]) (by rw [hs];simp [RM.see,hB,hfit])
end
section
variable {P:Program} {sz by_:Nat} {zs:List AV} {m:List (Option Bk)} {id i:Nat} {els:List (List AV)}
theorem P2 {B:Bk} (hB:look m id=some B):id<m.length:=by
 rcases adx id m.length with h|h
 ·exact h
 ·unfold look at hB;rw [adW h] at hB;simp at hB
theorem P3 (hF:cFunc P f=some (Cl sz by_ zs)) (hz:zs.length=sz) (hB:look m id=some ⟨sz,els⟩) (hi:i<els.length) (hb:els.length<=4611686018427387904):
  Fi P f [.own id sz 0 els.length,VI i,VI (i+1:Nat)] (look m) m.length (.own (m.length+1) sz 0 (els.length - 1)) (look (oI m id ⟨sz,els.eraseIdx i⟩)) (oI m id ⟨sz,els.eraseIdx i⟩).length:=by
 have hid:=P2 hB
 have e1:((i:Int)).toNat=i:=by omega
 have e2:(((i+1:Nat):Int)).toNat=i+1:=by omega
 have e3:((els.length:Int)).toNat=els.length:=by omega
 have p1:(0:Int)<=(i:Int):=by omega
 have p2:(0:Int)<=((i+1:Nat):Int):=by omega
 have p3:(0:Int)<=(els.length:Int):=by omega
 refine fV hF (by show 3<=33;omega) ?_
 refine EL.p9 ?_
 refine OW.last 1 [0,1,2] (x':=⟨[(0, .own id sz 0 els.length),(1,VI i),(2,VI (i+1:Nat))],m⟩) (by kernel_rfl) (by kernel_rfl) ?_
 refine EL.p9 ?_
 refine OW.run 4 (x':=⟨[(11, .own id sz 0 els.length),(10,VI (i+1:Nat)),(9,VI i),(8, .own id sz 0 els.length),(0, .own id sz 0 els.length),(1,VI i),(2,VI (i+1:Nat))],m⟩) (by kernel_rfl) ?_
 refine OW.mD (v:=VI els.length) (u:=[]) (acc:=[id]) (x':=⟨[(12,VI els.length),(11, .own id sz 0 els.length),(10,VI (i+1:Nat)),(9,VI i),(8, .own id sz 0 els.length),(0, .own id sz 0 els.length),(1,VI i),(2,VI (i+1:Nat))],m⟩) (by kernel_rfl) (np _ (acc:=[]) (see:=[id]) rfl rfl (by simp [opD,yq,AO.aq,aQ,slot,RM.run,hB,goInt]) (by simp [opD,yq,AO.aq,aQ,slot,RM.acc]) (by simp [opD,yq,AO.aq,aQ,slot,RM.see])) (by kernel_rfl) ?_
 refine OW.mD (v:= .own id sz (0+i) (i+1 - i)) (u:=[]) (acc:=[id,id]) (x':=⟨[(13, .own id sz (0+i) (i+1 - i)),(12,VI els.length),(11, .own id sz 0 els.length),(10,VI (i+1:Nat)),(9,VI i),(8, .own id sz 0 els.length),(0, .own id sz 0 els.length),(1,VI i),(2,VI (i+1:Nat))],m⟩) (by kernel_rfl)
  (PU (.s 8) (some (.s 9)) (some (.s 10)) (.s 12) sz id 0 els.length i (i+1) els.length (some i) (some (i+1)) ⟨sz,els⟩ rfl rfl rfl (rC (by rfl)) (rC (by rfl)) (rC (by rfl)) (by simp [bounds];omega) hB (by simp) ⟨by omega,by omega⟩ (by omega)) (by kernel_rfl) ?_
 refine OW.last 0 [0,1,2] (x':=⟨[(0, .own id sz 0 els.length),(1,VI i),(2,VI (i+1:Nat))],m⟩) (by kernel_rfl) (by kernel_rfl) ?_
 refine EL.seq ?_
 refine EL.p9 ?_
 refine OW.last 3 [0,1,2,16] (x':=⟨[(16, .v (.bool ((i:Int)==((i+1:Nat):Int)))),(0, .own id sz 0 els.length),(1,VI i),(2,VI (i+1:Nat))],m⟩) (by kernel_rfl) (by kernel_rfl) ?_
 have aJ:((i:Int)==((i+1:Nat):Int))=false:=by simp;omega
 rw [aJ]
 refine EL.HC (by kernel_rfl) ?_
 refine EL.skip ?_
 refine tN ?_
 refine EL.p9 ?_
 refine OW.run 1 (x':=⟨[(18, .own id sz 0 els.length),(16, .v (.bool false)),(0, .own id sz 0 els.length),(1,VI i),(2,VI (i+1:Nat))],m⟩) (by kernel_rfl) ?_
 refine OW.mD (v:=VI els.length) (u:=[]) (acc:=[id]) (x':=⟨[(19,VI els.length),(18, .own id sz 0 els.length),(16, .v (.bool false)),(0, .own id sz 0 els.length),(1,VI i),(2,VI (i+1:Nat))],m⟩) (by kernel_rfl) (np _ (acc:=[]) (see:=[id]) rfl rfl (by simp [opD,yr,AO.aq,aQ,slot,RM.run,hB,goInt]) (by simp [opD,yr,AO.aq,aQ,slot,RM.acc]) (by simp [opD,yr,AO.aq,aQ,slot,RM.see])) (by kernel_rfl) ?_
 refine OW.last 1 [0,1,2,7] (x':=⟨[(7,VI els.length),(0, .own id sz 0 els.length),(1,VI i),(2,VI (i+1:Nat))],m⟩) (by kernel_rfl) (by kernel_rfl) ?_
 refine EL.Ps ?_
 refine DW.run 2 (x':=⟨[(21,VI i),(20, .own id sz 0 els.length),(7,VI els.length),(0, .own id sz 0 els.length),(1,VI i),(2,VI (i+1:Nat))],m⟩) (by kernel_rfl) ?_
 refine DW.mD (v:= .own id sz (0+0) (i - 0)) (u:=[]) (acc:=[id]) (x':=⟨[(22, .own id sz (0+0) (i - 0)),(21,VI i),(20, .own id sz 0 els.length),(7,VI els.length),(0, .own id sz 0 els.length),(1,VI i),(2,VI (i+1:Nat))],m⟩) (by kernel_rfl)
  (HH (.s 20) none (some (.s 21)) sz id 0 els.length 0 i none (some i) ⟨sz,els⟩ rfl rfl rfl rfl (rC (by rfl)) (by simp [bounds];omega) hB) (by kernel_rfl) ?_
 refine DW.run 2 (x':=⟨[(24,VI (i+1:Nat)),(23, .own id sz 0 els.length),(22, .own id sz (0+0) (i - 0)),(21,VI i),(20, .own id sz 0 els.length),(7,VI els.length),(0, .own id sz 0 els.length),(1,VI i),(2,VI (i+1:Nat))],m⟩) (by kernel_rfl) ?_
 refine DW.mD (v:= .own id sz (0+(i+1)) (els.length - (i+1))) (u:=[]) (acc:=[id]) (x':=⟨[(25, .own id sz (0+(i+1)) (els.length - (i+1))),(24,VI (i+1:Nat)),(23, .own id sz 0 els.length),(22, .own id sz (0+0) (i - 0)),(21,VI i),(20, .own id sz 0 els.length),(7,VI els.length),(0, .own id sz 0 els.length),(1,VI i),(2,VI (i+1:Nat))],m⟩) (by kernel_rfl)
  (HH (.s 23) (some (.s 24)) none sz id 0 els.length (i+1) els.length (some (i+1)) none ⟨sz,els⟩ rfl rfl rfl (rC (by rfl)) rfl (by simp [bounds];omega) hB) (by kernel_rfl) ?_
 obtain ⟨ys,m8⟩:∃ys,ys=(els.drop (0+(i+1))).take (els.length - (i+1)):=⟨_,rfl⟩
 have G8:ys.length=els.length - (i+1):=by rw [m8];simp
 obtain ⟨jF,rD⟩:∃jF,jF=els.take (0+0+(i - 0))++ys++els.drop (0+0+(i - 0)+ys.length):=⟨_,rfl⟩
 have Co:jF.length=els.length:=by rw [rD];simp;omega
 obtain ⟨m2,mo⟩:∃m2,m2=m.set id (some ⟨sz,jF⟩)++[none]:=⟨_,rfl⟩
 have gD:iq m [(id,some ⟨sz,jF⟩),(m.length,none)]=m2:=by
  simp only [iq]
  rw [acN hid,acL (by simp),mo]
 have s7:m2.length=m.length+1:=by rw [mo];simp
 have Cp:look m2 id=some ⟨sz,jF⟩:=by
  rw [mo];unfold look
  rw [adB (by simpa using hid)]
  simp [hid]
 have nt:(content sz (.own id sz (0+(i+1)) (els.length - (i+1)))).run (look m)=some ys:=by
  simp only [content,RM.run,hB,true_and];rw [acN (by omega),m8];rfl
 have Cq:(content sz (.own id sz (0+(i+1)) (els.length - (i+1)))).acc (look m)=[id]:=by
  simp only [content,RM.acc,hB,true_and];rw [acN (by omega)];rfl
 have Cr:(content sz (.own id sz (0+(i+1)) (els.length - (i+1)))).see (look m)=[]:=by
  simp only [content,RM.see,hB,true_and];rw [acN (by omega)];rfl
 have s8:upsOK m.length [(id,some (⟨sz,jF⟩:Bk)),(m.length,none)]=true:=by
  simp only [upsOK];rw [acN hid];simp;omega
 refine DW.mD (v:= .own id sz (0+0) (i - 0+ys.length)) (u:=[(id,some ⟨sz,jF⟩),(m.length,none)]) (acc:=[id]++[id]) (x':=⟨[(26, .own id sz (0+0) (i - 0+ys.length)),(25, .own id sz (0+(i+1)) (els.length - (i+1))),(24,VI (i+1:Nat)),(23, .own id sz 0 els.length),(22, .own id sz (0+0) (i - 0)),(21,VI i),(20, .own id sz 0 els.length),(7,VI els.length),(0, .own id sz 0 els.length),(1,VI i),(2,VI (i+1:Nat))],m2⟩) (by kernel_rfl)
  (by rw [rD];exact PW (.s 22) (.s 25) sz by_ id (0+0) (i - 0) els ys _ [id] rfl rfl rfl rfl nt Cq Cr hB (by rintro ⟨_,h⟩;omega) (by omega)) (by
   show (bif dstOK 33 (some 26)&&upsOK m.length [(id,some (⟨sz,jF⟩:Bk)),(m.length,none)] then _ else _)=_
   rw [s8,gD];rfl) ?_
 obtain ⟨t3,ht3⟩:∃t3:List (Nat×AV),t3=[(0, .own id sz (0+0) (i - 0+ys.length)),(2,VI (i+1:Nat)),(7,VI els.length)]:=⟨_,rfl⟩
 refine DW.last 1 [0,7] (x':=⟨[(0, .own id sz (0+0) (i - 0+ys.length)),(7,VI els.length)],m2⟩) (by kernel_rfl) (by kernel_rfl) ?_
 have q1:i - 0+ys.length=els.length - 1:=by omega
 rw [q1]
 refine EL.p9 ?_
 refine OW.run 2 (x':=⟨[(28, .own id sz (0+0) (els.length - 1)),(27, .own id sz (0+0) (els.length - 1)),(0, .own id sz (0+0) (els.length - 1)),(7,VI els.length)],m2⟩) (by kernel_rfl) ?_
 refine OW.mD (v:=VI (els.length - 1:Nat)) (u:=[]) (acc:=[id]) (x':=⟨[(29,VI (els.length - 1:Nat)),(28, .own id sz (0+0) (els.length - 1)),(27, .own id sz (0+0) (els.length - 1)),(0, .own id sz (0+0) (els.length - 1)),(7,VI els.length)],m2⟩) (by kernel_rfl) (np _ (acc:=[]) (see:=[id]) rfl rfl (by simp [opD,yu,AO.aq,aQ,slot,RM.run,Cp,goInt]) (by simp [opD,yu,AO.aq,aQ,slot,RM.acc]) (by simp [opD,yu,AO.aq,aQ,slot,RM.see])) (by kernel_rfl) ?_
 refine OW.run 1 (x':=⟨[(30,VI els.length),(29,VI (els.length - 1:Nat)),(28, .own id sz (0+0) (els.length - 1)),(27, .own id sz (0+0) (els.length - 1)),(0, .own id sz (0+0) (els.length - 1)),(7,VI els.length)],m2⟩) (by kernel_rfl) ?_
 refine OW.mD (v:= .own id sz (0+0+(els.length - 1)) (els.length - (els.length - 1))) (u:=[]) (acc:=[id,id]) (x':=⟨[(31, .own id sz (0+0+(els.length - 1)) (els.length - (els.length - 1))),(30,VI els.length),(29,VI (els.length - 1:Nat)),(28, .own id sz (0+0) (els.length - 1)),(27, .own id sz (0+0) (els.length - 1)),(0, .own id sz (0+0) (els.length - 1)),(7,VI els.length)],m2⟩) (by kernel_rfl)
  (PV (.s 27) (some (.s 29)) (some (.s 30)) sz id (0+0) (els.length - 1) (els.length - 1) els.length (some (els.length - 1)) els.length ⟨sz,jF⟩ rfl rfl rfl (rC (by rfl)) (rC (by rfl)) (by simp only [bounds,adI];rw [acL (by omega)]) Cp (by simp only [bounds,adI];rw [acN ⟨by omega,by show _<=jF.length - (0+0);omega⟩])) (by kernel_rfl) ?_
 obtain ⟨ir,Cs⟩:∃ir,ir=jF.take (0+0+(els.length - 1))++List.replicate (els.length - (els.length - 1)) zs++jF.drop (0+0+(els.length - 1)+(els.length - (els.length - 1))):=⟨_,rfl⟩
 have HI:id<m2.length:=by omega
 have P4:iq m2 [(id,some ⟨sz,ir⟩)]=m2.set id (some ⟨sz,ir⟩):=by
  simp only [iq];rw [acN HI]
 have P5:upsOK m2.length [(id,some (⟨sz,ir⟩:Bk))]=true:=by simp [upsOK];omega
 refine OW.mD (v:= .v undef) (u:=[(id,some ⟨sz,ir⟩)]) (acc:=[id]) (x':=⟨[(31, .own id sz (0+0+(els.length - 1)) (els.length - (els.length - 1))),(30,VI els.length),(29,VI (els.length - 1:Nat)),(28, .own id sz (0+0) (els.length - 1)),(27, .own id sz (0+0) (els.length - 1)),(0, .own id sz (0+0) (els.length - 1)),(7,VI els.length)],m2.set id (some ⟨sz,ir⟩)⟩) (by kernel_rfl)
  (by rw [Cs];exact P1 zs (.s 31) sz id (0+0+(els.length - 1)) (els.length - (els.length - 1)) jF rfl rfl hz rfl Cp (by omega)) (by
   show (bif dstOK 33 none&&upsOK m2.length [(id,some (⟨sz,ir⟩:Bk))] then _ else _)=_
   rw [P5,P4];rfl) ?_
 refine OW.last 0 [0] (x':=⟨[(0, .own id sz (0+0) (els.length - 1))],m2.set id (some ⟨sz,ir⟩)⟩) (by kernel_rfl) (by kernel_rfl) ?_
 refine EL.p9 ?_
 refine OW.last 2 [6] (x':=⟨[(6, .own id sz (0+0) (els.length - 1))],m2.set id (some ⟨sz,ir⟩)⟩) (by kernel_rfl) (by kernel_rfl) ?_
 refine EL.ret ?_
 have HJ:ir.length=els.length:=by rw [Cs];simp;omega
 have P6:look (m2.set id (some ⟨sz,ir⟩)) id=some ⟨sz,ir⟩:=by
  unfold look;simp [HI]
 have qc:ir.take (els.length - 1)=els.eraseIdx i:=by
  have h1:ir.take (els.length - 1)=jF.take (els.length - 1):=by
   rw [Cs,ad6,List.take_append_of_le_length (by simp;omega),adM,ac2,List.take_take,Nat.min_self]
  rw [h1,rD]
  have h2:els.length - 1=i+ys.length:=by omega
  rw [h2,List.take_append_of_le_length (by simp;omega)]
  rw [adK (by simp;omega)]
  rw [List.eraseIdx_eq_take_drop_succ,m8]
  congr 1
  ·simp
  ·rw [ac2]
   exact adK (by simp)
 refine ⟨.inr rfl,⟨[(6, .own (m2.set id (some ⟨sz,ir⟩)).length sz 0 (els.length - 1))],(m2.set id (some ⟨sz,ir⟩)).set id none++[some ⟨sz,ir.take (els.length - 1)⟩]⟩,PT (t0:=6) P6 (by omega) rfl rfl rfl, ?_, ?_⟩
 ·simp only [ada,s7];rfl
 ·rw [qc,mo]
  simp only [oI]
  rw [List.set_set,List.set_append,acN (by simpa using hid),List.set_set]
  simp
theorem P7 {α:Type} {fe:α->List AV} {xs:List α} (hF:cFunc P f=some (Cl sz by_ zs)) (hz:zs.length=sz) (hB:look m id=some ⟨sz,xs.map fe⟩) {n:Int} (h0:0<=n) (h1:n<xs.length) (hb:xs.length<=1000000):
  Fi P f [.own id sz 0 xs.length,VI n,VI (n+1)] (look m) m.length (.own (m.length+1) sz 0 (xs.eraseIdx n.toNat).length) (look (oI m id ⟨sz,(xs.eraseIdx n.toNat).map fe⟩)) (oI m id ⟨sz,(xs.eraseIdx n.toNat).map fe⟩).length:=by
 have e0:((n.toNat:Nat):Int)=n:=by omega
 have e1:((n.toNat+1:Nat):Int)=n+1:=by omega
 have h:=P3 (P:=P) (f:=f) (i:=n.toNat) (els:=xs.map fe) hF hz hB (by simp;omega) (by simp;omega)
 rw [e0,e1,ac4] at h
 have e2:(xs.map fe).eraseIdx n.toNat=(xs.eraseIdx n.toNat).map fe:=by
  rw [List.eraseIdx_eq_take_drop_succ,List.eraseIdx_eq_take_drop_succ,adv,List.map_take,List.map_drop]
 have e3:(xs.eraseIdx n.toNat).length=xs.length - 1:=by rw [List.length_eraseIdx,acN (by omega)]
 rw [e2] at h
 rw [e3]
 exact h
end
open Go.RowKit
section
variable {o:aL} {x:L3}
end
open Go.RowKit
def dq (hs:List (Option Nat)) (i:Nat):Bool:=match hs[i]? with|some (some _)=>true|_=>false
inductive gV (P:Program) (n:Nat):List aL->(Nat->AV)->(Nat->Option Bk)->Nat->List Rec->List (Option Nat)->(Nat->AV)->(Nat->Option Bk)->Nat->Prop
 |nil {σ:Nat->AV} {g:Nat->Option Bk} {k:Nat}:gV P n [] σ g k [] [] σ g k
 |cons {o:aL} {os:List aL} {σ σ':Nat->AV} {g g':Nat->Option Bk} {k k1 k':Nat} {val:AV} {ups:List (Nat×Option Bk)} {acc:List Nat} {rs:List Rec} {hs:List (Option Nat)} (h:eR P σ g k o val ups acc) (hk:k<=k1) (hu:∀id,id∈ups.map Prod.fst->id<k1)
   (hr:gV P n os (cu n o.dst val σ) (aH g ups) k1 rs hs σ' g' k'):gV P n (o::os) σ g k (⟨o.dst,val,ups,acc,k⟩::rs) (none::hs) σ' g' k'
 |fi {o:aL} {os:List aL} {σ σ':Nat->AV} {g g':Nat->Option Bk} {k k1 k':Nat} {r:AV} {f:FuncId} {as_:List AV} {ups:List (Nat×Option Bk)} {rs:List Rec} {hs:List (Option Nat)} (hg:cx σ o.guard=some true) (hal:o.ao.allocs=false) (h:(o.ao.aq k (aQ σ)).run g=some (.call f as_)) (hc:aY P f=true) (hf:Fi P f as_ g k r (aH g ups) k1) (hk:k<=k1) (hu:∀id,id∈ups.map Prod.fst->id<k1)
   (hr:gV P n os (cu n o.dst r σ) (aH g ups) k1 rs hs σ' g' k'):gV P n (o::os) σ g k (⟨o.dst,r,ups,[],k⟩::rs) (some k1::hs) σ' g' k'
def vf (P:Program) (n:Nat) (σ:Nat->AV) (g:Nat->Option Bk) (rs:List Rec) (hs:List (Option Nat)) (i:Nat) (o:aL) (r:Rec):Prop:=
 (hs[i]? =some none/\eR P (cr n (upto i) rs σ) (cp (upto i) rs g) r.fr o r.val r.ups r.acc)\/
 ∃f as_ k1,hs[i]? =some (some k1)/\cx (cr n (upto i) rs σ) o.guard=some true/\o.ao.allocs=false/\(o.ao.aq r.fr (aQ (cr n (upto i) rs σ))).run (cp (upto i) rs g)=some (.call f as_)/\aY P f=true/\Fi P f as_ (cp (upto i) rs g) r.fr r.val (aH (cp (upto i) rs g) r.ups) k1
theorem yv {os:List aL} {σ':Nat->AV} {rs:List Rec} {hs:List (Option Nat)} (h:gV P n os σ g k rs hs σ' g' k'):
  (rs.length=os.length/\hs.length=os.length)/\k<=k'/\(∀(i:Nat) o,os[i]? =some o->∃r,rs[i]? =some r/\r.dst=o.dst/\vf P n σ g rs hs i o r/\k<=r.fr)/\
   (∀(i j:Nat) ri rj,i<j->rs[i]? =some ri->rs[j]? =some rj->(∀id,id∈ri.keys->id<rj.fr)/\∀k1,hs[i]? =some (some k1)->k1<=rj.fr)/\(∀(i:Nat) r,rs[i]? =some r->(∀id,id∈r.keys->id<k')/\∀k1,hs[i]? =some (some k1)->k1<=k')/\σ'=cr n (fun _=>true) rs σ/\g'=cp (fun _=>true) rs g:=by
 induction h with
 |nil=>exact ⟨⟨rfl,rfl⟩,acV _,fun i o ho=>by simp at ho,fun i j ri rj _ h=>by simp at h,fun i r h=>by simp at h,rfl,rfl⟩
 | @cons o os σ σ' g g' k k1 k' val ups acc rs hs h hk hu hr ih=>
  obtain ⟨⟨i1,Cu⟩,i2,i3,i4,i5,i6,i7⟩:=ih
  have e1:∀i,cr n (upto (i+1)) (⟨o.dst,val,ups,acc,k⟩::rs) σ=cr n (upto i) rs (cu n o.dst val σ):=by
   intro i;funext t
   show eE _ _ 1 rs _=_
   rw [kL]
   unfold cr
   congr 1
   ·funext j;simp [upto]
   ·rw [acN (by simp [upto])];exact (oB n t ⟨o.dst,val,ups,acc,k⟩ σ).symm
  have e2:∀i,cp (upto (i+1)) (⟨o.dst,val,ups,acc,k⟩::rs) g=cp (upto i) rs (aH g ups):=by
   intro i;funext id
   show eE _ _ 1 rs _=_
   rw [kL]
   unfold cp
   congr 1
   ·funext j;simp [upto]
   ·rw [acN (by simp [upto]),nh];rfl
  refine ⟨⟨by simp [i1],by simp [Cu]⟩,adk hk i2,fun i o' ho=> ?_,fun i j ri rj bB hi hj=> ?_,fun i r' hr'=> ?_, ?_, ?_⟩
  ·cases i with
   |zero=>
    simp only [ado,acM] at ho
    subst ho
    refine ⟨_,rfl,rfl, ?_,acV _⟩
    have s0:cr n (upto 0) (⟨o.dst,val,ups,acc,k⟩::rs) σ=σ:=by funext t;exact mz _ 0 _ fun j r _ hl=>by simp [upto] at hl
    have g0:cp (upto 0) (⟨o.dst,val,ups,acc,k⟩::rs) g=g:=by funext t;exact mz _ 0 _ fun j r _ hl=>by simp [upto] at hl
    unfold vf
    rw [s0,g0]
    exact .inl ⟨rfl,h⟩
   |succ i=>
    obtain ⟨r',r1,r2,r3,r4⟩:=i3 i o' (by simpa using ho)
    refine ⟨r',by simpa using r1,r2, ?_,adk hk r4⟩
    unfold vf
    rw [e1,e2,adA];exact r3
  ·cases j with
   |zero=>omega
   |succ j=>
    simp only [adA] at hj
    cases i with
    |zero=>
     simp only [ado,acM] at hi
     subst hi
     have bI:j<os.length:=by rw [<-i1];exact (acU.1 hj).1
     obtain ⟨r',r1,_,_,r4⟩:=i3 j _ (acT bI)
     rw [hj] at r1
     simp only [acM] at r1
     subst r1
     exact ⟨fun id hid=>adf (hu id hid) r4,fun x hx=>by first|(simp at hx;done)|(simp at hx;subst hx;exact r4)⟩
    |succ i=>simp only [adA] at hi ⊢; exact i4 i j ri rj (by omega) hi hj
  ·cases i with
   |zero=>
    simp only [ado,acM] at hr'
    subst hr'
    exact ⟨fun id hid=>adf (hu id hid) i2,fun x hx=>by first|(simp at hx;done)|(simp at hx;subst hx;exact i2)⟩
   |succ i=>simp only [adA] at hr' ⊢; exact i5 i r' hr'
  ·rw [i6]
   funext t
   unfold cr
   simp only [eE]
   rw [kL,acP,oB n t ⟨o.dst,val,ups,acc,k⟩ σ]
  ·rw [i7]
   funext id
   unfold cp
   simp only [eE]
   rw [kL,acP,nh]
   rfl
 | @fi o os σ σ' g g' k k1 k' r f as_ ups rs hs hg hal h hc hf hk hu hr ih=>
  obtain ⟨⟨i1,Cu⟩,i2,i3,i4,i5,i6,i7⟩:=ih
  have e1:∀i,cr n (upto (i+1)) (⟨o.dst,r,ups,[],k⟩::rs) σ=cr n (upto i) rs (cu n o.dst r σ):=by
   intro i;funext t
   show eE _ _ 1 rs _=_
   rw [kL]
   unfold cr
   congr 1
   ·funext j;simp [upto]
   ·rw [acN (by simp [upto])];exact (oB n t ⟨o.dst,r,ups,[],k⟩ σ).symm
  have e2:∀i,cp (upto (i+1)) (⟨o.dst,r,ups,[],k⟩::rs) g=cp (upto i) rs (aH g ups):=by
   intro i;funext id
   show eE _ _ 1 rs _=_
   rw [kL]
   unfold cp
   congr 1
   ·funext j;simp [upto]
   ·rw [acN (by simp [upto]),nh];rfl
  refine ⟨⟨by simp [i1],by simp [Cu]⟩,adk hk i2,fun i o' ho=> ?_,fun i j ri rj bB hi hj=> ?_,fun i r' hr'=> ?_, ?_, ?_⟩
  ·cases i with
   |zero=>
    simp only [ado,acM] at ho
    subst ho
    refine ⟨_,rfl,rfl, ?_,acV _⟩
    have s0:cr n (upto 0) (⟨o.dst,r,ups,[],k⟩::rs) σ=σ:=by funext t;exact mz _ 0 _ fun j r _ hl=>by simp [upto] at hl
    have g0:cp (upto 0) (⟨o.dst,r,ups,[],k⟩::rs) g=g:=by funext t;exact mz _ 0 _ fun j r _ hl=>by simp [upto] at hl
    unfold vf
    rw [s0,g0]
    exact .inr ⟨f,as_,k1,rfl,hg,hal,h,hc,hf⟩
   |succ i=>
    obtain ⟨r',r1,r2,r3,r4⟩:=i3 i o' (by simpa using ho)
    refine ⟨r',by simpa using r1,r2, ?_,adk hk r4⟩
    unfold vf
    rw [e1,e2,adA];exact r3
  ·cases j with
   |zero=>omega
   |succ j=>
    simp only [adA] at hj
    cases i with
    |zero=>
     simp only [ado,acM] at hi
     subst hi
     have bI:j<os.length:=by rw [<-i1];exact (acU.1 hj).1
     obtain ⟨r',r1,_,_,r4⟩:=i3 j _ (acT bI)
     rw [hj] at r1
     simp only [acM] at r1
     subst r1
     exact ⟨fun id hid=>adf (hu id hid) r4,fun x hx=>by first|(simp at hx;done)|(simp at hx;subst hx;exact r4)⟩
    |succ i=>simp only [adA] at hi ⊢; exact i4 i j ri rj (by omega) hi hj
  ·cases i with
   |zero=>
    simp only [ado,acM] at hr'
    subst hr'
    exact ⟨fun id hid=>adf (hu id hid) i2,fun x hx=>by first|(simp at hx;done)|(simp at hx;subst hx;exact i2)⟩
   |succ i=>simp only [adA] at hr' ⊢; exact i5 i r' hr'
  ·rw [i6]
   funext t
   unfold cr
   simp only [eE]
   rw [kL,acP,oB n t ⟨o.dst,r,ups,[],k⟩ σ]
  ·rw [i7]
   funext id
   unfold cp
   simp only [eE]
   rw [kL,acP,nh]
   rfl
section
variable {P:Program} {E0:Env} {n:Nat} {ops:Array Oper} {J:Nat->Prop} {base:Nat} {w0:World} {Q:Exit->Act->World->Prop} {os:List aL} {dep:List (List Nat)} {σ σ':Nat->AV} {g g':Nat->Option Bk} {k k':Nat} {rs:List Rec} {hs:List (Option Nat)}
theorem gV.snoc {val:AV} (h0:gV P n os σ g k rs hs σ' g' k') (h:eR P σ' g' k' o val ups acc) (hk:k'<=k1) (hu:∀id,id∈ups.map Prod.fst->id<k1):gV P n (os++[o]) σ g k (rs++[⟨o.dst,val,ups,acc,k'⟩]) (hs++[none]) (cu n o.dst val σ') (aH g' ups) k1:=by
 induction h0 with
 |nil=>exact .cons h hk hu .nil
 |cons h1 h2 h3 h4 ih=>exact .cons h1 h2 h3 (ih h hk)
 |fi h1 h2 h3 h4 h5 h6 h7 h8 ih=>exact .fi h1 h2 h3 h4 h5 h6 h7 (ih h hk)
theorem gV.P8 (h0:gV P n os σ g k rs hs σ' g' k') (hg:cx σ' o.guard=some true) (hal:o.ao.allocs=false) (h:(o.ao.aq k' (aQ σ')).run g'=some (.call f as_)) (hc:aY P f=true) (hf:Fi P f as_ g' k' r (aH g' ups) k1) (hk:k'<=k1) (hu:∀id,id∈ups.map Prod.fst->id<k1):
  gV P n (os++[o]) σ g k (rs++[⟨o.dst,r,ups,[],k'⟩]) (hs++[some k1]) (cu n o.dst r σ') (aH g' ups) k1:=by
 induction h0 with
 |nil=>exact .fi hg hal h hc hf hk hu .nil
 |cons h1 h2 h3 h4 ih=>exact .cons h1 h2 h3 (ih hg h hf hk)
 |fi h1 h2 h3 h4 h5 h6 h7 h8 ih=>exact .fi h1 h2 h3 h4 h5 h6 h7 (ih hg h hf hk)
end
section
variable {P:Program} {n k k0:Nat} {x:L3} {K:L3->Prop} {Q:Ex->L3->Prop} {R:List aL} {dep:List (List Nat)} {rs:List Rec} {hs:List (Option Nat)}
end
open Go.RowKit
def ki (o:aL):Bool:=match o.ao,o.guard with| .new _,none=>true|_,_=>false
def qd (dep:List (List Nat)) (i j:Nat):Bool:=dep.all fun d=> !d.contains j||d.contains i
def lP (jn:Nat) (rs:List Rec) (hs:List (Option Nat)) (dep:List (List Nat)):Bool:=
 (List.range rs.length).all fun j=>(List.range j).all fun i=>((dep[j]?).getD []).contains i||(match rs[i]?,rs[j]? with|some x,some y=> !(dq hs i&&dq hs j)&&((!dq hs i||(y.ups.isEmpty||(Nat.beq j jn&&qd dep i j)))&&(!dq hs j||x.ups.isEmpty))|_,_=>false)
theorem aj.P9 {Y:Nat->Prop} (h:aj E v a):aj { E with X:=Y } v a:=by
 induction h with
 |v h=>exact .v h
 |agg hl h ih=>exact .agg hl ih
 |bn hl h ih=>exact .bn hl ih
 |fg hc=>exact .fg hc
 |gh u hn hl hcc hb hz hu h1 h ih=>exact .gh u hn hl hcc hb hz hu h1 ih
 |cZ h ih=>exact .cZ ih
 |emp=>exact .emp
 |pim u hb hq hu h1 h ih=>exact .pim u hb hq hu h1 ih
 |ref hi hd hb hq=>exact .ref hi hd hb hq
 |own hi hd hb hq uY hm hl hcc bG=>exact .own hi hd hb hq uY hm hl hcc bG
 |cG hi hd hb bG=>exact .cG hi hd hb bG
 |gz hi hd ho=>exact .gz hi hd ho
 |dj hi hd ho=>exact .dj hi hd ho
 |mp hi hd hb=>exact .mp hi hd hb
 |kG hi hd ho=>exact .kG hi hd ho
 |fn hl h ih=>exact .fn hl ih
 |bf hl h ih=>exact .bf hl ih
 |ff hg hI hh eQ h ih=>exact .ff hg hI hh eQ ih
 |dG=>exact .dG
 |dead=>exact .dead
section
variable {E:Env} {J:Nat->Prop} {base:Nat} {g:Nat->Option Bk}
theorem aS.Qa (h:aS E J base g) (ob:Obj):∃E':Env,E'.w=E.w.alloc ob/\E.Le E'/\aS E' J base g/\(∀id,E'.kn id->E.kn id)/\E'.X E.w.heap.size:=by
 have hlt:∀id b B,g id=some B->E.loc id=some b->b<E.w.heap.size:=fun id b B hg hb=>by
  have:=h.at_ id B hg;rw [hb] at this;exact this.lt.2
 have hs:(E.w.alloc ob).heap.size=E.w.heap.size+1:=by simp
 let E':Env:={ E with w:=E.w.alloc ob,X:=fun b=>E.X b\/b=E.w.heap.size }
 have hE:E.Le E':=by
  refine ⟨fun _ h=>h,fun b hb=>⟨hb,aep _ _ _ (h.low b hb).1⟩,fun _ _ h=>h,fun _ _ _=> .inr rfl,fun id b hi hd hb=> .inr ?_,fun _ _ _=> .inr rfl,fun _ h=>h,fun b hb=>⟨.inl hb,aep _ _ _ (h.xo b hb).1⟩⟩
  obtain ⟨B',aX⟩:=(h.live id).1 ⟨hi,hd⟩
  show (E.w.alloc _).shape? b=_
  simp only [World.shape?]
  rw [aep _ _ _ (hlt id b B' aX hb)]
 refine ⟨E',rfl,hE,⟨h.live,fun id B hg=>(h.at_ id B hg).cm hE fun b hb=>aep _ _ _ (hlt id b B hg hb),h.apart,h.out,fun b hb=>⟨?_,(h.low b hb).2⟩, ?_,h.len,h.jZ,fun b hb=> ?_⟩,fun _ h=>h, .inr rfl⟩
 ·have:=(h.low b hb).1
  show b<(E.w.alloc ob).heap.size
  omega
 ·have:=h.size
  show base<=(E.w.alloc ob).heap.size
  omega
 ·show b<(E.w.alloc ob).heap.size/\_
  rcases hb with hb|hb
  ·have:=h.xo b hb
   exact ⟨by omega,this.2⟩
  ·subst hb
   refine ⟨by omega,fun hI=> ?_,fun id B hg he=> ?_⟩
   ·have:=(h.low _ hI).1;omega
   ·have:=hlt id _ B hg he;omega
theorem aS.Qb (h:aS E J base g) (fr:Nat) (hf:¬E.kn fr) (b:Nat) (hX:E.X b) (B:Bk) (hB:∀E':Env,E'.w=E.w->dB E' base B (some b)):
  ∃E':Env,E'.w=E.w/\(∀{v a},aj E v a->aj E' v a)/\aS E' J base (aH g [(fr,some B)])/\(∀id,E'.kn id->E.kn id\/id=fr)/\E'.kn fr/\¬E'.dead fr/\E'.loc fr=some b/\(∀E0:Env,E0.Le E->¬E0.X b->E0.Le E')/\(∀b,E.I b->E'.I b):=by
 have aJ:∀id,E.kn id->id≠fr:=fun id hi he=>hf (he▸hi)
 let E1:Env:={ E with X:=fun x=>E.X x/\x≠b }
 let E':Env:={ E1 with kn:=fun id=>E.kn id\/id=fr,loc:=fun id=>if id=fr then some b else E.loc id,dead:=fun id=>E.dead id/\id≠fr,ln:=fun id=>if id=fr then B.els.length else E.ln id }
 have lC:E1.Le E':=⟨fun _ h=> .inl h,fun b hb=>⟨hb,rfl⟩,fun id hi hd=>⟨hd,aJ id hi⟩,fun id hi hd=> .inr (acL (aJ id hi)),fun _ _ _ _ _=> .inr rfl,fun id hi _=> .inr (acL (aJ id hi)),fun _ h=>h,fun b hb=>⟨hb,rfl⟩⟩
 have hR:∀{v a},aj E v a->aj E' v a:=fun hr=>(aj.P9 (Y:=fun x=>E.X x/\x≠b) hr).step lC
 have gD:∀k,aH g [(fr,some B)] k=if k=fr then some B else g k:=fun k=>by simp only [aH]
 refine ⟨E',rfl,hR,⟨fun k=> ?_,fun k Bk hk=> ?_,fun k k' b' B1 B2 h1 h2 h3 h4=> ?_,fun k b' B1 hk hb hI=> ?_,h.low,h.size,fun k B1 hk dH=> ?_,h.jZ,fun b' bM=>⟨(h.xo b' bM.1).1,(h.xo b' bM.1).2.1,fun k B1 hk he=> ?_⟩⟩,fun _ h=>h, .inr rfl,fun hd=>hd.2 rfl,acN rfl,fun E0 k Cv=> ?_,fun _ h=>h⟩
 ·rw [gD]
  by_cases h1:k=fr
  ·subst h1;simp [E']
  ·simp only [h1,adi, <-h.live k]
   simp [E',E1,h1]
 ·rw [gD] at hk
  by_cases h1:k=fr
  ·subst h1
   simp only [acP,acM] at hk
   subst hk
   show dB E' base _ (if k=k then _ else _)
   rw [acN rfl]
   exact hB E' rfl
  ·rw [acL h1] at hk
   show dB E' base Bk (if k=fr then _ else _)
   rw [acL h1]
   have:=h.at_ k Bk hk
   cases hl:E.loc k with
   |none=>rw [hl] at this;exact this
   |some c=>
    rw [hl] at this
    obtain ⟨h1,⟨hz,arr,t,h2,h3,h4⟩|⟨hz,es,clock,h2,h3,h4⟩⟩:=this
    ·refine ⟨h1, .inl ⟨hz,arr,t,h2,h3,fun i cs hi=>⟨(h4 i cs hi).1,fun j x hj=> ?_⟩⟩⟩
     obtain ⟨u,k1,k2,k3⟩:=(h4 i cs hi).2 j x hj
     exact ⟨u,k1,k2,hR k3⟩
    ·refine ⟨h1, .inr ⟨hz,es,clock,h2,h3,fun i e cs he hi=> ?_⟩⟩
     obtain ⟨x,k1,k2,k3⟩:=h4 i e cs he hi
     exact ⟨x,k1,k2,hR k3⟩
 ·rw [gD] at h1 h2
  have e3:(if k=fr then some b else E.loc k)=some b':=h3
  have e4:(if k'=fr then some b else E.loc k')=some b':=h4
  by_cases a1:k=fr<;>by_cases a2:k'=fr
  ·rw [a1,a2]
  ·rw [acN a1] at e3;rw [acL a2] at e4 h2
   exact absurd (e4.trans e3.symm) ((h.xo b hX).2.2 k' B2 h2)
  ·rw [acL a1] at e3 h1;rw [acN a2] at e4
   exact absurd (e3.trans e4.symm) ((h.xo b hX).2.2 k B1 h1)
  ·rw [acL a1] at e3 h1;rw [acL a2] at e4 h2
   exact h.apart k k' b' B1 B2 h1 h2 e3 e4
 ·rw [gD] at hk
  have e3:(if k=fr then some b else E.loc k)=some b':=hb
  by_cases a1:k=fr
  ·rw [acN a1] at e3
   simp only [acM] at e3
   exact (h.xo b hX).2.1 (e3▸hI)
  ·rw [acL a1] at e3 hk
   exact h.out k b' B1 hk e3 hI
 ·rw [gD] at hk
  show _=if k=fr then _ else _
  by_cases a1:k=fr
  ·rw [acN a1] at hk ⊢
   simp only [acM] at hk;rw [<-hk]
  ·rw [acL a1] at hk ⊢
   exact h.len k B1 hk dH
 ·rw [gD] at hk
  have e3:(if k=fr then some b else E.loc k)=some b':=he
  by_cases a1:k=fr
  ·rw [acN a1] at e3
   simp only [acM] at e3
   exact bM.2 e3.symm
  ·rw [acL a1] at e3 hk
   exact (h.xo b' bM.1).2.2 k B1 hk e3
 ·exact ⟨fun id hi=> .inl (k.kn id hi),fun b hb=>k.gi b hb,fun id hi hd=>⟨k.dead id hi hd,aJ id (k.kn id hi)⟩,fun id hi hd=>(k.loc id hi hd).imp (fun q=>⟨q,aJ id (k.kn id hi)⟩) fun q=>(acL (aJ id (k.kn id hi))).trans q,fun id b hi hd hb=>(k.shape id b hi hd hb).imp (fun q=>⟨q,aJ id (k.kn id hi)⟩) fun q=>q,fun id hi hd=>(k.ln id hi hd).imp (fun q=>⟨q,aJ id (k.kn id hi)⟩) fun q=>(acL (aJ id (k.kn id hi))).trans q,k.rg,fun b' bM=>⟨⟨(k.fx b' bM).1,fun e=>Cv (e▸bM)⟩,(k.fx b' bM).2⟩⟩
end
section
variable {P:Program} {E0:Env} {n:Nat} {ops:Array Oper} {J:Nat->Prop} {base:Nat} {w0:World} {Q:Exit->Act->World->Prop} {os:List aL} {dep:List (List Nat)} {σ σ':Nat->AV} {g g':Nat->Option Bk} {k k':Nat} {rs:List Rec} {hs:List (Option Nat)}
structure jc (E0:Env) (n:Nat) (ops:Array Oper) (dep:List (List Nat)) (J:Nat->Prop) (base:Nat) (w0:World) (σ:Nat->AV) (g:Nat->Option Bk) (k:Nat) (rs:List Rec) (hs:List (Option Nat)) (sx:Nat->Bool) (pd:Env->Act->Prop) (listed:Array Bool) (a:Act) (w:World):Prop where
 ex:∃E:Env,E.w=w/\E0.Le E/\(∀t,sx t=false->aj E (a.tmps.getD t undef) (cr n (fun j=>listed.getD j false) rs σ t))/\aS E J base (cp (fun j=>listed.getD j false) rs g)/\
  (∀id,E.kn id->id<k\/∃j r,listed.getD j false=true/\rs[j]? =some r/\(id∈r.keys\/∃k1,hs[j]? =some (some k1)/\id<k1))/\Mk E w0.heap.size a.defers/\pd E a
 size:a.tmps.size=n
 below:Below base w0 w
 gl:gA E0
 ja:listed.size=ops.size
 closed:∀(j:Nat),j<ops.size->listed.getD j false=true->∀e,e∈(dep[j]?).getD []->listed.getD e false=true
theorem HK {rd:Option Nat} (eZ:gV P n os σ g k rs hs σ' g' k') (hlen:os.length=ops.size) (cW:iK os dep=true) (hid:im rs dep=true) (hcs:lP jn rs hs dep=true)
  {sx:Nat->Bool} {pd:Env->Act->Prop} {a:Act} (hI:jc E0 n ops dep J base w0 σ g k rs hs sx pd listed a w) (m2:ops[i]? =some op) (ho:os[i]? =some o) (lL:iI P ops op=some o) (dQ:listed.getD i false=false)
  (fa:∀e,e∈(dep[i]?).getD []->listed.getD e false=true) (hu:∀t,t∈o.lH->sx t=false) (hq:dq hs i=true->listed.getD jn false=true->i<jn->i∈(dep[jn]?).getD []) (yw:i=jn->∀c,c<i->dq hs c=true->¬c∈(dep[i]?).getD []->listed.getD c false=true)
  (Qc:∀E E' v,pd E a->E.Le E'->pd E' (a.put o.dst v)) (hK:∀a' w',jc E0 n ops dep J base w0 σ g k rs hs sx pd (listed.setIfInBounds i true) a' w'->K a' w'):wpOpIn (dx rd) 0 P ops Q i K a w:=by
 obtain ⟨⟨c1,Cw⟩,c2,c3,c4,c5,c6,c7⟩:=yv eZ
 have cQ:i<ops.size:=(adF.1 m2).1
 obtain ⟨r,dp,cX,hrun,fO⟩:=c3 i o ho
 obtain ⟨E,rfl,hle,oo,h2,h3,hmk,Qd⟩:=hI.ex
 have h1:∀t,aj E (a.tmps.getD t undef) ((fun t=>if sx t=true then AV.dead else cr n (fun j=>listed.getD j false) rs σ t) t):=fun t=>by
  show aj E _ (if sx t=true then AV.dead else _)
  cases ht:sx t with
  |true=>rw [acN rfl];exact .dead
  |false=>rw [acL (by simp)];exact oo t ht
 -- OP is listed out of turn is free of this one
 have free:∀j rj oj,j≠i->rs[j]? =some rj->os[j]? =some oj->listed.getD j false≠upto i j->(lJ (if i<j then o else oj) (if i<j then oj else o)=true/\iJ (if i<j then r else rj) (if i<j then rj else r)=true):=by
  intro j rj oj aJ bo bS hl
  have bI:j<os.length:=(acU.1 bS).1
  unfold iK at cW
  unfold im at hid
  simp only [acQ,adl,adg,ad4] at cW hid
  by_cases bB:i<j
  ·rw [acN bB,acN bB,acN bB,acN bB]
   have bq:listed.getD j false=true:=by
    have hu:upto i j=false:=by simp [upto];omega
    rw [hu] at hl
    simpa using hl
   have dI:i∉(dep[j]?).getD []:=by
    intro dZ
    have lK:j<ops.size:=by omega
    have:=hI.closed j lK bq i dZ
    rw [dQ] at this;simp at this
   have s1:=(cW j bI i bB).resolve_left dI
   have s2:=(hid j (by rw [c1];exact bI) i bB).resolve_left dI
   rw [ho,bS] at s1;rw [dp,bo] at s2
   exact ⟨s1,s2⟩
  ·rw [acL bB,acL bB,acL bB,acL bB]
   have cq:j<i:=by omega
   have bq:listed.getD j false=false:=by
    have hu:upto i j=true:=by simp [upto];omega
    rw [hu] at hl
    simpa using hl
   have dI:j∉(dep[i]?).getD []:=by
    intro dZ
    have:=fa j dZ
    rw [bq] at this;simp at this
   have s1:=(cW i (by omega) j cq).resolve_left dI
   have s2:=(hid i (by omega) j cq).resolve_left dI
   rw [ho,bS] at s1;rw [dp,bo] at s2
   exact ⟨s1,s2⟩
 have jD:∀(j:Nat) rj,rs[j]? =some rj->∃oj,os[j]? =some oj/\rj.dst=oj.dst:=fun j rj bo=>by
  have bI:j<os.length:=by rw [<-c1];exact (acU.1 bo).1
  obtain ⟨r',q1,q2,_,_⟩:=c3 j _ (acT bI)
  rw [bo] at q1;simp only [acM] at q1;subst q1
  exact ⟨_,acT bI,q2⟩
 -- a slot uU it looks at is as it comes one behind mu other
 have hσ:∀t,t∈o.lH->(if sx t=true then AV.dead else cr n (fun j=>listed.getD j false) rs σ t)=cr n (upto i) rs σ t:=by
  intro t ht
  rw [acL (by rw [hu t ht];simp)]
  refine my _ 0 _ fun j rj bo hl=> ?_
  rw [ac2] at hl
  by_cases aJ:j=i
  ·subst aJ;rw [dQ] at hl;simp [upto] at hl
  ·obtain ⟨oj,bS,dP⟩:=jD j rj bo
   have hf:=(free j rj oj aJ bo bS hl).1
   unfold lI
   rw [acL]
   rintro ⟨eJ,_⟩
   rw [dP] at eJ
   unfold lJ at hf
   by_cases bB:i<j
   ·simp only [acN bB,eJ,acO,ac8,adu,ac9] at hf
    exact hf.2 ht
   ·simp only [acL bB,eJ,acO,ac8,adu,ac9] at hf
    exact hf.1.1 ht
 have hg:∀id,id∈r.acc->cp (fun j=>listed.getD j false) rs g id=cp (upto i) rs g id:=by
  intro id uV
  refine my _ 0 _ fun j rj bo hl=> ?_
  rw [ac2] at hl
  by_cases aJ:j=i
  ·subst aJ;rw [dQ] at hl;simp [upto] at hl
  ·obtain ⟨oj,bS,dP⟩:=jD j rj bo
   have hf:=(free j rj oj aJ bo bS hl).2
   cases hw:wg id rj with
   |none=>rfl
   |some y=>
    exfalso
    have hk:id∈rj.keys:=oA (by unfold wg at hw;rw [hw];simp)
    unfold iJ at hf
    by_cases bB:i<j
    ·simp only [acN bB,acO,acQ,ac8,adu,ac9] at hf
     exact hf.2 id hk uV
    ·simp only [acL bB,acO,acQ,ac8,adu,ac9] at hf
     exact (hf.1 id hk).1 uV
 have Cx:∀{j x},hs[j]? =some (some x)->dq hs j=true:=fun h=>by unfold dq;rw [h]
 have Cy:∀j rj,j≠i->rs[j]? =some rj->listed.getD j false≠upto i j->(dq hs i&&dq hs j)=false/\(dq hs i=true->rj.ups=[])/\(dq hs j=true->r.ups=[]):=by
  intro j rj aJ bo hl
  have bI:j<rs.length:=(acU.1 bo).1
  unfold lP at hcs
  simp only [acQ,adl,adg,ad4] at hcs
  by_cases bB:i<j
  ·have bq:listed.getD j false=true:=by
    have hu:upto i j=false:=by simp [upto];omega
    rw [hu] at hl
    simpa using hl
   have dI:i∉(dep[j]?).getD []:=by
    intro dZ
    have lK:j<ops.size:=by omega
    have:=hI.closed j lK bq i dZ
    rw [dQ] at this;simp at this
   have s2:=(hcs j bI i bB).resolve_left dI
   rw [dp,bo] at s2
   simp only [acO,adg,ac8,adP] at s2
   exact ⟨s2.1,fun h=>(s2.2.1.resolve_left (by rw [h];simp)).resolve_right fun q=>by
    have ej:=ac0 q.1
    exact dI (by rw [ej];exact hq h (by rw [<-ej];exact bq) (by omega)),fun h=>s2.2.2.resolve_left (by rw [h];simp)⟩
  ·have cq:j<i:=by omega
   have bq:listed.getD j false=false:=by
    have hu:upto i j=true:=by simp [upto];omega
    rw [hu] at hl
    simpa using hl
   have dI:j∉(dep[i]?).getD []:=by
    intro dZ
    have:=fa j dZ
    rw [bq] at this;simp at this
   have s2:=(hcs i (by omega) j cq).resolve_left dI
   rw [dp,bo] at s2
   simp only [acO,adg,ac8,adP] at s2
   exact ⟨by rw [Bool.and_comm];exact s2.1,fun h=>s2.2.2.resolve_left (by rw [h];simp),fun h=>(s2.2.1.resolve_left (by rw [h];simp)).resolve_right fun q=>by
    have:=yw (ac0 q.1) j cq h dI
    rw [bq] at this;simp at this⟩
 have fin:∀v E',E.Le E'->aj E' v r.val->aS E' J base (aH (cp (fun j=>listed.getD j false) rs g) r.ups)->Below base E.w E'.w->(∀id,E'.kn id->(E.kn id\/id∈r.keys)\/∃k1,hs[i]? =some (some k1)/\id<k1)->K (a.put o.dst v) E'.w:=by
  intro v E' hE hv hM hB bH
  -- it is listed now
  have eu:∀j,(listed.setIfInBounds i true).getD j false=if j=0+i then true else listed.getD j false:=by
   intro j
   rw [ac2]
   have ke:i<listed.size:=by rw [hI.ja];exact cQ
   by_cases cq:j=i
   ·subst cq;simp [ke]
   ·rw [acL cq,getD_set_ne false (Ne.symm cq)]
  have rz:∀t,cr n (fun j=>(listed.setIfInBounds i true).getD j false) rs σ t=cu n o.dst r.val (cr n (fun j=>listed.getD j false) rs σ) t:=by
   intro t
   rw [<-cX,oB]
   refine rq rs 0 i _ r dp (by rw [ac2];exact dQ) eu fun j rj bB bo bq=> ?_
   rw [ac2] at bq
   obtain ⟨oj,bS,dP⟩:=jD j rj bo
   have hf:=(free j rj oj (by omega) bo bS (by rw [bq];simp [upto];omega)).1
   unfold lJ at hf
   simp only [acN bB] at hf
   by_cases ik:r.dst=some t
   ·left
    unfold lI
    rw [acL]
    rintro ⟨eJ,_⟩
    rw [cX] at ik
    rw [dP] at eJ
    simp only [ik,eJ,acO,bne_iff_ne,ne_eq] at hf
    exact hf.1.2 trivial
   ·right
    unfold lI
    rw [acL]
    rintro ⟨eJ,_⟩
    exact ik eJ
  have ng:∀id,cp (fun j=>(listed.setIfInBounds i true).getD j false) rs g id=aH (cp (fun j=>listed.getD j false) rs g) r.ups id:=by
   intro id
   rw [nh]
   refine rq rs 0 i _ r dp (by rw [ac2];exact dQ) eu fun j rj bB bo bq=> ?_
   rw [ac2] at bq
   obtain ⟨oj,bS,dP⟩:=jD j rj bo
   have hf:=(free j rj oj (by omega) bo bS (by rw [bq];simp [upto];omega)).2
   unfold iJ at hf
   simp only [acN bB,acO,acQ,ac8,adu,ac9] at hf
   cases hw:wg id r with
   |none=>exact .inr rfl
   |some y=>
    left
    cases hw2:wg id rj with
    |none=>rfl
    |some y2=>
     exfalso
     have k1:id∈r.keys:=oA (by unfold wg at hw;rw [hw];simp)
     have k2:id∈rj.keys:=oA (by unfold wg at hw2;rw [hw2];simp)
     exact (hf.1 id k1).2 k2
  refine hK _ _ ⟨⟨E',rfl,hle.trans hE,fun t ht=> ?_, ?_,fun id hh=> ?_, ?_,Qc E E' v Qd hE⟩, ?_,hI.below.trans hB,hI.gl,by simpa using hI.ja,fun j hj bq e he=> ?_⟩
  ·rw [rz t]
   have:=sT hE h1 hv o.dst t
   rw [hI.size] at this
   have e9:cu n o.dst r.val (fun t=>if sx t=true then AV.dead else cr n (fun j=>listed.getD j false) rs σ t) t=cu n o.dst r.val (cr n (fun j=>listed.getD j false) rs σ) t:=by
    unfold cu
    split
    ·rfl
    ·exact acL (by rw [ht];simp)
   rw [<-e9]
   exact this
  ·rw [show cp (fun j=>(listed.setIfInBounds i true).getD j false) rs g=aH (cp (fun j=>listed.getD j false) rs g) r.ups from funext ng]
   exact hM
  ·rcases bH id hh with (h|h)|h
   ·rcases h3 id h with h|⟨j,rj,q1,q2,q3⟩
    ·exact .inl h
    ·exact .inr ⟨j,rj,getD_set_true q1,q2,q3⟩
   ·refine .inr ⟨i,r, ?_,dp, .inl h⟩
    rw [eu i,ac2,acN rfl]
   ·refine .inr ⟨i,r, ?_,dp, .inr h⟩
    rw [eu i,ac2,acN rfl]
  ·rw [(j9 a o.dst v).2];exact hmk.step hE
  ·rw [(j9 a o.dst v).1];exact hI.size
  ·rw [eu j,ac2] at bq
   by_cases cq:j=i
   ·subst cq
    exact getD_set_true (fa e he)
   ·rw [acL cq] at bq
    exact getD_set_true (hI.closed j hj bq e he)
 rcases hrun with ⟨s9,hrun⟩|⟨f,as_,k1,HL,de,hal,dO,cS,Qe⟩
 ·-- a name uU OQ has
  have uH:∃jB,¬E.kn jB/\(r.fr∈r.ups.map Prod.fst->jB=r.fr):=by
   by_cases dm:r.fr∈r.ups.map Prod.fst
   ·refine ⟨r.fr,fun hk=> ?_,fun _=>rfl⟩
    rcases h3 _ hk with h|⟨j,rj,bq,bo,dJ⟩
    ·omega
    ·by_cases aJ:j=i
     ·subst aJ;rw [dQ] at bq;simp at bq
     ·rcases dJ with dJ|⟨k1,c8,dJ⟩
      rotate_left
      ·by_cases bB:i<j
       ·have:=(Cy j rj aJ bo (by rw [bq];simp [upto];omega)).2.2 (Cx c8)
        rw [this] at dm;simp at dm
       ·have:=(c4 j i rj r (by omega) bo dp).2 k1 c8
        omega
      by_cases bB:i<j
      ·obtain ⟨oj,bS,_⟩:=jD j rj bo
       have hf:=(free j rj oj aJ bo bS (by rw [bq];simp [upto];omega)).2
       unfold iJ at hf
       simp only [acN bB,acO,acQ,ac8,adu,ac9] at hf
       exact (hf.1 _ dm).2 dJ
      ·have:=(c4 j i rj r (by omega) bo dp).1 _ dJ
       exact adS _ this
   ·refine ⟨k',fun hk=> ?_,fun h=>absurd h dm⟩
    rcases h3 _ hk with h|⟨j,rj,bq,bo,dJ|⟨k1,c8,dJ⟩⟩
    ·omega
    ·exact adS _ ((c5 j rj bo).1 _ dJ)
    ·exact adS _ (adf dJ ((c5 j rj bo).2 k1 c8))
  obtain ⟨jB,BQ,BR⟩:=uH
  obtain ⟨BM,BS⟩:=hrun.local hσ hg BR
  exact BL (hI.gl.step hle) h1 h2 BQ m2 lL BS fun v E' hE hv hM hB bH=>fin v E' hE hv hM hB fun id h=> .inl (bH id h)
 ·have Cz:=Cx HL
  have CA:cp (fun j=>listed.getD j false) rs g=cp (upto i) rs g:=by
   funext id
   refine my _ 0 _ fun j rj bo hl=> ?_
   rw [ac2] at hl
   by_cases aJ:j=i
   ·subst aJ;rw [dQ] at hl;simp [upto] at hl
   ·unfold wg;rw [(Cy j rj aJ bo hl).2.1 Cz];rfl
  have Qf:∀id,E.kn id->id<r.fr:=by
   intro id hid
   rcases h3 id hid with h|⟨j,rj,bq,bo,dJ⟩
   ·omega
   ·by_cases aJ:j=i
    ·subst aJ;rw [dQ] at bq;simp at bq
    ·by_cases bB:i<j
     ·have lE:=Cy j rj aJ bo (by rw [bq];simp [upto];omega)
      rcases dJ with dJ|⟨x,hx,dJ⟩
      ·unfold Rec.keys at dJ;rw [lE.2.1 Cz] at dJ;simp at dJ
      ·have:=lE.1;rw [Cz,Cx hx] at this;simp at this
     ·rcases dJ with dJ|⟨x,hx,dJ⟩
      ·exact (c4 j i rj r (by omega) bo dp).1 _ dJ
      ·have:=(c4 j i rj r (by omega) bo dp).2 x hx;omega
  have Qg:cx (fun t=>if sx t=true then AV.dead else cr n (fun j=>listed.getD j false) rs σ t) o.guard=some true:=by
   rw [<-de]
   cases hg0:o.guard with
   |none=>rfl
   |some p=>
    obtain ⟨t,w⟩:=p
    simp only [cx,hσ t (by simp [aL.lH,hg0])]
  have Qh:(o.ao.aq r.fr (aQ (fun t=>if sx t=true then AV.dead else cr n (fun j=>listed.getD j false) rs σ t))).run (cp (fun j=>listed.getD j false) rs g)=some (.call f as_):=by
   rw [CA,Hc r.fr fun t ht=>hσ t (by simp [aL.lH,ht])];exact dO
  have hdd:=uQ lL
  have CB:∀e,op.semAt (dx rd).round e=execOp e op:=fun e=>aeK (dx rd) _ _ (sR hdd.2)
  unfold wpOpIn
  simp only [m2]
  rw [oz h1 lL Qg,acN rfl]
  obtain ⟨vs,e1,e2⟩:=uJ (fh.of (hI.gl.step hle) h1) hdd.2 Qh cS
  unfold Oper.wpIn
  rw [CB,e1,Oper.uponIn_enter]
  have yh:=h2
  rw [CA] at yh
  refine ⟨nc,sQ,uP ((Qe E J base vs (hI.gl.step hle) yh Qf e2).mono ?_)⟩
  rintro e w' ⟨v,E',rfl,rfl,q1,q2,q3,q4,q5⟩
  have qc:=fin v E' q1 q2 (by rw [CA];exact q3) q4 fun id h=> .inr ⟨k1,HL,q5 id h⟩
  rw [hdd.1] at qc
  exact qc
theorem Qi (eZ:gV P n os σ g k rs hs σ' g' k') (hlen:os.length=ops.size) (cW:iK os dep=true) (hid:im rs dep=true) (cS:∀(j:Nat),j<ops.size->listed.getD j false=true->∀e,e∈(dep[j]?).getD []->listed.getD e false=true) (er:listed.size=ops.size)
 {r:Rec} (cQ:i<ops.size) (ho:os[i]? =some o) (dp:rs[i]? =some r) (cX:r.dst=o.dst) (dQ:listed.getD i false=false):
  (∀t,cr n (fun j=>(listed.setIfInBounds i true).getD j false) rs σ t=cu n o.dst r.val (cr n (fun j=>listed.getD j false) rs σ) t)/\(∀id,cp (fun j=>(listed.setIfInBounds i true).getD j false) rs g id=aH (cp (fun j=>listed.getD j false) rs g) r.ups id)/\∀j rj,i<j->rs[j]? =some rj->listed.getD j false=true->¬i∈(dep[j]?).getD []/\iJ r rj=true:=by
 obtain ⟨⟨c1,Cw⟩,c2,c3,c4,c5,c6,c7⟩:=yv eZ
 have jD:∀(j:Nat) rj,rs[j]? =some rj->∃oj,os[j]? =some oj/\rj.dst=oj.dst:=fun j rj bo=>by
  have bI:j<os.length:=by rw [<-c1];exact (acU.1 bo).1
  obtain ⟨r',q1,q2,_,_⟩:=c3 j _ (acT bI)
  rw [bo] at q1;simp only [acM] at q1;subst q1
  exact ⟨_,acT bI,q2⟩
 have gU:∀j,i<j->j<ops.size->listed.getD j false=true->¬i∈(dep[j]?).getD []:=fun j bB hj bq dZ=>by
  have:=cS j hj bq i dZ
  rw [dQ] at this;simp at this
 have free:∀j rj oj,i<j->rs[j]? =some rj->os[j]? =some oj->listed.getD j false=true->(lJ o oj=true/\iJ r rj=true):=by
  intro j rj oj bB bo bS bq
  have bI:j<os.length:=(acU.1 bS).1
  unfold iK at cW
  unfold im at hid
  simp only [acQ,adl,adg,ad4] at cW hid
  have dI:=gU j bB (by omega) bq
  have s1:=(cW j bI i bB).resolve_left dI
  have s2:=(hid j (by rw [c1];exact bI) i bB).resolve_left dI
  rw [ho,bS] at s1;rw [dp,bo] at s2
  exact ⟨s1,s2⟩
 -- it is listed now
 have eu:∀j,(listed.setIfInBounds i true).getD j false=if j=0+i then true else listed.getD j false:=by
  intro j
  rw [ac2]
  have ke:i<listed.size:=by rw [er];exact cQ
  by_cases cq:j=i
  ·subst cq;simp [ke]
  ·rw [acL cq,getD_set_ne false (Ne.symm cq)]
 have rz:∀t,cr n (fun j=>(listed.setIfInBounds i true).getD j false) rs σ t=cu n o.dst r.val (cr n (fun j=>listed.getD j false) rs σ) t:=by
  intro t
  rw [<-cX,oB]
  refine rq rs 0 i _ r dp (by rw [ac2];exact dQ) eu fun j rj bB bo bq=> ?_
  rw [ac2] at bq
  obtain ⟨oj,bS,dP⟩:=jD j rj bo
  have hf:=(free j rj oj bB bo bS bq).1
  unfold lJ at hf
  by_cases ik:r.dst=some t
  ·left
   unfold lI
   rw [acL]
   rintro ⟨eJ,_⟩
   rw [cX] at ik
   rw [dP] at eJ
   simp only [ik,eJ,acO,bne_iff_ne,ne_eq] at hf
   exact hf.1.2 trivial
  ·right
   unfold lI
   rw [acL]
   rintro ⟨eJ,_⟩
   exact ik eJ
 have ng:∀id,cp (fun j=>(listed.setIfInBounds i true).getD j false) rs g id=aH (cp (fun j=>listed.getD j false) rs g) r.ups id:=by
  intro id
  rw [nh]
  refine rq rs 0 i _ r dp (by rw [ac2];exact dQ) eu fun j rj bB bo bq=> ?_
  rw [ac2] at bq
  obtain ⟨oj,bS,dP⟩:=jD j rj bo
  have hf:=(free j rj oj bB bo bS bq).2
  unfold iJ at hf
  simp only [acO,acQ,ac8,adu,ac9] at hf
  cases hw:wg id r with
  |none=>exact .inr rfl
  |some y=>
   left
   cases hw2:wg id rj with
   |none=>rfl
   |some y2=>
    exfalso
    have k1:id∈r.keys:=oA (by unfold wg at hw;rw [hw];simp)
    have k2:id∈rj.keys:=oA (by unfold wg at hw2;rw [hw2];simp)
    exact (hf.1 id k1).2 k2
 refine ⟨rz,ng,fun j rj bB bo bq=> ?_⟩
 obtain ⟨oj,bS,_⟩:=jD j rj bo
 exact ⟨gU j bB (by rw [<-hlen];exact (acU.1 bS).1) bq,(free j rj oj bB bo bS bq).2⟩
def Qj (w:World) (b:Nat) (zs:List AV):Prop:=∃(arr:Array Value) (t:TypeId),w.heap[b]? =some (.cells arr t (0,0))/\zs.length<=arr.size/\∀(j:Nat) x,zs[j]? =some x->∃u,arr[j]? =some u/\u.oneCell'=true/\∀E:Env,aj E u x
def tb (E0:Env) (n base b:Nat) (zs:List AV) (d:Option Nat) (E:Env) (a:Act):Prop:=E.X b/\¬E0.X b/\base<=b/\(∀t,d=some t->t<n->a.tmps.getD t undef= .pointer (some ⟨b,0,none⟩))/\Qj E.w b zs
def oJ (n:Nat) (d:Option Nat) (t:Nat):Bool:=d==some t&&Nat.blt t n
theorem jc.cy (eZ:gV P n os σ g k rs hs σ' g' k') (hlen:os.length=ops.size) (cW:iK os dep=true) (hid:im rs dep=true) (hcs:lP jn rs hs dep=true) {r:Rec} {zs:List AV} {b:Nat} {a:Act}
  (hI:jc E0 n ops dep J base w0 σ g k rs hs (oJ n o.dst) (tb E0 n base b zs o.dst) listed a w) (cQ:jn<ops.size) (ho:os[jn]? =some o) (dp:rs[jn]? =some r) (cX:r.dst=o.dst) (dQ:listed.getD jn false=false) (fa:∀e,e∈(dep[jn]?).getD []->listed.getD e false=true)
  (hz:0<zs.length) (tc:r.val= .ref r.fr zs.length 0 0) (s8:r.ups=[(r.fr,some ⟨zs.length,[zs]⟩)]) (fO:k<=r.fr):
  jc E0 n ops dep J base w0 σ g k rs hs (fun _=>false) (fun _ _=>True) (listed.setIfInBounds jn true) a w:=by
 obtain ⟨⟨c1,Cw⟩,c2,c3,c4,c5,c6,c7⟩:=yv eZ
 obtain ⟨rz,ng,Qk⟩:=Qi eZ hlen cW hid hI.closed hI.ja cQ ho dp cX dQ
 obtain ⟨E,rfl,hle,h1,h2,h3,hmk,⟨p1,p2,p3,p4,arr,t0,p5,p6,p7⟩⟩:=hI.ex
 have hk:r.fr∈r.keys:=by unfold Rec.keys;rw [s8];simp
 have hf:¬E.kn r.fr:=fun bH=>by
  rcases h3 _ bH with h|⟨j,rj,bq,bo,dJ⟩
  ·omega
  ·by_cases aJ:j=jn
   ·subst aJ;rw [dQ] at bq;simp at bq
   ·by_cases bB:jn<j
    ·obtain ⟨q1,q2⟩:=Qk j rj bB bo bq
     rcases dJ with dJ|⟨k1,c8,_⟩
     ·unfold iJ at q2
      simp only [acO,acQ,ac8,adu,ac9] at q2
      exact (q2.1 _ hk).2 dJ
     ·have bI:j<rs.length:=(acU.1 bo).1
      unfold lP at hcs
      simp only [acQ,adl,adg,ad4] at hcs
      have s2:=(hcs j bI jn bB).resolve_left q1
      rw [dp,bo] at s2
      simp only [acO,adg,ac8,adP] at s2
      have hc:dq hs j=true:=by unfold dq;rw [c8]
      have:=s2.2.2.resolve_left (by rw [hc];simp)
      rw [this] at s8;simp at s8
    ·have cq:j<jn:=by omega
     rcases dJ with dJ|⟨k1,c8,dJ⟩
     ·exact adS _ ((c4 j jn rj r cq bo dp).1 _ dJ)
     ·have:=(c4 j jn rj r cq bo dp).2 k1 c8
      omega
 obtain ⟨E',hw,hR,hM,q1,q2,q3,q4,q5,q6⟩:=h2.Qb r.fr hf b p1 ⟨zs.length,[zs]⟩ (fun pL hw=>by
  refine dB.lx ⟨p3,arr,(t0,0),by rw [hw];exact p5,by simpa using p6,fun i cs hi=> ?_⟩ (by show zs.length≠0;omega)
  cases i with
  |zero=>
   simp only [ado,acM] at hi
   subst hi
   refine ⟨rfl,fun j x hj=> ?_⟩
   obtain ⟨u,u1,u2,u3⟩:=p7 j x hj
   exact ⟨u,by simpa using u1,u2,u3 _⟩
  |succ i=>simp at hi)
 refine ⟨⟨E',hw,q5 E0 hle p2,fun t _=> ?_, ?_,fun id hh=> ?_,hmk.G3 fun b hb=>⟨q6 b hb,by rw [hw]⟩,trivial⟩,hI.size,hI.below,hI.gl,by simpa using hI.ja,fun j hj bq e he=> ?_⟩
 ·rw [rz t]
  by_cases ht:o.dst=some t/\t<n
  ·rw [show cu n o.dst r.val (cr n (fun j=>listed.getD j false) rs σ) t=r.val from acN ht,tc,p4 t ht.1 ht.2]
   exact .ref q2 q3 q4 (by simp) (by omega)
  ·rw [show cu n o.dst r.val (cr n (fun j=>listed.getD j false) rs σ) t=cr n (fun j=>listed.getD j false) rs σ t from acL ht]
   refine hR (h1 t ?_)
   unfold oJ
   rw [Bool.and_eq_false_iff]
   by_cases hd:o.dst=some t
   ·right
    have:¬t<n:=fun h=>ht ⟨hd,h⟩
    cases hb:Nat.blt t n with
    |false=>rfl
    |true=>exact absurd (adC hb) this
   ·left;simpa using hd
 ·rw [show cp (fun j=>(listed.setIfInBounds jn true).getD j false) rs g=aH (cp (fun j=>listed.getD j false) rs g) r.ups from funext ng,s8]
  exact hM
 ·rcases q1 id hh with h|h
  ·rcases h3 id h with h|⟨j,rj,q1,q2,q3⟩
   ·exact .inl h
   ·exact .inr ⟨j,rj,getD_set_true q1,q2,q3⟩
  ·refine .inr ⟨jn,r, ?_,dp, .inl (h▸hk)⟩
   have ke:jn<listed.size:=by rw [hI.ja];exact cQ
   simp [ke]
 ·by_cases cq:j=jn
  ·subst cq;exact getD_set_true (fa e he)
  ·rw [getD_set_ne false (Ne.symm cq)] at bq
   exact getD_set_true (hI.closed j hj bq e he)
theorem Ql {o:Oper} {zs:List AV} (h:cB P o=some (.new zs)):∃t,o.op= .alloc t/\jw P t=some zs/\0<zs.length:=by
 obtain ⟨dst,op,type,pos,after,guard⟩:=o
 cases op
 case alloc t=>
  simp only [cB] at h
  split at h
  ·split at h
   ·simp only [acM,AO.new.injEq] at h;subst h;exact ⟨t,rfl,by assumption,by assumption⟩
   ·simp at h
  ·simp at h
 all_goals
  exfalso
  simp only [cB] at h
  first
   |(simp at h;done)
   |((repeat' split at h)<;>simp at h<;>done)
   |((repeat' split at h)<;>simp_all)
theorem Qm {rd:Option Nat} {a:Act} (hI:jc E0 n ops dep J base w0 σ g k rs hs (fun _=>false) (fun _ _=>True) listed a w) {zs:List AV} (m2:ops[i]? =some op) (lL:iI P ops op=some o) (hg:o.guard=none) (dE:o.ao= .new zs)
 (hK:∀a' w' b,0<zs.length->jc E0 n ops dep J base w0 σ g k rs hs (oJ n o.dst) (tb E0 n base b zs o.dst) listed a' w'->K a' w'):wpOpIn (dx rd) 0 P ops Q i K a w:=by
 obtain ⟨E,rfl,hle,oo,h2,h3,hmk,_⟩:=hI.ex
 have h1:∀t,aj E (a.tmps.getD t undef) (cr n (fun j=>listed.getD j false) rs σ t):=fun t=>oo t rfl
 have hdd:=uQ lL
 have CB:∀e,op.semAt (dx rd).round e=execOp e op:=fun e=>aeK (dx rd) _ _ (sR hdd.2)
 obtain ⟨t,cR,yx,eO⟩:=Ql (hdd.2.trans (by rw [dE]))
 obtain ⟨ii,z,hi,hz,br,hcs,eY,dw⟩:=qV yx
 have hrun:(execOp a.eval op).run P E.w= .ok (.value (.pointer (some ⟨E.w.heap.size,0,none⟩))) (E.w.alloc (.cells z.cells t)):=by
  obtain ⟨dst,op,type,pos,after,guard⟩:=op
  simp only at cR
  subst cR
  simp [execOp,Instr.alloc,zeroValue,typeInfo,hi,hz,newVar,newRow]
 unfold wpOpIn
 simp only [m2]
 rw [oz h1 lL (b:=true) (by rw [hg];rfl),acN rfl]
 unfold Oper.wpIn
 rw [CB,hrun]
 obtain ⟨E',hw,hE,hM,bH,hX⟩:=h2.Qa (.cells z.cells t)
 have qc:K (a.put o.dst (.pointer (some ⟨E.w.heap.size,0,none⟩))) E'.w:=by
  refine hK _ _ E.w.heap.size eO ⟨⟨E',rfl,hle.trans hE,fun s hs=> ?_,hM,fun id h=>h3 id (bH id h),by rw [(j9 a o.dst _).2];exact hmk.step hE,hX,fun Cv=> ?_,h2.size,fun s hd hn=> ?_,z.cells,t,by rw [hw];exact heap_alloc_new E.w _,by omega,fun j x hj=> ?_⟩,by rw [(j9 a o.dst _).1];exact hI.size,by rw [hw];exact hI.below.alloc h2.size _,hI.gl,hI.ja,hI.closed⟩
  ·have:(a.put o.dst (.pointer (some ⟨E.w.heap.size,0,none⟩))).tmps.getD s undef=a.tmps.getD s undef:=by
    unfold oJ at hs
    cases hd:o.dst with
    |none=>rfl
    |some d=>
     rw [hd] at hs
     simp only [Act.put]
     by_cases e:d=s
     ·subst e
      have hn:¬d<n:=fun h=>by
       have hb:Nat.blt d n=true:=Nat.ble_eq_true_of_le h
       rw [hb] at hs;simp at hs
      rw [<-hI.size] at hn
      simp [hn]
     ·simp [aeD,aeO,e]
   rw [this]
   exact (h1 s).step hE
  ·have:=(h2.xo _ (hle.fx _ Cv).1).1
   omega
  ·rw [hd]
   simp only [Act.put]
   rw [<-hI.size] at hn
   simp [hn]
  ·have j4:j<zs.length:=(acU.1 hj).1
   have fP:j<z.cells.size:=by omega
   have Qn:=(dw E j z.cells[j] x (ac1 fP) hj).one (by simp only [acQ] at eY;exact eY _ (adm hj))
   exact ⟨z.cells[j],ac1 fP,Qn,fun pL=>dw pL j _ x (ac1 fP) hj⟩
 rw [hw] at qc
 rw [hdd.1] at qc
 exact ⟨nc,qc⟩
theorem yy {A:Array Bool} (h:i<A.size):(A.setIfInBounds i true).getD i false=true:=by simp [h]
theorem Qo {rd:Option Nat} (eZ:gV P n os σ g k rs hs σ' g' k') (hlen:os.length=ops.size) (fG:∀(j:Nat) op,ops[j]? =some op->∃o,os[j]? =some o/\iI P ops op=some o)
  (hd:kM ops.toList dep=true) (cW:iK os dep=true) (hid:im rs dep=true) (hcs:lP jn rs hs dep=true) (oK:∀o,os[jn]? =some o->ki o=true) (hQ:∀a w,gS E0 J base w0 n σ' g' k' a w->Q .normal a w):
  ∀(fuel:Nat) (listed:Array Bool) (a:Act) (w:World),listed.size=ops.size->(∀(j:Nat) op,ops[j]? =some op->listed.getD j false=true->∀e,e∈eS op->listed.getD e false=true)->
   ((jc E0 n ops dep J base w0 σ g k rs hs (fun _=>false) (fun _ _=>True) listed a w/\(listed.getD jn false=true->∀c,c<jn->dq hs c=true->¬c∈(dep[jn]?).getD []->listed.getD c false=true))\/
    ∃(L:Array Bool) (o:aL) (zs:List AV) (b:Nat),os[jn]? =some o/\o.ao= .new zs/\0<zs.length/\listed.getD jn false=true/\(∀j,L.getD j false=(listed.getD j false&& !Nat.beq j jn))/\jc E0 n ops dep J base w0 σ g k rs hs (oJ n o.dst) (tb E0 n base b zs o.dst) L a w/\∃c,c<jn/\dq hs c=true/\¬c∈(dep[jn]?).getD []/\qd dep c jn=true)->
   (∀m:List Nat,(∀j,j∈m->j<ops.size/\listed.getD j true=false)->m.Nodup->m.length<=fuel)->wpAnyIn (dx rd) 0 P .any ops Q fuel listed a w:=by
 have CC:=eZ
 obtain ⟨⟨c1,Cw⟩,c2,c3,c4,c5,c6,c7⟩:=yv eZ
 have HM:∀(listed:Array Bool),listed.size=ops.size->Region.ready .any ops listed=[]->∀j,j<ops.size->listed.getD j false=true:=by
  intro listed er rE j
  induction j using Nat.strongRecOn with
  |_ j ih=>
   intro hj
   cases hl:listed.getD j false with
   |true=>rfl
   |false=>
    exfalso
    have oC:j<listed.size:=by rw [er];exact hj
    have:j∈Region.ready .any ops listed:=by
     rw [mem_ready]
     refine ⟨by simp [oC] at hl ⊢; exact hl,ops[j],ac1 hj,fun e he hb=> ?_⟩
     have dP:=hd
     unfold kM at dP
     simp only [acO,acQ,adl,adh] at dP
     have fP:=(dP.2 j (by simpa using hj)).1
     have ru:ops.toList[j]? =some ops[j]:=by simp [hj]
     simp only [ru,acZ,adI] at fP
     have hlt:=fP e.on (sV.2 ⟨e,he,hb,rfl⟩)
     exact ih e.on hlt (by omega)
    rw [rE] at this
    simp at this
 have Qp:∀j,j<ops.size->∀e,e∈(dep[j]?).getD []->e<j:=fun j hj e he=>by
  have dP:=hd
  unfold kM at dP
  simp only [acO,acQ,adl,adh] at dP
  have:=((dP.2 j (by simpa using hj)).2 e he).1
  simpa using this
 -- mu block uU waits acd ace own where all calls ahead of it GF done
 have norm:∀(listed:Array Bool) (a:Act) (w:World),listed.size=ops.size->(∀(j:Nat) op,ops[j]? =some op->listed.getD j false=true->∀e,e∈eS op->listed.getD e false=true)->
   (∃(L:Array Bool) (o:aL) (zs:List AV) (b:Nat),os[jn]? =some o/\o.ao= .new zs/\0<zs.length/\listed.getD jn false=true/\(∀j,L.getD j false=(listed.getD j false&& !Nat.beq j jn))/\jc E0 n ops dep J base w0 σ g k rs hs (oJ n o.dst) (tb E0 n base b zs o.dst) L a w/\∃c,c<jn/\dq hs c=true/\¬c∈(dep[jn]?).getD []/\qd dep c jn=true)->
   (∀c,c<jn->dq hs c=true->¬c∈(dep[jn]?).getD []->listed.getD c false=true)->
   jc E0 n ops dep J base w0 σ g k rs hs (fun _=>false) (fun _ _=>True) listed a w:=by
  rintro listed a w er cS ⟨L,o,zs,b,ho,dE,hz,bq,hL,hI,_⟩ cw
  have cQ:jn<ops.size:=by rw [<-hlen];exact (acU.1 ho).1
  obtain ⟨r,dp,cX,hrun,fO⟩:=c3 jn o ho
  have hg:o.guard=none:=by
   have:=oK o ho
   unfold ki at this
   split at this
   ·assumption
   ·simp at this
  have HN:r.val= .ref r.fr zs.length 0 0/\r.ups=[(r.fr,some ⟨zs.length,[zs]⟩)]:=by
   rcases hrun with ⟨_,hrun⟩|⟨f,as_,k1,_,_,_,dO,_⟩
   ·generalize hv:r.val=v at hrun ⊢
    generalize hu:r.ups=u at hrun ⊢
    generalize ha:r.acc=ac at hrun
    cases hrun with
    |skip de=>rw [hg] at de;simp [cx] at de
    |done de h=>rw [dE] at h;simp [AO.aq,RM.run] at h;exact ⟨h.1.symm,h.2.symm⟩
    |call de h=>rw [dE] at h;simp [AO.aq,RM.run] at h
    |rp de h=>rw [dE] at h;simp [AO.aq,RM.run] at h
   ·rw [dE] at dO;simp [AO.aq,RM.run] at dO
  have Qq:L.getD jn false=false:=by rw [hL];simp [Nat.beq_refl]
  have fa:∀e,e∈(dep[jn]?).getD []->L.getD e false=true:=fun e he=>by
   have hlt:=Qp jn cQ e he
   have h1:=rr hd cS jn ops[jn] (ac1 cQ) (cS jn _ (ac1 cQ) bq) e he
   rw [hL,h1]
   cases hb:Nat.beq e jn with
   |false=>rfl
   |true=>have:=ac0 hb;omega
  have HO:=hI.cy CC hlen cW hid hcs cQ ho dp cX Qq fa hz HN.1 HN.2 fO
  have Qr:L.size=listed.size:=by rw [hI.ja,er]
  have:L.setIfInBounds jn true=listed:=by
   apply Array.ext
   ·simp [Qr]
   ·intro i h1 h2
    have ox:i<L.size:=by simpa using h1
    have e1:(L.setIfInBounds jn true)[i]=(L.setIfInBounds jn true).getD i false:=by rw [aeD,ac1 h1];rfl
    have e2:listed[i]=listed.getD i false:=by rw [aeD,ac1 h2];rfl
    rw [e1,e2]
    by_cases e:jn=i
    ·subst e;rw [yy ox,bq]
    ·rw [getD_set_ne false e,hL]
     have:Nat.beq i jn=false:=by
      cases hb:Nat.beq i jn with
      |false=>rfl
      |true=>exact absurd (ac0 hb).symm e
     rw [this];simp
  rw [this] at HO
  exact HO
 have done:∀(listed:Array Bool) (a:Act) (w:World),listed.size=ops.size->Region.ready .any ops listed=[]->jc E0 n ops dep J base w0 σ g k rs hs (fun _=>false) (fun _ _=>True) listed a w->Q .normal a w:=by
  intro listed a w er rE hI
  have cw:=HM listed er rE
  obtain ⟨E,rfl,hle,h1,h2,h3,hmk,_⟩:=hI.ex
  have h1:∀t,aj E (a.tmps.getD t undef) (cr n (fun j=>listed.getD j false) rs σ t):=fun t=>h1 t rfl
  have e6:cr n (fun j=>listed.getD j false) rs σ=σ':=by
   rw [c6];funext t
   refine my _ 0 _ fun j r hr hl=>absurd ?_ hl
   rw [ac2,cw j (by rw [<-hlen, <-c1];exact (acU.1 hr).1)]
  have e7:cp (fun j=>listed.getD j false) rs g=g':=by
   rw [c7];funext t
   refine my _ 0 _ fun j r hr hl=>absurd ?_ hl
   rw [ac2,cw j (by rw [<-hlen, <-c1];exact (acU.1 hr).1)]
  rw [funext fun t=>congrFun e6 t] at h1
  rw [e7] at h2
  refine hQ a E.w ⟨⟨E,rfl,hle,h1,h2,fun id hh=> ?_,hmk⟩,hI.size,hI.below,hI.gl⟩
  rcases h3 id hh with h|⟨j,r,_,hr,hk|⟨k1,c8,hk⟩⟩
  ·exact adf h c2
  ·exact (c5 j r hr).1 id hk
  ·exact adf hk ((c5 j r hr).2 k1 c8)
 have HP:∀(listed:Array Bool) (a:Act) (w:World),listed.size=ops.size->(∀(j:Nat) op,ops[j]? =some op->listed.getD j false=true->∀e,e∈eS op->listed.getD e false=true)->_->Region.ready .any ops listed=[]->Q .normal a w:=fun listed a w er cS hI rE=>by
  have hI:(jc E0 n ops dep J base w0 σ g k rs hs (fun _=>false) (fun _ _=>True) listed a w/\(listed.getD jn false=true->∀c,c<jn->dq hs c=true->¬c∈(dep[jn]?).getD []->listed.getD c false=true))\/
    ∃(L:Array Bool) (o:aL) (zs:List AV) (b:Nat),os[jn]? =some o/\o.ao= .new zs/\0<zs.length/\listed.getD jn false=true/\(∀j,L.getD j false=(listed.getD j false&& !Nat.beq j jn))/\jc E0 n ops dep J base w0 σ g k rs hs (oJ n o.dst) (tb E0 n base b zs o.dst) L a w/\∃c,c<jn/\dq hs c=true/\¬c∈(dep[jn]?).getD []/\qd dep c jn=true:=hI
  rcases hI with ⟨hI,_⟩|hI
  ·exact done listed a w er rE hI
  ·refine done listed a w er rE (norm listed a w er cS hI fun c hc _ _=> ?_)
   obtain ⟨_,o,_,_,ho,_⟩:=hI
   exact HM listed er rE c (by have:=(acU.1 ho).1;omega)
 intro fuel
 induction fuel with
 |zero=>
  intro listed a w er cS hI iL
  have hr:Region.ready .any ops listed=[]:=by
   cases hr:Region.ready .any ops listed with
   |nil=>rfl
   |cons x xs=>
    have hx:x∈Region.ready .any ops listed:=by rw [hr];simp
    obtain ⟨m1,o,m2,_⟩:=mem_ready.1 hx
    have:=iL [x] (fun j hj=>by simp at hj;subst hj;exact ⟨(adF.1 m2).1,m1⟩) (by simp)
    simp at this
  exact ⟨hr,HP listed a w er cS hI hr⟩
 |succ fuel ih=>
  intro listed a w er cS hI iL
  refine ⟨HP listed a w er cS hI,fun i hi=> ?_⟩
  obtain ⟨m1,op,m2,m3⟩:=mem_ready.1 hi
  have cQ:i<ops.size:=(adF.1 m2).1
  have ke:i<listed.size:=by rw [er];exact cQ
  have dQ:listed.getD i false=false:=by
   simp [ke] at m1 ⊢; exact m1
  have HQ:∀e,e∈eS op->listed.getD e false=true:=fun e he=>by
   obtain ⟨x,hx,hb,rfl⟩:=sV.1 he
   exact m3 x hx hb
  have fa:∀e,e∈(dep[i]?).getD []->listed.getD e false=true:=fun e he=>rr hd cS i op m2 HQ e he
  obtain ⟨o,ho,lL⟩:=fG i op m2
  have CE:∀(j:Nat) op,ops[j]? =some op->(listed.setIfInBounds i true).getD j false=true->∀e,e∈eS op->(listed.setIfInBounds i true).getD e false=true:=fun j oj bS bq e he=>by
   by_cases cq:j=i
   ·subst cq
    rw [m2] at bS;simp only [acM] at bS;subst bS
    exact getD_set_true (HQ e he)
   ·rw [getD_set_ne false (Ne.symm cq)] at bq
    exact getD_set_true (cS j oj bS bq e he)
  have CF:∀m:List Nat,(∀j,j∈m->j<ops.size/\(listed.setIfInBounds i true).getD j true=false)->m.Nodup->m.length<=fuel:=fun m hm dI=>by
   have pU:i∉m:=fun dZ=>by
    have:=(hm i dZ).2
    simp [ke] at this
   have:=iL (i::m) (fun j hj=>by
    rcases acX.1 hj with rfl|hj
    ·exact ⟨cQ,m1⟩
    ·refine ⟨(hm j hj).1, ?_⟩
     have h5:=(hm j hj).2
     have cq:i≠j:=fun e=>pU (e▸hj)
     rwa [getD_set_ne true cq] at h5) (aeE.2 ⟨pU,dI⟩)
   simpa using this
  have CG:(listed.setIfInBounds i true).size=ops.size:=by simpa using er
  -- either nothing waits, or a call ahead of mu block is still to be done
  have na:(jc E0 n ops dep J base w0 σ g k rs hs (fun _=>false) (fun _ _=>True) listed a w/\(listed.getD jn false=true->∀c,c<jn->dq hs c=true->¬c∈(dep[jn]?).getD []->listed.getD c false=true))\/
    ((∃(L:Array Bool) (o:aL) (zs:List AV) (b:Nat),os[jn]? =some o/\o.ao= .new zs/\0<zs.length/\listed.getD jn false=true/\(∀j,L.getD j false=(listed.getD j false&& !Nat.beq j jn))/\jc E0 n ops dep J base w0 σ g k rs hs (oJ n o.dst) (tb E0 n base b zs o.dst) L a w/\∃c,c<jn/\dq hs c=true/\¬c∈(dep[jn]?).getD []/\qd dep c jn=true)/\∃c,c<jn/\dq hs c=true/\¬c∈(dep[jn]?).getD []/\listed.getD c false=false):=by
   rcases hI with hI|hI
   ·exact .inl hI
   ·by_cases cw:∀c,c<jn->dq hs c=true->¬c∈(dep[jn]?).getD []->listed.getD c false=true
    ·exact .inl ⟨norm listed a w er cS hI cw,fun _=>cw⟩
    ·right
     refine ⟨hI,aed fun hx=>cw fun c q1 q2 q3=> ?_⟩
     cases hc:listed.getD c false with
     |true=>rfl
     |false=>exact absurd ⟨c,q1,q2,q3,hc⟩ hx
  clear hI
  rcases na with ⟨hI,hq⟩|⟨⟨L,oj,zs,b,bS,dE,hz,bq,hL,hI,CH⟩,c0,m7,nt,Cq,Cr⟩
  ·have plain:(i=jn->∀c,c<i->dq hs c=true->¬c∈(dep[i]?).getD []->listed.getD c false=true)->wpOpIn (dx rd) 0 P ops Q i (fun a w=>wpAnyIn (dx rd) 0 P .any ops Q fuel (listed.setIfInBounds i true) a w) a w:=fun yw=>by
    refine HK CC hlen cW hid hcs hI m2 ho lL dQ fa (fun _ _=>rfl) (fun hc hl hlt=> ?_) yw (fun _ _ _ _ _=>trivial) fun a' w' mB=>ih _ a' w' CG CE (.inl ⟨mB,fun hl c q1 q2 q3=> ?_⟩) CF
    ·exact aed fun hx=>by
      have:=hq hl i hlt hc hx
      rw [dQ] at this;simp at this
    ·by_cases e:i=jn
     ·have:=yw e c (by omega) q2 (by rw [e];exact q3)
      exact getD_set_true this
     ·rw [getD_set_ne false e] at hl
      exact getD_set_true (hq hl c q1 q2 q3)
   by_cases e:i=jn
   ·by_cases cw:∀c,c<i->dq hs c=true->¬c∈(dep[i]?).getD []->listed.getD c false=true
    ·exact plain fun _=>cw
    ·have hnew:=oK o (by rw [<-e];exact ho)
     obtain ⟨zs,dE,hg⟩:∃zs,o.ao= .new zs/\o.guard=none:=by
      unfold ki at hnew
      split at hnew
      ·rename_i zs h1 h2;exact ⟨zs,h1,h2⟩
      ·simp at hnew
     obtain ⟨r,dp,cX,hrun,fO⟩:=c3 i o ho
     have rF:r.ups≠[]:=by
      rcases hrun with ⟨_,hrun⟩|⟨f,as_,k1,_,_,_,dO,_⟩
      ·generalize hu:r.ups=u at hrun
       generalize hv:r.val=v at hrun
       generalize ha:r.acc=ac at hrun
       cases hrun with
       |skip de=>rw [hg] at de;simp [cx] at de
       |done de h=>rw [dE] at h;simp [AO.aq,RM.run] at h;rw [<-h.2];simp
       |call de h=>rw [dE] at h;simp [AO.aq,RM.run] at h
       |rp de h=>rw [dE] at h;simp [AO.aq,RM.run] at h
      ·rw [dE] at dO;simp [AO.aq,RM.run] at dO
     have hex:∃c,c<i/\dq hs c=true/\¬c∈(dep[i]?).getD []:=aed fun hx=>cw fun c q1 q2 q3=>absurd ⟨c,q1,q2,q3⟩ hx
     obtain ⟨c,q1,q2,q3⟩:=hex
     have CH:qd dep c i=true:=by
      have rG:=hcs
      unfold lP at rG
      simp only [acQ,adl,adg,ad4] at rG
      have Qs:i<rs.length:=(acU.1 dp).1
      have s2:=(rG i Qs c q1).resolve_left q3
      have CI:rs[c]? =some (rs[c]'(by omega)):=acT (by omega)
      rw [CI,dp] at s2
      simp only [acO,adg,ac8,adP] at s2
      exact ((s2.2.1.resolve_left (by rw [q2];simp)).resolve_left rF).2
     refine Qm hI m2 lL hg dE fun a' w' b hz mB=>ih _ a' w' CG CE (.inr ⟨listed,o,zs,b,by rw [<-e];exact ho,dE,hz,by rw [<-e];exact yy ke,fun j=> ?_,mB,c,by omega,q2,by rw [<-e];exact q3,by rw [<-e];exact CH⟩) CF
     by_cases ej:i=j
     ·subst ej;rw [dQ,e,Nat.beq_refl];simp
     ·rw [getD_set_ne false ej]
      have:Nat.beq j jn=false:=by
       cases hb:Nat.beq j jn with
       |false=>rfl
       |true=>exact absurd ((ac0 hb).trans e.symm).symm ej
      rw [this];simp
   ·exact plain fun h=>absurd h e
  ·have cq:i≠jn:=fun e=>by rw [e,bq] at dQ;simp at dQ
   have HR:¬jn∈(dep[i]?).getD []:=fun dZ=>by
    obtain ⟨c,q1,q2,q3,q4⟩:∃c,c<jn/\dq hs c=true/\¬c∈(dep[jn]?).getD []/\listed.getD c false=false:=⟨c0,m7,nt,Cq,Cr⟩
    have bI:jn<rs.length:=by rw [c1];exact (acU.1 bS).1
    obtain ⟨r,dp,cX,hrun,fO⟩:=c3 jn oj bS
    have hg:oj.guard=none:=by
     have:=oK oj bS
     unfold ki at this
     split at this
     ·assumption
     ·simp at this
    have rF:r.ups≠[]:=by
     rcases hrun with ⟨_,hrun⟩|⟨f,as_,k1,_,_,_,dO,_⟩
     ·generalize hu:r.ups=u at hrun
      generalize hv:r.val=v at hrun
      generalize ha:r.acc=ac at hrun
      cases hrun with
      |skip de=>rw [hg] at de;simp [cx] at de
      |done de h=>rw [dE] at h;simp [AO.aq,RM.run] at h;rw [<-h.2];simp
      |call de h=>rw [dE] at h;simp [AO.aq,RM.run] at h
      |rp de h=>rw [dE] at h;simp [AO.aq,RM.run] at h
     ·rw [dE] at dO;simp [AO.aq,RM.run] at dO
    have rG:=hcs
    unfold lP at rG
    simp only [acQ,adl,adg,ad4] at rG
    have s2:=(rG jn bI c q1).resolve_left q3
    have CI:rs[c]? =some (rs[c]'(by omega)):=acT (by omega)
    rw [CI,dp] at s2
    simp only [acO,adg,ac8,adP] at s2
    have CJ:=((s2.2.1.resolve_left (by rw [q2];simp)).resolve_left rF).2
    unfold qd at CJ
    simp only [acQ,adg,ac8,adu,ac9,adh] at CJ
    have vh:(dep[i]?).getD []∈dep:=by
     cases hx:dep[i]? with
     |none=>rw [hx] at dZ;simp at dZ
     |some d=>exact adm hx
    have:=fa c ((CJ _ vh).resolve_left fun h=>h dZ)
    rw [q4] at this;simp at this
   have Qt:L.getD i false=false:=by rw [hL,dQ];simp
   have Qu:∀e,e∈(dep[i]?).getD []->L.getD e false=true:=fun e he=>by
    rw [hL,fa e he]
    have:Nat.beq e jn=false:=by
     cases hb:Nat.beq e jn with
     |false=>rfl
     |true=>exact absurd ((ac0 hb)▸he) HR
    rw [this];simp
   have Qv:L.getD jn false=false:=by rw [hL];simp [Nat.beq_refl]
   have bI:jn<os.length:=(acU.1 bS).1
   have Qw:i<os.length:=(acU.1 ho).1
   -- mu slot of mu block uU waits is not looked at
   have HS:∀d,oj.dst=some d->¬d∈o.lH/\o.dst≠some d:=fun d iE=>by
    have yz:=cW
    unfold iK at yz
    simp only [acQ,adl,adg,ad4] at yz
    by_cases hlt:jn<i
    ·have s1:=(yz i Qw jn hlt).resolve_left HR
     rw [bS,ho] at s1
     unfold lJ at s1
     simp only [iE,acO,ac8,adu,ac9,bne_iff_ne,ne_eq] at s1
     exact ⟨s1.1.1,fun h=>by rw [h] at s1;simp at s1⟩
    ·have yc:i<jn:=by omega
     have dI:¬i∈(dep[jn]?).getD []:=fun dZ=>by
      have:=rr hd cS jn _ (ac1 (by omega)) (cS jn _ (ac1 (by omega)) bq) i dZ
      rw [dQ] at this;simp at this
     have s1:=(yz jn bI i yc).resolve_left dI
     rw [bS,ho] at s1
     unfold lJ at s1
     simp only [iE,acO,ac8,adu,ac9,bne_iff_ne,ne_eq] at s1
     cases hx:o.dst with
     |none=>rw [hx] at s1;simp at s1;exact ⟨s1,by simp⟩
     |some d2=>
      rw [hx] at s1
      simp at s1
      exact ⟨s1.2,fun h=>s1.1.2 (Option.some.inj h).symm⟩
   refine HK CC hlen cW hid hcs hI m2 ho lL Qt Qu (fun t ht=> ?_) (fun _ hl=>by rw [Qv] at hl;simp at hl) (fun h=>absurd h cq) (fun E1 E2 v hp hE=> ?_) fun a' w' mB=>ih _ a' w' CG CE (.inr ⟨L.setIfInBounds i true,oj,zs,b,bS,dE,hz,getD_set_true bq,fun j=> ?_,mB,CH⟩) CF
   ·unfold oJ
    rw [Bool.and_eq_false_iff]
    left
    cases hx:oj.dst with
    |none=>rfl
    |some d=>
     have:=(HS d hx).1
     simp only [beq_eq_false_iff_ne,ne_eq,acM]
     intro e;subst e;exact this ht
   ·obtain ⟨p1,p2,p3,p4,arr,t0,p5,p6,p7⟩:=hp
    refine ⟨(hE.fx b p1).1,p2,p3,fun t ht hn=> ?_,arr,t0,by rw [(hE.fx b p1).2];exact p5,p6,p7⟩
    rw [<-p4 t ht hn]
    have aJ:=(HS t ht).2
    cases hx:o.dst with
    |none=>rfl
    |some d=>
     rw [hx] at aJ
     have eJ:d≠t:=fun e=>aJ (by rw [e])
     simp only [Act.put]
     simp [aeD,aeO,eJ]
   ·by_cases ej:i=j
    ·subst ej
     have hb:Nat.beq i jn=false:=by
      cases hb:Nat.beq i jn with
      |false=>rfl
      |true=>exact absurd (ac0 hb) cq
     rw [yy (by rw [hI.ja];exact cQ),yy ke,hb];rfl
    ·rw [getD_set_ne false ej,getD_set_ne false ej,hL]
theorem Qx {id:Nat} (BW:P.follows .mixedOrders=true) (eZ:gV P n os σ g k rs hs σ' g' k') (hlen:os.length=ops.size) (fG:∀(j:Nat) op,ops[j]? =some op->∃o,os[j]? =some o/\iI P ops op=some o)
  (hd:kM ops.toList dep=true) (cW:iK os dep=true) (hid:im rs dep=true) (hcs:lP jn rs hs dep=true) (oK:∀o,os[jn]? =some o->ki o=true) (hQ:∀a w,gS E0 J base w0 n σ' g' k' a w->Q .normal a w) {a:Act} (hrel:gS E0 J base w0 n σ g k a w) {rd:Option Nat}:(Code.region id ops true).wpIn (dx rd) 0 P Q a w:=by
 refine wpIn_region_any BW ?_
 obtain ⟨E,rfl,hle,h1,h2,h3,hmk⟩:=hrel.ex
 obtain ⟨E',hw,hE,hM,_,hk,_,_⟩:=h2.drew
 have dw:∀(j:Nat),(Array.replicate ops.size false).getD j false=false:=by
  intro j
  rcases adx j ops.size with h|h
  ·simp [h]
  ·simp [h]
 refine Qo eZ hlen fG hd cW hid hcs oK hQ ops.size _ a _ (by simp) (fun j op cR hl=>by rw [dw] at hl;simp at hl) (.inl ⟨⟨⟨E',hw,hle.trans hE,fun t _=> ?_, ?_,fun id hh=> .inl (h3 id ((hk id).1 hh)),hmk.step hE,trivial⟩,hrel.size,hrel.below.drew,hrel.gl,by simp,fun j hj hl=>by rw [dw] at hl;simp at hl⟩,fun hl=>by rw [dw] at hl;simp at hl⟩) fun m hm dI=> ?_
 ·have:cr n (fun j=>(Array.replicate ops.size false).getD j false) rs σ t=σ t:=mz _ 0 _ fun j r _ hl=>by rw [dw] at hl;simp at hl
  rw [this];exact (h1 t).step hE
 ·have:cp (fun j=>(Array.replicate ops.size false).getD j false) rs g=g:=by funext id;exact mz _ 0 _ fun j r _ hl=>by rw [dw] at hl;simp at hl
  rw [this];exact hM
 ·exact BO _ _ dI fun j hj=>(hm j hj).1
inductive lQ (P:Program) (n:Nat) (dep:List (List Nat)) (jn:Nat):List aL->(Nat->AV)->(Nat->Option Bk)->Nat->List Rec->List (Option Nat)->(Nat->AV)->(Nat->Option Bk)->Nat->Prop
 |nil {σ:Nat->AV} {g:Nat->Option Bk} {k:Nat} {rs:List Rec} {hs:List (Option Nat)} (hid:im rs dep=true) (hcs:lP jn rs hs dep=true):lQ P n dep jn [] σ g k rs hs σ g k
 |cons {o:aL} {os:List aL} {σ σ':Nat->AV} {g g':Nat->Option Bk} {k k1 k':Nat} {val:AV} {ups:List (Nat×Option Bk)} {acc:List Nat} {rs:List Rec} {hs:List (Option Nat)} (h:eR P σ g k o val ups acc) (hk:k<=k1) (hu:∀id,id∈ups.map Prod.fst->id<k1)
   (hr:lQ P n dep jn os (cu n o.dst val σ) (aH g ups) k1 (rs++[⟨o.dst,val,ups,acc,k⟩]) (hs++[none]) σ' g' k'):lQ P n dep jn (o::os) σ g k rs hs σ' g' k'
 |fi {o:aL} {os:List aL} {σ σ':Nat->AV} {g g':Nat->Option Bk} {k k1 k':Nat} {r:AV} {f:FuncId} {as_:List AV} {ups:List (Nat×Option Bk)} {rs:List Rec} {hs:List (Option Nat)} (hg:cx σ o.guard=some true) (hal:o.ao.allocs=false) (h:(o.ao.aq k (aQ σ)).run g=some (.call f as_)) (hc:aY P f=true) (hf:Fi P f as_ g k r (aH g ups) k1) (hk:k<=k1) (hu:∀id,id∈ups.map Prod.fst->id<k1)
   (hr:lQ P n dep jn os (cu n o.dst r σ) (aH g ups) k1 (rs++[⟨o.dst,r,ups,[],k⟩]) (hs++[some k1]) σ' g' k'):lQ P n dep jn (o::os) σ g k rs hs σ' g' k'
theorem lQ.all {pre:List aL} {dD:Nat->AV} {g0:Nat->Option Bk} {kk:Nat} (h0:gV P n pre dD g0 kk rs hs σ g k) (h:lQ P n dep jn os σ g k rs hs σ' g' k'):∃yA lD,gV P n (pre++os) dD g0 kk yA lD σ' g' k'/\im yA dep=true/\lP jn yA lD dep=true:=by
 induction h generalizing pre with
 |nil h1 h2=>exact ⟨_,_,by rw [aeq];exact h0,h1,h2⟩
 | @cons o os σ σ' g g' k k1 k' val ups acc rs hs h hk hu hr ih=>
  have:=ih (pre:=pre++[o]) (h0.snoc h hk hu)
  rwa [ad6] at this
 | @fi o os σ σ' g g' k k1 k' r f as_ ups rs hs hg hal h hc hf hk hu hr ih=>
  have:=ih (pre:=pre++[o]) (h0.P8 hg hal h hc hf hk hu)
  rwa [ad6] at this
theorem EW.Qy {s:S3} {Q:Ex->S3->Prop} {s':S3} (oK:∀o,os[jn]? =some o->ki o=true) (h:lQ P n dep jn os s.σ s.g s.k [] [] s'.σ s'.g s'.k) (hq:Q .normal s'):EW P n k0 (.cy os (some dep)) s Q:=by
 intro rd c E0 J base w0 a w cX hc hk hr
 obtain ⟨id,ops,draw,rfl,h1,h2⟩:=yi hc
 rcases h2 with ⟨rfl,hh⟩|⟨rfl,d,hd,h3,h4,h5⟩
 ·simp at hh
 ·simp only [acM] at hd
  subst hd
  obtain ⟨k1,k2⟩:=uW h1
  obtain ⟨yA,lD,a1,a2,a3⟩:=lQ.all .nil h
  rw [List.nil_append] at a1
  exact Qx h5 a1 (by rw [<-k1];simp) (fun j op hj=>k2 j op (by simpa using hj)) h3 h4 a2 a3 oK (fun a' w' hr'=>⟨.normal,s',hq,rfl,hr'⟩) hr
end
abbrev cl (f:Nat) (as_:List Arg):AO:= .call (.c (.fn f [])) as_
abbrev lq (n k:Nat):AO:= .load (some n) (.s k)
abbrev zi (n:Int):AV:= .v (.int .i64 n)
abbrev zs:AV:= .v (.string ⟨#[]⟩)
abbrev ms (k:Nat):AO:= .mov (.s k)
abbrev fd (a k:Nat):AO:= .fad a (.s k)
abbrev rg (R:List aL):AC:= .cy R none
def cf (P:Program) (k:Nat):ba:=(cFunc P k).getD ⟨0,[], .skip⟩
theorem bw (h:(cFunc P k).isSome=true):cFunc P k=some (cf P k):=by
 unfold cf
 cases hc:cFunc P k with
 |none=>rw [hc] at h;cases h
 |some F=>rfl
noncomputable def F4:ba:=cf Try.prog 4
theorem Qz:cFunc Try.prog 4=some F4:=bw (by kernel_rfl)
theorem QA:aY Try.prog 4=true:=by kernel_rfl
noncomputable def F6:ba:=cf Try.prog 6
theorem QB:cFunc Try.prog 6=some F6:=bw (by kernel_rfl)
theorem QC:aY Try.prog 6=true:=by kernel_rfl
noncomputable def F7:ba:=cf Try.prog 7
theorem QD:cFunc Try.prog 7=some F7:=bw (by kernel_rfl)
theorem QE:aY Try.prog 7=true:=by kernel_rfl
noncomputable def F8:ba:=cf Try.prog 8
theorem QF:cFunc Try.prog 8=some F8:=bw (by kernel_rfl)
theorem QG:aY Try.prog 8=true:=by kernel_rfl
noncomputable def F9:ba:=cf Try.prog 9
theorem QH:cFunc Try.prog 9=some F9:=bw (by kernel_rfl)
theorem QI:aY Try.prog 9=true:=by kernel_rfl
noncomputable def QJ:ba:=cf Try.prog 10
theorem QK:cFunc Try.prog 10=some QJ:=bw (by kernel_rfl)
theorem QL:aY Try.prog 10=true:=by kernel_rfl
noncomputable def QM:ba:=cf Try.prog 11
theorem QN:cFunc Try.prog 11=some QM:=bw (by kernel_rfl)
theorem QO:aY Try.prog 11=true:=by kernel_rfl
noncomputable def QP:ba:=cf Try.prog 12
theorem QQ:cFunc Try.prog 12=some QP:=bw (by kernel_rfl)
theorem QR:aY Try.prog 12=true:=by kernel_rfl
noncomputable def QS:ba:=cf Try.prog 14
theorem QT:cFunc Try.prog 14=some QS:=bw (by kernel_rfl)
theorem QU:aY Try.prog 14=true:=by kernel_rfl
noncomputable def QV:ba:=cf Try.prog 15
theorem QW:cFunc Try.prog 15=some QV:=bw (by kernel_rfl)
theorem QX:aY Try.prog 15=true:=by kernel_rfl
noncomputable def QY:ba:=cf Try.prog 16
theorem QZ:cFunc Try.prog 16=some QY:=bw (by kernel_rfl)
theorem Q0:aY Try.prog 16=true:=by kernel_rfl
noncomputable def Q1:ba:=cf Try.prog 17
theorem Q2:cFunc Try.prog 17=some Q1:=bw (by kernel_rfl)
theorem Q3:aY Try.prog 17=true:=by kernel_rfl
noncomputable def HT:ba:=cf Try.prog 18
theorem HU:cFunc Try.prog 18=some HT:=bw (by kernel_rfl)
theorem HV:aY Try.prog 18=true:=by kernel_rfl
noncomputable def HW:ba:=cf Try.prog 19
theorem Q4:cFunc Try.prog 19=some HW:=bw (by kernel_rfl)
theorem Q5:aY Try.prog 19=true:=by kernel_rfl
noncomputable def HX:ba:=cf Try.prog 20
theorem HY:cFunc Try.prog 20=some HX:=bw (by kernel_rfl)
theorem HZ:aY Try.prog 20=true:=by kernel_rfl
noncomputable def yB:ba:=cf Try.prog 21
theorem CK:cFunc Try.prog 21=some yB:=bw (by kernel_rfl)
theorem CL:aY Try.prog 21=true:=by kernel_rfl
noncomputable def H0:ba:=cf Try.prog 22
theorem H3:cFunc Try.prog 22=some H0:=bw (by kernel_rfl)
theorem H4:aY Try.prog 22=true:=by kernel_rfl
noncomputable def Q6:ba:=cf Try.prog 23
theorem Q7:cFunc Try.prog 23=some Q6:=bw (by kernel_rfl)
theorem Q8:aY Try.prog 23=true:=by kernel_rfl
noncomputable def Q9:ba:=cf Try.prog 24
theorem Ra:cFunc Try.prog 24=some Q9:=bw (by kernel_rfl)
theorem Rb:aY Try.prog 24=true:=by kernel_rfl
noncomputable def Rc:ba:=cf Try.prog 25
theorem Rd:cFunc Try.prog 25=some Rc:=bw (by kernel_rfl)
theorem Re:aY Try.prog 25=true:=by kernel_rfl
noncomputable def Rf:ba:=cf Try.prog 26
theorem Rg:cFunc Try.prog 26=some Rf:=bw (by kernel_rfl)
theorem Ri:aY Try.prog 26=true:=by kernel_rfl
noncomputable def Rj:ba:=cf Try.prog 27
theorem Rk:cFunc Try.prog 27=some Rj:=bw (by kernel_rfl)
theorem Rl:aY Try.prog 27=true:=by kernel_rfl
noncomputable def Rm:ba:=cf Try.prog 28
theorem Rn:cFunc Try.prog 28=some Rm:=bw (by kernel_rfl)
theorem Ro:aY Try.prog 28=true:=by kernel_rfl
noncomputable def Rp:ba:=cf Try.prog 29
theorem Rq:cFunc Try.prog 29=some Rp:=bw (by kernel_rfl)
theorem Rr:aY Try.prog 29=true:=by kernel_rfl
noncomputable def Rs:ba:=cf Try.prog 30
theorem Rt:cFunc Try.prog 30=some Rs:=bw (by kernel_rfl)
theorem Ru:aY Try.prog 30=true:=by kernel_rfl
noncomputable def Rv:ba:=cf Try.prog 31
theorem Rw:cFunc Try.prog 31=some Rv:=bw (by kernel_rfl)
theorem Rx:aY Try.prog 31=true:=by kernel_rfl
noncomputable def Ry:ba:=cf Try.prog 32
theorem Rz:cFunc Try.prog 32=some Ry:=bw (by kernel_rfl)
theorem RA:aY Try.prog 32=true:=by kernel_rfl
noncomputable def RB:ba:=cf Try.prog 33
theorem RF:cFunc Try.prog 33=some RB:=bw (by kernel_rfl)
theorem RG:aY Try.prog 33=true:=by kernel_rfl
noncomputable def RH:ba:=cf Try.prog 34
theorem RI:cFunc Try.prog 34=some RH:=bw (by kernel_rfl)
theorem RJ:aY Try.prog 34=true:=by kernel_rfl
noncomputable def RL:ba:=cf Try.prog 35
theorem RN:cFunc Try.prog 35=some RL:=bw (by kernel_rfl)
theorem RO:aY Try.prog 35=true:=by kernel_rfl
noncomputable def RP:ba:=cf Try.prog 36
theorem RQ:cFunc Try.prog 36=some RP:=bw (by kernel_rfl)
theorem RR:aY Try.prog 36=true:=by kernel_rfl
noncomputable def RS:ba:=cf Try.prog 37
theorem RT:cFunc Try.prog 37=some RS:=bw (by kernel_rfl)
theorem RU:aY Try.prog 37=true:=by kernel_rfl
noncomputable def RV:ba:=cf Try.prog 38
theorem RW:cFunc Try.prog 38=some RV:=bw (by kernel_rfl)
theorem RX:aY Try.prog 38=true:=by kernel_rfl
noncomputable def CM:ba:=cf Try.prog 39
theorem H5:cFunc Try.prog 39=some CM:=bw (by kernel_rfl)
theorem H6:aY Try.prog 39=true:=by kernel_rfl
noncomputable def H7:ba:=cf Try.prog 40
theorem RY:cFunc Try.prog 40=some H7:=bw (by kernel_rfl)
theorem RZ:aY Try.prog 40=true:=by kernel_rfl
noncomputable def H8:ba:=cf Try.prog 41
theorem R5:cFunc Try.prog 41=some H8:=bw (by kernel_rfl)
theorem R6:aY Try.prog 41=true:=by kernel_rfl
noncomputable def R7:ba:=cf Try.prog 42
theorem R8:cFunc Try.prog 42=some R7:=bw (by kernel_rfl)
theorem R9:aY Try.prog 42=true:=by kernel_rfl
noncomputable def Sa:ba:=cf Try.prog 43
theorem Sb:cFunc Try.prog 43=some Sa:=bw (by kernel_rfl)
theorem Sc:aY Try.prog 43=true:=by kernel_rfl
noncomputable def H9:ba:=cf Try.prog 44
theorem Ia:cFunc Try.prog 44=some H9:=bw (by kernel_rfl)
theorem Ib:aY Try.prog 44=true:=by kernel_rfl
noncomputable def Sd:ba:=cf Try.prog 45
theorem Se:cFunc Try.prog 45=some Sd:=bw (by kernel_rfl)
theorem Sf:aY Try.prog 45=true:=by kernel_rfl
noncomputable def Sg:ba:=cf Try.prog 46
theorem Sh:cFunc Try.prog 46=some Sg:=bw (by kernel_rfl)
theorem Si:aY Try.prog 46=true:=by kernel_rfl
noncomputable def Sj:ba:=cf Try.prog 47
theorem Sk:cFunc Try.prog 47=some Sj:=bw (by kernel_rfl)
theorem Sl:aY Try.prog 47=true:=by kernel_rfl
noncomputable def Sm:ba:=cf Try.prog 48
theorem Ic:cFunc Try.prog 48=some Sm:=bw (by kernel_rfl)
theorem Ie:aY Try.prog 48=true:=by kernel_rfl
noncomputable def Sn:ba:=cf Try.prog 49
theorem So:cFunc Try.prog 49=some Sn:=bw (by kernel_rfl)
theorem Sp:aY Try.prog 49=true:=by kernel_rfl
noncomputable def Sq:ba:=cf Try.prog 50
theorem Sr:cFunc Try.prog 50=some Sq:=bw (by kernel_rfl)
theorem Ss:aY Try.prog 50=true:=by kernel_rfl
noncomputable def yC:ba:=cf Try.prog 51
theorem CN:cFunc Try.prog 51=some yC:=bw (by kernel_rfl)
theorem CO:aY Try.prog 51=true:=by kernel_rfl
noncomputable def St:ba:=cf Try.prog 52
theorem Su:cFunc Try.prog 52=some St:=bw (by kernel_rfl)
theorem Sv:aY Try.prog 52=true:=by kernel_rfl
noncomputable def Sw:ba:=cf Try.prog 53
theorem Sx:cFunc Try.prog 53=some Sw:=bw (by kernel_rfl)
theorem Sy:aY Try.prog 53=true:=by kernel_rfl
noncomputable def Sz:ba:=cf Try.prog 54
theorem SA:cFunc Try.prog 54=some Sz:=bw (by kernel_rfl)
theorem SC:aY Try.prog 54=true:=by kernel_rfl
noncomputable def SD:ba:=cf Try.prog 55
theorem SE:cFunc Try.prog 55=some SD:=bw (by kernel_rfl)
theorem SF:aY Try.prog 55=true:=by kernel_rfl
noncomputable def SG:ba:=cf Try.prog 57
theorem SH:cFunc Try.prog 57=some SG:=bw (by kernel_rfl)
theorem SI:aY Try.prog 57=true:=by kernel_rfl
noncomputable def SJ:ba:=cf Try.prog 58
theorem SK:cFunc Try.prog 58=some SJ:=bw (by kernel_rfl)
theorem SL:aY Try.prog 58=true:=by kernel_rfl
noncomputable def SM:ba:=cf Try.prog 59
theorem SN:cFunc Try.prog 59=some SM:=bw (by kernel_rfl)
theorem SO:aY Try.prog 59=true:=by kernel_rfl
noncomputable def SP:ba:=cf Try.prog 60
theorem SQ:cFunc Try.prog 60=some SP:=bw (by kernel_rfl)
theorem SU:aY Try.prog 60=true:=by kernel_rfl
noncomputable def SW:ba:=cf Try.prog 61
theorem SX:cFunc Try.prog 61=some SW:=bw (by kernel_rfl)
theorem SY:aY Try.prog 61=true:=by kernel_rfl
noncomputable def SZ:ba:=cf Try.prog 62
theorem S0:cFunc Try.prog 62=some SZ:=bw (by kernel_rfl)
theorem S1:aY Try.prog 62=true:=by kernel_rfl
noncomputable def CP:ba:=cf Try.prog 63
theorem yD:cFunc Try.prog 63=some CP:=bw (by kernel_rfl)
theorem yE:aY Try.prog 63=true:=by kernel_rfl
noncomputable def S2:ba:=cf Try.prog 64
theorem S4:cFunc Try.prog 64=some S2:=bw (by kernel_rfl)
theorem S5:aY Try.prog 64=true:=by kernel_rfl
theorem S6:aY Try.prog 65=true:=by kernel_rfl
theorem S7:aY Try.prog 66=true:=by kernel_rfl
noncomputable def S8:ba:=cf Try.prog 73
theorem S9:cFunc Try.prog 73=some S8:=bw (by kernel_rfl)
theorem Ta:aY Try.prog 73=true:=by kernel_rfl
noncomputable def Tb:ba:=cf Try.prog 74
theorem Td:cFunc Try.prog 74=some Tb:=bw (by kernel_rfl)
theorem Te:aY Try.prog 74=true:=by kernel_rfl
noncomputable def Tf:ba:=cf Try.prog 75
theorem Tg:cFunc Try.prog 75=some Tf:=bw (by kernel_rfl)
theorem Th:aY Try.prog 75=true:=by kernel_rfl
noncomputable def Ig:ba:=cf Try.prog 76
theorem Ti:cFunc Try.prog 76=some Ig:=bw (by kernel_rfl)
theorem Tj:aY Try.prog 76=true:=by kernel_rfl
noncomputable def Tk:ba:=cf Try.prog 77
theorem Tl:cFunc Try.prog 77=some Tk:=bw (by kernel_rfl)
theorem Tm:aY Try.prog 77=true:=by kernel_rfl
noncomputable def Ih:ba:=cf Try.prog 78
theorem Tn:cFunc Try.prog 78=some Ih:=bw (by kernel_rfl)
theorem To:aY Try.prog 78=true:=by kernel_rfl
noncomputable def Tp:ba:=cf Try.prog 79
theorem Tq:cFunc Try.prog 79=some Tp:=bw (by kernel_rfl)
theorem Tr:aY Try.prog 79=true:=by kernel_rfl
noncomputable def Ii:ba:=cf Try.prog 87
theorem Ts:cFunc Try.prog 87=some Ii:=bw (by kernel_rfl)
theorem Tt:aY Try.prog 87=true:=by kernel_rfl
noncomputable def Tu:ba:=cf Try.prog 88
theorem Tv:cFunc Try.prog 88=some Tu:=bw (by kernel_rfl)
theorem Tw:aY Try.prog 88=true:=by kernel_rfl
noncomputable def Ij:ba:=cf Try.prog 89
theorem Tx:cFunc Try.prog 89=some Ij:=bw (by kernel_rfl)
theorem Ty:aY Try.prog 89=true:=by kernel_rfl
noncomputable def Ik:ba:=cf Try.prog 90
theorem Tz:cFunc Try.prog 90=some Ik:=bw (by kernel_rfl)
theorem TA:aY Try.prog 90=true:=by kernel_rfl
noncomputable def Il:ba:=cf Try.prog 91
theorem TB:cFunc Try.prog 91=some Il:=bw (by kernel_rfl)
theorem TC:aY Try.prog 91=true:=by kernel_rfl
noncomputable def TF:ba:=cf Try.prog 95
theorem TG:cFunc Try.prog 95=some TF:=bw (by kernel_rfl)
theorem TH:aY Try.prog 95=true:=by kernel_rfl
def xt (a:UInt8):UInt8:=if a>127 then (a<<<1)^^^29 else a<<<1
def gm:Nat->UInt8->UInt8->UInt8->UInt8
 |0,_,_,o=>o
 |n+1,a,b,o=>gm n (xt a) (b>>>1) (if b&&&1=0 then o else o^^^a)
def aW (a b:UInt8):UInt8:=gm 8 a b 0
theorem CQ (a b c:UInt8):a^^^(b^^^c)=b^^^(a^^^c):=by rw [<-ael,aeG a b,ael]
theorem CR (a b:UInt8):a^^^(a^^^b)=b:=by rw [<-ael,UInt8.xor_self,UInt8.zero_xor]
theorem Im (a b c:UInt8):(a^^^b)&&&c=(a&&&c)^^^(b&&&c):=by
 apply UInt8.eq_of_toBitVec_eq
 simp only [UInt8.toBitVec_and,UInt8.toBitVec_xor]
 ext i
 simp only [BitVec.getElem_and,BitVec.getElem_xor]
 cases a.toBitVec[i]<;>cases b.toBitVec[i]<;>cases c.toBitVec[i]<;>rfl
theorem TI (a b c:UInt8):(a^^^b)<<<c=(a<<<c)^^^(b<<<c):=by
 apply UInt8.eq_of_toBitVec_eq
 simp only [UInt8.toBitVec_shiftLeft,UInt8.toBitVec_xor]
 exact BitVec.shiftLeft_xor_distrib ..
theorem TJ (a b c:UInt8):(a^^^b)>>>c=(a>>>c)^^^(b>>>c):=by
 apply UInt8.eq_of_toBitVec_eq
 simp only [UInt8.toBitVec_shiftRight,UInt8.toBitVec_xor]
 exact BitVec.ushiftRight_xor_distrib ..
theorem lR (p:UInt8->Bool) (h:(List.range 256).all (fun n=>p (UInt8.ofNat n))=true) (a:UInt8):p a=true:=by
 rw [acQ] at h
 have:=h a.toNat (adl.2 a.toNat_lt)
 simpa using this
theorem Io (a b:UInt8):xt (a^^^b)=xt a^^^xt b:=by
 have h1:∀c:UInt8,xt c=(c<<<1)^^^(if c&&&128=0 then 0 else 29):=fun c=>by
  have:=lR (fun c=>xt c==(c<<<1)^^^(if c&&&128=0 then 0 else 29)) (by decide+kernel) c
  simpa using this
 have h3:∀c:UInt8,c&&&128=0\/c&&&128=128:=fun c=>by
  have:=lR (fun c=>c&&&128==0||c&&&128==128) (by decide+kernel) c
  simpa using this
 rw [h1,h1 a,h1 b]
 have h2:(a^^^b)&&&128=(a&&&128)^^^(b&&&128):=Im ..
 have h4:(a^^^b)<<<1=(a<<<1)^^^(b<<<1):=TI ..
 rw [h2,h4]
 rcases h3 a with ha|ha<;>rcases h3 b with hb|hb<;>rw [ha,hb]<;>simp [ael,aeG,CQ]
theorem Ip (n:Nat):∀a o,gm n a 0 o=o:=by
 induction n with
 |zero=>intros;rfl
 |succ n ih=>intro a o;simp only [gm];simpa using ih _ _
theorem CS (a b c d:UInt8):(a^^^b)^^^(c^^^d)=(a^^^c)^^^(b^^^d):=by
 simp [ael,CQ]
theorem TK (n:Nat):∀a a' b o o',gm n (a^^^a') b (o^^^o')=gm n a b o^^^gm n a' b o':=by
 induction n with
 |zero=>intros;rfl
 |succ n ih=>
  intro a a' b o o'
  simp only [gm,Io]
  by_cases h:b&&&1=0
  ·simp only [h,acP];exact ih ..
  ·simp only [h,adi];rw [CS];exact ih ..
theorem TL (n:Nat):∀a b b' o o',gm n a (b^^^b') (o^^^o')=gm n a b o^^^gm n a b' o':=by
 have h3:∀c:UInt8,c&&&1=0\/c&&&1=1:=fun c=>by
  have:=lR (fun c=>c&&&1==0||c&&&1==1) (by decide+kernel) c
  simpa using this
 induction n with
 |zero=>intros;rfl
 |succ n ih=>
  intro a b b' o o'
  simp only [gm]
  have h2:(b^^^b')&&&1=(b&&&1)^^^(b'&&&1):=Im ..
  have h4:(b^^^b')>>>1=(b>>>1)^^^(b'>>>1):=TJ ..
  rw [h2,h4, <-ih]
  congr 1
  rcases h3 b with hb|hb<;>rcases h3 b' with bM|bM<;>rw [hb,bM]<;>simp [aeG,CQ,CR]
theorem TM (n:Nat):∀a b o,gm n (xt a) b (xt o)=xt (gm n a b o):=by
 induction n with
 |zero=>intros;rfl
 |succ n ih=>
  intro a b o
  simp only [gm]
  by_cases h:b&&&1=0
  ·simp only [h,acP];exact ih ..
  ·simp only [h,adi];rw [<-Io];exact ih ..
theorem yF (a a' b:UInt8):aW (a^^^a') b=aW a b^^^aW a' b:=by
 have:=TK 8 a a' b 0 0;simpa [aW] using this
theorem qe (a b b':UInt8):aW a (b^^^b')=aW a b^^^aW a b':=by
 have:=TL 8 a b b' 0 0;simpa [aW] using this
theorem TN (a b:UInt8):aW (xt a) b=xt (aW a b):=TM 8 a b 0
theorem kP (a:UInt8):aW a 0=0:=Ip 8 a 0
theorem yG (a:UInt8):aW 1 a=a:=by
 have:=lR (fun c=>aW 1 c==c) (by decide+kernel) a
 simpa using this
def cz:Nat->UInt8->UInt8
 |0,a=>a
 |n+1,a=>xt (cz n a)
theorem Iq (n:Nat) (a b:UInt8):aW (cz n a) b=cz n (aW a b):=by
 induction n with
 |zero=>rfl
 |succ n ih=>simp only [cz,TN,ih]
theorem Ir (n:Nat) (b:UInt8):aW (cz n 1) b=cz n b:=by rw [Iq,yG]
theorem Is (P:UInt8->Prop) (h0:P 0) (hp:∀n,n<8->P (cz n 1)) (hx:∀a b,P a->P b->P (a^^^b)) (a:UInt8):P a:=by
 have hb:∀n,n<8->P (a&&&cz n 1):=fun n hn=>by
  have:a&&&cz n 1=0\/a&&&cz n 1=cz n 1:=by
   have:=lR (fun c=>(List.range 8).all fun n=>c&&&cz n 1==0||c&&&cz n 1==cz n 1) (by decide+kernel) a
   rw [acQ] at this
   simpa using this n (adl.2 hn)
  rcases this with h|h<;>rw [h]
  ·exact h0
  ·exact hp n hn
 have he:a=(a&&&cz 0 1)^^^((a&&&cz 1 1)^^^((a&&&cz 2 1)^^^((a&&&cz 3 1)^^^((a&&&cz 4 1)^^^((a&&&cz 5 1)^^^((a&&&cz 6 1)^^^(a&&&cz 7 1))))))):=by
  have:=lR (fun a=>a==(a&&&cz 0 1)^^^((a&&&cz 1 1)^^^((a&&&cz 2 1)^^^((a&&&cz 3 1)^^^((a&&&cz 4 1)^^^((a&&&cz 5 1)^^^((a&&&cz 6 1)^^^(a&&&cz 7 1)))))))) (by decide+kernel) a
  simpa using this
 rw [he]
 refine hx _ _ (hb 0 (by omega)) (hx _ _ (hb 1 (by omega)) (hx _ _ (hb 2 (by omega)) (hx _ _ (hb 3 (by omega)) (hx _ _ (hb 4 (by omega)) (hx _ _ (hb 5 (by omega)) (hx _ _ (hb 6 (by omega)) (hb 7 (by omega))))))))
theorem CT (a:UInt8) (n:Nat) (hn:n<8):aW a (cz n 1)=cz n a:=by
 have:n=0\/n=1\/n=2\/n=3\/n=4\/n=5\/n=6\/n=7:=by omega
 have h:=lR (fun c=>(List.range 8).all fun n=>aW c (cz n 1)==cz n c) (by decide+kernel) a
 rw [acQ] at h
 simpa using h n (adl.2 hn)
theorem vj (a:UInt8):aW 0 a=0:=by
 have:=yF 0 0 a
 simpa using this
theorem qf (a b:UInt8):aW a b=aW b a:=by
 refine Is (fun b=>aW a b=aW b a) ?_ ?_ ?_ b
 ·rw [kP,vj]
 ·intro n hn;rw [CT a n hn,Ir]
 ·intro x y hx hy;rw [qe,yF,hx,hy]
theorem qg (a b c:UInt8):aW (aW a b) c=aW a (aW b c):=by
 refine Is (fun c=>aW (aW a b) c=aW a (aW b c)) ?_ ?_ ?_ c
 ·rw [kP,kP,kP]
 ·intro n hn
  rw [CT _ n hn,CT _ n hn,qf a (cz n b),Iq,qf b]
 ·intro x y hx hy;rw [qe,qe,qe,hx,hy]
theorem It (a:UInt8):aW a 1=a:=by rw [qf,yG]
def pw (n:Nat):UInt8:=cz n 1
theorem CU (n m:Nat) (a:UInt8):cz (n+m) a=cz n (cz m a):=by
 induction n with
 |zero=>simp [cz]
 |succ n ih=>rw [Nat.succ_add];simp only [cz,ih]
theorem TO (i j:Nat):aW (pw i) (pw j)=pw (i+j):=by rw [pw,Ir,pw,pw,CU]
theorem TP:cz 255 1=1:=by decide+kernel
theorem TQ (n:Nat):pw (n+255)=pw n:=by rw [pw,CU,TP,pw]
theorem TR (n:Nat):pw (n%255)=pw n:=by
 have h:∀k m,pw (m+255*k)=pw m:=by
  intro k
  induction k with
  |zero=>intro m;rfl
  |succ k ih=>intro m;rw [show m+255*(k+1)=m+255*k+255 by omega,TQ,ih]
 rw [<-h (n / 255) (n%255)]
 congr 1
 omega
theorem TS (a:UInt8) (h:a≠0):xt a≠0:=by
 have:=lR (fun c=>c==0||xt c !=0) (by decide+kernel) a
 simp only [adg,beq_iff_eq,bne_iff_ne] at this
 rcases this with h'|h'
 ·exact absurd h' h
 ·exact h'
theorem TT (n:Nat):pw n≠0:=by
 induction n with
 |zero=>decide
 |succ n ih=>exact TS _ ih
def qh:Nat->UInt8->List UInt8
 |0,_=>[]
 |n+1,x=>x::qh n (xt x)
theorem CV (n:Nat):∀(x:UInt8) (i:Nat),i<n->(qh n x)[i]? =some (cz i x):=by
 induction n with
 |zero=>intro x i h;omega
 |succ n ih=>
  intro x i h
  cases i with
  |zero=>rfl
  |succ i=>
   simp only [qh,adA]
   rw [ih _ _ (by omega)]
   have:cz (i+1) x=cz i (xt x):=by rw [CU i 1 x];rfl
   rw [this]
theorem CW (n:Nat):∀x,(qh n x).length=n:=by
 induction n with
 |zero=>intro;rfl
 |succ n ih=>intro x;simp [qh,ih]
theorem TU:(qh 255 1).Nodup:=by decide+kernel
theorem TV (a:UInt8) (h:a≠0):a∈qh 255 1:=by
 have:=lR (fun c=>c==0||(qh 255 1).elem c) (by decide+kernel) a
 simp only [adg,beq_iff_eq] at this
 rcases this with h'|h'
 ·exact absurd h' h
 ·simpa using h'
theorem TW (i j:Nat) (hi:i<255) (hj:j<255) (h:pw i=pw j):i=j:=by
 have h1:=CV 255 1 i hi
 have h2:=CV 255 1 j hj
 have h3:cz i 1=cz j 1:=h
 exact (List.getElem?_inj (by rw [CW];exact hi) TU).1 (by rw [h1,h2,h3])
def mG:Nat->UInt8->Nat
 |0,_=>0
 |k+1,a=>if pw k=a then k else mG k a
def lg (a:UInt8):Nat:=mG 255 a
theorem TX (k:Nat):∀i,i<k->k<=255->mG k (pw i)=i:=by
 induction k with
 |zero=>intro i h;omega
 |succ k ih=>
  intro i h hk
  simp only [mG]
  split
  ·rename_i he;exact TW _ _ (by omega) (by omega) he
  ·rename_i he
   have:i≠k:=by rintro rfl;exact he rfl
   exact ih i (by omega) (by omega)
theorem TY (i:Nat) (h:i<255):lg (pw i)=i:=TX 255 i h (acV _)
theorem TZ (a:UInt8) (h:a≠0):pw (lg a)=a/\lg a<255:=by
 obtain ⟨i,hi,he⟩:=ad5 (TV a h)
 rw [CW] at hi
 have h1:=CV 255 1 i hi
 have h2:pw i=a:=by
  rw [acT (by rw [CW];exact hi)] at h1
  simp only [acM] at h1
  rw [pw, <-h1,he]
 rw [<-h2,TY i hi]
 exact ⟨rfl,hi⟩
theorem T0 (k:Nat) (hk:0<k) (a:UInt8):mG k a<k:=by
 induction k with
 |zero=>omega
 |succ k ih=>
  simp only [mG]
  split
  ·omega
  ·rcases aec k with rfl|h
   ·simp [mG]
   ·have:=ih h;omega
theorem Iu (a:UInt8):lg a<255:=T0 255 (by omega) a
def kQ (n:Int):UInt8:=pw (n%255).toNat
theorem T1 (n m:Int):kQ (n+m)=aW (kQ n) (kQ m):=by
 rw [kQ,kQ,kQ,TO, <-TR (((n%255).toNat)+_)]
 congr 1
 omega
theorem T2 (a:UInt8) (h:a≠0):kQ (lg a)=a:=by
 have:=Iu a
 rw [kQ,show ((lg a:Int)%255).toNat=lg a by omega,(TZ a h).1]
def iu (a:UInt8):UInt8:=kQ (-(lg a:Int))
theorem Iv (a:UInt8) (h:a≠0):aW (iu a) a=1:=by
 have h2:=T2 a h
 have h3:aW (kQ (-(lg a:Int))) (kQ (lg a))=1:=by
  rw [<-T1,show -(lg a:Int)+lg a=0 by omega];rfl
 rw [h2] at h3
 exact h3
theorem Iw (a:UInt8) (h:a≠0):aW a (iu a)=1:=by rw [qf,Iv a h]
theorem T3 (a b:UInt8):aW a b=0↔a=0\/b=0:=by
 constructor
 ·intro h
  by_cases ha:a=0
  ·exact .inl ha
  ·right
   have:aW (iu a) (aW a b)=b:=by rw [<-qg,Iv a ha,yG]
   rw [<-this,h,kP]
 ·rintro (rfl|rfl)
  ·exact vj _
  ·exact kP _
theorem T4 (a:UInt8):iu a≠0:=TT _
def sg:Nat->(Nat->UInt8)->UInt8
 |0,_=>0
 |n+1,f=>sg n f^^^f n
theorem oL:∀{n:Nat} {f g:Nat->UInt8},(∀i,i<n->f i=g i)->sg n f=sg n g
 |0,_,_,_=>rfl
 |n+1,f,g,h=>by simp only [sg];rw [oL fun i hi=>h i (by omega),h n (by omega)]
theorem CX:∀(n:Nat) (f g:Nat->UInt8),sg n (fun i=>f i^^^g i)=sg n f^^^sg n g
 |0,_,_=>by simp [sg]
 |n+1,f,g=>by simp only [sg,CX n f g];exact CS _ _ _ _
theorem yH (c:UInt8):∀(n:Nat) (f:Nat->UInt8),sg n (fun i=>aW c (f i))=aW c (sg n f)
 |0,_=>by simp [sg,kP]
 |n+1,f=>by simp only [sg,yH c n f,qe]
theorem Ix (c:UInt8) (n:Nat) (f:Nat->UInt8):sg n (fun i=>aW (f i) c)=aW (sg n f) c:=by
 rw [qf, <-yH];exact oL fun i _=>qf _ _
theorem Iy:∀{n:Nat} {f:Nat->UInt8},(∀i,i<n->f i=0)->sg n f=0
 |0,_,_=>rfl
 |n+1,f,h=>by simp only [sg];rw [Iy fun i hi=>h i (by omega),h n (by omega)];rfl
theorem Iz (k:Nat) (x:Nat->UInt8):∀n,sg n (fun i=>if i=k then x i else 0)=if k<n then x k else 0
 |0=>by simp [sg]
 |n+1=>by
  simp only [sg,Iz k x n]
  by_cases h:n=k
  ·subst h;simp
  ·rw [acL h]
   by_cases h2:k<n
   ·rw [acN h2,acN (by omega)];simp
   ·rw [acL h2,acL (by omega)];rfl
theorem IA:∀(n m:Nat) (f:Nat->Nat->UInt8),sg n (fun i=>sg m fun j=>f i j)=sg m fun j=>sg n fun i=>f i j
 |0,m,f=>by simp only [sg];exact (Iy fun _ _=>rfl).symm
 |n+1,m,f=>by simp only [sg,IA n m f,CX]
def skip (p j:Nat):Nat:=if j<p then j else j+1
abbrev Mx:=Nat->Nat->UInt8
variable {A R:Mx}
def mm (k:Nat) (A B:Mx):Mx:=fun i j=>sg k fun t=>aW (A i t) (B t j)
theorem CY {A' B B':Mx} (h1:∀t,t<k->A i t=A' i t) (h2:∀t,t<k->B t j=B' t j):mm k A B i j=mm k A' B' i j:=oL fun t ht=>by rw [h1 t ht,h2 t ht]
theorem IB (k l:Nat) (A B C:Mx) (i j:Nat):mm l (mm k A B) C i j=mm k A (mm l B C) i j:=by
 unfold mm
 have e1:sg l (fun t=>aW (sg k fun u=>aW (A i u) (B u t)) (C t j))=sg l (fun t=>sg k fun u=>aW (A i u) (aW (B u t) (C t j))):=oL fun t _=>by
  rw [<-Ix];exact oL fun u _=>qg _ _ _
 have e2:sg k (fun u=>aW (A i u) (sg l fun t=>aW (B u t) (C t j)))=sg k (fun u=>sg l fun t=>aW (A i u) (aW (B u t) (C t j))):=oL fun u _=>(yH _ _ _).symm
 rw [e1,e2,IA]
def nu:Mx:=fun i j=>if i=j then 1 else 0
theorem nv (A:Mx) (h:i<n):mm n nu A i j=A i j:=by
 unfold mm nu
 have e:sg n (fun t=>aW (if i=t then 1 else 0) (A t j))=sg n (fun t=>if t=i then A t j else 0):=oL fun t _=>by
  by_cases ht:i=t
  ·subst ht;simp [yG]
  ·rw [acL ht,acL (fun hh=>ht hh.symm),vj]
 rw [e,Iz i (fun t=>A t j),acN h]
def ew (R:Mx) (a b:Nat):Mx:=fun i j=>if i=a then R b j else if i=b then R a j else R i j
def gW (R:Mx) (a:Nat) (f:UInt8):Mx:=fun i j=>if i=a then aW (R a j) f else R i j
def elimM (w:Nat->UInt8) (d:Nat) (R:Mx):Mx:=fun i j=>if i=d then R d j else R i j^^^aW (w i) (R d j)
theorem T5 (n a b:Nat) (X R:Mx) (i j:Nat):mm n (ew X a b) R i j=ew (mm n X R) a b i j:=by
 unfold ew mm
 by_cases h1:i=a
 ·simp only [acN h1]
 ·by_cases h2:i=b
  ·simp only [acL h1,acN h2]
  ·simp only [acL h1,acL h2]
theorem T6 (n a:Nat) (f:UInt8) (X R:Mx) (i j:Nat):mm n (gW X a f) R i j=gW (mm n X R) a f i j:=by
 unfold gW mm
 by_cases h1:i=a
 ·simp only [acN h1]
  rw [<-Ix]
  exact oL fun t _=>by rw [qg,qf f, <-qg]
 ·simp only [acL h1]
theorem T7 (n d:Nat) (w:Nat->UInt8) (X R:Mx) (i j:Nat):mm n (elimM w d X) R i j=elimM w d (mm n X R) i j:=by
 unfold elimM mm
 by_cases h1:i=d
 ·simp only [acN h1]
 ·simp only [acL h1]
  rw [<-yH, <-CX]
  exact oL fun t _=>by rw [yF,qg]
def RE (n:Nat) (A R:Mx):Prop:=∃P Q:Mx,(∀i j,i<n->R i j=mm n P A i j)/\∀i j,i<n->A i j=mm n Q R i j
theorem RE.refl (n:Nat) (A:Mx):RE n A A:=⟨nu,nu,fun i j h=>(nv A h).symm,fun i j h=>(nv A h).symm⟩
theorem RE.trans {B C:Mx} (h:RE n A B) (k:RE n B C):RE n A C:=by
 obtain ⟨P,Q,h1,h2⟩:=h
 obtain ⟨S,T,k1,k2⟩:=k
 refine ⟨mm n S P,mm n Q T,fun i j hi=> ?_,fun i j hi=> ?_⟩
 ·rw [k1 i j hi,IB];exact CY (fun _ _=>rfl) fun t ht=>h1 t j ht
 ·rw [h2 i j hi,IB];exact CY (fun _ _=>rfl) fun t ht=>k2 t j ht
theorem RE.congr {R':Mx} (h:RE n A R) (e:∀i j,i<n->R' i j=R i j):RE n A R':=by
 obtain ⟨P,Q,h1,h2⟩:=h
 exact ⟨P,Q,fun i j hi=>(e i j hi).trans (h1 i j hi),fun i j hi=>(h2 i j hi).trans (CY (fun _ _=>rfl) fun t ht=>(e t j ht).symm)⟩
theorem RE.swap {a b:Nat} (h:RE n A R) (ha:a<n) (hb:b<n):RE n A (ew R a b):=by
 have one:∀R i j,i<n->ew R a b i j=mm n (ew nu a b) R i j:=fun R i j hi=>by
  rw [T5];unfold ew
  by_cases h1:i=a
  ·simp only [acN h1];exact (nv R hb).symm
  ·by_cases h2:i=b
   ·simp only [acL h1,acN h2];exact (nv R ha).symm
   ·simp only [acL h1,acL h2];exact (nv R hi).symm
 refine h.trans ⟨_,ew nu a b,fun i j hi=>one R i j hi,fun i j hi=> ?_⟩
 rw [<-one _ i j hi]
 unfold ew
 by_cases h1:i=a
 ·subst h1;simp only [acN rfl]
  by_cases h2:b=i
  ·subst h2;simp
  ·rw [acL h2];simp
 ·by_cases h2:i=b
  ·subst h2;rw [acL h1,acN rfl,acN rfl]
  ·rw [acL h1,acL h2,acL h1,acL h2]
theorem RE.scale {a:Nat} {f:UInt8} (h:RE n A R) (ha:a<n) (hf:f≠0):RE n A (gW R a f):=by
 have one:∀R f i j,i<n->gW R a f i j=mm n (gW nu a f) R i j:=fun R f i j hi=>by
  rw [T6];unfold gW
  by_cases h1:i=a
  ·simp only [acN h1];rw [nv R ha]
  ·simp only [acL h1];exact (nv R hi).symm
 refine h.trans ⟨_,gW nu a (iu f),fun i j hi=>one R f i j hi,fun i j hi=> ?_⟩
 rw [<-one _ _ i j hi]
 unfold gW
 by_cases h1:i=a
 ·subst h1;rw [acN rfl,acN rfl,qg,Iw f hf,It]
 ·rw [acL h1,acL h1]
theorem RE.elim {w:Nat->UInt8} (h:RE n A R) (hd:d<n):RE n A (elimM w d R):=by
 have one:∀R i j,i<n->elimM w d R i j=mm n (elimM w d nu) R i j:=fun R i j hi=>by
  rw [T7];unfold elimM
  by_cases h1:i=d
  ·simp only [acN h1];exact (nv R hd).symm
  ·simp only [acL h1];rw [nv R hi,nv R hd]
 refine h.trans ⟨_,elimM w d nu,fun i j hi=>one R i j hi,fun i j hi=> ?_⟩
 rw [<-one _ i j hi]
 unfold elimM
 by_cases h1:i=d
 ·subst h1;rw [acN rfl,acN rfl]
 ·rw [acL h1,acL h1,acN rfl,ael,UInt8.xor_self,UInt8.xor_zero]
structure qi (n:Nat) (R:Mx) (c d:Nat) (p:Nat->Nat):Prop where
 dn:d<=n
 pc:∀t,t<d->p t<c
 up:∀s t,s<t->t<d->p s<p t
 one:∀t i,t<d->i<n->R i (p t)=if i=t then 1 else 0
 zero:∀i j,d<=i->i<n->j<c->R i j=0
theorem T8 (n:Nat) (R:Mx):qi n R 0 0 fun _=>0:=⟨by omega,fun t h=>by omega,fun s t _ h=>by omega,fun t i h=>by omega,fun i j _ _ h=>by omega⟩
theorem T9 (h:qi n R c d p) (hz:∀i,d<=i->i<n->R i c=0):qi n R (c+1) d p:=
 ⟨h.dn,fun t ht=>by have:=h.pc t ht;omega,h.up,h.one,fun i j hi dm hj=>by
  by_cases sF:j=c
  ·subst sF;exact hz i hi dm
  ·exact h.zero i j hi dm (by omega)⟩
def oM (R:Mx) (c d i0:Nat):Mx:=elimM (fun i=>gW (ew R d i0) d (iu (ew R d i0 d c)) i c) d (gW (ew R d i0) d (iu (ew R d i0 d c)))
theorem Ua (h:RE n A R) (hd:d<n) (hi:i0<n):RE n A (oM R c d i0):=((h.swap hd hi).scale hd (T4 _)).elim hd
theorem Ub (h:qi n R c d p) (h0:d<=i0) (hi:i0<n) (aJ:R i0 c≠0):qi n (oM R c d i0) (c+1) (d+1) fun t=>if t<d then p t else c:=by
 have Uc:ew R d i0 d c=R i0 c:=by unfold ew;rw [acN rfl]
 have lO:d<n:=by omega
 -- rows from d on GF 0 at places done
 have aZ:∀t i,t<d->d<=i->i<n->R i (p t)=0:=fun t i ht vh dm=>by rw [h.one t i ht dm,acL (by omega)]
 have sw:∀i j,(∀k,d<=k->k<n->R k j=0)->i<n->ew R d i0 i j=R i j:=fun i j hz dm=>by
  unfold ew
  by_cases h1:i=d
  ·rw [acN h1,hz i0 h0 hi,h1,hz d (acV d) lO]
  ·by_cases h2:i=i0
   ·rw [acL h1,acN h2,hz d (acV d) lO,h2,hz i0 h0 hi]
   ·rw [acL h1,acL h2]
 have sc:∀i j,(∀k,d<=k->k<n->R k j=0)->i<n->gW (ew R d i0) d (iu (ew R d i0 d c)) i j=R i j:=fun i j hz dm=>by
  unfold gW
  by_cases h1:i=d
  ·rw [acN h1,sw d j hz lO,hz d (acV d) lO,vj,h1,hz d (acV d) lO]
  ·rw [acL h1,sw i j hz dm]
 have el:∀i j,(∀k,d<=k->k<n->R k j=0)->i<n->oM R c d i0 i j=R i j:=fun i j hz dm=>by
  unfold oM
  generalize (fun i=>gW (ew R d i0) d (iu (ew R d i0 d c)) i c)=w
  unfold elimM
  by_cases h1:i=d
  ·rw [acN h1,sc d j hz lO,h1]
  ·rw [acL h1,sc i j hz dm,sc d j hz lO,hz d (acV d) lO,kP,UInt8.xor_zero]
 have pc:gW (ew R d i0) d (iu (ew R d i0 d c)) d c=1:=by
  show (if d=d then aW (ew R d i0 d c) (iu (ew R d i0 d c)) else _)=1
  rw [acN rfl,Uc,Iw _ aJ]
 have IC:∀i,i<n->oM R c d i0 i c=if i=d then 1 else 0:=fun i dm=>by
  unfold oM elimM
  by_cases h1:i=d
  ·rw [acN h1,acN h1,pc]
  ·rw [acL h1,acL h1,pc,It,UInt8.xor_self]
 refine ⟨by omega,fun t ht=> ?_,fun s t fD ht=> ?_,fun t i ht dm=> ?_,fun i j vh dm hj=> ?_⟩
 ·split
  ·rename_i h1;have:=h.pc t h1;omega
  ·omega
 ·by_cases h1:t<d
  ·simp only [acN h1,acN (show s<d by omega)];exact h.up s t fD h1
  ·simp only [acL h1,acN (show s<d by omega)];exact h.pc s (by omega)
 ·by_cases h1:t<d
  ·simp only [acN h1]
   rw [el i (p t) (fun k hk bH=>aZ t k h1 hk bH) dm,h.one t i h1 dm]
  ·simp only [acL h1]
   rw [IC i dm,show t=d by omega]
 ·by_cases sF:j=c
  ·subst sF;rw [IC i dm,acL (by omega)]
  ·rw [el i j (fun k hk bH=>h.zero k j hk bH (by omega)) dm]
   exact h.zero i j (by omega) dm (by omega)
open Go.RowKit
section
variable {P:Program} {n k k0:Nat} {x:L3} {K:L3->Prop} {Q:Ex->L3->Prop} {R:List aL} {dep:List (List Nat)} {rs:List Rec} {hs:List (Option Nat)} {b:AC}
theorem yI (c:Nat) (live:List Nat) (x':L3) (hr:EL P n k0 b x' Q) (h:(runN n c (R.drop k) x).map (L3.cm live)=some x':=by kernel_rfl) (he:(R.drop (k+c)).isEmpty=true:=by kernel_rfl):OW P n k0 (R.drop k) x fun y=>EL P n k0 b y Q:=OW.last c live h he hr
theorem CZ (c:Nat) (live:List Nat) (x':L3) (hr:EL P n k0 b x' Q) (h:(runN n c (R.drop 0) x).map (L3.cm live)=some x':=by kernel_rfl) (he:(R.drop (0+c)).isEmpty=true:=by kernel_rfl):EL P n k0 (.seq (.cy R none) b) x Q:=EL.p9 (OW.last c live h he hr)
theorem Ud (c:Nat) (x':L3) (hr:OW P n k0 (R.drop (k+c)) x' K) (h:runN n c (R.drop k) x=some x':=by kernel_rfl):OW P n k0 (R.drop k) x K:=OW.run c h hr
theorem C0 (c:Nat) (x':L3) (hr:OW P n k0 (R.drop (0+c)) x' fun y=>EL P n k0 b y Q) (h:runN n c (R.drop 0) x=some x':=by kernel_rfl):EL P n k0 (.seq (.cy R none) b) x Q:=EL.p9 (OW.run c h hr)
theorem Ue {a:Arg} {y z:AC} (h:EL P n k0 z x Q) (hb:aQ (slot x.t) a= .v (.bool false):=by kernel_rfl):EL P n k0 (.cond a y z) x Q:=EL.HC hb h
theorem Uf {f:L3->Prop} (h:Q .ret x):EL P n k0 .ret x (Ex.u0 f Q):=EL.ret (tR h)
theorem pq {α:Type} {id:Nat} (sz:Nat) (f:α->List AV) (xs:List α) (h:look m id=some ⟨sz,xs.map f⟩:=by kernel_rfl) (hp:∀y,(f y).all AV.pu1=true:=by intro y;kernel_rfl):HE m id:=pu sz f xs h hp
end
open Go.RowKit
abbrev ut (i:Nat):iM:= .aZ i true
theorem Ug {res:List mC} (live:List Nat) (src:List iM) (y:L3) (hp:oH x.m src) (h:Cg k0 live src [] x=some y:=by kernel_rfl) (hr:(gT (slot y.t) res).run (look y.m)=some r:=by kernel_rfl) (hm:y.m=m':=by rfl):
  (Ex.ret= .normal\/Ex.ret= .ret)/\∃y:L3,x.s.Le k0 n y.s/\(gT (slot y.t) res).run (look y.m)=some r/\y.m=m':=⟨.inr rfl,y,norm_le h hp,hr,hm⟩
section
variable {x:L3} {res:List mC} {r':AV}
theorem Uh (r:AV) (he:r=r') (h:((gT (slot x.t) res).bind oG).run (look x.m)=some r:=by kernel_rfl):(Ex.ret= .normal\/Ex.ret= .ret)/\∃q,((gT (slot x.t) res).bind oG).run (look x.m)=some q/\cD q r':=⟨.inr rfl,r,h,cD.of_eq he⟩
end
theorem Ui (hF:cFunc P f=some F) (h:EL P F.n 0 F.code (start as_) fun e x=>(e= .normal\/e= .ret)/\∃r',((gT (slot x.t) F.res).bind oG).run (look x.m)=some r'/\cD r' r) (hl:as_.length<=F.n:=by exact ad8 (by kernel_rfl)):Fn P f as_ r:=fW hF hl h
section
variable {P:Program} {n k k0:Nat} {x:L3} {K:L3->Prop} {R:List aL}
theorem yJ {v:AV} {u:List (Nat×Option Bk)} {acc:List Nat} (x':L3) (h:fH (opD R k) x= .done v u acc) (hr:OW P n k0 (R.drop (k+1)) x' K) (hl:Nat.blt k R.length=true:=by kernel_rfl) (hx:(bif dstOK n (opD R k).dst&&upsOK x.m.length u then some (⟨nj x.t (opD R k).dst v,iq x.m u⟩:L3) else none)=some x':=by kernel_rfl):OW P n k0 (R.drop k) x K:=OW.mD hl h hx hr
end
section
variable {o:aL} {x:L3}
theorem Uj {α:Type} (f:α->List AV) (xs ys:List α) (s a:Arg) (sz by_ id:Nat) (w:AV) (hw:Src f sz (look x.m) w ys acc) (hb:(xs.length+ys.length)*by_<=140737488355328) (ho:o.ao= .app sz by_ s a:=by kernel_rfl) (hg:cx (slot x.t) o.guard=some true:=by kernel_rfl) (hs:aQ (slot x.t) s= .own id sz 0 xs.length:=by rfl) (hB:look x.m id=some ⟨sz,xs.map f⟩:=by kernel_rfl) (ha:aQ (slot x.t) a=w:=by rfl):
  fH o x= .done (.own x.m.length sz 0 (xs++ys).length) [(id,none),(x.m.length,some ⟨sz,(xs++ys).map f⟩)] (acc++[id]):=Pz f xs ys s a sz by_ id w acc ho hg hs hB ha hw hb
end
theorem aT {a:List AV} {b:List AV} {r:List AV} (h:eF a b) (t:eF r s):eF (.agg a::r) (.agg b::s):= .cons (cD.agg h) t
def pv:List UInt8->UInt8->UInt8
 |[],_=>0
 |c::r,x=>c^^^aW x (pv r x)
def kj:List UInt8->List UInt8->List UInt8
 |[],q=>q
 |p,[]=>p
 |a::p,b::q=>(a^^^b)::kj p q
theorem ID:∀(p q:List UInt8) (x:UInt8),pv (kj p q) x=pv p x^^^pv q x
 |[],q,x=>by simp [kj,pv]
 |a::p,[],x=>by simp [kj,pv]
 |a::p,b::q,x=>by simp only [kj,pv,ID p q x,qe];exact CS _ _ _ _
theorem IE:∀(p q:List UInt8),(kj p q).length=max p.length q.length
 |[],q=>by simp [kj]
 |a::p,[]=>by simp [kj]
 |a::p,b::q=>by simp only [kj,aey,IE p q];omega
def sy (a:UInt8):List UInt8->List UInt8
 |[]=>[]
 |[_]=>[]
 |_::d::r=>pv (d::r) a::sy a (d::r)
theorem IF (a:UInt8):∀p:List UInt8,(sy a p).length=p.length - 1
 |[]=>rfl
 |[_]=>rfl
 |_::d::r=>by have:=IF a (d::r);simp only [sy,aey] at *; omega
theorem IG (a x:UInt8):∀p:List UInt8,pv p x=aW (x^^^a) (pv (sy a p) x)^^^pv p a
 |[]=>by simp [pv,sy,kP]
 |[c]=>by simp [pv,sy,kP]
 |c::d::r=>by
  have ih:=IG a x (d::r)
  have e1:pv (c::d::r) x=c^^^aW x (pv (d::r) x):=rfl
  have e2:pv (c::d::r) a=c^^^aW a (pv (d::r) a):=rfl
  have e3:pv (sy a (c::d::r)) x=pv (d::r) a^^^aW x (pv (sy a (d::r)) x):=rfl
  rw [e1,e2,e3,ih]
  generalize pv (sy a (d::r)) x=q
  generalize pv (d::r) a=v
  rw [qe,qe,yF x a v]
  have e4:aW x (aW (x^^^a) q)=aW (x^^^a) (aW x q):=by rw [<-qg,qf x,qg]
  rw [e4]
  generalize aW (x^^^a) (aW x q)=s
  generalize aW x v=t
  generalize aW a v=u
  -- c ^ (s ^ t) = ((t ^ u) ^ s) ^ (c ^ u)
  rw [aeG s t]
  rw [show (t^^^u)^^^s^^^(c^^^u)=(t^^^s)^^^(u^^^(c^^^u)) by rw [ael t u s,aeG u s, <-ael t s u,ael (t^^^s)]]
  rw [show u^^^(c^^^u)=c by rw [aeG c u,CR],aeG]
theorem IH {a b:UInt8}:a^^^b=0↔a=b:=by
 constructor
 ·intro h
  have:=CR a b
  rw [h,UInt8.xor_zero] at this;exact this
 ·rintro rfl;exact UInt8.xor_self
theorem II (a:UInt8):∀p:List UInt8,(∀c,c∈sy a p->c=0)->pv p a=0->∀c,c∈p->c=0
 |[],_,_,c,h=>by simp at h
 |[b],_,h,c,hc=>by
  simp at hc;subst hc
  simpa [pv,kP] using h
 |b::d::r,hs,h,c,hc=>by
  have h1:pv (d::r) a=0:=hs _ (by simp [sy])
  have ih:=II a (d::r) (fun x hx=>hs x (by simp only [sy,acX];exact .inr hx)) h1
  have e:pv (b::d::r) a=b^^^aW a (pv (d::r) a):=rfl
  rw [e,h1,kP,UInt8.xor_zero] at h
  rcases acX.1 hc with rfl|hc
  ·exact h
  ·exact ih c hc
theorem IJ:∀(xs p:List UInt8),p.length<=xs.length->xs.Nodup->(∀x,x∈xs->pv p x=0)->∀c,c∈p->c=0
 |[],p,hl,_,_,c,hc=>by
  have:p=[]:=ad3 (by simpa using hl)
  subst this;simp at hc
 |a::xs,p,hl,hn,hr,c,hc=>by
  have ha:=hr a (by simp)
  refine II a p (IJ xs (sy a p) (by rw [IF];simp at hl;omega) (aeE.1 hn).2 fun b hb=> ?_) ha c hc
  have h1:=IG a b p
  rw [hr b (by simp [hb]),ha,UInt8.xor_zero] at h1
  rcases (T3 _ _).1 h1.symm with h2|h2
  ·have:b=a:=IH.1 h2
   subst this;exact absurd hb (aeE.1 hn).1
  ·exact h2
def td (p:List UInt8):Prop:=∀c,p.getLast? =some c->c≠0
theorem IM:∀{p q:List UInt8},td p->td q->(∀c,c∈kj p q->c=0)->p=q
 |[],[],_,_,_=>rfl
 |[],b::q,_,hq,h=>by
  exfalso
  have:kj [] (b::q)=b::q:=rfl
  rw [this] at h
  have hl:=List.getLast?_eq_some_getLast (l:=b::q) (by simp)
  exact hq _ hl (h _ (List.getLast_mem _))
 |a::p,[],hp,_,h=>by
  exfalso
  have:kj (a::p) []=a::p:=rfl
  rw [this] at h
  have hl:=List.getLast?_eq_some_getLast (l:=a::p) (by simp)
  exact hp _ hl (h _ (List.getLast_mem _))
 |a::p,b::q,hp,hq,h=>by
  simp only [kj,acX] at h
  have rB:a=b:=IH.1 (h _ (.inl rfl))
  have tail:∀{x:UInt8} {l:List UInt8},td (x::l)->td l:=fun {x l} ht c hc=>by
   cases l with
   |nil=>simp at hc
   |cons y r=>exact ht c (by rw [List.getLast?_cons_cons];exact hc)
  rw [rB,IM (tail hp) (tail hq) fun c hc=>h c (.inr hc)]
def bytes:List UInt8:=(List.range 256).map UInt8.ofNat
theorem told {p q xs:List UInt8} (hp:td p) (hq:td q) (lp:p.length<=xs.length) (lq:q.length<=xs.length) (hn:xs.Nodup) (h:∀x,x∈xs->pv p x=pv q x):p=q:=
 IM hp hq (IJ xs (kj p q) (by rw [IE];omega) hn fun x hx=>by rw [ID,h x hx,UInt8.xor_self])
end Go.Proofs.Ytboaekdecndckaa
